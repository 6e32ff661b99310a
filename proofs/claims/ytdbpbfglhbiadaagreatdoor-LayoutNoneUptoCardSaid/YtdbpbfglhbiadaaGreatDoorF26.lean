/- MSeq1 MFrz0 MSeq2 -/
import Derived.Test.YtdbpbfglhbiadaaGreatDoorF00
import Derived.Test.YtdbpbfglhbiadaaGreatDoorF25
import Derived.Test.YtdbpbfglhbiadaaGreatDoorF17
set_option maxHeartbeats 8000000
set_option maxRecDepth 100000
namespace Go.Proofs.YtdbpbfglhbiadaaGreatDoor
open Go Go.RowKit
def ye (P:Program) (H:List ah) (t:TypeId) (x y:Option XV):Option (Nat×ah):=match x,y.bind XV.cells,P.info? t with
 | some (.one (.ptr o off)),some ys,some i=>match H[o]? with
  | some (.cells ty cs)=>if i.size=ys.length/\off+ys.length<=cs.length then some (o,.cells ty (cs.take off++ys++cs.drop (off+ys.length))) else none
  | _=>none
 | some (.one (.elo o i sz off)),some ys,some j=>match H[o]? with
  | some (.row t e rs)=>if sz=ay.sz (El t)/\j.size=ys.length/\off+ys.length<=sz then(un t ((jV t (rs.reverse.getD i (zQ t))).take off++ys++(jV t (rs.reverse.getD i (zQ t))).drop (off+ys.length))).map λz=>(o,.row t e (rs.reverse.set i z).reverse) else none
  | _=>none
 | some (.one (.sub o o2 off)),some ys,some j=>match H[o]? with
  | some (.zip PK e t tn gw done cur rest)=>if o2=PK/\j.size=ys.length/\off+ys.length<=cur.length then some (o,.zip PK e t tn gw done (cur.take off++ys++cur.drop (off+ys.length)) rest) else none
  | _=>none
 | _,_,_=>none
def VC (P:Program) (H:List ah) (t:TypeId) (x y:Option XV):Option (List ah):=(ye P H t x y).map λp=>H.set p.1 p.2
def apS (ty:TypeId->Option Ty) (H:List ah) (e:TypeId):Option XV->Option (List ah×(y:Ty)×List (El y))
 | some (.one (.own o))=>match H[o]? with
  | some (.row y e' rs)=>if e'=e then some (H.set o .dead,⟨y,rs⟩) else none
  | _=>none
 | some (.one (.val (.slice none 0 0)))=>(ty e).map λy=>(H,⟨y,[]⟩)
 | some (.one (.mrow q kt k))=>match H[q]? with
  | some (.mr p jR t e' n f)=>match Kt.eq? kt jR with
   | some h=>if e'=e then some (H.set q (.mx p jR t e' n f (h.down▸k)),⟨t,(f (h.down▸k)).getD []⟩) else none
   | none=>none
  | _=>none
 | _=>none
def apY (H:List ah) (y:Ty) (x:Option XV):Option (List (El y)):=match x with
 | some (.one (.own o))=>match H[o]? with
  | some (.row y' _ rs)=>(j4 y (.list y' rs.reverse false))
  | _=>none
 | some (.one a)=>j4 y a
 | _=>none
def slI (P:Program) (t:TypeId):Option (TypeId×Nat×Nat):=match P.underlying t with
 | some (.slice e)=>(P.info? e).bind λi=>i.zero.bind λz=>if z.cells.size=i.size/\0<i.size then some (e,i.size,i.bytes) else none
 | _=>none
def E7 (P:Program) (ty:TypeId->Option Ty) (H:List ah) (t:TypeId) (s x:Option XV):T (List ah×(y:Ty)×TypeId×List (El y)):=match slI P t with
 | some (e,sz,bytes)=>match apS ty H e s with
  | some (H',⟨y,rs⟩)=>match apY H y x with
   | some ys=>if sz=ay.sz (El y) then .nd ((rs.length+ys.length)*(bytes+1)<=140737488355328) (.lf (H',⟨y,e,ys.reverse++rs⟩)) else .bad
   | none=>.bad
  | none=>.bad
 | none=>.bad
def adS (P:Program) (ty:TypeId->Option Ty) (H:List ah) (t:TypeId) (s x:Option XV):T (XV×List ah):=(E7 P ty H t s x).bind λr=>.lf (.one (.own H.length),r.1++[.row r.2.1 r.2.2.1 r.2.2.2])
section
variable {P:Program} {o:Oper} {cx:Cx} {bs aU:List Value} {w w':World} {S:Nat->Prop} {H:List ah} {m:Nat} {env:Env} {a:Act} {bW:Nat} {K:Act->World->Prop} {Q:Exit->Act->World->Prop}
theorem U5 {t:Ty} {cs:List Value} {x:El t} (h:ay.rep w S cs x):∀u∈cs,u.oneCell'=true:=λu hu=>by
 obtain⟨y,_,hy⟩:=(jg (bs:=[]) h).right u hu;exact hy.one
theorem RS.flatAt {t:Ty} {A:Option Addr} {n c:Nat} {ys:List (El t)} (h:RS w S A n c ys):∃ds,Flat w S ds ys/\(∀ad,A=some ad->bT w ad ds)/\∀u∈ds,u.oneCell'=true:=by
 have key:∀k,k<=n->∃ds,Flat w S ds (ys.take k)/\(∀ad,A=some ad->bT w ad ds)/\∀u∈ds,u.oneCell'=true:=by
  intro k;induction k with
  | zero=>intro _;exact⟨[],by simpa using Flat.nil,λad _ j u hj=>by simp at hj,λu hu=>by cases hu⟩
  | succ k ih=>
   intro hk;obtain⟨ds,h1,h2,h3⟩:=ih (by omega);obtain⟨b,p,x,cs,rfl,_,hx,hr,hc⟩:=h.at_ (k:=k) (by omega);refine⟨ds++cs,by rw[iz hx];exact .snoc h1 hr,λad e j u hj=>?_,λu hu=>?_⟩
   ·have hl:=h1.length;have bm:=h.len;rw[aa7,aef (by omega)] at hl;rw[List.getElem?_append] at hj;split at hj
    ·exact h2 ad e j u hj
    ·injection e with e
     subst e;have:=hc _ _ hj;have lO:(⟨b,p,none⟩:Addr).add j=⟨b,p+(k*ay.sz (El t)+(j-ds.length)),none⟩:=by
      have:k*ay.sz (El t)+(j-ds.length)=j:=by omega
      rw[this];unfold Addr.add;split<;>simp_all
     rw[lO];exact this
   ·rcases aaH.1 hu with hu|hu
    ·exact h3 u hu
    ·exact U5 hr u hu
 have:=key n (aam _)
 rwa [acR (by rw[h.len];exact aam _)] at this
theorem Flat.setN {α:Type} [ay α] {cs us:List Value} {xs:List α} {y:α} (h:Flat w S cs xs) (hu:ay.rep w S us y):∀{i:Nat},i<xs.length->Flat w S (cs.take (i*ay.sz α)++(us++cs.drop ((i+1)*ay.sz α))) (xs.set i y):=by
 induction h with
 | nil=>intro i hi;exact absurd hi (Nat.not_lt_zero _)
 | @snoc cs ds xs x hf hr ih=>
  intro i hi;have hl:=hf.length;have hd:=ay.len hr;by_cases hx:i<xs.length
  ·have h1:(i+1)*ay.sz α<=cs.length:=by rw[hl];exact acZ _ hx
   have h2:i*ay.sz α<=cs.length:=by rw[hl];exact acZ _ (Nat.le_of_lt hx)
   rw[List.set_append_left _ _ hx,ab7 h2,List.drop_append_of_le_length h1,<-aaR us,<-aaR];exact .snoc (ih hx) hr
  ·have e:i=xs.length:=by simp at hi;omega
   subst e;have h3:(cs++ds).length<=(xs.length+1)*ay.sz α:=by rw[aaj,hl,hd,Nat.add_mul,Nat.one_mul];exact aam _
   rw[act _ _ (aam _),aek,aaq h3,<-hl,ab7 (aam _),List.take_length,ack];exact .snoc hf hu
theorem Gg {cur ys:List Value} {N k l:Nat} (hl:ys.length=l) (h:k+l<=N) (hc:N<=cur.length):(cur.take k++ys++cur.drop (k+l)).take N=(cur.take N).take k++ys++(cur.take N).drop (k+l):=by
 have h1:(cur.take k++ys).length=k+l:=by rw[aaj,aa7,hl];omega
 rw[List.take_append,acR (by omega),h1,List.take_take,aef (by omega),List.drop_take]
theorem My {cs ds ys:List Value} {k sz off l:Nat} (hl:ys.length=l) (hd:ds.length=sz) (hc:∀j u,ds[j]?=some u->cs[k+j]?=some u) (ho:off+l<=sz):cs.take k++((ds.take off++ys++ds.drop (off+l))++cs.drop (k+sz))=cs.take (k+off)++ys++cs.drop (k+off+l):=by
 have e:(cs.drop k).take sz=ds:=by
  refine acS λj=>?_;by_cases hj:j<sz
  ·rw[List.getElem?_take_of_lt hj,acc];have:=hc j _ (aaa (by omega));rw[this,aaa (by omega)]
  ·rw[aaE (by rw[aa7];omega),aaE (by omega)]
 have h1:ds.take off=(cs.drop k).take off:=by rw[<-e,List.take_take,aef (by omega)]
 have h2:ds.drop (off+l)++cs.drop (k+sz)=cs.drop (k+off+l):=by
  have:cs.drop (k+sz)=(cs.drop k).drop sz:=by rw[aei]
  rw[this,<-List.drop_append_of_le_length (by omega)];conv=>lhs;rw[<-e]
  rw[List.take_append_drop,aei,ab5]
 rw[h1,aaR,aaR,h2,<-aaR,<-aaR,<-List.take_add]
theorem FD (hs:HS cx bs w S H) (he:ER m bs w S env a) {t:TypeId} {x y:Operand} (hop:o.op=.store t x y) (hd:o.dst=none) {p:Nat×ah} (h:ye P H t (ev env x) (ev env y)=some p) (hK:∀w',HS cx bs w' S (H.set p.1 p.2)->aw S w w'->K a w'):o.wp P a w K Q:=by
 unfold ye at h;split at h
 ·rename_i ob off ys i hx hy hi;split at h
  ·rename_i ty cs hH;split at h
   ·rename_i hc;injection h with h
    subst h;obtain⟨g,hg,hv⟩:=bO he hx;cases e:ev env y with
    | none=>rw[e] at hy;cases hy
    | some z=>
     rw[e] at hy;have Nf:=XV.cells_ok hy (bO he e);obtain⟨g',vs,e2,hk,hf⟩:=hs.o ob _ _ hH hg;injection e2 with e2
     injection e2 with e2
     injection e2 with e2
     subst e2;have hl:ys.length=(a.eval y).cells.size:=Nf.length.trans aaD;have hl2:=hf.length;have hr:=yo (P:=P) (t:=t) (v:=a.eval y) (k:=off) hk (by rw[hi];exact congrArg some (hc.1.trans hl)) (by have h1:vs.toArray.size=vs.length:=aa5;rw[h1];rw[hl] at hc;omega) (λu hu=>by
      obtain⟨q,_,hq⟩:=Nf.right u hu;exact hq.one)
     have hp:=Pr.setRow w g (vs.toArray.toList.take off++(a.eval y).cells.toList++vs.toArray.toList.drop (off+(a.eval y).cells.size)).toArray;have kC:cO (w.setRow g _) g ty _:=setRow_heap w g vs.toArray (vs.toArray.toList.take off++(a.eval y).cells.toList++vs.toArray.toList.drop (off+(a.eval y).cells.size)).toArray ty (0,0) hk;have bC:=hs.keeps hH hg hp.g;unfold Oper.wp execOp;simp only[hop,hv,Sem.run_bind,hr,Result.andThen_ok,Sem.run_pure,Oper.upon_skip,hd];refine hK _ (hs.set hH hg hp.g ⟨g,_,rfl,kC,?_⟩ (.inl rfl)) bC;have hf':=hf.mono (R':=VR bs (w.setRow g _) S) λ_ _ q=>q.keep (λ_ h=>h) bC (iC.refl _);have Xi:=Nf.mono (R':=VR bs (w.setRow g _) S) λ_ _ q=>q.keep (λ_ h=>h) bC (iC.refl _);rw[hl];exact((hf'.take off).append Xi).append (hf'.drop _)
   ·cases h
  ·cases h
 ·rename_i ob i sz off ys j hx hy hj;split at h
  ·rename_i ty e' rs hH;split at h
   ·rename_i hc;obtain⟨rfl,hc1,hc2⟩:=hc;cases hz:un ty ((jV ty (rs.reverse.getD i (zQ ty))).take off++ys++(jV ty (rs.reverse.getD i (zQ ty))).drop (off+ys.length)) with
    | none=>rw[hz] at h;cases h
    | some z=>
     rw[hz] at h;obtain rfl:=aad h;obtain⟨g,n,c,hg,dI,hv⟩:=bO he hx;cases e:ev env y with
     | none=>rw[e] at hy;cases hy
     | some z'=>
      rw[e] at hy;have Nf:=XV.cells_ok hy (bO he e);have hl:ys.length=(a.eval y).cells.toList.length:=Nf.length;have wo:(a.eval y).cells.toList.length=(a.eval y).cells.size:=aaD;have ho:Own (α:=El ty) w S 0 e' (.slice (some ⟨g,0,none⟩) n c) rs.reverse:=hs.o ob _ _ hH hg;obtain⟨A',n',c',Jh,hn⟩:=ho.slice;injection Jh with _ sx _
      subst sx;obtain⟨cs,q1,q2,q3⟩:=ho;have ia:rs.reverse[i]?=some (rs.reverse.getD i (zQ ty)):=by rw[aac,aaa (by omega)];rfl
      obtain⟨ds,hr,hcd⟩:=q2.get i _ ia;obtain⟨rY,h2⟩:=q1;rcases h2 with⟨jS,_⟩|⟨g',cap,cur,jS,jU,hh,Nv,P2,hcs,yY⟩
      ·cases jS
      injection jS with jS _ kf
      injection jS with jS
      injection jS with jS
      subst jS kf;have hk:cO w g e' cur:=hh;have NK:i*ay.sz (El ty)+off+ys.length<=n*ay.sz (El ty):=by
       have:(i+1)*ay.sz (El ty)<=n*ay.sz (El ty):=acZ _ dI;rw[Nat.add_mul,Nat.one_mul] at this;omega
      have UO:n*ay.sz (El ty)<=cur.size:=by rw[hcs,hn];exact acZ _ Nv
      have dV:=yo (P:=P) (t:=t) (v:=a.eval y) (k:=i*ay.sz (El ty)+off) hk (by rw[hj];exact congrArg some (hc1.trans (hl.trans wo))) (by omega) (λu hu=>by
       obtain⟨q,_,hq⟩:=Nf.right u hu;exact hq.one)
      have hp:=Pr.setRow w g (cur.toList.take (i*ay.sz (El ty)+off)++(a.eval y).cells.toList++cur.toList.drop (i*ay.sz (El ty)+off+(a.eval y).cells.size)).toArray;have kC:cO (w.setRow g _) g e' _:=setRow_heap w g cur (cur.toList.take (i*ay.sz (El ty)+off)++(a.eval y).cells.toList++cur.toList.drop (i*ay.sz (El ty)+off+(a.eval y).cells.size)).toArray e' (0,0) hk;have bC:=hs.keeps hH hg hp.g;unfold Oper.wp execOp;simp only[hop,hv,Sem.run_bind,dV,Result.andThen_ok,Sem.run_pure,Oper.upon_skip,hd];refine hK _ (hs.set hH hg hp.g ?_ (.inl rfl)) bC;have lM:ay.rep w S (ds.take off++(a.eval y).cells.toList++ds.drop (off+ys.length)) z:=jr hz (((jg hr).take off |>.append Nf).append ((jg hr).drop _));have hF:=(q2.setN lM (i:=i) (by omega)).keep (λ_ h=>h) bC;have hds:=ay.len hr;rw[Nat.add_mul,Nat.one_mul,My (by rw[<-hl]) hds hcd hc2] at hF;show Own (α:=El ty) _ S 0 e' _ (rs.reverse.set i z).reverse.reverse;rw[aag];refine⟨_,?_,hF,λb q=>⟨aay (hs.s b q).1 hp.g.size,(q3 b q).2⟩⟩;rw[aaJ,<-hn];have ac5:cur.toList.length=cur.size:=aaD;have qF:=Gg (cur:=cur.toList) (ys:=(a.eval y).cells.toList) (N:=n*ay.sz (El ty)) (k:=i*ay.sz (El ty)+off) hl.symm NK (by omega);rw[<-hn,] at yY;rw[yY] at qF;refine⟨?_,.inr ⟨g,c,_,rfl,jU,kC,by rw[hn];exact Nv,P2,?_,?_⟩⟩
      ·rw[<-qF,aa7];simp only[aaj,aa7,acP];omega
      ·rw[aa5];simp only[aaj,aa7,acP];omega
      ·rw[<-qF,<-wo,<-hl]
   ·cases h
  ·cases h
 ·rename_i ob o2 off ys j hx hy hj;split at h
  ·rename_i PK e' ty tn gw done cur0 rest hH;split at h
   ·rename_i hc;obtain⟨rfl,hc1,hc2⟩:=hc;injection h with h
    subst h;obtain⟨g,p,hg2,hv⟩:=bO he hx;cases e:ev env y with
    | none=>rw[e] at hy;cases hy
    | some z'=>
     rw[e] at hy;have Nf:=XV.cells_ok hy (bO he e);have hl:ys.length=(a.eval y).cells.toList.length:=Nf.length;have wo:(a.eval y).cells.toList.length=(a.eval y).cells.size:=aaD;have hob:ob<bs.length:=by rw[hs.len];exact(aab.1 hH).1
     have hg:=aaa hob;have ahL:=hs.o ob _ _ hH hg;obtain⟨bq,n,c,r,hvo,Nq,ho,hz,hr,rY⟩:=La hs hH hg hg2;have hd:done.length<bq.length:=(aab.1 hr).1;have hf:=(hz.2 _ _ hr).2.1 rfl;have xu:r.cells.length=ay.sz (El ty):=r.len;have ac6:cur0.length=ay.sz (El ty):=hf.length.trans xu;obtain⟨cs,q1,q2,q3⟩:=ho;obtain⟨aih,h2⟩:=q1;rw[hvo] at h2;rcases h2 with⟨jS,_⟩|⟨g',cap,cur,jS,jU,hh,Nv,P2,hcs,yY⟩
     ·cases jS
     injection jS with jS hn kf
     injection jS with jS
     injection jS with jS
     subst jS kf hn;have iL:ay.sz (jj (ay.sz (El ty)))=ay.sz (El ty):=rfl;rw[iL] at aih hcs yY;have hk:cO w g e' cur:=hh;subst Nq;have NK:done.length*ay.sz (El ty)+off+ys.length<=bq.length*ay.sz (El ty):=by
      have:(done.length+1)*ay.sz (El ty)<=bq.length*ay.sz (El ty):=acZ _ hd;rw[Nat.add_mul,Nat.one_mul] at this;omega
     have UO:bq.length*ay.sz (El ty)<=cur.size:=by rw[hcs];exact acZ _ Nv
     have dV:=yo (P:=P) (t:=t) (v:=a.eval y) (k:=done.length*ay.sz (El ty)+off) hk (by rw[hj];exact congrArg some (hc1.trans (hl.trans wo))) (by omega) (λu hu=>by
      obtain⟨q,_,hq⟩:=Nf.right u hu;exact hq.one)
     have hp:=Pr.setRow w g (cur.toList.take (done.length*ay.sz (El ty)+off)++(a.eval y).cells.toList++cur.toList.drop (done.length*ay.sz (El ty)+off+(a.eval y).cells.size)).toArray;have kC:cO (w.setRow g _) g e' _:=setRow_heap w g cur (cur.toList.take (done.length*ay.sz (El ty)+off)++(a.eval y).cells.toList++cur.toList.drop (done.length*ay.sz (El ty)+off+(a.eval y).cells.size)).toArray e' (0,0) hk;have pn:bk (.zip o2 e' ty tn gw done cur0 rest) bs[ob]=some g:=by rw[hvo];rfl
     have hpg:w.grownBy (w.setRow g (cur.toList.take (done.length*ay.sz (El ty)+off)++(a.eval y).cells.toList++cur.toList.drop (done.length*ay.sz (El ty)+off+(a.eval y).cells.size)).toArray) (bk (.zip o2 e' ty tn gw done cur0 rest) bs[ob]):=by rw[pn];exact hp.g
     have bC:=hs.keeps hH hg hpg;unfold Oper.wp execOp;simp only[hop,hv,Sem.run_bind,dV,Result.andThen_ok,Sem.run_pure,Oper.upon_skip];rw[‹o.dst=none›];refine hK _ (hs.set hH hg hpg ?_ (.inl rfl)) bC;have Xi:F2 (VR bs w S) (cur0.take off++ys++cur0.drop (off+ys.length)) (r.cells.take off++(a.eval y).cells.toList++r.cells.drop (off+ys.length)):=((hf.take off).append Nf).append (hf.drop _);have Ev:(r.cells.take off++(a.eval y).cells.toList++r.cells.drop (off+ys.length)).length=ay.sz (El ty):=by
      simp only[aaj,aa7,acP];omega
     have hF:=(q2.setN (y:=(⟨_,Ev⟩:jj (ay.sz (El ty)))) rfl (i:=done.length) hd).keep (λ_ h=>h) bC;obtain⟨ds,hds,hcd⟩:=q2.get _ _ hr;have hds:ds=r.cells:=hds;subst hds;rw[iL] at hF hcd;rw[Nat.add_mul,Nat.one_mul,My (by rw[<-hl]) xu hcd (by rw[ac6] at hc2;exact hc2)] at hF;obtain⟨_,_,_,hl2,u,qD,pY,hu3⟩:=ahL;refine⟨bq.set done.length ⟨_,Ev⟩,?_,⟨by rw[aaJ];exact hz.1,λj r' iV=>?_⟩,hl2,u,qD,pY,hu3⟩
     ·rw[hvo];refine⟨_,?_,hF,λb q=>⟨aay (hs.s b q).1 hp.g.size,by rw[<-hvo];exact(q3 b q).2⟩⟩;rw[aaJ];have ac5:cur.toList.length=cur.size:=aaD;have qF:=Gg (cur:=cur.toList) (ys:=(a.eval y).cells.toList) (N:=bq.length*ay.sz (El ty)) (k:=done.length*ay.sz (El ty)+off) hl.symm NK (by omega);rw[yY] at qF;refine⟨?_,.inr ⟨g,c,_,rfl,jU,kC,Nv,P2,?_,?_⟩⟩
      ·rw[iL,<-qF,aa7];simp only[aaj,aa7,acP];omega
      ·rw[iL,aa5];simp only[aaj,aa7,acP];omega
      ·rw[iL,<-qF,<-wo,<-hl]
     ·by_cases ej:j=done.length
      ·subst ej;rw[aat hd] at iV;obtain rfl:=aad iV;exact⟨λx hx=>absurd (aab.1 hx).1 (acM _),λ_=>Xi.mono λ_ _ q=>q.keep (λ_ h=>h) bC (iC.refl _),λq=>absurd q (acM _)⟩
      ·rw[aan (acj ej)] at iV;obtain⟨z1,z2,z3⟩:=hz.2 j r' iV;exact⟨λx hx=>ay.keep (z1 x hx) (λ_ h=>h) bC,λq=>absurd q ej,λq=>ay.keep (z3 q) (λ_ h=>h) bC⟩
   ·cases h
  ·cases h
 ·cases h
theorem Qr (hs:HS cx bs w S H) (he:ER m bs w S env a) {t:TypeId} {x y:Operand} (hop:o.op=.store t x y) (hd:o.dst=none) {H':List ah} (h:VC P H t (ev env x) (ev env y)=some H') (hK:∀w',HS cx bs w' S H'->aw S w w'->K a w'):o.wp P a w K Q:=by
 unfold VC at h;cases hp:ye P H t (ev env x) (ev env y) with
 | none=>rw[hp] at h;cases h
 | some p=>
  rw[hp] at h;obtain rfl:=aad h;exact FD hs he hop hd hp hK
theorem Hg (hs:HS cx bs w S H) (he:ER m bs w S env a) {ty:TypeId->Option Ty} {t:TypeId} {s x:Operand} (hop:o.op=.call { callee:=.builtin .append,args:=#[s,x],argTypes:=#[t,t] }) {r:List ah×(y:Ty)×TypeId×List (El y)} (h:(E7 P ty H t (ev env s) (ev env x)).hit r) (hK:∀v w',HS cx bs w' S r.1->r.1.length=H.length->(∀i:Nat,H[i]?=some ah.dead->r.1[i]?=some ah.dead)->aw S w w'->Own (α:=El r.2.1) w' S 0 r.2.2.1 v r.2.2.2.reverse->(∀b,v.ownBlock=some b->(cx.w0.heap.size<=b\/cx.M b)/\¬S b/\∀(i:Nat) (z:ah) (u:Value),r.1[i]?=some z->bs[i]?=some u->¬Bk z u b)->K (a.put o.dst v) w'):o.wp P a w K Q:=by
 unfold E7 at h;split at h
 ·rename_i e sz bytes eX;split at h
  ·rename_i H' y rs oB;split at h
   ·rename_i ys hY;split at h
    ·rename_i iL;obtain⟨hn,h⟩:=h;have h:(_,_)=r:=h;subst h;have hty:fC P t e (ay.sz (El y)) bytes:=by
      unfold slI at eX;cases hu:P.underlying t with
      | none=>rw[hu] at eX;cases eX
      | some d=>
       rw[hu] at eX;cases d with
       | slice e'=>
        have eX:((P.info? e').bind λi=>i.zero.bind λz=>if z.cells.size=i.size/\0<i.size then some (e',i.size,i.bytes) else none)=some (e,sz,bytes):=eX;cases hi:P.info? e' with
        | none=>rw[hi] at eX;cases eX
        | some i=>
         rw[hi] at eX;have eX:(i.zero.bind λz=>if z.cells.size=i.size/\0<i.size then some (e',i.size,i.bytes) else none)=some (e,sz,bytes):=eX;cases hz:i.zero with
         | none=>rw[hz] at eX;cases eX
         | some z=>
          rw[hz] at eX;have eX:(if z.cells.size=i.size/\0<i.size then some (e',i.size,i.bytes) else none)=some (e,sz,bytes):=eX;split at eX
          ·rename_i hc;injection eX with eX
           injection eX with e1 eX
           injection eX with e2 e3
           subst e1;exact⟨hu,⟨i,z,hi,hz,by omega,e3,by omega⟩,by omega⟩
          ·cases eX
       | _=>cases eX
     have zO:∀b,S b->b<w.heap.size:=λb q=>(hs.s b q).1;have gn:Own (α:=El y) w S 0 e (a.eval s) rs.reverse/\∃Hd,Hd=H'/\((∃(i:Nat) (X Y:ah) (u:Value),X≠.dead/\bs[i]?=some u/\H[i]?=some X/\Hd=H.set i Y/\(∀c,Bk Y u c->Bk X u c)/\(∀c,(a.eval s).ownBlock=some c->Bk X u c/\¬Bk Y u c)/\∀w',w.grownBy w' (a.eval s).ownBlock->aw S w w'->OR bs w' S Y u)\/((a.eval s).ownBlock=none/\Hd=H)):=by
      unfold apS at oB;split at oB
      ·rename_i ob hx;split at oB
       ·rename_i y' e' rs' hH;split at oB
        ·rename_i ee;injection oB with oB
         injection oB with q1 q2
         injection q2 with q2 q3
         subst q2;have q3:=eq_of_heq q3;subst q3 ee;obtain⟨hb,A,n,c,hv⟩:=bO he hx;exact⟨hs.o ob _ _ hH hb,_,rfl,.inl ⟨ob,_,.dead,_,(λe=>by cases e),hb,hH,q1.symm,(λ_ h=>by cases h),(λc hc=>⟨hc,λh=>by cases h⟩),λ_ _ _=>trivial⟩⟩
        ·cases oB
       ·cases oB
      ·rename_i hx;cases hte:ty e with
       | none=>rw[hte] at oB;cases oB
       | some y'=>
        rw[hte] at oB;injection oB with oB
        injection oB with q1 q2
        injection q2 with q2 q3
        subst q2;have q3:=eq_of_heq q3;subst q3;have hv:=(bO he hx).1;rw[hv];exact⟨Own.nil' w S zO 0 e,_,rfl,.inr ⟨rfl,q1.symm⟩⟩
      ·rename_i q kt k hx;split at oB
       ·rename_i p jR t' e' n f hH;split at oB
        ·rename_i hk _;obtain⟨rfl⟩:=hk;split at oB
         ·rename_i ee;injection oB with oB
          injection oB with q1 q2
          injection q2 with q2 q3
          subst q2;have q3:=eq_of_heq q3;subst q3 ee;obtain⟨b,l,hb,hv,eX⟩:=bO he hx;have kj:=hs.o q _ _ hH hb;obtain⟨gn,lK⟩:=sJ.row zO kj hv;exact⟨gn,_,rfl,.inl ⟨q,_,.mx p kt t' e' n f k,_,(λe=>by cases e),hb,hH,q1.symm,(λc hc=>vB.weak hc),lK,λw' hg hk=>sJ.out kj hg hk (λb q=>⟨aay (zO b q) hg.size,λhc=>(hs.nw _ _ _ b hH hb (vB.weak hc)).2 q⟩) λc hc=>(lK c hc).2⟩⟩
         ·cases oB
        ·cases oB
       ·cases oB
      ·cases oB
     obtain⟨gn,Hd,rfl,hd⟩:=gn;have hys:∃A n c ds,a.eval x=.slice A n c/\n=ys.length/\Flat w S ds ys/\(∀ad,A=some ad->bT w ad ds)/\(∀u∈ds,u.oneCell'=true)/\(A=none->n=0):=by
      have fromV:∀{b:AV},j4 y b=some ys->VR bs w S b (a.eval x)->∃A n c ds,a.eval x=.slice A n c/\n=ys.length/\Flat w S ds ys/\(∀ad,A=some ad->bT w ad ds)/\(∀u∈ds,u.oneCell'=true)/\(A=none->n=0):=by
       intro b hu hv;obtain⟨A,n,c,e1,hr⟩:=mW (t:=.list y) hu hv;injection e1 with e1
       obtain⟨ds,q1,q2,q3⟩:=hr.flatAt;refine⟨A,n,c,ds,e1,hr.len.symm,q1,q2,q3,λhA=>?_⟩;rcases adg n with h0|h0
       ·exact h0
       ·obtain⟨_,_,_,h3⟩:=hr;obtain⟨_,_,e,_⟩:=h3 h0;rw[hA] at e;cases e
      unfold apY at hY;split at hY
      ·rename_i ob hx;split at hY
       ·rename_i y' e' rs' hH;obtain⟨hb,A,n,c,hv⟩:=bO he hx;unfold j4 at hY;simp only at hY;split at hY
        ·rename_i q hq;injection hY with hY
         obtain⟨q⟩:=q;subst q hY;have ho:Own (α:=El y') w S 0 e' (a.eval x) rs'.reverse:=hs.o ob _ _ hH hb;obtain⟨ds,⟨_,h2⟩,hf,_⟩:=ho;rcases h2 with⟨jS,hn0⟩|⟨g,cap,cur,jS,_,hg,Nv,_,yY,qE⟩
         ·have:rs'.reverse=[]:=aaw hn0;rw[this] at hf ⊢;exact⟨none,0,0,[],jS,rfl,.nil,(λad e=>by cases e),(λu hu=>by cases hu),λ_=>rfl⟩
         ·refine⟨_,_,_,ds,jS,rfl,hf,?_,?_,λe=>by cases e⟩
          ·rintro ad e j u hj;injection e with e
           subst e;have lO:(⟨g,0,none⟩:Addr).add j=⟨g,j,none⟩:=by unfold Addr.add;split<;>simp_all
           rw[lO,(show cO w g e' cur from hg).cell];rw[<-qE,acf] at hj;split at hj
           ·simpa using hj
           ·cases hj
          ·clear yY qE;intro u hu;have:∀{ds:List Value} {xs:List (El y')},Flat w S ds xs->∀u∈ds,u.oneCell'=true:=by
            intro ds xs hf;induction hf with
            | nil=>intro u hu;cases hu
            | snoc _ hr ih=>
             intro u hu;rcases aaH.1 hu with hu|hu
             ·exact ih u hu
             ·exact U5 hr u hu
           exact this hf u hu
        ·cases hY
       ·cases hY
      ·rename_i b _ hx;exact fromV hY (bO he hx)
      ·cases hY
     obtain⟨A,n,c,ds,hx,Ev,xv,aij,Sd,ahR⟩:=hys;have bm:(rs.reverse.length+ys.length)*(bytes+1)<=140737488355328:=by rw[aak];exact hn
     have fin:∀v' w',Own (α:=El y) w' S 0 e v' (rs.reverse++ys)->w.grownBy w' (a.eval s).ownBlock->(v'.ownBlock=(a.eval s).ownBlock\/v'.ownBlock=some w.heap.size)->K (a.put o.dst v') w':=by
      intro v' w' q1 q2 q3;have bC:aw S w w':=aw.of_row q2 λb q=>⟨zO b q,λe=>(Own.apart gn b q).2 e⟩;have jU:HS cx bs w' S Hd/\∀b,v'.ownBlock=some b->(cx.w0.heap.size<=b\/cx.M b)/\¬S b/\∀(i:Nat) (z:ah) (u:Value),Hd[i]?=some z->bs[i]?=some u->¬Bk z u b:=by
       have lM:∀{Hx:List ah},(∀(i:Nat) (z:ah),Hx[i]?=some z->z=.dead\/H[i]?=some z)->∀b,b=w.heap.size->(cx.w0.heap.size<=b\/cx.M b)/\¬S b/\∀(i:Nat) (z:ah) (u:Value),Hx[i]?=some z->bs[i]?=some u->¬Bk z u b:=by
        rintro Hx hm b rfl;refine⟨.inl hs.size,λq=>acM _ (zO _ q),λi z u hz hu e=>?_⟩;rcases hm i z hz with rfl|hz
        ·cases e
        ·exact acM _ ((hs.o i z u hz hu).lt e)
       rcases hd with⟨i,X,Y,u0,hXd,hb,hH,rfl,hXY,lK,hYo⟩|⟨Km,rfl⟩
       ·have Si:=(aab.1 hH).1;have hmm:∀(j:Nat) (z:ah),(H.set i Y)[j]?=some z->(j=i/\z=Y)\/(j≠i/\H[j]?=some z):=by
         intro j z hz;by_cases e:j=i
         ·subst e;rw[aat Si] at hz;exact .inl ⟨rfl,(aad hz).symm⟩
         ·rw[aan (acj e)] at hz;exact .inr ⟨e,hz⟩
        refine⟨hs.setB hH hb q2 (λc hc=>(lK c hc).1) (hYo w' q2 bC) hXY,λb fF=>?_⟩;rcases q3 with q3|q3
        ·rw[q3] at fF;refine⟨(hs.nw i _ _ b hH hb (lK b fF).1).1,(hs.nw i _ _ b hH hb (lK b fF).1).2,λj z u hz hu e=>?_⟩;rcases hmm j z hz with⟨rfl,rfl⟩|⟨e2,hz⟩
         ·rw[hb] at hu;obtain rfl:=aad hu;exact(lK b fF).2 e
         ·exact hs.ap i j _ _ _ _ b (acj e2) hH hb hz hu (lK b fF).1 e
        ·rw[q3] at fF;obtain rfl:=aad fF;refine⟨.inl hs.size,λq=>acM _ (zO _ q),λj z u hz hu e=>?_⟩;rcases hmm j z hz with⟨rfl,rfl⟩|⟨_,hz⟩
         ·rw[hb] at hu;obtain rfl:=aad hu;exact acM _ ((hs.o _ _ _ hH hb).lt (hXY _ e))
         ·exact acM _ ((hs.o j z u hz hu).lt e)
       ·rw[Km] at q2;have bH:Below w.heap.size w w':=⟨q2.os,q2.tape,q2.output,q2.size,λb hb=>q2.block b hb (by simp)⟩;refine⟨hs.grow bH (λ_ h=>h) (λ_ h=>.inl h),λb fF=>?_⟩;rcases q3 with q3|q3
        ·rw[q3,Km] at fF;cases fF
        ·rw[q3] at fF;exact lM (λ_ _ h=>.inr h) b (aad fF).symm
      obtain⟨bS,bH⟩:=jU;have hHl:Hd.length=H.length:=by rcases hd with⟨i,_,_,_,_,_,_,rfl,_⟩|⟨_,rfl⟩<;>simp
      refine hK v' w' bS hHl (λi=>?_) bC (by show Own (α:=El y) w' S 0 e v' (ys.reverse++rs).reverse;rw[List.reverse_append,aag];exact q1) bH;rcases hd with⟨j,X,Y,_,hXd,_,hH,rfl,_⟩|⟨_,rfl⟩
      ·intro hi;have e:j≠i:=λe=>by subst e;rw[hH] at hi;exact hXd (aad hi)
       rw[aan e];exact hi
      ·exact λh=>h
     cases A with
     | some ad=>exact nI (α:=El y) s x t hop bytes hty rfl gn ad n c ds ys hx Ev xv (aij ad rfl) Sd bm (aaS _) λv' w' q1 q2 q3=>fin v' w' q1 q2 q3
     | none=>
      have hn0:=ahR rfl;subst hn0;have hy:ys=[]:=aaw Ev.symm;subst hy;have Nr:=gn;obtain⟨cs,oL,_,_⟩:=Nr;obtain⟨i,z,hi,_⟩:=hty.info;have ke:=iJ (P:=P) (ty:=o.type) hty.under hi oL c;unfold Oper.wp;simp[execOp,hop,resolve,invoke,builtin,hx,ke,Result.andThen];exact fin _ _ (by rw[ack];exact gn) ⟨rfl,rfl,rfl,aam _,λ_ _ _=>rfl⟩ (.inl rfl)
    ·exact h.elim
   ·exact h.elim
  ·exact h.elim
 ·exact h.elim
theorem Tu (hs:HS cx bs w S H) (he:ER m bs w S env a) {ty:TypeId->Option Ty} {t:TypeId} {s x:Operand} (hop:o.op=.call { callee:=.builtin .append,args:=#[s,x],argTypes:=#[t,t] }) {r:XV×List ah} (h:(adS P ty H t (ev env s) (ev env x)).hit r) (hK:∀v w' aU,HS cx aU w' S r.2->aw S w w'->iC bs aU->XR aU w' S r.1 v->K (a.put o.dst v) w'):o.wp P a w K Q:=by
 obtain⟨q,h1,h2⟩:=T.hit_bind h;have h2:(XV.one (.own H.length),q.1++[ah.row q.2.1 q.2.2.1 q.2.2.2])=r:=h2;subst h2;refine Hg hs he hop h1 λv w' bS hHl _ bC gn bH=>?_;have Np:=bS.pad;have hj:(q.1++[ah.dead])[q.1.length]?=some .dead:=by rw[aaf (aam _)];simp
 have uz:(bs++[undef])[q.1.length]?=some undef:=by rw[<-bS.len,aaf (aam _)];simp
 have iW:=Np.fill (x:=.row q.2.1 q.2.2.1 q.2.2.2) (v:=v) hj uz rfl gn (λb fF=>⟨(bH b fF).1,(bH b fF).2.1,λi z u hz hu e=>by
  by_cases hi:i<q.1.length
  ·rw[aai hi] at hz;rw[aai (by rw[bS.len];exact hi)] at hu;exact(bH b fF).2.2 i z u hz hu e
  ·have:z=.dead:=by
    have h1:=(aab.1 hz).1;have e2:i=q.1.length:=by simp at h1;omega
    subst e2;rw[hj] at hz;exact(aad hz).symm
   subst this;cases e⟩)
 have pf:(q.1++[ah.dead]).set q.1.length (.row q.2.1 q.2.2.1 q.2.2.2)=q.1++[.row q.2.1 q.2.2.1 q.2.2.2]:=by
  rw[act _ _ (aam _)];simp
 have xt:(bs++[undef]).set q.1.length v=bs++[v]:=by
  rw[<-bS.len,act _ _ (aam _)];simp
 rw[pf,xt] at iW;obtain⟨A',n',c',Jh,_⟩:=gn.slice;refine hK v w' (bs++[v]) iW bC (mM _ _) ⟨?_,A',n',c',Jh⟩;rw[<-hHl,<-bS.len,aaf (aam _)];simp
end
def zg (i:Nat) (x:AV):AV->AV
 | .own o=>bif o==i then x else .own o
 | .mp o=>bif o==i then x else .mp o
 | a=>a
def adp (i:Nat) (x:AV):XV->XV
 | .one a=>.one (zg i x a)
 | .agg cs=>.agg (cs.map (zg i x))
 | .tup l=>.tup (l.map λp=>(p.1,p.2.map (zg i x)))
def SE (i:Nat) (x:AV):ah->ah
 | .cells ty cs=>.cells ty (cs.map (zg i x))
 | .zip o2 e t tn gw done cur rest=>.zip o2 e t tn gw done (cur.map (zg i x)) rest
 | y=>y
def SF (i:Nat) (st:dw):dw:=match (st.heap[i]?).bind jp with
 | some x=>⟨st.env.map λp=>(p.1,adp i x p.2),(st.heap.set i .dead).map (SE i x)⟩
 | none=>st
def Yr:List AV->dw->dw
 | [],st=>st
 | c::l,st=>Yr l (match lD c with
  | some i=>SF i st
  | none=>st)
def ze (st:dw) (t:Nat):dw:=match st.env.lookup t with
 | some (.one (.own i))=>SF i st
 | some (.one (.mp i))=>SF i st
 | some (.agg cs)=>Yr cs st
 | _=>st
section
variable {m:Nat} {cx:Cx} {st:dw} {a:Act} {w:World}
theorem uI {i:Nat} (h:eO m cx st a w):eO m cx (SF i st) a w:=by
 unfold SF;split
 ·rename_i x ia;obtain⟨Y,hi,hx⟩:=Option.bind_eq_some_iff.1 ia;obtain⟨bs,S,hs,he⟩:=h;have Ko:i<bs.length:=by rw[hs.len];exact(aab.1 hi).1
  obtain⟨v,hv⟩:∃v,bs[i]?=some v:=⟨_,aaa Ko⟩;have ho:=hs.o i _ v hi hv
  let S':Nat->Prop:=λb=>S b\/Bk Y v b
  have oB:∀b,S' b->b<w.heap.size:=λb q=>q.elim (λq=>(hs.s b q).1) λq=>ho.lt q;have vr:∀{y:AV} {u:Value},VR bs w S y u->VR bs w S' (zg i x y) u:=by
   intro y u hy;have up:VR bs w S' y u:=hy.keep (λ_ h=>.inl h) (aw.refl _ _) (iC.refl _);have one:∀o,lD y=some o->zg i x y=(bif o==i then x else y)->VR bs w S' (zg i x y) u:=by
    intro o oL e;rw[e];by_cases lL:o=i
    ·subst lL;rw[beq_self_eq_true];have hb:=tP hy oL;rw[hv] at hb;obtain rfl:=aad hb;exact sX ho hx (λ_ h=>.inl h) λ_ h=>.inr h
    ·rw[beq_eq_false_iff_ne.2 lL];exact up
   cases y with
   | own o=>exact one o rfl rfl
   | mp o=>exact one o rfl rfl
   | _=>exact up
  have cr:∀{ag:Bool} {cs:List AV} {u:Value},CR bs w S ag cs u->CR bs w S' ag (cs.map (zg i x)) u:=by
   intro ag cs u hc;unfold CR at hc ⊢;cases ag with
   | true=>obtain⟨vs,e,h⟩:=hc;exact⟨vs,e,h.mapL λ_ _ _ h=>vr h⟩
   | false=>obtain⟨a,rfl,h⟩:=hc;exact⟨_,rfl,vr h⟩
  have xr:∀{z:XV} {u:Value},XR bs w S z u->XR bs w S' (adp i x z) u:=by
   intro z u hx;cases z with
   | one b=>exact vr hx
   | agg cs=>exact cr (ag:=true) hx
   | tup l=>obtain⟨vs,e,h⟩:=hx;exact⟨vs,e,h.mapL λ_ _ _ h=>cr h⟩
  have get:∀{j:Nat} {y:ah},((st.heap.set i .dead).map (SE i x))[j]?=some y->y=.dead\/(j≠i/\∃z,st.heap[j]?=some z/\y=SE i x z):=by
   intro j y hy;rw[acn] at hy;by_cases hj:j=i
   ·subst hj;rw[aat (by rw[<-hs.len];exact Ko)] at hy;exact .inl (aad hy).symm
   ·rw[aan (acj hj)] at hy;cases hz:st.heap[j]? with
    | none=>rw[hz] at hy;cases hy
    | some z=>rw[hz] at hy;exact .inr ⟨hj,z,rfl,(aad hy).symm⟩
  have bko:∀{z:ah} {u:Value} {b:Nat},Bk (SE i x z) u b->Bk z u b:=by
   intro z u b h;cases z with
   | cells ty cs=>cases u with
    | pointer p=>cases p<;>exact h
    | _=>exact h
   | _=>exact h
  have far:∀{j:Nat} {z:ah} {u:Value} {b:Nat},j≠i->st.heap[j]?=some z->bs[j]?=some u->Bk z u b->¬S' b:=λhj hz hu hb q=>q.elim (hs.nw _ _ _ _ hz hu hb).2 λq=>hs.ap _ i _ _ _ v _ hj hz hu hi hv hb q;refine⟨bs,S',⟨by rw[abm,aaJ];exact hs.len,?_,?_,?_,λb q=>⟨oB b q,?_⟩,λb q=>.inl (hs.s0 b q),hs.os,hs.tape,hs.output,hs.size,hs.old,hs.an⟩,he.d,he.s,λu x hx=>?_⟩
  ·intro j y u hy hu;rcases get hy with rfl|⟨hj,z,hz,rfl⟩
   ·exact trivial
   ·have kj:=hs.o j z u hz hu;have kp:=kj.keep (S':=S') (dR (Below.refl _ _) (aam _) none) (by simp) (aw.refl _ _) (λ_ h=>.inl h) (λb q=>⟨oB b q,λe=>far hj hz hu e q⟩) (iC.refl _);cases z with
    | cells ty cs=>obtain⟨g,vs,rfl,h1,h2⟩:=kj;exact⟨g,vs,rfl,h1,h2.mapL λ_ _ _ h=>vr h⟩
    | zip o2 e' t' KZ gw done cur rest=>
     obtain⟨bq,ho',hz',q⟩:=kp;obtain⟨abl,lL,gN,_⟩:=kj;refine⟨abl,?_,⟨gN.1,λj r hr=>?_⟩,q⟩
     ·refine Own.widen lL (λ_ h=>.inl h) λb q=>⟨oB b q,λe=>far hj hz hu e.symm q⟩
     ·obtain⟨z1,z2,z3⟩:=gN.2 j r hr;exact⟨λx hx=>ay.keep (z1 x hx) (λ_ h=>.inl h) (aw.refl _ _),λe=>(z2 e).mapL λ_ _ _ h=>vr h,λe=>ay.keep (z3 e) (λ_ h=>.inl h) (aw.refl _ _)⟩
    | _=>exact kp
  ·intro j k y y2 u v2 b hjk hy hu hz jS bS bH;rcases get hy with rfl|⟨_,z,eL,rfl⟩
   ·cases bS
   rcases get hz with rfl|⟨_,z2,gN,rfl⟩
   ·cases bH
   exact hs.ap j k z z2 u v2 b hjk eL hu gN jS (bko bS) (bko bH)
  ·intro j y u b hy hu hb;rcases get hy with rfl|⟨hj,z,eL,rfl⟩
   ·cases hb
   exact⟨(hs.nw j z u b eL hu (bko hb)).1,far hj eL hu (bko hb)⟩
  ·exact q.elim (λq=>(hs.s b q).2) λq=>.inr (hs.nw i _ v b hi hv q).1
  ·obtain⟨p,hp,e⟩:=acX.1 hx;injection e with e1 e2
   subst e1 e2;obtain⟨v,h1,h2⟩:=he.k p.1 p.2 hp;exact⟨v,h1,xr h2⟩
 ·exact h
theorem GN:∀{l:List AV} {st:dw},eO m cx st a w->eO m cx (Yr l st) a w
 | [],_,h=>h
 | c::l,st,h=>GN (l:=l) (by
  split
  ·exact uI h
  ·exact h)
theorem SD {t:Nat} (h:eO m cx st a w):eO m cx (ze st t) a w:=by
 unfold ze;split
 ·exact uI h
 ·exact uI h
 ·exact GN h
 ·exact h
theorem zf:∀{l:List Nat} {st:dw},eO m cx st a w->eO m cx (l.foldl ze st) a w
 | [],_,h=>h
 | t::l,st,h=>zf (l:=l) (st:=ze st t) (SD h)
end
def ig:List (Nat×ah)->List ah->List ah
 | [],H=>H
 | p::l,H=>ig l (H.set p.1 p.2)
section
variable {cx:Cx} {bs:List Value} {w:World} {S:Nat->Prop} {H:List ah}
theorem ab6 (hs:HS cx bs w S H) {o:Nat} {Y:ah} {x:AV} {v:Value} (hH:H[o]?=some Y) (hx:jp Y=some x) (hv:bs[o]?=some v):HS cx bs w (λb=>S b\/Bk Y v b) (H.set o .dead)/\VR bs w (λb=>S b\/Bk Y v b) x v:=by
 have wl:=(aab.1 hH).1;have hlt:∀b,(S b\/Bk Y v b)->b<w.heap.size:=λb q=>q.elim (λq=>(hs.s b q).1) λq=>(hs.o o _ v hH hv).lt q;have get:∀{j:Nat} {y:ah},(H.set o .dead)[j]?=some y->y=.dead\/(j≠o/\H[j]?=some y):=by
  intro j y hy;by_cases hj:j=o
  ·subst hj;rw[aat wl] at hy;exact .inl (aad hy).symm
  ·rw[aan (acj hj)] at hy;exact .inr ⟨hj,hy⟩
 have far:∀{j:Nat} {z:ah} {u:Value} {b:Nat},j≠o->H[j]?=some z->bs[j]?=some u->Bk z u b->¬(S b\/Bk Y v b):=λhj hz hu hb q=>q.elim (hs.nw _ _ _ _ hz hu hb).2 λq=>hs.ap _ o _ _ _ v _ hj hz hu hH hv hb q;refine⟨⟨by rw[aaJ];exact hs.len,?_,?_,?_,λb q=>⟨hlt b q,q.elim (λq=>(hs.s b q).2) λq=>.inr (hs.nw o _ v b hH hv q).1⟩,λb q=>.inl (hs.s0 b q),hs.os,hs.tape,hs.output,hs.size,hs.old,hs.an⟩,sX (hs.o o _ v hH hv) hx (λ_ h=>.inl h) λ_ h=>.inr h⟩
 ·intro j y u hy hu;rcases get hy with rfl|⟨hj,hz⟩
  ·exact trivial
  ·exact(hs.o j y u hz hu).keep (dR (Below.refl _ _) (aam _) none) (by simp) (aw.refl _ _) (λ_ h=>.inl h) (λb q=>⟨hlt b q,λe=>far hj hz hu e q⟩) (iC.refl _)
 ·intro j k y y2 u v2 b hjk hy hu hz jS bS bH;rcases get hy with rfl|⟨_,eL⟩
  ·cases bS
  rcases get hz with rfl|⟨_,gN⟩
  ·cases bH
  exact hs.ap j k y y2 u v2 b hjk eL hu gN jS bS bH
 ·intro j y u b hy hu hb;rcases get hy with rfl|⟨hj,eL⟩
  ·cases hb
  exact⟨(hs.nw j y u b eL hu hb).1,far hj eL hu hb⟩
def kB (os:List Nat):List (Nat×ah):=os.map λo=>(o,.dead)
theorem yN:∀(os:List Nat) {S:Nat->Prop} {H:List ah},HS cx bs w S H->∃S',(∀b,S b->S' b)/\HS cx bs w S' (ig (kB os) H)/\∀o∈os,∀(y:ah) (x:AV) (v:Value),H[o]?=some y->jp y=some x->bs[o]?=some v->VR bs w S' x v
 | [],S,H,hs=>⟨S,λ_ h=>h,hs,λo ho=>by cases ho⟩
 | o::os,S,H,hs=>by
  have next:∀{S1:Nat->Prop},(∀b,S b->S1 b)->HS cx bs w S1 (H.set o .dead)->(∀(y:ah) (x:AV) (v:Value),H[o]?=some y->jp y=some x->bs[o]?=some v->VR bs w S1 x v)->∃S',(∀b,S b->S' b)/\HS cx bs w S' (ig (kB (o::os)) H)/\∀o'∈o::os,∀(y:ah) (x:AV) (v:Value),H[o']?=some y->jp y=some x->bs[o']?=some v->VR bs w S' x v:=by
   intro S1 h1 h2 h3;obtain⟨S',q1,q2,q3⟩:=yN os h2;refine⟨S',λb q=>q1 b (h1 b q),q2,λo' ho' y x v hH hx hv=>?_⟩;by_cases e2:o'=o
   ·subst e2;exact(h3 y x v hH hx hv).keep q1 (aw.refl _ _) (iC.refl _)
   ·rcases aas.1 ho' with e3|ho'
    ·exact absurd e3 e2
    ·exact q3 o' ho' y x v (by rw[aan (acj e2)];exact hH) hx hv
  have mask:HS cx bs w S (H.set o .dead):=hs.mask (by rw[aaJ]) λi x hx=>by
   by_cases e:o=i
   ·subst e;by_cases hl:o<H.length
    ·rw[aat hl] at hx;exact .inl (aad hx).symm
    ·rw[aaE (by rw[aaJ];omega)] at hx;cases hx
   ·rw[aan e] at hx;exact .inr hx
  cases hY:(H[o]?).bind jp with
  | none=>exact next (λ_ h=>h) mask λy x v h h2=>by rw[h] at hY;rw[show jp y=none from hY] at h2;cases h2
  | some x=>
   obtain⟨Y,hH,hx⟩:=Option.bind_eq_some_iff.1 hY;have wl:o<bs.length:=by rw[hs.len];exact(aab.1 hH).1
   have hv:=aaa wl;obtain⟨k1,k2⟩:=ab6 hs hH hx hv;refine next (λ_ h=>.inl h) k1 λy' x' v' h1 h2 h3=>?_;rw[hH] at h1;obtain rfl:=aad h1;rw[hx] at h2;obtain rfl:=aad h2;rw[hv] at h3;obtain rfl:=aad h3;exact k2
def zY (H:List ah) (a:AV):AV:=match lD a with
 | some o=>((H[o]?).bind jp).getD a
 | none=>a
def tL (ps:List (Nat×List AV)):List Nat:=ps.flatMap λp=>p.2.filterMap lD
def Uc (H:List ah) (ps:List (Nat×List AV)):List (Nat×List AV):=ps.map λp=>(p.1,p.2.map (zY H))
end
section
variable {P:Program} {o:Oper} {cx:Cx} {bs aU:List Value} {w w':World} {S:Nat->Prop} {H:List ah} {m:Nat} {env:Env} {a:Act} {bW:Nat} {ty:TypeId->Option Ty} {K:Act->World->Prop} {Q:Exit->Act->World->Prop}
theorem O0:1000000000000<=maxLen:=by unfold maxLen;decide
theorem agM {kt:Kt} {y:Ty} {n n':Nat} {f f':kt.K->Option (El y)} {v:Value} {c:Nat} (h:Bk (.mp kt y n f) v c):Bk (.mp kt y n' f') v c:=by
 cases v with
 | map b=>cases b<;>exact h
 | _=>cases h
theorem Lw {H:List ah} {cx:Cx} {bs:List Value} {w:World} {S:Nat->Prop} (h:HS cx bs w S H) (n:Nat):HS cx bs w S (H.set n .dead):=h.mask (by rw[aaJ]) λi x hx=>by
 by_cases e:n=i
 ·subst e;by_cases hl:n<H.length
  ·rw[aat hl] at hx;exact .inl (aad hx).symm
  ·rw[aaE (by rw[aaJ];omega)] at hx;cases hx
 ·rw[aan e] at hx;exact .inr hx
theorem Ua {t:TypeId} {mo x v:Operand} (hop:o.op=.mapUpdate t mo x v) (hd:o.dst=none) (hr:(Instr.mapUpdate t (a.eval mo) (a.eval x) (a.eval v)).run P w=.ok () w') (hK:K a w'):o.wp P a w K Q:=by
 unfold Oper.wp;simp[execOp,hop,hr,Result.andThen];show K (a.put o.dst undef) w';rw[hd];exact hK
theorem agv {kt:Kt} {y:Ty} {f:kt.K->Option (El y)} {g:kt.K->Option Value} {k:kt.K} {z:El y} {u:Value} (h:∀k,vn w S (f k) (g k)) (hz:ay.rep (α:=El y) w S [u] z) (k':kt.K):vn w S (lg kt f k z k') (lg kt g k u k'):=by
 by_cases e:k'=k
 ·subst e;rw[fT,fT];exact⟨u,rfl,hz⟩
 ·rw[jN e,jN e];exact h k'
noncomputable def Lx (l:List (Value×Value)) (k u:Value):List (Value×Value):=(k,u)::l.filter λp=>@decide (p.1≠k) (Classical.propDecidable _)
theorem Ir {kt:Kt} {g:kt.K->Option Value} {l:List (Value×Value)} {k:kt.K} {u:Value} (h:∀k u,g k=some u↔(kt.val k,u)∈l) (k':kt.K) (u':Value):lg kt g k u k'=some u'↔(kt.val k',u')∈Lx l (kt.val k) u:=by
 unfold Lx;rw[aas,adv];by_cases e:k'=k
 ·subst e;rw[fT];constructor
  ·intro h;injection h with h;subst h;exact .inl rfl
  ·rintro(h|⟨_,h⟩)
   ·injection h with _ h;rw[h]
   ·exact absurd rfl (@of_decide_eq_true _ (Classical.propDecidable _) h)
 ·rw[jN e,h];constructor
  ·intro h;exact .inr ⟨h,@decide_eq_true _ (Classical.propDecidable _) λe2=>e (Kt.val_inj e2)⟩
  ·rintro(h|⟨h,_⟩)
   ·injection h with h _;exact absurd (Kt.val_inj h) e
   ·exact h
theorem Mk (hs:HS cx bs w S H) (he:ER m bs w S env a) (hP:IsP P) {t:TypeId} {mo x v:Operand} (hop:o.op=.mapUpdate t mo x v) (hd:o.dst=none) (hn:H[bW]?=some .dead) (hb:bs[bW]?=some undef) {r:List (Nat×ah)×Option ah} (h:(Ww P ty bW H t (ev env mo) (ev env x) (ev env v)).hit r) (hK:∀w' aU,HS cx aU w' S (ig (r.1++[(bW,r.2.getD .dead)]) H)->aw S w w'->iC bs aU->(∀j,j≠bW->aU[j]?=bs[j]?)->K a w'):o.wp P a w K Q:=by
 obtain rfl:=hP.eq;have zO:∀b,S b->b<w.heap.size:=λb q=>(hs.s b q).1;unfold Ww at h;split at h
 ·rename_i mt ob c hm hbo hbv;obtain⟨e,hu,hz,UE,eL,hzr⟩:=Gc hm;split at h
  ·rename_i k jR y' n f hk hH;split at h
   ·rename_i q z _ hun;obtain⟨q⟩:=q;injection q with q1 q2
    subst q1 q2;obtain⟨⟨rW,Nu⟩,h⟩:=h;have h:(_,_)=r:=h;subst h;have hkv:=yO he hk;obtain⟨bS,_⟩:=bO he hbo;obtain⟨bl,g,e1,hg,hf⟩:=hs.o ob _ _ hH bS;obtain⟨w',ke,hg',XM⟩:=hg.store (u:=a.eval v) hu (aay Nu O0) rW;have hB:Bk (.mp mt.kt mt.y n f) (a.eval mo) bl:=by rw[e1];rfl
    have bC:aw S w w':=aw.of_row XM λb q=>⟨zO b q,λe=>by injection e with e;subst e;exact(hs.nw _ _ _ _ hH bS hB).2 q⟩;have eQ:ay.rep (α:=El mt.y) w' S [a.eval v] z:=ay.keep (mW hun (bO he hbv)) (λ_ h=>h) bC;have pf:=hs.setB hH bS XM (λc hc=>aad hc▸hB) (y:=.mp mt.kt mt.y (n+1) (lg mt.kt f k z)) ⟨bl,_,e1,hg',agv (λk=>(hf k).keep (λ_ h=>h) bC) eQ⟩ (λc hc=>agM hc);refine Ua hop hd (w':=w') (by rw[e1,hkv];exact ke) (hK w' bs (Lw pf bW) bC (iC.refl _) λ_ _=>rfl)
   ·exact h.elim
  ·rename_i k q hk hH;split at h
   ·rename_i rr p jR t' e' n f k' hQ;split at h
    ·rename_i t2 e2 rs hR;split at h
     ·rename_i Bt ht2 _ _;obtain⟨Bt⟩:=Bt;obtain⟨ht2⟩:=ht2;subst Bt ht2;split at h
      ·rename_i hc;obtain⟨rfl,rfl⟩:=hc;obtain⟨⟨rW,uy,Nu⟩,h⟩:=h;have uy:k=k':=uy;subst uy;have h:(_,_)=r:=h;subst h;have hkv:=yO he hk;obtain⟨bS,bl0,e0⟩:=bO he hbo;obtain⟨X9,eX⟩:=bO he hbv;have GA:q<bs.length:=by rw[hs.len];exact(aab.1 hQ).1
       have Js:=aaa GA;obtain⟨bl,l,g,e1,h1,h2,h3,h4,h5,h6⟩:=hs.o q _ _ hQ Js;rw[bS] at h1;injection h1 with h1
       obtain⟨w',ke,hg',XM⟩:=h2.store (u:=a.eval v) hu (aay Nu O0) rW;have Ym:∀c,c=bl\/(∃(k1:mt.kt.K) (u:Value),k1≠k/\g k1=some u/\u.ownBlock=some c)->vB mt.kt (·=k) bs[q] c:=λc hc=>by
        rw[e1];exact⟨bl,l,rfl,hc.imp id λ⟨k1,u,q1,q2,q3⟩=>⟨k1,u,q1,(h3 k1 u).1 q2,q3⟩⟩
       have bC:aw S w w':=aw.of_row XM λb qq=>⟨zO b qq,λe=>by injection e with e;subst e;exact(hs.nw _ _ _ _ hQ Js (Ym _ (.inl rfl))).2 qq⟩;have s1:=hs.setB hQ Js XM (λc hc=>by injection hc with hc;subst hc;exact Ym _ (.inl rfl)) (y:=.dead) trivial (λ_ h=>by cases h);have CQ:q≠rr:=λe=>by subst e;rw[hQ] at hR;cases hR
       have hqo:q≠p:=λe=>by subst e;rw[hQ] at hH;cases hH
       have Nk:rr≠p:=λe=>by subst e;rw[hR] at hH;cases hH
       have UI:bW≠q:=λe=>by subst e;rw[hQ] at hn;cases hn
       have hnr:bW≠rr:=λe=>by subst e;rw[hR] at hn;cases hn
       have Jm:bW≠p:=λe=>by subst e;rw[hH] at hn;cases hn
       have lK:Own (α:=El t2) w' S 0 e2 (a.eval v) rs.reverse:=s1.o rr (.row t2 e2 rs) _ (by rw[aan CQ];exact hR) X9;have s2:=Lw s1 rr;have s3:=s2.setB (i:=p) (x:=.mq q) (y:=.mq bW) (row:=none) (w':=w') (by rw[aan Nk,aan hqo];exact hH) bS ⟨rfl,rfl,rfl,aam _,λ_ _ _=>rfl⟩ (λ_ h=>by cases h) ⟨bl0,e0⟩ (λ_ h=>by cases h);have hL:∀{i:Nat} {z:ah} {u:Value} {c:Nat},(((H.set q .dead).set rr .dead).set p (.mq bW))[i]?=some z->bs[i]?=some u->Bk z u c->i≠q/\i≠rr/\H[i]?=some z:=by
        intro i z u c hz hu hc;by_cases e1:i=p
        ·subst e1;rw[aat (by rw[aaJ,aaJ];exact(aab.1 hH).1)] at hz;obtain rfl:=aad hz;cases hc
        ·rw[aan (acj e1)] at hz;by_cases e2:i=rr
         ·subst e2;rw[aat (by rw[aaJ];exact(aab.1 hR).1)] at hz;obtain rfl:=aad hz;cases hc
         ·rw[aan (acj e2)] at hz;by_cases e3:i=q
          ·subst e3;rw[aat (aab.1 hQ).1] at hz;obtain rfl:=aad hz;cases hc
          ·rw[aan (acj e3)] at hz;exact⟨e3,e2,hz⟩
       have hBr:∀c,(a.eval v).ownBlock=some c->Bk (.row t2 e2 rs) (a.eval v) c:=λc hc=>hc;have far:∀{c c':Nat},(a.eval v).ownBlock=some c->vB mt.kt (·=k) bs[q] c'->c≠c':=λ{c c'} hc NZ e=>by
        subst e;exact hs.ap rr q _ _ _ _ c (acj CQ) hR X9 hQ Js (hBr c hc) NZ
       have ux:=Ir (k:=k) (u:=a.eval v) h3;have GB:(((H.set q .dead).set rr .dead).set p (.mq bW))[bW]?=some .dead:=by
        rw[aan (acj Jm),aan (acj hnr),aan (acj UI)];exact hn
       have hg2:∀k1 u,k1≠k->lg mt.kt g k (a.eval v) k1=some u->g k1=some u:=λk1 u e q=>by rw[jN e] at q;exact q
       have hg1:∀u,lg mt.kt g k (a.eval v) k=some u->u=a.eval v:=λu q=>by rw[fT] at q;exact(aad q).symm
       have s4:=s3.fill (j:=bW) (x:=.mr p mt.kt t2 e2 (n+1) (lg mt.kt f k rs)) (v:=qQ bl (Lx l (mt.kt.val k) (a.eval v))) GB hb rfl
        ⟨bl,_,lg mt.kt g k (a.eval v),rfl,by rw[aan Jm,bS,h1],hg',ux,λk1 _=>by
         by_cases e:k1=k
         ·subst e;rw[fT,fT];exact⟨_,rfl,lK⟩
         ·rw[jN e,jN e];have:=h4 k1 e;cases hf:f k1 with
          | none=>rw[hf] at this;exact this
          | some xs=>
           rw[hf] at this;obtain⟨u,qD,cs,q1,q2,q3⟩:=this;refine⟨u,qD,cs,q1.kept XM ?_,q2.keep (λ_ h=>h) bC,λc hc=>⟨aay (q3 c hc).1 XM.size,(q3 c hc).2⟩⟩;cases e3:u.ownBlock with
           | none=>exact .inl rfl
           | some c=>exact .inr λe4=>h6 k1 u qD (by rw[e3];exact e4),
         λk1 k2 u1 u2 c q1 q2 eM hc1 hc2=>by
          by_cases a1:k1=k
          ·subst a1;obtain rfl:=hg1 _ q1;exact far hc1 (Ym c (.inr ⟨k2,u2,acj eM,hg2 _ _ (acj eM) q2,hc2⟩)) rfl
          ·by_cases a2:k2=k
           ·subst a2;obtain rfl:=hg1 _ q2;exact far hc2 (Ym c (.inr ⟨k1,u1,a1,hg2 _ _ a1 q1,hc1⟩)) rfl
           ·exact h5 k1 k2 u1 u2 c (hg2 _ _ a1 q1) (hg2 _ _ a2 q2) eM hc1 hc2,
         λk1 u q1 hc=>by
          by_cases a1:k1=k
          ·subst a1;obtain rfl:=hg1 _ q1;exact far hc (Ym bl (.inl rfl)) rfl
          ·exact h6 k1 u (hg2 _ _ a1 q1) hc⟩
        (λc hc=>by
         have hcc:vB mt.kt (·=k) bs[q] c\/(a.eval v).ownBlock=some c:=by
          obtain⟨b',l',e2,hc⟩:=hc;obtain⟨rfl,rfl⟩:=kO e2;rcases hc with rfl|⟨k1,u,_,qD,hc⟩
          ·exact .inl (Ym _ (.inl rfl))
          ·have qD:=(ux k1 u).2 qD;by_cases a1:k1=k
           ·subst a1;obtain rfl:=hg1 _ qD;exact .inr hc
           ·exact .inl (Ym c (.inr ⟨k1,u,a1,hg2 _ _ a1 qD,hc⟩))
         rcases hcc with hcc|hcc
         ·refine⟨(hs.nw _ _ _ _ hQ Js hcc).1,(hs.nw _ _ _ _ hQ Js hcc).2,λi y u hy qD hc1=>?_⟩;obtain⟨i1,i2,i3⟩:=hL hy qD hc1;exact hs.ap i q _ _ _ _ c i1 i3 qD hQ Js hc1 hcc
         ·refine⟨(hs.nw _ _ _ _ hR X9 (hBr c hcc)).1,(hs.nw _ _ _ _ hR X9 (hBr c hcc)).2,λi y u hy qD hc1=>?_⟩;obtain⟨i1,i2,i3⟩:=hL hy qD hc1;exact hs.ap i rr _ _ _ _ c i2 i3 qD hR X9 hc1 (hBr c hcc))
       refine Ua hop hd (w':=w') (by rw[h1,hkv];exact ke) (hK w' _ s4 bC (λi u hu pY=>?_) λj hj=>aan (acj hj));rw[aan (λe=>by subst e;rw[hb] at hu;obtain rfl:=aad hu;cases pY)];exact hu
      ·exact h.elim
     ·exact h.elim
    ·exact h.elim
   ·exact h.elim
  ·exact h.elim
 ·exact h.elim
end
end Go.Proofs.YtdbpbfglhbiadaaGreatDoor
