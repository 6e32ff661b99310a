/- MSeq1 MFrz0 MSeq2 -/
import Derived.Test.YtdbpbfglhbiadaaGreatDoorH00
import Derived.Test.YtdbpbfglhbiadaaGreatDoorH25
import Derived.Test.YtdbpbfglhbiadaaGreatDoorH17
set_option maxHeartbeats 4000000
set_option maxRecDepth 100000
namespace Go.Proofs.YtdbpbfglhbiadaaGreatDoor
open Go Go.RowKit
def zD (P:Program) (H:List ah) (t:TypeId) (x y:Option XV):Option (Nat×ah):=match x,y.bind XV.cells,P.info? t with
 | some (.one (.ptr o off)),some ys,some i=>match H[o]? with
  | some (.cells ty cs)=>if i.size=ys.length/\off+ys.length<=cs.length then some (o,.cells ty (cs.take off++ys++cs.drop (off+ys.length))) else none
  | _=>none
 | some (.one (.elo o i sz off)),some ys,some j=>match H[o]? with
  | some (.row t e rs)=>if sz=aA.sz (El t)/\j.size=ys.length/\off+ys.length<=sz then(un t ((jS t (rs.reverse.getD i (BA t))).take off++ys++(jS t (rs.reverse.getD i (BA t))).drop (off+ys.length))).map λz=>(o,.row t e (rs.reverse.set i z).reverse) else none
  | _=>none
 | some (.one (.sub o o2 off)),some ys,some j=>match H[o]? with
  | some (.zip Sc e t tn gO done cur rest)=>if o2=Sc/\j.size=ys.length/\off+ys.length<=cur.length then some (o,.zip Sc e t tn gO done (cur.take off++ys++cur.drop (off+ys.length)) rest) else none
  | _=>none
 | _,_,_=>none
def Yp (P:Program) (H:List ah) (t:TypeId) (x y:Option XV):Option (List ah):=(zD P H t x y).map λp=>H.set p.1 p.2
def apS (ty:TypeId->Option Ty) (H:List ah) (e:TypeId):Option XV->Option (List ah×(y:Ty)×List (El y))
 | some (.one (.own o))=>match H[o]? with
  | some (.row y e' rs)=>if e'=e then some (H.set o .dead,⟨y,rs⟩) else none
  | _=>none
 | some (.one (.val (.slice none 0 0)))=>(ty e).map λy=>(H,⟨y,[]⟩)
 | some (.one (.mrow q kt k))=>match H[q]? with
  | some (.mr p j5 t e' n f)=>match Kt.eq? kt j5 with
   | some h=>if e'=e then some (H.set q (.mx p j5 t e' n f (h.down▸k)),⟨t,(f (h.down▸k)).getD []⟩) else none
   | none=>none
  | _=>none
 | _=>none
def apY (H:List ah) (y:Ty) (x:Option XV):Option (List (El y)):=match x with
 | some (.one (.own o))=>match H[o]? with
  | some (.row y' _ rs)=>(ki y (.list y' rs.reverse false))
  | _=>none
 | some (.one a)=>ki y a
 | _=>none
def slI (P:Program) (t:TypeId):Option (TypeId×Nat×Nat):=match P.underlying t with
 | some (.slice e)=>(P.info? e).bind λi=>i.zero.bind λz=>if z.cells.size=i.size/\0<i.size then some (e,i.size,i.bytes) else none
 | _=>none
def GO (P:Program) (ty:TypeId->Option Ty) (H:List ah) (t:TypeId) (s x:Option XV):T (List ah×(y:Ty)×TypeId×List (El y)):=match slI P t with
 | some (e,sz,bytes)=>match apS ty H e s with
  | some (H',⟨y,rs⟩)=>match apY H y x with
   | some ys=>if sz=aA.sz (El y) then .nd ((rs.length+ys.length)*(bytes+1)<=140737488355328) (.lf (H',⟨y,e,ys.reverse++rs⟩)) else .bad
   | none=>.bad
  | none=>.bad
 | none=>.bad
def agU (P:Program) (ty:TypeId->Option Ty) (H:List ah) (t:TypeId) (s x:Option XV):T (XV×List ah):=(GO P ty H t s x).bind λr=>.lf (.one (.own H.length),r.1++[.row r.2.1 r.2.2.1 r.2.2.2])
section
variable {P:Program} {o:Oper} {cx:Cx} {bs aZ:List Value} {w w':World} {S:Nat->Prop} {H:List ah} {m:Nat} {env:Env} {a:Act} {cm:Nat} {K:Act->World->Prop} {Q:Exit->Act->World->Prop}
theorem XH {t:Ty} {cs:List Value} {x:El t} (h:aA.rep w S cs x):∀u∈cs,u.oneCell'=true:=λu hu=>by
 obtain⟨y,_,hy⟩:=(ka (bs:=[]) h).right u hu;exact hy.one
theorem RS.flatAt {t:Ty} {A:Option Addr} {n c:Nat} {ys:List (El t)} (h:RS w S A n c ys):∃ds,Flat w S ds ys/\(∀ad,A=some ad->cf w ad ds)/\∀u∈ds,u.oneCell'=true:=by
 have key:∀k,k<=n->∃ds,Flat w S ds (ys.take k)/\(∀ad,A=some ad->cf w ad ds)/\∀u∈ds,u.oneCell'=true:=by
  intro k;induction k with
  | zero=>intro _;exact⟨[],by simpa using Flat.nil,λad _ j u hj=>by simp at hj,λu hu=>by cases hu⟩
  | succ k ih=>
   intro hk;obtain⟨ds,h1,h2,h3⟩:=ih (by omega);obtain⟨b,p,x,cs,rfl,_,hx,hr,hc⟩:=h.at_ (k:=k) (by omega);refine⟨ds++cs,by rw[iQ hx];exact .snoc h1 hr,λad e j u hj=>?_,λu hu=>?_⟩
   ·have hl:=h1.length;have bJ:=h.len;rw[abD,ac8 (by omega)] at hl;rw[List.getElem?_append] at hj;split at hj
    ·exact h2 ad e j u hj
    ·injection e with e
     subst e;have:=hc _ _ hj;have mA:(⟨b,p,none⟩:Addr).add j=⟨b,p+(k*aA.sz (El t)+(j-ds.length)),none⟩:=by
      have:k*aA.sz (El t)+(j-ds.length)=j:=by omega
      rw[this];unfold Addr.add;split<;>simp_all
     rw[mA];exact this
   ·rcases ab7.1 hu with hu|hu
    ·exact h3 u hu
    ·exact XH hr u hu
 have:=key n (aaG _)
 rwa [acz (by rw[h.len];exact aaG _)] at this
theorem Flat.setN {α:Type} [aA α] {cs us:List Value} {xs:List α} {y:α} (h:Flat w S cs xs) (hu:aA.rep w S us y):∀{i:Nat},i<xs.length->Flat w S (cs.take (i*aA.sz α)++(us++cs.drop ((i+1)*aA.sz α))) (xs.set i y):=by
 induction h with
 | nil=>intro i hi;exact absurd hi (Nat.not_lt_zero _)
 | @snoc cs ds xs x hf hr ih=>
  intro i hi;have hl:=hf.length;have hd:=aA.len hr;by_cases hx:i<xs.length
  ·have h1:(i+1)*aA.sz α<=cs.length:=by rw[hl];exact acV _ hx
   have h2:i*aA.sz α<=cs.length:=by rw[hl];exact acV _ (Nat.le_of_lt hx)
   rw[List.set_append_left _ _ hx,acy h2,List.drop_append_of_le_length h1,<-abS us,<-abS];exact .snoc (ih hx) hr
  ·have e:i=xs.length:=by simp at hi;omega
   subst e;have h3:(cs++ds).length<=(xs.length+1)*aA.sz α:=by rw[aaM,hl,hd,Nat.add_mul,Nat.one_mul];exact aaG _
   rw[acH _ _ (aaG _),adR,aaQ h3,<-hl,acy (aaG _),List.take_length,acx];exact .snoc hf hu
theorem IH {cur ys:List Value} {N k l:Nat} (hl:ys.length=l) (h:k+l<=N) (hc:N<=cur.length):(cur.take k++ys++cur.drop (k+l)).take N=(cur.take N).take k++ys++(cur.take N).drop (k+l):=by
 have h1:(cur.take k++ys).length=k+l:=by rw[aaM,abD,hl];omega
 rw[List.take_append,acz (by omega),h1,List.take_take,ac8 (by omega),List.drop_take]
theorem OV {cs ds ys:List Value} {k sz off l:Nat} (hl:ys.length=l) (hd:ds.length=sz) (hc:∀j u,ds[j]?=some u->cs[k+j]?=some u) (ho:off+l<=sz):cs.take k++((ds.take off++ys++ds.drop (off+l))++cs.drop (k+sz))=cs.take (k+off)++ys++cs.drop (k+off+l):=by
 have e:(cs.drop k).take sz=ds:=by
  refine acQ λj=>?_;by_cases hj:j<sz
  ·rw[List.getElem?_take_of_lt hj,acA];have:=hc j _ (aac (by omega));rw[this,aac (by omega)]
  ·rw[abC (by rw[abD];omega),abC (by omega)]
 have h1:ds.take off=(cs.drop k).take off:=by rw[<-e,List.take_take,ac8 (by omega)]
 have h2:ds.drop (off+l)++cs.drop (k+sz)=cs.drop (k+off+l):=by
  have:cs.drop (k+sz)=(cs.drop k).drop sz:=by rw[adh]
  rw[this,<-List.drop_append_of_le_length (by omega)];conv=>lhs;rw[<-e]
  rw[List.take_append_drop,adh,acv]
 rw[h1,abS,abS,h2,<-abS,<-abS,<-List.take_add]
theorem Hn (hs:HS cx bs w S H) (he:ER m bs w S env a) {t:TypeId} {x y:Operand} (hop:o.op=.store t x y) (hd:o.dst=none) {p:Nat×ah} (h:zD P H t (ev env x) (ev env y)=some p) (hK:∀w',HS cx bs w' S (H.set p.1 p.2)->aw S w w'->K a w'):o.wp P a w K Q:=by
 unfold zD at h;split at h
 ·rename_i ob off ys i hx hy hi;split at h
  ·rename_i ty cs hH;split at h
   ·rename_i hc;injection h with h
    subst h;obtain⟨g,hg,hv⟩:=bW he hx;cases e:ev env y with
    | none=>rw[e] at hy;cases hy
    | some z=>
     rw[e] at hy;have Pu:=XV.cells_ok hy (bW he e);obtain⟨g',vs,e2,hk,hf⟩:=hs.o ob _ _ hH hg;injection e2 with e2
     injection e2 with e2
     injection e2 with e2
     subst e2;have hl:ys.length=(a.eval y).cells.size:=Pu.length.trans abK;have hl2:=hf.length;have hr:=zU (P:=P) (t:=t) (v:=a.eval y) (k:=off) hk (by rw[hi];exact congrArg some (hc.1.trans hl)) (by have h1:vs.toArray.size=vs.length:=acc;rw[h1];rw[hl] at hc;omega) (λu hu=>by
      obtain⟨q,_,hq⟩:=Pu.right u hu;exact hq.one)
     have hp:=RP.setRow w g (vs.toArray.toList.take off++(a.eval y).cells.toList++vs.toArray.toList.drop (off+(a.eval y).cells.size)).toArray;have lq:df (w.setRow g _) g ty _:=setRow_heap w g vs.toArray (vs.toArray.toList.take off++(a.eval y).cells.toList++vs.toArray.toList.drop (off+(a.eval y).cells.size)).toArray ty (0,0) hk;have bM:=hs.keeps hH hg hp.g;unfold Oper.wp execOp;simp only[hop,hv,Sem.run_bind,hr,Result.andThen_ok,Sem.run_pure,Oper.upon_skip,hd];refine hK _ (hs.set hH hg hp.g ⟨g,_,rfl,lq,?_⟩ (.inl rfl)) bM;have hf':=hf.mono (R':=VR bs (w.setRow g _) S) λ_ _ q=>q.keep (λ_ h=>h) bM (iV.refl _);have Z4:=Pu.mono (R':=VR bs (w.setRow g _) S) λ_ _ q=>q.keep (λ_ h=>h) bM (iV.refl _);rw[hl];exact((hf'.take off).append Z4).append (hf'.drop _)
   ·cases h
  ·cases h
 ·rename_i ob i sz off ys j hx hy hj;split at h
  ·rename_i ty e' rs hH;split at h
   ·rename_i hc;obtain⟨rfl,hc1,hc2⟩:=hc;cases hz:un ty ((jS ty (rs.reverse.getD i (BA ty))).take off++ys++(jS ty (rs.reverse.getD i (BA ty))).drop (off+ys.length)) with
    | none=>rw[hz] at h;cases h
    | some z=>
     rw[hz] at h;obtain rfl:=aaj h;obtain⟨g,n,c,hg,dQ,hv⟩:=bW he hx;cases e:ev env y with
     | none=>rw[e] at hy;cases hy
     | some z'=>
      rw[e] at hy;have Pu:=XV.cells_ok hy (bW he e);have hl:ys.length=(a.eval y).cells.toList.length:=Pu.length;have xE:(a.eval y).cells.toList.length=(a.eval y).cells.size:=abK;have ho:Own (α:=El ty) w S 0 e' (.slice (some ⟨g,0,none⟩) n c) rs.reverse:=hs.o ob _ _ hH hg;obtain⟨A',n',c',Ld,hn⟩:=ho.slice;injection Ld with _ um _
      subst um;obtain⟨cs,q1,q2,q3⟩:=ho;have iF:rs.reverse[i]?=some (rs.reverse.getD i (BA ty)):=by rw[aal,aac (by omega)];rfl
      obtain⟨ds,hr,hcd⟩:=q2.get i _ iF;obtain⟨tU,h2⟩:=q1;rcases h2 with⟨j6,_⟩|⟨g',cap,cur,j6,j8,hh,PN,Sx,hcs,AN⟩
      ·cases j6
      injection j6 with j6 _ kw
      injection j6 with j6
      injection j6 with j6
      subst j6 kw;have hk:df w g e' cur:=hh;have PY:i*aA.sz (El ty)+off+ys.length<=n*aA.sz (El ty):=by
       have:(i+1)*aA.sz (El ty)<=n*aA.sz (El ty):=acV _ dQ;rw[Nat.add_mul,Nat.one_mul] at this;omega
      have afU:n*aA.sz (El ty)<=cur.size:=by rw[hcs,hn];exact acV _ PN
      have eu:=zU (P:=P) (t:=t) (v:=a.eval y) (k:=i*aA.sz (El ty)+off) hk (by rw[hj];exact congrArg some (hc1.trans (hl.trans xE))) (by omega) (λu hu=>by
       obtain⟨q,_,hq⟩:=Pu.right u hu;exact hq.one)
      have hp:=RP.setRow w g (cur.toList.take (i*aA.sz (El ty)+off)++(a.eval y).cells.toList++cur.toList.drop (i*aA.sz (El ty)+off+(a.eval y).cells.size)).toArray;have lq:df (w.setRow g _) g e' _:=setRow_heap w g cur (cur.toList.take (i*aA.sz (El ty)+off)++(a.eval y).cells.toList++cur.toList.drop (i*aA.sz (El ty)+off+(a.eval y).cells.size)).toArray e' (0,0) hk;have bM:=hs.keeps hH hg hp.g;unfold Oper.wp execOp;simp only[hop,hv,Sem.run_bind,eu,Result.andThen_ok,Sem.run_pure,Oper.upon_skip,hd];refine hK _ (hs.set hH hg hp.g ?_ (.inl rfl)) bM;have my:aA.rep w S (ds.take off++(a.eval y).cells.toList++ds.drop (off+ys.length)) z:=jJ hz (((ka hr).take off |>.append Pu).append ((ka hr).drop _));have hF:=(q2.setN my (i:=i) (by omega)).keep (λ_ h=>h) bM;have hds:=aA.len hr;rw[Nat.add_mul,Nat.one_mul,OV (by rw[<-hl]) hds hcd hc2] at hF;show Own (α:=El ty) _ S 0 e' _ (rs.reverse.set i z).reverse.reverse;rw[aat];refine⟨_,?_,hF,λb q=>⟨abx (hs.s b q).1 hp.g.size,(q3 b q).2⟩⟩;rw[ab1,<-hn];have af2:cur.toList.length=cur.size:=abK;have rY:=IH (cur:=cur.toList) (ys:=(a.eval y).cells.toList) (N:=n*aA.sz (El ty)) (k:=i*aA.sz (El ty)+off) hl.symm PY (by omega);rw[<-hn,] at AN;rw[AN] at rY;refine⟨?_,.inr ⟨g,c,_,rfl,j8,lq,by rw[hn];exact PN,Sx,?_,?_⟩⟩
      ·rw[<-rY,abD];simp only[aaM,abD,abw];omega
      ·rw[acc];simp only[aaM,abD,abw];omega
      ·rw[<-rY,<-xE,<-hl]
   ·cases h
  ·cases h
 ·rename_i ob o2 off ys j hx hy hj;split at h
  ·rename_i Sc e' ty tn gO done cur0 rest hH;split at h
   ·rename_i hc;obtain⟨rfl,hc1,hc2⟩:=hc;injection h with h
    subst h;obtain⟨g,p,hg2,hv⟩:=bW he hx;cases e:ev env y with
    | none=>rw[e] at hy;cases hy
    | some z'=>
     rw[e] at hy;have Pu:=XV.cells_ok hy (bW he e);have hl:ys.length=(a.eval y).cells.toList.length:=Pu.length;have xE:(a.eval y).cells.toList.length=(a.eval y).cells.size:=abK;have hob:ob<bs.length:=by rw[hs.len];exact(aad.1 hH).1
     have hg:=aac hob;have alq:=hs.o ob _ _ hH hg;obtain⟨bE,n,c,r,hvo,PH,ho,hz,hr,tU⟩:=Nn hs hH hg hg2;have hd:done.length<bE.length:=(aad.1 hr).1;have hf:=(hz.2 _ _ hr).2.1 rfl;have yH:r.cells.length=aA.sz (El ty):=r.len;have af3:cur0.length=aA.sz (El ty):=hf.length.trans yH;obtain⟨cs,q1,q2,q3⟩:=ho;obtain⟨al6,h2⟩:=q1;rw[hvo] at h2;rcases h2 with⟨j6,_⟩|⟨g',cap,cur,j6,j8,hh,PN,Sx,hcs,AN⟩
     ·cases j6
     injection j6 with j6 hn kw
     injection j6 with j6
     injection j6 with j6
     subst j6 kw hn;have jb:aA.sz (jE (aA.sz (El ty)))=aA.sz (El ty):=rfl;rw[jb] at al6 hcs AN;have hk:df w g e' cur:=hh;subst PH;have PY:done.length*aA.sz (El ty)+off+ys.length<=bE.length*aA.sz (El ty):=by
      have:(done.length+1)*aA.sz (El ty)<=bE.length*aA.sz (El ty):=acV _ hd;rw[Nat.add_mul,Nat.one_mul] at this;omega
     have afU:bE.length*aA.sz (El ty)<=cur.size:=by rw[hcs];exact acV _ PN
     have eu:=zU (P:=P) (t:=t) (v:=a.eval y) (k:=done.length*aA.sz (El ty)+off) hk (by rw[hj];exact congrArg some (hc1.trans (hl.trans xE))) (by omega) (λu hu=>by
      obtain⟨q,_,hq⟩:=Pu.right u hu;exact hq.one)
     have hp:=RP.setRow w g (cur.toList.take (done.length*aA.sz (El ty)+off)++(a.eval y).cells.toList++cur.toList.drop (done.length*aA.sz (El ty)+off+(a.eval y).cells.size)).toArray;have lq:df (w.setRow g _) g e' _:=setRow_heap w g cur (cur.toList.take (done.length*aA.sz (El ty)+off)++(a.eval y).cells.toList++cur.toList.drop (done.length*aA.sz (El ty)+off+(a.eval y).cells.size)).toArray e' (0,0) hk;have qu:bk (.zip o2 e' ty tn gO done cur0 rest) bs[ob]=some g:=by rw[hvo];rfl
     have hpg:w.grownBy (w.setRow g (cur.toList.take (done.length*aA.sz (El ty)+off)++(a.eval y).cells.toList++cur.toList.drop (done.length*aA.sz (El ty)+off+(a.eval y).cells.size)).toArray) (bk (.zip o2 e' ty tn gO done cur0 rest) bs[ob]):=by rw[qu];exact hp.g
     have bM:=hs.keeps hH hg hpg;unfold Oper.wp execOp;simp only[hop,hv,Sem.run_bind,eu,Result.andThen_ok,Sem.run_pure,Oper.upon_skip];rw[‹o.dst=none›];refine hK _ (hs.set hH hg hpg ?_ (.inl rfl)) bM;have Z4:F2 (VR bs w S) (cur0.take off++ys++cur0.drop (off+ys.length)) (r.cells.take off++(a.eval y).cells.toList++r.cells.drop (off+ys.length)):=((hf.take off).append Pu).append (hf.drop _);have F3:(r.cells.take off++(a.eval y).cells.toList++r.cells.drop (off+ys.length)).length=aA.sz (El ty):=by
      simp only[aaM,abD,abw];omega
     have hF:=(q2.setN (y:=(⟨_,F3⟩:jE (aA.sz (El ty)))) rfl (i:=done.length) hd).keep (λ_ h=>h) bM;obtain⟨ds,hds,hcd⟩:=q2.get _ _ hr;have hds:ds=r.cells:=hds;subst hds;rw[jb] at hF hcd;rw[Nat.add_mul,Nat.one_mul,OV (by rw[<-hl]) yH hcd (by rw[af3] at hc2;exact hc2)] at hF;obtain⟨_,_,_,hl2,u,rW,qZ,hu3⟩:=alq;refine⟨bE.set done.length ⟨_,F3⟩,?_,⟨by rw[ab1];exact hz.1,λj r' jo=>?_⟩,hl2,u,rW,qZ,hu3⟩
     ·rw[hvo];refine⟨_,?_,hF,λb q=>⟨abx (hs.s b q).1 hp.g.size,by rw[<-hvo];exact(q3 b q).2⟩⟩;rw[ab1];have af2:cur.toList.length=cur.size:=abK;have rY:=IH (cur:=cur.toList) (ys:=(a.eval y).cells.toList) (N:=bE.length*aA.sz (El ty)) (k:=done.length*aA.sz (El ty)+off) hl.symm PY (by omega);rw[AN] at rY;refine⟨?_,.inr ⟨g,c,_,rfl,j8,lq,PN,Sx,?_,?_⟩⟩
      ·rw[jb,<-rY,abD];simp only[aaM,abD,abw];omega
      ·rw[jb,acc];simp only[aaM,abD,abw];omega
      ·rw[jb,<-rY,<-xE,<-hl]
     ·by_cases ej:j=done.length
      ·subst ej;rw[abv hd] at jo;obtain rfl:=aaj jo;exact⟨λx hx=>absurd (aad.1 hx).1 (acL _),λ_=>Z4.mono λ_ _ q=>q.keep (λ_ h=>h) bM (iV.refl _),λq=>absurd q (acL _)⟩
      ·rw[aaS (acE ej)] at jo;obtain⟨z1,z2,z3⟩:=hz.2 j r' jo;exact⟨λx hx=>aA.keep (z1 x hx) (λ_ h=>h) bM,λq=>absurd q ej,λq=>aA.keep (z3 q) (λ_ h=>h) bM⟩
   ·cases h
  ·cases h
 ·cases h
theorem Tf (hs:HS cx bs w S H) (he:ER m bs w S env a) {t:TypeId} {x y:Operand} (hop:o.op=.store t x y) (hd:o.dst=none) {H':List ah} (h:Yp P H t (ev env x) (ev env y)=some H') (hK:∀w',HS cx bs w' S H'->aw S w w'->K a w'):o.wp P a w K Q:=by
 unfold Yp at h;cases hp:zD P H t (ev env x) (ev env y) with
 | none=>rw[hp] at h;cases h
 | some p=>
  rw[hp] at h;obtain rfl:=aaj h;exact Hn hs he hop hd hp hK
theorem Jx (hs:HS cx bs w S H) (he:ER m bs w S env a) {ty:TypeId->Option Ty} {t:TypeId} {s x:Operand} (hop:o.op=.call { callee:=.builtin .append,args:=#[s,x],argTypes:=#[t,t] }) {r:List ah×(y:Ty)×TypeId×List (El y)} (h:(GO P ty H t (ev env s) (ev env x)).hit r) (hK:∀v w',HS cx bs w' S r.1->r.1.length=H.length->(∀i:Nat,H[i]?=some ah.dead->r.1[i]?=some ah.dead)->aw S w w'->Own (α:=El r.2.1) w' S 0 r.2.2.1 v r.2.2.2.reverse->(∀b,v.ownBlock=some b->(cx.w0.heap.size<=b\/cx.M b)/\¬S b/\∀(i:Nat) (z:ah) (u:Value),r.1[i]?=some z->bs[i]?=some u->¬Bk z u b)->K (a.put o.dst v) w'):o.wp P a w K Q:=by
 unfold GO at h;split at h
 ·rename_i e sz bytes fm;split at h
  ·rename_i H' y rs pe;split at h
   ·rename_i ys hY;split at h
    ·rename_i jb;obtain⟨hn,h⟩:=h;have h:(_,_)=r:=h;subst h;have hty:fS P t e (aA.sz (El y)) bytes:=by
      unfold slI at fm;cases hu:P.underlying t with
      | none=>rw[hu] at fm;cases fm
      | some d=>
       rw[hu] at fm;cases d with
       | slice e'=>
        have fm:((P.info? e').bind λi=>i.zero.bind λz=>if z.cells.size=i.size/\0<i.size then some (e',i.size,i.bytes) else none)=some (e,sz,bytes):=fm;cases hi:P.info? e' with
        | none=>rw[hi] at fm;cases fm
        | some i=>
         rw[hi] at fm;have fm:(i.zero.bind λz=>if z.cells.size=i.size/\0<i.size then some (e',i.size,i.bytes) else none)=some (e,sz,bytes):=fm;cases hz:i.zero with
         | none=>rw[hz] at fm;cases fm
         | some z=>
          rw[hz] at fm;have fm:(if z.cells.size=i.size/\0<i.size then some (e',i.size,i.bytes) else none)=some (e,sz,bytes):=fm;split at fm
          ·rename_i hc;injection fm with fm
           injection fm with e1 fm
           injection fm with e2 e3
           subst e1;exact⟨hu,⟨i,z,hi,hz,by omega,e3,by omega⟩,by omega⟩
          ·cases fm
       | _=>cases fm
     have Bz:∀b,S b->b<w.heap.size:=λb q=>(hs.s b q).1;have gL:Own (α:=El y) w S 0 e (a.eval s) rs.reverse/\∃Hd,Hd=H'/\((∃(i:Nat) (X Y:ah) (u:Value),X≠.dead/\bs[i]?=some u/\H[i]?=some X/\Hd=H.set i Y/\(∀c,Bk Y u c->Bk X u c)/\(∀c,(a.eval s).ownBlock=some c->Bk X u c/\¬Bk Y u c)/\∀w',w.grownBy w' (a.eval s).ownBlock->aw S w w'->OR bs w' S Y u)\/((a.eval s).ownBlock=none/\Hd=H)):=by
      unfold apS at pe;split at pe
      ·rename_i ob hx;split at pe
       ·rename_i y' e' rs' hH;split at pe
        ·rename_i ee;injection pe with pe
         injection pe with q1 q2
         injection q2 with q2 q3
         subst q2;have q3:=eq_of_heq q3;subst q3 ee;obtain⟨hb,A,n,c,hv⟩:=bW he hx;exact⟨hs.o ob _ _ hH hb,_,rfl,.inl ⟨ob,_,.dead,_,(λe=>by cases e),hb,hH,q1.symm,(λ_ h=>by cases h),(λc hc=>⟨hc,λh=>by cases h⟩),λ_ _ _=>trivial⟩⟩
        ·cases pe
       ·cases pe
      ·rename_i hx;cases hte:ty e with
       | none=>rw[hte] at pe;cases pe
       | some y'=>
        rw[hte] at pe;injection pe with pe
        injection pe with q1 q2
        injection q2 with q2 q3
        subst q2;have q3:=eq_of_heq q3;subst q3;have hv:=(bW he hx).1;rw[hv];exact⟨Own.nil' w S Bz 0 e,_,rfl,.inr ⟨rfl,q1.symm⟩⟩
      ·rename_i q kt k hx;split at pe
       ·rename_i p j5 t' e' n f hH;split at pe
        ·rename_i hk _;obtain⟨rfl⟩:=hk;split at pe
         ·rename_i ee;injection pe with pe
          injection pe with q1 q2
          injection q2 with q2 q3
          subst q2;have q3:=eq_of_heq q3;subst q3 ee;obtain⟨b,l,hb,hv,fm⟩:=bW he hx;have kD:=hs.o q _ _ hH hb;obtain⟨gL,mn⟩:=uw.row Bz kD hv;exact⟨gL,_,rfl,.inl ⟨q,_,.mx p kt t' e' n f k,_,(λe=>by cases e),hb,hH,q1.symm,(λc hc=>xh.weak hc),mn,λw' hg hk=>uw.out kD hg hk (λb q=>⟨abx (Bz b q) hg.size,λhc=>(hs.nw _ _ _ b hH hb (xh.weak hc)).2 q⟩) λc hc=>(mn c hc).2⟩⟩
         ·cases pe
        ·cases pe
       ·cases pe
      ·cases pe
     obtain⟨gL,Hd,rfl,hd⟩:=gL;have hys:∃A n c ds,a.eval x=.slice A n c/\n=ys.length/\Flat w S ds ys/\(∀ad,A=some ad->cf w ad ds)/\(∀u∈ds,u.oneCell'=true)/\(A=none->n=0):=by
      have fromV:∀{b:AV},ki y b=some ys->VR bs w S b (a.eval x)->∃A n c ds,a.eval x=.slice A n c/\n=ys.length/\Flat w S ds ys/\(∀ad,A=some ad->cf w ad ds)/\(∀u∈ds,u.oneCell'=true)/\(A=none->n=0):=by
       intro b hu hv;obtain⟨A,n,c,e1,hr⟩:=nH (t:=.list y) hu hv;injection e1 with e1
       obtain⟨ds,q1,q2,q3⟩:=hr.flatAt;refine⟨A,n,c,ds,e1,hr.len.symm,q1,q2,q3,λhA=>?_⟩;rcases ac0 n with h0|h0
       ·exact h0
       ·obtain⟨_,_,_,h3⟩:=hr;obtain⟨_,_,e,_⟩:=h3 h0;rw[hA] at e;cases e
      unfold apY at hY;split at hY
      ·rename_i ob hx;split at hY
       ·rename_i y' e' rs' hH;obtain⟨hb,A,n,c,hv⟩:=bW he hx;unfold ki at hY;simp only at hY;split at hY
        ·rename_i q hq;injection hY with hY
         obtain⟨q⟩:=q;subst q hY;have ho:Own (α:=El y') w S 0 e' (a.eval x) rs'.reverse:=hs.o ob _ _ hH hb;obtain⟨ds,⟨_,h2⟩,hf,_⟩:=ho;rcases h2 with⟨j6,hn0⟩|⟨g,cap,cur,j6,_,hg,PN,_,AN,rX⟩
         ·have:rs'.reverse=[]:=aaY hn0;rw[this] at hf ⊢;exact⟨none,0,0,[],j6,rfl,.nil,(λad e=>by cases e),(λu hu=>by cases hu),λ_=>rfl⟩
         ·refine⟨_,_,_,ds,j6,rfl,hf,?_,?_,λe=>by cases e⟩
          ·rintro ad e j u hj;injection e with e
           subst e;have mA:(⟨g,0,none⟩:Addr).add j=⟨g,j,none⟩:=by unfold Addr.add;split<;>simp_all
           rw[mA,(show df w g e' cur from hg).cell];rw[<-rX,acB] at hj;split at hj
           ·simpa using hj
           ·cases hj
          ·clear AN rX;intro u hu;have:∀{ds:List Value} {xs:List (El y')},Flat w S ds xs->∀u∈ds,u.oneCell'=true:=by
            intro ds xs hf;induction hf with
            | nil=>intro u hu;cases hu
            | snoc _ hr ih=>
             intro u hu;rcases ab7.1 hu with hu|hu
             ·exact ih u hu
             ·exact XH hr u hu
           exact this hf u hu
        ·cases hY
       ·cases hY
      ·rename_i b _ hx;exact fromV hY (bW he hx)
      ·cases hY
     obtain⟨A,n,c,ds,hx,F3,yI,al8,U8,alx⟩:=hys;have bJ:(rs.reverse.length+ys.length)*(bytes+1)<=140737488355328:=by rw[aaP];exact hn
     have fin:∀v' w',Own (α:=El y) w' S 0 e v' (rs.reverse++ys)->w.grownBy w' (a.eval s).ownBlock->(v'.ownBlock=(a.eval s).ownBlock\/v'.ownBlock=some w.heap.size)->K (a.put o.dst v') w':=by
      intro v' w' q1 q2 q3;have bM:aw S w w':=aw.of_row q2 λb q=>⟨Bz b q,λe=>(Own.apart gL b q).2 e⟩;have j8:HS cx bs w' S Hd/\∀b,v'.ownBlock=some b->(cx.w0.heap.size<=b\/cx.M b)/\¬S b/\∀(i:Nat) (z:ah) (u:Value),Hd[i]?=some z->bs[i]?=some u->¬Bk z u b:=by
       have my:∀{Hx:List ah},(∀(i:Nat) (z:ah),Hx[i]?=some z->z=.dead\/H[i]?=some z)->∀b,b=w.heap.size->(cx.w0.heap.size<=b\/cx.M b)/\¬S b/\∀(i:Nat) (z:ah) (u:Value),Hx[i]?=some z->bs[i]?=some u->¬Bk z u b:=by
        rintro Hx hm b rfl;refine⟨.inl hs.size,λq=>acL _ (Bz _ q),λi z u hz hu e=>?_⟩;rcases hm i z hz with rfl|hz
        ·cases e
        ·exact acL _ ((hs.o i z u hz hu).lt e)
       rcases hd with⟨i,X,Y,u0,hXd,hb,hH,rfl,hXY,mn,hYo⟩|⟨hnb,rfl⟩
       ·have Vd:=(aad.1 hH).1;have hmm:∀(j:Nat) (z:ah),(H.set i Y)[j]?=some z->(j=i/\z=Y)\/(j≠i/\H[j]?=some z):=by
         intro j z hz;by_cases e:j=i
         ·subst e;rw[abv Vd] at hz;exact .inl ⟨rfl,(aaj hz).symm⟩
         ·rw[aaS (acE e)] at hz;exact .inr ⟨e,hz⟩
        refine⟨hs.setB hH hb q2 (λc hc=>(mn c hc).1) (hYo w' q2 bM) hXY,λb gp=>?_⟩;rcases q3 with q3|q3
        ·rw[q3] at gp;refine⟨(hs.nw i _ _ b hH hb (mn b gp).1).1,(hs.nw i _ _ b hH hb (mn b gp).1).2,λj z u hz hu e=>?_⟩;rcases hmm j z hz with⟨rfl,rfl⟩|⟨e2,hz⟩
         ·rw[hb] at hu;obtain rfl:=aaj hu;exact(mn b gp).2 e
         ·exact hs.ap i j _ _ _ _ b (acE e2) hH hb hz hu (mn b gp).1 e
        ·rw[q3] at gp;obtain rfl:=aaj gp;refine⟨.inl hs.size,λq=>acL _ (Bz _ q),λj z u hz hu e=>?_⟩;rcases hmm j z hz with⟨rfl,rfl⟩|⟨_,hz⟩
         ·rw[hb] at hu;obtain rfl:=aaj hu;exact acL _ ((hs.o _ _ _ hH hb).lt (hXY _ e))
         ·exact acL _ ((hs.o j z u hz hu).lt e)
       ·rw[hnb] at q2;have bX:Below w.heap.size w w':=⟨q2.os,q2.tape,q2.output,q2.size,λb hb=>q2.block b hb (by simp)⟩;refine⟨hs.grow bX (λ_ h=>h) (λ_ h=>.inl h),λb gp=>?_⟩;rcases q3 with q3|q3
        ·rw[q3,hnb] at gp;cases gp
        ·rw[q3] at gp;exact my (λ_ _ h=>.inr h) b (aaj gp).symm
      obtain⟨ci,bX⟩:=j8;have hHl:Hd.length=H.length:=by rcases hd with⟨i,_,_,_,_,_,_,rfl,_⟩|⟨_,rfl⟩<;>simp
      refine hK v' w' ci hHl (λi=>?_) bM (by show Own (α:=El y) w' S 0 e v' (ys.reverse++rs).reverse;rw[List.reverse_append,aat];exact q1) bX;rcases hd with⟨j,X,Y,_,hXd,_,hH,rfl,_⟩|⟨_,rfl⟩
      ·intro hi;have e:j≠i:=λe=>by subst e;rw[hH] at hi;exact hXd (aaj hi)
       rw[aaS e];exact hi
      ·exact λh=>h
     cases A with
     | some ad=>exact oy (α:=El y) s x t hop bytes hty rfl gL ad n c ds ys hx F3 yI (al8 ad rfl) U8 bJ (abz _) λv' w' q1 q2 q3=>fin v' w' q1 q2 q3
     | none=>
      have hn0:=alx rfl;subst hn0;have hy:ys=[]:=aaY F3.symm;subst hy;have PI:=gL;obtain⟨cs,py,_,_⟩:=PI;obtain⟨i,z,hi,_⟩:=hty.info;have ku:=i7 (P:=P) (ty:=o.type) hty.under hi py c;unfold Oper.wp;simp[execOp,hop,resolve,invoke,builtin,hx,ku,Result.andThen];exact fin _ _ (by rw[acx];exact gL) ⟨rfl,rfl,rfl,aaG _,λ_ _ _=>rfl⟩ (.inl rfl)
    ·exact h.elim
   ·exact h.elim
  ·exact h.elim
 ·exact h.elim
theorem Wk (hs:HS cx bs w S H) (he:ER m bs w S env a) {ty:TypeId->Option Ty} {t:TypeId} {s x:Operand} (hop:o.op=.call { callee:=.builtin .append,args:=#[s,x],argTypes:=#[t,t] }) {r:XV×List ah} (h:(agU P ty H t (ev env s) (ev env x)).hit r) (hK:∀v w' aZ,HS cx aZ w' S r.2->aw S w w'->iV bs aZ->XR aZ w' S r.1 v->K (a.put o.dst v) w'):o.wp P a w K Q:=by
 obtain⟨q,h1,h2⟩:=T.hit_bind h;have h2:(XV.one (.own H.length),q.1++[ah.row q.2.1 q.2.2.1 q.2.2.2])=r:=h2;subst h2;refine Jx hs he hop h1 λv w' ci hHl _ bM gL bX=>?_;have PG:=ci.pad;have hj:(q.1++[ah.dead])[q.1.length]?=some .dead:=by rw[aar (aaG _)];simp
 have tR:(bs++[undef])[q.1.length]?=some undef:=by rw[<-ci.len,aar (aaG _)];simp
 have jp:=PG.fill (x:=.row q.2.1 q.2.2.1 q.2.2.2) (v:=v) hj tR rfl gL (λb gp=>⟨(bX b gp).1,(bX b gp).2.1,λi z u hz hu e=>by
  by_cases hi:i<q.1.length
  ·rw[aay hi] at hz;rw[aay (by rw[ci.len];exact hi)] at hu;exact(bX b gp).2.2 i z u hz hu e
  ·have:z=.dead:=by
    have h1:=(aad.1 hz).1;have e2:i=q.1.length:=by simp at h1;omega
    subst e2;rw[hj] at hz;exact(aaj hz).symm
   subst this;cases e⟩)
 have qm:(q.1++[ah.dead]).set q.1.length (.row q.2.1 q.2.2.1 q.2.2.2)=q.1++[.row q.2.1 q.2.2.1 q.2.2.2]:=by
  rw[acH _ _ (aaG _)];simp
 have yG:(bs++[undef]).set q.1.length v=bs++[v]:=by
  rw[<-ci.len,acH _ _ (aaG _)];simp
 rw[qm,yG] at jp;obtain⟨A',n',c',Ld,_⟩:=gL.slice;refine hK v w' (bs++[v]) jp bM (nl _ _) ⟨?_,A',n',c',Ld⟩;rw[<-hHl,<-ci.len,aar (aaG _)];simp
end
def AW (i:Nat) (x:AV):AV->AV
 | .own o=>bif o==i then x else .own o
 | .mp o=>bif o==i then x else .mp o
 | a=>a
def agm (i:Nat) (x:AV):XV->XV
 | .one a=>.one (AW i x a)
 | .agg cs=>.agg (cs.map (AW i x))
 | .tup l=>.tup (l.map λp=>(p.1,p.2.map (AW i x)))
def Vw (i:Nat) (x:AV):ah->ah
 | .cells ty cs=>.cells ty (cs.map (AW i x))
 | .zip o2 e t tn gO done cur rest=>.zip o2 e t tn gO done (cur.map (AW i x)) rest
 | y=>y
def Vy (i:Nat) (st:dA):dA:=match (st.heap[i]?).bind jH with
 | some x=>⟨st.env.map λp=>(p.1,agm i x p.2),(st.heap.set i .dead).map (Vw i x)⟩
 | none=>st
def Vx:List AV->dA->dA
 | [],st=>st
 | c::l,st=>Vx l (match lZ c with
  | some i=>Vy i st
  | none=>st)
def AS (st:dA) (t:Nat):dA:=match st.env.lookup t with
 | some (.one (.own i))=>Vy i st
 | some (.one (.mp i))=>Vy i st
 | some (.agg cs)=>Vx cs st
 | _=>st
section
variable {m:Nat} {cx:Cx} {st:dA} {a:Act} {w:World}
theorem wy {i:Nat} (h:fc m cx st a w):fc m cx (Vy i st) a w:=by
 unfold Vy;split
 ·rename_i x iF;obtain⟨Y,hi,hx⟩:=Option.bind_eq_some_iff.1 iF;obtain⟨bs,S,hs,he⟩:=h;have Mu:i<bs.length:=by rw[hs.len];exact(aad.1 hi).1
  obtain⟨v,hv⟩:∃v,bs[i]?=some v:=⟨_,aac Mu⟩;have ho:=hs.o i _ v hi hv
  let S':Nat->Prop:=λb=>S b\/Bk Y v b
  have pe:∀b,S' b->b<w.heap.size:=λb q=>q.elim (λq=>(hs.s b q).1) λq=>ho.lt q;have vr:∀{y:AV} {u:Value},VR bs w S y u->VR bs w S' (AW i x y) u:=by
   intro y u hy;have up:VR bs w S' y u:=hy.keep (λ_ h=>.inl h) (aw.refl _ _) (iV.refl _);have one:∀o,lZ y=some o->AW i x y=(bif o==i then x else y)->VR bs w S' (AW i x y) u:=by
    intro o py e;rw[e];by_cases mw:o=i
    ·subst mw;rw[beq_self_eq_true];have hb:=vk hy py;rw[hv] at hb;obtain rfl:=aaj hb;exact uE ho hx (λ_ h=>.inl h) λ_ h=>.inr h
    ·rw[beq_eq_false_iff_ne.2 mw];exact up
   cases y with
   | own o=>exact one o rfl rfl
   | mp o=>exact one o rfl rfl
   | _=>exact up
  have cr:∀{ag:Bool} {cs:List AV} {u:Value},CR bs w S ag cs u->CR bs w S' ag (cs.map (AW i x)) u:=by
   intro ag cs u hc;unfold CR at hc ⊢;cases ag with
   | true=>obtain⟨vs,e,h⟩:=hc;exact⟨vs,e,h.mapL λ_ _ _ h=>vr h⟩
   | false=>obtain⟨a,rfl,h⟩:=hc;exact⟨_,rfl,vr h⟩
  have xr:∀{z:XV} {u:Value},XR bs w S z u->XR bs w S' (agm i x z) u:=by
   intro z u hx;cases z with
   | one b=>exact vr hx
   | agg cs=>exact cr (ag:=true) hx
   | tup l=>obtain⟨vs,e,h⟩:=hx;exact⟨vs,e,h.mapL λ_ _ _ h=>cr h⟩
  have get:∀{j:Nat} {y:ah},((st.heap.set i .dead).map (Vw i x))[j]?=some y->y=.dead\/(j≠i/\∃z,st.heap[j]?=some z/\y=Vw i x z):=by
   intro j y hy;rw[acG] at hy;by_cases hj:j=i
   ·subst hj;rw[abv (by rw[<-hs.len];exact Mu)] at hy;exact .inl (aaj hy).symm
   ·rw[aaS (acE hj)] at hy;cases hz:st.heap[j]? with
    | none=>rw[hz] at hy;cases hy
    | some z=>rw[hz] at hy;exact .inr ⟨hj,z,rfl,(aaj hy).symm⟩
  have bko:∀{z:ah} {u:Value} {b:Nat},Bk (Vw i x z) u b->Bk z u b:=by
   intro z u b h;cases z with
   | cells ty cs=>cases u with
    | pointer p=>cases p<;>exact h
    | _=>exact h
   | _=>exact h
  have far:∀{j:Nat} {z:ah} {u:Value} {b:Nat},j≠i->st.heap[j]?=some z->bs[j]?=some u->Bk z u b->¬S' b:=λhj hz hu hb q=>q.elim (hs.nw _ _ _ _ hz hu hb).2 λq=>hs.ap _ i _ _ _ v _ hj hz hu hi hv hb q;refine⟨bs,S',⟨by rw[acf,ab1];exact hs.len,?_,?_,?_,λb q=>⟨pe b q,?_⟩,λb q=>.inl (hs.s0 b q),hs.os,hs.tape,hs.output,hs.size,hs.old,hs.an⟩,he.d,he.s,λu x hx=>?_⟩
  ·intro j y u hy hu;rcases get hy with rfl|⟨hj,z,hz,rfl⟩
   ·exact trivial
   ·have kD:=hs.o j z u hz hu;have kp:=kD.keep (S':=S') (eh (Below.refl _ _) (aaG _) none) (by simp) (aw.refl _ _) (λ_ h=>.inl h) (λb q=>⟨pe b q,λe=>far hj hz hu e q⟩) (iV.refl _);cases z with
    | cells ty cs=>obtain⟨g,vs,rfl,h1,h2⟩:=kD;exact⟨g,vs,rfl,h1,h2.mapL λ_ _ _ h=>vr h⟩
    | zip o2 e' t' Nc gO done cur rest=>
     obtain⟨bE,ho',hz',q⟩:=kp;obtain⟨aei,mw,jR,_⟩:=kD;refine⟨aei,?_,⟨jR.1,λj r hr=>?_⟩,q⟩
     ·refine Own.widen mw (λ_ h=>.inl h) λb q=>⟨pe b q,λe=>far hj hz hu e.symm q⟩
     ·obtain⟨z1,z2,z3⟩:=jR.2 j r hr;exact⟨λx hx=>aA.keep (z1 x hx) (λ_ h=>.inl h) (aw.refl _ _),λe=>(z2 e).mapL λ_ _ _ h=>vr h,λe=>aA.keep (z3 e) (λ_ h=>.inl h) (aw.refl _ _)⟩
    | _=>exact kp
  ·intro j k y y2 u v2 b hjk hy hu hz j6 ci bX;rcases get hy with rfl|⟨_,z,gC,rfl⟩
   ·cases ci
   rcases get hz with rfl|⟨_,z2,jR,rfl⟩
   ·cases bX
   exact hs.ap j k z z2 u v2 b hjk gC hu jR j6 (bko ci) (bko bX)
  ·intro j y u b hy hu hb;rcases get hy with rfl|⟨hj,z,gC,rfl⟩
   ·cases hb
   exact⟨(hs.nw j z u b gC hu (bko hb)).1,far hj gC hu (bko hb)⟩
  ·exact q.elim (λq=>(hs.s b q).2) λq=>.inr (hs.nw i _ v b hi hv q).1
  ·obtain⟨p,hp,e⟩:=acu.1 hx;injection e with e1 e2
   subst e1 e2;obtain⟨v,h1,h2⟩:=he.k p.1 p.2 hp;exact⟨v,h1,xr h2⟩
 ·exact h
theorem AU:∀{l:List AV} {st:dA},fc m cx st a w->fc m cx (Vx l st) a w
 | [],_,h=>h
 | c::l,st,h=>AU (l:=l) (by
  split
  ·exact wy h
  ·exact h)
theorem Vv {t:Nat} (h:fc m cx st a w):fc m cx (AS st t) a w:=by
 unfold AS;split
 ·exact wy h
 ·exact wy h
 ·exact AU h
 ·exact h
theorem AT:∀{l:List Nat} {st:dA},fc m cx st a w->fc m cx (l.foldl AS st) a w
 | [],_,h=>h
 | t::l,st,h=>AT (l:=l) (st:=AS st t) (Vv h)
end
def iH:List (Nat×ah)->List ah->List ah
 | [],H=>H
 | p::l,H=>iH l (H.set p.1 p.2)
section
variable {cx:Cx} {bs:List Value} {w:World} {S:Nat->Prop} {H:List ah}
theorem ae6 (hs:HS cx bs w S H) {o:Nat} {Y:ah} {x:AV} {v:Value} (hH:H[o]?=some Y) (hx:jH Y=some x) (hv:bs[o]?=some v):HS cx bs w (λb=>S b\/Bk Y v b) (H.set o .dead)/\VR bs w (λb=>S b\/Bk Y v b) x v:=by
 have Bw:=(aad.1 hH).1;have hlt:∀b,(S b\/Bk Y v b)->b<w.heap.size:=λb q=>q.elim (λq=>(hs.s b q).1) λq=>(hs.o o _ v hH hv).lt q;have get:∀{j:Nat} {y:ah},(H.set o .dead)[j]?=some y->y=.dead\/(j≠o/\H[j]?=some y):=by
  intro j y hy;by_cases hj:j=o
  ·subst hj;rw[abv Bw] at hy;exact .inl (aaj hy).symm
  ·rw[aaS (acE hj)] at hy;exact .inr ⟨hj,hy⟩
 have far:∀{j:Nat} {z:ah} {u:Value} {b:Nat},j≠o->H[j]?=some z->bs[j]?=some u->Bk z u b->¬(S b\/Bk Y v b):=λhj hz hu hb q=>q.elim (hs.nw _ _ _ _ hz hu hb).2 λq=>hs.ap _ o _ _ _ v _ hj hz hu hH hv hb q;refine⟨⟨by rw[ab1];exact hs.len,?_,?_,?_,λb q=>⟨hlt b q,q.elim (λq=>(hs.s b q).2) λq=>.inr (hs.nw o _ v b hH hv q).1⟩,λb q=>.inl (hs.s0 b q),hs.os,hs.tape,hs.output,hs.size,hs.old,hs.an⟩,uE (hs.o o _ v hH hv) hx (λ_ h=>.inl h) λ_ h=>.inr h⟩
 ·intro j y u hy hu;rcases get hy with rfl|⟨hj,hz⟩
  ·exact trivial
  ·exact(hs.o j y u hz hu).keep (eh (Below.refl _ _) (aaG _) none) (by simp) (aw.refl _ _) (λ_ h=>.inl h) (λb q=>⟨hlt b q,λe=>far hj hz hu e q⟩) (iV.refl _)
 ·intro j k y y2 u v2 b hjk hy hu hz j6 ci bX;rcases get hy with rfl|⟨_,gC⟩
  ·cases ci
  rcases get hz with rfl|⟨_,jR⟩
  ·cases bX
  exact hs.ap j k y y2 u v2 b hjk gC hu jR j6 ci bX
 ·intro j y u b hy hu hb;rcases get hy with rfl|⟨hj,gC⟩
  ·cases hb
  exact⟨(hs.nw j y u b gC hu hb).1,far hj gC hu hb⟩
def kP (os:List Nat):List (Nat×ah):=os.map λo=>(o,.dead)
theorem AB:∀(os:List Nat) {S:Nat->Prop} {H:List ah},HS cx bs w S H->∃S',(∀b,S b->S' b)/\HS cx bs w S' (iH (kP os) H)/\∀o∈os,∀(y:ah) (x:AV) (v:Value),H[o]?=some y->jH y=some x->bs[o]?=some v->VR bs w S' x v
 | [],S,H,hs=>⟨S,λ_ h=>h,hs,λo ho=>by cases ho⟩
 | o::os,S,H,hs=>by
  have next:∀{S1:Nat->Prop},(∀b,S b->S1 b)->HS cx bs w S1 (H.set o .dead)->(∀(y:ah) (x:AV) (v:Value),H[o]?=some y->jH y=some x->bs[o]?=some v->VR bs w S1 x v)->∃S',(∀b,S b->S' b)/\HS cx bs w S' (iH (kP (o::os)) H)/\∀o'∈o::os,∀(y:ah) (x:AV) (v:Value),H[o']?=some y->jH y=some x->bs[o']?=some v->VR bs w S' x v:=by
   intro S1 h1 h2 h3;obtain⟨S',q1,q2,q3⟩:=AB os h2;refine⟨S',λb q=>q1 b (h1 b q),q2,λo' ho' y x v hH hx hv=>?_⟩;by_cases e2:o'=o
   ·subst e2;exact(h3 y x v hH hx hv).keep q1 (aw.refl _ _) (iV.refl _)
   ·rcases abs.1 ho' with e3|ho'
    ·exact absurd e3 e2
    ·exact q3 o' ho' y x v (by rw[aaS (acE e2)];exact hH) hx hv
  have mask:HS cx bs w S (H.set o .dead):=hs.mask (by rw[ab1]) λi x hx=>by
   by_cases e:o=i
   ·subst e;by_cases hl:o<H.length
    ·rw[abv hl] at hx;exact .inl (aaj hx).symm
    ·rw[abC (by rw[ab1];omega)] at hx;cases hx
   ·rw[aaS e] at hx;exact .inr hx
  cases hY:(H[o]?).bind jH with
  | none=>exact next (λ_ h=>h) mask λy x v h h2=>by rw[h] at hY;rw[show jH y=none from hY] at h2;cases h2
  | some x=>
   obtain⟨Y,hH,hx⟩:=Option.bind_eq_some_iff.1 hY;have Bw:o<bs.length:=by rw[hs.len];exact(aad.1 hH).1
   have hv:=aac Bw;obtain⟨k1,k2⟩:=ae6 hs hH hx hv;refine next (λ_ h=>.inl h) k1 λy' x' v' h1 h2 h3=>?_;rw[hH] at h1;obtain rfl:=aaj h1;rw[hx] at h2;obtain rfl:=aaj h2;rw[hv] at h3;obtain rfl:=aaj h3;exact k2
def BG (H:List ah) (a:AV):AV:=match lZ a with
 | some o=>((H[o]?).bind jH).getD a
 | none=>a
def vg (ps:List (Nat×List AV)):List Nat:=ps.flatMap λp=>p.2.filterMap lZ
def WN (H:List ah) (ps:List (Nat×List AV)):List (Nat×List AV):=ps.map λp=>(p.1,p.2.map (BG H))
end
section
variable {P:Program} {o:Oper} {cx:Cx} {bs aZ:List Value} {w w':World} {S:Nat->Prop} {H:List ah} {m:Nat} {env:Env} {a:Act} {cm:Nat} {ty:TypeId->Option Ty} {K:Act->World->Prop} {Q:Exit->Act->World->Prop}
theorem Rq:1000000000000<=maxLen:=by unfold maxLen;decide
theorem aku {kt:Kt} {y:Ty} {n n':Nat} {f f':kt.K->Option (El y)} {v:Value} {c:Nat} (h:Bk (.mp kt y n f) v c):Bk (.mp kt y n' f') v c:=by
 cases v with
 | map b=>cases b<;>exact h
 | _=>cases h
theorem NI {H:List ah} {cx:Cx} {bs:List Value} {w:World} {S:Nat->Prop} (h:HS cx bs w S H) (n:Nat):HS cx bs w S (H.set n .dead):=h.mask (by rw[ab1]) λi x hx=>by
 by_cases e:n=i
 ·subst e;by_cases hl:n<H.length
  ·rw[abv hl] at hx;exact .inl (aaj hx).symm
  ·rw[abC (by rw[ab1];omega)] at hx;cases hx
 ·rw[aaS e] at hx;exact .inr hx
theorem WL {t:TypeId} {mo x v:Operand} (hop:o.op=.mapUpdate t mo x v) (hd:o.dst=none) (hr:(Instr.mapUpdate t (a.eval mo) (a.eval x) (a.eval v)).run P w=.ok () w') (hK:K a w'):o.wp P a w K Q:=by
 unfold Oper.wp;simp[execOp,hop,hr,Result.andThen];show K (a.put o.dst undef) w';rw[hd];exact hK
theorem aj8 {kt:Kt} {y:Ty} {f:kt.K->Option (El y)} {g:kt.K->Option Value} {k:kt.K} {z:El y} {u:Value} (h:∀k,xe w S (f k) (g k)) (hz:aA.rep (α:=El y) w S [u] z) (k':kt.K):xe w S (lC kt f k z k') (lC kt g k u k'):=by
 by_cases e:k'=k
 ·subst e;rw[gj,gj];exact⟨u,rfl,hz⟩
 ·rw[j0 e,j0 e];exact h k'
noncomputable def NJ (l:List (Value×Value)) (k u:Value):List (Value×Value):=(k,u)::l.filter λp=>@decide (p.1≠k) (Classical.propDecidable _)
theorem Kd {kt:Kt} {g:kt.K->Option Value} {l:List (Value×Value)} {k:kt.K} {u:Value} (h:∀k u,g k=some u↔(kt.val k,u)∈l) (k':kt.K) (u':Value):lC kt g k u k'=some u'↔(kt.val k',u')∈NJ l (kt.val k) u:=by
 unfold NJ;rw[abs,ac6];by_cases e:k'=k
 ·subst e;rw[gj];constructor
  ·intro h;injection h with h;subst h;exact .inl rfl
  ·rintro(h|⟨_,h⟩)
   ·injection h with _ h;rw[h]
   ·exact absurd rfl (@of_decide_eq_true _ (Classical.propDecidable _) h)
 ·rw[j0 e,h];constructor
  ·intro h;exact .inr ⟨h,@decide_eq_true _ (Classical.propDecidable _) λe2=>e (Kt.val_inj e2)⟩
  ·rintro(h|⟨h,_⟩)
   ·injection h with h _;exact absurd (Kt.val_inj h) e
   ·exact h
theorem OG (hs:HS cx bs w S H) (he:ER m bs w S env a) (hP:IsP P) {t:TypeId} {mo x v:Operand} (hop:o.op=.mapUpdate t mo x v) (hd:o.dst=none) (hn:H[cm]?=some .dead) (hb:bs[cm]?=some undef) {r:List (Nat×ah)×Option ah} (h:(Zq P ty cm H t (ev env mo) (ev env x) (ev env v)).hit r) (hK:∀w' aZ,HS cx aZ w' S (iH (r.1++[(cm,r.2.getD .dead)]) H)->aw S w w'->iV bs aZ->(∀j,j≠cm->aZ[j]?=bs[j]?)->K a w'):o.wp P a w K Q:=by
 obtain rfl:=hP.eq;have Bz:∀b,S b->b<w.heap.size:=λb q=>(hs.s b q).1;unfold Zq at h;split at h
 ·rename_i mt ob c hm hbo hbv;obtain⟨e,hu,hz,Xj,gC,hzr⟩:=ID hm;split at h
  ·rename_i k j5 y' n f hk hH;split at h
   ·rename_i q z _ hun;obtain⟨q⟩:=q;injection q with q1 q2
    subst q1 q2;obtain⟨⟨tQ,PM⟩,h⟩:=h;have h:(_,_)=r:=h;subst h;have hkv:=AC he hk;obtain⟨ci,_⟩:=bW he hbo;obtain⟨bl,g,e1,hg,hf⟩:=hs.o ob _ _ hH ci;obtain⟨w',ku,hg',hgr⟩:=hg.store (u:=a.eval v) hu (abx PM Rq) tQ;have hB:Bk (.mp mt.kt mt.y n f) (a.eval mo) bl:=by rw[e1];rfl
    have bM:aw S w w':=aw.of_row hgr λb q=>⟨Bz b q,λe=>by injection e with e;subst e;exact(hs.nw _ _ _ _ hH ci hB).2 q⟩;have gD:aA.rep (α:=El mt.y) w' S [a.eval v] z:=aA.keep (nH hun (bW he hbv)) (λ_ h=>h) bM;have qm:=hs.setB hH ci hgr (λc hc=>aaj hc▸hB) (y:=.mp mt.kt mt.y (n+1) (lC mt.kt f k z)) ⟨bl,_,e1,hg',aj8 (λk=>(hf k).keep (λ_ h=>h) bM) gD⟩ (λc hc=>aku hc);refine WL hop hd (w':=w') (by rw[e1,hkv];exact ku) (hK w' bs (NI qm cm) bM (iV.refl _) λ_ _=>rfl)
   ·exact h.elim
  ·rename_i k q hk hH;split at h
   ·rename_i rr p j5 t' e' n f k' hQ;split at h
    ·rename_i t2 e2 rs hR;split at h
     ·rename_i De ht2 _ _;obtain⟨De⟩:=De;obtain⟨ht2⟩:=ht2;subst De ht2;split at h
      ·rename_i hc;obtain⟨rfl,rfl⟩:=hc;obtain⟨⟨tQ,wi,PM⟩,h⟩:=h;have wi:k=k':=wi;subst wi;have h:(_,_)=r:=h;subst h;have hkv:=AC he hk;obtain⟨ci,bl0,e0⟩:=bW he hbo;obtain⟨hbr,fm⟩:=bW he hbv;have Lh:q<bs.length:=by rw[hs.len];exact(aad.1 hQ).1
       have Lu:=aac Lh;obtain⟨bl,l,g,e1,h1,h2,h3,h4,h5,h6⟩:=hs.o q _ _ hQ Lu;rw[ci] at h1;injection h1 with h1
       obtain⟨w',ku,hg',hgr⟩:=h2.store (u:=a.eval v) hu (abx PM Rq) tQ;have hBm:∀c,c=bl\/(∃(k1:mt.kt.K) (u:Value),k1≠k/\g k1=some u/\u.ownBlock=some c)->xh mt.kt (·=k) bs[q] c:=λc hc=>by
        rw[e1];exact⟨bl,l,rfl,hc.imp id λ⟨k1,u,q1,q2,q3⟩=>⟨k1,u,q1,(h3 k1 u).1 q2,q3⟩⟩
       have bM:aw S w w':=aw.of_row hgr λb qq=>⟨Bz b qq,λe=>by injection e with e;subst e;exact(hs.nw _ _ _ _ hQ Lu (hBm _ (.inl rfl))).2 qq⟩;have s1:=hs.setB hQ Lu hgr (λc hc=>by injection hc with hc;subst hc;exact hBm _ (.inl rfl)) (y:=.dead) trivial (λ_ h=>by cases h);have ED:q≠rr:=λe=>by subst e;rw[hQ] at hR;cases hR
       have hqo:q≠p:=λe=>by subst e;rw[hQ] at hH;cases hH
       have Py:rr≠p:=λe=>by subst e;rw[hR] at hH;cases hH
       have Xo:cm≠q:=λe=>by subst e;rw[hQ] at hn;cases hn
       have hnr:cm≠rr:=λe=>by subst e;rw[hR] at hn;cases hn
       have PL:cm≠p:=λe=>by subst e;rw[hH] at hn;cases hn
       have mn:Own (α:=El t2) w' S 0 e2 (a.eval v) rs.reverse:=s1.o rr (.row t2 e2 rs) _ (by rw[aaS ED];exact hR) hbr;have s2:=NI s1 rr;have s3:=s2.setB (i:=p) (x:=.mq q) (y:=.mq cm) (row:=none) (w':=w') (by rw[aaS Py,aaS hqo];exact hH) ci ⟨rfl,rfl,rfl,aaG _,λ_ _ _=>rfl⟩ (λ_ h=>by cases h) ⟨bl0,e0⟩ (λ_ h=>by cases h);have hL:∀{i:Nat} {z:ah} {u:Value} {c:Nat},(((H.set q .dead).set rr .dead).set p (.mq cm))[i]?=some z->bs[i]?=some u->Bk z u c->i≠q/\i≠rr/\H[i]?=some z:=by
        intro i z u c hz hu hc;by_cases e1:i=p
        ·subst e1;rw[abv (by rw[ab1,ab1];exact(aad.1 hH).1)] at hz;obtain rfl:=aaj hz;cases hc
        ·rw[aaS (acE e1)] at hz;by_cases e2:i=rr
         ·subst e2;rw[abv (by rw[ab1];exact(aad.1 hR).1)] at hz;obtain rfl:=aaj hz;cases hc
         ·rw[aaS (acE e2)] at hz;by_cases e3:i=q
          ·subst e3;rw[abv (aad.1 hQ).1] at hz;obtain rfl:=aaj hz;cases hc
          ·rw[aaS (acE e3)] at hz;exact⟨e3,e2,hz⟩
       have hBr:∀c,(a.eval v).ownBlock=some c->Bk (.row t2 e2 rs) (a.eval v) c:=λc hc=>hc;have far:∀{c c':Nat},(a.eval v).ownBlock=some c->xh mt.kt (·=k) bs[q] c'->c≠c':=λ{c c'} hc Qe e=>by
        subst e;exact hs.ap rr q _ _ _ _ c (acE ED) hR hbr hQ Lu (hBr c hc) Qe
       have AK:=Kd (k:=k) (u:=a.eval v) h3;have EE:(((H.set q .dead).set rr .dead).set p (.mq cm))[cm]?=some .dead:=by
        rw[aaS (acE PL),aaS (acE hnr),aaS (acE Xo)];exact hn
       have hg2:∀k1 u,k1≠k->lC mt.kt g k (a.eval v) k1=some u->g k1=some u:=λk1 u e q=>by rw[j0 e] at q;exact q
       have hg1:∀u,lC mt.kt g k (a.eval v) k=some u->u=a.eval v:=λu q=>by rw[gj] at q;exact(aaj q).symm
       have s4:=s3.fill (j:=cm) (x:=.mr p mt.kt t2 e2 (n+1) (lC mt.kt f k rs)) (v:=sx bl (NJ l (mt.kt.val k) (a.eval v))) EE hb rfl
        ⟨bl,_,lC mt.kt g k (a.eval v),rfl,by rw[aaS PL,ci,h1],hg',AK,λk1 _=>by
         by_cases e:k1=k
         ·subst e;rw[gj,gj];exact⟨_,rfl,mn⟩
         ·rw[j0 e,j0 e];have:=h4 k1 e;cases hf:f k1 with
          | none=>rw[hf] at this;exact this
          | some xs=>
           rw[hf] at this;obtain⟨u,rW,cs,q1,q2,q3⟩:=this;refine⟨u,rW,cs,q1.kept hgr ?_,q2.keep (λ_ h=>h) bM,λc hc=>⟨abx (q3 c hc).1 hgr.size,(q3 c hc).2⟩⟩;cases e3:u.ownBlock with
           | none=>exact .inl rfl
           | some c=>exact .inr λe4=>h6 k1 u rW (by rw[e3];exact e4),
         λk1 k2 u1 u2 c q1 q2 fR hc1 hc2=>by
          by_cases a1:k1=k
          ·subst a1;obtain rfl:=hg1 _ q1;exact far hc1 (hBm c (.inr ⟨k2,u2,acE fR,hg2 _ _ (acE fR) q2,hc2⟩)) rfl
          ·by_cases a2:k2=k
           ·subst a2;obtain rfl:=hg1 _ q2;exact far hc2 (hBm c (.inr ⟨k1,u1,a1,hg2 _ _ a1 q1,hc1⟩)) rfl
           ·exact h5 k1 k2 u1 u2 c (hg2 _ _ a1 q1) (hg2 _ _ a2 q2) fR hc1 hc2,
         λk1 u q1 hc=>by
          by_cases a1:k1=k
          ·subst a1;obtain rfl:=hg1 _ q1;exact far hc (hBm bl (.inl rfl)) rfl
          ·exact h6 k1 u (hg2 _ _ a1 q1) hc⟩
        (λc hc=>by
         have hcc:xh mt.kt (·=k) bs[q] c\/(a.eval v).ownBlock=some c:=by
          obtain⟨b',l',e2,hc⟩:=hc;obtain⟨rfl,rfl⟩:=lh e2;rcases hc with rfl|⟨k1,u,_,rW,hc⟩
          ·exact .inl (hBm _ (.inl rfl))
          ·have rW:=(AK k1 u).2 rW;by_cases a1:k1=k
           ·subst a1;obtain rfl:=hg1 _ rW;exact .inr hc
           ·exact .inl (hBm c (.inr ⟨k1,u,a1,hg2 _ _ a1 rW,hc⟩))
         rcases hcc with hcc|hcc
         ·refine⟨(hs.nw _ _ _ _ hQ Lu hcc).1,(hs.nw _ _ _ _ hQ Lu hcc).2,λi y u hy rW hc1=>?_⟩;obtain⟨i1,i2,i3⟩:=hL hy rW hc1;exact hs.ap i q _ _ _ _ c i1 i3 rW hQ Lu hc1 hcc
         ·refine⟨(hs.nw _ _ _ _ hR hbr (hBr c hcc)).1,(hs.nw _ _ _ _ hR hbr (hBr c hcc)).2,λi y u hy rW hc1=>?_⟩;obtain⟨i1,i2,i3⟩:=hL hy rW hc1;exact hs.ap i rr _ _ _ _ c i2 i3 rW hR hbr hc1 (hBr c hcc))
       refine WL hop hd (w':=w') (by rw[h1,hkv];exact ku) (hK w' _ s4 bM (λi u hu qZ=>?_) λj hj=>aaS (acE hj));rw[aaS (λe=>by subst e;rw[hb] at hu;obtain rfl:=aaj hu;cases qZ)];exact hu
      ·exact h.elim
     ·exact h.elim
    ·exact h.elim
   ·exact h.elim
  ·exact h.elim
 ·exact h.elim
end
end Go.Proofs.YtdbpbfglhbiadaaGreatDoor
