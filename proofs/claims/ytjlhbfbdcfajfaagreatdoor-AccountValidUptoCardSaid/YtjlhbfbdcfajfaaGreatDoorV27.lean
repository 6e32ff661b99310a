/- MSeq1 MFrz0 MSeq2 -/
import Derived.Test.YtjlhbfbdcfajfaaGreatDoorV00
import Derived.Test.YtjlhbfbdcfajfaaGreatDoorV26
import Derived.Test.YtjlhbfbdcfajfaaGreatDoorV15
set_option maxHeartbeats 8000000
set_option maxRecDepth 100000
namespace Go.Proofs.YtjlhbfbdcfajfaaGreatDoor
open Go Go.RowKit
def zt (P:Program) (H:List ai) (t:TypeId) (x y:Option XV):Option (Nat×ai):=match x,y.bind XV.cells,P.info? t with
 | some (.one (.ptr o off)),some ys,some i=>match H[o]? with
  | some (.cells ty cs)=>if i.size=ys.length∧off+ys.length≤cs.length then some (o,.cells ty (cs.take off++ys++cs.drop (off+ys.length))) else none
  | _=>none
 | some (.one (.elo o i sz off)),some ys,some j=>match H[o]? with
  | some (.row t e rs)=>if sz=aK.sz (El t)∧j.size=ys.length∧off+ys.length≤sz then(un t ((lR t (rs.reverse.getD i (Bh t))).take off++ys++(lR t (rs.reverse.getD i (Bh t))).drop (off+ys.length))).map fun z=>(o,.row t e (rs.reverse.set i z).reverse) else none
  | _=>none
 | some (.one (.sub o o2 off)),some ys,some j=>match H[o]? with
  | some (.zip PY e t tn hJ done cur rest)=>if o2=PY∧j.size=ys.length∧off+ys.length≤cur.length then some (o,.zip PY e t tn hJ done (cur.take off++ys++cur.drop (off+ys.length)) rest) else none
  | _=>none
 | _,_,_=>none
def VB (P:Program) (H:List ai) (t:TypeId) (x y:Option XV):Option (List ai):=(zt P H t x y).map fun p=>H.set p.1 p.2
def Zs (ty:TypeId→Option Ty) (H:List ai) (e:TypeId):Option XV→Option (List ai×(y:Ty)×List (El y))
 | some (.one (.own o))=>match H[o]? with
  | some (.row y e' rs)=>if e'=e then some (H.set o .dead,⟨y,rs⟩) else none
  | _=>none
 | some (.one (.val (.slice none 0 0)))=>(ty e).map fun y=>(H,⟨y,[]⟩)
 | some (.one (.mrow q kt k))=>match H[q]? with
  | some (.mr p kT t e' n f)=>match Kt.eq? kt kT with
   | some h=>if e'=e then some (H.set q (.mx p kT t e' n f (h.down▸k)),⟨t,(f (h.down▸k)).getD []⟩) else none
   | none=>none
  | _=>none
 | _=>none
def Zr (H:List ai) (y:Ty) (x:Option XV):Option (List (El y)):=match x with
 | some (.one (.own o))=>match H[o]? with
  | some (.row y' _ rs)=>(lj y (.list y' rs.reverse false))
  | _=>none
 | some (.one a)=>lj y a
 | _=>none
def slI (P:Program) (t:TypeId):Option (TypeId×Nat×Nat):=match P.underlying t with
 | some (.slice e)=>(P.info? e).bind fun i=>i.zero.bind fun z=>if z.cells.size=i.size∧0<i.size then some (e,i.size,i.bytes) else none
 | _=>none
def FV (P:Program) (ty:TypeId→Option Ty) (H:List ai) (t:TypeId) (s x:Option XV):T (List ai×(y:Ty)×TypeId×List (El y)):=match slI P t with
 | some (e,sz,bytes)=>match Zs ty H e s with
  | some (H',⟨y,rs⟩)=>match Zr H y x with
   | some ys=>if sz=aK.sz (El y) then .nd ((rs.length+ys.length)*(bytes+1)≤140737488355328) (.lf (H',⟨y,e,ys.reverse++rs⟩)) else .bad
   | none=>.bad
  | none=>.bad
 | none=>.bad
def acM (P:Program) (ty:TypeId→Option Ty) (H:List ai) (t:TypeId) (s x:Option XV):T (XV×List ai):=(FV P ty H t s x).bind fun r=>.lf (.one (.own H.length),r.1++[.row r.2.1 r.2.2.1 r.2.2.2])
section
variable {P:Program} {o:Oper} {cx:Cx} {bs bm:List Value} {w w':World} {S:Nat→Prop} {H:List ai} {m:Nat} {env:Env} {a:Act} {cR:Nat} {K:Act→World→Prop} {Q:Exit→Act→World→Prop}
theorem U8 {t:Ty} {cs:List Value} {x:El t} (h:aK.rep w S cs x):∀u∈cs,u.oneCell'=true:=fun u hu=>by
 obtain⟨y,_,hy⟩:=(j2 (bs:=[]) h).right u hu;exact hy.one
theorem RS.flatAt {t:Ty} {A:Option Addr} {n c:Nat} {ys:List (El t)} (h:RS w S A n c ys):∃ds,Flat w S ds ys∧(∀ad,A=some ad→cK w ad ds)∧∀u∈ds,u.oneCell'=true:=by
 have key:∀k,k≤n→∃ds,Flat w S ds (ys.take k)∧(∀ad,A=some ad→cK w ad ds)∧∀u∈ds,u.oneCell'=true:=by
  intro k;induction k with
  | zero=>intro _;exact⟨[],by simpa using Flat.nil,fun ad _ j u hj=>by simp at hj,fun u hu=>by cases hu⟩
  | succ k ih=>
   intro hk;obtain⟨ds,h1,h2,h3⟩:=ih (by omega);obtain⟨b,p,x,cs,rfl,_,hx,hr,hc⟩:=h.at_ (k:=k) (by omega);refine⟨ds++cs,by rw[jh hx];exact .snoc h1 hr,fun ad e j u hj=>?_,fun u hu=>?_⟩
   ·have hl:=h1.length;have bM:=h.len;rw[ab4,adI (by omega)] at hl;rw[List.getElem?_append] at hj;split at hj
    ·exact h2 ad e j u hj
    ·injection e with e
     subst e;have:=hc _ _ hj;have nj:(⟨b,p,none⟩:Addr).add j=⟨b,p+(k*aK.sz (El t)+(j-ds.length)),none⟩:=by
      have:k*aK.sz (El t)+(j-ds.length)=j:=by omega
      rw[this];unfold Addr.add;split<;>simp_all
     rw[nj];exact this
   ·rcases acb.1 hu with hu|hu
    ·exact h3 u hu
    ·exact U8 hr u hu
 have:=key n (aaW _)
 rwa [acV (by rw[h.len];exact aaW _)] at this
theorem Flat.setN {α:Type} [aK α] {cs us:List Value} {xs:List α} {y:α} (h:Flat w S cs xs) (hu:aK.rep w S us y):∀{i:Nat},i<xs.length→Flat w S (cs.take (i*aK.sz α)++(us++cs.drop ((i+1)*aK.sz α))) (xs.set i y):=by
 induction h with
 | nil=>intro i hi;exact absurd hi (Nat.not_lt_zero _)
 | @snoc cs ds xs x hf hr ih=>
  intro i hi;have hl:=hf.length;have hd:=aK.len hr;by_cases hx:i<xs.length
  ·have h1:(i+1)*aK.sz α≤cs.length:=by rw[hl];exact ac4 _ hx
   have h2:i*aK.sz α≤cs.length:=by rw[hl];exact ac4 _ (Nat.le_of_lt hx)
   rw[List.set_append_left _ _ hx,acv h2,List.drop_append_of_le_length h1,←abQ us,←abQ];exact .snoc (ih hx) hr
  ·have e:i=xs.length:=by simp at hi;omega
   subst e;have h3:(cs++ds).length≤(xs.length+1)*aK.sz α:=by rw[aa8,hl,hd,Nat.add_mul,Nat.one_mul];exact aaW _
   rw[acN _ _ (aaW _),Nat.sub_self,aa5 h3,←hl,acv (aaW _),List.take_length,ado];exact .snoc hf hu
theorem G1 {cur ys:List Value} {N k l:Nat} (hl:ys.length=l) (h:k+l≤N) (hc:N≤cur.length):(cur.take k++ys++cur.drop (k+l)).take N=(cur.take N).take k++ys++(cur.take N).drop (k+l):=by
 have h1:(cur.take k++ys).length=k+l:=by rw[aa8,ab4,hl];omega
 rw[List.take_append,acV (by omega),h1,List.take_take,adI (by omega),List.drop_take]
theorem M6 {cs ds ys:List Value} {k sz off l:Nat} (hl:ys.length=l) (hd:ds.length=sz) (hc:∀j u,ds[j]?=some u→cs[k+j]?=some u) (ho:off+l≤sz):cs.take k++((ds.take off++ys++ds.drop (off+l))++cs.drop (k+sz))=cs.take (k+off)++ys++cs.drop (k+off+l):=by
 have e:(cs.drop k).take sz=ds:=by
  refine acW fun j=>?_;by_cases hj:j<sz
  ·rw[List.getElem?_take_of_lt hj,acy];have:=hc j _ (aac (by omega));rw[this,aac (by omega)]
  ·rw[abL (by rw[ab4];omega),abL (by omega)]
 have h1:ds.take off=(cs.drop k).take off:=by rw[←e,List.take_take,adI (by omega)]
 have h2:ds.drop (off+l)++cs.drop (k+sz)=cs.drop (k+off+l):=by
  have:cs.drop (k+sz)=(cs.drop k).drop sz:=by rw[adM]
  rw[this,←List.drop_append_of_le_length (by omega)];conv=>lhs;rw[←e]
  rw[List.take_append_drop,adM,act]
 rw[h1,abQ,abQ,h2,←abQ,←abQ,←List.take_add]
theorem Gj (hs:HS cx bs w S H) (he:ER m bs w S env a) {t:TypeId} {x y:Operand} (hop:o.op=.store t x y) (hd:o.dst=none) {p:Nat×ai} (h:zt P H t (ev env x) (ev env y)=some p) (hK:∀w',HS cx bs w' S (H.set p.1 p.2)→aA S w w'→K a w'):o.wp P a w K Q:=by
 unfold zt at h;split at h
 ·rename_i ob off ys i hx hy hi;split at h
  ·rename_i ty cs hH;split at h
   ·rename_i hc;injection h with h
    subst h;obtain⟨g,hg,hv⟩:=cM he hx;cases e:ev env y with
    | none=>rw[e] at hy;cases hy
    | some z=>
     rw[e] at hy;have NA:=XV.cells_ok hy (cM he e);obtain⟨g',vs,e2,hk,hf⟩:=hs.o ob _ _ hH hg;injection e2 with e2
     injection e2 with e2
     injection e2 with e2
     subst e2;have hl:ys.length=(a.eval y).cells.size:=NA.length.trans abI;have hl2:=hf.length;have hr:=zB (P:=P) (t:=t) (v:=a.eval y) (k:=off) hk (by rw[hi];exact congrArg some (hc.1.trans hl)) (by have h1:vs.toArray.size=vs.length:=abW;rw[h1];rw[hl] at hc;omega) (fun u hu=>by
      obtain⟨q,_,hq⟩:=NA.right u hu;exact hq.one)
     have hp:=PI.setRow w g (vs.toArray.toList.take off++(a.eval y).cells.toList++vs.toArray.toList.drop (off+(a.eval y).cells.size)).toArray;have nY:dy (w.setRow g _) g ty _:=setRow_heap w g vs.toArray (vs.toArray.toList.take off++(a.eval y).cells.toList++vs.toArray.toList.drop (off+(a.eval y).cells.size)).toArray ty (0,0) hk;have bS:=hs.keeps hH hg hp.g;unfold Oper.wp execOp;simp only[hop,hv,Sem.run_bind,hr,Result.andThen_ok,Sem.run_pure,Oper.upon_skip,hd];refine hK _ (hs.set hH hg hp.g ⟨g,_,rfl,nY,?_⟩ (.inl rfl)) bS;have hf':=hf.mono (R':=VR bs (w.setRow g _) S) fun _ _ q=>q.keep (fun _ h=>h) bS (jq.refl _);have WQ:=NA.mono (R':=VR bs (w.setRow g _) S) fun _ _ q=>q.keep (fun _ h=>h) bS (jq.refl _);rw[hl];exact((hf'.take off).append WQ).append (hf'.drop _)
   ·cases h
  ·cases h
 ·rename_i ob i sz off ys j hx hy hj;split at h
  ·rename_i ty e' rs hH;split at h
   ·rename_i hc;obtain⟨rfl,hc1,hc2⟩:=hc;cases hz:un ty ((lR ty (rs.reverse.getD i (Bh ty))).take off++ys++(lR ty (rs.reverse.getD i (Bh ty))).drop (off+ys.length)) with
    | none=>rw[hz] at h;cases h
    | some z=>
     rw[hz] at h;obtain rfl:=aae h;obtain⟨g,n,c,hg,da,hv⟩:=cM he hx;cases e:ev env y with
     | none=>rw[e] at hy;cases hy
     | some z'=>
      rw[e] at hy;have NA:=XV.cells_ok hy (cM he e);have hl:ys.length=(a.eval y).cells.toList.length:=NA.length;have xH:(a.eval y).cells.toList.length=(a.eval y).cells.size:=abI;have ho:Own (α:=El ty) w S 0 e' (.slice (some ⟨g,0,none⟩) n c) rs.reverse:=hs.o ob _ _ hH hg;obtain⟨A',n',c',NF,hn⟩:=ho.slice;injection NF with _ uz _
      subst uz;obtain⟨cs,q1,q2,q3⟩:=ho;have i7:rs.reverse[i]?=some (rs.reverse.getD i (Bh ty)):=by rw[aar,aac (by omega)];rfl
      obtain⟨ds,hr,hcd⟩:=q2.get i _ i7;obtain⟨uh,h2⟩:=q1;rcases h2 with⟨kU,_⟩|⟨g',cap,cur,kU,kW,hh,NR,K1,hcs,Ay⟩
      ·cases kU
      injection kU with kU _ nZ
      injection kU with kU
      injection kU with kU
      subst kU nZ;have hk:dy w g e' cur:=hh;have N7:i*aK.sz (El ty)+off+ys.length≤n*aK.sz (El ty):=by
       have:(i+1)*aK.sz (El ty)≤n*aK.sz (El ty):=ac4 _ da;rw[Nat.add_mul,Nat.one_mul] at this;omega
      have abO:n*aK.sz (El ty)≤cur.size:=by rw[hcs,hn];exact ac4 _ NR
      have eM:=zB (P:=P) (t:=t) (v:=a.eval y) (k:=i*aK.sz (El ty)+off) hk (by rw[hj];exact congrArg some (hc1.trans (hl.trans xH))) (by omega) (fun u hu=>by
       obtain⟨q,_,hq⟩:=NA.right u hu;exact hq.one)
      have hp:=PI.setRow w g (cur.toList.take (i*aK.sz (El ty)+off)++(a.eval y).cells.toList++cur.toList.drop (i*aK.sz (El ty)+off+(a.eval y).cells.size)).toArray;have nY:dy (w.setRow g _) g e' _:=setRow_heap w g cur (cur.toList.take (i*aK.sz (El ty)+off)++(a.eval y).cells.toList++cur.toList.drop (i*aK.sz (El ty)+off+(a.eval y).cells.size)).toArray e' (0,0) hk;have bS:=hs.keeps hH hg hp.g;unfold Oper.wp execOp;simp only[hop,hv,Sem.run_bind,eM,Result.andThen_ok,Sem.run_pure,Oper.upon_skip,hd];refine hK _ (hs.set hH hg hp.g ?_ (.inl rfl)) bS;have oX:aK.rep w S (ds.take off++(a.eval y).cells.toList++ds.drop (off+ys.length)) z:=lh hz (((j2 hr).take off |>.append NA).append ((j2 hr).drop _));have hF:=(q2.setN oX (i:=i) (by omega)).keep (fun _ h=>h) bS;have hds:=aK.len hr;rw[Nat.add_mul,Nat.one_mul,M6 (by rw[←hl]) hds hcd hc2] at hF;show Own (α:=El ty) _ S 0 e' _ (rs.reverse.set i z).reverse.reverse;rw[aal];refine⟨_,?_,hF,fun b q=>⟨abw (hs.s b q).1 hp.g.size,(q3 b q).2⟩⟩;rw[abN,←hn];have abX:cur.toList.length=cur.size:=abI;have sK:=G1 (cur:=cur.toList) (ys:=(a.eval y).cells.toList) (N:=n*aK.sz (El ty)) (k:=i*aK.sz (El ty)+off) hl.symm N7 (by omega);rw[←hn,] at Ay;rw[Ay] at sK;refine⟨?_,.inr ⟨g,c,_,rfl,kW,nY,by rw[hn];exact NR,K1,?_,?_⟩⟩
      ·rw[←sK,ab4];simp only[aa8,ab4,acL];omega
      ·rw[abW];simp only[aa8,ab4,acL];omega
      ·rw[←sK,←xH,←hl]
   ·cases h
  ·cases h
 ·rename_i ob o2 off ys j hx hy hj;split at h
  ·rename_i PY e' ty tn hJ done cur0 rest hH;split at h
   ·rename_i hc;obtain⟨rfl,hc1,hc2⟩:=hc;injection h with h
    subst h;obtain⟨g,p,hg2,hv⟩:=cM he hx;cases e:ev env y with
    | none=>rw[e] at hy;cases hy
    | some z'=>
     rw[e] at hy;have NA:=XV.cells_ok hy (cM he e);have hl:ys.length=(a.eval y).cells.toList.length:=NA.length;have xH:(a.eval y).cells.toList.length=(a.eval y).cells.size:=abI;have hob:ob<bs.length:=by rw[hs.len];exact(aab.1 hH).1
     have hg:=aac hob;have agQ:=hs.o ob _ _ hH hg;obtain⟨bN,n,c,r,hvo,Hp,ho,hz,hr,uh⟩:=LL hs hH hg hg2;have hd:done.length<bN.length:=(aab.1 hr).1;have hf:=(hz.2 _ _ hr).2.1 rfl;have yE:r.cells.length=aK.sz (El ty):=r.len;have abY:cur0.length=aK.sz (El ty):=hf.length.trans yE;obtain⟨cs,q1,q2,q3⟩:=ho;obtain⟨ahn,h2⟩:=q1;rw[hvo] at h2;rcases h2 with⟨kU,_⟩|⟨g',cap,cur,kU,kW,hh,NR,K1,hcs,Ay⟩
     ·cases kU
     injection kU with kU hn nZ
     injection kU with kU
     injection kU with kU
     subst kU nZ hn;have jB:aK.sz (j6 (aK.sz (El ty)))=aK.sz (El ty):=rfl;rw[jB] at ahn hcs Ay;have hk:dy w g e' cur:=hh;subst Hp;have N7:done.length*aK.sz (El ty)+off+ys.length≤bN.length*aK.sz (El ty):=by
      have:(done.length+1)*aK.sz (El ty)≤bN.length*aK.sz (El ty):=ac4 _ hd;rw[Nat.add_mul,Nat.one_mul] at this;omega
     have abO:bN.length*aK.sz (El ty)≤cur.size:=by rw[hcs];exact ac4 _ NR
     have eM:=zB (P:=P) (t:=t) (v:=a.eval y) (k:=done.length*aK.sz (El ty)+off) hk (by rw[hj];exact congrArg some (hc1.trans (hl.trans xH))) (by omega) (fun u hu=>by
      obtain⟨q,_,hq⟩:=NA.right u hu;exact hq.one)
     have hp:=PI.setRow w g (cur.toList.take (done.length*aK.sz (El ty)+off)++(a.eval y).cells.toList++cur.toList.drop (done.length*aK.sz (El ty)+off+(a.eval y).cells.size)).toArray;have nY:dy (w.setRow g _) g e' _:=setRow_heap w g cur (cur.toList.take (done.length*aK.sz (El ty)+off)++(a.eval y).cells.toList++cur.toList.drop (done.length*aK.sz (El ty)+off+(a.eval y).cells.size)).toArray e' (0,0) hk;have qQ:bk (.zip o2 e' ty tn hJ done cur0 rest) bs[ob]=some g:=by rw[hvo];rfl
     have hpg:w.grownBy (w.setRow g (cur.toList.take (done.length*aK.sz (El ty)+off)++(a.eval y).cells.toList++cur.toList.drop (done.length*aK.sz (El ty)+off+(a.eval y).cells.size)).toArray) (bk (.zip o2 e' ty tn hJ done cur0 rest) bs[ob]):=by rw[qQ];exact hp.g
     have bS:=hs.keeps hH hg hpg;unfold Oper.wp execOp;simp only[hop,hv,Sem.run_bind,eM,Result.andThen_ok,Sem.run_pure,Oper.upon_skip];rw[‹o.dst=none›];refine hK _ (hs.set hH hg hpg ?_ (.inl rfl)) bS;have WQ:F2 (VR bs w S) (cur0.take off++ys++cur0.drop (off+ys.length)) (r.cells.take off++(a.eval y).cells.toList++r.cells.drop (off+ys.length)):=((hf.take off).append NA).append (hf.drop _);have Fh:(r.cells.take off++(a.eval y).cells.toList++r.cells.drop (off+ys.length)).length=aK.sz (El ty):=by
      simp only[aa8,ab4,acL];omega
     have hF:=(q2.setN (y:=(⟨_,Fh⟩:j6 (aK.sz (El ty)))) rfl (i:=done.length) hd).keep (fun _ h=>h) bS;obtain⟨ds,hds,hcd⟩:=q2.get _ _ hr;have hds:ds=r.cells:=hds;subst hds;rw[jB] at hF hcd;rw[Nat.add_mul,Nat.one_mul,M6 (by rw[←hl]) yE hcd (by rw[abY] at hc2;exact hc2)] at hF;obtain⟨_,_,_,hl2,u,sH,rF,hu3⟩:=agQ;refine⟨bN.set done.length ⟨_,Fh⟩,?_,⟨by rw[abN];exact hz.1,fun j r' jQ=>?_⟩,hl2,u,sH,rF,hu3⟩
     ·rw[hvo];refine⟨_,?_,hF,fun b q=>⟨abw (hs.s b q).1 hp.g.size,by rw[←hvo];exact(q3 b q).2⟩⟩;rw[abN];have abX:cur.toList.length=cur.size:=abI;have sK:=G1 (cur:=cur.toList) (ys:=(a.eval y).cells.toList) (N:=bN.length*aK.sz (El ty)) (k:=done.length*aK.sz (El ty)+off) hl.symm N7 (by omega);rw[Ay] at sK;refine⟨?_,.inr ⟨g,c,_,rfl,kW,nY,NR,K1,?_,?_⟩⟩
      ·rw[jB,←sK,ab4];simp only[aa8,ab4,acL];omega
      ·rw[jB,abW];simp only[aa8,ab4,acL];omega
      ·rw[jB,←sK,←xH,←hl]
     ·by_cases ej:j=done.length
      ·subst ej;rw[abc hd] at jQ;obtain rfl:=aae jQ;exact⟨fun x hx=>absurd (aab.1 hx).1 (acQ _),fun _=>WQ.mono fun _ _ q=>q.keep (fun _ h=>h) bS (jq.refl _),fun q=>absurd q (acQ _)⟩
      ·rw[aaY (acJ ej)] at jQ;obtain⟨z1,z2,z3⟩:=hz.2 j r' jQ;exact⟨fun x hx=>aK.keep (z1 x hx) (fun _ h=>h) bS,fun q=>absurd q ej,fun q=>aK.keep (z3 q) (fun _ h=>h) bS⟩
   ·cases h
  ·cases h
 ·cases h
theorem Qz (hs:HS cx bs w S H) (he:ER m bs w S env a) {t:TypeId} {x y:Operand} (hop:o.op=.store t x y) (hd:o.dst=none) {H':List ai} (h:VB P H t (ev env x) (ev env y)=some H') (hK:∀w',HS cx bs w' S H'→aA S w w'→K a w'):o.wp P a w K Q:=by
 unfold VB at h;cases hp:zt P H t (ev env x) (ev env y) with
 | none=>rw[hp] at h;cases h
 | some p=>
  rw[hp] at h;obtain rfl:=aae h;exact Gj hs he hop hd hp hK
theorem Iu (hs:HS cx bs w S H) (he:ER m bs w S env a) {ty:TypeId→Option Ty} {t:TypeId} {s x:Operand} (hop:o.op=.call { callee:=.builtin .append,args:=#[s,x],argTypes:=#[t,t] }) {r:List ai×(y:Ty)×TypeId×List (El y)} (h:(FV P ty H t (ev env s) (ev env x)).hit r) (hK:∀v w',HS cx bs w' S r.1→r.1.length=H.length→(∀i:Nat,H[i]?=some ai.dead→r.1[i]?=some ai.dead)→aA S w w'→Own (α:=El r.2.1) w' S 0 r.2.2.1 v r.2.2.2.reverse→(∀b,v.ownBlock=some b→(cx.w0.heap.size≤b∨cx.M b)∧¬S b∧∀(i:Nat) (z:ai) (u:Value),r.1[i]?=some z→bs[i]?=some u→¬Bk z u b)→K (a.put o.dst v) w'):o.wp P a w K Q:=by
 unfold FV at h;split at h
 ·rename_i e sz bytes fJ;split at h
  ·rename_i H' y rs pT;split at h
   ·rename_i ys hY;split at h
    ·rename_i jB;obtain⟨hn,h⟩:=h;have h:(_,_)=r:=h;subst h;have hty:gi P t e (aK.sz (El y)) bytes:=by
      unfold slI at fJ;cases hu:P.underlying t with
      | none=>rw[hu] at fJ;cases fJ
      | some d=>
       rw[hu] at fJ;cases d with
       | slice e'=>
        have fJ:((P.info? e').bind fun i=>i.zero.bind fun z=>if z.cells.size=i.size∧0<i.size then some (e',i.size,i.bytes) else none)=some (e,sz,bytes):=fJ;cases hi:P.info? e' with
        | none=>rw[hi] at fJ;cases fJ
        | some i=>
         rw[hi] at fJ;have fJ:(i.zero.bind fun z=>if z.cells.size=i.size∧0<i.size then some (e',i.size,i.bytes) else none)=some (e,sz,bytes):=fJ;cases hz:i.zero with
         | none=>rw[hz] at fJ;cases fJ
         | some z=>
          rw[hz] at fJ;have fJ:(if z.cells.size=i.size∧0<i.size then some (e',i.size,i.bytes) else none)=some (e,sz,bytes):=fJ;split at fJ
          ·rename_i hc;injection fJ with fJ
           injection fJ with e1 fJ
           injection fJ with e2 e3
           subst e1;exact⟨hu,⟨i,z,hi,hz,by omega,e3,by omega⟩,by omega⟩
          ·cases fJ
       | _=>cases fJ
     have Bf:∀b,S b→b<w.heap.size:=fun b q=>(hs.s b q).1;have gV:Own (α:=El y) w S 0 e (a.eval s) rs.reverse∧∃Hd,Hd=H'∧((∃(i:Nat) (X Y:ai) (u:Value),X≠.dead∧bs[i]?=some u∧H[i]?=some X∧Hd=H.set i Y∧(∀c,Bk Y u c→Bk X u c)∧(∀c,(a.eval s).ownBlock=some c→Bk X u c∧¬Bk Y u c)∧∀w',w.grownBy w' (a.eval s).ownBlock→aA S w w'→OR bs w' S Y u)∨((a.eval s).ownBlock=none∧Hd=H)):=by
      unfold Zs at pT;split at pT
      ·rename_i ob hx;split at pT
       ·rename_i y' e' rs' hH;split at pT
        ·rename_i ee;injection pT with pT
         injection pT with q1 q2
         injection q2 with q2 q3
         subst q2;have q3:=eq_of_heq q3;subst q3 ee;obtain⟨hb,A,n,c,hv⟩:=cM he hx;exact⟨hs.o ob _ _ hH hb,_,rfl,.inl ⟨ob,_,.dead,_,(fun e=>by cases e),hb,hH,q1.symm,(fun _ h=>by cases h),(fun c hc=>⟨hc,fun h=>by cases h⟩),fun _ _ _=>trivial⟩⟩
        ·cases pT
       ·cases pT
      ·rename_i hx;cases hte:ty e with
       | none=>rw[hte] at pT;cases pT
       | some y'=>
        rw[hte] at pT;injection pT with pT
        injection pT with q1 q2
        injection q2 with q2 q3
        subst q2;have q3:=eq_of_heq q3;subst q3;have hv:=(cM he hx).1;rw[hv];exact⟨Own.nil' w S Bf 0 e,_,rfl,.inr ⟨rfl,q1.symm⟩⟩
      ·rename_i q kt k hx;split at pT
       ·rename_i p kT t' e' n f hH;split at pT
        ·rename_i hk _;obtain⟨rfl⟩:=hk;split at pT
         ·rename_i ee;injection pT with pT
          injection pT with q1 q2
          injection q2 with q2 q3
          subst q2;have q3:=eq_of_heq q3;subst q3 ee;obtain⟨b,l,hb,hv,fJ⟩:=cM he hx;have ly:=hs.o q _ _ hH hb;obtain⟨gV,nf⟩:=uE.row Bf ly hv;exact⟨gV,_,rfl,.inl ⟨q,_,.mx p kt t' e' n f k,_,(fun e=>by cases e),hb,hH,q1.symm,(fun c hc=>xi.weak hc),nf,fun w' hg hk=>uE.out ly hg hk (fun b q=>⟨abw (Bf b q) hg.size,fun hc=>(hs.nw _ _ _ b hH hb (xi.weak hc)).2 q⟩) fun c hc=>(nf c hc).2⟩⟩
         ·cases pT
        ·cases pT
       ·cases pT
      ·cases pT
     obtain⟨gV,Hd,rfl,hd⟩:=gV;have hys:∃A n c ds,a.eval x=.slice A n c∧n=ys.length∧Flat w S ds ys∧(∀ad,A=some ad→cK w ad ds)∧(∀u∈ds,u.oneCell'=true)∧(A=none→n=0):=by
      have fromV:∀{b:AV},lj y b=some ys→VR bs w S b (a.eval x)→∃A n c ds,a.eval x=.slice A n c∧n=ys.length∧Flat w S ds ys∧(∀ad,A=some ad→cK w ad ds)∧(∀u∈ds,u.oneCell'=true)∧(A=none→n=0):=by
       intro b hu hv;obtain⟨A,n,c,e1,hr⟩:=mn (t:=.list y) hu hv;injection e1 with e1
       obtain⟨ds,q1,q2,q3⟩:=hr.flatAt;refine⟨A,n,c,ds,e1,hr.len.symm,q1,q2,q3,fun hA=>?_⟩;rcases adg n with h0|h0
       ·exact h0
       ·obtain⟨_,_,_,h3⟩:=hr;obtain⟨_,_,e,_⟩:=h3 h0;rw[hA] at e;cases e
      unfold Zr at hY;split at hY
      ·rename_i ob hx;split at hY
       ·rename_i y' e' rs' hH;obtain⟨hb,A,n,c,hv⟩:=cM he hx;unfold lj at hY;simp only at hY;split at hY
        ·rename_i q hq;injection hY with hY
         obtain⟨q⟩:=q;subst q hY;have ho:Own (α:=El y') w S 0 e' (a.eval x) rs'.reverse:=hs.o ob _ _ hH hb;obtain⟨ds,⟨_,h2⟩,hf,_⟩:=ho;rcases h2 with⟨kU,hn0⟩|⟨g,cap,cur,kU,_,hg,NR,_,Ay,sJ⟩
         ·have:rs'.reverse=[]:=abv hn0;rw[this] at hf ⊢;exact⟨none,0,0,[],kU,rfl,.nil,(fun ad e=>by cases e),(fun u hu=>by cases hu),fun _=>rfl⟩
         ·refine⟨_,_,_,ds,kU,rfl,hf,?_,?_,fun e=>by cases e⟩
          ·rintro ad e j u hj;injection e with e
           subst e;have nj:(⟨g,0,none⟩:Addr).add j=⟨g,j,none⟩:=by unfold Addr.add;split<;>simp_all
           rw[nj,(show dy w g e' cur from hg).cell];rw[←sJ,acz] at hj;split at hj
           ·simpa using hj
           ·cases hj
          ·clear Ay sJ;intro u hu;have:∀{ds:List Value} {xs:List (El y')},Flat w S ds xs→∀u∈ds,u.oneCell'=true:=by
            intro ds xs hf;induction hf with
            | nil=>intro u hu;cases hu
            | snoc _ hr ih=>
             intro u hu;rcases acb.1 hu with hu|hu
             ·exact ih u hu
             ·exact U8 hr u hu
           exact this hf u hu
        ·cases hY
       ·cases hY
      ·rename_i b _ hx;exact fromV hY (cM he hx)
      ·cases hY
     obtain⟨A,n,c,ds,hx,Fh,yF,ahp,Sl,agX⟩:=hys;have bM:(rs.reverse.length+ys.length)*(bytes+1)≤140737488355328:=by rw[aaH];exact hn
     have fin:∀v' w',Own (α:=El y) w' S 0 e v' (rs.reverse++ys)→w.grownBy w' (a.eval s).ownBlock→(v'.ownBlock=(a.eval s).ownBlock∨v'.ownBlock=some w.heap.size)→K (a.put o.dst v') w':=by
      intro v' w' q1 q2 q3;have bS:aA S w w':=aA.of_row q2 fun b q=>⟨Bf b q,fun e=>(Own.apart gV b q).2 e⟩;have kW:HS cx bs w' S Hd∧∀b,v'.ownBlock=some b→(cx.w0.heap.size≤b∨cx.M b)∧¬S b∧∀(i:Nat) (z:ai) (u:Value),Hd[i]?=some z→bs[i]?=some u→¬Bk z u b:=by
       have oX:∀{Hx:List ai},(∀(i:Nat) (z:ai),Hx[i]?=some z→z=.dead∨H[i]?=some z)→∀b,b=w.heap.size→(cx.w0.heap.size≤b∨cx.M b)∧¬S b∧∀(i:Nat) (z:ai) (u:Value),Hx[i]?=some z→bs[i]?=some u→¬Bk z u b:=by
        rintro Hx hm b rfl;refine⟨.inl hs.size,fun q=>acQ _ (Bf _ q),fun i z u hz hu e=>?_⟩;rcases hm i z hz with rfl|hz
        ·cases e
        ·exact acQ _ ((hs.o i z u hz hu).lt e)
       rcases hd with⟨i,X,Y,u0,hXd,hb,hH,rfl,hXY,nf,hYo⟩|⟨KY,rfl⟩
       ·have Sr:=(aab.1 hH).1;have hmm:∀(j:Nat) (z:ai),(H.set i Y)[j]?=some z→(j=i∧z=Y)∨(j≠i∧H[j]?=some z):=by
         intro j z hz;by_cases e:j=i
         ·subst e;rw[abc Sr] at hz;exact .inl ⟨rfl,(aae hz).symm⟩
         ·rw[aaY (acJ e)] at hz;exact .inr ⟨e,hz⟩
        refine⟨hs.setB hH hb q2 (fun c hc=>(nf c hc).1) (hYo w' q2 bS) hXY,fun b gl=>?_⟩;rcases q3 with q3|q3
        ·rw[q3] at gl;refine⟨(hs.nw i _ _ b hH hb (nf b gl).1).1,(hs.nw i _ _ b hH hb (nf b gl).1).2,fun j z u hz hu e=>?_⟩;rcases hmm j z hz with⟨rfl,rfl⟩|⟨e2,hz⟩
         ·rw[hb] at hu;obtain rfl:=aae hu;exact(nf b gl).2 e
         ·exact hs.ap i j _ _ _ _ b (acJ e2) hH hb hz hu (nf b gl).1 e
        ·rw[q3] at gl;obtain rfl:=aae gl;refine⟨.inl hs.size,fun q=>acQ _ (Bf _ q),fun j z u hz hu e=>?_⟩;rcases hmm j z hz with⟨rfl,rfl⟩|⟨_,hz⟩
         ·rw[hb] at hu;obtain rfl:=aae hu;exact acQ _ ((hs.o _ _ _ hH hb).lt (hXY _ e))
         ·exact acQ _ ((hs.o j z u hz hu).lt e)
       ·rw[KY] at q2;have bZ:Below w.heap.size w w':=⟨q2.os,q2.tape,q2.output,q2.size,fun b hb=>q2.block b hb (by simp)⟩;refine⟨hs.grow bZ (fun _ h=>h) (fun _ h=>.inl h),fun b gl=>?_⟩;rcases q3 with q3|q3
        ·rw[q3,KY] at gl;cases gl
        ·rw[q3] at gl;exact oX (fun _ _ h=>.inr h) b (aae gl).symm
      obtain⟨cI,bZ⟩:=kW;have hHl:Hd.length=H.length:=by rcases hd with⟨i,_,_,_,_,_,_,rfl,_⟩|⟨_,rfl⟩<;>simp
      refine hK v' w' cI hHl (fun i=>?_) bS (by show Own (α:=El y) w' S 0 e v' (ys.reverse++rs).reverse;rw[List.reverse_append,aal];exact q1) bZ;rcases hd with⟨j,X,Y,_,hXd,_,hH,rfl,_⟩|⟨_,rfl⟩
      ·intro hi;have e:j≠i:=fun e=>by subst e;rw[hH] at hi;exact hXd (aae hi)
       rw[aaY e];exact hi
      ·exact fun h=>h
     cases A with
     | some ad=>exact o6 (α:=El y) s x t hop bytes hty rfl gV ad n c ds ys hx Fh yF (ahp ad rfl) Sl bM (abS _) fun v' w' q1 q2 q3=>fin v' w' q1 q2 q3
     | none=>
      have hn0:=agX rfl;subst hn0;have hy:ys=[]:=abv Fh.symm;subst hy;have NO:=gV;obtain⟨cs,qf,_,_⟩:=NO;obtain⟨i,z,hi,_⟩:=hty.info;have lu:=jx (P:=P) (ty:=o.type) hty.under hi qf c;unfold Oper.wp;simp[execOp,hop,resolve,invoke,builtin,hx,lu,Result.andThen];exact fin _ _ (by rw[ado];exact gV) ⟨rfl,rfl,rfl,aaW _,fun _ _ _=>rfl⟩ (.inl rfl)
    ·exact h.elim
   ·exact h.elim
  ·exact h.elim
 ·exact h.elim
theorem TJ (hs:HS cx bs w S H) (he:ER m bs w S env a) {ty:TypeId→Option Ty} {t:TypeId} {s x:Operand} (hop:o.op=.call { callee:=.builtin .append,args:=#[s,x],argTypes:=#[t,t] }) {r:XV×List ai} (h:(acM P ty H t (ev env s) (ev env x)).hit r) (hK:∀v w' bm,HS cx bm w' S r.2→aA S w w'→jq bs bm→XR bm w' S r.1 v→K (a.put o.dst v) w'):o.wp P a w K Q:=by
 obtain⟨q,h1,h2⟩:=T.hit_bind h;have h2:(XV.one (.own H.length),q.1++[ai.row q.2.1 q.2.2.1 q.2.2.2])=r:=h2;subst h2;refine Iu hs he hop h1 fun v w' cI hHl _ bS gV bZ=>?_;have NN:=cI.pad;have hj:(q.1++[ai.dead])[q.1.length]?=some .dead:=by rw[aag (aaW _)];simp
 have wl:(bs++[undef])[q.1.length]?=some undef:=by rw[←cI.len,aag (aaW _)];simp
 have jR:=NN.fill (x:=.row q.2.1 q.2.2.1 q.2.2.2) (v:=v) hj wl rfl gV (fun b gl=>⟨(bZ b gl).1,(bZ b gl).2.1,fun i z u hz hu e=>by
  by_cases hi:i<q.1.length
  ·rw[aaK hi] at hz;rw[aaK (by rw[cI.len];exact hi)] at hu;exact(bZ b gl).2.2 i z u hz hu e
  ·have:z=.dead:=by
    have h1:=(aab.1 hz).1;have e2:i=q.1.length:=by simp at h1;omega
    subst e2;rw[hj] at hz;exact(aae hz).symm
   subst this;cases e⟩)
 have Al:(q.1++[ai.dead]).set q.1.length (.row q.2.1 q.2.2.1 q.2.2.2)=q.1++[.row q.2.1 q.2.2.1 q.2.2.2]:=by
  rw[acN _ _ (aaW _)];simp
 have yD:(bs++[undef]).set q.1.length v=bs++[v]:=by
  rw[←cI.len,acN _ _ (aaW _)];simp
 rw[Al,yD] at jR;obtain⟨A',n',c',NF,_⟩:=gV.slice;refine hK v w' (bs++[v]) jR bS (om _ _) ⟨?_,A',n',c',NF⟩;rw[←hHl,←cI.len,aag (aaW _)];simp
end
def AD (i:Nat) (x:AV):AV→AV
 | .own o=>bif o==i then x else .own o
 | .mp o=>bif o==i then x else .mp o
 | a=>a
def ach (i:Nat) (x:AV):XV→XV
 | .one a=>.one (AD i x a)
 | .agg cs=>.agg (cs.map (AD i x))
 | .tup l=>.tup (l.map fun p=>(p.1,p.2.map (AD i x)))
def S4 (i:Nat) (x:AV):ai→ai
 | .cells ty cs=>.cells ty (cs.map (AD i x))
 | .zip o2 e t tn hJ done cur rest=>.zip o2 e t tn hJ done (cur.map (AD i x)) rest
 | y=>y
def S5 (i:Nat) (st:dX):dX:=match (st.heap[i]?).bind kb with
 | some x=>⟨st.env.map fun p=>(p.1,ach i x p.2),(st.heap.set i .dead).map (S4 i x)⟩
 | none=>st
def XM:List AV→dX→dX
 | [],st=>st
 | c::l,st=>XM l (match mS c with
  | some i=>S5 i st
  | none=>st)
def AB (st:dX) (t:Nat):dX:=match st.env.lookup t with
 | some (.one (.own i))=>S5 i st
 | some (.one (.mp i))=>S5 i st
 | some (.agg cs)=>XM cs st
 | _=>st
section
variable {m:Nat} {cx:Cx} {st:dX} {a:Act} {w:World}
theorem wB {i:Nat} (h:fx m cx st a w):fx m cx (S5 i st) a w:=by
 unfold S5;split
 ·rename_i x i7;obtain⟨Y,hi,hx⟩:=Option.bind_eq_some_iff.1 i7;obtain⟨bs,S,hs,he⟩:=h;have KZ:i<bs.length:=by rw[hs.len];exact(aab.1 hi).1
  obtain⟨v,hv⟩:∃v,bs[i]?=some v:=⟨_,aac KZ⟩;have ho:=hs.o i _ v hi hv
  let S':Nat→Prop:=fun b=>S b∨Bk Y v b
  have pT:∀b,S' b→b<w.heap.size:=fun b q=>q.elim (fun q=>(hs.s b q).1) fun q=>ho.lt q;have vr:∀{y:AV} {u:Value},VR bs w S y u→VR bs w S' (AD i x y) u:=by
   intro y u hy;have up:VR bs w S' y u:=hy.keep (fun _ h=>.inl h) (aA.refl _ _) (jq.refl _);have one:∀o,mS y=some o→AD i x y=(bif o==i then x else y)→VR bs w S' (AD i x y) u:=by
    intro o qf e;rw[e];by_cases nh:o=i
    ·subst nh;rw[beq_self_eq_true];have hb:=vi hy qf;rw[hv] at hb;obtain rfl:=aae hb;exact uK ho hx (fun _ h=>.inl h) fun _ h=>.inr h
    ·rw[beq_eq_false_iff_ne.2 nh];exact up
   cases y with
   | own o=>exact one o rfl rfl
   | mp o=>exact one o rfl rfl
   | _=>exact up
  have cr:∀{ag:Bool} {cs:List AV} {u:Value},CR bs w S ag cs u→CR bs w S' ag (cs.map (AD i x)) u:=by
   intro ag cs u hc;unfold CR at hc ⊢;cases ag with
   | true=>obtain⟨vs,e,h⟩:=hc;exact⟨vs,e,h.mapL fun _ _ _ h=>vr h⟩
   | false=>obtain⟨a,rfl,h⟩:=hc;exact⟨_,rfl,vr h⟩
  have xr:∀{z:XV} {u:Value},XR bs w S z u→XR bs w S' (ach i x z) u:=by
   intro z u hx;cases z with
   | one b=>exact vr hx
   | agg cs=>exact cr (ag:=true) hx
   | tup l=>obtain⟨vs,e,h⟩:=hx;exact⟨vs,e,h.mapL fun _ _ _ h=>cr h⟩
  have get:∀{j:Nat} {y:ai},((st.heap.set i .dead).map (S4 i x))[j]?=some y→y=.dead∨(j≠i∧∃z,st.heap[j]?=some z∧y=S4 i x z):=by
   intro j y hy;rw[acX] at hy;by_cases hj:j=i
   ·subst hj;rw[abc (by rw[←hs.len];exact KZ)] at hy;exact .inl (aae hy).symm
   ·rw[aaY (acJ hj)] at hy;cases hz:st.heap[j]? with
    | none=>rw[hz] at hy;cases hy
    | some z=>rw[hz] at hy;exact .inr ⟨hj,z,rfl,(aae hy).symm⟩
  have bko:∀{z:ai} {u:Value} {b:Nat},Bk (S4 i x z) u b→Bk z u b:=by
   intro z u b h;cases z with
   | cells ty cs=>cases u with
    | pointer p=>cases p<;>exact h
    | _=>exact h
   | _=>exact h
  have far:∀{j:Nat} {z:ai} {u:Value} {b:Nat},j≠i→st.heap[j]?=some z→bs[j]?=some u→Bk z u b→¬S' b:=fun hj hz hu hb q=>q.elim (hs.nw _ _ _ _ hz hu hb).2 fun q=>hs.ap _ i _ _ _ v _ hj hz hu hi hv hb q;refine⟨bs,S',⟨by rw[acn,abN];exact hs.len,?_,?_,?_,fun b q=>⟨pT b q,?_⟩,fun b q=>.inl (hs.s0 b q),hs.os,hs.tape,hs.output,hs.size,hs.old,hs.an⟩,he.d,he.s,fun u x hx=>?_⟩
  ·intro j y u hy hu;rcases get hy with rfl|⟨hj,z,hz,rfl⟩
   ·exact trivial
   ·have ly:=hs.o j z u hz hu;have kp:=ly.keep (S':=S') (eG (Below.refl _ _) (aaW _) none) (by simp) (aA.refl _ _) (fun _ h=>.inl h) (fun b q=>⟨pT b q,fun e=>far hj hz hu e q⟩) (jq.refl _);cases z with
    | cells ty cs=>obtain⟨g,vs,rfl,h1,h2⟩:=ly;exact⟨g,vs,rfl,h1,h2.mapL fun _ _ _ h=>vr h⟩
    | zip o2 e' t' LC hJ done cur rest=>
     obtain⟨bN,ho',hz',q⟩:=kp;obtain⟨aaq,nh,iE,_⟩:=ly;refine⟨aaq,?_,⟨iE.1,fun j r hr=>?_⟩,q⟩
     ·refine Own.widen nh (fun _ h=>.inl h) fun b q=>⟨pT b q,fun e=>far hj hz hu e.symm q⟩
     ·obtain⟨z1,z2,z3⟩:=iE.2 j r hr;exact⟨fun x hx=>aK.keep (z1 x hx) (fun _ h=>.inl h) (aA.refl _ _),fun e=>(z2 e).mapL fun _ _ _ h=>vr h,fun e=>aK.keep (z3 e) (fun _ h=>.inl h) (aA.refl _ _)⟩
    | _=>exact kp
  ·intro j k y y2 u v2 b hjk hy hu hz kU cI bZ;rcases get hy with rfl|⟨_,z,fu,rfl⟩
   ·cases cI
   rcases get hz with rfl|⟨_,z2,iE,rfl⟩
   ·cases bZ
   exact hs.ap j k z z2 u v2 b hjk fu hu iE kU (bko cI) (bko bZ)
  ·intro j y u b hy hu hb;rcases get hy with rfl|⟨hj,z,fu,rfl⟩
   ·cases hb
   exact⟨(hs.nw j z u b fu hu (bko hb)).1,far hj fu hu (bko hb)⟩
  ·exact q.elim (fun q=>(hs.s b q).2) fun q=>.inr (hs.nw i _ v b hi hv q).1
  ·obtain⟨p,hp,e⟩:=ac1.1 hx;injection e with e1 e2
   subst e1 e2;obtain⟨v,h1,h2⟩:=he.k p.1 p.2 hp;exact⟨v,h1,xr h2⟩
 ·exact h
theorem H8:∀{l:List AV} {st:dX},fx m cx st a w→fx m cx (XM l st) a w
 | [],_,h=>h
 | c::l,st,h=>H8 (l:=l) (by
  split
  ·exact wB h
  ·exact h)
theorem S3 {t:Nat} (h:fx m cx st a w):fx m cx (AB st t) a w:=by
 unfold AB;split
 ·exact wB h
 ·exact wB h
 ·exact H8 h
 ·exact h
theorem AC:∀{l:List Nat} {st:dX},fx m cx st a w→fx m cx (l.foldl AB st) a w
 | [],_,h=>h
 | t::l,st,h=>AC (l:=l) (st:=AB st t) (S3 h)
end
def jb:List (Nat×ai)→List ai→List ai
 | [],H=>H
 | p::l,H=>jb l (H.set p.1 p.2)
section
variable {cx:Cx} {bs:List Value} {w:World} {S:Nat→Prop} {H:List ai}
theorem aaX (hs:HS cx bs w S H) {o:Nat} {Y:ai} {x:AV} {v:Value} (hH:H[o]?=some Y) (hx:kb Y=some x) (hv:bs[o]?=some v):HS cx bs w (fun b=>S b∨Bk Y v b) (H.set o .dead)∧VR bs w (fun b=>S b∨Bk Y v b) x v:=by
 have xF:=(aab.1 hH).1;have hlt:∀b,(S b∨Bk Y v b)→b<w.heap.size:=fun b q=>q.elim (fun q=>(hs.s b q).1) fun q=>(hs.o o _ v hH hv).lt q;have get:∀{j:Nat} {y:ai},(H.set o .dead)[j]?=some y→y=.dead∨(j≠o∧H[j]?=some y):=by
  intro j y hy;by_cases hj:j=o
  ·subst hj;rw[abc xF] at hy;exact .inl (aae hy).symm
  ·rw[aaY (acJ hj)] at hy;exact .inr ⟨hj,hy⟩
 have far:∀{j:Nat} {z:ai} {u:Value} {b:Nat},j≠o→H[j]?=some z→bs[j]?=some u→Bk z u b→¬(S b∨Bk Y v b):=fun hj hz hu hb q=>q.elim (hs.nw _ _ _ _ hz hu hb).2 fun q=>hs.ap _ o _ _ _ v _ hj hz hu hH hv hb q;refine⟨⟨by rw[abN];exact hs.len,?_,?_,?_,fun b q=>⟨hlt b q,q.elim (fun q=>(hs.s b q).2) fun q=>.inr (hs.nw o _ v b hH hv q).1⟩,fun b q=>.inl (hs.s0 b q),hs.os,hs.tape,hs.output,hs.size,hs.old,hs.an⟩,uK (hs.o o _ v hH hv) hx (fun _ h=>.inl h) fun _ h=>.inr h⟩
 ·intro j y u hy hu;rcases get hy with rfl|⟨hj,hz⟩
  ·exact trivial
  ·exact(hs.o j y u hz hu).keep (eG (Below.refl _ _) (aaW _) none) (by simp) (aA.refl _ _) (fun _ h=>.inl h) (fun b q=>⟨hlt b q,fun e=>far hj hz hu e q⟩) (jq.refl _)
 ·intro j k y y2 u v2 b hjk hy hu hz kU cI bZ;rcases get hy with rfl|⟨_,fu⟩
  ·cases cI
  rcases get hz with rfl|⟨_,iE⟩
  ·cases bZ
  exact hs.ap j k y y2 u v2 b hjk fu hu iE kU cI bZ
 ·intro j y u b hy hu hb;rcases get hy with rfl|⟨hj,fu⟩
  ·cases hb
  exact⟨(hs.nw j y u b fu hu hb).1,far hj fu hu hb⟩
def lN (os:List Nat):List (Nat×ai):=os.map fun o=>(o,.dead)
theorem Ae:∀(os:List Nat) {S:Nat→Prop} {H:List ai},HS cx bs w S H→∃S',(∀b,S b→S' b)∧HS cx bs w S' (jb (lN os) H)∧∀o∈os,∀(y:ai) (x:AV) (v:Value),H[o]?=some y→kb y=some x→bs[o]?=some v→VR bs w S' x v
 | [],S,H,hs=>⟨S,fun _ h=>h,hs,fun o ho=>by cases ho⟩
 | o::os,S,H,hs=>by
  have next:∀{S1:Nat→Prop},(∀b,S b→S1 b)→HS cx bs w S1 (H.set o .dead)→(∀(y:ai) (x:AV) (v:Value),H[o]?=some y→kb y=some x→bs[o]?=some v→VR bs w S1 x v)→∃S',(∀b,S b→S' b)∧HS cx bs w S' (jb (lN (o::os)) H)∧∀o'∈o::os,∀(y:ai) (x:AV) (v:Value),H[o']?=some y→kb y=some x→bs[o']?=some v→VR bs w S' x v:=by
   intro S1 h1 h2 h3;obtain⟨S',q1,q2,q3⟩:=Ae os h2;refine⟨S',fun b q=>q1 b (h1 b q),q2,fun o' ho' y x v hH hx hv=>?_⟩;by_cases e2:o'=o
   ·subst e2;exact(h3 y x v hH hx hv).keep q1 (aA.refl _ _) (jq.refl _)
   ·rcases aba.1 ho' with e3|ho'
    ·exact absurd e3 e2
    ·exact q3 o' ho' y x v (by rw[aaY (acJ e2)];exact hH) hx hv
  have mask:HS cx bs w S (H.set o .dead):=hs.mask (by rw[abN]) fun i x hx=>by
   by_cases e:o=i
   ·subst e;by_cases hl:o<H.length
    ·rw[abc hl] at hx;exact .inl (aae hx).symm
    ·rw[abL (by rw[abN];omega)] at hx;cases hx
   ·rw[aaY e] at hx;exact .inr hx
  cases hY:(H[o]?).bind kb with
  | none=>exact next (fun _ h=>h) mask fun y x v h h2=>by rw[h] at hY;rw[show kb y=none from hY] at h2;cases h2
  | some x=>
   obtain⟨Y,hH,hx⟩:=Option.bind_eq_some_iff.1 hY;have xF:o<bs.length:=by rw[hs.len];exact(aab.1 hH).1
   have hv:=aac xF;obtain⟨k1,k2⟩:=aaX hs hH hx hv;refine next (fun _ h=>.inl h) k1 fun y' x' v' h1 h2 h3=>?_;rw[hH] at h1;obtain rfl:=aae h1;rw[hx] at h2;obtain rfl:=aae h2;rw[hv] at h3;obtain rfl:=aae h3;exact k2
def Bm (H:List ai) (a:AV):AV:=match mS a with
 | some o=>((H[o]?).bind kb).getD a
 | none=>a
def vf (ps:List (Nat×List AV)):List Nat:=ps.flatMap fun p=>p.2.filterMap mS
def Uk (H:List ai) (ps:List (Nat×List AV)):List (Nat×List AV):=ps.map fun p=>(p.1,p.2.map (Bm H))
end
section
variable {P:Program} {o:Oper} {cx:Cx} {bs bm:List Value} {w w':World} {S:Nat→Prop} {H:List ai} {m:Nat} {env:Env} {a:Act} {cR:Nat} {ty:TypeId→Option Ty} {K:Act→World→Prop} {Q:Exit→Act→World→Prop}
theorem Pk:1000000000000≤maxLen:=by unfold maxLen;decide
theorem afX {kt:Kt} {y:Ty} {n n':Nat} {f f':kt.K→Option (El y)} {v:Value} {c:Nat} (h:Bk (.mp kt y n f) v c):Bk (.mp kt y n' f') v c:=by
 cases v with
 | map b=>cases b<;>exact h
 | _=>cases h
theorem L6 {H:List ai} {cx:Cx} {bs:List Value} {w:World} {S:Nat→Prop} (h:HS cx bs w S H) (n:Nat):HS cx bs w S (H.set n .dead):=h.mask (by rw[abN]) fun i x hx=>by
 by_cases e:n=i
 ·subst e;by_cases hl:n<H.length
  ·rw[abc hl] at hx;exact .inl (aae hx).symm
  ·rw[abL (by rw[abN];omega)] at hx;cases hx
 ·rw[aaY e] at hx;exact .inr hx
theorem Uj {t:TypeId} {mo x v:Operand} (hop:o.op=.mapUpdate t mo x v) (hd:o.dst=none) (hr:(Instr.mapUpdate t (a.eval mo) (a.eval x) (a.eval v)).run P w=.ok () w') (hK:K a w'):o.wp P a w K Q:=by
 unfold Oper.wp;simp[execOp,hop,hr,Result.andThen];show K (a.put o.dst undef) w';rw[hd];exact hK
theorem afD {kt:Kt} {y:Ty} {f:kt.K→Option (El y)} {g:kt.K→Option Value} {k:kt.K} {z:El y} {u:Value} (h:∀k,xe w S (f k) (g k)) (hz:aK.rep (α:=El y) w S [u] z) (k':kt.K):xe w S (mC kt f k z k') (mC kt g k u k'):=by
 by_cases e:k'=k
 ·subst e;rw[gF,gF];exact⟨u,rfl,hz⟩
 ·rw[kK e,kK e];exact h k'
noncomputable def L8 (l:List (Value×Value)) (k u:Value):List (Value×Value):=(k,u)::l.filter fun p=>@decide (p.1≠k) (Classical.propDecidable _)
theorem I7 {kt:Kt} {g:kt.K→Option Value} {l:List (Value×Value)} {k:kt.K} {u:Value} (h:∀k u,g k=some u↔(kt.val k,u)∈l) (k':kt.K) (u':Value):mC kt g k u k'=some u'↔(kt.val k',u')∈L8 l (kt.val k) u:=by
 unfold L8;rw[aba,adm];by_cases e:k'=k
 ·subst e;rw[gF];constructor
  ·intro h;injection h with h;subst h;exact .inl rfl
  ·rintro(h|⟨_,h⟩)
   ·injection h with _ h;rw[h]
   ·exact absurd rfl (@of_decide_eq_true _ (Classical.propDecidable _) h)
 ·rw[kK e,h];constructor
  ·intro h;exact .inr ⟨h,@decide_eq_true _ (Classical.propDecidable _) fun e2=>e (Kt.val_inj e2)⟩
  ·rintro(h|⟨h,_⟩)
   ·injection h with h _;exact absurd (Kt.val_inj h) e
   ·exact h
theorem MQ (hs:HS cx bs w S H) (he:ER m bs w S env a) (hP:Zv P) {t:TypeId} {mo x v:Operand} (hop:o.op=.mapUpdate t mo x v) (hd:o.dst=none) (hn:H[cR]?=some .dead) (hb:bs[cR]?=some undef) {r:List (Nat×ai)×Option ai} (h:(Wl P ty cR H t (ev env mo) (ev env x) (ev env v)).hit r) (hK:∀w' bm,HS cx bm w' S (jb (r.1++[(cR,r.2.getD .dead)]) H)→aA S w w'→jq bs bm→(∀j,j≠cR→bm[j]?=bs[j]?)→K a w'):o.wp P a w K Q:=by
 obtain rfl:=hP.eq;have Bf:∀b,S b→b<w.heap.size:=fun b q=>(hs.s b q).1;unfold Wl at h;split at h
 ·rename_i mt ob c hm hbo hbv;obtain⟨e,hu,hz,UH,fu,hzr⟩:=GX hm;split at h
  ·rename_i k kT y' n f hk hH;split at h
   ·rename_i q z _ hun;obtain⟨q⟩:=q;injection q with q1 q2
    subst q1 q2;obtain⟨⟨uf,NQ⟩,h⟩:=h;have h:(_,_)=r:=h;subst h;have hkv:=Af he hk;obtain⟨cI,_⟩:=cM he hbo;obtain⟨bl,g,e1,hg,hf⟩:=hs.o ob _ _ hH cI;obtain⟨w',lu,hg',Xm⟩:=hg.store (u:=a.eval v) hu (abw NQ Pk) uf;have hB:Bk (.mp mt.kt mt.y n f) (a.eval mo) bl:=by rw[e1];rfl
    have bS:aA S w w':=aA.of_row Xm fun b q=>⟨Bf b q,fun e=>by injection e with e;subst e;exact(hs.nw _ _ _ _ hH cI hB).2 q⟩;have fA:aK.rep (α:=El mt.y) w' S [a.eval v] z:=aK.keep (mn hun (cM he hbv)) (fun _ h=>h) bS;have Al:=hs.setB hH cI Xm (fun c hc=>aae hc▸hB) (y:=.mp mt.kt mt.y (n+1) (mC mt.kt f k z)) ⟨bl,_,e1,hg',afD (fun k=>(hf k).keep (fun _ h=>h) bS) fA⟩ (fun c hc=>afX hc);refine Uj hop hd (w':=w') (by rw[e1,hkv];exact lu) (hK w' bs (L6 Al cR) bS (jq.refl _) fun _ _=>rfl)
   ·exact h.elim
  ·rename_i k q hk hH;split at h
   ·rename_i rr p kT t' e' n f k' hQ;split at h
    ·rename_i t2 e2 rs hR;split at h
     ·rename_i Cz ht2 _ _;obtain⟨Cz⟩:=Cz;obtain⟨ht2⟩:=ht2;subst Cz ht2;split at h
      ·rename_i hc;obtain⟨rfl,rfl⟩:=hc;obtain⟨⟨uf,wj,NQ⟩,h⟩:=h;have wj:k=k':=wj;subst wj;have h:(_,_)=r:=h;subst h;have hkv:=Af he hk;obtain⟨cI,bl0,e0⟩:=cM he hbo;obtain⟨XF,fJ⟩:=cM he hbv;have Ho:q<bs.length:=by rw[hs.len];exact(aab.1 hQ).1
       have J4:=aac Ho;obtain⟨bl,l,g,e1,h1,h2,h3,h4,h5,h6⟩:=hs.o q _ _ hQ J4;rw[cI] at h1;injection h1 with h1
       obtain⟨w',lu,hg',Xm⟩:=h2.store (u:=a.eval v) hu (abw NQ Pk) uf;have XK:∀c,c=bl∨(∃(k1:mt.kt.K) (u:Value),k1≠k∧g k1=some u∧u.ownBlock=some c)→xi mt.kt (·=k) bs[q] c:=fun c hc=>by
        rw[e1];exact⟨bl,l,rfl,hc.imp id fun⟨k1,u,q1,q2,q3⟩=>⟨k1,u,q1,(h3 k1 u).1 q2,q3⟩⟩
       have bS:aA S w w':=aA.of_row Xm fun b qq=>⟨Bf b qq,fun e=>by injection e with e;subst e;exact(hs.nw _ _ _ _ hQ J4 (XK _ (.inl rfl))).2 qq⟩;have s1:=hs.setB hQ J4 Xm (fun c hc=>by injection hc with hc;subst hc;exact XK _ (.inl rfl)) (y:=.dead) trivial (fun _ h=>by cases h);have D4:q≠rr:=fun e=>by subst e;rw[hQ] at hR;cases hR
       have hqo:q≠p:=fun e=>by subst e;rw[hQ] at hH;cases hH
       have NH:rr≠p:=fun e=>by subst e;rw[hR] at hH;cases hH
       have UL:cR≠q:=fun e=>by subst e;rw[hQ] at hn;cases hn
       have hnr:cR≠rr:=fun e=>by subst e;rw[hR] at hn;cases hn
       have JY:cR≠p:=fun e=>by subst e;rw[hH] at hn;cases hn
       have nf:Own (α:=El t2) w' S 0 e2 (a.eval v) rs.reverse:=s1.o rr (.row t2 e2 rs) _ (by rw[aaY D4];exact hR) XF;have s2:=L6 s1 rr;have s3:=s2.setB (i:=p) (x:=.mq q) (y:=.mq cR) (row:=none) (w':=w') (by rw[aaY NH,aaY hqo];exact hH) cI ⟨rfl,rfl,rfl,aaW _,fun _ _ _=>rfl⟩ (fun _ h=>by cases h) ⟨bl0,e0⟩ (fun _ h=>by cases h);have hL:∀{i:Nat} {z:ai} {u:Value} {c:Nat},(((H.set q .dead).set rr .dead).set p (.mq cR))[i]?=some z→bs[i]?=some u→Bk z u c→i≠q∧i≠rr∧H[i]?=some z:=by
        intro i z u c hz hu hc;by_cases e1:i=p
        ·subst e1;rw[abc (by rw[abN,abN];exact(aab.1 hH).1)] at hz;obtain rfl:=aae hz;cases hc
        ·rw[aaY (acJ e1)] at hz;by_cases e2:i=rr
         ·subst e2;rw[abc (by rw[abN];exact(aab.1 hR).1)] at hz;obtain rfl:=aae hz;cases hc
         ·rw[aaY (acJ e2)] at hz;by_cases e3:i=q
          ·subst e3;rw[abc (aab.1 hQ).1] at hz;obtain rfl:=aae hz;cases hc
          ·rw[aaY (acJ e3)] at hz;exact⟨e3,e2,hz⟩
       have hBr:∀c,(a.eval v).ownBlock=some c→Bk (.row t2 e2 rs) (a.eval v) c:=fun c hc=>hc;have far:∀{c c':Nat},(a.eval v).ownBlock=some c→xi mt.kt (·=k) bs[q] c'→c≠c':=fun {c c'} hc On e=>by
        subst e;exact hs.ap rr q _ _ _ _ c (acJ D4) hR XF hQ J4 (hBr c hc) On
       have Ap:=I7 (k:=k) (u:=a.eval v) h3;have JZ:(((H.set q .dead).set rr .dead).set p (.mq cR))[cR]?=some .dead:=by
        rw[aaY (acJ JY),aaY (acJ hnr),aaY (acJ UL)];exact hn
       have hg2:∀k1 u,k1≠k→mC mt.kt g k (a.eval v) k1=some u→g k1=some u:=fun k1 u e q=>by rw[kK e] at q;exact q
       have hg1:∀u,mC mt.kt g k (a.eval v) k=some u→u=a.eval v:=fun u q=>by rw[gF] at q;exact(aae q).symm
       have s4:=s3.fill (j:=cR) (x:=.mr p mt.kt t2 e2 (n+1) (mC mt.kt f k rs)) (v:=tf bl (L8 l (mt.kt.val k) (a.eval v))) JZ hb rfl
        ⟨bl,_,mC mt.kt g k (a.eval v),rfl,by rw[aaY JY,cI,h1],hg',Ap,fun k1 _=>by
         by_cases e:k1=k
         ·subst e;rw[gF,gF];exact⟨_,rfl,nf⟩
         ·rw[kK e,kK e];have:=h4 k1 e;cases hf:f k1 with
          | none=>rw[hf] at this;exact this
          | some xs=>
           rw[hf] at this;obtain⟨u,sH,cs,q1,q2,q3⟩:=this;refine⟨u,sH,cs,q1.kept Xm ?_,q2.keep (fun _ h=>h) bS,fun c hc=>⟨abw (q3 c hc).1 Xm.size,(q3 c hc).2⟩⟩;cases e3:u.ownBlock with
           | none=>exact .inl rfl
           | some c=>exact .inr fun e4=>h6 k1 u sH (by rw[e3];exact e4),
         fun k1 k2 u1 u2 c q1 q2 fv hc1 hc2=>by
          by_cases a1:k1=k
          ·subst a1;obtain rfl:=hg1 _ q1;exact far hc1 (XK c (.inr ⟨k2,u2,acJ fv,hg2 _ _ (acJ fv) q2,hc2⟩)) rfl
          ·by_cases a2:k2=k
           ·subst a2;obtain rfl:=hg1 _ q2;exact far hc2 (XK c (.inr ⟨k1,u1,a1,hg2 _ _ a1 q1,hc1⟩)) rfl
           ·exact h5 k1 k2 u1 u2 c (hg2 _ _ a1 q1) (hg2 _ _ a2 q2) fv hc1 hc2,
         fun k1 u q1 hc=>by
          by_cases a1:k1=k
          ·subst a1;obtain rfl:=hg1 _ q1;exact far hc (XK bl (.inl rfl)) rfl
          ·exact h6 k1 u (hg2 _ _ a1 q1) hc⟩
        (fun c hc=>by
         have hcc:xi mt.kt (·=k) bs[q] c∨(a.eval v).ownBlock=some c:=by
          obtain⟨b',l',e2,hc⟩:=hc;obtain⟨rfl,rfl⟩:=ma e2;rcases hc with rfl|⟨k1,u,_,sH,hc⟩
          ·exact .inl (XK _ (.inl rfl))
          ·have sH:=(Ap k1 u).2 sH;by_cases a1:k1=k
           ·subst a1;obtain rfl:=hg1 _ sH;exact .inr hc
           ·exact .inl (XK c (.inr ⟨k1,u,a1,hg2 _ _ a1 sH,hc⟩))
         rcases hcc with hcc|hcc
         ·refine⟨(hs.nw _ _ _ _ hQ J4 hcc).1,(hs.nw _ _ _ _ hQ J4 hcc).2,fun i y u hy sH hc1=>?_⟩;obtain⟨i1,i2,i3⟩:=hL hy sH hc1;exact hs.ap i q _ _ _ _ c i1 i3 sH hQ J4 hc1 hcc
         ·refine⟨(hs.nw _ _ _ _ hR XF (hBr c hcc)).1,(hs.nw _ _ _ _ hR XF (hBr c hcc)).2,fun i y u hy sH hc1=>?_⟩;obtain⟨i1,i2,i3⟩:=hL hy sH hc1;exact hs.ap i rr _ _ _ _ c i2 i3 sH hR XF hc1 (hBr c hcc))
       refine Uj hop hd (w':=w') (by rw[h1,hkv];exact lu) (hK w' _ s4 bS (fun i u hu rF=>?_) fun j hj=>aaY (acJ hj));rw[aaY (fun e=>by subst e;rw[hb] at hu;obtain rfl:=aae hu;cases rF)];exact hu
      ·exact h.elim
     ·exact h.elim
    ·exact h.elim
   ·exact h.elim
  ·exact h.elim
 ·exact h.elim
end
end Go.Proofs.YtjlhbfbdcfajfaaGreatDoor
