/- MSeq1 MFrz0 MSeq2 -/
import Derived.Test.YtdbpbfglhbiadaaGreatDoorL00
import Derived.Test.YtdbpbfglhbiadaaGreatDoorL25
import Derived.Test.YtdbpbfglhbiadaaGreatDoorL17
set_option maxHeartbeats 8000000
set_option maxRecDepth 100000
namespace Go.Proofs.YtdbpbfglhbiadaaGreatDoor
open Go Go.RowKit
def AZ (P:Program) (H:List ai) (t:TypeId) (x y:Option XV):Option (Nat×ai):=match x,y.bind XV.cells,P.info? t with
 | some (.one (.ptr o off)),some ys,some i=>match H[o]? with
  | some (.cells ty cs)=>if i.size=ys.length∧off+ys.length≤cs.length then some (o,.cells ty (cs.take off++ys++cs.drop (off+ys.length))) else none
  | _=>none
 | some (.one (.elo o i sz off)),some ys,some j=>match H[o]? with
  | some (.row t e rs)=>if sz=aF.sz (El t)∧j.size=ys.length∧off+ys.length≤sz then(un t ((kS t (rs.reverse.getD i (CG t))).take off++ys++(kS t (rs.reverse.getD i (CG t))).drop (off+ys.length))).map fun z=>(o,.row t e (rs.reverse.set i z).reverse) else none
  | _=>none
 | some (.one (.sub o o2 off)),some ys,some j=>match H[o]? with
  | some (.zip Sb e t tn im done cur rest)=>if o2=Sb∧j.size=ys.length∧off+ys.length≤cur.length then some (o,.zip Sb e t tn im done (cur.take off++ys++cur.drop (off+ys.length)) rest) else none
  | _=>none
 | _,_,_=>none
def XQ (P:Program) (H:List ai) (t:TypeId) (x y:Option XV):Option (List ai):=(AZ P H t x y).map fun p=>H.set p.1 p.2
def apS (ty:TypeId→Option Ty) (H:List ai) (e:TypeId):Option XV→Option (List ai×(y:Ty)×List (El y))
 | some (.one (.own o))=>match H[o]? with
  | some (.row y e' rs)=>if e'=e then some (H.set o .dead,⟨y,rs⟩) else none
  | _=>none
 | some (.one (.val (.slice none 0 0)))=>(ty e).map fun y=>(H,⟨y,[]⟩)
 | some (.one (.mrow q kt k))=>match H[q]? with
  | some (.mr p lu t e' n f)=>match Kt.eq? kt lu with
   | some h=>if e'=e then some (H.set q (.mx p lu t e' n f (h.down▸k)),⟨t,(f (h.down▸k)).getD []⟩) else none
   | none=>none
  | _=>none
 | _=>none
def apY (H:List ai) (y:Ty) (x:Option XV):Option (List (El y)):=match x with
 | some (.one (.own o))=>match H[o]? with
  | some (.row y' _ rs)=>(lF y (.list y' rs.reverse false))
  | _=>none
 | some (.one a)=>lF y a
 | _=>none
def slI (P:Program) (t:TypeId):Option (TypeId×Nat×Nat):=match P.underlying t with
 | some (.slice e)=>(P.info? e).bind fun i=>i.zero.bind fun z=>if z.cells.size=i.size∧0<i.size then some (e,i.size,i.bytes) else none
 | _=>none
def Hq (P:Program) (ty:TypeId→Option Ty) (H:List ai) (t:TypeId) (s x:Option XV):T (List ai×(y:Ty)×TypeId×List (El y)):=match slI P t with
 | some (e,sz,bytes)=>match apS ty H e s with
  | some (H',⟨y,rs⟩)=>match apY H y x with
   | some ys=>if sz=aF.sz (El y) then .nd ((rs.length+ys.length)*(bytes+1)≤140737488355328) (.lf (H',⟨y,e,ys.reverse++rs⟩)) else .bad
   | none=>.bad
  | none=>.bad
 | none=>.bad
def agp (P:Program) (ty:TypeId→Option Ty) (H:List ai) (t:TypeId) (s x:Option XV):T (XV×List ai):=(Hq P ty H t s x).bind fun r=>.lf (.one (.own H.length),r.1++[.row r.2.1 r.2.2.1 r.2.2.2])
section
variable {P:Program} {o:Oper} {cx:Cx} {bs bn:List Value} {w w':World} {S:Nat→Prop} {H:List ai} {m:Nat} {env:Env} {a:Act} {cZ:Nat} {K:Act→World→Prop} {Q:Exit→Act→World→Prop}
theorem Xl {t:Ty} {cs:List Value} {x:El t} (h:aF.rep w S cs x):∀u∈cs,u.oneCell'=true:=fun u hu=>by
 obtain⟨y,_,hy⟩:=(ki (bs:=[]) h).right u hu;exact hy.one
theorem RS.flatAt {t:Ty} {A:Option Addr} {n c:Nat} {ys:List (El t)} (h:RS w S A n c ys):∃ds,Flat w S ds ys∧(∀ad,A=some ad→cL w ad ds)∧∀u∈ds,u.oneCell'=true:=by
 have key:∀k,k≤n→∃ds,Flat w S ds (ys.take k)∧(∀ad,A=some ad→cL w ad ds)∧∀u∈ds,u.oneCell'=true:=by
  intro k;induction k with
  | zero=>intro _;exact⟨[],by simpa using Flat.nil,fun ad _ j u hj=>by simp at hj,fun u hu=>by cases hu⟩
  | succ k ih=>
   intro hk;obtain⟨ds,h1,h2,h3⟩:=ih (by omega);obtain⟨b,p,x,cs,rfl,_,hx,hr,hc⟩:=h.at_ (k:=k) (by omega);refine⟨ds++cs,by rw[js hx];exact .snoc h1 hr,fun ad e j u hj=>?_,fun u hu=>?_⟩
   ·have hl:=h1.length;have bG:=h.len;rw[acb,adz (by omega)] at hl;rw[List.getElem?_append] at hj;split at hj
    ·exact h2 ad e j u hj
    ·injection e with e
     subst e;have:=hc _ _ hj;have nR:(⟨b,p,none⟩:Addr).add j=⟨b,p+(k*aF.sz (El t)+(j-ds.length)),none⟩:=by
      have:k*aF.sz (El t)+(j-ds.length)=j:=by omega
      rw[this];unfold Addr.add;split<;>simp_all
     rw[nR];exact this
   ·rcases abW.1 hu with hu|hu
    ·exact h3 u hu
    ·exact Xl hr u hu
 have:=key n (aaJ _)
 rwa [acx (by rw[h.len];exact aaJ _)] at this
theorem Flat.setN {α:Type} [aF α] {cs us:List Value} {xs:List α} {y:α} (h:Flat w S cs xs) (hu:aF.rep w S us y):∀{i:Nat},i<xs.length→Flat w S (cs.take (i*aF.sz α)++(us++cs.drop ((i+1)*aF.sz α))) (xs.set i y):=by
 induction h with
 | nil=>intro i hi;exact absurd hi (Nat.not_lt_zero _)
 | @snoc cs ds xs x hf hr ih=>
  intro i hi;have hl:=hf.length;have hd:=aF.len hr;by_cases hx:i<xs.length
  ·have h1:(i+1)*aF.sz α≤cs.length:=by rw[hl];exact acD _ hx
   have h2:i*aF.sz α≤cs.length:=by rw[hl];exact acD _ (Nat.le_of_lt hx)
   rw[List.set_append_left _ _ hx,acj h2,List.drop_append_of_le_length h1,←abP us,←abP];exact .snoc (ih hx) hr
  ·have e:i=xs.length:=by simp at hi;omega
   subst e;have h3:(cs++ds).length≤(xs.length+1)*aF.sz α:=by rw[aaD,hl,hd,Nat.add_mul,Nat.one_mul];exact aaJ _
   rw[acq _ _ (aaJ _),aee,aaL h3,←hl,acj (aaJ _),List.take_length,acn];exact .snoc hf hu
theorem I2 {cur ys:List Value} {N k l:Nat} (hl:ys.length=l) (h:k+l≤N) (hc:N≤cur.length):(cur.take k++ys++cur.drop (k+l)).take N=(cur.take N).take k++ys++(cur.take N).drop (k+l):=by
 have h1:(cur.take k++ys).length=k+l:=by rw[aaD,acb,hl];omega
 rw[List.take_append,acx (by omega),h1,List.take_take,adz (by omega),List.drop_take]
theorem OY {cs ds ys:List Value} {k sz off l:Nat} (hl:ys.length=l) (hd:ds.length=sz) (hc:∀j u,ds[j]?=some u→cs[k+j]?=some u) (ho:off+l≤sz):cs.take k++((ds.take off++ys++ds.drop (off+l))++cs.drop (k+sz))=cs.take (k+off)++ys++cs.drop (k+off+l):=by
 have e:(cs.drop k).take sz=ds:=by
  refine acy fun j=>?_;by_cases hj:j<sz
  ·rw[List.getElem?_take_of_lt hj,acl];have:=hc j _ (aae (by omega));rw[this,aae (by omega)]
  ·rw[abN (by rw[acb];omega),abN (by omega)]
 have h1:ds.take off=(cs.drop k).take off:=by rw[←e,List.take_take,adz (by omega)]
 have h2:ds.drop (off+l)++cs.drop (k+sz)=cs.drop (k+off+l):=by
  have:cs.drop (k+sz)=(cs.drop k).drop sz:=by rw[adW]
  rw[this,←List.drop_append_of_le_length (by omega)];conv=>lhs;rw[←e]
  rw[List.take_append_drop,adW,aci]
 rw[h1,abP,abP,h2,←abP,←abP,←List.take_add]
theorem Ir (hs:HS cx bs w S H) (he:ER m bs w S env a) {t:TypeId} {x y:Operand} (hop:o.op=.store t x y) (hd:o.dst=none) {p:Nat×ai} (h:AZ P H t (ev env x) (ev env y)=some p) (hK:∀w',HS cx bs w' S (H.set p.1 p.2)→aA S w w'→K a w'):o.wp P a w K Q:=by
 unfold AZ at h;split at h
 ·rename_i ob off ys i hx hy hi;split at h
  ·rename_i ty cs hH;split at h
   ·rename_i hc;injection h with h
    subst h;obtain⟨g,hg,hv⟩:=cN he hx;cases e:ev env y with
    | none=>rw[e] at hy;cases hy
    | some z=>
     rw[e] at hy;have Pz:=XV.cells_ok hy (cN he e);obtain⟨g',vs,e2,hk,hf⟩:=hs.o ob _ _ hH hg;injection e2 with e2
     injection e2 with e2
     injection e2 with e2
     subst e2;have hl:ys.length=(a.eval y).cells.size:=Pz.length.trans abM;have hl2:=hf.length;have hr:=Bi (P:=P) (t:=t) (v:=a.eval y) (k:=off) hk (by rw[hi];exact congrArg some (hc.1.trans hl)) (by have h1:vs.toArray.size=vs.length:=ab6;rw[h1];rw[hl] at hc;omega) (fun u hu=>by
      obtain⟨q,_,hq⟩:=Pz.right u hu;exact hq.one)
     have hp:=RN.setRow w g (vs.toArray.toList.take off++(a.eval y).cells.toList++vs.toArray.toList.drop (off+(a.eval y).cells.size)).toArray;have mn:dI (w.setRow g _) g ty _:=setRow_heap w g vs.toArray (vs.toArray.toList.take off++(a.eval y).cells.toList++vs.toArray.toList.drop (off+(a.eval y).cells.size)).toArray ty (0,0) hk;have bX:=hs.keeps hH hg hp.g;unfold Oper.wp execOp;simp only[hop,hv,Sem.run_bind,hr,Result.andThen_ok,Sem.run_pure,Oper.upon_skip,hd];refine hK _ (hs.set hH hg hp.g ⟨g,_,rfl,mn,?_⟩ (.inl rfl)) bX;have hf':=hf.mono (R':=VR bs (w.setRow g _) S) fun _ _ q=>q.keep (fun _ h=>h) bX (jB.refl _);have ZL:=Pz.mono (R':=VR bs (w.setRow g _) S) fun _ _ q=>q.keep (fun _ h=>h) bX (jB.refl _);rw[hl];exact((hf'.take off).append ZL).append (hf'.drop _)
   ·cases h
  ·cases h
 ·rename_i ob i sz off ys j hx hy hj;split at h
  ·rename_i ty e' rs hH;split at h
   ·rename_i hc;obtain⟨rfl,hc1,hc2⟩:=hc;cases hz:un ty ((kS ty (rs.reverse.getD i (CG ty))).take off++ys++(kS ty (rs.reverse.getD i (CG ty))).drop (off+ys.length)) with
    | none=>rw[hz] at h;cases h
    | some z=>
     rw[hz] at h;obtain rfl:=aal h;obtain⟨g,n,c,hg,dj,hv⟩:=cN he hx;cases e:ev env y with
     | none=>rw[e] at hy;cases hy
     | some z'=>
      rw[e] at hy;have Pz:=XV.cells_ok hy (cN he e);have hl:ys.length=(a.eval y).cells.toList.length:=Pz.length;have yW:(a.eval y).cells.toList.length=(a.eval y).cells.size:=abM;have ho:Own (α:=El ty) w S 0 e' (.slice (some ⟨g,0,none⟩) n c) rs.reverse:=hs.o ob _ _ hH hg;obtain⟨A',n',c',Ls,hn⟩:=ho.slice;injection Ls with _ vQ _
      subst vQ;obtain⟨cs,q1,q2,q3⟩:=ho;have ji:rs.reverse[i]?=some (rs.reverse.getD i (CG ty)):=by rw[aai,aae (by omega)];rfl
      obtain⟨ds,hr,hcd⟩:=q2.get i _ ji;obtain⟨vn,h2⟩:=q1;rcases h2 with⟨lv,_⟩|⟨g',cap,cur,lv,lx,hh,PT,SB,hcs,BV⟩
      ·cases lv
      injection lv with lv _ lP
      injection lv with lv
      injection lv with lv
      subst lv lP;have hk:dI w g e' cur:=hh;have P6:i*aF.sz (El ty)+off+ys.length≤n*aF.sz (El ty):=by
       have:(i+1)*aF.sz (El ty)≤n*aF.sz (El ty):=acD _ dj;rw[Nat.add_mul,Nat.one_mul] at this;omega
      have afu:n*aF.sz (El ty)≤cur.size:=by rw[hcs,hn];exact acD _ PT
      have fb:=Bi (P:=P) (t:=t) (v:=a.eval y) (k:=i*aF.sz (El ty)+off) hk (by rw[hj];exact congrArg some (hc1.trans (hl.trans yW))) (by omega) (fun u hu=>by
       obtain⟨q,_,hq⟩:=Pz.right u hu;exact hq.one)
      have hp:=RN.setRow w g (cur.toList.take (i*aF.sz (El ty)+off)++(a.eval y).cells.toList++cur.toList.drop (i*aF.sz (El ty)+off+(a.eval y).cells.size)).toArray;have mn:dI (w.setRow g _) g e' _:=setRow_heap w g cur (cur.toList.take (i*aF.sz (El ty)+off)++(a.eval y).cells.toList++cur.toList.drop (i*aF.sz (El ty)+off+(a.eval y).cells.size)).toArray e' (0,0) hk;have bX:=hs.keeps hH hg hp.g;unfold Oper.wp execOp;simp only[hop,hv,Sem.run_bind,fb,Result.andThen_ok,Sem.run_pure,Oper.upon_skip,hd];refine hK _ (hs.set hH hg hp.g ?_ (.inl rfl)) bX;have nP:aF.rep w S (ds.take off++(a.eval y).cells.toList++ds.drop (off+ys.length)) z:=kz hz (((ki hr).take off |>.append Pz).append ((ki hr).drop _));have hF:=(q2.setN nP (i:=i) (by omega)).keep (fun _ h=>h) bX;have hds:=aF.len hr;rw[Nat.add_mul,Nat.one_mul,OY (by rw[←hl]) hds hcd hc2] at hF;show Own (α:=El ty) _ S 0 e' _ (rs.reverse.set i z).reverse.reverse;rw[aap];refine⟨_,?_,hF,fun b q=>⟨abc (hs.s b q).1 hp.g.size,(q3 b q).2⟩⟩;rw[abY,←hn];have afD:cur.toList.length=cur.size:=abM;have tZ:=I2 (cur:=cur.toList) (ys:=(a.eval y).cells.toList) (N:=n*aF.sz (El ty)) (k:=i*aF.sz (El ty)+off) hl.symm P6 (by omega);rw[←hn,] at BV;rw[BV] at tZ;refine⟨?_,.inr ⟨g,c,_,rfl,lx,mn,by rw[hn];exact PT,SB,?_,?_⟩⟩
      ·rw[←tZ,acb];simp only[aaD,acb,acv];omega
      ·rw[ab6];simp only[aaD,acb,acv];omega
      ·rw[←tZ,←yW,←hl]
   ·cases h
  ·cases h
 ·rename_i ob o2 off ys j hx hy hj;split at h
  ·rename_i Sb e' ty tn im done cur0 rest hH;split at h
   ·rename_i hc;obtain⟨rfl,hc1,hc2⟩:=hc;injection h with h
    subst h;obtain⟨g,p,hg2,hv⟩:=cN he hx;cases e:ev env y with
    | none=>rw[e] at hy;cases hy
    | some z'=>
     rw[e] at hy;have Pz:=XV.cells_ok hy (cN he e);have hl:ys.length=(a.eval y).cells.toList.length:=Pz.length;have yW:(a.eval y).cells.toList.length=(a.eval y).cells.size:=abM;have hob:ob<bs.length:=by rw[hs.len];exact(aag.1 hH).1
     have hg:=aae hob;have aki:=hs.o ob _ _ hH hg;obtain⟨bS,n,c,r,hvo,PO,ho,hz,hr,vn⟩:=Nr hs hH hg hg2;have hd:done.length<bS.length:=(aag.1 hr).1;have hf:=(hz.2 _ _ hr).2.1 rfl;have Af:r.cells.length=aF.sz (El ty):=r.len;have afE:cur0.length=aF.sz (El ty):=hf.length.trans Af;obtain⟨cs,q1,q2,q3⟩:=ho;obtain⟨akN,h2⟩:=q1;rw[hvo] at h2;rcases h2 with⟨lv,_⟩|⟨g',cap,cur,lv,lx,hh,PT,SB,hcs,BV⟩
     ·cases lv
     injection lv with lv hn lP
     injection lv with lv
     injection lv with lv
     subst lv lP hn;have jM:aF.sz (ko (aF.sz (El ty)))=aF.sz (El ty):=rfl;rw[jM] at akN hcs BV;have hk:dI w g e' cur:=hh;subst PO;have P6:done.length*aF.sz (El ty)+off+ys.length≤bS.length*aF.sz (El ty):=by
      have:(done.length+1)*aF.sz (El ty)≤bS.length*aF.sz (El ty):=acD _ hd;rw[Nat.add_mul,Nat.one_mul] at this;omega
     have afu:bS.length*aF.sz (El ty)≤cur.size:=by rw[hcs];exact acD _ PT
     have fb:=Bi (P:=P) (t:=t) (v:=a.eval y) (k:=done.length*aF.sz (El ty)+off) hk (by rw[hj];exact congrArg some (hc1.trans (hl.trans yW))) (by omega) (fun u hu=>by
      obtain⟨q,_,hq⟩:=Pz.right u hu;exact hq.one)
     have hp:=RN.setRow w g (cur.toList.take (done.length*aF.sz (El ty)+off)++(a.eval y).cells.toList++cur.toList.drop (done.length*aF.sz (El ty)+off+(a.eval y).cells.size)).toArray;have mn:dI (w.setRow g _) g e' _:=setRow_heap w g cur (cur.toList.take (done.length*aF.sz (El ty)+off)++(a.eval y).cells.toList++cur.toList.drop (done.length*aF.sz (El ty)+off+(a.eval y).cells.size)).toArray e' (0,0) hk;have sk:bk (.zip o2 e' ty tn im done cur0 rest) bs[ob]=some g:=by rw[hvo];rfl
     have hpg:w.grownBy (w.setRow g (cur.toList.take (done.length*aF.sz (El ty)+off)++(a.eval y).cells.toList++cur.toList.drop (done.length*aF.sz (El ty)+off+(a.eval y).cells.size)).toArray) (bk (.zip o2 e' ty tn im done cur0 rest) bs[ob]):=by rw[sk];exact hp.g
     have bX:=hs.keeps hH hg hpg;unfold Oper.wp execOp;simp only[hop,hv,Sem.run_bind,fb,Result.andThen_ok,Sem.run_pure,Oper.upon_skip];rw[‹o.dst=none›];refine hK _ (hs.set hH hg hpg ?_ (.inl rfl)) bX;have ZL:F2 (VR bs w S) (cur0.take off++ys++cur0.drop (off+ys.length)) (r.cells.take off++(a.eval y).cells.toList++r.cells.drop (off+ys.length)):=((hf.take off).append Pz).append (hf.drop _);have GI:(r.cells.take off++(a.eval y).cells.toList++r.cells.drop (off+ys.length)).length=aF.sz (El ty):=by
      simp only[aaD,acb,acv];omega
     have hF:=(q2.setN (y:=(⟨_,GI⟩:ko (aF.sz (El ty)))) rfl (i:=done.length) hd).keep (fun _ h=>h) bX;obtain⟨ds,hds,hcd⟩:=q2.get _ _ hr;have hds:ds=r.cells:=hds;subst hds;rw[jM] at hF hcd;rw[Nat.add_mul,Nat.one_mul,OY (by rw[←hl]) Af hcd (by rw[afE] at hc2;exact hc2)] at hF;obtain⟨_,_,_,hl2,u,tX,ti,hu3⟩:=aki;refine⟨bS.set done.length ⟨_,GI⟩,?_,⟨by rw[abY];exact hz.1,fun j r' j4=>?_⟩,hl2,u,tX,ti,hu3⟩
     ·rw[hvo];refine⟨_,?_,hF,fun b q=>⟨abc (hs.s b q).1 hp.g.size,by rw[←hvo];exact(q3 b q).2⟩⟩;rw[abY];have afD:cur.toList.length=cur.size:=abM;have tZ:=I2 (cur:=cur.toList) (ys:=(a.eval y).cells.toList) (N:=bS.length*aF.sz (El ty)) (k:=done.length*aF.sz (El ty)+off) hl.symm P6 (by omega);rw[BV] at tZ;refine⟨?_,.inr ⟨g,c,_,rfl,lx,mn,PT,SB,?_,?_⟩⟩
      ·rw[jM,←tZ,acb];simp only[aaD,acb,acv];omega
      ·rw[jM,ab6];simp only[aaD,acb,acv];omega
      ·rw[jM,←tZ,←yW,←hl]
     ·by_cases ej:j=done.length
      ·subst ej;rw[aaQ hd] at j4;obtain rfl:=aal j4;exact⟨fun x hx=>absurd (aag.1 hx).1 (act _),fun _=>ZL.mono fun _ _ q=>q.keep (fun _ h=>h) bX (jB.refl _),fun q=>absurd q (act _)⟩
      ·rw[aaK (acp ej)] at j4;obtain⟨z1,z2,z3⟩:=hz.2 j r' j4;exact⟨fun x hx=>aF.keep (z1 x hx) (fun _ h=>h) bX,fun q=>absurd q ej,fun q=>aF.keep (z3 q) (fun _ h=>h) bX⟩
   ·cases h
  ·cases h
 ·cases h
theorem S7 (hs:HS cx bs w S H) (he:ER m bs w S env a) {t:TypeId} {x y:Operand} (hop:o.op=.store t x y) (hd:o.dst=none) {H':List ai} (h:XQ P H t (ev env x) (ev env y)=some H') (hK:∀w',HS cx bs w' S H'→aA S w w'→K a w'):o.wp P a w K Q:=by
 unfold XQ at h;cases hp:AZ P H t (ev env x) (ev env y) with
 | none=>rw[hp] at h;cases h
 | some p=>
  rw[hp] at h;obtain rfl:=aal h;exact Ir hs he hop hd hp hK
theorem JR (hs:HS cx bs w S H) (he:ER m bs w S env a) {ty:TypeId→Option Ty} {t:TypeId} {s x:Operand} (hop:o.op=.call { callee:=.builtin .append,args:=#[s,x],argTypes:=#[t,t] }) {r:List ai×(y:Ty)×TypeId×List (El y)} (h:(Hq P ty H t (ev env s) (ev env x)).hit r) (hK:∀v w',HS cx bs w' S r.1→r.1.length=H.length→(∀i:Nat,H[i]?=some ai.dead→r.1[i]?=some ai.dead)→aA S w w'→Own (α:=El r.2.1) w' S 0 r.2.2.1 v r.2.2.2.reverse→(∀b,v.ownBlock=some b→(cx.w0.heap.size≤b∨cx.M b)∧¬S b∧∀(i:Nat) (z:ai) (u:Value),r.1[i]?=some z→bs[i]?=some u→¬Bk z u b)→K (a.put o.dst v) w'):o.wp P a w K Q:=by
 unfold Hq at h;split at h
 ·rename_i e sz bytes fU;split at h
  ·rename_i H' y rs qN;split at h
   ·rename_i ys hY;split at h
    ·rename_i jM;obtain⟨hn,h⟩:=h;have h:(_,_)=r:=h;subst h;have hty:gB P t e (aF.sz (El y)) bytes:=by
      unfold slI at fU;cases hu:P.underlying t with
      | none=>rw[hu] at fU;cases fU
      | some d=>
       rw[hu] at fU;cases d with
       | slice e'=>
        have fU:((P.info? e').bind fun i=>i.zero.bind fun z=>if z.cells.size=i.size∧0<i.size then some (e',i.size,i.bytes) else none)=some (e,sz,bytes):=fU;cases hi:P.info? e' with
        | none=>rw[hi] at fU;cases fU
        | some i=>
         rw[hi] at fU;have fU:(i.zero.bind fun z=>if z.cells.size=i.size∧0<i.size then some (e',i.size,i.bytes) else none)=some (e,sz,bytes):=fU;cases hz:i.zero with
         | none=>rw[hz] at fU;cases fU
         | some z=>
          rw[hz] at fU;have fU:(if z.cells.size=i.size∧0<i.size then some (e',i.size,i.bytes) else none)=some (e,sz,bytes):=fU;split at fU
          ·rename_i hc;injection fU with fU
           injection fU with e1 fU
           injection fU with e2 e3
           subst e1;exact⟨hu,⟨i,z,hi,hz,by omega,e3,by omega⟩,by omega⟩
          ·cases fU
       | _=>cases fU
     have CE:∀b,S b→b<w.heap.size:=fun b q=>(hs.s b q).1;have ii:Own (α:=El y) w S 0 e (a.eval s) rs.reverse∧∃Hd,Hd=H'∧((∃(i:Nat) (X Y:ai) (u:Value),X≠.dead∧bs[i]?=some u∧H[i]?=some X∧Hd=H.set i Y∧(∀c,Bk Y u c→Bk X u c)∧(∀c,(a.eval s).ownBlock=some c→Bk X u c∧¬Bk Y u c)∧∀w',w.grownBy w' (a.eval s).ownBlock→aA S w w'→OR bs w' S Y u)∨((a.eval s).ownBlock=none∧Hd=H)):=by
      unfold apS at qN;split at qN
      ·rename_i ob hx;split at qN
       ·rename_i y' e' rs' hH;split at qN
        ·rename_i ee;injection qN with qN
         injection qN with q1 q2
         injection q2 with q2 q3
         subst q2;have q3:=eq_of_heq q3;subst q3 ee;obtain⟨hb,A,n,c,hv⟩:=cN he hx;exact⟨hs.o ob _ _ hH hb,_,rfl,.inl ⟨ob,_,.dead,_,(fun e=>by cases e),hb,hH,q1.symm,(fun _ h=>by cases h),(fun c hc=>⟨hc,fun h=>by cases h⟩),fun _ _ _=>trivial⟩⟩
        ·cases qN
       ·cases qN
      ·rename_i hx;cases hte:ty e with
       | none=>rw[hte] at qN;cases qN
       | some y'=>
        rw[hte] at qN;injection qN with qN
        injection qN with q1 q2
        injection q2 with q2 q3
        subst q2;have q3:=eq_of_heq q3;subst q3;have hv:=(cN he hx).1;rw[hv];exact⟨Own.nil' w S CE 0 e,_,rfl,.inr ⟨rfl,q1.symm⟩⟩
      ·rename_i q kt k hx;split at qN
       ·rename_i p lu t' e' n f hH;split at qN
        ·rename_i hk _;obtain⟨rfl⟩:=hk;split at qN
         ·rename_i ee;injection qN with qN
          injection qN with q1 q2
          injection q2 with q2 q3
          subst q2;have q3:=eq_of_heq q3;subst q3 ee;obtain⟨b,l,hb,hv,fU⟩:=cN he hx;have lT:=hs.o q _ _ hH hb;obtain⟨ii,nN⟩:=vW.row CE lT hv;exact⟨ii,_,rfl,.inl ⟨q,_,.mx p kt t' e' n f k,_,(fun e=>by cases e),hb,hH,q1.symm,(fun c hc=>yA.weak hc),nN,fun w' hg hk=>vW.out lT hg hk (fun b q=>⟨abc (CE b q) hg.size,fun hc=>(hs.nw _ _ _ b hH hb (yA.weak hc)).2 q⟩) fun c hc=>(nN c hc).2⟩⟩
         ·cases qN
        ·cases qN
       ·cases qN
      ·cases qN
     obtain⟨ii,Hd,rfl,hd⟩:=ii;have hys:∃A n c ds,a.eval x=.slice A n c∧n=ys.length∧Flat w S ds ys∧(∀ad,A=some ad→cL w ad ds)∧(∀u∈ds,u.oneCell'=true)∧(A=none→n=0):=by
      have fromV:∀{b:AV},lF y b=some ys→VR bs w S b (a.eval x)→∃A n c ds,a.eval x=.slice A n c∧n=ys.length∧Flat w S ds ys∧(∀ad,A=some ad→cL w ad ds)∧(∀u∈ds,u.oneCell'=true)∧(A=none→n=0):=by
       intro b hu hv;obtain⟨A,n,c,e1,hr⟩:=oY (t:=.list y) hu hv;injection e1 with e1
       obtain⟨ds,q1,q2,q3⟩:=hr.flatAt;refine⟨A,n,c,ds,e1,hr.len.symm,q1,q2,q3,fun hA=>?_⟩;rcases acK n with h0|h0
       ·exact h0
       ·obtain⟨_,_,_,h3⟩:=hr;obtain⟨_,_,e,_⟩:=h3 h0;rw[hA] at e;cases e
      unfold apY at hY;split at hY
      ·rename_i ob hx;split at hY
       ·rename_i y' e' rs' hH;obtain⟨hb,A,n,c,hv⟩:=cN he hx;unfold lF at hY;simp only at hY;split at hY
        ·rename_i q hq;injection hY with hY
         obtain⟨q⟩:=q;subst q hY;have ho:Own (α:=El y') w S 0 e' (a.eval x) rs'.reverse:=hs.o ob _ _ hH hb;obtain⟨ds,⟨_,h2⟩,hf,_⟩:=ho;rcases h2 with⟨lv,hn0⟩|⟨g,cap,cur,lv,_,hg,PT,_,BV,tY⟩
         ·have:rs'.reverse=[]:=aaS hn0;rw[this] at hf ⊢;exact⟨none,0,0,[],lv,rfl,.nil,(fun ad e=>by cases e),(fun u hu=>by cases hu),fun _=>rfl⟩
         ·refine⟨_,_,_,ds,lv,rfl,hf,?_,?_,fun e=>by cases e⟩
          ·rintro ad e j u hj;injection e with e
           subst e;have nR:(⟨g,0,none⟩:Addr).add j=⟨g,j,none⟩:=by unfold Addr.add;split<;>simp_all
           rw[nR,(show dI w g e' cur from hg).cell];rw[←tY,acm] at hj;split at hj
           ·simpa using hj
           ·cases hj
          ·clear BV tY;intro u hu;have:∀{ds:List Value} {xs:List (El y')},Flat w S ds xs→∀u∈ds,u.oneCell'=true:=by
            intro ds xs hf;induction hf with
            | nil=>intro u hu;cases hu
            | snoc _ hr ih=>
             intro u hu;rcases abW.1 hu with hu|hu
             ·exact ih u hu
             ·exact Xl hr u hu
           exact this hf u hu
        ·cases hY
       ·cases hY
      ·rename_i b _ hx;exact fromV hY (cN he hx)
      ·cases hY
     obtain⟨A,n,c,ds,hx,GI,Ah,akP,UM,ako⟩:=hys;have bG:(rs.reverse.length+ys.length)*(bytes+1)≤140737488355328:=by rw[aaH];exact hn
     have fin:∀v' w',Own (α:=El y) w' S 0 e v' (rs.reverse++ys)→w.grownBy w' (a.eval s).ownBlock→(v'.ownBlock=(a.eval s).ownBlock∨v'.ownBlock=some w.heap.size)→K (a.put o.dst v') w':=by
      intro v' w' q1 q2 q3;have bX:aA S w w':=aA.of_row q2 fun b q=>⟨CE b q,fun e=>(Own.apart ii b q).2 e⟩;have lx:HS cx bs w' S Hd∧∀b,v'.ownBlock=some b→(cx.w0.heap.size≤b∨cx.M b)∧¬S b∧∀(i:Nat) (z:ai) (u:Value),Hd[i]?=some z→bs[i]?=some u→¬Bk z u b:=by
       have nP:∀{Hx:List ai},(∀(i:Nat) (z:ai),Hx[i]?=some z→z=.dead∨H[i]?=some z)→∀b,b=w.heap.size→(cx.w0.heap.size≤b∨cx.M b)∧¬S b∧∀(i:Nat) (z:ai) (u:Value),Hx[i]?=some z→bs[i]?=some u→¬Bk z u b:=by
        rintro Hx hm b rfl;refine⟨.inl hs.size,fun q=>act _ (CE _ q),fun i z u hz hu e=>?_⟩;rcases hm i z hz with rfl|hz
        ·cases e
        ·exact act _ ((hs.o i z u hz hu).lt e)
       rcases hd with⟨i,X,Y,u0,hXd,hb,hH,rfl,hXY,nN,hYo⟩|⟨MD,rfl⟩
       ·have UQ:=(aag.1 hH).1;have hmm:∀(j:Nat) (z:ai),(H.set i Y)[j]?=some z→(j=i∧z=Y)∨(j≠i∧H[j]?=some z):=by
         intro j z hz;by_cases e:j=i
         ·subst e;rw[aaQ UQ] at hz;exact .inl ⟨rfl,(aal hz).symm⟩
         ·rw[aaK (acp e)] at hz;exact .inr ⟨e,hz⟩
        refine⟨hs.setB hH hb q2 (fun c hc=>(nN c hc).1) (hYo w' q2 bX) hXY,fun b gD=>?_⟩;rcases q3 with q3|q3
        ·rw[q3] at gD;refine⟨(hs.nw i _ _ b hH hb (nN b gD).1).1,(hs.nw i _ _ b hH hb (nN b gD).1).2,fun j z u hz hu e=>?_⟩;rcases hmm j z hz with⟨rfl,rfl⟩|⟨e2,hz⟩
         ·rw[hb] at hu;obtain rfl:=aal hu;exact(nN b gD).2 e
         ·exact hs.ap i j _ _ _ _ b (acp e2) hH hb hz hu (nN b gD).1 e
        ·rw[q3] at gD;obtain rfl:=aal gD;refine⟨.inl hs.size,fun q=>act _ (CE _ q),fun j z u hz hu e=>?_⟩;rcases hmm j z hz with⟨rfl,rfl⟩|⟨_,hz⟩
         ·rw[hb] at hu;obtain rfl:=aal hu;exact act _ ((hs.o _ _ _ hH hb).lt (hXY _ e))
         ·exact act _ ((hs.o j z u hz hu).lt e)
       ·rw[MD] at q2;have cm:Below w.heap.size w w':=⟨q2.os,q2.tape,q2.output,q2.size,fun b hb=>q2.block b hb (by simp)⟩;refine⟨hs.grow cm (fun _ h=>h) (fun _ h=>.inl h),fun b gD=>?_⟩;rcases q3 with q3|q3
        ·rw[q3,MD] at gD;cases gD
        ·rw[q3] at gD;exact nP (fun _ _ h=>.inr h) b (aal gD).symm
      obtain⟨cK,cm⟩:=lx;have hHl:Hd.length=H.length:=by rcases hd with⟨i,_,_,_,_,_,_,rfl,_⟩|⟨_,rfl⟩<;>simp
      refine hK v' w' cK hHl (fun i=>?_) bX (by show Own (α:=El y) w' S 0 e v' (ys.reverse++rs).reverse;rw[acU,aap];exact q1) cm;rcases hd with⟨j,X,Y,_,hXd,_,hH,rfl,_⟩|⟨_,rfl⟩
      ·intro hi;have e:j≠i:=fun e=>by subst e;rw[hH] at hi;exact hXd (aal hi)
       rw[aaK e];exact hi
      ·exact fun h=>h
     cases A with
     | some ad=>exact pK (α:=El y) s x t hop bytes hty rfl ii ad n c ds ys hx GI Ah (akP ad rfl) UM bG (ab0 _) fun v' w' q1 q2 q3=>fin v' w' q1 q2 q3
     | none=>
      have hn0:=ako rfl;subst hn0;have hy:ys=[]:=aaS GI.symm;subst hy;have PP:=ii;obtain⟨cs,qX,_,_⟩:=PP;obtain⟨i,z,hi,_⟩:=hty.info;have lO:=jH (P:=P) (ty:=o.type) hty.under hi qX c;unfold Oper.wp;simp[execOp,hop,resolve,invoke,builtin,hx,lO,Result.andThen];exact fin _ _ (by rw[acn];exact ii) ⟨rfl,rfl,rfl,aaJ _,fun _ _ _=>rfl⟩ (.inl rfl)
    ·exact h.elim
   ·exact h.elim
  ·exact h.elim
 ·exact h.elim
theorem VM (hs:HS cx bs w S H) (he:ER m bs w S env a) {ty:TypeId→Option Ty} {t:TypeId} {s x:Operand} (hop:o.op=.call { callee:=.builtin .append,args:=#[s,x],argTypes:=#[t,t] }) {r:XV×List ai} (h:(agp P ty H t (ev env s) (ev env x)).hit r) (hK:∀v w' bn,HS cx bn w' S r.2→aA S w w'→jB bs bn→XR bn w' S r.1 v→K (a.put o.dst v) w'):o.wp P a w K Q:=by
 obtain⟨q,h1,h2⟩:=T.hit_bind h;have h2:(XV.one (.own H.length),q.1++[ai.row q.2.1 q.2.2.1 q.2.2.2])=r:=h2;subst h2;refine JR hs he hop h1 fun v w' cK hHl _ bX ii cm=>?_;have PN:=cK.pad;have hj:(q.1++[ai.dead])[q.1.length]?=some .dead:=by rw[aam (aaJ _)];simp
 have xG:(bs++[undef])[q.1.length]?=some undef:=by rw[←cK.len,aam (aaJ _)];simp
 have j5:=PN.fill (x:=.row q.2.1 q.2.2.1 q.2.2.2) (v:=v) hj xG rfl ii (fun b gD=>⟨(cm b gD).1,(cm b gD).2.1,fun i z u hz hu e=>by
  by_cases hi:i<q.1.length
  ·rw[aaz hi] at hz;rw[aaz (by rw[cK.len];exact hi)] at hu;exact(cm b gD).2.2 i z u hz hu e
  ·have:z=.dead:=by
    have h1:=(aag.1 hz).1;have e2:i=q.1.length:=by simp at h1;omega
    subst e2;rw[hj] at hz;exact(aal hz).symm
   subst this;cases e⟩)
 have sg:(q.1++[ai.dead]).set q.1.length (.row q.2.1 q.2.2.1 q.2.2.2)=q.1++[.row q.2.1 q.2.2.1 q.2.2.2]:=by
  rw[acq _ _ (aaJ _)];simp
 have Ae:(bs++[undef]).set q.1.length v=bs++[v]:=by
  rw[←cK.len,acq _ _ (aaJ _)];simp
 rw[sg,Ae] at j5;obtain⟨A',n',c',Ls,_⟩:=ii.slice;refine hK v w' (bs++[v]) j5 bX (oQ _ _) ⟨?_,A',n',c',Ls⟩;rw[←hHl,←cK.len,aam (aaJ _)];simp
end
def Ca (i:Nat) (x:AV):AV→AV
 | .own o=>bif o==i then x else .own o
 | .mp o=>bif o==i then x else .mp o
 | a=>a
def afW (i:Nat) (x:AV):XV→XV
 | .one a=>.one (Ca i x a)
 | .agg cs=>.agg (cs.map (Ca i x))
 | .tup l=>.tup (l.map fun p=>(p.1,p.2.map (Ca i x)))
def U9 (i:Nat) (x:AV):ai→ai
 | .cells ty cs=>.cells ty (cs.map (Ca i x))
 | .zip o2 e t tn im done cur rest=>.zip o2 e t tn im done (cur.map (Ca i x)) rest
 | y=>y
def Va (i:Nat) (st:eu):eu:=match (st.heap[i]?).bind kx with
 | some x=>⟨st.env.map fun p=>(p.1,afW i x p.2),(st.heap.set i .dead).map (U9 i x)⟩
 | none=>st
def aaU:List AV→eu→eu
 | [],st=>st
 | c::l,st=>aaU l (match nl c with
  | some i=>Va i st
  | none=>st)
def B7 (st:eu) (t:Nat):eu:=match st.env.lookup t with
 | some (.one (.own i))=>Va i st
 | some (.one (.mp i))=>Va i st
 | some (.agg cs)=>aaU cs st
 | _=>st
section
variable {m:Nat} {cx:Cx} {st:eu} {a:Act} {w:World}
theorem xP {i:Nat} (h:fJ m cx st a w):fJ m cx (Va i st) a w:=by
 unfold Va;split
 ·rename_i x ji;obtain⟨Y,hi,hx⟩:=Option.bind_eq_some_iff.1 ji;obtain⟨bs,S,hs,he⟩:=h;have ME:i<bs.length:=by rw[hs.len];exact(aag.1 hi).1
  obtain⟨v,hv⟩:∃v,bs[i]?=some v:=⟨_,aae ME⟩;have ho:=hs.o i _ v hi hv
  let S':Nat→Prop:=fun b=>S b∨Bk Y v b
  have qN:∀b,S' b→b<w.heap.size:=fun b q=>q.elim (fun q=>(hs.s b q).1) fun q=>ho.lt q;have vr:∀{y:AV} {u:Value},VR bs w S y u→VR bs w S' (Ca i x y) u:=by
   intro y u hy;have up:VR bs w S' y u:=hy.keep (fun _ h=>.inl h) (aA.refl _ _) (jB.refl _);have one:∀o,nl y=some o→Ca i x y=(bif o==i then x else y)→VR bs w S' (Ca i x y) u:=by
    intro o qX e;rw[e];by_cases nO:o=i
    ·subst nO;rw[beq_self_eq_true];have hb:=wV hy qX;rw[hv] at hb;obtain rfl:=aal hb;exact wi ho hx (fun _ h=>.inl h) fun _ h=>.inr h
    ·rw[beq_eq_false_iff_ne.2 nO];exact up
   cases y with
   | own o=>exact one o rfl rfl
   | mp o=>exact one o rfl rfl
   | _=>exact up
  have cr:∀{ag:Bool} {cs:List AV} {u:Value},CR bs w S ag cs u→CR bs w S' ag (cs.map (Ca i x)) u:=by
   intro ag cs u hc;unfold CR at hc ⊢;cases ag with
   | true=>obtain⟨vs,e,h⟩:=hc;exact⟨vs,e,h.mapL fun _ _ _ h=>vr h⟩
   | false=>obtain⟨a,rfl,h⟩:=hc;exact⟨_,rfl,vr h⟩
  have xr:∀{z:XV} {u:Value},XR bs w S z u→XR bs w S' (afW i x z) u:=by
   intro z u hx;cases z with
   | one b=>exact vr hx
   | agg cs=>exact cr (ag:=true) hx
   | tup l=>obtain⟨vs,e,h⟩:=hx;exact⟨vs,e,h.mapL fun _ _ _ h=>cr h⟩
  have get:∀{j:Nat} {y:ai},((st.heap.set i .dead).map (U9 i x))[j]?=some y→y=.dead∨(j≠i∧∃z,st.heap[j]?=some z∧y=U9 i x z):=by
   intro j y hy;rw[acz] at hy;by_cases hj:j=i
   ·subst hj;rw[aaQ (by rw[←hs.len];exact ME)] at hy;exact .inl (aal hy).symm
   ·rw[aaK (acp hj)] at hy;cases hz:st.heap[j]? with
    | none=>rw[hz] at hy;cases hy
    | some z=>rw[hz] at hy;exact .inr ⟨hj,z,rfl,(aal hy).symm⟩
  have bko:∀{z:ai} {u:Value} {b:Nat},Bk (U9 i x z) u b→Bk z u b:=by
   intro z u b h;cases z with
   | cells ty cs=>cases u with
    | pointer p=>cases p<;>exact h
    | _=>exact h
   | _=>exact h
  have far:∀{j:Nat} {z:ai} {u:Value} {b:Nat},j≠i→st.heap[j]?=some z→bs[j]?=some u→Bk z u b→¬S' b:=fun hj hz hu hb q=>q.elim (hs.nw _ _ _ _ hz hu hb).2 fun q=>hs.ap _ i _ _ _ v _ hj hz hu hi hv hb q;refine⟨bs,S',⟨by rw[ace,abY];exact hs.len,?_,?_,?_,fun b q=>⟨qN b q,?_⟩,fun b q=>.inl (hs.s0 b q),hs.os,hs.tape,hs.output,hs.size,hs.old,hs.an⟩,he.d,he.s,fun u x hx=>?_⟩
  ·intro j y u hy hu;rcases get hy with rfl|⟨hj,z,hz,rfl⟩
   ·exact trivial
   ·have lT:=hs.o j z u hz hu;have kp:=lT.keep (S':=S') (eO (Below.refl _ _) (aaJ _) none) (by simp) (aA.refl _ _) (fun _ h=>.inl h) (fun b q=>⟨qN b q,fun e=>far hj hz hu e q⟩) (jB.refl _);cases z with
    | cells ty cs=>obtain⟨g,vs,rfl,h1,h2⟩:=lT;exact⟨g,vs,rfl,h1,h2.mapL fun _ _ _ h=>vr h⟩
    | zip o2 e' t' Ni im done cur rest=>
     obtain⟨bS,ho',hz',q⟩:=kp;obtain⟨adX,nO,iO,_⟩:=lT;refine⟨adX,?_,⟨iO.1,fun j r hr=>?_⟩,q⟩
     ·refine Own.widen nO (fun _ h=>.inl h) fun b q=>⟨qN b q,fun e=>far hj hz hu e.symm q⟩
     ·obtain⟨z1,z2,z3⟩:=iO.2 j r hr;exact⟨fun x hx=>aF.keep (z1 x hx) (fun _ h=>.inl h) (aA.refl _ _),fun e=>(z2 e).mapL fun _ _ _ h=>vr h,fun e=>aF.keep (z3 e) (fun _ h=>.inl h) (aA.refl _ _)⟩
    | _=>exact kp
  ·intro j k y y2 u v2 b hjk hy hu hz lv cK cm;rcases get hy with rfl|⟨_,z,fF,rfl⟩
   ·cases cK
   rcases get hz with rfl|⟨_,z2,iO,rfl⟩
   ·cases cm
   exact hs.ap j k z z2 u v2 b hjk fF hu iO lv (bko cK) (bko cm)
  ·intro j y u b hy hu hb;rcases get hy with rfl|⟨hj,z,fF,rfl⟩
   ·cases hb
   exact⟨(hs.nw j z u b fF hu (bko hb)).1,far hj fF hu (bko hb)⟩
  ·exact q.elim (fun q=>(hs.s b q).2) fun q=>.inr (hs.nw i _ v b hi hv q).1
  ·obtain⟨p,hp,e⟩:=acC.1 hx;injection e with e1 e2
   subst e1 e2;obtain⟨v,h1,h2⟩:=he.k p.1 p.2 hp;exact⟨v,h1,xr h2⟩
 ·exact h
theorem Jw:∀{l:List AV} {st:eu},fJ m cx st a w→fJ m cx (aaU l st) a w
 | [],_,h=>h
 | c::l,st,h=>Jw (l:=l) (by
  split
  ·exact xP h
  ·exact h)
theorem U8 {t:Nat} (h:fJ m cx st a w):fJ m cx (B7 st t) a w:=by
 unfold B7;split
 ·exact xP h
 ·exact xP h
 ·exact Jw h
 ·exact h
theorem B8:∀{l:List Nat} {st:eu},fJ m cx st a w→fJ m cx (l.foldl B7 st) a w
 | [],_,h=>h
 | t::l,st,h=>B8 (l:=l) (st:=B7 st t) (U8 h)
end
def jl:List (Nat×ai)→List ai→List ai
 | [],H=>H
 | p::l,H=>jl l (H.set p.1 p.2)
section
variable {cx:Cx} {bs:List Value} {w:World} {S:Nat→Prop} {H:List ai}
theorem aeG (hs:HS cx bs w S H) {o:Nat} {Y:ai} {x:AV} {v:Value} (hH:H[o]?=some Y) (hx:kx Y=some x) (hv:bs[o]?=some v):HS cx bs w (fun b=>S b∨Bk Y v b) (H.set o .dead)∧VR bs w (fun b=>S b∨Bk Y v b) x v:=by
 have yU:=(aag.1 hH).1;have hlt:∀b,(S b∨Bk Y v b)→b<w.heap.size:=fun b q=>q.elim (fun q=>(hs.s b q).1) fun q=>(hs.o o _ v hH hv).lt q;have get:∀{j:Nat} {y:ai},(H.set o .dead)[j]?=some y→y=.dead∨(j≠o∧H[j]?=some y):=by
  intro j y hy;by_cases hj:j=o
  ·subst hj;rw[aaQ yU] at hy;exact .inl (aal hy).symm
  ·rw[aaK (acp hj)] at hy;exact .inr ⟨hj,hy⟩
 have far:∀{j:Nat} {z:ai} {u:Value} {b:Nat},j≠o→H[j]?=some z→bs[j]?=some u→Bk z u b→¬(S b∨Bk Y v b):=fun hj hz hu hb q=>q.elim (hs.nw _ _ _ _ hz hu hb).2 fun q=>hs.ap _ o _ _ _ v _ hj hz hu hH hv hb q;refine⟨⟨by rw[abY];exact hs.len,?_,?_,?_,fun b q=>⟨hlt b q,q.elim (fun q=>(hs.s b q).2) fun q=>.inr (hs.nw o _ v b hH hv q).1⟩,fun b q=>.inl (hs.s0 b q),hs.os,hs.tape,hs.output,hs.size,hs.old,hs.an⟩,wi (hs.o o _ v hH hv) hx (fun _ h=>.inl h) fun _ h=>.inr h⟩
 ·intro j y u hy hu;rcases get hy with rfl|⟨hj,hz⟩
  ·exact trivial
  ·exact(hs.o j y u hz hu).keep (eO (Below.refl _ _) (aaJ _) none) (by simp) (aA.refl _ _) (fun _ h=>.inl h) (fun b q=>⟨hlt b q,fun e=>far hj hz hu e q⟩) (jB.refl _)
 ·intro j k y y2 u v2 b hjk hy hu hz lv cK cm;rcases get hy with rfl|⟨_,fF⟩
  ·cases cK
  rcases get hz with rfl|⟨_,iO⟩
  ·cases cm
  exact hs.ap j k y y2 u v2 b hjk fF hu iO lv cK cm
 ·intro j y u b hy hu hb;rcases get hy with rfl|⟨hj,fF⟩
  ·cases hb
  exact⟨(hs.nw j y u b fF hu hb).1,far hj fF hu hb⟩
def ml (os:List Nat):List (Nat×ai):=os.map fun o=>(o,.dead)
theorem BI:∀(os:List Nat) {S:Nat→Prop} {H:List ai},HS cx bs w S H→∃S',(∀b,S b→S' b)∧HS cx bs w S' (jl (ml os) H)∧∀o∈os,∀(y:ai) (x:AV) (v:Value),H[o]?=some y→kx y=some x→bs[o]?=some v→VR bs w S' x v
 | [],S,H,hs=>⟨S,fun _ h=>h,hs,fun o ho=>by cases ho⟩
 | o::os,S,H,hs=>by
  have next:∀{S1:Nat→Prop},(∀b,S b→S1 b)→HS cx bs w S1 (H.set o .dead)→(∀(y:ai) (x:AV) (v:Value),H[o]?=some y→kx y=some x→bs[o]?=some v→VR bs w S1 x v)→∃S',(∀b,S b→S' b)∧HS cx bs w S' (jl (ml (o::os)) H)∧∀o'∈o::os,∀(y:ai) (x:AV) (v:Value),H[o']?=some y→kx y=some x→bs[o']?=some v→VR bs w S' x v:=by
   intro S1 h1 h2 h3;obtain⟨S',q1,q2,q3⟩:=BI os h2;refine⟨S',fun b q=>q1 b (h1 b q),q2,fun o' ho' y x v hH hx hv=>?_⟩;by_cases e2:o'=o
   ·subst e2;exact(h3 y x v hH hx hv).keep q1 (aA.refl _ _) (jB.refl _)
   ·rcases aaP.1 ho' with e3|ho'
    ·exact absurd e3 e2
    ·exact q3 o' ho' y x v (by rw[aaK (acp e2)];exact hH) hx hv
  have mask:HS cx bs w S (H.set o .dead):=hs.mask (by rw[abY]) fun i x hx=>by
   by_cases e:o=i
   ·subst e;by_cases hl:o<H.length
    ·rw[aaQ hl] at hx;exact .inl (aal hx).symm
    ·rw[abN (by rw[abY];omega)] at hx;cases hx
   ·rw[aaK e] at hx;exact .inr hx
  cases hY:(H[o]?).bind kx with
  | none=>exact next (fun _ h=>h) mask fun y x v h h2=>by rw[h] at hY;rw[show kx y=none from hY] at h2;cases h2
  | some x=>
   obtain⟨Y,hH,hx⟩:=Option.bind_eq_some_iff.1 hY;have yU:o<bs.length:=by rw[hs.len];exact(aag.1 hH).1
   have hv:=aae yU;obtain⟨k1,k2⟩:=aeG hs hH hx hv;refine next (fun _ h=>.inl h) k1 fun y' x' v' h1 h2 h3=>?_;rw[hH] at h1;obtain rfl:=aal h1;rw[hx] at h2;obtain rfl:=aal h2;rw[hv] at h3;obtain rfl:=aal h3;exact k2
def CK (H:List ai) (a:AV):AV:=match nl a with
 | some o=>((H[o]?).bind kx).getD a
 | none=>a
def wR (ps:List (Nat×List AV)):List Nat:=ps.flatMap fun p=>p.2.filterMap nl
def Wo (H:List ai) (ps:List (Nat×List AV)):List (Nat×List AV):=ps.map fun p=>(p.1,p.2.map (CK H))
end
section
variable {P:Program} {o:Oper} {cx:Cx} {bs bn:List Value} {w w':World} {S:Nat→Prop} {H:List ai} {m:Nat} {env:Env} {a:Act} {cZ:Nat} {ty:TypeId→Option Ty} {K:Act→World→Prop} {Q:Exit→Act→World→Prop}
theorem Rl:1000000000000≤maxLen:=by unfold maxLen;decide
theorem ajk {kt:Kt} {y:Ty} {n n':Nat} {f f':kt.K→Option (El y)} {v:Value} {c:Nat} (h:Bk (.mp kt y n f) v c):Bk (.mp kt y n' f') v c:=by
 cases v with
 | map b=>cases b<;>exact h
 | _=>cases h
theorem NN {H:List ai} {cx:Cx} {bs:List Value} {w:World} {S:Nat→Prop} (h:HS cx bs w S H) (n:Nat):HS cx bs w S (H.set n .dead):=h.mask (by rw[abY]) fun i x hx=>by
 by_cases e:n=i
 ·subst e;by_cases hl:n<H.length
  ·rw[aaQ hl] at hx;exact .inl (aal hx).symm
  ·rw[abN (by rw[abY];omega)] at hx;cases hx
 ·rw[aaK e] at hx;exact .inr hx
theorem Wm {t:TypeId} {mo x v:Operand} (hop:o.op=.mapUpdate t mo x v) (hd:o.dst=none) (hr:(Instr.mapUpdate t (a.eval mo) (a.eval x) (a.eval v)).run P w=.ok () w') (hK:K a w'):o.wp P a w K Q:=by
 unfold Oper.wp;simp[execOp,hop,hr,Result.andThen];show K (a.put o.dst undef) w';rw[hd];exact hK
theorem ai3 {kt:Kt} {y:Ty} {f:kt.K→Option (El y)} {g:kt.K→Option Value} {k:kt.K} {z:El y} {u:Value} (h:∀k,yw w S (f k) (g k)) (hz:aF.rep (α:=El y) w S [u] z) (k':kt.K):yw w S (mW kt f k z k') (mW kt g k u k'):=by
 by_cases e:k'=k
 ·subst e;rw[gQ,gQ];exact⟨u,rfl,hz⟩
 ·rw[kZ e,kZ e];exact h k'
noncomputable def NO (l:List (Value×Value)) (k u:Value):List (Value×Value):=(k,u)::l.filter fun p=>@decide (p.1≠k) (Classical.propDecidable _)
theorem Kw {kt:Kt} {g:kt.K→Option Value} {l:List (Value×Value)} {k:kt.K} {u:Value} (h:∀k u,g k=some u↔(kt.val k,u)∈l) (k':kt.K) (u':Value):mW kt g k u k'=some u'↔(kt.val k',u')∈NO l (kt.val k) u:=by
 unfold NO;rw[aaP,acO];by_cases e:k'=k
 ·subst e;rw[gQ];constructor
  ·intro h;injection h with h;subst h;exact .inl rfl
  ·rintro(h|⟨_,h⟩)
   ·injection h with _ h;rw[h]
   ·exact absurd rfl (@of_decide_eq_true _ (Classical.propDecidable _) h)
 ·rw[kZ e,h];constructor
  ·intro h;exact .inr ⟨h,@decide_eq_true _ (Classical.propDecidable _) fun e2=>e (Kt.val_inj e2)⟩
  ·rintro(h|⟨h,_⟩)
   ·injection h with h _;exact absurd (Kt.val_inj h) e
   ·exact h
theorem OL (hs:HS cx bs w S H) (he:ER m bs w S env a) (hP:IsP P) {t:TypeId} {mo x v:Operand} (hop:o.op=.mapUpdate t mo x v) (hd:o.dst=none) (hn:H[cZ]?=some .dead) (hb:bs[cZ]?=some undef) {r:List (Nat×ai)×Option ai} (h:(Y4 P ty cZ H t (ev env mo) (ev env x) (ev env v)).hit r) (hK:∀w' bn,HS cx bn w' S (jl (r.1++[(cZ,r.2.getD .dead)]) H)→aA S w w'→jB bs bn→(∀j,j≠cZ→bn[j]?=bs[j]?)→K a w'):o.wp P a w K Q:=by
 obtain rfl:=hP.eq;have CE:∀b,S b→b<w.heap.size:=fun b q=>(hs.s b q).1;unfold Y4 at h;split at h
 ·rename_i mt ob c hm hbo hbv;obtain⟨e,hu,hz,WU,fF,hzr⟩:=IY hm;split at h
  ·rename_i k lu y' n f hk hH;split at h
   ·rename_i q z _ hun;obtain⟨q⟩:=q;injection q with q1 q2
    subst q1 q2;obtain⟨⟨vk,PS⟩,h⟩:=h;have h:(_,_)=r:=h;subst h;have hkv:=BJ he hk;obtain⟨cK,_⟩:=cN he hbo;obtain⟨bl,g,e1,hg,hf⟩:=hs.o ob _ _ hH cK;obtain⟨w',lO,hg',hgr⟩:=hg.store (u:=a.eval v) hu (abc PS Rl) vk;have hB:Bk (.mp mt.kt mt.y n f) (a.eval mo) bl:=by rw[e1];rfl
    have bX:aA S w w':=aA.of_row hgr fun b q=>⟨CE b q,fun e=>by injection e with e;subst e;exact(hs.nw _ _ _ _ hH cK hB).2 q⟩;have fL:aF.rep (α:=El mt.y) w' S [a.eval v] z:=aF.keep (oY hun (cN he hbv)) (fun _ h=>h) bX;have sg:=hs.setB hH cK hgr (fun c hc=>aal hc▸hB) (y:=.mp mt.kt mt.y (n+1) (mW mt.kt f k z)) ⟨bl,_,e1,hg',ai3 (fun k=>(hf k).keep (fun _ h=>h) bX) fL⟩ (fun c hc=>ajk hc);refine Wm hop hd (w':=w') (by rw[e1,hkv];exact lO) (hK w' bs (NN sg cZ) bX (jB.refl _) fun _ _=>rfl)
   ·exact h.elim
  ·rename_i k q hk hH;split at h
   ·rename_i rr p lu t' e' n f k' hQ;split at h
    ·rename_i t2 e2 rs hR;split at h
     ·rename_i Ef ht2 _ _;obtain⟨Ef⟩:=Ef;obtain⟨ht2⟩:=ht2;subst Ef ht2;split at h
      ·rename_i hc;obtain⟨rfl,rfl⟩:=hc;obtain⟨⟨vk,xF,PS⟩,h⟩:=h;have xF:k=k':=xF;subst xF;have h:(_,_)=r:=h;subst h;have hkv:=BJ he hk;obtain⟨cK,bl0,e0⟩:=cN he hbo;obtain⟨hbr,fU⟩:=cN he hbv;have Jk:q<bs.length:=by rw[hs.len];exact(aag.1 hQ).1
       have LD:=aae Jk;obtain⟨bl,l,g,e1,h1,h2,h3,h4,h5,h6⟩:=hs.o q _ _ hQ LD;rw[cK] at h1;injection h1 with h1
       obtain⟨w',lO,hg',hgr⟩:=h2.store (u:=a.eval v) hu (abc PS Rl) vk;have hBm:∀c,c=bl∨(∃(k1:mt.kt.K) (u:Value),k1≠k∧g k1=some u∧u.ownBlock=some c)→yA mt.kt (·=k) bs[q] c:=fun c hc=>by
        rw[e1];exact⟨bl,l,rfl,hc.imp id fun⟨k1,u,q1,q2,q3⟩=>⟨k1,u,q1,(h3 k1 u).1 q2,q3⟩⟩
       have bX:aA S w w':=aA.of_row hgr fun b qq=>⟨CE b qq,fun e=>by injection e with e;subst e;exact(hs.nw _ _ _ _ hQ LD (hBm _ (.inl rfl))).2 qq⟩;have s1:=hs.setB hQ LD hgr (fun c hc=>by injection hc with hc;subst hc;exact hBm _ (.inl rfl)) (y:=.dead) trivial (fun _ h=>by cases h);have Fx:q≠rr:=fun e=>by subst e;rw[hQ] at hR;cases hR
       have hqo:q≠p:=fun e=>by subst e;rw[hQ] at hH;cases hH
       have PG:rr≠p:=fun e=>by subst e;rw[hR] at hH;cases hH
       have WY:cZ≠q:=fun e=>by subst e;rw[hQ] at hn;cases hn
       have hnr:cZ≠rr:=fun e=>by subst e;rw[hR] at hn;cases hn
       have Lw:cZ≠p:=fun e=>by subst e;rw[hH] at hn;cases hn
       have nN:Own (α:=El t2) w' S 0 e2 (a.eval v) rs.reverse:=s1.o rr (.row t2 e2 rs) _ (by rw[aaK Fx];exact hR) hbr;have s2:=NN s1 rr;have s3:=s2.setB (i:=p) (x:=.mq q) (y:=.mq cZ) (row:=none) (w':=w') (by rw[aaK PG,aaK hqo];exact hH) cK ⟨rfl,rfl,rfl,aaJ _,fun _ _ _=>rfl⟩ (fun _ h=>by cases h) ⟨bl0,e0⟩ (fun _ h=>by cases h);have hL:∀{i:Nat} {z:ai} {u:Value} {c:Nat},(((H.set q .dead).set rr .dead).set p (.mq cZ))[i]?=some z→bs[i]?=some u→Bk z u c→i≠q∧i≠rr∧H[i]?=some z:=by
        intro i z u c hz hu hc;by_cases e1:i=p
        ·subst e1;rw[aaQ (by rw[abY,abY];exact(aag.1 hH).1)] at hz;obtain rfl:=aal hz;cases hc
        ·rw[aaK (acp e1)] at hz;by_cases e2:i=rr
         ·subst e2;rw[aaQ (by rw[abY];exact(aag.1 hR).1)] at hz;obtain rfl:=aal hz;cases hc
         ·rw[aaK (acp e2)] at hz;by_cases e3:i=q
          ·subst e3;rw[aaQ (aag.1 hQ).1] at hz;obtain rfl:=aal hz;cases hc
          ·rw[aaK (acp e3)] at hz;exact⟨e3,e2,hz⟩
       have hBr:∀c,(a.eval v).ownBlock=some c→Bk (.row t2 e2 rs) (a.eval v) c:=fun c hc=>hc;have far:∀{c c':Nat},(a.eval v).ownBlock=some c→yA mt.kt (·=k) bs[q] c'→c≠c':=fun {c c'} hc Qm e=>by
        subst e;exact hs.ap rr q _ _ _ _ c (acp Fx) hR hbr hQ LD (hBr c hc) Qm
       have xE:=Kw (k:=k) (u:=a.eval v) h3;have Jl:(((H.set q .dead).set rr .dead).set p (.mq cZ))[cZ]?=some .dead:=by
        rw[aaK (acp Lw),aaK (acp hnr),aaK (acp WY)];exact hn
       have hg2:∀k1 u,k1≠k→mW mt.kt g k (a.eval v) k1=some u→g k1=some u:=fun k1 u e q=>by rw[kZ e] at q;exact q
       have hg1:∀u,mW mt.kt g k (a.eval v) k=some u→u=a.eval v:=fun u q=>by rw[gQ] at q;exact(aal q).symm
       have s4:=s3.fill (j:=cZ) (x:=.mr p mt.kt t2 e2 (n+1) (mW mt.kt f k rs)) (v:=uk bl (NO l (mt.kt.val k) (a.eval v))) Jl hb rfl
        ⟨bl,_,mW mt.kt g k (a.eval v),rfl,by rw[aaK Lw,cK,h1],hg',xE,fun k1 _=>by
         by_cases e:k1=k
         ·subst e;rw[gQ,gQ];exact⟨_,rfl,nN⟩
         ·rw[kZ e,kZ e];have:=h4 k1 e;cases hf:f k1 with
          | none=>rw[hf] at this;exact this
          | some xs=>
           rw[hf] at this;obtain⟨u,tX,cs,q1,q2,q3⟩:=this;refine⟨u,tX,cs,q1.kept hgr ?_,q2.keep (fun _ h=>h) bX,fun c hc=>⟨abc (q3 c hc).1 hgr.size,(q3 c hc).2⟩⟩;cases e3:u.ownBlock with
           | none=>exact .inl rfl
           | some c=>exact .inr fun e4=>h6 k1 u tX (by rw[e3];exact e4),
         fun k1 k2 u1 u2 c q1 q2 fG hc1 hc2=>by
          by_cases a1:k1=k
          ·subst a1;obtain rfl:=hg1 _ q1;exact far hc1 (hBm c (.inr ⟨k2,u2,acp fG,hg2 _ _ (acp fG) q2,hc2⟩)) rfl
          ·by_cases a2:k2=k
           ·subst a2;obtain rfl:=hg1 _ q2;exact far hc2 (hBm c (.inr ⟨k1,u1,a1,hg2 _ _ a1 q1,hc1⟩)) rfl
           ·exact h5 k1 k2 u1 u2 c (hg2 _ _ a1 q1) (hg2 _ _ a2 q2) fG hc1 hc2,
         fun k1 u q1 hc=>by
          by_cases a1:k1=k
          ·subst a1;obtain rfl:=hg1 _ q1;exact far hc (hBm bl (.inl rfl)) rfl
          ·exact h6 k1 u (hg2 _ _ a1 q1) hc⟩
        (fun c hc=>by
         have hcc:yA mt.kt (·=k) bs[q] c∨(a.eval v).ownBlock=some c:=by
          obtain⟨b',l',e2,hc⟩:=hc;obtain⟨rfl,rfl⟩:=mJ e2;rcases hc with rfl|⟨k1,u,_,tX,hc⟩
          ·exact .inl (hBm _ (.inl rfl))
          ·have tX:=(xE k1 u).2 tX;by_cases a1:k1=k
           ·subst a1;obtain rfl:=hg1 _ tX;exact .inr hc
           ·exact .inl (hBm c (.inr ⟨k1,u,a1,hg2 _ _ a1 tX,hc⟩))
         rcases hcc with hcc|hcc
         ·refine⟨(hs.nw _ _ _ _ hQ LD hcc).1,(hs.nw _ _ _ _ hQ LD hcc).2,fun i y u hy tX hc1=>?_⟩;obtain⟨i1,i2,i3⟩:=hL hy tX hc1;exact hs.ap i q _ _ _ _ c i1 i3 tX hQ LD hc1 hcc
         ·refine⟨(hs.nw _ _ _ _ hR hbr (hBr c hcc)).1,(hs.nw _ _ _ _ hR hbr (hBr c hcc)).2,fun i y u hy tX hc1=>?_⟩;obtain⟨i1,i2,i3⟩:=hL hy tX hc1;exact hs.ap i rr _ _ _ _ c i2 i3 tX hR hbr hc1 (hBr c hcc))
       refine Wm hop hd (w':=w') (by rw[h1,hkv];exact lO) (hK w' _ s4 bX (fun i u hu ti=>?_) fun j hj=>aaK (acp hj));rw[aaK (fun e=>by subst e;rw[hb] at hu;obtain rfl:=aal hu;cases ti)];exact hu
      ·exact h.elim
     ·exact h.elim
    ·exact h.elim
   ·exact h.elim
  ·exact h.elim
 ·exact h.elim
end
end Go.Proofs.YtdbpbfglhbiadaaGreatDoor
