/- MSeq1 MFrz0 MSeq2 -/
import Derived.Test.YtjlhbfbdcfajfaaGreatDoorW00
import Derived.Test.YtjlhbfbdcfajfaaGreatDoorW25
import Derived.Test.YtjlhbfbdcfajfaaGreatDoorW17
set_option maxHeartbeats 8000000
set_option maxRecDepth 100000
namespace Go.Proofs.YtjlhbfbdcfajfaaGreatDoor
open Go Go.RowKit
def AO (P:Program) (H:List aj) (t:TypeId) (x y:Option XV):Option (Nat×aj):=match x,y.bind XV.cells,P.info? t with
 | some (.one (.ptr o off)),some ys,some i=>match H[o]? with
  | some (.cells ty cs)=>if i.size=ys.length∧off+ys.length≤cs.length then some (o,.cells ty (cs.take off++ys++cs.drop (off+ys.length))) else none
  | _=>none
 | some (.one (.elo o i sz off)),some ys,some j=>match H[o]? with
  | some (.row t e rs)=>if sz=aG.sz (El t)∧j.size=ys.length∧off+ys.length≤sz then(un t ((lJ t (rs.reverse.getD i (Cw t))).take off++ys++(lJ t (rs.reverse.getD i (Cw t))).drop (off+ys.length))).map fun z=>(o,.row t e (rs.reverse.set i z).reverse) else none
  | _=>none
 | some (.one (.sub o o2 off)),some ys,some j=>match H[o]? with
  | some (.zip R2 e t tn iu done cur rest)=>if o2=R2∧j.size=ys.length∧off+ys.length≤cur.length then some (o,.zip R2 e t tn iu done (cur.take off++ys++cur.drop (off+ys.length)) rest) else none
  | _=>none
 | _,_,_=>none
def XL (P:Program) (H:List aj) (t:TypeId) (x y:Option XV):Option (List aj):=(AO P H t x y).map fun p=>H.set p.1 p.2
def apS (ty:TypeId→Option Ty) (H:List aj) (e:TypeId):Option XV→Option (List aj×(y:Ty)×List (El y))
 | some (.one (.own o))=>match H[o]? with
  | some (.row y e' rs)=>if e'=e then some (H.set o .dead,⟨y,rs⟩) else none
  | _=>none
 | some (.one (.val (.slice none 0 0)))=>(ty e).map fun y=>(H,⟨y,[]⟩)
 | some (.one (.mrow q kt k))=>match H[q]? with
  | some (.mr p ll t e' n f)=>match Kt.eq? kt ll with
   | some h=>if e'=e then some (H.set q (.mx p ll t e' n f (h.down▸k)),⟨t,(f (h.down▸k)).getD []⟩) else none
   | none=>none
  | _=>none
 | _=>none
def apY (H:List aj) (y:Ty) (x:Option XV):Option (List (El y)):=match x with
 | some (.one (.own o))=>match H[o]? with
  | some (.row y' _ rs)=>(lD y (.list y' rs.reverse false))
  | _=>none
 | some (.one a)=>lD y a
 | _=>none
def slI (P:Program) (t:TypeId):Option (TypeId×Nat×Nat):=match P.underlying t with
 | some (.slice e)=>(P.info? e).bind fun i=>i.zero.bind fun z=>if z.cells.size=i.size∧0<i.size then some (e,i.size,i.bytes) else none
 | _=>none
def Hc (P:Program) (ty:TypeId→Option Ty) (H:List aj) (t:TypeId) (s x:Option XV):T (List aj×(y:Ty)×TypeId×List (El y)):=match slI P t with
 | some (e,sz,bytes)=>match apS ty H e s with
  | some (H',⟨y,rs⟩)=>match apY H y x with
   | some ys=>if sz=aG.sz (El y) then .nd ((rs.length+ys.length)*(bytes+1)≤140737488355328) (.lf (H',⟨y,e,ys.reverse++rs⟩)) else .bad
   | none=>.bad
  | none=>.bad
 | none=>.bad
def afK (P:Program) (ty:TypeId→Option Ty) (H:List aj) (t:TypeId) (s x:Option XV):T (XV×List aj):=(Hc P ty H t s x).bind fun r=>.lf (.one (.own H.length),r.1++[.row r.2.1 r.2.2.1 r.2.2.2])
section
variable {P:Program} {o:Oper} {cx:Cx} {bs bn:List Value} {w w':World} {S:Nat→Prop} {H:List aj} {m:Nat} {env:Env} {a:Act} {cX:Nat} {K:Act→World→Prop} {Q:Exit→Act→World→Prop}
theorem Xj {t:Ty} {cs:List Value} {x:El t} (h:aG.rep w S cs x):∀u∈cs,u.oneCell'=true:=fun u hu=>by
 obtain⟨y,_,hy⟩:=(kh (bs:=[]) h).right u hu;exact hy.one
theorem RS.flatAt {t:Ty} {A:Option Addr} {n c:Nat} {ys:List (El t)} (h:RS w S A n c ys):∃ds,Flat w S ds ys∧(∀ad,A=some ad→cP w ad ds)∧∀u∈ds,u.oneCell'=true:=by
 have key:∀k,k≤n→∃ds,Flat w S ds (ys.take k)∧(∀ad,A=some ad→cP w ad ds)∧∀u∈ds,u.oneCell'=true:=by
  intro k;induction k with
  | zero=>intro _;exact⟨[],by simpa using Flat.nil,fun ad _ j u hj=>by simp at hj,fun u hu=>by cases hu⟩
  | succ k ih=>
   intro hk;obtain⟨ds,h1,h2,h3⟩:=ih (by omega);obtain⟨b,p,x,cs,rfl,_,hx,hr,hc⟩:=h.at_ (k:=k) (by omega);refine⟨ds++cs,by rw[ju hx];exact .snoc h1 hr,fun ad e j u hj=>?_,fun u hu=>?_⟩
   ·have hl:=h1.length;have bO:=h.len;rw[abH,aen (by omega)] at hl;rw[List.getElem?_append] at hj;split at hj
    ·exact h2 ad e j u hj
    ·injection e with e
     subst e;have:=hc _ _ hj;have nO:(⟨b,p,none⟩:Addr).add j=⟨b,p+(k*aG.sz (El t)+(j-ds.length)),none⟩:=by
      have:k*aG.sz (El t)+(j-ds.length)=j:=by omega
      rw[this];unfold Addr.add;split<;>simp_all
     rw[nO];exact this
   ·rcases abR.1 hu with hu|hu
    ·exact h3 u hu
    ·exact Xj hr u hu
 have:=key n (abi _)
 rwa [acj (by rw[h.len];exact abi _)] at this
theorem Flat.setN {α:Type} [aG α] {cs us:List Value} {xs:List α} {y:α} (h:Flat w S cs xs) (hu:aG.rep w S us y):∀{i:Nat},i<xs.length→Flat w S (cs.take (i*aG.sz α)++(us++cs.drop ((i+1)*aG.sz α))) (xs.set i y):=by
 induction h with
 | nil=>intro i hi;exact absurd hi (Nat.not_lt_zero _)
 | @snoc cs ds xs x hf hr ih=>
  intro i hi;have hl:=hf.length;have hd:=aG.len hr;by_cases hx:i<xs.length
  ·have h1:(i+1)*aG.sz α≤cs.length:=by rw[hl];exact acu _ hx
   have h2:i*aG.sz α≤cs.length:=by rw[hl];exact acu _ (Nat.le_of_lt hx)
   rw[List.set_append_left _ _ hx,ab4 h2,List.drop_append_of_le_length h1,←abD us,←abD];exact .snoc (ih hx) hr
  ·have e:i=xs.length:=by simp at hi;omega
   subst e;have h3:(cs++ds).length≤(xs.length+1)*aG.sz α:=by rw[abm,hl,hd,Nat.add_mul,Nat.one_mul];exact abi _
   rw[acd _ _ (abi _),Nat.sub_self,abg h3,←hl,ab4 (abi _),List.take_length,abZ];exact .snoc hf hu
theorem IV {cur ys:List Value} {N k l:Nat} (hl:ys.length=l) (h:k+l≤N) (hc:N≤cur.length):(cur.take k++ys++cur.drop (k+l)).take N=(cur.take N).take k++ys++(cur.take N).drop (k+l):=by
 have h1:(cur.take k++ys).length=k+l:=by rw[abm,abH,hl];omega
 rw[List.take_append,acj (by omega),h1,List.take_take,aen (by omega),List.drop_take]
theorem OH {cs ds ys:List Value} {k sz off l:Nat} (hl:ys.length=l) (hd:ds.length=sz) (hc:∀j u,ds[j]?=some u→cs[k+j]?=some u) (ho:off+l≤sz):cs.take k++((ds.take off++ys++ds.drop (off+l))++cs.drop (k+sz))=cs.take (k+off)++ys++cs.drop (k+off+l):=by
 have e:(cs.drop k).take sz=ds:=by
  refine acl fun j=>?_;by_cases hj:j<sz
  ·rw[List.getElem?_take_of_lt hj,ab5];have:=hc j _ (aac (by omega));rw[this,aac (by omega)]
  ·rw[abE (by rw[abH];omega),abE (by omega)]
 have h1:ds.take off=(cs.drop k).take off:=by rw[←e,List.take_take,aen (by omega)]
 have h2:ds.drop (off+l)++cs.drop (k+sz)=cs.drop (k+off+l):=by
  have:cs.drop (k+sz)=(cs.drop k).drop sz:=by rw[ad5]
  rw[this,←List.drop_append_of_le_length (by omega)];conv=>lhs;rw[←e]
  rw[List.take_append_drop,ad5,ab3]
 rw[h1,abD,abD,h2,←abD,←abD,←List.take_add]
theorem Ib (hs:HS cx bs w S H) (he:ER m bs w S env a) {t:TypeId} {x y:Operand} (hop:o.op=.store t x y) (hd:o.dst=none) {p:Nat×aj} (h:AO P H t (ev env x) (ev env y)=some p) (hK:∀w',HS cx bs w' S (H.set p.1 p.2)→aA S w w'→K a w'):o.wp P a w K Q:=by
 unfold AO at h;split at h
 ·rename_i ob off ys i hx hy hi;split at h
  ·rename_i ty cs hH;split at h
   ·rename_i hc;injection h with h
    subst h;obtain⟨g,hg,hv⟩:=cR he hx;cases e:ev env y with
    | none=>rw[e] at hy;cases hy
    | some z=>
     rw[e] at hy;have Pe:=XV.cells_ok hy (cR he e);obtain⟨g',vs,e2,hk,hf⟩:=hs.o ob _ _ hH hg;injection e2 with e2
     injection e2 with e2
     injection e2 with e2
     subst e2;have hl:ys.length=(a.eval y).cells.size:=Pe.length.trans abC;have hl2:=hf.length;have hr:=AW (P:=P) (t:=t) (v:=a.eval y) (k:=off) hk (by rw[hi];exact congrArg some (hc.1.trans hl)) (by have h1:vs.toArray.size=vs.length:=abM;rw[h1];rw[hl] at hc;omega) (fun u hu=>by
      obtain⟨q,_,hq⟩:=Pe.right u hu;exact hq.one)
     have hp:=RH.setRow w g (vs.toArray.toList.take off++(a.eval y).cells.toList++vs.toArray.toList.drop (off+(a.eval y).cells.size)).toArray;have oA:dE (w.setRow g _) g ty _:=setRow_heap w g vs.toArray (vs.toArray.toList.take off++(a.eval y).cells.toList++vs.toArray.toList.drop (off+(a.eval y).cells.size)).toArray ty (0,0) hk;have bX:=hs.keeps hH hg hp.g;unfold Oper.wp execOp;simp only[hop,hv,Sem.run_bind,hr,Result.andThen_ok,Sem.run_pure,Oper.upon_skip,hd];refine hK _ (hs.set hH hg hp.g ⟨g,_,rfl,oA,?_⟩ (.inl rfl)) bX;have hf':=hf.mono (R':=VR bs (w.setRow g _) S) fun _ _ q=>q.keep (fun _ h=>h) bX (jD.refl _);have Zh:=Pe.mono (R':=VR bs (w.setRow g _) S) fun _ _ q=>q.keep (fun _ h=>h) bX (jD.refl _);rw[hl];exact((hf'.take off).append Zh).append (hf'.drop _)
   ·cases h
  ·cases h
 ·rename_i ob i sz off ys j hx hy hj;split at h
  ·rename_i ty e' rs hH;split at h
   ·rename_i hc;obtain⟨rfl,hc1,hc2⟩:=hc;cases hz:un ty ((lJ ty (rs.reverse.getD i (Cw ty))).take off++ys++(lJ ty (rs.reverse.getD i (Cw ty))).drop (off+ys.length)) with
    | none=>rw[hz] at h;cases h
    | some z=>
     rw[hz] at h;obtain rfl:=aaZ h;obtain⟨g,n,c,hg,di,hv⟩:=cR he hx;cases e:ev env y with
     | none=>rw[e] at hy;cases hy
     | some z'=>
      rw[e] at hy;have Pe:=XV.cells_ok hy (cR he e);have hl:ys.length=(a.eval y).cells.toList.length:=Pe.length;have yI:(a.eval y).cells.toList.length=(a.eval y).cells.size:=abC;have ho:Own (α:=El ty) w S 0 e' (.slice (some ⟨g,0,none⟩) n c) rs.reverse:=hs.o ob _ _ hH hg;obtain⟨A',n',c',Pj,hn⟩:=ho.slice;injection Pj with _ vn _
      subst vn;obtain⟨cs,q1,q2,q3⟩:=ho;have jk:rs.reverse[i]?=some (rs.reverse.getD i (Cw ty)):=by rw[aaQ,aac (by omega)];rfl
      obtain⟨ds,hr,hcd⟩:=q2.get i _ jk;obtain⟨uZ,h2⟩:=q1;rcases h2 with⟨lm,_⟩|⟨g',cap,cur,lm,lu,hh,Pw,Fo,hcs,BK⟩
      ·cases lm
      injection lm with lm _ oC
      injection lm with lm
      injection lm with lm
      subst lm oC;have hk:dE w g e' cur:=hh;have PM:i*aG.sz (El ty)+off+ys.length≤n*aG.sz (El ty):=by
       have:(i+1)*aG.sz (El ty)≤n*aG.sz (El ty):=acu _ di;rw[Nat.add_mul,Nat.one_mul] at this;omega
      have WZ:n*aG.sz (El ty)≤cur.size:=by rw[hcs,hn];exact acu _ Pw
      have fa:=AW (P:=P) (t:=t) (v:=a.eval y) (k:=i*aG.sz (El ty)+off) hk (by rw[hj];exact congrArg some (hc1.trans (hl.trans yI))) (by omega) (fun u hu=>by
       obtain⟨q,_,hq⟩:=Pe.right u hu;exact hq.one)
      have hp:=RH.setRow w g (cur.toList.take (i*aG.sz (El ty)+off)++(a.eval y).cells.toList++cur.toList.drop (i*aG.sz (El ty)+off+(a.eval y).cells.size)).toArray;have oA:dE (w.setRow g _) g e' _:=setRow_heap w g cur (cur.toList.take (i*aG.sz (El ty)+off)++(a.eval y).cells.toList++cur.toList.drop (i*aG.sz (El ty)+off+(a.eval y).cells.size)).toArray e' (0,0) hk;have bX:=hs.keeps hH hg hp.g;unfold Oper.wp execOp;simp only[hop,hv,Sem.run_bind,fa,Result.andThen_ok,Sem.run_pure,Oper.upon_skip,hd];refine hK _ (hs.set hH hg hp.g ?_ (.inl rfl)) bX;have pA:aG.rep w S (ds.take off++(a.eval y).cells.toList++ds.drop (off+ys.length)) z:=lC hz (((kh hr).take off |>.append Pe).append ((kh hr).drop _));have hF:=(q2.setN pA (i:=i) (by omega)).keep (fun _ h=>h) bX;have hds:=aG.len hr;rw[Nat.add_mul,Nat.one_mul,OH (by rw[←hl]) hds hcd hc2] at hF;show Own (α:=El ty) _ S 0 e' _ (rs.reverse.set i z).reverse.reverse;rw[aa7];refine⟨_,?_,hF,fun b q=>⟨abw (hs.s b q).1 hp.g.size,(q3 b q).2⟩⟩;rw[abF,←hn];have aeR:cur.toList.length=cur.size:=abC;have tK:=IV (cur:=cur.toList) (ys:=(a.eval y).cells.toList) (N:=n*aG.sz (El ty)) (k:=i*aG.sz (El ty)+off) hl.symm PM (by omega);rw[←hn,] at BK;rw[BK] at tK;refine⟨?_,.inr ⟨g,c,_,rfl,lu,oA,by rw[hn];exact Pw,Fo,?_,?_⟩⟩
      ·rw[←tK,abH];simp only[abm,abH,abW];omega
      ·rw[abM];simp only[abm,abH,abW];omega
      ·rw[←tK,←yI,←hl]
   ·cases h
  ·cases h
 ·rename_i ob o2 off ys j hx hy hj;split at h
  ·rename_i R2 e' ty tn iu done cur0 rest hH;split at h
   ·rename_i hc;obtain⟨rfl,hc1,hc2⟩:=hc;injection h with h
    subst h;obtain⟨g,p,hg2,hv⟩:=cR he hx;cases e:ev env y with
    | none=>rw[e] at hy;cases hy
    | some z'=>
     rw[e] at hy;have Pe:=XV.cells_ok hy (cR he e);have hl:ys.length=(a.eval y).cells.toList.length:=Pe.length;have yI:(a.eval y).cells.toList.length=(a.eval y).cells.size:=abC;have hob:ob<bs.length:=by rw[hs.len];exact(aad.1 hH).1
     have hg:=aac hob;have aj7:=hs.o ob _ _ hH hg;obtain⟨bQ,n,c,r,hvo,Jc,ho,hz,hr,uZ⟩:=Nb hs hH hg hg2;have hd:done.length<bQ.length:=(aad.1 hr).1;have hf:=(hz.2 _ _ hr).2.1 rfl;have zP:r.cells.length=aG.sz (El ty):=r.len;have aeS:cur0.length=aG.sz (El ty):=hf.length.trans zP;obtain⟨cs,q1,q2,q3⟩:=ho;obtain⟨akG,h2⟩:=q1;rw[hvo] at h2;rcases h2 with⟨lm,_⟩|⟨g',cap,cur,lm,lu,hh,Pw,Fo,hcs,BK⟩
     ·cases lm
     injection lm with lm hn oC
     injection lm with lm
     injection lm with lm
     subst lm oC hn;have jN:aG.sz (km (aG.sz (El ty)))=aG.sz (El ty):=rfl;rw[jN] at akG hcs BK;have hk:dE w g e' cur:=hh;subst Jc;have PM:done.length*aG.sz (El ty)+off+ys.length≤bQ.length*aG.sz (El ty):=by
      have:(done.length+1)*aG.sz (El ty)≤bQ.length*aG.sz (El ty):=acu _ hd;rw[Nat.add_mul,Nat.one_mul] at this;omega
     have WZ:bQ.length*aG.sz (El ty)≤cur.size:=by rw[hcs];exact acu _ Pw
     have fa:=AW (P:=P) (t:=t) (v:=a.eval y) (k:=done.length*aG.sz (El ty)+off) hk (by rw[hj];exact congrArg some (hc1.trans (hl.trans yI))) (by omega) (fun u hu=>by
      obtain⟨q,_,hq⟩:=Pe.right u hu;exact hq.one)
     have hp:=RH.setRow w g (cur.toList.take (done.length*aG.sz (El ty)+off)++(a.eval y).cells.toList++cur.toList.drop (done.length*aG.sz (El ty)+off+(a.eval y).cells.size)).toArray;have oA:dE (w.setRow g _) g e' _:=setRow_heap w g cur (cur.toList.take (done.length*aG.sz (El ty)+off)++(a.eval y).cells.toList++cur.toList.drop (done.length*aG.sz (El ty)+off+(a.eval y).cells.size)).toArray e' (0,0) hk;have rR:bk (.zip o2 e' ty tn iu done cur0 rest) bs[ob]=some g:=by rw[hvo];rfl
     have hpg:w.grownBy (w.setRow g (cur.toList.take (done.length*aG.sz (El ty)+off)++(a.eval y).cells.toList++cur.toList.drop (done.length*aG.sz (El ty)+off+(a.eval y).cells.size)).toArray) (bk (.zip o2 e' ty tn iu done cur0 rest) bs[ob]):=by rw[rR];exact hp.g
     have bX:=hs.keeps hH hg hpg;unfold Oper.wp execOp;simp only[hop,hv,Sem.run_bind,fa,Result.andThen_ok,Sem.run_pure,Oper.upon_skip];rw[‹o.dst=none›];refine hK _ (hs.set hH hg hpg ?_ (.inl rfl)) bX;have Zh:F2 (VR bs w S) (cur0.take off++ys++cur0.drop (off+ys.length)) (r.cells.take off++(a.eval y).cells.toList++r.cells.drop (off+ys.length)):=((hf.take off).append Pe).append (hf.drop _);have Gv:(r.cells.take off++(a.eval y).cells.toList++r.cells.drop (off+ys.length)).length=aG.sz (El ty):=by
      simp only[abm,abH,abW];omega
     have hF:=(q2.setN (y:=(⟨_,Gv⟩:km (aG.sz (El ty)))) rfl (i:=done.length) hd).keep (fun _ h=>h) bX;obtain⟨ds,hds,hcd⟩:=q2.get _ _ hr;have hds:ds=r.cells:=hds;subst hds;rw[jN] at hF hcd;rw[Nat.add_mul,Nat.one_mul,OH (by rw[←hl]) zP hcd (by rw[aeS] at hc2;exact hc2)] at hF;obtain⟨_,_,_,hl2,u,tH,sH,hu3⟩:=aj7;refine⟨bQ.set done.length ⟨_,Gv⟩,?_,⟨by rw[abF];exact hz.1,fun j r' j3=>?_⟩,hl2,u,tH,sH,hu3⟩
     ·rw[hvo];refine⟨_,?_,hF,fun b q=>⟨abw (hs.s b q).1 hp.g.size,by rw[←hvo];exact(q3 b q).2⟩⟩;rw[abF];have aeR:cur.toList.length=cur.size:=abC;have tK:=IV (cur:=cur.toList) (ys:=(a.eval y).cells.toList) (N:=bQ.length*aG.sz (El ty)) (k:=done.length*aG.sz (El ty)+off) hl.symm PM (by omega);rw[BK] at tK;refine⟨?_,.inr ⟨g,c,_,rfl,lu,oA,Pw,Fo,?_,?_⟩⟩
      ·rw[jN,←tK,abH];simp only[abm,abH,abW];omega
      ·rw[jN,abM];simp only[abm,abH,abW];omega
      ·rw[jN,←tK,←yI,←hl]
     ·by_cases ej:j=done.length
      ·subst ej;rw[abt hd] at j3;obtain rfl:=aaZ j3;exact⟨fun x hx=>absurd (aad.1 hx).1 (acf _),fun _=>Zh.mono fun _ _ q=>q.keep (fun _ h=>h) bX (jD.refl _),fun q=>absurd q (acf _)⟩
      ·rw[abj (aca ej)] at j3;obtain⟨z1,z2,z3⟩:=hz.2 j r' j3;exact⟨fun x hx=>aG.keep (z1 x hx) (fun _ h=>h) bX,fun q=>absurd q ej,fun q=>aG.keep (z3 q) (fun _ h=>h) bX⟩
   ·cases h
  ·cases h
 ·cases h
theorem SX (hs:HS cx bs w S H) (he:ER m bs w S env a) {t:TypeId} {x y:Operand} (hop:o.op=.store t x y) (hd:o.dst=none) {H':List aj} (h:XL P H t (ev env x) (ev env y)=some H') (hK:∀w',HS cx bs w' S H'→aA S w w'→K a w'):o.wp P a w K Q:=by
 unfold XL at h;cases hp:AO P H t (ev env x) (ev env y) with
 | none=>rw[hp] at h;cases h
 | some p=>
  rw[hp] at h;obtain rfl:=aaZ h;exact Ib hs he hop hd hp hK
theorem JK (hs:HS cx bs w S H) (he:ER m bs w S env a) {ty:TypeId→Option Ty} {t:TypeId} {s x:Operand} (hop:o.op=.call { callee:=.builtin .append,args:=#[s,x],argTypes:=#[t,t] }) {r:List aj×(y:Ty)×TypeId×List (El y)} (h:(Hc P ty H t (ev env s) (ev env x)).hit r) (hK:∀v w',HS cx bs w' S r.1→r.1.length=H.length→(∀i:Nat,H[i]?=some aj.dead→r.1[i]?=some aj.dead)→aA S w w'→Own (α:=El r.2.1) w' S 0 r.2.2.1 v r.2.2.2.reverse→(∀b,v.ownBlock=some b→(cx.w0.heap.size≤b∨cx.M b)∧¬S b∧∀(i:Nat) (z:aj) (u:Value),r.1[i]?=some z→bs[i]?=some u→¬Bk z u b)→K (a.put o.dst v) w'):o.wp P a w K Q:=by
 unfold Hc at h;split at h
 ·rename_i e sz bytes fU;split at h
  ·rename_i H' y rs qE;split at h
   ·rename_i ys hY;split at h
    ·rename_i jN;obtain⟨hn,h⟩:=h;have h:(_,_)=r:=h;subst h;have hty:gx P t e (aG.sz (El y)) bytes:=by
      unfold slI at fU;cases hu:P.underlying t with
      | none=>rw[hu] at fU;cases fU
      | some d=>
       rw[hu] at fU;cases d with
       | slice e'=>
        have fU:((P.info? e').bind fun i=>i.zero.bind fun z=>if z.cells.size=i.size∧0<i.size then some (e',i.size,i.bytes) else none)=some (e,sz,bytes):=fU;cases hi:P.info? e' with
        | none=>rw[hi] at fU;cases fU
        | some i=>
         rw[hi] at fU;have fU:(i.zero.bind fun z=>if z.cells.size=i.size∧0<i.size then some (e',i.size,i.bytes) else none)=some (e,sz,bytes):=fU;cases hz:i.zero with
         | none=>rw[hz] at fU;cases fU
         | some z=>
          rw[hz] at fU;have fU:(if z.cells.size=i.size∧0<i.size then some (e',i.size,i.bytes) else none)=some (e,sz,bytes):=fU;split at fU
          ·rename_i hc;injection fU with fU
           injection fU with e1 fU
           injection fU with e2 e3
           subst e1;exact⟨hu,⟨i,z,hi,hz,by omega,e3,by omega⟩,by omega⟩
          ·cases fU
       | _=>cases fU
     have Cu:∀b,S b→b<w.heap.size:=fun b q=>(hs.s b q).1;have ig:Own (α:=El y) w S 0 e (a.eval s) rs.reverse∧∃Hd,Hd=H'∧((∃(i:Nat) (X Y:aj) (u:Value),X≠.dead∧bs[i]?=some u∧H[i]?=some X∧Hd=H.set i Y∧(∀c,Bk Y u c→Bk X u c)∧(∀c,(a.eval s).ownBlock=some c→Bk X u c∧¬Bk Y u c)∧∀w',w.grownBy w' (a.eval s).ownBlock→aA S w w'→OR bs w' S Y u)∨((a.eval s).ownBlock=none∧Hd=H)):=by
      unfold apS at qE;split at qE
      ·rename_i ob hx;split at qE
       ·rename_i y' e' rs' hH;split at qE
        ·rename_i ee;injection qE with qE
         injection qE with q1 q2
         injection q2 with q2 q3
         subst q2;have q3:=eq_of_heq q3;subst q3 ee;obtain⟨hb,A,n,c,hv⟩:=cR he hx;exact⟨hs.o ob _ _ hH hb,_,rfl,.inl ⟨ob,_,.dead,_,(fun e=>by cases e),hb,hH,q1.symm,(fun _ h=>by cases h),(fun c hc=>⟨hc,fun h=>by cases h⟩),fun _ _ _=>trivial⟩⟩
        ·cases qE
       ·cases qE
      ·rename_i hx;cases hte:ty e with
       | none=>rw[hte] at qE;cases qE
       | some y'=>
        rw[hte] at qE;injection qE with qE
        injection qE with q1 q2
        injection q2 with q2 q3
        subst q2;have q3:=eq_of_heq q3;subst q3;have hv:=(cR he hx).1;rw[hv];exact⟨Own.nil' w S Cu 0 e,_,rfl,.inr ⟨rfl,q1.symm⟩⟩
      ·rename_i q kt k hx;split at qE
       ·rename_i p ll t' e' n f hH;split at qE
        ·rename_i hk _;obtain⟨rfl⟩:=hk;split at qE
         ·rename_i ee;injection qE with qE
          injection qE with q1 q2
          injection q2 with q2 q3
          subst q2;have q3:=eq_of_heq q3;subst q3 ee;obtain⟨b,l,hb,hv,fU⟩:=cR he hx;have lP:=hs.o q _ _ hH hb;obtain⟨ig,nK⟩:=vE.row Cu lP hv;exact⟨ig,_,rfl,.inl ⟨q,_,.mx p kt t' e' n f k,_,(fun e=>by cases e),hb,hH,q1.symm,(fun c hc=>yj.weak hc),nK,fun w' hg hk=>vE.out lP hg hk (fun b q=>⟨abw (Cu b q) hg.size,fun hc=>(hs.nw _ _ _ b hH hb (yj.weak hc)).2 q⟩) fun c hc=>(nK c hc).2⟩⟩
         ·cases qE
        ·cases qE
       ·cases qE
      ·cases qE
     obtain⟨ig,Hd,rfl,hd⟩:=ig;have hys:∃A n c ds,a.eval x=.slice A n c∧n=ys.length∧Flat w S ds ys∧(∀ad,A=some ad→cP w ad ds)∧(∀u∈ds,u.oneCell'=true)∧(A=none→n=0):=by
      have fromV:∀{b:AV},lD y b=some ys→VR bs w S b (a.eval x)→∃A n c ds,a.eval x=.slice A n c∧n=ys.length∧Flat w S ds ys∧(∀ad,A=some ad→cP w ad ds)∧(∀u∈ds,u.oneCell'=true)∧(A=none→n=0):=by
       intro b hu hv;obtain⟨A,n,c,e1,hr⟩:=mN (t:=.list y) hu hv;injection e1 with e1
       obtain⟨ds,q1,q2,q3⟩:=hr.flatAt;refine⟨A,n,c,ds,e1,hr.len.symm,q1,q2,q3,fun hA=>?_⟩;rcases acD n with h0|h0
       ·exact h0
       ·obtain⟨_,_,_,h3⟩:=hr;obtain⟨_,_,e,_⟩:=h3 h0;rw[hA] at e;cases e
      unfold apY at hY;split at hY
      ·rename_i ob hx;split at hY
       ·rename_i y' e' rs' hH;obtain⟨hb,A,n,c,hv⟩:=cR he hx;unfold lD at hY;simp only at hY;split at hY
        ·rename_i q hq;injection hY with hY
         obtain⟨q⟩:=q;subst q hY;have ho:Own (α:=El y') w S 0 e' (a.eval x) rs'.reverse:=hs.o ob _ _ hH hb;obtain⟨ds,⟨_,h2⟩,hf,_⟩:=ho;rcases h2 with⟨lm,hn0⟩|⟨g,cap,cur,lm,_,hg,Pw,_,BK,tJ⟩
         ·have:rs'.reverse=[]:=abs hn0;rw[this] at hf ⊢;exact⟨none,0,0,[],lm,rfl,.nil,(fun ad e=>by cases e),(fun u hu=>by cases hu),fun _=>rfl⟩
         ·refine⟨_,_,_,ds,lm,rfl,hf,?_,?_,fun e=>by cases e⟩
          ·rintro ad e j u hj;injection e with e
           subst e;have nO:(⟨g,0,none⟩:Addr).add j=⟨g,j,none⟩:=by unfold Addr.add;split<;>simp_all
           rw[nO,(show dE w g e' cur from hg).cell];rw[←tJ,ab6] at hj;split at hj
           ·simpa using hj
           ·cases hj
          ·clear BK tJ;intro u hu;have:∀{ds:List Value} {xs:List (El y')},Flat w S ds xs→∀u∈ds,u.oneCell'=true:=by
            intro ds xs hf;induction hf with
            | nil=>intro u hu;cases hu
            | snoc _ hr ih=>
             intro u hu;rcases abR.1 hu with hu|hu
             ·exact ih u hu
             ·exact Xj hr u hu
           exact this hf u hu
        ·cases hY
       ·cases hY
      ·rename_i b _ hx;exact fromV hY (cR he hx)
      ·cases hY
     obtain⟨A,n,c,ds,hx,Gv,zR,akI,UG,ake⟩:=hys;have bO:(rs.reverse.length+ys.length)*(bytes+1)≤140737488355328:=by rw[aa9];exact hn
     have fin:∀v' w',Own (α:=El y) w' S 0 e v' (rs.reverse++ys)→w.grownBy w' (a.eval s).ownBlock→(v'.ownBlock=(a.eval s).ownBlock∨v'.ownBlock=some w.heap.size)→K (a.put o.dst v') w':=by
      intro v' w' q1 q2 q3;have bX:aA S w w':=aA.of_row q2 fun b q=>⟨Cu b q,fun e=>(Own.apart ig b q).2 e⟩;have lu:HS cx bs w' S Hd∧∀b,v'.ownBlock=some b→(cx.w0.heap.size≤b∨cx.M b)∧¬S b∧∀(i:Nat) (z:aj) (u:Value),Hd[i]?=some z→bs[i]?=some u→¬Bk z u b:=by
       have pA:∀{Hx:List aj},(∀(i:Nat) (z:aj),Hx[i]?=some z→z=.dead∨H[i]?=some z)→∀b,b=w.heap.size→(cx.w0.heap.size≤b∨cx.M b)∧¬S b∧∀(i:Nat) (z:aj) (u:Value),Hx[i]?=some z→bs[i]?=some u→¬Bk z u b:=by
        rintro Hx hm b rfl;refine⟨.inl hs.size,fun q=>acf _ (Cu _ q),fun i z u hz hu e=>?_⟩;rcases hm i z hz with rfl|hz
        ·cases e
        ·exact acf _ ((hs.o i z u hz hu).lt e)
       rcases hd with⟨i,X,Y,u0,hXd,hb,hH,rfl,hXY,nK,hYo⟩|⟨Mo,rfl⟩
       ·have UK:=(aad.1 hH).1;have hmm:∀(j:Nat) (z:aj),(H.set i Y)[j]?=some z→(j=i∧z=Y)∨(j≠i∧H[j]?=some z):=by
         intro j z hz;by_cases e:j=i
         ·subst e;rw[abt UK] at hz;exact .inl ⟨rfl,(aaZ hz).symm⟩
         ·rw[abj (aca e)] at hz;exact .inr ⟨e,hz⟩
        refine⟨hs.setB hH hb q2 (fun c hc=>(nK c hc).1) (hYo w' q2 bX) hXY,fun b gz=>?_⟩;rcases q3 with q3|q3
        ·rw[q3] at gz;refine⟨(hs.nw i _ _ b hH hb (nK b gz).1).1,(hs.nw i _ _ b hH hb (nK b gz).1).2,fun j z u hz hu e=>?_⟩;rcases hmm j z hz with⟨rfl,rfl⟩|⟨e2,hz⟩
         ·rw[hb] at hu;obtain rfl:=aaZ hu;exact(nK b gz).2 e
         ·exact hs.ap i j _ _ _ _ b (aca e2) hH hb hz hu (nK b gz).1 e
        ·rw[q3] at gz;obtain rfl:=aaZ gz;refine⟨.inl hs.size,fun q=>acf _ (Cu _ q),fun j z u hz hu e=>?_⟩;rcases hmm j z hz with⟨rfl,rfl⟩|⟨_,hz⟩
         ·rw[hb] at hu;obtain rfl:=aaZ hu;exact acf _ ((hs.o _ _ _ hH hb).lt (hXY _ e))
         ·exact acf _ ((hs.o j z u hz hu).lt e)
       ·rw[Mo] at q2;have cj:Below w.heap.size w w':=⟨q2.os,q2.tape,q2.output,q2.size,fun b hb=>q2.block b hb (by simp)⟩;refine⟨hs.grow cj (fun _ h=>h) (fun _ h=>.inl h),fun b gz=>?_⟩;rcases q3 with q3|q3
        ·rw[q3,Mo] at gz;cases gz
        ·rw[q3] at gz;exact pA (fun _ _ h=>.inr h) b (aaZ gz).symm
      obtain⟨cI,cj⟩:=lu;have hHl:Hd.length=H.length:=by rcases hd with⟨i,_,_,_,_,_,_,rfl,_⟩|⟨_,rfl⟩<;>simp
      refine hK v' w' cI hHl (fun i=>?_) bX (by show Own (α:=El y) w' S 0 e v' (ys.reverse++rs).reverse;rw[adh,aa7];exact q1) cj;rcases hd with⟨j,X,Y,_,hXd,_,hH,rfl,_⟩|⟨_,rfl⟩
      ·intro hi;have e:j≠i:=fun e=>by subst e;rw[hH] at hi;exact hXd (aaZ hi)
       rw[abj e];exact hi
      ·exact fun h=>h
     cases A with
     | some ad=>exact pH (α:=El y) s x t hop bytes hty rfl ig ad n c ds ys hx Gv zR (akI ad rfl) UG bO (abK _) fun v' w' q1 q2 q3=>fin v' w' q1 q2 q3
     | none=>
      have hn0:=ake rfl;subst hn0;have hy:ys=[]:=abs Gv.symm;subst hy;have Pt:=ig;obtain⟨cs,qN,_,_⟩:=Pt;obtain⟨i,z,hi,_⟩:=hty.info;have lI:=jJ (P:=P) (ty:=o.type) hty.under hi qN c;unfold Oper.wp;simp[execOp,hop,resolve,invoke,builtin,hx,lI,Result.andThen];exact fin _ _ (by rw[abZ];exact ig) ⟨rfl,rfl,rfl,abi _,fun _ _ _=>rfl⟩ (.inl rfl)
    ·exact h.elim
   ·exact h.elim
  ·exact h.elim
 ·exact h.elim
theorem VK (hs:HS cx bs w S H) (he:ER m bs w S env a) {ty:TypeId→Option Ty} {t:TypeId} {s x:Operand} (hop:o.op=.call { callee:=.builtin .append,args:=#[s,x],argTypes:=#[t,t] }) {r:XV×List aj} (h:(afK P ty H t (ev env s) (ev env x)).hit r) (hK:∀v w' bn,HS cx bn w' S r.2→aA S w w'→jD bs bn→XR bn w' S r.1 v→K (a.put o.dst v) w'):o.wp P a w K Q:=by
 obtain⟨q,h1,h2⟩:=T.hit_bind h;have h2:(XV.one (.own H.length),q.1++[aj.row q.2.1 q.2.2.1 q.2.2.2])=r:=h2;subst h2;refine JK hs he hop h1 fun v w' cI hHl _ bX ig cj=>?_;have Ps:=cI.pad;have hj:(q.1++[aj.dead])[q.1.length]?=some .dead:=by rw[aa8 (abi _)];simp
 have xo:(bs++[undef])[q.1.length]?=some undef:=by rw[←cI.len,aa8 (abi _)];simp
 have j4:=Ps.fill (x:=.row q.2.1 q.2.2.1 q.2.2.2) (v:=v) hj xo rfl ig (fun b gz=>⟨(cj b gz).1,(cj b gz).2.1,fun i z u hz hu e=>by
  by_cases hi:i<q.1.length
  ·rw[abc hi] at hz;rw[abc (by rw[cI.len];exact hi)] at hu;exact(cj b gz).2.2 i z u hz hu e
  ·have:z=.dead:=by
    have h1:=(aad.1 hz).1;have e2:i=q.1.length:=by simp at h1;omega
    subst e2;rw[hj] at hz;exact(aaZ hz).symm
   subst this;cases e⟩)
 have BD:(q.1++[aj.dead]).set q.1.length (.row q.2.1 q.2.2.1 q.2.2.2)=q.1++[.row q.2.1 q.2.2.1 q.2.2.2]:=by
  rw[acd _ _ (abi _)];simp
 have zO:(bs++[undef]).set q.1.length v=bs++[v]:=by
  rw[←cI.len,acd _ _ (abi _)];simp
 rw[BD,zO] at j4;obtain⟨A',n',c',Pj,_⟩:=ig.slice;refine hK v w' (bs++[v]) j4 bX (oO _ _) ⟨?_,A',n',c',Pj⟩;rw[←hHl,←cI.len,aa8 (abi _)];simp
end
def BQ (i:Nat) (x:AV):AV→AV
 | .own o=>bif o==i then x else .own o
 | .mp o=>bif o==i then x else .mp o
 | a=>a
def afc (i:Nat) (x:AV):XV→XV
 | .one a=>.one (BQ i x a)
 | .agg cs=>.agg (cs.map (BQ i x))
 | .tup l=>.tup (l.map fun p=>(p.1,p.2.map (BQ i x)))
def U3 (i:Nat) (x:AV):aj→aj
 | .cells ty cs=>.cells ty (cs.map (BQ i x))
 | .zip o2 e t tn iu done cur rest=>.zip o2 e t tn iu done (cur.map (BQ i x)) rest
 | y=>y
def U4 (i:Nat) (st:ek):ek:=match (st.heap[i]?).bind ku with
 | some x=>⟨st.env.map fun p=>(p.1,afc i x p.2),(st.heap.set i .dead).map (U3 i x)⟩
 | none=>st
def aag:List AV→ek→ek
 | [],st=>st
 | c::l,st=>aag l (match nl c with
  | some i=>U4 i st
  | none=>st)
def BN (st:ek) (t:Nat):ek:=match st.env.lookup t with
 | some (.one (.own i))=>U4 i st
 | some (.one (.mp i))=>U4 i st
 | some (.agg cs)=>aag cs st
 | _=>st
section
variable {m:Nat} {cx:Cx} {st:ek} {a:Act} {w:World}
theorem xA {i:Nat} (h:fK m cx st a w):fK m cx (U4 i st) a w:=by
 unfold U4;split
 ·rename_i x jk;obtain⟨Y,hi,hx⟩:=Option.bind_eq_some_iff.1 jk;obtain⟨bs,S,hs,he⟩:=h;have Mp:i<bs.length:=by rw[hs.len];exact(aad.1 hi).1
  obtain⟨v,hv⟩:∃v,bs[i]?=some v:=⟨_,aac Mp⟩;have ho:=hs.o i _ v hi hv
  let S':Nat→Prop:=fun b=>S b∨Bk Y v b
  have qE:∀b,S' b→b<w.heap.size:=fun b q=>q.elim (fun q=>(hs.s b q).1) fun q=>ho.lt q;have vr:∀{y:AV} {u:Value},VR bs w S y u→VR bs w S' (BQ i x y) u:=by
   intro y u hy;have up:VR bs w S' y u:=hy.keep (fun _ h=>.inl h) (aA.refl _ _) (jD.refl _);have one:∀o,nl y=some o→BQ i x y=(bif o==i then x else y)→VR bs w S' (BQ i x y) u:=by
    intro o qN e;rw[e];by_cases nM:o=i
    ·subst nM;rw[beq_self_eq_true];have hb:=wE hy qN;rw[hv] at hb;obtain rfl:=aaZ hb;exact vK ho hx (fun _ h=>.inl h) fun _ h=>.inr h
    ·rw[beq_eq_false_iff_ne.2 nM];exact up
   cases y with
   | own o=>exact one o rfl rfl
   | mp o=>exact one o rfl rfl
   | _=>exact up
  have cr:∀{ag:Bool} {cs:List AV} {u:Value},CR bs w S ag cs u→CR bs w S' ag (cs.map (BQ i x)) u:=by
   intro ag cs u hc;unfold CR at hc ⊢;cases ag with
   | true=>obtain⟨vs,e,h⟩:=hc;exact⟨vs,e,h.mapL fun _ _ _ h=>vr h⟩
   | false=>obtain⟨a,rfl,h⟩:=hc;exact⟨_,rfl,vr h⟩
  have xr:∀{z:XV} {u:Value},XR bs w S z u→XR bs w S' (afc i x z) u:=by
   intro z u hx;cases z with
   | one b=>exact vr hx
   | agg cs=>exact cr (ag:=true) hx
   | tup l=>obtain⟨vs,e,h⟩:=hx;exact⟨vs,e,h.mapL fun _ _ _ h=>cr h⟩
  have get:∀{j:Nat} {y:aj},((st.heap.set i .dead).map (U3 i x))[j]?=some y→y=.dead∨(j≠i∧∃z,st.heap[j]?=some z∧y=U3 i x z):=by
   intro j y hy;rw[acn] at hy;by_cases hj:j=i
   ·subst hj;rw[abt (by rw[←hs.len];exact Mp)] at hy;exact .inl (aaZ hy).symm
   ·rw[abj (aca hj)] at hy;cases hz:st.heap[j]? with
    | none=>rw[hz] at hy;cases hy
    | some z=>rw[hz] at hy;exact .inr ⟨hj,z,rfl,(aaZ hy).symm⟩
  have bko:∀{z:aj} {u:Value} {b:Nat},Bk (U3 i x z) u b→Bk z u b:=by
   intro z u b h;cases z with
   | cells ty cs=>cases u with
    | pointer p=>cases p<;>exact h
    | _=>exact h
   | _=>exact h
  have far:∀{j:Nat} {z:aj} {u:Value} {b:Nat},j≠i→st.heap[j]?=some z→bs[j]?=some u→Bk z u b→¬S' b:=fun hj hz hu hb q=>q.elim (hs.nw _ _ _ _ hz hu hb).2 fun q=>hs.ap _ i _ _ _ v _ hj hz hu hi hv hb q;refine⟨bs,S',⟨by rw[abU,abF];exact hs.len,?_,?_,?_,fun b q=>⟨qE b q,?_⟩,fun b q=>.inl (hs.s0 b q),hs.os,hs.tape,hs.output,hs.size,hs.old,hs.an⟩,he.d,he.s,fun u x hx=>?_⟩
  ·intro j y u hy hu;rcases get hy with rfl|⟨hj,z,hz,rfl⟩
   ·exact trivial
   ·have lP:=hs.o j z u hz hu;have kp:=lP.keep (S':=S') (eQ (Below.refl _ _) (abi _) none) (by simp) (aA.refl _ _) (fun _ h=>.inl h) (fun b q=>⟨qE b q,fun e=>far hj hz hu e q⟩) (jD.refl _);cases z with
    | cells ty cs=>obtain⟨g,vs,rfl,h1,h2⟩:=lP;exact⟨g,vs,rfl,h1,h2.mapL fun _ _ _ h=>vr h⟩
    | zip o2 e' t' MZ iu done cur rest=>
     obtain⟨bQ,ho',hz',q⟩:=kp;obtain⟨adg,nM,iP,_⟩:=lP;refine⟨adg,?_,⟨iP.1,fun j r hr=>?_⟩,q⟩
     ·refine Own.widen nM (fun _ h=>.inl h) fun b q=>⟨qE b q,fun e=>far hj hz hu e.symm q⟩
     ·obtain⟨z1,z2,z3⟩:=iP.2 j r hr;exact⟨fun x hx=>aG.keep (z1 x hx) (fun _ h=>.inl h) (aA.refl _ _),fun e=>(z2 e).mapL fun _ _ _ h=>vr h,fun e=>aG.keep (z3 e) (fun _ h=>.inl h) (aA.refl _ _)⟩
    | _=>exact kp
  ·intro j k y y2 u v2 b hjk hy hu hz lm cI cj;rcases get hy with rfl|⟨_,z,fH,rfl⟩
   ·cases cI
   rcases get hz with rfl|⟨_,z2,iP,rfl⟩
   ·cases cj
   exact hs.ap j k z z2 u v2 b hjk fH hu iP lm (bko cI) (bko cj)
  ·intro j y u b hy hu hb;rcases get hy with rfl|⟨hj,z,fH,rfl⟩
   ·cases hb
   exact⟨(hs.nw j z u b fH hu (bko hb)).1,far hj fH hu (bko hb)⟩
  ·exact q.elim (fun q=>(hs.s b q).2) fun q=>.inr (hs.nw i _ v b hi hv q).1
  ·obtain⟨p,hp,e⟩:=acr.1 hx;injection e with e1 e2
   subst e1 e2;obtain⟨v,h1,h2⟩:=he.k p.1 p.2 hp;exact⟨v,h1,xr h2⟩
 ·exact h
theorem Jn:∀{l:List AV} {st:ek},fK m cx st a w→fK m cx (aag l st) a w
 | [],_,h=>h
 | c::l,st,h=>Jn (l:=l) (by
  split
  ·exact xA h
  ·exact h)
theorem U2 {t:Nat} (h:fK m cx st a w):fK m cx (BN st t) a w:=by
 unfold BN;split
 ·exact xA h
 ·exact xA h
 ·exact Jn h
 ·exact h
theorem BP:∀{l:List Nat} {st:ek},fK m cx st a w→fK m cx (l.foldl BN st) a w
 | [],_,h=>h
 | t::l,st,h=>BP (l:=l) (st:=BN st t) (U2 h)
end
def jo:List (Nat×aj)→List aj→List aj
 | [],H=>H
 | p::l,H=>jo l (H.set p.1 p.2)
section
variable {cx:Cx} {bs:List Value} {w:World} {S:Nat→Prop} {H:List aj}
theorem adV (hs:HS cx bs w S H) {o:Nat} {Y:aj} {x:AV} {v:Value} (hH:H[o]?=some Y) (hx:ku Y=some x) (hv:bs[o]?=some v):HS cx bs w (fun b=>S b∨Bk Y v b) (H.set o .dead)∧VR bs w (fun b=>S b∨Bk Y v b) x v:=by
 have yG:=(aad.1 hH).1;have hlt:∀b,(S b∨Bk Y v b)→b<w.heap.size:=fun b q=>q.elim (fun q=>(hs.s b q).1) fun q=>(hs.o o _ v hH hv).lt q;have get:∀{j:Nat} {y:aj},(H.set o .dead)[j]?=some y→y=.dead∨(j≠o∧H[j]?=some y):=by
  intro j y hy;by_cases hj:j=o
  ·subst hj;rw[abt yG] at hy;exact .inl (aaZ hy).symm
  ·rw[abj (aca hj)] at hy;exact .inr ⟨hj,hy⟩
 have far:∀{j:Nat} {z:aj} {u:Value} {b:Nat},j≠o→H[j]?=some z→bs[j]?=some u→Bk z u b→¬(S b∨Bk Y v b):=fun hj hz hu hb q=>q.elim (hs.nw _ _ _ _ hz hu hb).2 fun q=>hs.ap _ o _ _ _ v _ hj hz hu hH hv hb q;refine⟨⟨by rw[abF];exact hs.len,?_,?_,?_,fun b q=>⟨hlt b q,q.elim (fun q=>(hs.s b q).2) fun q=>.inr (hs.nw o _ v b hH hv q).1⟩,fun b q=>.inl (hs.s0 b q),hs.os,hs.tape,hs.output,hs.size,hs.old,hs.an⟩,vK (hs.o o _ v hH hv) hx (fun _ h=>.inl h) fun _ h=>.inr h⟩
 ·intro j y u hy hu;rcases get hy with rfl|⟨hj,hz⟩
  ·exact trivial
  ·exact(hs.o j y u hz hu).keep (eQ (Below.refl _ _) (abi _) none) (by simp) (aA.refl _ _) (fun _ h=>.inl h) (fun b q=>⟨hlt b q,fun e=>far hj hz hu e q⟩) (jD.refl _)
 ·intro j k y y2 u v2 b hjk hy hu hz lm cI cj;rcases get hy with rfl|⟨_,fH⟩
  ·cases cI
  rcases get hz with rfl|⟨_,iP⟩
  ·cases cj
  exact hs.ap j k y y2 u v2 b hjk fH hu iP lm cI cj
 ·intro j y u b hy hu hb;rcases get hy with rfl|⟨hj,fH⟩
  ·cases hb
  exact⟨(hs.nw j y u b fH hu hb).1,far hj fH hu hb⟩
def mi (os:List Nat):List (Nat×aj):=os.map fun o=>(o,.dead)
theorem Bv:∀(os:List Nat) {S:Nat→Prop} {H:List aj},HS cx bs w S H→∃S',(∀b,S b→S' b)∧HS cx bs w S' (jo (mi os) H)∧∀o∈os,∀(y:aj) (x:AV) (v:Value),H[o]?=some y→ku y=some x→bs[o]?=some v→VR bs w S' x v
 | [],S,H,hs=>⟨S,fun _ h=>h,hs,fun o ho=>by cases ho⟩
 | o::os,S,H,hs=>by
  have next:∀{S1:Nat→Prop},(∀b,S b→S1 b)→HS cx bs w S1 (H.set o .dead)→(∀(y:aj) (x:AV) (v:Value),H[o]?=some y→ku y=some x→bs[o]?=some v→VR bs w S1 x v)→∃S',(∀b,S b→S' b)∧HS cx bs w S' (jo (mi (o::os)) H)∧∀o'∈o::os,∀(y:aj) (x:AV) (v:Value),H[o']?=some y→ku y=some x→bs[o']?=some v→VR bs w S' x v:=by
   intro S1 h1 h2 h3;obtain⟨S',q1,q2,q3⟩:=Bv os h2;refine⟨S',fun b q=>q1 b (h1 b q),q2,fun o' ho' y x v hH hx hv=>?_⟩;by_cases e2:o'=o
   ·subst e2;exact(h3 y x v hH hx hv).keep q1 (aA.refl _ _) (jD.refl _)
   ·rcases abq.1 ho' with e3|ho'
    ·exact absurd e3 e2
    ·exact q3 o' ho' y x v (by rw[abj (aca e2)];exact hH) hx hv
  have mask:HS cx bs w S (H.set o .dead):=hs.mask (by rw[abF]) fun i x hx=>by
   by_cases e:o=i
   ·subst e;by_cases hl:o<H.length
    ·rw[abt hl] at hx;exact .inl (aaZ hx).symm
    ·rw[abE (by rw[abF];omega)] at hx;cases hx
   ·rw[abj e] at hx;exact .inr hx
  cases hY:(H[o]?).bind ku with
  | none=>exact next (fun _ h=>h) mask fun y x v h h2=>by rw[h] at hY;rw[show ku y=none from hY] at h2;cases h2
  | some x=>
   obtain⟨Y,hH,hx⟩:=Option.bind_eq_some_iff.1 hY;have yG:o<bs.length:=by rw[hs.len];exact(aad.1 hH).1
   have hv:=aac yG;obtain⟨k1,k2⟩:=adV hs hH hx hv;refine next (fun _ h=>.inl h) k1 fun y' x' v' h1 h2 h3=>?_;rw[hH] at h1;obtain rfl:=aaZ h1;rw[hx] at h2;obtain rfl:=aaZ h2;rw[hv] at h3;obtain rfl:=aaZ h3;exact k2
def CE (H:List aj) (a:AV):AV:=match nl a with
 | some o=>((H[o]?).bind ku).getD a
 | none=>a
def wB (ps:List (Nat×List AV)):List Nat:=ps.flatMap fun p=>p.2.filterMap nl
def Wg (H:List aj) (ps:List (Nat×List AV)):List (Nat×List AV):=ps.map fun p=>(p.1,p.2.map (CE H))
end
section
variable {P:Program} {o:Oper} {cx:Cx} {bs bn:List Value} {w w':World} {S:Nat→Prop} {H:List aj} {m:Nat} {env:Env} {a:Act} {cX:Nat} {ty:TypeId→Option Ty} {K:Act→World→Prop} {Q:Exit→Act→World→Prop}
theorem Rf:1000000000000≤maxLen:=by unfold maxLen;decide
theorem ajd {kt:Kt} {y:Ty} {n n':Nat} {f f':kt.K→Option (El y)} {v:Value} {c:Nat} (h:Bk (.mp kt y n f) v c):Bk (.mp kt y n' f') v c:=by
 cases v with
 | map b=>cases b<;>exact h
 | _=>cases h
theorem Nu {H:List aj} {cx:Cx} {bs:List Value} {w:World} {S:Nat→Prop} (h:HS cx bs w S H) (n:Nat):HS cx bs w S (H.set n .dead):=h.mask (by rw[abF]) fun i x hx=>by
 by_cases e:n=i
 ·subst e;by_cases hl:n<H.length
  ·rw[abt hl] at hx;exact .inl (aaZ hx).symm
  ·rw[abE (by rw[abF];omega)] at hx;cases hx
 ·rw[abj e] at hx;exact .inr hx
theorem We {t:TypeId} {mo x v:Operand} (hop:o.op=.mapUpdate t mo x v) (hd:o.dst=none) (hr:(Instr.mapUpdate t (a.eval mo) (a.eval x) (a.eval v)).run P w=.ok () w') (hK:K a w'):o.wp P a w K Q:=by
 unfold Oper.wp;simp[execOp,hop,hr,Result.andThen];show K (a.put o.dst undef) w';rw[hd];exact hK
theorem aiS {kt:Kt} {y:Ty} {f:kt.K→Option (El y)} {g:kt.K→Option Value} {k:kt.K} {z:El y} {u:Value} (h:∀k,yf w S (f k) (g k)) (hz:aG.rep (α:=El y) w S [u] z) (k':kt.K):yf w S (mT kt f k z k') (mT kt g k u k'):=by
 by_cases e:k'=k
 ·subst e;rw[gO,gO];exact⟨u,rfl,hz⟩
 ·rw[kX e,kX e];exact h k'
noncomputable def Nv (l:List (Value×Value)) (k u:Value):List (Value×Value):=(k,u)::l.filter fun p=>@decide (p.1≠k) (Classical.propDecidable _)
theorem Ki {kt:Kt} {g:kt.K→Option Value} {l:List (Value×Value)} {k:kt.K} {u:Value} (h:∀k u,g k=some u↔(kt.val k,u)∈l) (k':kt.K) (u':Value):mT kt g k u k'=some u'↔(kt.val k',u')∈Nv l (kt.val k) u:=by
 unfold Nv;rw[abq,acS];by_cases e:k'=k
 ·subst e;rw[gO];constructor
  ·intro h;injection h with h;subst h;exact .inl rfl
  ·rintro(h|⟨_,h⟩)
   ·injection h with _ h;rw[h]
   ·exact absurd rfl (@of_decide_eq_true _ (Classical.propDecidable _) h)
 ·rw[kX e,h];constructor
  ·intro h;exact .inr ⟨h,@decide_eq_true _ (Classical.propDecidable _) fun e2=>e (Kt.val_inj e2)⟩
  ·rintro(h|⟨h,_⟩)
   ·injection h with h _;exact absurd (Kt.val_inj h) e
   ·exact h
theorem Ow (hs:HS cx bs w S H) (he:ER m bs w S env a) (hP:IsP P) {t:TypeId} {mo x v:Operand} (hop:o.op=.mapUpdate t mo x v) (hd:o.dst=none) (hn:H[cX]?=some .dead) (hb:bs[cX]?=some undef) {r:List (Nat×aj)×Option aj} (h:(YJ P ty cX H t (ev env mo) (ev env x) (ev env v)).hit r) (hK:∀w' bn,HS cx bn w' S (jo (r.1++[(cX,r.2.getD .dead)]) H)→aA S w w'→jD bs bn→(∀j,j≠cX→bn[j]?=bs[j]?)→K a w'):o.wp P a w K Q:=by
 obtain rfl:=hP.eq;have Cu:∀b,S b→b<w.heap.size:=fun b q=>(hs.s b q).1;unfold YJ at h;split at h
 ·rename_i mt ob c hm hbo hbv;obtain⟨e,hu,hz,WO,fH,hzr⟩:=IR hm;split at h
  ·rename_i k ll y' n f hk hH;split at h
   ·rename_i q z _ hun;obtain⟨q⟩:=q;injection q with q1 q2
    subst q1 q2;obtain⟨⟨oy,Pv⟩,h⟩:=h;have h:(_,_)=r:=h;subst h;have hkv:=Bw he hk;obtain⟨cI,_⟩:=cR he hbo;obtain⟨bl,g,e1,hg,hf⟩:=hs.o ob _ _ hH cI;obtain⟨w',lI,hg',ZK⟩:=hg.store (u:=a.eval v) hu (abw Pv Rf) oy;have hB:Bk (.mp mt.kt mt.y n f) (a.eval mo) bl:=by rw[e1];rfl
    have bX:aA S w w':=aA.of_row ZK fun b q=>⟨Cu b q,fun e=>by injection e with e;subst e;exact(hs.nw _ _ _ _ hH cI hB).2 q⟩;have fM:aG.rep (α:=El mt.y) w' S [a.eval v] z:=aG.keep (mN hun (cR he hbv)) (fun _ h=>h) bX;have BD:=hs.setB hH cI ZK (fun c hc=>aaZ hc▸hB) (y:=.mp mt.kt mt.y (n+1) (mT mt.kt f k z)) ⟨bl,_,e1,hg',aiS (fun k=>(hf k).keep (fun _ h=>h) bX) fM⟩ (fun c hc=>ajd hc);refine We hop hd (w':=w') (by rw[e1,hkv];exact lI) (hK w' bs (Nu BD cX) bX (jD.refl _) fun _ _=>rfl)
   ·exact h.elim
  ·rename_i k q hk hH;split at h
   ·rename_i rr p ll t' e' n f k' hQ;split at h
    ·rename_i t2 e2 rs hR;split at h
     ·rename_i D3 ht2 _ _;obtain⟨D3⟩:=D3;obtain⟨ht2⟩:=ht2;subst D3 ht2;split at h
      ·rename_i hc;obtain⟨rfl,rfl⟩:=hc;obtain⟨⟨oy,xn,Pv⟩,h⟩:=h;have xn:k=k':=xn;subst xn;have h:(_,_)=r:=h;subst h;have hkv:=Bw he hk;obtain⟨cI,bl0,e0⟩:=cR he hbo;obtain⟨Z8,fU⟩:=cR he hbv;have Cs:q<bs.length:=by rw[hs.len];exact(aad.1 hQ).1
       have Ln:=aac Cs;obtain⟨bl,l,g,e1,h1,h2,h3,h4,h5,h6⟩:=hs.o q _ _ hQ Ln;rw[cI] at h1;injection h1 with h1
       obtain⟨w',lI,hg',ZK⟩:=h2.store (u:=a.eval v) hu (abw Pv Rf) oy;have hBm:∀c,c=bl∨(∃(k1:mt.kt.K) (u:Value),k1≠k∧g k1=some u∧u.ownBlock=some c)→yj mt.kt (·=k) bs[q] c:=fun c hc=>by
        rw[e1];exact⟨bl,l,rfl,hc.imp id fun⟨k1,u,q1,q2,q3⟩=>⟨k1,u,q1,(h3 k1 u).1 q2,q3⟩⟩
       have bX:aA S w w':=aA.of_row ZK fun b qq=>⟨Cu b qq,fun e=>by injection e with e;subst e;exact(hs.nw _ _ _ _ hQ Ln (hBm _ (.inl rfl))).2 qq⟩;have s1:=hs.setB hQ Ln ZK (fun c hc=>by injection hc with hc;subst hc;exact hBm _ (.inl rfl)) (y:=.dead) trivial (fun _ h=>by cases h);have Fg:q≠rr:=fun e=>by subst e;rw[hQ] at hR;cases hR
       have hqo:q≠p:=fun e=>by subst e;rw[hQ] at hH;cases hH
       have Pn:rr≠p:=fun e=>by subst e;rw[hR] at hH;cases hH
       have WS:cX≠q:=fun e=>by subst e;rw[hQ] at hn;cases hn
       have hnr:cX≠rr:=fun e=>by subst e;rw[hR] at hn;cases hn
       have Fh:cX≠p:=fun e=>by subst e;rw[hH] at hn;cases hn
       have nK:Own (α:=El t2) w' S 0 e2 (a.eval v) rs.reverse:=s1.o rr (.row t2 e2 rs) _ (by rw[abj Fg];exact hR) Z8;have s2:=Nu s1 rr;have s3:=s2.setB (i:=p) (x:=.mq q) (y:=.mq cX) (row:=none) (w':=w') (by rw[abj Pn,abj hqo];exact hH) cI ⟨rfl,rfl,rfl,abi _,fun _ _ _=>rfl⟩ (fun _ h=>by cases h) ⟨bl0,e0⟩ (fun _ h=>by cases h);have hL:∀{i:Nat} {z:aj} {u:Value} {c:Nat},(((H.set q .dead).set rr .dead).set p (.mq cX))[i]?=some z→bs[i]?=some u→Bk z u c→i≠q∧i≠rr∧H[i]?=some z:=by
        intro i z u c hz hu hc;by_cases e1:i=p
        ·subst e1;rw[abt (by rw[abF,abF];exact(aad.1 hH).1)] at hz;obtain rfl:=aaZ hz;cases hc
        ·rw[abj (aca e1)] at hz;by_cases e2:i=rr
         ·subst e2;rw[abt (by rw[abF];exact(aad.1 hR).1)] at hz;obtain rfl:=aaZ hz;cases hc
         ·rw[abj (aca e2)] at hz;by_cases e3:i=q
          ·subst e3;rw[abt (aad.1 hQ).1] at hz;obtain rfl:=aaZ hz;cases hc
          ·rw[abj (aca e3)] at hz;exact⟨e3,e2,hz⟩
       have hBr:∀c,(a.eval v).ownBlock=some c→Bk (.row t2 e2 rs) (a.eval v) c:=fun c hc=>hc;have far:∀{c c':Nat},(a.eval v).ownBlock=some c→yj mt.kt (·=k) bs[q] c'→c≠c':=fun {c c'} hc P1 e=>by
        subst e;exact hs.ap rr q _ _ _ _ c (aca Fg) hR Z8 hQ Ln (hBr c hc) P1
       have BG:=Ki (k:=k) (u:=a.eval v) h3;have Gx:(((H.set q .dead).set rr .dead).set p (.mq cX))[cX]?=some .dead:=by
        rw[abj (aca Fh),abj (aca hnr),abj (aca WS)];exact hn
       have hg2:∀k1 u,k1≠k→mT mt.kt g k (a.eval v) k1=some u→g k1=some u:=fun k1 u e q=>by rw[kX e] at q;exact q
       have hg1:∀u,mT mt.kt g k (a.eval v) k=some u→u=a.eval v:=fun u q=>by rw[gO] at q;exact(aaZ q).symm
       have s4:=s3.fill (j:=cX) (x:=.mr p mt.kt t2 e2 (n+1) (mT mt.kt f k rs)) (v:=tV bl (Nv l (mt.kt.val k) (a.eval v))) Gx hb rfl
        ⟨bl,_,mT mt.kt g k (a.eval v),rfl,by rw[abj Fh,cI,h1],hg',BG,fun k1 _=>by
         by_cases e:k1=k
         ·subst e;rw[gO,gO];exact⟨_,rfl,nK⟩
         ·rw[kX e,kX e];have:=h4 k1 e;cases hf:f k1 with
          | none=>rw[hf] at this;exact this
          | some xs=>
           rw[hf] at this;obtain⟨u,tH,cs,q1,q2,q3⟩:=this;refine⟨u,tH,cs,q1.kept ZK ?_,q2.keep (fun _ h=>h) bX,fun c hc=>⟨abw (q3 c hc).1 ZK.size,(q3 c hc).2⟩⟩;cases e3:u.ownBlock with
           | none=>exact .inl rfl
           | some c=>exact .inr fun e4=>h6 k1 u tH (by rw[e3];exact e4),
         fun k1 k2 u1 u2 c q1 q2 fI hc1 hc2=>by
          by_cases a1:k1=k
          ·subst a1;obtain rfl:=hg1 _ q1;exact far hc1 (hBm c (.inr ⟨k2,u2,aca fI,hg2 _ _ (aca fI) q2,hc2⟩)) rfl
          ·by_cases a2:k2=k
           ·subst a2;obtain rfl:=hg1 _ q2;exact far hc2 (hBm c (.inr ⟨k1,u1,a1,hg2 _ _ a1 q1,hc1⟩)) rfl
           ·exact h5 k1 k2 u1 u2 c (hg2 _ _ a1 q1) (hg2 _ _ a2 q2) fI hc1 hc2,
         fun k1 u q1 hc=>by
          by_cases a1:k1=k
          ·subst a1;obtain rfl:=hg1 _ q1;exact far hc (hBm bl (.inl rfl)) rfl
          ·exact h6 k1 u (hg2 _ _ a1 q1) hc⟩
        (fun c hc=>by
         have hcc:yj mt.kt (·=k) bs[q] c∨(a.eval v).ownBlock=some c:=by
          obtain⟨b',l',e2,hc⟩:=hc;obtain⟨rfl,rfl⟩:=mF e2;rcases hc with rfl|⟨k1,u,_,tH,hc⟩
          ·exact .inl (hBm _ (.inl rfl))
          ·have tH:=(BG k1 u).2 tH;by_cases a1:k1=k
           ·subst a1;obtain rfl:=hg1 _ tH;exact .inr hc
           ·exact .inl (hBm c (.inr ⟨k1,u,a1,hg2 _ _ a1 tH,hc⟩))
         rcases hcc with hcc|hcc
         ·refine⟨(hs.nw _ _ _ _ hQ Ln hcc).1,(hs.nw _ _ _ _ hQ Ln hcc).2,fun i y u hy tH hc1=>?_⟩;obtain⟨i1,i2,i3⟩:=hL hy tH hc1;exact hs.ap i q _ _ _ _ c i1 i3 tH hQ Ln hc1 hcc
         ·refine⟨(hs.nw _ _ _ _ hR Z8 (hBr c hcc)).1,(hs.nw _ _ _ _ hR Z8 (hBr c hcc)).2,fun i y u hy tH hc1=>?_⟩;obtain⟨i1,i2,i3⟩:=hL hy tH hc1;exact hs.ap i rr _ _ _ _ c i2 i3 tH hR Z8 hc1 (hBr c hcc))
       refine We hop hd (w':=w') (by rw[h1,hkv];exact lI) (hK w' _ s4 bX (fun i u hu sH=>?_) fun j hj=>abj (aca hj));rw[abj (fun e=>by subst e;rw[hb] at hu;obtain rfl:=aaZ hu;cases sH)];exact hu
      ·exact h.elim
     ·exact h.elim
    ·exact h.elim
   ·exact h.elim
  ·exact h.elim
 ·exact h.elim
end
end Go.Proofs.YtjlhbfbdcfajfaaGreatDoor
