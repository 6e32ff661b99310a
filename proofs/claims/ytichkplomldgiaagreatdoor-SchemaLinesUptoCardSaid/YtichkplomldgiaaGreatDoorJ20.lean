/- MSeq1 MFrz0 MSeq2 -/
import Derived.Test.YtichkplomldgiaaGreatDoorJ19
set_option maxHeartbeats 4000000
set_option maxRecDepth 100000
namespace Go.Proofs.YtichkplomldgiaaGreatDoor
open Go Go.RowKit
def qI (P:Program) (H:List aa) (t:TypeId) (x y:Option XV):Option (Nat×aa):=match x,y.bind XV.cells,P.info? t with
 | some (.one (.ptr o off)),some ys,some i=>match H[o]? with
  | some (.cells ty cs)=>if i.size=ys.length/\off+ys.length<=cs.length then some (o,.cells ty (cs.take off++ys++cs.drop (off+ys.length))) else none
  | _=>none
 | some (.one (.elo o i sz off)),some ys,some j=>match H[o]? with
  | some (.row t e rs)=>if sz=ak.sz (El t)/\j.size=ys.length/\off+ys.length<=sz then(un t ((kS t (rs.reverse.getD i (sW t))).take off++ys++(kS t (rs.reverse.getD i (sW t))).drop (off+ys.length))).map λz=>(o,.row t e (rs.reverse.set i z).reverse) else none
  | _=>none
 | some (.one (.sub o o2 off)),some ys,some j=>match H[o]? with
  | some (.zip FM e t tn dQ done cur rest)=>if o2=FM/\j.size=ys.length/\off+ys.length<=cur.length then some (o,.zip FM e t tn dQ done (cur.take off++ys++cur.drop (off+ys.length)) rest) else none
  | _=>none
 | _,_,_=>none
def KG (P:Program) (H:List aa) (t:TypeId) (x y:Option XV):Option (List aa):=(qI P H t x y).map λp=>H.set p.1 p.2
def Oh (ty:TypeId->Option Ty) (H:List aa) (e:TypeId):Option XV->Option (List aa×(y:Ty)×List (El y))
 | some (.one (.own o))=>match H[o]? with
  | some (.row y e' rs)=>if e'=e then some (H.set o .dead,⟨y,rs⟩) else none
  | _=>none
 | some (.one (.val (.slice none 0 0)))=>(ty e).map λy=>(H,⟨y,[]⟩)
 | some (.one (.mrow q kt k))=>match H[q]? with
  | some (.mr p fU t e' n f)=>match Kt.eq? kt fU with
   | some h=>if e'=e then some (H.set q (.mx p fU t e' n f (h.down▸k)),⟨t,(f (h.down▸k)).getD []⟩) else none
   | none=>none
  | _=>none
 | _=>none
def Og (H:List aa) (y:Ty) (x:Option XV):Option (List (El y)):=match x with
 | some (.one (.own o))=>match H[o]? with
  | some (.row y' _ rs)=>(gd y (.list y' rs.reverse false))
  | _=>none
 | some (.one a)=>gd y a
 | _=>none
def TM (P:Program) (t:TypeId):Option (TypeId×Nat×Nat):=match P.underlying t with
 | some (.slice e)=>(P.info? e).bind λi=>i.zero.bind λz=>if z.cells.size=i.size/\0<i.size then some (e,i.size,i.bytes) else none
 | _=>none
def wV (P:Program) (ty:TypeId->Option Ty) (H:List aa) (t:TypeId) (s x:Option XV):T (List aa×(y:Ty)×TypeId×List (El y)):=match TM P t with
 | some (e,sz,bytes)=>match Oh ty H e s with
  | some (H',⟨y,rs⟩)=>match Og H y x with
   | some ys=>if sz=ak.sz (El y) then .nd ((rs.length+ys.length)*(bytes+1)<=140737488355328) (.lf (H',⟨y,e,ys.reverse++rs⟩)) else .bad
   | none=>.bad
  | none=>.bad
 | none=>.bad
def Ru (P:Program) (ty:TypeId->Option Ty) (H:List aa) (t:TypeId) (s x:Option XV):T (XV×List aa):=(wV P ty H t s x).bind λr=>.lf (.one (.own H.length),r.1++[.row r.2.1 r.2.2.1 r.2.2.2])
section
variable {P:Program} {o:Oper} {cx:Cx} {bs aD:List Value} {w w':World} {S:Nat->Prop} {H:List aa} {m:Nat} {env:Env} {a:Act} {bg:Nat} {K:Act->World->Prop} {Q:Exit->Act->World->Prop}
theorem Km {t:Ty} {cs:List Value} {x:El t} (h:ak.rep w S cs x):∀u∈cs,u.oneCell'=true:=λu hu=>by
 obtain⟨y,_,hy⟩:=(fZ (bs:=[]) h).right u hu;exact hy.one
theorem RS.flatAt {t:Ty} {A:Option Addr} {n c:Nat} {ys:List (El t)} (h:RS w S A n c ys):∃ds,Flat w S ds ys/\(∀ad,A=some ad->bb w ad ds)/\∀u∈ds,u.oneCell'=true:=by
 have key:∀k,k<=n->∃ds,Flat w S ds (ys.take k)/\(∀ad,A=some ad->bb w ad ds)/\∀u∈ds,u.oneCell'=true:=by
  intro k;induction k with
  | zero=>intro _;exact⟨[],by simpa using Flat.nil,λad _ j u hj=>by simp at hj,λu hu=>by cases hu⟩
  | succ k ih=>
   intro hk;obtain⟨ds,h1,h2,h3⟩:=ih (by omega);obtain⟨b,p,x,cs,rfl,_,hx,hr,hc⟩:=h.at_ (k:=k) (by omega);refine⟨ds++cs,by rw[kX hx];exact .snoc h1 hr,λad e j u hj=>?_,λu hu=>?_⟩
   ·have hl:=h1.length;have hlen:=h.len;rw[List.length_take,Nat.min_eq_left (by omega)] at hl;rw[List.getElem?_append] at hj;split at hj
    ·exact h2 ad e j u hj
    ·injection e with e
     subst e;have:=hc _ _ hj;have iz:(⟨b,p,none⟩:Addr).add j=⟨b,p+(k*ak.sz (El t)+(j-ds.length)),none⟩:=by
      have:k*ak.sz (El t)+(j-ds.length)=j:=by omega
      rw[this];unfold Addr.add;split<;>simp_all
     rw[iz];exact this
   ·rcases List.mem_append.1 hu with hu|hu
    ·exact h3 u hu
    ·exact Km hr u hu
 have:=key n (Nat.le_refl _)
 rwa [List.take_of_length_le (by rw[h.len];exact Nat.le_refl _)] at this
theorem Flat.setN {α:Type} [ak α] {cs us:List Value} {xs:List α} {y:α} (h:Flat w S cs xs) (hu:ak.rep w S us y):∀{i:Nat},i<xs.length->Flat w S (cs.take (i*ak.sz α)++(us++cs.drop ((i+1)*ak.sz α))) (xs.set i y):=by
 induction h with
 | nil=>intro i hi;exact absurd hi (Nat.not_lt_zero _)
 | @snoc cs ds xs x hf hr ih=>
  intro i hi;have hl:=hf.length;have hd:=ak.len hr;by_cases hx:i<xs.length
  ·have h1:(i+1)*ak.sz α<=cs.length:=by rw[hl];exact Nat.mul_le_mul_right _ hx
   have h2:i*ak.sz α<=cs.length:=by rw[hl];exact Nat.mul_le_mul_right _ (Nat.le_of_lt hx)
   rw[List.set_append_left _ _ hx,List.take_append_of_le_length h2,List.drop_append_of_le_length h1,<-List.append_assoc us,<-List.append_assoc];exact .snoc (ih hx) hr
  ·have e:i=xs.length:=by simp at hi;omega
   subst e;have h3:(cs++ds).length<=(xs.length+1)*ak.sz α:=by rw[List.length_append,hl,hd,Nat.add_mul,Nat.one_mul];exact Nat.le_refl _
   rw[List.set_append_right _ _ (Nat.le_refl _),Nat.sub_self,List.drop_eq_nil_of_le h3,<-hl,List.take_append_of_le_length (Nat.le_refl _),List.take_length,List.append_nil];exact .snoc hf hu
theorem yl {cur ys:List Value} {N k l:Nat} (hl:ys.length=l) (h:k+l<=N) (hc:N<=cur.length):(cur.take k++ys++cur.drop (k+l)).take N=(cur.take N).take k++ys++(cur.take N).drop (k+l):=by
 have h1:(cur.take k++ys).length=k+l:=by rw[List.length_append,List.length_take,hl];omega
 rw[List.take_append,List.take_of_length_le (by omega),h1,List.take_take,Nat.min_eq_left (by omega),List.drop_take]
theorem Du {cs ds ys:List Value} {k sz off l:Nat} (hl:ys.length=l) (hd:ds.length=sz) (hc:∀j u,ds[j]?=some u->cs[k+j]?=some u) (ho:off+l<=sz):cs.take k++((ds.take off++ys++ds.drop (off+l))++cs.drop (k+sz))=cs.take (k+off)++ys++cs.drop (k+off+l):=by
 have e:(cs.drop k).take sz=ds:=by
  refine List.ext_getElem? λj=>?_;by_cases hj:j<sz
  ·rw[List.getElem?_take_of_lt hj,List.getElem?_drop];have:=hc j _ (List.getElem?_eq_getElem (by omega));rw[this,List.getElem?_eq_getElem (by omega)]
  ·rw[List.getElem?_eq_none (by rw[List.length_take];omega),List.getElem?_eq_none (by omega)]
 have h1:ds.take off=(cs.drop k).take off:=by rw[<-e,List.take_take,Nat.min_eq_left (by omega)]
 have h2:ds.drop (off+l)++cs.drop (k+sz)=cs.drop (k+off+l):=by
  have:cs.drop (k+sz)=(cs.drop k).drop sz:=by rw[List.drop_drop]
  rw[this,<-List.drop_append_of_le_length (by omega)];conv=>lhs;rw[<-e]
  rw[List.take_append_drop,List.drop_drop,Nat.add_assoc]
 rw[h1,List.append_assoc,List.append_assoc,h2,<-List.append_assoc,<-List.append_assoc,<-List.take_add]
theorem xx (hs:HS cx bs w S H) (he:ER m bs w S env a) {t:TypeId} {x y:Operand} (hop:o.op=.store t x y) (hd:o.dst=none) {p:Nat×aa} (h:qI P H t (ev env x) (ev env y)=some p) (hK:∀w',HS cx bs w' S (H.set p.1 p.2)->af S w w'->K a w'):o.wp P a w K Q:=by
 unfold qI at h;split at h
 ·rename_i ob off ys i hx hy hi;split at h
  ·rename_i ty cs hH;split at h
   ·rename_i hc;injection h with h
    subst h;obtain⟨g,hg,hv⟩:=aZ he hx;cases e:ev env y with
    | none=>rw[e] at hy;cases hy
    | some z=>
     rw[e] at hy;have DT:=XV.cells_ok hy (aZ he e);obtain⟨g',vs,e2,hk,hf⟩:=hs.o ob _ _ hH hg;injection e2 with e2
     injection e2 with e2
     injection e2 with e2
     subst e2;have hl:ys.length=(a.eval y).cells.size:=DT.length.trans Array.length_toList;have hl2:=hf.length;have hr:=qW (P:=P) (t:=t) (v:=a.eval y) (k:=off) hk (by rw[hi];exact congrArg some (hc.1.trans hl)) (by have h1:vs.toArray.size=vs.length:=List.size_toArray;rw[h1];rw[hl] at hc;omega) (λu hu=>by
      obtain⟨q,_,hq⟩:=DT.right u hu;exact hq.one)
     have hp:=FB.setRow w g (vs.toArray.toList.take off++(a.eval y).cells.toList++vs.toArray.toList.drop (off+(a.eval y).cells.size)).toArray;have rW:bS (w.setRow g _) g ty _:=setRow_heap w g vs.toArray (vs.toArray.toList.take off++(a.eval y).cells.toList++vs.toArray.toList.drop (off+(a.eval y).cells.size)).toArray ty (0,0) hk;have aV:=hs.keeps hH hg hp.g;unfold Oper.wp execOp;simp only[hop,hv,Sem.run_bind,hr,Result.andThen_ok,Sem.run_pure,Oper.upon_skip,hd];refine hK _ (hs.set hH hg hp.g ⟨g,_,rfl,rW,?_⟩ (.inl rfl)) aV;have hf':=hf.mono (R':=VR bs (w.setRow g _) S) λ_ _ q=>q.keep (λ_ h=>h) aV (eI.refl _);have LY:=DT.mono (R':=VR bs (w.setRow g _) S) λ_ _ q=>q.keep (λ_ h=>h) aV (eI.refl _);rw[hl];exact((hf'.take off).append LY).append (hf'.drop _)
   ·cases h
  ·cases h
 ·rename_i ob i sz off ys j hx hy hj;split at h
  ·rename_i ty e' rs hH;split at h
   ·rename_i hc;obtain⟨rfl,hc1,hc2⟩:=hc;cases hz:un ty ((kS ty (rs.reverse.getD i (sW ty))).take off++ys++(kS ty (rs.reverse.getD i (sW ty))).drop (off+ys.length)) with
    | none=>rw[hz] at h;cases h
    | some z=>
     rw[hz] at h;obtain rfl:=Option.some.inj h;obtain⟨g,n,c,hg,yD,hv⟩:=aZ he hx;cases e:ev env y with
     | none=>rw[e] at hy;cases hy
     | some z'=>
      rw[e] at hy;have DT:=XV.cells_ok hy (aZ he e);have hl:ys.length=(a.eval y).cells.toList.length:=DT.length;have oU:(a.eval y).cells.toList.length=(a.eval y).cells.size:=Array.length_toList;have ho:Own (α:=El ty) w S 0 e' (.slice (some ⟨g,0,none⟩) n c) rs.reverse:=hs.o ob _ _ hH hg;obtain⟨A',n',c',DV,hn⟩:=ho.slice;injection DV with _ oT _
      subst oT;obtain⟨cs,q1,q2,q3⟩:=ho;have ju:rs.reverse[i]?=some (rs.reverse.getD i (sW ty)):=by rw[List.getD_eq_getElem?_getD,List.getElem?_eq_getElem (by omega)];rfl
      obtain⟨ds,hr,QJ⟩:=q2.get i _ ju;obtain⟨pW,h2⟩:=q1;rcases h2 with⟨fW,_⟩|⟨g',cap,cur,fW,fY,hh,D6,N8,SP,rY⟩
      ·cases fW
      injection fW with fW _ hcap
      injection fW with fW
      injection fW with fW
      subst fW hcap;have hk:bS w g e' cur:=hh;have Ee:i*ak.sz (El ty)+off+ys.length<=n*ak.sz (El ty):=by
       have:(i+1)*ak.sz (El ty)<=n*ak.sz (El ty):=Nat.mul_le_mul_right _ yD;rw[Nat.add_mul,Nat.one_mul] at this;omega
      have QB:n*ak.sz (El ty)<=cur.size:=by rw[SP,hn];exact Nat.mul_le_mul_right _ D6
      have gX:=qW (P:=P) (t:=t) (v:=a.eval y) (k:=i*ak.sz (El ty)+off) hk (by rw[hj];exact congrArg some (hc1.trans (hl.trans oU))) (by omega) (λu hu=>by
       obtain⟨q,_,hq⟩:=DT.right u hu;exact hq.one)
      have hp:=FB.setRow w g (cur.toList.take (i*ak.sz (El ty)+off)++(a.eval y).cells.toList++cur.toList.drop (i*ak.sz (El ty)+off+(a.eval y).cells.size)).toArray;have rW:bS (w.setRow g _) g e' _:=setRow_heap w g cur (cur.toList.take (i*ak.sz (El ty)+off)++(a.eval y).cells.toList++cur.toList.drop (i*ak.sz (El ty)+off+(a.eval y).cells.size)).toArray e' (0,0) hk;have aV:=hs.keeps hH hg hp.g;unfold Oper.wp execOp;simp only[hop,hv,Sem.run_bind,gX,Result.andThen_ok,Sem.run_pure,Oper.upon_skip,hd];refine hK _ (hs.set hH hg hp.g ?_ (.inl rfl)) aV;have jx:ak.rep w S (ds.take off++(a.eval y).cells.toList++ds.drop (off+ys.length)) z:=gQ hz (((fZ hr).take off |>.append DT).append ((fZ hr).drop _));have hF:=(q2.setN jx (i:=i) (by omega)).keep (λ_ h=>h) aV;have QC:=ak.len hr;rw[Nat.add_mul,Nat.one_mul,Du (by rw[<-hl]) QC QJ hc2] at hF;show Own (α:=El ty) _ S 0 e' _ (rs.reverse.set i z).reverse.reverse;rw[List.reverse_reverse];refine⟨_,?_,hF,λb q=>⟨Nat.lt_of_lt_of_le (hs.s b q).1 hp.g.size,(q3 b q).2⟩⟩;rw[List.length_set,<-hn];have QE:cur.toList.length=cur.size:=Array.length_toList;have lw:=yl (cur:=cur.toList) (ys:=(a.eval y).cells.toList) (N:=n*ak.sz (El ty)) (k:=i*ak.sz (El ty)+off) hl.symm Ee (by omega);rw[<-hn,] at rY;rw[rY] at lw;refine⟨?_,.inr ⟨g,c,_,rfl,fY,rW,by rw[hn];exact D6,N8,?_,?_⟩⟩
      ·rw[<-lw,List.length_take];simp only[List.length_append,List.length_take,List.length_drop];omega
      ·rw[List.size_toArray];simp only[List.length_append,List.length_take,List.length_drop];omega
      ·rw[<-lw,<-oU,<-hl]
   ·cases h
  ·cases h
 ·rename_i ob o2 off ys j hx hy hj;split at h
  ·rename_i FM e' ty tn dQ done cur0 rest hH;split at h
   ·rename_i hc;obtain⟨rfl,hc1,hc2⟩:=hc;injection h with h
    subst h;obtain⟨g,p,hg2,hv⟩:=aZ he hx;cases e:ev env y with
    | none=>rw[e] at hy;cases hy
    | some z'=>
     rw[e] at hy;have DT:=XV.cells_ok hy (aZ he e);have hl:ys.length=(a.eval y).cells.toList.length:=DT.length;have oU:(a.eval y).cells.toList.length=(a.eval y).cells.size:=Array.length_toList;have Qm:ob<bs.length:=by rw[hs.len];exact(List.getElem?_eq_some_iff.1 hH).1
     have hg:=List.getElem?_eq_getElem Qm;have Vk:=hs.o ob _ _ hH hg;obtain⟨aO,n,c,r,SC,Md,ho,hz,hr,pW⟩:=Cm hs hH hg hg2;have hd:done.length<aO.length:=(List.getElem?_eq_some_iff.1 hr).1;have hf:=(hz.2 _ _ hr).2.1 rfl;have AA:r.cells.length=ak.sz (El ty):=r.len;have QF:cur0.length=ak.sz (El ty):=hf.length.trans AA;obtain⟨cs,q1,q2,q3⟩:=ho;obtain⟨VM,h2⟩:=q1;rw[SC] at h2;rcases h2 with⟨fW,_⟩|⟨g',cap,cur,fW,fY,hh,D6,N8,SP,rY⟩
     ·cases fW
     injection fW with fW hn hcap
     injection fW with fW
     injection fW with fW
     subst fW hcap hn;have hsz:ak.sz (fl (ak.sz (El ty)))=ak.sz (El ty):=rfl;rw[hsz] at VM SP rY;have hk:bS w g e' cur:=hh;subst Md;have Ee:done.length*ak.sz (El ty)+off+ys.length<=aO.length*ak.sz (El ty):=by
      have:(done.length+1)*ak.sz (El ty)<=aO.length*ak.sz (El ty):=Nat.mul_le_mul_right _ hd;rw[Nat.add_mul,Nat.one_mul] at this;omega
     have QB:aO.length*ak.sz (El ty)<=cur.size:=by rw[SP];exact Nat.mul_le_mul_right _ D6
     have gX:=qW (P:=P) (t:=t) (v:=a.eval y) (k:=done.length*ak.sz (El ty)+off) hk (by rw[hj];exact congrArg some (hc1.trans (hl.trans oU))) (by omega) (λu hu=>by
      obtain⟨q,_,hq⟩:=DT.right u hu;exact hq.one)
     have hp:=FB.setRow w g (cur.toList.take (done.length*ak.sz (El ty)+off)++(a.eval y).cells.toList++cur.toList.drop (done.length*ak.sz (El ty)+off+(a.eval y).cells.size)).toArray;have rW:bS (w.setRow g _) g e' _:=setRow_heap w g cur (cur.toList.take (done.length*ak.sz (El ty)+off)++(a.eval y).cells.toList++cur.toList.drop (done.length*ak.sz (El ty)+off+(a.eval y).cells.size)).toArray e' (0,0) hk;have hbk:bk (.zip o2 e' ty tn dQ done cur0 rest) bs[ob]=some g:=by rw[SC];rfl
     have Zk:w.grownBy (w.setRow g (cur.toList.take (done.length*ak.sz (El ty)+off)++(a.eval y).cells.toList++cur.toList.drop (done.length*ak.sz (El ty)+off+(a.eval y).cells.size)).toArray) (bk (.zip o2 e' ty tn dQ done cur0 rest) bs[ob]):=by rw[hbk];exact hp.g
     have aV:=hs.keeps hH hg Zk;unfold Oper.wp execOp;simp only[hop,hv,Sem.run_bind,gX,Result.andThen_ok,Sem.run_pure,Oper.upon_skip];rw[‹o.dst=none›];refine hK _ (hs.set hH hg Zk ?_ (.inl rfl)) aV;have LY:F2 (VR bs w S) (cur0.take off++ys++cur0.drop (off+ys.length)) (r.cells.take off++(a.eval y).cells.toList++r.cells.drop (off+ys.length)):=((hf.take off).append DT).append (hf.drop _);have wu:(r.cells.take off++(a.eval y).cells.toList++r.cells.drop (off+ys.length)).length=ak.sz (El ty):=by
      simp only[List.length_append,List.length_take,List.length_drop];omega
     have hF:=(q2.setN (y:=(⟨_,wu⟩:fl (ak.sz (El ty)))) rfl (i:=done.length) hd).keep (λ_ h=>h) aV;obtain⟨ds,QC,QJ⟩:=q2.get _ _ hr;have QC:ds=r.cells:=QC;subst QC;rw[hsz] at hF QJ;rw[Nat.add_mul,Nat.one_mul,Du (by rw[<-hl]) AA QJ (by rw[QF] at hc2;exact hc2)] at hF;obtain⟨_,_,_,hl2,u,nG,kR,P5⟩:=Vk;refine⟨aO.set done.length ⟨_,wu⟩,?_,⟨by rw[List.length_set];exact hz.1,λj r' fa=>?_⟩,hl2,u,nG,kR,P5⟩
     ·rw[SC];refine⟨_,?_,hF,λb q=>⟨Nat.lt_of_lt_of_le (hs.s b q).1 hp.g.size,by rw[<-SC];exact(q3 b q).2⟩⟩;rw[List.length_set];have QE:cur.toList.length=cur.size:=Array.length_toList;have lw:=yl (cur:=cur.toList) (ys:=(a.eval y).cells.toList) (N:=aO.length*ak.sz (El ty)) (k:=done.length*ak.sz (El ty)+off) hl.symm Ee (by omega);rw[rY] at lw;refine⟨?_,.inr ⟨g,c,_,rfl,fY,rW,D6,N8,?_,?_⟩⟩
      ·rw[hsz,<-lw,List.length_take];simp only[List.length_append,List.length_take,List.length_drop];omega
      ·rw[hsz,List.size_toArray];simp only[List.length_append,List.length_take,List.length_drop];omega
      ·rw[hsz,<-lw,<-oU,<-hl]
     ·by_cases ej:j=done.length
      ·subst ej;rw[List.getElem?_set_self hd] at fa;obtain rfl:=Option.some.inj fa;exact⟨λx hx=>absurd (List.getElem?_eq_some_iff.1 hx).1 (Nat.lt_irrefl _),λ_=>LY.mono λ_ _ q=>q.keep (λ_ h=>h) aV (eI.refl _),λq=>absurd q (Nat.lt_irrefl _)⟩
      ·rw[List.getElem?_set_ne (Ne.symm ej)] at fa;obtain⟨z1,z2,z3⟩:=hz.2 j r' fa;exact⟨λx hx=>ak.keep (z1 x hx) (λ_ h=>h) aV,λq=>absurd q ej,λq=>ak.keep (z3 q) (λ_ h=>h) aV⟩
   ·cases h
  ·cases h
 ·cases h
theorem Gl (hs:HS cx bs w S H) (he:ER m bs w S env a) {t:TypeId} {x y:Operand} (hop:o.op=.store t x y) (hd:o.dst=none) {H':List aa} (h:KG P H t (ev env x) (ev env y)=some H') (hK:∀w',HS cx bs w' S H'->af S w w'->K a w'):o.wp P a w K Q:=by
 unfold KG at h;cases hp:qI P H t (ev env x) (ev env y) with
 | none=>rw[hp] at h;cases h
 | some p=>
  rw[hp] at h;obtain rfl:=Option.some.inj h;exact xx hs he hop hd hp hK
theorem yV (hs:HS cx bs w S H) (he:ER m bs w S env a) {ty:TypeId->Option Ty} {t:TypeId} {s x:Operand} (hop:o.op=.call { callee:=.builtin .append,args:=#[s,x],argTypes:=#[t,t] }) {r:List aa×(y:Ty)×TypeId×List (El y)} (h:(wV P ty H t (ev env s) (ev env x)).hit r) (hK:∀v w',HS cx bs w' S r.1->r.1.length=H.length->(∀i:Nat,H[i]?=some aa.dead->r.1[i]?=some aa.dead)->af S w w'->Own (α:=El r.2.1) w' S 0 r.2.2.1 v r.2.2.2.reverse->(∀b,v.ownBlock=some b->(cx.w0.heap.size<=b\/cx.M b)/\¬S b/\∀(i:Nat) (z:aa) (u:Value),r.1[i]?=some z->bs[i]?=some u->¬Bk z u b)->K (a.put o.dst v) w'):o.wp P a w K Q:=by
 unfold wV at h;split at h
 ·rename_i e sz bytes dh;split at h
  ·rename_i H' y rs kb;split at h
   ·rename_i ys hY;split at h
    ·rename_i hsz;obtain⟨hn,h⟩:=h;have h:(_,_)=r:=h;subst h;have P6:dO P t e (ak.sz (El y)) bytes:=by
      unfold TM at dh;cases hu:P.underlying t with
      | none=>rw[hu] at dh;cases dh
      | some d=>
       rw[hu] at dh;cases d with
       | slice e'=>
        have dh:((P.info? e').bind λi=>i.zero.bind λz=>if z.cells.size=i.size/\0<i.size then some (e',i.size,i.bytes) else none)=some (e,sz,bytes):=dh;cases hi:P.info? e' with
        | none=>rw[hi] at dh;cases dh
        | some i=>
         rw[hi] at dh;have dh:(i.zero.bind λz=>if z.cells.size=i.size/\0<i.size then some (e',i.size,i.bytes) else none)=some (e,sz,bytes):=dh;cases hz:i.zero with
         | none=>rw[hz] at dh;cases dh
         | some z=>
          rw[hz] at dh;have dh:(if z.cells.size=i.size/\0<i.size then some (e',i.size,i.bytes) else none)=some (e,sz,bytes):=dh;split at dh
          ·rename_i hc;injection dh with dh
           injection dh with e1 dh
           injection dh with e2 e3
           subst e1;exact⟨hu,⟨i,z,hi,hz,by omega,e3,by omega⟩,by omega⟩
          ·cases dh
       | _=>cases dh
     have wB:∀b,S b->b<w.heap.size:=λb q=>(hs.s b q).1;have dM:Own (α:=El y) w S 0 e (a.eval s) rs.reverse/\∃Hd,Hd=H'/\((∃(i:Nat) (X Y:aa) (u:Value),X≠.dead/\bs[i]?=some u/\H[i]?=some X/\Hd=H.set i Y/\(∀c,Bk Y u c->Bk X u c)/\(∀c,(a.eval s).ownBlock=some c->Bk X u c/\¬Bk Y u c)/\∀w',w.grownBy w' (a.eval s).ownBlock->af S w w'->OR bs w' S Y u)\/((a.eval s).ownBlock=none/\Hd=H)):=by
      unfold Oh at kb;split at kb
      ·rename_i ob hx;split at kb
       ·rename_i y' e' rs' hH;split at kb
        ·rename_i ee;injection kb with kb
         injection kb with q1 q2
         injection q2 with q2 q3
         subst q2;have q3:=eq_of_heq q3;subst q3 ee;obtain⟨hb,A,n,c,hv⟩:=aZ he hx;exact⟨hs.o ob _ _ hH hb,_,rfl,.inl ⟨ob,_,.dead,_,(λe=>by cases e),hb,hH,q1.symm,(λ_ h=>by cases h),(λc hc=>⟨hc,λh=>by cases h⟩),λ_ _ _=>trivial⟩⟩
        ·cases kb
       ·cases kb
      ·rename_i hx;cases P7:ty e with
       | none=>rw[P7] at kb;cases kb
       | some y'=>
        rw[P7] at kb;injection kb with kb
        injection kb with q1 q2
        injection q2 with q2 q3
        subst q2;have q3:=eq_of_heq q3;subst q3;have hv:=(aZ he hx).1;rw[hv];exact⟨Own.nil' w S wB 0 e,_,rfl,.inr ⟨rfl,q1.symm⟩⟩
      ·rename_i q kt k hx;split at kb
       ·rename_i p fU t' e' n f hH;split at kb
        ·rename_i hk _;obtain⟨rfl⟩:=hk;split at kb
         ·rename_i ee;injection kb with kb
          injection kb with q1 q2
          injection q2 with q2 q3
          subst q2;have q3:=eq_of_heq q3;subst q3 ee;obtain⟨b,l,hb,hv,dh⟩:=aZ he hx;have jG:=hs.o q _ _ hH hb;obtain⟨dM,iw⟩:=mG.row wB jG hv;exact⟨dM,_,rfl,.inl ⟨q,_,.mx p kt t' e' n f k,_,(λe=>by cases e),hb,hH,q1.symm,(λc hc=>oz.weak hc),iw,λw' hg hk=>mG.out jG hg hk (λb q=>⟨Nat.lt_of_lt_of_le (wB b q) hg.size,λhc=>(hs.nw _ _ _ b hH hb (oz.weak hc)).2 q⟩) λc hc=>(iw c hc).2⟩⟩
         ·cases kb
        ·cases kb
       ·cases kb
      ·cases kb
     obtain⟨dM,Hd,rfl,hd⟩:=dM;have Y2:∃A n c ds,a.eval x=.slice A n c/\n=ys.length/\Flat w S ds ys/\(∀ad,A=some ad->bb w ad ds)/\(∀u∈ds,u.oneCell'=true)/\(A=none->n=0):=by
      have fromV:∀{b:AV},gd y b=some ys->VR bs w S b (a.eval x)->∃A n c ds,a.eval x=.slice A n c/\n=ys.length/\Flat w S ds ys/\(∀ad,A=some ad->bb w ad ds)/\(∀u∈ds,u.oneCell'=true)/\(A=none->n=0):=by
       intro b hu hv;obtain⟨A,n,c,e1,hr⟩:=jh (t:=.list y) hu hv;injection e1 with e1
       obtain⟨ds,q1,q2,q3⟩:=hr.flatAt;refine⟨A,n,c,ds,e1,hr.len.symm,q1,q2,q3,λhA=>?_⟩;rcases Nat.eq_zero_or_pos n with h0|h0
       ·exact h0
       ·obtain⟨_,_,_,h3⟩:=hr;obtain⟨_,_,e,_⟩:=h3 h0;rw[hA] at e;cases e
      unfold Og at hY;split at hY
      ·rename_i ob hx;split at hY
       ·rename_i y' e' rs' hH;obtain⟨hb,A,n,c,hv⟩:=aZ he hx;unfold gd at hY;simp only at hY;split at hY
        ·rename_i q hq;injection hY with hY
         obtain⟨q⟩:=q;subst q hY;have ho:Own (α:=El y') w S 0 e' (a.eval x) rs'.reverse:=hs.o ob _ _ hH hb;obtain⟨ds,⟨_,h2⟩,hf,_⟩:=ho;rcases h2 with⟨fW,hn0⟩|⟨g,cap,cur,fW,_,hg,D6,_,rY,sQ⟩
         ·have:rs'.reverse=[]:=List.eq_nil_of_length_eq_zero hn0;rw[this] at hf ⊢;exact⟨none,0,0,[],fW,rfl,.nil,(λad e=>by cases e),(λu hu=>by cases hu),λ_=>rfl⟩
         ·refine⟨_,_,_,ds,fW,rfl,hf,?_,?_,λe=>by cases e⟩
          ·rintro ad e j u hj;injection e with e
           subst e;have iz:(⟨g,0,none⟩:Addr).add j=⟨g,j,none⟩:=by unfold Addr.add;split<;>simp_all
           rw[iz,(show bS w g e' cur from hg).cell];rw[<-sQ,List.getElem?_take] at hj;split at hj
           ·simpa using hj
           ·cases hj
          ·clear rY sQ;intro u hu;have:∀{ds:List Value} {xs:List (El y')},Flat w S ds xs->∀u∈ds,u.oneCell'=true:=by
            intro ds xs hf;induction hf with
            | nil=>intro u hu;cases hu
            | snoc _ hr ih=>
             intro u hu;rcases List.mem_append.1 hu with hu|hu
             ·exact ih u hu
             ·exact Km hr u hu
           exact this hf u hu
        ·cases hY
       ·cases hY
      ·rename_i b _ hx;exact fromV hY (aZ he hx)
      ·cases hY
     obtain⟨A,n,c,ds,hx,wu,pT,VO,Vl,Vq⟩:=Y2;have hlen:(rs.reverse.length+ys.length)*(bytes+1)<=140737488355328:=by rw[List.length_reverse];exact hn
     have fin:∀v' w',Own (α:=El y) w' S 0 e v' (rs.reverse++ys)->w.grownBy w' (a.eval s).ownBlock->(v'.ownBlock=(a.eval s).ownBlock\/v'.ownBlock=some w.heap.size)->K (a.put o.dst v') w':=by
      intro v' w' q1 q2 q3;have aV:af S w w':=af.of_row q2 λb q=>⟨wB b q,λe=>(Own.apart dM b q).2 e⟩;have fY:HS cx bs w' S Hd/\∀b,v'.ownBlock=some b->(cx.w0.heap.size<=b\/cx.M b)/\¬S b/\∀(i:Nat) (z:aa) (u:Value),Hd[i]?=some z->bs[i]?=some u->¬Bk z u b:=by
       have jx:∀{Hx:List aa},(∀(i:Nat) (z:aa),Hx[i]?=some z->z=.dead\/H[i]?=some z)->∀b,b=w.heap.size->(cx.w0.heap.size<=b\/cx.M b)/\¬S b/\∀(i:Nat) (z:aa) (u:Value),Hx[i]?=some z->bs[i]?=some u->¬Bk z u b:=by
        rintro Hx hm b rfl;refine⟨.inl hs.size,λq=>Nat.lt_irrefl _ (wB _ q),λi z u hz hu e=>?_⟩;rcases hm i z hz with rfl|hz
        ·cases e
        ·exact Nat.lt_irrefl _ ((hs.o i z u hz hu).lt e)
       rcases hd with⟨i,X,Y,u0,ZJ,hb,hH,rfl,ZL,iw,hYo⟩|⟨Qq,rfl⟩
       ·have Iw:=(List.getElem?_eq_some_iff.1 hH).1;have SG:∀(j:Nat) (z:aa),(H.set i Y)[j]?=some z->(j=i/\z=Y)\/(j≠i/\H[j]?=some z):=by
         intro j z hz;by_cases e:j=i
         ·subst e;rw[List.getElem?_set_self Iw] at hz;exact .inl ⟨rfl,(Option.some.inj hz).symm⟩
         ·rw[List.getElem?_set_ne (Ne.symm e)] at hz;exact .inr ⟨e,hz⟩
        refine⟨hs.setB hH hb q2 (λc hc=>(iw c hc).1) (hYo w' q2 aV) ZL,λb dF=>?_⟩;rcases q3 with q3|q3
        ·rw[q3] at dF;refine⟨(hs.nw i _ _ b hH hb (iw b dF).1).1,(hs.nw i _ _ b hH hb (iw b dF).1).2,λj z u hz hu e=>?_⟩;rcases SG j z hz with⟨rfl,rfl⟩|⟨e2,hz⟩
         ·rw[hb] at hu;obtain rfl:=Option.some.inj hu;exact(iw b dF).2 e
         ·exact hs.ap i j _ _ _ _ b (Ne.symm e2) hH hb hz hu (iw b dF).1 e
        ·rw[q3] at dF;obtain rfl:=Option.some.inj dF;refine⟨.inl hs.size,λq=>Nat.lt_irrefl _ (wB _ q),λj z u hz hu e=>?_⟩;rcases SG j z hz with⟨rfl,rfl⟩|⟨_,hz⟩
         ·rw[hb] at hu;obtain rfl:=Option.some.inj hu;exact Nat.lt_irrefl _ ((hs.o _ _ _ hH hb).lt (ZL _ e))
         ·exact Nat.lt_irrefl _ ((hs.o j z u hz hu).lt e)
       ·rw[Qq] at q2;have bQ:Below w.heap.size w w':=⟨q2.os,q2.tape,q2.output,q2.size,λb hb=>q2.block b hb (by simp)⟩;refine⟨hs.grow bQ (λ_ h=>h) (λ_ h=>.inl h),λb dF=>?_⟩;rcases q3 with q3|q3
        ·rw[q3,Qq] at dF;cases dF
        ·rw[q3] at dF;exact jx (λ_ _ h=>.inr h) b (Option.some.inj dF).symm
      obtain⟨bp,bQ⟩:=fY;have SX:Hd.length=H.length:=by rcases hd with⟨i,_,_,_,_,_,_,rfl,_⟩|⟨_,rfl⟩<;>simp
      refine hK v' w' bp SX (λi=>?_) aV (by show Own (α:=El y) w' S 0 e v' (ys.reverse++rs).reverse;rw[List.reverse_append,List.reverse_reverse];exact q1) bQ;rcases hd with⟨j,X,Y,_,ZJ,_,hH,rfl,_⟩|⟨_,rfl⟩
      ·intro hi;have e:j≠i:=λe=>by subst e;rw[hH] at hi;exact ZJ (Option.some.inj hi)
       rw[List.getElem?_set_ne e];exact hi
      ·exact λh=>h
     cases A with
     | some ad=>exact jB (α:=El y) s x t hop bytes P6 rfl dM ad n c ds ys hx wu pT (VO ad rfl) Vl hlen (Nat.zero_le _) λv' w' q1 q2 q3=>fin v' w' q1 q2 q3
     | none=>
      have hn0:=Vq rfl;subst hn0;have hy:ys=[]:=List.eq_nil_of_length_eq_zero wu.symm;subst hy;have D4:=dM;obtain⟨cs,kh,_,_⟩:=D4;obtain⟨i,z,hi,_⟩:=P6.info;have iP:=eM (P:=P) (ty:=o.type) P6.under hi kh c;unfold Oper.wp;simp[execOp,hop,resolve,invoke,builtin,hx,iP,Result.andThen];exact fin _ _ (by rw[List.append_nil];exact dM) ⟨rfl,rfl,rfl,Nat.le_refl _,λ_ _ _=>rfl⟩ (.inl rfl)
    ·exact h.elim
   ·exact h.elim
  ·exact h.elim
 ·exact h.elim
theorem Ji (hs:HS cx bs w S H) (he:ER m bs w S env a) {ty:TypeId->Option Ty} {t:TypeId} {s x:Operand} (hop:o.op=.call { callee:=.builtin .append,args:=#[s,x],argTypes:=#[t,t] }) {r:XV×List aa} (h:(Ru P ty H t (ev env s) (ev env x)).hit r) (hK:∀v w' aD,HS cx aD w' S r.2->af S w w'->eI bs aD->XR aD w' S r.1 v->K (a.put o.dst v) w'):o.wp P a w K Q:=by
 obtain⟨q,h1,h2⟩:=T.hit_bind h;have h2:(XV.one (.own H.length),q.1++[aa.row q.2.1 q.2.2.1 q.2.2.2])=r:=h2;subst h2;refine yV hs he hop h1 λv w' bp SX _ aV dM bQ=>?_;have D3:=bp.pad;have hj:(q.1++[aa.dead])[q.1.length]?=some .dead:=by rw[List.getElem?_append_right (Nat.le_refl _)];simp
 have nK:(bs++[undef])[q.1.length]?=some undef:=by rw[<-bp.len,List.getElem?_append_right (Nat.le_refl _)];simp
 have fc:=D3.fill (x:=.row q.2.1 q.2.2.1 q.2.2.2) (v:=v) hj nK rfl dM (λb dF=>⟨(bQ b dF).1,(bQ b dF).2.1,λi z u hz hu e=>by
  by_cases hi:i<q.1.length
  ·rw[List.getElem?_append_left hi] at hz;rw[List.getElem?_append_left (by rw[bp.len];exact hi)] at hu;exact(bQ b dF).2.2 i z u hz hu e
  ·have:z=.dead:=by
    have h1:=(List.getElem?_eq_some_iff.1 hz).1;have e2:i=q.1.length:=by simp at h1;omega
    subst e2;rw[hj] at hz;exact(Option.some.inj hz).symm
   subst this;cases e⟩)
 have rT:(q.1++[aa.dead]).set q.1.length (.row q.2.1 q.2.2.1 q.2.2.2)=q.1++[.row q.2.1 q.2.2.1 q.2.2.2]:=by
  rw[List.set_append_right _ _ (Nat.le_refl _)];simp
 have pR:(bs++[undef]).set q.1.length v=bs++[v]:=by
  rw[<-bp.len,List.set_append_right _ _ (Nat.le_refl _)];simp
 rw[rT,pR] at fc;obtain⟨A',n',c',DV,_⟩:=dM.slice;refine hK v w' (bs++[v]) fc aV (i7 _ _) ⟨?_,A',n',c',DV⟩;rw[<-SX,<-bp.len,List.getElem?_append_right (Nat.le_refl _)];simp
end
def sg (i:Nat) (x:AV):AV->AV
 | .own o=>bif o==i then x else .own o
 | .mp o=>bif o==i then x else .mp o
 | a=>a
def QV (i:Nat) (x:AV):XV->XV
 | .one a=>.one (sg i x a)
 | .agg cs=>.agg (cs.map (sg i x))
 | .tup l=>.tup (l.map λp=>(p.1,p.2.map (sg i x)))
def IK (i:Nat) (x:AV):aa->aa
 | .cells ty cs=>.cells ty (cs.map (sg i x))
 | .zip o2 e t tn dQ done cur rest=>.zip o2 e t tn dQ done (cur.map (sg i x)) rest
 | y=>y
def IM (i:Nat) (st:bT):bT:=match (st.heap[i]?).bind ft with
 | some x=>⟨st.env.map λp=>(p.1,QV i x p.2),(st.heap.set i .dead).map (IK i x)⟩
 | none=>st
def IL:List AV->bT->bT
 | [],st=>st
 | c::l,st=>IL l (match ii c with
  | some i=>IM i st
  | none=>st)
def sd (st:bT) (t:Nat):bT:=match st.env.lookup t with
 | some (.one (.own i))=>IM i st
 | some (.one (.mp i))=>IM i st
 | some (.agg cs)=>IL cs st
 | _=>st
section
variable {m:Nat} {cx:Cx} {st:bT} {a:Act} {w:World}
theorem nW {i:Nat} (h:cP m cx st a w):cP m cx (IM i st) a w:=by
 unfold IM;split
 ·rename_i x ju;obtain⟨Y,hi,hx⟩:=Option.bind_eq_some_iff.1 ju;obtain⟨bs,S,hs,he⟩:=h;have FW:i<bs.length:=by rw[hs.len];exact(List.getElem?_eq_some_iff.1 hi).1
  obtain⟨v,hv⟩:∃v,bs[i]?=some v:=⟨_,List.getElem?_eq_getElem FW⟩;have ho:=hs.o i _ v hi hv
  let S':Nat->Prop:=λb=>S b\/Bk Y v b
  have kb:∀b,S' b->b<w.heap.size:=λb q=>q.elim (λq=>(hs.s b q).1) λq=>ho.lt q;have vr:∀{y:AV} {u:Value},VR bs w S y u->VR bs w S' (sg i x y) u:=by
   intro y u hy;have up:VR bs w S' y u:=hy.keep (λ_ h=>.inl h) (af.refl _ _) (eI.refl _);have one:∀o,ii y=some o->sg i x y=(bif o==i then x else y)->VR bs w S' (sg i x y) u:=by
    intro o kh e;rw[e];by_cases FU:o=i
    ·subst FU;rw[beq_self_eq_true];have hb:=ni hy kh;rw[hv] at hb;obtain rfl:=Option.some.inj hb;exact mO ho hx (λ_ h=>.inl h) λ_ h=>.inr h
    ·rw[beq_eq_false_iff_ne.2 FU];exact up
   cases y with
   | own o=>exact one o rfl rfl
   | mp o=>exact one o rfl rfl
   | _=>exact up
  have cr:∀{ag:Bool} {cs:List AV} {u:Value},CR bs w S ag cs u->CR bs w S' ag (cs.map (sg i x)) u:=by
   intro ag cs u hc;unfold CR at hc ⊢;cases ag with
   | true=>obtain⟨vs,e,h⟩:=hc;exact⟨vs,e,h.mapL λ_ _ _ h=>vr h⟩
   | false=>obtain⟨a,rfl,h⟩:=hc;exact⟨_,rfl,vr h⟩
  have xr:∀{z:XV} {u:Value},XR bs w S z u->XR bs w S' (QV i x z) u:=by
   intro z u hx;cases z with
   | one b=>exact vr hx
   | agg cs=>exact cr (ag:=true) hx
   | tup l=>obtain⟨vs,e,h⟩:=hx;exact⟨vs,e,h.mapL λ_ _ _ h=>cr h⟩
  have get:∀{j:Nat} {y:aa},((st.heap.set i .dead).map (IK i x))[j]?=some y->y=.dead\/(j≠i/\∃z,st.heap[j]?=some z/\y=IK i x z):=by
   intro j y hy;rw[List.getElem?_map] at hy;by_cases hj:j=i
   ·subst hj;rw[List.getElem?_set_self (by rw[<-hs.len];exact FW)] at hy;exact .inl (Option.some.inj hy).symm
   ·rw[List.getElem?_set_ne (Ne.symm hj)] at hy;cases hz:st.heap[j]? with
    | none=>rw[hz] at hy;cases hy
    | some z=>rw[hz] at hy;exact .inr ⟨hj,z,rfl,(Option.some.inj hy).symm⟩
  have Ta:∀{z:aa} {u:Value} {b:Nat},Bk (IK i x z) u b->Bk z u b:=by
   intro z u b h;cases z with
   | cells ty cs=>cases u with
    | pointer p=>cases p<;>exact h
    | _=>exact h
   | _=>exact h
  have far:∀{j:Nat} {z:aa} {u:Value} {b:Nat},j≠i->st.heap[j]?=some z->bs[j]?=some u->Bk z u b->¬S' b:=λhj hz hu hb q=>q.elim (hs.nw _ _ _ _ hz hu hb).2 λq=>hs.ap _ i _ _ _ v _ hj hz hu hi hv hb q;refine⟨bs,S',⟨by rw[List.length_map,List.length_set];exact hs.len,?_,?_,?_,λb q=>⟨kb b q,?_⟩,λb q=>.inl (hs.s0 b q),hs.os,hs.tape,hs.output,hs.size,hs.old,hs.an⟩,he.d,he.s,λu x hx=>?_⟩
  ·intro j y u hy hu;rcases get hy with rfl|⟨hj,z,hz,rfl⟩
   ·exact trivial
   ·have jG:=hs.o j z u hz hu;have kp:=jG.keep (S':=S') (cj (Below.refl _ _) (Nat.le_refl _) none) (by simp) (af.refl _ _) (λ_ h=>.inl h) (λb q=>⟨kb b q,λe=>far hj hz hu e q⟩) (eI.refl _);cases z with
    | cells ty cs=>obtain⟨g,vs,rfl,h1,h2⟩:=jG;exact⟨g,vs,rfl,h1,h2.mapL λ_ _ _ h=>vr h⟩
    | zip o2 e' t' Cf dQ done cur rest=>
     obtain⟨aO,ho',hz',q⟩:=kp;obtain⟨Pf,FU,hz2,_⟩:=jG;refine⟨Pf,?_,⟨hz2.1,λj r hr=>?_⟩,q⟩
     ·refine Own.widen FU (λ_ h=>.inl h) λb q=>⟨kb b q,λe=>far hj hz hu e.symm q⟩
     ·obtain⟨z1,z2,z3⟩:=hz2.2 j r hr;exact⟨λx hx=>ak.keep (z1 x hx) (λ_ h=>.inl h) (af.refl _ _),λe=>(z2 e).mapL λ_ _ _ h=>vr h,λe=>ak.keep (z3 e) (λ_ h=>.inl h) (af.refl _ _)⟩
    | _=>exact kp
  ·intro j k y y2 u v2 b hjk hy hu hz fW bp bQ;rcases get hy with rfl|⟨_,z,hz1,rfl⟩
   ·cases bp
   rcases get hz with rfl|⟨_,z2,hz2,rfl⟩
   ·cases bQ
   exact hs.ap j k z z2 u v2 b hjk hz1 hu hz2 fW (Ta bp) (Ta bQ)
  ·intro j y u b hy hu hb;rcases get hy with rfl|⟨hj,z,hz1,rfl⟩
   ·cases hb
   exact⟨(hs.nw j z u b hz1 hu (Ta hb)).1,far hj hz1 hu (Ta hb)⟩
  ·exact q.elim (λq=>(hs.s b q).2) λq=>.inr (hs.nw i _ v b hi hv q).1
  ·obtain⟨p,hp,e⟩:=List.mem_map.1 hx;injection e with e1 e2
   subst e1 e2;obtain⟨v,h1,h2⟩:=he.k p.1 p.2 hp;exact⟨v,h1,xr h2⟩
 ·exact h
theorem sf:∀{l:List AV} {st:bT},cP m cx st a w->cP m cx (IL l st) a w
 | [],_,h=>h
 | c::l,st,h=>sf (l:=l) (by
  split
  ·exact nW h
  ·exact h)
theorem IJ {t:Nat} (h:cP m cx st a w):cP m cx (sd st t) a w:=by
 unfold sd;split
 ·exact nW h
 ·exact nW h
 ·exact sf h
 ·exact h
theorem se:∀{l:List Nat} {st:bT},cP m cx st a w->cP m cx (l.foldl sd st) a w
 | [],_,h=>h
 | t::l,st,h=>se (l:=l) (st:=sd st t) (IJ h)
end
def er:List (Nat×aa)->List aa->List aa
 | [],H=>H
 | p::l,H=>er l (H.set p.1 p.2)
section
variable {cx:Cx} {bs:List Value} {w:World} {S:Nat->Prop} {H:List aa}
theorem PU (hs:HS cx bs w S H) {o:Nat} {Y:aa} {x:AV} {v:Value} (hH:H[o]?=some Y) (hx:ft Y=some x) (hv:bs[o]?=some v):HS cx bs w (λb=>S b\/Bk Y v b) (H.set o .dead)/\VR bs w (λb=>S b\/Bk Y v b) x v:=by
 have sU:=(List.getElem?_eq_some_iff.1 hH).1;have hlt:∀b,(S b\/Bk Y v b)->b<w.heap.size:=λb q=>q.elim (λq=>(hs.s b q).1) λq=>(hs.o o _ v hH hv).lt q;have get:∀{j:Nat} {y:aa},(H.set o .dead)[j]?=some y->y=.dead\/(j≠o/\H[j]?=some y):=by
  intro j y hy;by_cases hj:j=o
  ·subst hj;rw[List.getElem?_set_self sU] at hy;exact .inl (Option.some.inj hy).symm
  ·rw[List.getElem?_set_ne (Ne.symm hj)] at hy;exact .inr ⟨hj,hy⟩
 have far:∀{j:Nat} {z:aa} {u:Value} {b:Nat},j≠o->H[j]?=some z->bs[j]?=some u->Bk z u b->¬(S b\/Bk Y v b):=λhj hz hu hb q=>q.elim (hs.nw _ _ _ _ hz hu hb).2 λq=>hs.ap _ o _ _ _ v _ hj hz hu hH hv hb q;refine⟨⟨by rw[List.length_set];exact hs.len,?_,?_,?_,λb q=>⟨hlt b q,q.elim (λq=>(hs.s b q).2) λq=>.inr (hs.nw o _ v b hH hv q).1⟩,λb q=>.inl (hs.s0 b q),hs.os,hs.tape,hs.output,hs.size,hs.old,hs.an⟩,mO (hs.o o _ v hH hv) hx (λ_ h=>.inl h) λ_ h=>.inr h⟩
 ·intro j y u hy hu;rcases get hy with rfl|⟨hj,hz⟩
  ·exact trivial
  ·exact(hs.o j y u hz hu).keep (cj (Below.refl _ _) (Nat.le_refl _) none) (by simp) (af.refl _ _) (λ_ h=>.inl h) (λb q=>⟨hlt b q,λe=>far hj hz hu e q⟩) (eI.refl _)
 ·intro j k y y2 u v2 b hjk hy hu hz fW bp bQ;rcases get hy with rfl|⟨_,hz1⟩
  ·cases bp
  rcases get hz with rfl|⟨_,hz2⟩
  ·cases bQ
  exact hs.ap j k y y2 u v2 b hjk hz1 hu hz2 fW bp bQ
 ·intro j y u b hy hu hb;rcases get hy with rfl|⟨hj,hz1⟩
  ·cases hb
  exact⟨(hs.nw j y u b hz1 hu hb).1,far hj hz1 hu hb⟩
def gy (os:List Nat):List (Nat×aa):=os.map λo=>(o,.dead)
theorem rJ:∀(os:List Nat) {S:Nat->Prop} {H:List aa},HS cx bs w S H->∃S',(∀b,S b->S' b)/\HS cx bs w S' (er (gy os) H)/\∀o∈os,∀(y:aa) (x:AV) (v:Value),H[o]?=some y->ft y=some x->bs[o]?=some v->VR bs w S' x v
 | [],S,H,hs=>⟨S,λ_ h=>h,hs,λo ho=>by cases ho⟩
 | o::os,S,H,hs=>by
  have next:∀{S1:Nat->Prop},(∀b,S b->S1 b)->HS cx bs w S1 (H.set o .dead)->(∀(y:aa) (x:AV) (v:Value),H[o]?=some y->ft y=some x->bs[o]?=some v->VR bs w S1 x v)->∃S',(∀b,S b->S' b)/\HS cx bs w S' (er (gy (o::os)) H)/\∀o'∈o::os,∀(y:aa) (x:AV) (v:Value),H[o']?=some y->ft y=some x->bs[o']?=some v->VR bs w S' x v:=by
   intro S1 h1 h2 h3;obtain⟨S',q1,q2,q3⟩:=rJ os h2;refine⟨S',λb q=>q1 b (h1 b q),q2,λo' ho' y x v hH hx hv=>?_⟩;by_cases e2:o'=o
   ·subst e2;exact(h3 y x v hH hx hv).keep q1 (af.refl _ _) (eI.refl _)
   ·rcases List.mem_cons.1 ho' with e3|ho'
    ·exact absurd e3 e2
    ·exact q3 o' ho' y x v (by rw[List.getElem?_set_ne (Ne.symm e2)];exact hH) hx hv
  have mask:HS cx bs w S (H.set o .dead):=hs.mask (by rw[List.length_set]) λi x hx=>by
   by_cases e:o=i
   ·subst e;by_cases hl:o<H.length
    ·rw[List.getElem?_set_self hl] at hx;exact .inl (Option.some.inj hx).symm
    ·rw[List.getElem?_eq_none (by rw[List.length_set];omega)] at hx;cases hx
   ·rw[List.getElem?_set_ne e] at hx;exact .inr hx
  cases hY:(H[o]?).bind ft with
  | none=>exact next (λ_ h=>h) mask λy x v h h2=>by rw[h] at hY;rw[show ft y=none from hY] at h2;cases h2
  | some x=>
   obtain⟨Y,hH,hx⟩:=Option.bind_eq_some_iff.1 hY;have sU:o<bs.length:=by rw[hs.len];exact(List.getElem?_eq_some_iff.1 hH).1
   have hv:=List.getElem?_eq_getElem sU;obtain⟨k1,k2⟩:=PU hs hH hx hv;refine next (λ_ h=>.inl h) k1 λy' x' v' h1 h2 h3=>?_;rw[hH] at h1;obtain rfl:=Option.some.inj h1;rw[hx] at h2;obtain rfl:=Option.some.inj h2;rw[hv] at h3;obtain rfl:=Option.some.inj h3;exact k2
def sZ (H:List aa) (a:AV):AV:=match ii a with
 | some o=>((H[o]?).bind ft).getD a
 | none=>a
def nf (ps:List (Nat×List AV)):List Nat:=ps.flatMap λp=>p.2.filterMap ii
def JB (H:List aa) (ps:List (Nat×List AV)):List (Nat×List AV):=ps.map λp=>(p.1,p.2.map (sZ H))
end
section
variable {P:Program} {o:Oper} {cx:Cx} {bs aD:List Value} {w w':World} {S:Nat->Prop} {H:List aa} {m:Nat} {env:Env} {a:Act} {bg:Nat} {ty:TypeId->Option Ty} {K:Act->World->Prop} {Q:Exit->Act->World->Prop}
theorem Fh:1000000000000<=maxLen:=by unfold maxLen;decide
theorem Uv {kt:Kt} {y:Ty} {n n':Nat} {f f':kt.K->Option (El y)} {v:Value} {c:Nat} (h:Bk (.mp kt y n f) v c):Bk (.mp kt y n' f') v c:=by
 cases v with
 | map b=>cases b<;>exact h
 | _=>cases h
theorem CG {H:List aa} {cx:Cx} {bs:List Value} {w:World} {S:Nat->Prop} (h:HS cx bs w S H) (n:Nat):HS cx bs w S (H.set n .dead):=h.mask (by rw[List.length_set]) λi x hx=>by
 by_cases e:n=i
 ·subst e;by_cases hl:n<H.length
  ·rw[List.getElem?_set_self hl] at hx;exact .inl (Option.some.inj hx).symm
  ·rw[List.getElem?_eq_none (by rw[List.length_set];omega)] at hx;cases hx
 ·rw[List.getElem?_set_ne e] at hx;exact .inr hx
theorem Jz {t:TypeId} {mo x v:Operand} (hop:o.op=.mapUpdate t mo x v) (hd:o.dst=none) (hr:(Instr.mapUpdate t (a.eval mo) (a.eval x) (a.eval v)).run P w=.ok () w') (hK:K a w'):o.wp P a w K Q:=by
 unfold Oper.wp;simp[execOp,hop,hr,Result.andThen];show K (a.put o.dst undef) w';rw[hd];exact hK
theorem Ud {kt:Kt} {y:Ty} {f:kt.K->Option (El y)} {g:kt.K->Option Value} {k:kt.K} {z:El y} {u:Value} (h:∀k,ox w S (f k) (g k)) (hz:ak.rep (α:=El y) w S [u] z) (k':kt.K):ox w S (gU kt f k z k') (gU kt g k u k'):=by
 by_cases e:k'=k
 ·subst e;rw[dC,dC];exact⟨u,rfl,hz⟩
 ·rw[fQ e,fQ e];exact h k'
noncomputable def CH (l:List (Value×Value)) (k u:Value):List (Value×Value):=(k,u)::l.filter λp=>@decide (p.1≠k) (Classical.propDecidable _)
theorem zK {kt:Kt} {g:kt.K->Option Value} {l:List (Value×Value)} {k:kt.K} {u:Value} (h:∀k u,g k=some u↔(kt.val k,u)∈l) (k':kt.K) (u':Value):gU kt g k u k'=some u'↔(kt.val k',u')∈CH l (kt.val k) u:=by
 unfold CH;rw[List.mem_cons,List.mem_filter];by_cases e:k'=k
 ·subst e;rw[dC];constructor
  ·intro h;injection h with h;subst h;exact .inl rfl
  ·rintro(h|⟨_,h⟩)
   ·injection h with _ h;rw[h]
   ·exact absurd rfl (@of_decide_eq_true _ (Classical.propDecidable _) h)
 ·rw[fQ e,h];constructor
  ·intro h;exact .inr ⟨h,@decide_eq_true _ (Classical.propDecidable _) λe2=>e (Kt.val_inj e2)⟩
  ·rintro(h|⟨h,_⟩)
   ·injection h with h _;exact absurd (Kt.val_inj h) e
   ·exact h
theorem Di (hs:HS cx bs w S H) (he:ER m bs w S env a) (hP:Om P) {t:TypeId} {mo x v:Operand} (hop:o.op=.mapUpdate t mo x v) (hd:o.dst=none) (hn:H[bg]?=some .dead) (hb:bs[bg]?=some undef) {r:List (Nat×aa)×Option aa} (h:(Lu P ty bg H t (ev env mo) (ev env x) (ev env v)).hit r) (hK:∀w' aD,HS cx aD w' S (er (r.1++[(bg,r.2.getD .dead)]) H)->af S w w'->eI bs aD->(∀j,j≠bg->aD[j]?=bs[j]?)->K a w'):o.wp P a w K Q:=by
 obtain rfl:=hP.eq;have wB:∀b,S b->b<w.heap.size:=λb q=>(hs.s b q).1;unfold Lu at h;split at h
 ·rename_i mt ob c hm hbo ZE;obtain⟨e,hu,hz,L0,hz1,UM⟩:=yi hm;split at h
  ·rename_i k fU y' n f hk hH;split at h
   ·rename_i q z _ SD;obtain⟨q⟩:=q;injection q with q1 q2
    subst q1 q2;obtain⟨⟨mf,D5⟩,h⟩:=h;have h:(_,_)=r:=h;subst h;have Qt:=rK he hk;obtain⟨bp,_⟩:=aZ he hbo;obtain⟨bl,g,e1,hg,hf⟩:=hs.o ob _ _ hH bp;obtain⟨w',iP,VF,Mo⟩:=hg.store (u:=a.eval v) hu (Nat.lt_of_lt_of_le D5 Fh) mf;have hB:Bk (.mp mt.kt mt.y n f) (a.eval mo) bl:=by rw[e1];rfl
    have aV:af S w w':=af.of_row Mo λb q=>⟨wB b q,λe=>by injection e with e;subst e;exact(hs.nw _ _ _ _ hH bp hB).2 q⟩;have ew:ak.rep (α:=El mt.y) w' S [a.eval v] z:=ak.keep (jh SD (aZ he ZE)) (λ_ h=>h) aV;have rT:=hs.setB hH bp Mo (λc hc=>Option.some.inj hc▸hB) (y:=.mp mt.kt mt.y (n+1) (gU mt.kt f k z)) ⟨bl,_,e1,VF,Ud (λk=>(hf k).keep (λ_ h=>h) aV) ew⟩ (λc hc=>Uv hc);refine Jz hop hd (w':=w') (by rw[e1,Qt];exact iP) (hK w' bs (CG rT bg) aV (eI.refl _) λ_ _=>rfl)
   ·exact h.elim
  ·rename_i k q hk hH;split at h
   ·rename_i rr p fU t' e' n f k' hQ;split at h
    ·rename_i t2 e2 rs hR;split at h
     ·rename_i ub UW _ _;obtain⟨ub⟩:=ub;obtain⟨UW⟩:=UW;subst ub UW;split at h
      ·rename_i hc;obtain⟨rfl,rfl⟩:=hc;obtain⟨⟨mf,nI,D5⟩,h⟩:=h;have nI:k=k':=nI;subst nI;have h:(_,_)=r:=h;subst h;have Qt:=rK he hk;obtain⟨bp,bl0,e0⟩:=aZ he hbo;obtain⟨Mw,dh⟩:=aZ he ZE;have AB:q<bs.length:=by rw[hs.len];exact(List.getElem?_eq_some_iff.1 hQ).1
       have AK:=List.getElem?_eq_getElem AB;obtain⟨bl,l,g,e1,h1,h2,h3,h4,h5,h6⟩:=hs.o q _ _ hQ AK;rw[bp] at h1;injection h1 with h1
       obtain⟨w',iP,VF,Mo⟩:=h2.store (u:=a.eval v) hu (Nat.lt_of_lt_of_le D5 Fh) mf;have MJ:∀c,c=bl\/(∃(k1:mt.kt.K) (u:Value),k1≠k/\g k1=some u/\u.ownBlock=some c)->oz mt.kt (·=k) bs[q] c:=λc hc=>by
        rw[e1];exact⟨bl,l,rfl,hc.imp id λ⟨k1,u,q1,q2,q3⟩=>⟨k1,u,q1,(h3 k1 u).1 q2,q3⟩⟩
       have aV:af S w w':=af.of_row Mo λb qq=>⟨wB b qq,λe=>by injection e with e;subst e;exact(hs.nw _ _ _ _ hQ AK (MJ _ (.inl rfl))).2 qq⟩;have s1:=hs.setB hQ AK Mo (λc hc=>by injection hc with hc;subst hc;exact MJ _ (.inl rfl)) (y:=.dead) trivial (λ_ h=>by cases h);have uV:q≠rr:=λe=>by subst e;rw[hQ] at hR;cases hR
       have hqo:q≠p:=λe=>by subst e;rw[hQ] at hH;cases hH
       have DX:rr≠p:=λe=>by subst e;rw[hR] at hH;cases hH
       have J4:bg≠q:=λe=>by subst e;rw[hQ] at hn;cases hn
       have SF:bg≠rr:=λe=>by subst e;rw[hR] at hn;cases hn
       have It:bg≠p:=λe=>by subst e;rw[hH] at hn;cases hn
       have iw:Own (α:=El t2) w' S 0 e2 (a.eval v) rs.reverse:=s1.o rr (.row t2 e2 rs) _ (by rw[List.getElem?_set_ne uV];exact hR) Mw;have s2:=CG s1 rr;have s3:=s2.setB (i:=p) (x:=.mq q) (y:=.mq bg) (row:=none) (w':=w') (by rw[List.getElem?_set_ne DX,List.getElem?_set_ne hqo];exact hH) bp ⟨rfl,rfl,rfl,Nat.le_refl _,λ_ _ _=>rfl⟩ (λ_ h=>by cases h) ⟨bl0,e0⟩ (λ_ h=>by cases h);have hL:∀{i:Nat} {z:aa} {u:Value} {c:Nat},(((H.set q .dead).set rr .dead).set p (.mq bg))[i]?=some z->bs[i]?=some u->Bk z u c->i≠q/\i≠rr/\H[i]?=some z:=by
        intro i z u c hz hu hc;by_cases e1:i=p
        ·subst e1;rw[List.getElem?_set_self (by rw[List.length_set,List.length_set];exact(List.getElem?_eq_some_iff.1 hH).1)] at hz;obtain rfl:=Option.some.inj hz;cases hc
        ·rw[List.getElem?_set_ne (Ne.symm e1)] at hz;by_cases e2:i=rr
         ·subst e2;rw[List.getElem?_set_self (by rw[List.length_set];exact(List.getElem?_eq_some_iff.1 hR).1)] at hz;obtain rfl:=Option.some.inj hz;cases hc
         ·rw[List.getElem?_set_ne (Ne.symm e2)] at hz;by_cases e3:i=q
          ·subst e3;rw[List.getElem?_set_self (List.getElem?_eq_some_iff.1 hQ).1] at hz;obtain rfl:=Option.some.inj hz;cases hc
          ·rw[List.getElem?_set_ne (Ne.symm e3)] at hz;exact⟨e3,e2,hz⟩
       have SY:∀c,(a.eval v).ownBlock=some c->Bk (.row t2 e2 rs) (a.eval v) c:=λc hc=>hc;have far:∀{c c':Nat},(a.eval v).ownBlock=some c->oz mt.kt (·=k) bs[q] c'->c≠c':=λ{c c'} hc Ep e=>by
        subst e;exact hs.ap rr q _ _ _ _ c (Ne.symm uV) hR Mw hQ AK (SY c hc) Ep
       have rU:=zK (k:=k) (u:=a.eval v) h3;have J5:(((H.set q .dead).set rr .dead).set p (.mq bg))[bg]?=some .dead:=by
        rw[List.getElem?_set_ne (Ne.symm It),List.getElem?_set_ne (Ne.symm SF),List.getElem?_set_ne (Ne.symm J4)];exact hn
       have hg2:∀k1 u,k1≠k->gU mt.kt g k (a.eval v) k1=some u->g k1=some u:=λk1 u e q=>by rw[fQ e] at q;exact q
       have hg1:∀u,gU mt.kt g k (a.eval v) k=some u->u=a.eval v:=λu q=>by rw[dC] at q;exact(Option.some.inj q).symm
       have s4:=s3.fill (j:=bg) (x:=.mr p mt.kt t2 e2 (n+1) (gU mt.kt f k rs)) (v:=lD bl (CH l (mt.kt.val k) (a.eval v))) J5 hb rfl
        ⟨bl,_,gU mt.kt g k (a.eval v),rfl,by rw[List.getElem?_set_ne It,bp,h1],VF,rU,λk1 _=>by
         by_cases e:k1=k
         ·subst e;rw[dC,dC];exact⟨_,rfl,iw⟩
         ·rw[fQ e,fQ e];have:=h4 k1 e;cases hf:f k1 with
          | none=>rw[hf] at this;exact this
          | some xs=>
           rw[hf] at this;obtain⟨u,nG,cs,q1,q2,q3⟩:=this;refine⟨u,nG,cs,q1.kept Mo ?_,q2.keep (λ_ h=>h) aV,λc hc=>⟨Nat.lt_of_lt_of_le (q3 c hc).1 Mo.size,(q3 c hc).2⟩⟩;cases e3:u.ownBlock with
           | none=>exact .inl rfl
           | some c=>exact .inr λe4=>h6 k1 u nG (by rw[e3];exact e4),
         λk1 k2 u1 u2 c q1 q2 hne hc1 hc2=>by
          by_cases a1:k1=k
          ·subst a1;obtain rfl:=hg1 _ q1;exact far hc1 (MJ c (.inr ⟨k2,u2,Ne.symm hne,hg2 _ _ (Ne.symm hne) q2,hc2⟩)) rfl
          ·by_cases a2:k2=k
           ·subst a2;obtain rfl:=hg1 _ q2;exact far hc2 (MJ c (.inr ⟨k1,u1,a1,hg2 _ _ a1 q1,hc1⟩)) rfl
           ·exact h5 k1 k2 u1 u2 c (hg2 _ _ a1 q1) (hg2 _ _ a2 q2) hne hc1 hc2,
         λk1 u q1 hc=>by
          by_cases a1:k1=k
          ·subst a1;obtain rfl:=hg1 _ q1;exact far hc (MJ bl (.inl rfl)) rfl
          ·exact h6 k1 u (hg2 _ _ a1 q1) hc⟩
        (λc hc=>by
         have hcc:oz mt.kt (·=k) bs[q] c\/(a.eval v).ownBlock=some c:=by
          obtain⟨b',l',e2,hc⟩:=hc;obtain⟨rfl,rfl⟩:=gL e2;rcases hc with rfl|⟨k1,u,_,nG,hc⟩
          ·exact .inl (MJ _ (.inl rfl))
          ·have nG:=(rU k1 u).2 nG;by_cases a1:k1=k
           ·subst a1;obtain rfl:=hg1 _ nG;exact .inr hc
           ·exact .inl (MJ c (.inr ⟨k1,u,a1,hg2 _ _ a1 nG,hc⟩))
         rcases hcc with hcc|hcc
         ·refine⟨(hs.nw _ _ _ _ hQ AK hcc).1,(hs.nw _ _ _ _ hQ AK hcc).2,λi y u hy nG hc1=>?_⟩;obtain⟨i1,i2,i3⟩:=hL hy nG hc1;exact hs.ap i q _ _ _ _ c i1 i3 nG hQ AK hc1 hcc
         ·refine⟨(hs.nw _ _ _ _ hR Mw (SY c hcc)).1,(hs.nw _ _ _ _ hR Mw (SY c hcc)).2,λi y u hy nG hc1=>?_⟩;obtain⟨i1,i2,i3⟩:=hL hy nG hc1;exact hs.ap i rr _ _ _ _ c i2 i3 nG hR Mw hc1 (SY c hcc))
       refine Jz hop hd (w':=w') (by rw[h1,Qt];exact iP) (hK w' _ s4 aV (λi u hu kR=>?_) λj hj=>List.getElem?_set_ne (Ne.symm hj));rw[List.getElem?_set_ne (λe=>by subst e;rw[hb] at hu;obtain rfl:=Option.some.inj hu;cases kR)];exact hu
      ·exact h.elim
     ·exact h.elim
    ·exact h.elim
   ·exact h.elim
  ·exact h.elim
 ·exact h.elim
end
end Go.Proofs.YtichkplomldgiaaGreatDoor
