/- Grow Grow2 -/
import Derived.Test.YtjlhbfbdcfajfaaGreatDoorB23
import Derived.Test.YtjlhbfbdcfajfaaGreatDoorB01
import Derived.Test.YtjlhbfbdcfajfaaGreatDoorB09
namespace Go.Proofs.YtjlhbfbdcfajfaaGreatDoor
open Go Go.RowKit
def kH (n:Nat) (ops:Array Oper):Bool:=
 ops.size==n&&(List.range n).all fun i=>((ops[i]?).map fun o=>o.after.all fun e=>!Region.binds .any e||decide (e.on<i)).getD false
def waits (ops:Array Oper) (i j:Nat):Bool:=((ops[i]?).map fun o=>o.after.any fun e=>Region.binds .any e&&e.on==j).getD false
def jL (d:Nat→Bool) (i:Nat) (j:Nat):Bool:=if j=i then true else d j
theorem ft (d:Nat→Bool) (i:Nat):jL d i i=true:=if_pos rfl
theorem al (d:Nat→Bool) {i j:Nat} (h:j≠i):jL d i j=d j:=if_neg h
section
variable {P:Program} {ops:Array Oper} {Q:Exit→Act→World→Prop} {n:Nat}
theorem fF (h:kH n ops=true):ops.size=n:=by
 simp only[kH,Bool.and_eq_true,beq_iff_eq] at h;exact h.1
theorem vg (h:kH n ops=true) {i:Nat} {x:Oper} (hx:ops[i]?=some x):∀e∈x.after,Region.binds .any e=true→e.on<i:=by
 have hi:i<n:=by rw[←fF h];exact(Array.getElem?_eq_some_iff.1 hx).1
 simp only[kH,Bool.and_eq_true] at h;have:=List.all_eq_true.1 h.2 i (List.mem_range.2 hi);rw[hx] at this;simp only[Option.map_some,Option.getD_some,Array.all_eq_true_iff_forall_mem,Bool.or_eq_true,Bool.not_eq_true',decide_eq_true_eq] at this;exact fun e he hb=>(this e he).resolve_left (by simp[hb])
theorem G9 {listed:Array Bool} {i:Nat} (hi:i<listed.size):(fun j=>(listed.setIfInBounds i true).getD j false)=jL (fun j=>listed.getD j false) i:=by
 funext j
 unfold jL;by_cases h:j=i
 ·subst h;rw[if_pos rfl,Array.getD_eq_getD_getElem?,Array.getElem?_setIfInBounds_self_of_lt hi];rfl
 ·rw[if_neg h];exact getD_set_ne false (Ne.symm h)
theorem zM (Inv:(Nat→Bool)→Act→World→Prop) (hb:kH n ops=true) (bV:∀d a w i,i<n→Inv d a w→d i=false→(∀j,waits ops i j=true→d j=true)→wpOp P ops Q i (Inv (jL d i)) a w) (tD:∀d a w,Inv d a w→(∀i,i<n→d i=true)→Q .normal a w) : ∀(fuel:Nat) (listed:Array Bool) (a:Act) (w:World),listed.size=n→(List.range n).countP (fun i=>!listed.getD i false)≤fuel→Inv (fun j=>listed.getD j false) a w→wpAny P .any ops Q fuel listed a w:=by
 have bA:∀(listed:Array Bool),listed.size=n→Region.ready .any ops listed=[]→∀i,i<n→listed.getD i false=true:=by
  intro listed hs hr;have:∀m i,i<m→i<n→listed.getD i false=true:=by
   intro m;induction m with
   | zero=>intro i hi;omega
   | succ m ih=>
    intro i hi ed;by_cases hl:listed.getD i false=true
    ·exact hl
    ·exfalso
     have bn:i<ops.size:=by rw[fF hb];exact ed
     have:i∈Region.ready .any ops listed:=by
      refine mem_ready.2 ⟨?_,ops[i],Array.getElem?_eq_getElem bn,fun e he xU=>?_⟩
      ·rw[Array.getD_eq_getD_getElem?,Array.getElem?_eq_getElem (by omega)] at hl ⊢;simpa using hl
      ·have h1:=vg hb (Array.getElem?_eq_getElem bn) e he xU;exact ih _ (by omega) (by omega)
     rw[hr] at this;cases this
  exact fun i hi=>this (i+1) i (by omega) hi
 intro fuel;induction fuel with
 | zero=>
  intro listed a w hs hc hi;have hd:∀i,i<n→listed.getD i false=true:=by
   intro i ed;have:=List.countP_eq_zero.1 (Nat.le_zero.1 hc) i (List.mem_range.2 ed);simpa using this
  refine⟨?_,tD _ a w hi hd⟩;apply List.eq_nil_iff_forall_not_mem.2;intro j hj;obtain⟨h1,o,ho,_⟩:=mem_ready.1 hj;have hjn:j<n:=by rw[←fF hb];exact(Array.getElem?_eq_some_iff.1 ho).1
  have h2:=hd j hjn;rw[Array.getD_eq_getD_getElem?,Array.getElem?_eq_getElem (by omega)] at h1 h2;simp only[Option.getD_some] at h1 h2;rw[h1] at h2;cases h2
 | succ fuel ih=>
  intro listed a w hs hc hi;refine⟨fun h0=>tD _ a w hi (bA listed hs h0),fun i JF=>?_⟩;obtain⟨h1,o,ho,h2⟩:=mem_ready.1 JF;have ed:i<n:=by rw[←fF hb];exact(Array.getElem?_eq_some_iff.1 ho).1
  have h3:listed.getD i false=false:=by
   rw[Array.getD_eq_getD_getElem?,Array.getElem?_eq_getElem (by omega)] at h1 ⊢;simpa using h1
  have db:=bV _ a w i ed hi h3 (fun j hj=>by
   unfold waits at hj;rw[ho] at hj;simp only[Option.map_some,Option.getD_some] at hj;rw[←Array.any_toList,List.any_eq_true] at hj;obtain⟨e,he,hj⟩:=hj;have he:=Array.mem_toList_iff.1 he;simp only[Bool.and_eq_true,beq_iff_eq] at hj;rw[←hj.2];exact h2 e he hj.1)
  refine wpOp_mono (fun a' w' hI=>ih _ a' w' (by simpa using hs) ?_ ?_) db
  ·have h4:∀l:List Nat,l.Nodup→i∈l→l.countP (fun j=>!(listed.setIfInBounds i true).getD j false)+1=l.countP (fun j=>!listed.getD j false):=by
    intro l;induction l with
    | nil=>intro _ h;cases h
    | cons x l ih2=>
     intro Mf hmem;rw[List.nodup_cons] at Mf;have hf:=congrFun (G9 (listed:=listed) (i:=i) (by omega));by_cases hx:x=i
     ·subst hx;rw[List.countP_cons_of_neg (by rw[hf];simp[jL]),List.countP_cons_of_pos (by simp[h3])];have:l.countP (fun j=>!(listed.setIfInBounds x true).getD j false)=l.countP (fun j=>!listed.getD j false):=by
       apply List.countP_congr;intro j hj;rw[hf,al _ (fun h:j=x=>Mf.1 (by rw[←h];exact hj))]
      omega
     ·have hm:i∈l:=by
       rcases List.mem_cons.1 hmem with h|h
       ·exact absurd h.symm hx
       ·exact h
      have:=ih2 Mf.2 hm;rw[List.countP_cons,List.countP_cons,hf,al _ hx];omega
   have:=h4 (List.range n) List.nodup_range (List.mem_range.2 ed);omega
  ·rw[G9 (by omega)];exact hI
theorem mh {id:Nat} {a:Act} {w:World} (n:Nat) (Inv:(Nat→Bool)→Act→World→Prop) (hm:P.follows .mixedOrders=true) (hb:kH n ops=true) (h0:Inv (fun _=>false) a w.drew) (bV:∀d a w i,i<n→Inv d a w→d i=false→(∀j,waits ops i j=true→d j=true)→wpOp P ops Q i (Inv (jL d i)) a w) (tD:∀d a w,Inv d a w→(∀i,i<n→d i=true)→Q .normal a w):(Code.region id ops true).wp P Q a w:=by
 refine wp_region_any hm ?_;rw[fF hb];refine zM Inv hb bV tD n _ _ _ (by simp) ?_ ?_
 ·exact Nat.le_trans List.countP_le_length (by simp)
 ·have:(fun j=>(Array.replicate n false).getD j false)=fun _=>false:=by
   funext j
   rw[Array.getD_eq_getD_getElem?];by_cases h:j<n
   ·simp[h]
   ·rw[Array.getElem?_eq_none (by simp;omega)];rfl
  rw[this];exact h0
theorem C8 {id:Nat} {a:Act} {w:World} (n:Nat) (Inv:Act→(Nat→Bool)→Act→World→Prop) (hm:P.follows .mixedOrders=true) (hb:kH n ops=true) (h0:Inv a (fun _=>false) a w.drew) (bV:∀(Q':Exit→Act→World→Prop) (a0:Act) d a' w i,i<n→Inv a0 d a' w→d i=false→(∀j,waits ops i j=true→d j=true)→wpOp P ops Q' i (Inv a0 (jL d i)) a' w) (tD:∀d a' w,Inv a d a' w→(∀i,i<n→d i=true)→Q .normal a' w):(Code.region id ops true).wp P Q a w:=
 mh n (Inv a) hm hb h0 (bV Q a) tD
theorem sY {i:Nat} {o:Oper} {K:Act→World→Prop} {a:Act} {w:World} (ho:ops[i]?=some o) (hg:o.guard=none) (h:o.wp P a w K Q):wpOp P ops Q i K a w:=by
 unfold wpOp;rw[ho];have:Region.wanted o (yielded ops a.tmps)=true:=by simp[Region.wanted,hg]
 simp only[this,if_true];exact .inl h
theorem bB {i:Nat} {o:Oper} {K:Act→World→Prop} {a:Act} {w:World} (ho:ops[i]?=some o) (hg:o.guard=none) (h:∀K':Act→World→Prop,(∀a w,K a w→K' a w)→o.wp P a w K' Q):wpOp P ops Q i K a w:=
 sY ho hg (h K fun _ _ h=>h)
theorem eH {i:Nat} {o:Oper} {K:Act→World→Prop} {a:Act} {w w':World} (ho:ops[i]?=some o) (hg:o.guard=none) (v:Value) (hr:(execOp a.eval o).run P w=.ok (.value v) w') (h:K (a.put o.dst v) w'):wpOp P ops Q i K a w:=by
 refine sY ho hg ?_;unfold Oper.wp;rw[hr,Oper.upon_value];exact h
theorem wT {i:Nat} {o:Oper} {K:Act→World→Prop} {a:Act} {w:World} (ho:ops[i]?=some o) (hg:o.guard=none) (f:FuncId) (args:Array Value) (hr:(execOp a.eval o).run P w=.ok (.enter f args) w) {R:Ending→World→Prop} (hc:Calls P f args w R) (h:∀e w',R e w'→∃v,e=.returned v∧K (a.put o.dst v) w'):wpOp P ops Q i K a w:=by
 refine sY ho hg ?_;unfold Oper.wp;rw[hr,Oper.upon_enter];refine hc.mono fun e w' he=>?_;obtain⟨v,rfl,hk⟩:=h e w' he;exact hk
end
def gY (ops:Array Oper) (j:Nat):Option Nat:=(ops[j]?).bind (·.dst)
def Iy (ops:Array Oper) (n t:Nat):Bool:=(List.range n).all fun j=>!(gY ops j==some t)
def Ev (ops:Array Oper) (n size:Nat):Bool:=(List.range n).all fun j=>match gY ops j with|none=>true|some t=>decide (t<size)&&(List.range j).all fun k=>!(gY ops k==some t)
def Ul (ops:Array Oper) (n m:Nat):Bool:=(List.range m).all fun k=>decide (k<n)||(List.range k).all fun i=>reach ops i 9 k
section
variable {P:Program} {ops:Array Oper} {Q:Exit→Act→World→Prop} {n:Nat}
theorem Kw {t:Nat} (h:Iy ops n t=true) {j:Nat} (hj:j<n):gY ops j≠some t:=by
 have:=List.all_eq_true.1 h j (List.mem_range.2 hj);simpa using this
theorem xy {size:Nat} (h:Ev ops n size=true) {j t:Nat} (hj:j<n) (ht:gY ops j=some t):t<size∧∀k,k<j→gY ops k≠some t:=by
 have:=List.all_eq_true.1 h j (List.mem_range.2 hj);rw[ht] at this;simp only[Bool.and_eq_true,decide_eq_true_eq] at this;refine⟨this.1,fun k hk=>?_⟩;have:=List.all_eq_true.1 this.2 k (List.mem_range.2 hk);simpa using this
theorem Pu {size:Nat} (h:Ev ops n size=true) {j k:Nat} (hj:j<n) (hk:k<n) (dA:j≠k):∀d,gY ops j=some d→gY ops k≠some d:=by
 intro d hd hd2;rcases Nat.lt_or_ge j k with h1|h1
 ·exact(xy h hk hd2).2 j h1 hd
 ·exact(xy h hj hd).2 k (by omega) hd2
def nw (ops:Array Oper) (d:Nat→Bool) (vs:Nat→Value):Nat→Act→Act
 | 0,a=>a
 | m+1,a=>if d m=true then(nw ops d vs m a).put (gY ops m) (vs m) else nw ops d vs m a
theorem tj {d d':Nat→Bool} {vs vs':Nat→Value} {a:Act}:∀{m:Nat},(∀j,j<m→d j=d' j∧(d j=true→vs j=vs' j))→nw ops d vs m a=nw ops d' vs' m a
 | 0,_=>rfl
 | m+1,h=>by
  have ih:=tj (a:=a) (m:=m) fun j hj=>h j (by omega);obtain⟨h1,h2⟩:=h m (by omega);unfold nw;rw[ih,←h1];by_cases hd:d m=true
  ·rw[if_pos hd,if_pos hd,h2 hd]
  ·rw[if_neg hd,if_neg hd]
theorem Du {d:Nat→Bool} {vs:Nat→Value} {a:Act} {size:Nat} (rk:Ev ops n size=true) {i:Nat} {v:Value} (hi:d i=false):∀{m:Nat},m≤n→i<m→(nw ops d vs m a).put (gY ops i) v=nw ops (jL d i) (fun j=>if j=i then v else vs j) m a
 | 0,_,h=>absurd h (Nat.not_lt_zero _)
 | m+1,hm,him=>by
  by_cases e:i=m
  ·subst e;have hc:nw ops d vs i a=nw ops (jL d i) (fun j=>if j=i then v else vs j) i a:=tj fun j hj=>by
    have:j≠i:=by omega
    exact⟨(al d this).symm,fun _=>(if_neg this).symm⟩
   unfold nw;rw[if_neg (by rw[hi];simp),if_pos (ft d i),hc];simp
  ·have ih:=Du (vs:=vs) (a:=a) rk (v:=v) hi (m:=m) (by omega) (by omega);have xR:m≠i:=fun h=>e h.symm;unfold nw;rw[al d xR];by_cases hd:d m=true
   ·rw[if_pos hd,if_pos hd,if_neg xR,←ih];exact Act.put_comm _ _ _ (Pu rk (by omega) (by omega) xR)
   ·rw[if_neg hd,if_neg hd,←ih]
theorem qS {d:Nat→Bool} {vs:Nat→Value} {a:Act}:∀m,(nw ops d vs m a).defers=a.defers∧(nw ops d vs m a).tmps.size=a.tmps.size
 | 0=>⟨rfl,rfl⟩
 | m+1=>by
  obtain⟨h1,h2⟩:=qS (d:=d) (vs:=vs) (a:=a) m;unfold nw;split
  ·cases hd:gY ops m with
   | none=>exact⟨h1,h2⟩
   | some t=>exact⟨h1,by simpa[Act.put] using h2⟩
  ·exact⟨h1,h2⟩
theorem Dv {d:Nat→Bool} {vs:Nat→Value} {a:Act} {t:Nat} (h:Iy ops n t=true):∀{m:Nat},m≤n→(nw ops d vs m a).tmps[t]?=a.tmps[t]?
 | 0,_=>rfl
 | m+1,hm=>by
  have ih:=Dv (d:=d) (vs:=vs) (a:=a) h (m:=m) (by omega);unfold nw;split
  ·cases hd:gY ops m with
   | none=>exact ih
   | some s=>
    have dA:s≠t:=fun e=>Kw h (j:=m) (by omega) (by rw[hd,e]);simp only[Act.put];rw[Array.getElem?_setIfInBounds_ne dA];exact ih
  ·exact ih
theorem Dw {d:Nat→Bool} {vs:Nat→Value} {a:Act} (rk:Ev ops n a.tmps.size=true) {j t:Nat} (hd:d j=true) (ht:gY ops j=some t):∀{m:Nat},m≤n→j<m→(nw ops d vs m a).tmps[t]?=some (vs j)
 | 0,_,h=>absurd h (Nat.not_lt_zero _)
 | m+1,hm,hj=>by
  unfold nw;by_cases e:j=m
  ·subst e;rw[if_pos hd,ht];have bn:=(xy rk (by omega) ht).1;have lk:=(qS (ops:=ops) (d:=d) (vs:=vs) (a:=a) j).2;simp only[Act.put];rw[Array.getElem?_setIfInBounds_self_of_lt (by rw[lk];exact bn)]
  ·have ih:=Dw (vs:=vs) rk hd ht (m:=m) (by omega) (by omega);split
   ·cases xR:gY ops m with
    | none=>exact ih
    | some s=>
     have dA:s≠t:=fun h=>Pu rk (j:=m) (k:=j) (by omega) (by omega) (fun h=>e h.symm) s xR (by rw[ht,h]);simp only[Act.put];rw[Array.getElem?_setIfInBounds_ne dA];exact ih
   ·exact ih
def iD:List Oper→List Value→Act→Act
 | o::os,v::vs,a=>iD os vs (a.put o.dst v)
 | _,_,a=>a
theorem GB {o:Oper} {v:Value}:∀{os:List Oper} {vs:List Value} {a:Act},os.length=vs.length→iD (os++[o]) (vs++[v]) a=(iD os vs a).put o.dst v
 | [],[],a,_=>rfl
 | o'::os,v'::vs,a,h=>by
  simp only[List.cons_append,iD];exact GB (by simpa using h)
theorem It {vs:Nat→Value} {a:Act}:∀{m:Nat},m≤ops.size→iD (ops.toList.take m) ((List.range m).map vs) a=nw ops (fun _=>true) vs m a
 | 0,_=>by simp[iD,nw]
 | m+1,hm=>by
  have bn:m<ops.toList.length:=by simp;omega
  rw[List.take_add_one,List.getElem?_eq_getElem bn,List.range_succ,List.map_append];simp only[Option.toList_some,List.map_cons,List.map_nil];rw[GB (by simp;omega),It (by omega)];conv=>rhs;unfold nw
  rw[if_pos rfl];have:gY ops m=ops.toList[m].dst:=by
   unfold gY;rw[Array.getElem?_eq_getElem (by omega)];rfl
  rw[this]
def PD (ops:Array Oper) (n:Nat) (a a':Act):Prop:=a'.defers=a.defers∧∀t,Iy ops n t=true→a'.tmps[t]?=a.tmps[t]?
def Has (ops:Array Oper) (Φ:Nat→Value→(Nat→Nat)→World→Prop) (a':Act) (col:Nat→Nat) (w':World) (j:Nat):Prop:=∃v,(∀t,gY ops j=some t→a'.tmps[t]?=some v)∧Φ j v col w'
def tJ (col:Nat→Nat) (w':World) (i:Nat):Nat→Nat:=fun b=>if b<w'.heap.size then col b else i
def qI (ops:Array Oper) (Φ:Nat→Value→(Nat→Nat)→World→Prop) (i:Nat) (a':Act) (col:Nat→Nat) (w':World) (a'':Act) (Z6:World):Prop:=∃v,a''=a'.put (gY ops i) v∧Below w'.heap.size w' Z6∧Φ i v (tJ col w' i) Z6
theorem wZ {d:Nat→Bool} {i:Nat}:∀(f k:Nat),(∀j,waits ops k j=true→d j=true)→(∀k,d k=true→∀j,waits ops k j=true→d j=true)→reach ops i f k=true→d i=true:=by
 intro f;induction f with
 | zero=>intro k _ _ hr;cases hr
 | succ f ih=>
  intro k hk yQ hr;unfold reach at hr;cases hx:ops[k]? with
  | none=>rw[hx] at hr;cases hr
  | some x=>
   rw[hx] at hr;simp only[Array.any_eq_true,Bool.and_eq_true,Bool.or_eq_true,beq_iff_eq] at hr;obtain⟨q,hq,hb,hr⟩:=hr;have h1:=hk x.after[q].on (by
    unfold waits;rw[hx];simp only[Option.map_some,Option.getD_some,Array.any_eq_true,Bool.and_eq_true,beq_iff_eq];exact⟨q,hq,hb,rfl⟩)
   rcases hr with hr|hr
   ·rw[←hr];exact h1
   ·exact ih _ (yQ _ h1) yQ hr
theorem fE {col:Nat→Nat} {w:World} {i b:Nat} (h:b<w.heap.size):tJ col w i b=col b:=if_pos h
theorem nW {col:Nat→Nat} {w:World} {i b:Nat} (h:w.heap.size≤b):tJ col w i b=i:=if_neg (by omega)
def gd (P:Program) (ops:Array Oper) (Q:Exit→Act→World→Prop):Nat→Nat→Act→World→Prop
 | 0,_=>fun a w=>Q .normal a w
 | r+1,k=>wpOp P ops Q k (gd P ops Q r (k+1))
theorem xi {m k i:Nat} (h:Ul ops n m=true) (hk:k<m) (hn:n≤k) (hi:i<k):reach ops i 9 k=true:=by
 have:=List.all_eq_true.1 h k (List.mem_range.2 hk);simp only[Bool.or_eq_true,decide_eq_true_eq] at this;rcases this with h1|h1
 ·omega
 ·exact List.all_eq_true.1 h1 i (List.mem_range.2 hi)
theorem cf {id:Nat} {a:Act} {W:World} (n r:Nat) (Φ:Nat→Value→(Nat→Nat)→World→Prop) (hm:P.follows .mixedOrders=true) (hb:kH (n+(r+1)) ops=true) (sx:Ul ops n (n+(r+1))=true) (rk:Ev ops n a.tmps.size=true) (aiV:∀i v c1 w1 c2 w2,Φ i v c1 w1→Below w1.heap.size w1 w2→(∀b,b<w1.heap.size→c2 b=c1 b)→Φ i v c2 w2) (bV:∀(Q':Exit→Act→World→Prop) (i:Nat),i<n→∀a' col w',PD ops n a a'→Below W.heap.size W w'→(∀b,W.heap.size≤b→b<w'.heap.size→col b≠i)→(∀j,waits ops i j=true→Has ops Φ a' col w' j)→wpOp P ops Q' i (qI ops Φ i a' col w') a' w') (tD:∀(vs:List Value) col w',vs.length=n→Below W.heap.size W w'→(∀j v,vs[j]?=some v→Φ j v col w')→gd P ops Q (r+1) n (iD (ops.toList.take n) vs a) w') : (Code.region id ops true).wp P Q a W:=by
 have lk:=fF hb;refine mh (n+(r+1)) (fun d a' w'=>(∀i j,d i=true→waits ops i j=true→d j=true)∧ ((d n=true∧∃k s,n<k∧k+s=n+(r+1)∧(∀j,j<k→d j=true)∧(∀j,k≤j→d j=false)∧gd P ops Q s k a' w') ∨((∀j,n≤j→d j=false)∧Below W.heap.size W w'∧∃vs col,a'=nw ops d vs n a∧(∀b,W.heap.size≤b→b<w'.heap.size→d (col b)=true)∧∀j,j<n→d j=true→Φ j (vs j) col w'))) hm hb ?_ ?_ ?_
 ·refine⟨fun i j h=>by simp at h,.inr ⟨fun j _=>rfl,(Below.refl _ _).drew,fun _=>undef,fun _=>0,?_,fun b h1 h2=>absurd h2 (Nat.not_lt.2 h1),fun j _ h=>by simp at h⟩⟩;have:∀m,nw ops (fun _=>false) (fun _=>undef) m a=a:=by
   intro m;induction m with
   | zero=>rfl
   | succ m ih=>unfold nw;rw[if_neg (by simp),ih]
  exact(this n).symm
 ·intro d a' w' i hi hI CQ hw;obtain⟨yQ,hI⟩:=hI;have adO:∀k j,jL d i k=true→waits ops k j=true→jL d i j=true:=by
   intro k j hdk hkj;by_cases e:k=i
   ·subst e;have:=hw j hkj;by_cases e2:j=k
    ·subst e2;exact ft d j
    ·rw[al d e2];exact this
   ·rw[al d e] at hdk;have:=yQ k j hdk hkj;by_cases e2:j=i
    ·subst e2;exact ft d j
    ·rw[al d e2];exact this
  rcases hI with⟨Pq,k,s,hnk,xT,nR,yM,ht⟩|⟨yM,hB,vs,col,rfl,eN,hΦ⟩
  ·have YF:i=k:=by
    rcases Nat.lt_trichotomy i k with h|h|h
    ·rw[nR i h] at CQ;cases CQ
    ·exact h
    ·have h1:=wZ 9 i hw (fun q hq j=>yQ q j hq) (xi sx hi (by omega) h);rw[yM k (Nat.le_refl _)] at h1;cases h1
   subst YF;cases s with
   | zero=>omega
   | succ s=>
    refine wpOp_mono (fun a'' Z6 h=>⟨adO,.inl ⟨?_,i+1,s,by omega,by omega,fun j hj=>?_,fun j hj=>?_,h⟩⟩) ht
    ·rw[al d (show n≠i by omega)];exact Pq
    ·by_cases e:j=i
     ·subst e;exact ft d j
     ·rw[al d e];exact nR j (by omega)
    ·rw[al d (show j≠i by omega)];exact yM j (by omega)
  ·by_cases ed:n≤i
   ·have JI:i=n:=by
     rcases Nat.lt_or_ge n i with h|h
     ·have h1:=wZ 9 i hw (fun q hq j=>yQ q j hq) (xi sx hi ed h);rw[yM n (Nat.le_refl _)] at h1;cases h1
     ·omega
    subst JI;have bA:∀j,j<i→d j=true:=fun j hj=>wZ 9 i hw (fun k hk j=>yQ k j hk) (xi sx hi (Nat.le_refl _) hj);have he:nw ops d vs i a=iD (ops.toList.take i) ((List.range i).map vs) a:=by
     rw[It (by omega)];exact tj fun j hj=>⟨bA j hj,fun _=>rfl⟩
    rw[he];have ht:=tD ((List.range i).map vs) col w' (by simp) hB fun j v hv=>by
     have hj:j<i:=by
      have:=(List.getElem?_eq_some_iff.1 hv).1;simpa using this
     rw[List.getElem?_map,List.getElem?_range hj] at hv;injection hv with hv
     subst hv;exact hΦ j hj (bA j hj)
    refine wpOp_mono (fun a'' Z6 h=>⟨adO,.inl ⟨ft d i,i+1,r,by omega,by omega,fun j hj=>?_,fun j hj=>?_,h⟩⟩) ht
    ·by_cases e:j=i
     ·subst e;exact ft d j
     ·rw[al d e];exact bA j (by omega)
    ·rw[al d (show j≠i by omega)];exact yM j (by omega)
   ·have JI:i<n:=by omega
    refine wpOp_mono (fun a'' Z6 h=>?_) (bV Q i JI _ col w' ⟨(qS n).1,fun t ht=>Dv ht (Nat.le_refl _)⟩ hB (fun b h1 h2 e=>by have:=eN b h1 h2;rw[e,CQ] at this;cases this) fun j hj=>?_)
    ·obtain⟨v,rfl,bY,hv⟩:=h;refine⟨adO,.inr ⟨fun j hj=>by rw[al d (show j≠i by omega)];exact yM j hj,hB.trans (bY.mono hB.size),_,tJ col w' i,Du rk CQ (Nat.le_refl _) JI,fun b h1 h2=>?_,fun j hj hdj=>?_⟩⟩
     ·by_cases e:b<w'.heap.size
      ·rw[fE e];by_cases e2:col b=i
       ·rw[e2];exact ft d i
       ·rw[al d e2];exact eN b h1 e
      ·rw[nW (by omega)];exact ft d i
     by_cases e:j=i
     ·subst e;simp only[if_true];exact hv
     ·rw[al d e] at hdj;simp only[if_neg e];exact aiV j _ _ _ _ _ (hΦ j hj hdj) bY fun b hb=>if_pos hb
    ·have hdj:=hw j hj;have hjn:j<n:=by
      rcases Nat.lt_or_ge j n with h|h
      ·exact h
      ·rw[yM j h] at hdj;cases hdj
     exact⟨vs j,fun t ht=>Dw rk hdj ht (Nat.le_refl _) hjn,hΦ j hjn hdj⟩
 ·intro d a' w' hI bA;obtain⟨_,⟨_,k,s,hnk,xT,_,yM,ht⟩|⟨yM,_⟩⟩:=hI
  ·have:s=0:=by
    rcases Nat.eq_zero_or_pos s with h|h
    ·exact h
    ·have h1:=bA k (by omega);rw[yM k (Nat.le_refl _)] at h1;cases h1
   subst this;exact ht
  ·have h1:=bA n (by omega);rw[yM n (Nat.le_refl _)] at h1;cases h1
theorem aa {Φ:Nat→Value→(Nat→Nat)→World→Prop} {i:Nat} {o:Oper} {a:Act} {col:Nat→Nat} {w w':World} (ho:ops[i]?=some o) (hg:o.guard=none) (v:Value) (hr:(execOp a.eval o).run P w=.ok (.value v) w') (hb:Below w.heap.size w w') (h:Φ i v (tJ col w i) w'):wpOp P ops Q i (qI ops Φ i a col w) a w:=
 eH ho hg v hr ⟨v,by unfold gY;rw[ho];rfl,hb,h⟩
theorem aM {Φ:Nat→Value→(Nat→Nat)→World→Prop} {i:Nat} {o:Oper} {a:Act} {col:Nat→Nat} {w:World} (ho:ops[i]?=some o) (hg:o.guard=none) (f:FuncId) (args:Array Value) (hr:(execOp a.eval o).run P w=.ok (.enter f args) w) {R:Ending→World→Prop} (hc:Calls P f args w R) (h:∀e w',R e w'→∃v,e=.returned v∧Below w.heap.size w w'∧Φ i v (tJ col w i) w'):wpOp P ops Q i (qI ops Φ i a col w) a w:=by
 refine wT ho hg f args hr hc fun e w' he=>?_;obtain⟨v,rfl,hb,hv⟩:=h e w' he;exact⟨v,rfl,v,by unfold gY;rw[ho];rfl,hb,hv⟩
end
def RD (W:World) (k:Nat) (col:Nat→Nat) (w:World) (b:Nat):Prop:=W.heap.size≤b∧b<w.heap.size∧col b≠k
def ΦS {α:Type} [bG α] (W:World) (k:Nat) (x:α) (v:Value) (col:Nat→Nat) (w:World):Prop:=SV w (RD W k col w) v x
def ΦL {α:Type} [bG α] (W:World) (k:Nat) (xs:List α) (v:Value) (col:Nat→Nat) (w:World):Prop:=∃A n c,v=.slice A n c∧RS w (RD W k col w) A n c xs
def ΦV (u v:Value) (_:Nat→Nat) (_:World):Prop:=v=u
def ΦB (W:World) (k:Nat) (t:TypeId) (cs:Array Value) (v:Value) (col:Nat→Nat) (w:World):Prop:=∃g,v=.pointer (some ⟨g,0,none⟩)∧W.heap.size≤g∧col g=k∧aK w g t cs
def ΦR {α:Type} [bG α] (W:World) (k i:Nat) (t:TypeId) (xs:List α) (n:Nat) (v:Value) (col:Nat→Nat) (w:World):Prop:=
 ∃g cs,v=.slice (some ⟨g,0,none⟩) n n∧W.heap.size≤g∧col g=i∧aK w g t cs.toArray∧Flat w (fun b=>RD W k col w b∧col b≠i) cs xs∧n=xs.length∧∀u∈cs,u.oneCell'=true
section
variable {α:Type} [bG α] {W w1 w2:World} {k:Nat} {c1 c2:Nat→Nat} {v:Value}
theorem RD.mono (hs:w1.heap.size≤w2.heap.size) (hc:∀b,b<w1.heap.size→c2 b=c1 b):∀b,RD W k c1 w1 b→RD W k c2 w2 b:=fun b hb=>⟨hb.1,Nat.lt_of_lt_of_le hb.2.1 hs,by rw[hc b hb.2.1];exact hb.2.2⟩
theorem ΦS.mono {x:α} (h:ΦS W k x v c1 w1) (hb:Below w1.heap.size w1 w2) (hc:∀b,b<w1.heap.size→c2 b=c1 b):ΦS W k x v c2 w2:=SV.keep h (RD.mono hb.size hc) ((aD.of_below hb).sub fun _b hb=>hb.2.1)
theorem ΦL.mono {xs:List α} (h:ΦL W k xs v c1 w1) (hb:Below w1.heap.size w1 w2) (hc:∀b,b<w1.heap.size→c2 b=c1 b):ΦL W k xs v c2 w2:=by
 obtain⟨A,n,c,e,h⟩:=h;exact⟨A,n,c,e,h.keep (RD.mono hb.size hc) ((aD.of_below hb).sub fun b hb=>hb.2.1)⟩
theorem ΦB.mono {t:TypeId} {cs:Array Value} (h:ΦB W k t cs v c1 w1) (hb:Below w1.heap.size w1 w2) (hc:∀b,b<w1.heap.size→c2 b=c1 b):ΦB W k t cs v c2 w2:=by
 obtain⟨g,e,h1,h2,h3⟩:=h;exact⟨g,e,h1,by rw[hc g h3.lt];exact h2,h3.keep hb⟩
theorem ΦS.of_ret {x:α} {w w':World} {e:Ending} {i:Nat} {col:Nat→Nat} (h:gh w x e w') (hW:W.heap.size≤w.heap.size) (hi:i≠k):∃v,e=.returned v∧Below w.heap.size w w'∧ΦS W k x v (tJ col w i) w':=by
 obtain⟨v,rfl,hs,hb⟩:=h;exact⟨v,rfl,hb,hs.sub fun b hb=>⟨Nat.le_trans hW hb.1,hb.2,by rw[nW hb.1];exact hi⟩⟩
theorem ΦL.of_ret {xs:List α} {w w':World} {e:Ending} {i:Nat} {col:Nat→Nat} (h:Rt w xs e w') (hW:W.heap.size≤w.heap.size) (hi:i≠k):∃v,e=.returned v∧Below w.heap.size w w'∧ΦL W k xs v (tJ col w i) w':=by
 obtain⟨A,n,c,rfl,hs,hb⟩:=h;exact⟨_,rfl,hb,A,n,c,rfl,hs.sub fun b hb=>⟨Nat.le_trans hW hb.1,hb.2,by rw[nW hb.1];exact hi⟩⟩
theorem ΦV.of_ret {u:Value} {w w':World} {e:Ending} {i:Nat} {col:Nat→Nat} (h:gy w u e w'):∃v,e=.returned v∧Below w.heap.size w w'∧ΦV u v (tJ col w i) w':=⟨u,h.1,h.2,rfl⟩
theorem ΦL.built {xs:List α} {w:World} {i:Nat} {col:Nat→Nat} {cs:List Value} {t:TypeId} (hf:Flat w (RD W k col w) cs xs) {n:Nat} (hn:n=xs.length) (hm:n≤maxLen) (hW:W.heap.size≤w.heap.size) (hi:i≠k) : ΦL W k xs (.slice (some ⟨w.heap.size,0,none⟩) n n) (tJ col w i) (w.alloc (.cells cs.toArray t)):=by
 have hb:Below w.heap.size w (w.alloc (.cells cs.toArray t)):=(Below.refl _ _).alloc (Nat.le_refl _) _;refine⟨_,_,_,rfl,RS.of_blk (aK.new w t cs.toArray) (by simpa using hf.keep (RD.mono hb.size fun b hb=>fE hb) ((aD.of_below hb).sub fun b hb=>hb.2.1)) hn (Nat.le_refl _) hm ⟨hW,by simp,by rw[nW (Nat.le_refl _)];exact hi⟩⟩
theorem ΦB.made {w:World} {col:Nat→Nat} {t:TypeId} {cs:Array Value} (hW:W.heap.size≤w.heap.size):ΦB W k t cs (.pointer (some ⟨w.heap.size,0,none⟩)) (tJ col w k) (w.alloc (.cells cs t)):=
 ⟨w.heap.size,rfl,hW,nW (Nat.le_refl _),aK.new _ _ _⟩
theorem ΦR.mono {t:TypeId} {xs:List α} {n i:Nat} (h:ΦR W k i t xs n v c1 w1) (hb:Below w1.heap.size w1 w2) (hc:∀b,b<w1.heap.size→c2 b=c1 b):ΦR W k i t xs n v c2 w2:=by
 obtain⟨g,cs,e,h1,h2,h3,h4,h5,h6⟩:=h;refine⟨g,cs,e,h1,by rw[hc g h3.lt];exact h2,h3.keep hb,h4.keep (fun b bq=>⟨RD.mono hb.size hc b bq.1,?_⟩) ((aD.of_below hb).sub fun b bq=>bq.1.2.1),h5,h6⟩;rw[hc b bq.1.2.1];exact bq.2
theorem ΦR.built {xs:List α} {w:World} {i:Nat} {col:Nat→Nat} {cs:List Value} {t:TypeId} (hf:Flat w (RD W k col w) cs xs) (FY:∀b,RD W k col w b→col b≠i) {n:Nat} (hn:n=xs.length) (h1:∀u∈cs,u.oneCell'=true) (hW:W.heap.size≤w.heap.size) : ΦR W k i t xs n (.slice (some ⟨w.heap.size,0,none⟩) n n) (tJ col w i) (w.alloc (.cells cs.toArray t)):=by
 have hb:Below w.heap.size w (w.alloc (.cells cs.toArray t)):=(Below.refl _ _).alloc (Nat.le_refl _) _;refine⟨w.heap.size,cs,rfl,hW,nW (Nat.le_refl _),aK.new _ _ _,hf.keep (fun b bq=>⟨RD.mono hb.size (fun b hb=>fE hb) b bq,?_⟩) ((aD.of_below hb).sub fun b hb=>hb.2.1),hn,h1⟩;rw[fE bq.2.1];exact FY b bq
theorem tg {xs:List α} {w:World} {g n i:Nat} {col:Nat→Nat} {cs:List Value} {t:TypeId} (hW:W.heap.size≤g) (hcg:col g=i) (YF:i≠k) (hk:aK w g t cs.toArray) (hf:Flat w (fun b=>RD W k col w b∧col b≠i) cs xs) (hn:n=xs.length) (hm:n≤maxLen) : RS w (RD W k col w) (some ⟨g,0,none⟩) n n xs:=
 RS.of_blk hk (by simpa using hf.keep (S':=RD W k col w) (fun b hb=>hb.1) (aD.refl _ _)) hn (Nat.le_refl _) hm ⟨hW,hk.lt,by rw[hcg];exact YF⟩
theorem Ip {xs:List α} {w:World} {g n base:Nat} {S:Nat→Prop} {cs:List Value} {t:TypeId} (hg:base≤g) (hk:aK w g t cs.toArray) (hf:Flat w S cs xs) (hn:n=xs.length) (hm:n≤maxLen) (hS:∀b,S b→b<w.heap.size∧b≠g) : Own w S base t (.slice (some ⟨g,0,none⟩) n n) xs:=by
 refine⟨cs,⟨hf.length,.inr ⟨g,n,cs.toArray,by rw[hn],hg,hk,by omega,hm,by rw[List.size_toArray,hf.length,hn],?_⟩⟩,hf,fun b hb=>⟨(hS b hb).1,fun e=>(hS b hb).2 (by injection e)⟩⟩;rw[List.toList_toArray,←hf.length,List.take_length]
theorem iu {w:World} {g:Nat} {cs:List Value} {t:TypeId} (hk:aK w g t cs.toArray):eT w ⟨g,0,none⟩ cs:=by
 intro j u hj;have:(⟨g,0,none⟩:Addr).add j=⟨g,j,none⟩:=by unfold Addr.add;split<;>simp_all
 rw[this,hk.cell];simpa using hj
theorem aj {n:Nat} {l:List Value} (h:l.length=n+1):∃v m,l=v::m∧m.length=n:=by
 cases l with
 | nil=>cases h
 | cons v m=>exact⟨v,m,rfl,by simpa using h⟩
theorem aT (w:World) (o:Obj):Below w.heap.size w (w.alloc o):=(Below.refl _ _).alloc (Nat.le_refl _) _
end
end Go.Proofs.YtjlhbfbdcfajfaaGreatDoor
