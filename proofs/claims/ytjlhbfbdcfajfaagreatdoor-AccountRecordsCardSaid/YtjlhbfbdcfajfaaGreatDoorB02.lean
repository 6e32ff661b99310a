/- Lib2 Draw Lib3 Bits NatM -/
import Derived.Test.YtjlhbfbdcfajfaaGreatDoorB01
import Derived.Handy
import Derived.OrdersHeld
import Derived.RegionTactic
import Derived.Deep.RegionHeld
import Derived.Laws.OwnMore
import Derived.Laws.BitsAllLaws
import Derived.Laws.ShiftsVarLaws
import Derived.Laws.Shifts
namespace Go.Proofs.YtjlhbfbdcfajfaaGreatDoor
open Go.RowKit Go
theorem aD.setCell {S:Nat→Prop} {w w1:World} (h:aD S w w1) {p:Addr} (hp:¬S p.block) (u:Value):aD S w (w1.setCell p u):=
 fun q hq=>(World.cell?_setCell_other w1 p q u (fun e=>by subst e;exact hp hq)).trans (h q hq)
theorem aD.alloc {S:Nat→Prop} {w w1:World} (h:aD S w w1) (hS:∀b,S b→b<w1.heap.size) (o:Obj):aD S w (w1.alloc o):=
 fun q hq=>(World.cell?_alloc_lt w1 o q (hS _ hq)).trans (h q hq)
theorem aD.drew {S:Nat→Prop} {w w1:World} (h:aD S w w1):aD S w w1.drew:=h
theorem aD.drewN {S:Nat→Prop} {w w1:World} (h:aD S w w1) (n:Nat):aD S w (w1.drewN n):=h
section
variable {α:Type} [bG α] {w:World} {S:Nat→Prop}
inductive WR (w:World) (S:Nat→Prop):List Value→List α→Prop where
 | nil:WR w S [] []
 | cons {u:Value} {us:List Value} {x:α} {xs:List α}:bG.rep w S [u] x→WR w S us xs→WR w S (u::us) (x::xs)
theorem Flat.cons {ds cs:List Value} {x:α} {xs:List α} (hr:bG.rep w S ds x) (h:Flat w S cs xs):Flat w S (ds++cs) (x::xs):=by
 induction h with
 | nil=>have:=Flat.snoc (Flat.nil (w:=w) (S:=S)) hr;simpa using this
 | @snoc cs es xs y _ hy ih=>have:=Flat.snoc ih hy;simpa using this
theorem WR.flat {us:List Value} {xs:List α} (h:WR w S us xs):Flat w S us xs:=by
 induction h with
 | nil=>exact .nil
 | cons hr _ ih=>exact Flat.cons (ds:=[_]) hr ih
theorem RS.of_blk {g:Nat} {t:TypeId} {cs:Array Value} {xs:List α} {n c:Nat} (hb:aK w g t cs) (hf:Flat w S cs.toList xs) (hn:n=xs.length) (hc:n≤c) (hm:c≤maxLen) (hS:S g):RS w S (some ⟨g,0,none⟩) n c xs:=by
 refine⟨hn,hc,hm,fun _=>⟨g,0,rfl,hS,fun i x hi=>?_⟩⟩;obtain⟨ds,hr,hd⟩:=hf.get i x hi;refine⟨ds,hr,fun j u hj=>?_⟩;have h1:=hd j u hj;rw[lm];have:(⟨g,0,none⟩:Addr).add (i*bG.sz α+j)=⟨g,i*bG.sz α+j,none⟩:=by unfold Addr.add;split<;>simp_all
 rw[this,hb.cell];simpa using h1
end
theorem acu {P:Program} {f:FuncId} {args:Array Value} {R:Ending→World→Prop} {w:World} (h:∀w2,w2=w→Calls P f args w2 R):Calls P f args w R:=h w rfl
def setAll (w:World) (g:Nat):Nat→List Value→World
 | _,[]=>w
 | i,v::l=>setAll (w.setCell ⟨g,i,none⟩ v) g (i+1) l
theorem aK.setFrom {g:Nat} {t:TypeId}:∀(l:List Value) (i:Nat) (w:World) (cs:Array Value),aK w g t cs→cs.size=i+l.length→aK (setAll w g i l) g t (cs.toList.take i++l).toArray:=by
 intro l;induction l with
 | nil=>
  intro i w cs h hs;have:(cs.toList.take i++[]).toArray=cs:=by rw[List.append_nil,List.take_of_length_le (by simp at hs;simp;omega)]
  rw[this];exact h
 | cons v l ih=>
  intro i w cs h hs;simp only[List.length_cons] at hs;have:=ih (i+1) (w.setCell ⟨g,i,none⟩ v) (cs.setIfInBounds i v) (h.set_ i v) (by simp;omega);have e:(cs.setIfInBounds i v).toList.take (i+1)++l=cs.toList.take i++v::l:=by
   rw[Array.toList_setIfInBounds,List.take_set,List.take_add_one];have hi:i<cs.toList.length:=by simp;omega
   rw[List.getElem?_eq_getElem hi,List.set_append_right _ _ (by simp;omega)];simp[Nat.min_eq_left (Nat.le_of_lt (by simpa using hi))]
  rw[e] at this;exact this
theorem aK.setAll {g:Nat} {t:TypeId} {w:World} {cs:Array Value} (l:List Value) (h:aK w g t cs) (hs:cs.size=l.length):aK (setAll w g 0 l) g t l.toArray:=by
 have:=aK.setFrom l 0 w cs h (by omega);simpa using this
section
variable {α:Type} [bG α] {w w':World} {S S':Nat→Prop} {base:Nat} {e:TypeId} {v:Value} {xs:List α}
theorem Own.widen (h:Own w S base e v xs) (hS:∀b,S b→S' b) (hA:∀b,S' b→b<w.heap.size∧some b≠v.ownBlock):Own w S' base e v xs:=by
 obtain⟨cs,h1,h2,_⟩:=h;exact⟨cs,h1,h2.keep hS (aD.refl _ _),hA⟩
theorem Own.apart (h:Own w S base e v xs):∀b,S b→b<w.heap.size∧some b≠v.ownBlock:=by
 obtain⟨_,_,_,h3⟩:=h;exact h3
end
def idle (n:Nat) (o:Oper):Oper:={ o with op:=.move (.const undef),dst:=none,guard:=some (n,true) }
def rI (n:Nat) (ops:Array Oper):Bool:=
 ops.size==n+1&&
 (List.range n).all (fun i=>((ops[n]?).map fun o=>o.after.any fun e=>Region.binds .any e&&e.on==i).getD false)&&
 (List.range (n+1)).all (fun i=>((ops[i]?).map fun o=>(o.after.all fun e=>!Region.binds .any e||e.on<i)&&(match o.guard with|some (j,_)=>decide (j<n)|none=>true)).getD false)
def rX (P:Program) (ops:Array Oper) (n:Nat) (Q:Exit→Act→World→Prop):Exit→Act→World→Prop
 | .normal,a,w=>wpOp P ops Q n (fun a w=>Q .normal a w) a w
 | e,a,w=>Q e a w
section
variable {P:Program} {ops:Array Oper} {Q:Exit→Act→World→Prop} {n:Nat} {o:Oper}
theorem qZ (h:rI n ops=true):ops.size=n+1:=by
 simp only[rI,Bool.and_eq_true,beq_iff_eq] at h;exact h.1.1
theorem IE (h:rI n ops=true) (ho:ops[n]?=some o) {i:Nat} (hi:i<n):∃e∈o.after,Region.binds .any e=true∧e.on=i:=by
 simp only[rI,Bool.and_eq_true] at h;have:=List.all_eq_true.1 h.1.2 i (List.mem_range.2 hi);rw[ho] at this;simp at this;obtain⟨k,hk,h1,h2⟩:=this;exact⟨_,Array.getElem_mem hk,h1,h2⟩
theorem rc (h:rI n ops=true) {i:Nat} {x:Oper} (hx:ops[i]?=some x):(∀e∈x.after,Region.binds .any e=true→e.on<i)∧∀j b,x.guard=some (j,b)→j<n:=by
 have hi:i<n+1:=by rw[←qZ h];exact(Array.getElem?_eq_some_iff.1 hx).1
 simp only[rI,Bool.and_eq_true] at h;have:=List.all_eq_true.1 h.2 i (List.mem_range.2 hi);rw[hx] at this;simp only[Option.map_some,Option.getD_some,Bool.and_eq_true,Array.all_eq_true_iff_forall_mem,Bool.or_eq_true,Bool.not_eq_true',decide_eq_true_eq] at this;refine⟨fun e he hb=>(this.1 e he).resolve_left (by simp[hb]),fun j b hg=>?_⟩;have h2:=this.2;rw[hg] at h2;simpa using h2
theorem oD (ho:ops[n]?=some o) (listed:Array Bool) (j:Nat):j∈Region.ready .any (ops.setIfInBounds n (idle n o)) listed↔j∈Region.ready .any ops listed:=by
 rw[mem_ready,mem_ready];by_cases hj:n=j
 ·subst hj;have bn:n<ops.size:=(Array.getElem?_eq_some_iff.1 ho).1;rw[Array.getElem?_setIfInBounds_self_of_lt bn,ho];simp[idle]
 ·rw[Array.getElem?_setIfInBounds_ne hj]
theorem xY {j:Nat} (tmps:Array Value) (hj:n≠j) (x:Oper):yielded (ops.setIfInBounds n x) tmps j=yielded ops tmps j:=by
 unfold yielded;rw[Array.getElem?_setIfInBounds_ne hj]
theorem uz (h:rI n ops=true) {i:Nat} {x y:Oper} (hx:ops[i]?=some x) (tmps:Array Value):Region.wanted x (yielded (ops.setIfInBounds n y) tmps)=Region.wanted x (yielded ops tmps):=by
 unfold Region.wanted;cases hg:x.guard with
 | none=>rfl
 | some g=>
  obtain⟨j,b⟩:=g;have:=(rc h hx).2 j b hg;simp only[];rw[xY tmps (by omega)]
theorem Bh {x:Oper} {a:Act} {K:Act→World→Prop} {r:Result Next} (h:x.upon P a K (rX P ops n Q) r):x.upon P a K Q r:=by
 cases r with
 | ok nx w'=>
  cases nx with
  | enter f args=>exact h
  | _=>exact h
 | halt v w'=>cases v<;>exact h
theorem MA (h:rI n ops=true) (ho:ops[n]?=some o):∀(fuel:Nat) (listed:Array Bool) (a:Act) (w:World),listed.size=n+1→listed.getD n true=false→ wpAny P .any (ops.setIfInBounds n (idle n o)) (rX P ops n Q) fuel listed a w→wpAny P .any ops Q fuel listed a w:=by
 have bn:n<ops.size:=(Array.getElem?_eq_some_iff.1 ho).1;have wL:∀(listed:Array Bool),listed.size=n+1→listed.getD n true=false→Region.ready .any ops listed≠[]:=by
  intro listed hs hn;have:∀m,m≤n→(∀j,j<m→listed.getD j false=true)∨∃i,i∈Region.ready .any ops listed:=by
   intro m;induction m with
   | zero=>intro _;exact .inl (fun j hj=>by omega)
   | succ m ih=>
    intro hm;rcases ih (by omega) with h1|h1
    ·by_cases hl:listed.getD m true=false
     ·right
      refine⟨m,mem_ready.2 ⟨hl,ops[m]'(by omega),Array.getElem?_eq_getElem (by omega),fun e he hb=>h1 _ ?_⟩⟩;exact(rc h (Array.getElem?_eq_getElem (by omega))).1 e he hb
     ·left
      intro j hj;rcases(show j<m∨j=m by omega) with h2|rfl
      ·exact h1 j h2
      ·have:j<listed.size:=by omega
       simpa[this] using hl
    ·exact .inr h1
  rcases this n (Nat.le_refl _) with h1|⟨i,hi⟩
  ·have:n∈Region.ready .any ops listed:=mem_ready.2 ⟨hn,o,ho,fun e he hb=>h1 _ ((rc h ho).1 e he hb)⟩;intro h2;rw[h2] at this;cases this
  ·intro h2;rw[h2] at hi;cases hi
 have D7:∀listed,Region.ready .any (ops.setIfInBounds n (idle n o)) listed=[]↔Region.ready .any ops listed=[]:=by
  intro listed;constructor
  ·intro h1;apply List.eq_nil_iff_forall_not_mem.2;intro j hj;have:=(oD ho listed j).2 hj;rw[h1] at this;cases this
  ·intro h1;apply List.eq_nil_iff_forall_not_mem.2;intro j hj;have:=(oD ho listed j).1 hj;rw[h1] at this;cases this
 intro fuel;induction fuel with
 | zero=>
  intro listed a w hs hn hw;exact absurd ((D7 listed).1 hw.1) (wL listed hs hn)
 | succ fuel ih=>
  intro listed a w hs hn hw;refine⟨fun h0=>absurd h0 (wL listed hs hn),fun i hi=>?_⟩;have h1:=hw.2 i ((oD ho listed i).2 hi);by_cases ed:n=i
  ·subst ed;unfold wpOp at h1;rw[Array.getElem?_setIfInBounds_self_of_lt bn] at h1;have hnw:Region.wanted (idle n o) (yielded (ops.setIfInBounds n (idle n o)) a.tmps)=false:=by
    have:yielded (ops.setIfInBounds n (idle n o)) a.tmps n=none:=by
     unfold yielded;rw[Array.getElem?_setIfInBounds_self_of_lt bn];rfl
    unfold Region.wanted;show(yielded (ops.setIfInBounds n (idle n o)) a.tmps n==some true)=false;rw[this];rfl
   simp only[hnw,Bool.false_eq_true,if_false] at h1;have bA:Region.ready .any ops (listed.setIfInBounds n true)=[]:=by
    apply List.eq_nil_iff_forall_not_mem.2;intro j hj;obtain⟨h2,x,hx,_⟩:=mem_ready.1 hj;have hjn:j<n+1:=by rw[←qZ h];exact(Array.getElem?_eq_some_iff.1 hx).1
    rcases(show j<n∨j=n by omega) with h3|rfl
    ·obtain⟨e,he,hb,heo⟩:=IE h ho h3;obtain⟨_,y,hy,hya⟩:=mem_ready.1 hi;rw[ho] at hy;injection hy with hy
     subst hy;have h4:=hya e he hb;rw[heo] at h4;have h5:=getD_set_true (i:=n) h4;have Sw:j<(listed.setIfInBounds n true).size:=by simp;omega
     rw[Array.getD_eq_getD_getElem?,Array.getElem?_eq_getElem Sw] at h2 h5;simp only[Option.getD_some] at h2 h5;rw[h2] at h5;cases h5
    ·rw[Array.getD_eq_getD_getElem?,Array.getElem?_setIfInBounds_self_of_lt (by omega)] at h2;cases h2
   have hq:rX P ops n Q .normal a w:=by
    have Vq:=(D7 _).2 bA;cases fuel with
    | zero=>exact h1.2
    | succ fuel=>exact h1.1 Vq
   exact wpOp_mono (fun a' w' hQ=>wpAny_done bA hQ fuel) hq
  ·have Yt:(listed.setIfInBounds i true).getD n true=false:=by rw[getD_set_ne true (Ne.symm ed)];exact hn
   have h2:wpOp P (ops.setIfInBounds n (idle n o)) (rX P ops n Q) i (wpAny P .any ops Q fuel (listed.setIfInBounds i true)) a w:=
    wpOp_mono (fun a' w' hh=>ih _ a' w' (by simpa using hs) Yt hh) h1
   unfold wpOp at h2 ⊢;rw[Array.getElem?_setIfInBounds_ne ed] at h2;cases hx:ops[i]? with
   | none=>rw[hx] at h2;exact h2
   | some x=>
    rw[hx] at h2;simp only[] at h2 ⊢;rw[uz h hx] at h2;split
    ·rename_i Nw;rw[if_pos Nw] at h2;rcases h2 with h2|h2
     ·exact .inl (Bh h2)
     ·exact .inr h2
    ·rename_i Nw;rw[if_neg Nw] at h2;exact h2
theorem BM {x:Oper} {a:Act} {K:Act→World→Prop} {r:Result Next} (h:x.upon P a K Q r):x.upon P a K (rX P ops n Q) r:=by
 cases r with
 | ok nx w'=>
  cases nx with
  | enter f args=>exact h
  | _=>exact h
 | halt v w'=>cases v<;>exact h
def pU (ops:Array Oper) (n:Nat):List (Nat×Bool)→Array Bool→Bool
 | [],listed=>Region.ready .any ops listed==[n]
 | (i,r)::l,listed=>i !=n&&(if r then(Region.ready .any ops listed).contains i&&Region.free .any ops listed i else Region.ready .any ops listed==[i])&&pU ops n l (listed.setIfInBounds i true)
def tf (P:Program) (ops:Array Oper) (Q:Exit→Act→World→Prop) (S:World→Prop) (n:Nat):List (Nat×Bool)→Act→World→Prop
 | [],a,w=>wpOp P ops Q n (fun a w=>Q .normal a w) a w
 | (i,r)::l,a,w=>match ops[i]? with
  | none=>False
  | some o=>if r=true then∃v,YieldsIf P ops S o v a∧tf P ops Q S n l (a.put o.dst v) w else wpOp P ops Q i (fun a' w'=>S w'∧tf P ops Q S n l a' w') a w
theorem C9 {S:World→Prop} (h:rI n ops=true) (ho:ops[n]?=some o) (NA:Region.noSelect (ops.setIfInBounds n (idle n o))=true) (hQ:∀c a d v w,Q (.panic c) (Act.put a d v) w→Q (.panic c) a w) : ∀(l:List (Nat×Bool)) (fuel:Nat) (listed:Array Bool) (a:Act) (w:World),l.length<fuel→pU (ops.setIfInBounds n (idle n o)) n l listed=true→S w→ tf P ops Q S n l a w→wpAnyH P .any (ops.setIfInBounds n (idle n o)) (rX P ops n Q) S fuel listed a w:=by
 have bn:n<ops.size:=(Array.getElem?_eq_some_iff.1 ho).1;intro l;induction l with
 | nil=>
  intro fuel listed a w hf lZ hS hs;obtain⟨fuel,rfl⟩:∃f,fuel=f+1:=⟨fuel-1,by simp at hf;omega⟩;have hr:Region.ready .any (ops.setIfInBounds n (idle n o)) listed=[n]:=by simpa[pU] using lZ
  refine wpAnyH_all hr (by simp) fun i hi=>?_;simp at hi;subst hi;unfold wpOp;rw[Array.getElem?_setIfInBounds_self_of_lt bn];have hnw:Region.wanted (idle i o) (yielded (ops.setIfInBounds i (idle i o)) a.tmps)=false:=by
   have:yielded (ops.setIfInBounds i (idle i o)) a.tmps i=none:=by
    unfold yielded;rw[Array.getElem?_setIfInBounds_self_of_lt bn];rfl
   unfold Region.wanted;show(yielded (ops.setIfInBounds i (idle i o)) a.tmps i==some true)=false;rw[this];rfl
  simp only[hnw,Bool.false_eq_true,if_false];refine⟨hS,wpAnyH_done ?_ hs fuel⟩;apply List.eq_nil_iff_forall_not_mem.2;intro j hj;obtain⟨h1,x,hx,bA⟩:=mem_ready.1 hj;by_cases NT:j=i
  ·subst NT;have h0:j∈Region.ready .any (ops.setIfInBounds j (idle j o)) listed:=by rw[hr];simp
   have h2:=(mem_ready.1 h0).1;have Sw:j<listed.size:=by
    rcases Nat.lt_or_ge j listed.size with h'|h'
    ·exact h'
    ·rw[Array.getD_eq_getD_getElem?,Array.getElem?_eq_none h'] at h2;cases h2
   rw[Array.getD_eq_getD_getElem?,Array.getElem?_setIfInBounds_self_of_lt Sw] at h1;cases h1
  ·rw[getD_set_ne true (Ne.symm NT)] at h1;have hx':ops[j]?=some x:=by rw[Array.getElem?_setIfInBounds_ne (Ne.symm NT)] at hx;exact hx
   have hjn:j<i+1:=by rw[←qZ h];exact(Array.getElem?_eq_some_iff.1 hx').1
   have hj2:j∈Region.ready .any (ops.setIfInBounds i (idle i o)) listed:=by
    refine mem_ready.2 ⟨h1,x,hx,fun e he hb=>?_⟩;have h3:=bA e he hb;have h4:=(rc h hx').1 e he hb;rw[getD_set_ne false (by omega)] at h3;exact h3
   rw[hr] at hj2;simp at hj2;exact NT hj2
 | cons p l ih=>
  obtain⟨i,r⟩:=p;intro fuel listed a w hf lZ hS hs;obtain⟨fuel,rfl⟩:∃f,fuel=f+1:=⟨fuel-1,by simp at hf;omega⟩;simp only[pU,Bool.and_eq_true,bne_iff_ne] at lZ;obtain⟨⟨ed,bV⟩,uQ⟩:=lZ;simp only[tf] at hs;cases hx:ops[i]? with
  | none=>rw[hx] at hs;exact hs.elim
  | some x=>
   rw[hx] at hs;have hx':(ops.setIfInBounds n (idle n o))[i]?=some x:=by rw[Array.getElem?_setIfInBounds_ne (Ne.symm ed)];exact hx
   cases r with
   | true=>
    simp only[if_true,Bool.and_eq_true] at bV hs;obtain⟨v,hy,hs⟩:=hs;refine wpAnyH_take hx' NA bV.2 bV.1 (fun c a w hq=>hQ c a x.dst v w hq) ?_ hS (ih fuel _ _ _ (by simp at hf;omega) uQ hS hs);unfold YieldsIf at hy ⊢;rw[uz h hx];exact hy
   | false=>
    simp only[Bool.false_eq_true,if_false,beq_iff_eq] at bV hs;refine wpAnyH_all bV (by simp) fun j hj=>?_;simp at hj;subst hj;unfold wpOp at hs ⊢;rw[hx] at hs;rw[hx'];simp only[] at hs ⊢;rw[uz h hx];split
    ·rename_i Nw;rw[if_pos Nw] at hs;rcases hs with hs|hs
     ·refine .inl (Oper.wp_mono (K:=fun a' w'=>S w'∧tf P ops Q S n l a' w') (fun a' w' hh=>⟨hh.1,ih fuel _ a' w' (by simp at hf;omega) uQ hh.1 hh.2⟩) ?_);exact BM hs
     ·exact .inr hs
    ·rename_i Nw;rw[if_neg Nw] at hs;exact⟨hs.1,ih fuel _ _ _ (by simp at hf;omega) uQ hs.1 hs.2⟩
theorem oX {id:Nat} {a:Act} {w:World} (S:World→Prop) (n:Nat) (l:List (Nat×Bool)) (hm:P.follows .mixedOrders=true) (ho:ops[n]?=some o) (h:rI n ops=true) (NA:Region.noSelect (ops.setIfInBounds n (idle n o))=true) (hl:(pU (ops.setIfInBounds n (idle n o)) n l (Array.replicate (n+1) false)&&l.length==n)=true) (hQ:∀c a d v w,Q (.panic c) (Act.put a d v) w→Q (.panic c) a w) (hS:S w.drew) (hs:tf P ops Q S n l a w.drew):(Code.region id ops true).wp P Q a w:=by
 simp only[Bool.and_eq_true,beq_iff_eq] at hl;refine wp_region_any hm ?_;rw[qZ h];exact MA h ho _ _ _ _ (by simp) (by simp) (wpAny_of_held _ _ _ _ (C9 h ho NA hQ l _ _ _ _ (by omega) hl.1 hS hs))
theorem bh {S:World→Prop} {i:Nat} {l:List (Nat×Bool)} {x:Oper} {a:Act} {w:World} {v:Value} (hx:ops[i]?=some x) (hg:x.guard=none) (hy:∀w,S w→(execOp a.eval x).run P w=.ok (.value v) w) (h:tf P ops Q S n l (a.put x.dst v) w):tf P ops Q S n ((i,true)::l) a w:=by
 simp only[tf,hx,if_true];exact⟨v,.inl ⟨by simp[Region.wanted,hg],hy⟩,h⟩
theorem fB {S:World→Prop} {i:Nat} {l:List (Nat×Bool)} {x:Oper} {a:Act} {w:World} (hx:ops[i]?=some x) (h:∀K:Act→World→Prop,(∀a w,S w→tf P ops Q S n l a w→K a w)→if Region.wanted x (yielded ops a.tmps)=true then Oper.wp P x a w K Q else K (a.put x.dst undef) w):tf P ops Q S n ((i,false)::l) a w:=by
 simp only[tf,hx,Bool.false_eq_true,if_false];exact wpOp_step hx fun K hK=>h K fun a w hS hs=>hK a w ⟨hS,hs⟩
theorem P0 {S:World→Prop} {x:Oper} {a:Act} {w:World} (hx:ops[n]?=some x) (h:∀K:Act→World→Prop,(∀a w,Q .normal a w→K a w)→if Region.wanted x (yielded ops a.tmps)=true then Oper.wp P x a w K Q else K (a.put x.dst undef) w):tf P ops Q S n [] a w:=by
 simp only[tf];exact wpOp_step hx fun K hK=>h K hK
end
section
variable {α:Type} [bG α] {w w':World} {S S':Nat→Prop} {base:Nat} {e:TypeId} {v:Value} {xs:List α}
theorem Flat.set1 (lk:bG.sz α=1) {cs:List Value} (h:Flat w S cs xs) {k:Nat} {u:Value} {x:α} (hr:bG.rep w S [u] x):Flat w S (cs.set k u) (xs.set k x):=by
 induction h with
 | nil=>exact .nil
 | @snoc cs ds xs y hf hy ih=>
  have hl:=hf.length;have hd:=bG.len hy;rw[lk] at hl hd;rcases Nat.lt_trichotomy k xs.length with hk|hk|hk
  ·rw[List.set_append_left _ _ (by omega),List.set_append_left _ _ hk];exact .snoc ih hy
  ·obtain⟨d,rfl⟩:=List.length_eq_one_iff.1 hd;rw[List.set_append_right _ _ (by omega),List.set_append_right _ _ (by omega)];have e1:k-cs.length=0:=by omega
   have e2:k-xs.length=0:=by omega
   rw[e1,e2];exact .snoc hf hr
  ·rw[List.set_eq_of_length_le (by rw[List.length_append,hd,hl];omega),List.set_eq_of_length_le (by simp;omega)];exact .snoc hf hy
theorem Own.get1 {A:Option Addr} {n c:Nat} (lk:bG.sz α=1) (h:Own w S base e (.slice A n c) xs) {k:Nat} {x:α} (hx:xs[k]?=some x):∃g u,A=some ⟨g,0,none⟩∧base≤g∧g<w.heap.size∧bG.rep w S [u] x∧w.cell? ⟨g,k,none⟩=some u∧w.frozen? ⟨g,k,none⟩=false:=by
 have bn:=h.lt;obtain⟨A',n',c',hv,hn⟩:=h.slice;injection hv with _ GY _
 subst GY;have hk:=eP hx;obtain⟨cs,h1,h2,h3⟩:=h;have SB:=h1;obtain⟨hl,h4⟩:=SB;rcases h4 with⟨hv,GU⟩|⟨g,cap,SE,hv,nT,hh,hnc,Xm,ajC⟩
 ·injection hv with _ h5;omega
 ·injection hv with h5 h6 h7
  subst h5;obtain⟨ds,hr,hd⟩:=h2.get k x hx;have hdl:=bG.len hr;rw[lk] at hdl;obtain⟨u,rfl⟩:=List.length_eq_one_iff.1 hdl;have:=hd 0 u rfl;rw[lk] at this;have ef:=h1.cells (g:=g) rfl _ _ this;have e2:(⟨g,0,none⟩:Addr).add (k*1+0)=⟨g,k,none⟩:=by
   unfold Addr.add;split
   ·rename_i h;have:k=0:=by omega
    subst this;rfl
   ·simp
  rw[e2] at ef;refine⟨g,u,rfl,(bn g rfl).1,(bn g rfl).2,hr,ef,?_⟩;simp[World.frozen?,hh]
theorem Own.stored {g n c:Nat} (lk:bG.sz α=1) (h:Own w S base e (.slice (some ⟨g,0,none⟩) n c) xs) {k:Nat} {u:Value} {x:α} (hr:bG.rep w S [u] x) : Own (w.setCell ⟨g,k,none⟩ u) S base e (.slice (some ⟨g,0,none⟩) n c) (xs.set k x)∧w.grownBy (w.setCell ⟨g,k,none⟩ u) (some g):=by
 obtain⟨A',n',c',hv,hn⟩:=h.slice;injection hv with _ GY _
 subst GY;obtain⟨cs,h1,h2,h3⟩:=h;rw[show bG.sz α=1 from lk,←hn] at h1;obtain⟨q1,q2⟩:=h1.stored k u;have hk:aD S w (w.setCell ⟨g,k,none⟩ u):=(aD.grown q2).sub fun b hb=>⟨(h3 b hb).1,(h3 b hb).2⟩;refine⟨⟨cs.set k u,by rw[List.length_set,show bG.sz α=1 from lk,←hn];exact q1,(h2.set1 lk hr).keep (fun _ h=>h) hk,fun b hb=>⟨Nat.lt_of_lt_of_le (h3 b hb).1 q2.size,(h3 b hb).2⟩⟩,q2⟩
theorem Own.made {g n:Nat} {z:Value} {x:α} (h:w.ownsRow base e (bG.sz α) (.slice (some ⟨g,0,none⟩) n n) n (List.replicate n z)) (hr:bG.rep w S [z] x) (hS:∀b,S b→b<w.heap.size∧b≠g) : Own w S base e (.slice (some ⟨g,0,none⟩) n n) (List.replicate n x):=by
 refine⟨_,by rw[List.length_replicate];exact h,?_,fun b hb=>⟨(hS b hb).1,fun e=>(hS b hb).2 (by injection e)⟩⟩;clear h;induction n with
 | zero=>exact .nil
 | succ n ih=>
  rw[List.replicate_succ',List.replicate_succ'];exact .snoc ih hr
end
theorem FK (z:Value) (n:Nat) (hz:z.cells=#[z]):(madeCells z.cells (n*1)).toList=List.replicate n z:=by
 rw[hz,Nat.mul_one];exact toList_madeCells_one z n
theorem dh {α:Type} [bG α] {P:Program} (w:World) {ops:Array Oper} {rest:List Oper} {o:Oper} {a:Act} {Q:Exit→Act→World→Prop} (hg:o.guard=none) (l c:Operand) (t:TypeId) (FS:o.op=Op.makeSlice t l c) (lk:bG.sz α=1) (base:Nat) {e:TypeId} (i:TypeInfo) (z:Value) (h1:P.underlying t=some (.slice e)) (h2:P.info? e=some i) (h3:i.zero=some z) (h4:i.size=1) (hz:z.cells=#[z]) (kl kc:IntKind) (L C:Int) (n:Nat) (hl:a.eval l=.int kl L) (hc:a.eval c=.int kc C) (hL:L=(n:Int)) (hC:C=(n:Int)) (b2:i.bytes*n≤281474976710656) (b3:n≤maxLen) (b4:base≤w.heap.size) (x:α) (S:Nat→Prop) (hS:∀b,S b→b<w.heap.size) (hr:∀w',aD S w w'→bG.rep w' S [z] x) (hK:∀w',Own w' S base e (.slice (some ⟨w.heap.size,0,none⟩) n n) (List.replicate n x)→w.grownBy w' none→wpList P ops Q rest (a.put o.dst (.slice (some ⟨w.heap.size,0,none⟩) n n)) w') : wpList P ops Q (o::rest) a w:=by
 refine wpList_make_full w hg l c t FS base e i z (bG.sz α) h1 h2 h3 (by rw[h4,lk]) kl kc L C n hl hc hL hC b2 b3 b4 fun w' q1 q2=>hK w' ?_ q2;have e1:(madeCells z.cells (n*bG.sz α)).toList=List.replicate n z:=by rw[lk];exact FK z n hz
 rw[e1] at q1;refine Own.made q1 (hr w' ((aD.grown q2).sub fun b hb=>⟨hS b hb,by simp⟩)) fun b hb=>⟨Nat.lt_of_lt_of_le (hS b hb) q2.size,fun e=>by have:=hS b hb;omega⟩
theorem dW {P:Program} {ops:Array Oper} {Q:Exit→Act→World→Prop} {n:Nat} {S:World→Prop} {x:Oper} {a:Act} {w:World} (hx:ops[n]?=some x) (hg:x.guard=none) (h:∀K:Act→World→Prop,(∀a w,Q .normal a w→K a w)→Oper.wp P x a w K Q):tf P ops Q S n [] a w:=by
 refine P0 hx fun K hK=>?_;have hw:Region.wanted x (yielded ops a.tmps)=true:=by simp[Region.wanted,hg]
 rw[if_pos hw];exact h K hK
def WU (x:BitVec 32):Value:=.int .u32 (x.toNat:Int)
theorem ao6 (x:BitVec 32):(x.toNat:Int)<4294967296:=by have:=x.isLt;omega
theorem To (x y:BitVec 32):bits .xor .u32 (x.toNat:Int) (y.toNat:Int)=((x ^^^ y).toNat:Int):=by
 rw[u32_xor_nat _ _ x.isLt y.isLt,BitVec.toNat_xor]
theorem XD (x y:BitVec 32):bits .or .u32 (x.toNat:Int) (y.toNat:Int)=((x||| y).toNat:Int):=by
 rw[u32_or_nat _ _ x.isLt y.isLt,BitVec.toNat_or]
theorem ahF (x y:BitVec 32):bits .and .u32 (x.toNat:Int) (y.toNat:Int)=((x&&& y).toNat:Int):=by
 rw[u32_and_nat _ _ x.isLt y.isLt,BitVec.toNat_and]
theorem ahG (x y:BitVec 32):IntKind.u32.wrap ((x.toNat:Int)+(y.toNat:Int))=((x+y).toNat:Int):=by
 rw[IntKind.wrap_u32,BitVec.toNat_add,Int.natCast_emod,Int.natCast_add];rfl
theorem af7 (x:BitVec 32):IntKind.u32.wrap (x.toNat:Int)=(x.toNat:Int):=by
 have:=x.isLt;rw[IntKind.wrap_u32];omega
theorem ahE (x:BitVec 32):bits .xor .u32 4294967295 (x.toNat:Int)=((~~~x).toNat:Int):=by
 have h:=To (BitVec.allOnes 32) x;rw[show(~~~x)=BitVec.allOnes 32 ^^^ x by rw[BitVec.allOnes_xor]];rw[←h];rfl
theorem Dc (x:BitVec 32) (j:Nat):(x.toNat:Int)*2^j%4294967296=((x <<< j).toNat:Int):=by
 rw[BitVec.toNat_shiftLeft,Nat.shiftLeft_eq,Int.natCast_emod,Int.natCast_mul,Int.natCast_pow];rfl
theorem J5 (x:BitVec 32) (j:Nat):(x.toNat:Int)/2^j=((x >>> j).toNat:Int):=by
 rw[BitVec.toNat_ushiftRight,Nat.shiftRight_eq_div_pow,Int.natCast_ediv,Int.natCast_pow];rfl
theorem ahC (x:BitVec 32):(x.toNat:Int)/(8:Int)=((x >>> 3).toNat:Int):=J5 x 3
theorem af8 (x:BitVec 32):(x.toNat:Int)/(1024:Int)=((x >>> 10).toNat:Int):=J5 x 10
theorem ahD (x:BitVec 32):(x.toNat:Int)*(256:Int)%(4294967296:Int)=((x <<< 8).toNat:Int):=Dc x 8
theorem aga (x:BitVec 32):(x.toNat:Int)*(65536:Int)%(4294967296:Int)=((x <<< 16).toNat:Int):=Dc x 16
theorem af9 (x:BitVec 32):(x.toNat:Int)*(16777216:Int)%(4294967296:Int)=((x <<< 24).toNat:Int):=Dc x 24
theorem ana (x y:BitVec 32):((x.toNat:Int)+(y.toNat:Int))%(4294967296:Int)=((x+y).toNat:Int):=by
 rw[BitVec.toNat_add,Int.natCast_emod,Int.natCast_add];rfl
def wide (b:UInt8):BitVec 32:=BitVec.ofNat 32 b.toNat
theorem MC (b:UInt8):(wide b).toNat=b.toNat:=by
 have:=b.toNat_lt;simp only[wide,BitVec.toNat_ofNat];omega
theorem agS (b:UInt8):(b.toNat:Int)=((wide b).toNat:Int):=by rw[MC]
def val:List (BitVec 32)→Nat
 | []=>0
 | x::l=>x.toNat+4294967296*val l
def fC (n:Nat):List (BitVec 32):=if h:n=0 then[] else BitVec.ofNat 32 n::fC (n/4294967296)
 termination_by n
 decreasing_by omega
def eO:List (BitVec 32)→List (BitVec 32)
 | []=>[]
 | x::l=>if eO l=[] then(if x=0#32 then[] else[x]) else x::eO l
theorem dj (n:Nat):val (fC n)=n:=by
 induction n using Nat.strongRecOn with
 | ind n ih=>
  unfold fC;split
  ·rename_i h;simp[val,h]
  ·rename_i h;simp only[val];rw[ih _ (by omega),BitVec.toNat_ofNat];omega
theorem li {n:Nat}:fC n=[]↔n=0:=by
 constructor
 ·intro h;have:=dj n;rw[h] at this;simpa[val] using this.symm
 ·rintro rfl;unfold fC;simp
theorem fD:fC 0=[]:=li.2 rfl
theorem D3 (x:BitVec 32) (n:Nat) (h:x.toNat+4294967296*n≠0):fC (x.toNat+4294967296*n)=x::fC n:=by
 have:=x.isLt;rw[fC,dif_neg h];congr 1
 ·apply BitVec.eq_of_toNat_eq;rw[BitVec.toNat_ofNat];omega
 ·congr 1;omega
theorem tQ {x:BitVec 32}:x=0#32↔x.toNat=0:=by
 constructor
 ·rintro rfl;rfl
 ·intro h;exact BitVec.eq_of_toNat_eq h
theorem fH (l:List (BitVec 32)):fC (val l)=eO l:=by
 induction l with
 | nil=>exact fD
 | cons x l ih=>
  simp only[val,eO];rw[←ih];by_cases hv:val l=0
  ·rw[hv,fD];by_cases hx:x=0#32
   ·subst hx;simp[fD]
   ·have:x.toNat≠0:=fun h=>hx (tQ.2 h);rw[D3 x 0 (by omega),fD];simp[hx]
  ·rw[D3 x _ (by omega),if_neg (fun h=>hv (li.1 h))]
theorem jl (l:List (BitVec 32)):val (eO l)=val l:=by rw[←fH,dj]
theorem Gu (n:Nat):eO (fC n)=fC n:=by rw[←fH,dj]
theorem val_append (a b:List (BitVec 32)):val (a++b)=val a+4294967296^a.length*val b:=by
 induction a with
 | nil=>simp[val]
 | cons x a ih=>
  simp only[List.cons_append,val,ih,List.length_cons];rw[Nat.pow_succ',Nat.mul_add,Nat.mul_assoc,Nat.add_assoc]
theorem iU (l:List (BitVec 32)):val l<4294967296^l.length:=by
 induction l with
 | nil=>simp[val]
 | cons x l ih=>
  have:=x.isLt;simp only[val,List.length_cons];rw[Nat.pow_succ'];omega
theorem wH (n:Nat):val (List.replicate n 0#32)=0:=by
 induction n with
 | zero=>rfl
 | succ n ih=>simp[List.replicate_succ,val,ih]
theorem iN (l:List (BitVec 32)) (k:Nat) (hk:k≤l.length):val l=val (l.take k)+4294967296^k*val (l.drop k):=by
 have:=val_append (l.take k) (l.drop k);rw[List.take_append_drop,List.length_take,Nat.min_eq_left hk] at this;exact this
theorem Db (l:List (BitVec 32)) (x:BitVec 32):val (l++[x])=val l+4294967296^l.length*x.toNat:=by
 rw[val_append];simp[val]
theorem rG {l:List (BitVec 32)} {k:Nat} {x:BitVec 32} (h:l[k]?=some x):val (l.take (k+1))=val (l.take k)+4294967296^k*x.toNat:=by
 have hk:k<l.length:=(List.getElem?_eq_some_iff.1 h).1;rw[List.take_add_one,h];show val (l.take k++[x])=_;rw[Db,List.length_take,Nat.min_eq_left (by omega)]
theorem Il {l:List (BitVec 32)} (h:val l=0):eO l=[]:=by rw[←fH,h,fD]
theorem BU (l:List (BitVec 32)):eO (l++[0#32])=eO l:=by
 rw[←fH,Db,←fH];simp
theorem MI {l:List (BitVec 32)} {x:BitVec 32} (h:x≠0#32):eO (l++[x])=l++[x]:=by
 induction l with
 | nil=>simp[eO,h]
 | cons y l ih=>simp only[List.cons_append,eO,ih];simp
theorem MJ (l:List (BitVec 32)) (k:Nat):eO (l++List.replicate k 0#32)=eO l:=by
 rw[←fH,val_append,wH,←fH];simp
theorem ej (l:List (BitVec 32)):(eO l).length≤l.length:=by
 induction l with
 | nil=>simp[eO]
 | cons x l ih=>
  simp only[eO];split
  ·split<;>simp
  ·simp;exact ih
theorem abR (l:List (BitVec 32)):eO l=l.take (eO l).length:=by
 induction l with
 | nil=>simp[eO]
 | cons x l ih=>
  simp only[eO];split
  ·split
   ·simp
   ·simp
  ·simp only[List.length_cons,List.take_succ_cons];rw[←ih]
theorem Dd {l:List (BitVec 32)} {x:BitVec 32} (h:(eO l).getLast?=some x):x≠0#32:=by
 induction l with
 | nil=>simp[eO] at h
 | cons y l ih=>
  simp only[eO] at h;split at h
  ·split at h
   ·simp at h
   ·rename_i hy;simp at h;subst h;exact hy
  ·rename_i hn;rw[List.getLast?_cons] at h;cases hh:(eO l).getLast? with
   | none=>rw[List.getLast?_eq_none_iff] at hh;exact absurd hh hn
   | some z=>rw[hh] at h;simp at h;subst h;exact ih hh
theorem jD {n k:Nat} (h:n<4294967296^k):(fC n).length≤k:=by
 induction k generalizing n with
 | zero=>
  have:n=0:=by simpa using h
  subst this;simp[fD]
 | succ k ih=>
  by_cases hn:n=0
  ·subst hn;simp[fD]
  ·rw[fC,dif_neg hn,List.length_cons];have:=ih (n:=n/4294967296) (by rw[Nat.pow_succ'] at h;omega);omega
theorem FL {n k:Nat} (h:4294967296^k≤n):k<(fC n).length:=by
 rcases Nat.lt_or_ge k (fC n).length with hl|hg
 ·exact hl
 ·have:=iU (fC n);rw[dj] at this;have:=Nat.pow_le_pow_right (n:=4294967296) (by omega) hg;omega
theorem apX {n:Nat} {k:Nat} (h:(fC n).length=k+1):4294967296^k≤n:=by
 rcases Nat.lt_or_ge n (4294967296^k) with hl|hg
 ·have:=jD hl;omega
 ·exact hg
end Go.Proofs.YtjlhbfbdcfajfaaGreatDoor
