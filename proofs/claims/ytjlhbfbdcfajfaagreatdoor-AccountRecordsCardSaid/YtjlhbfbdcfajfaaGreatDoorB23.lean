/- Draw3 Sto3 -/
import Derived.Test.YtjlhbfbdcfajfaaGreatDoorB02
import Derived.Test.YtjlhbfbdcfajfaaGreatDoorB22
namespace Go.Proofs.YtjlhbfbdcfajfaaGreatDoor
open Go Go.RowKit Go.Maps Go.WideMaps
def reach (ops:Array Oper) (i:Nat):Nat→Nat→Bool
 | 0,_=>false
 | f+1,k=>match ops[k]? with|none=>false|some o=>o.after.any fun e=>Region.binds .any e&&(e.on==i||reach ops i f e.on)
def oZ (n:Nat) (ops:Array Oper):Bool:=
 ops.size==n+1&&
 (List.range n).all (fun i=>reach ops i 6 n)&&
 (List.range (n+1)).all (fun i=>((ops[i]?).map fun o=>(o.after.all fun e=>!Region.binds .any e||e.on<i)&&(match o.guard with|some (j,_)=>decide (j<n)|none=>true)).getD false)
def Cl (ops:Array Oper) (listed:Array Bool):Prop:=∀j x,ops[j]?=some x→listed.getD j false=true→∀e∈x.after,Region.binds .any e=true→listed.getD e.on false=true
theorem Cl.reach {ops:Array Oper} {listed:Array Bool} (h:Cl ops listed) {i:Nat}:∀(f k:Nat),(∀x,ops[k]?=some x→∀e∈x.after,Region.binds .any e=true→listed.getD e.on false=true)→reach ops i f k=true→listed.getD i false=true:=by
 intro f;induction f with
 | zero=>intro k _ hr;cases hr
 | succ f ih=>
  intro k hk hr;unfold Go.Proofs.YtjlhbfbdcfajfaaGreatDoor.reach at hr;cases hx:ops[k]? with
  | none=>rw[hx] at hr;cases hr
  | some x=>
   rw[hx] at hr;simp only[Array.any_eq_true,Bool.and_eq_true,Bool.or_eq_true,beq_iff_eq] at hr;obtain⟨q,hq,hb,hr⟩:=hr;have he:x.after[q]∈x.after:=Array.getElem_mem hq;generalize x.after[q]=e at he hb hr;have h1:=hk x hx e he hb;rcases hr with hr|hr
   ·rw[←hr];exact h1
   ·exact ih e.on (fun y hy=>h e.on y hy h1) hr
theorem Cl.take {ops:Array Oper} {listed:Array Bool} (h:Cl ops listed) {i:Nat} (hi:i∈Region.ready .any ops listed):Cl ops (listed.setIfInBounds i true):=by
 intro j x hx hl e he hb;obtain⟨_,y,hy,hya⟩:=mem_ready.1 hi;by_cases hj:i=j
 ·subst hj;rw[hy] at hx;injection hx with hx
  subst hx;exact getD_set_true (i:=i) (hya e he hb)
 ·rw[getD_set_ne false hj] at hl;exact getD_set_true (i:=i) (h j x hx hl e he hb)
section
variable {P:Program} {ops:Array Oper} {Q:Exit→Act→World→Prop} {n:Nat} {o:Oper}
theorem pY (h:oZ n ops=true):ops.size=n+1:=by
 simp only[oZ,Bool.and_eq_true,beq_iff_eq] at h;exact h.1.1
theorem FM (h:oZ n ops=true) {i:Nat} (hi:i<n):reach ops i 6 n=true:=by
 simp only[oZ,Bool.and_eq_true] at h;exact List.all_eq_true.1 h.1.2 i (List.mem_range.2 hi)
theorem pZ (h:oZ n ops=true) {i:Nat} {x:Oper} (hx:ops[i]?=some x):(∀e∈x.after,Region.binds .any e=true→e.on<i)∧∀j b,x.guard=some (j,b)→j<n:=by
 have hi:i<n+1:=by rw[←pY h];exact(Array.getElem?_eq_some_iff.1 hx).1
 simp only[oZ,Bool.and_eq_true] at h;have:=List.all_eq_true.1 h.2 i (List.mem_range.2 hi);rw[hx] at this;simp only[Option.map_some,Option.getD_some,Bool.and_eq_true,Array.all_eq_true_iff_forall_mem,Bool.or_eq_true,Bool.not_eq_true',decide_eq_true_eq] at this;refine⟨fun e he hb=>(this.1 e he).resolve_left (by simp[hb]),fun j b hg=>?_⟩;have h2:=this.2;rw[hg] at h2;simpa using h2
theorem sZ (h:oZ n ops=true) {i:Nat} {x y:Oper} (hx:ops[i]?=some x) (tmps:Array Value):Region.wanted x (yielded (ops.setIfInBounds n y) tmps)=Region.wanted x (yielded ops tmps):=by
 unfold Region.wanted;cases hg:x.guard with
 | none=>rfl
 | some g=>
  obtain⟨j,b⟩:=g;have:=(pZ h hx).2 j b hg;simp only[];rw[xY tmps (by omega)]
theorem JX (h:oZ n ops=true) (ho:ops[n]?=some o):∀(fuel:Nat) (listed:Array Bool) (a:Act) (w:World),listed.size=n+1→listed.getD n true=false→Cl ops listed→ wpAny P .any (ops.setIfInBounds n (idle n o)) (rX P ops n Q) fuel listed a w→wpAny P .any ops Q fuel listed a w:=by
 have bn:n<ops.size:=(Array.getElem?_eq_some_iff.1 ho).1;have wL:∀(listed:Array Bool),listed.size=n+1→listed.getD n true=false→Region.ready .any ops listed≠[]:=by
  intro listed hs hn;have:∀m,m≤n→(∀j,j<m→listed.getD j false=true)∨∃i,i∈Region.ready .any ops listed:=by
   intro m;induction m with
   | zero=>intro _;exact .inl (fun j hj=>by omega)
   | succ m ih=>
    intro hm;rcases ih (by omega) with h1|h1
    ·by_cases hl:listed.getD m true=false
     ·right
      refine⟨m,mem_ready.2 ⟨hl,ops[m]'(by omega),Array.getElem?_eq_getElem (by omega),fun e he hb=>h1 _ ?_⟩⟩;exact(pZ h (Array.getElem?_eq_getElem (by omega))).1 e he hb
     ·left
      intro j hj;rcases(show j<m∨j=m by omega) with h2|rfl
      ·exact h1 j h2
      ·have:j<listed.size:=by omega
       simpa[this] using hl
    ·exact .inr h1
  rcases this n (Nat.le_refl _) with h1|⟨i,hi⟩
  ·have:n∈Region.ready .any ops listed:=mem_ready.2 ⟨hn,o,ho,fun e he hb=>h1 _ ((pZ h ho).1 e he hb)⟩;intro h2;rw[h2] at this;cases this
  ·intro h2;rw[h2] at hi;cases hi
 have D7:∀listed,Region.ready .any (ops.setIfInBounds n (idle n o)) listed=[]↔Region.ready .any ops listed=[]:=by
  intro listed;constructor
  ·intro h1;apply List.eq_nil_iff_forall_not_mem.2;intro j hj;have:=(oD ho listed j).2 hj;rw[h1] at this;cases this
  ·intro h1;apply List.eq_nil_iff_forall_not_mem.2;intro j hj;have:=(oD ho listed j).1 hj;rw[h1] at this;cases this
 intro fuel;induction fuel with
 | zero=>
  intro listed a w hs hn _ hw;exact absurd ((D7 listed).1 hw.1) (wL listed hs hn)
 | succ fuel ih=>
  intro listed a w hs hn yQ hw;refine⟨fun h0=>absurd h0 (wL listed hs hn),fun i hi=>?_⟩;have h1:=hw.2 i ((oD ho listed i).2 hi);by_cases ed:n=i
  ·subst ed;unfold wpOp at h1;rw[Array.getElem?_setIfInBounds_self_of_lt bn] at h1;have hnw:Region.wanted (idle n o) (yielded (ops.setIfInBounds n (idle n o)) a.tmps)=false:=by
    have:yielded (ops.setIfInBounds n (idle n o)) a.tmps n=none:=by
     unfold yielded;rw[Array.getElem?_setIfInBounds_self_of_lt bn];rfl
    unfold Region.wanted;show(yielded (ops.setIfInBounds n (idle n o)) a.tmps n==some true)=false;rw[this];rfl
   simp only[hnw,Bool.false_eq_true,if_false] at h1;have bA:Region.ready .any ops (listed.setIfInBounds n true)=[]:=by
    apply List.eq_nil_iff_forall_not_mem.2;intro j hj;obtain⟨h2,x,hx,_⟩:=mem_ready.1 hj;have hjn:j<n+1:=by rw[←pY h];exact(Array.getElem?_eq_some_iff.1 hx).1
    rcases(show j<n∨j=n by omega) with h3|rfl
    ·obtain⟨_,y,hy,hya⟩:=mem_ready.1 hi;have h4:=yQ.reach 6 n (fun x hx e he hb=>by rw[hy] at hx;injection hx with hx;subst hx;exact hya e he hb) (FM h h3);have h5:=getD_set_true (i:=n) h4;have Sw:j<(listed.setIfInBounds n true).size:=by simp;omega
     rw[Array.getD_eq_getD_getElem?,Array.getElem?_eq_getElem Sw] at h2 h5;simp only[Option.getD_some] at h2 h5;rw[h2] at h5;cases h5
    ·rw[Array.getD_eq_getD_getElem?,Array.getElem?_setIfInBounds_self_of_lt (by omega)] at h2;cases h2
   have hq:rX P ops n Q .normal a w:=by
    have Vq:=(D7 _).2 bA;cases fuel with
    | zero=>exact h1.2
    | succ fuel=>exact h1.1 Vq
   exact wpOp_mono (fun a' w' hQ=>wpAny_done bA hQ fuel) hq
  ·have Yt:(listed.setIfInBounds i true).getD n true=false:=by rw[getD_set_ne true (Ne.symm ed)];exact hn
   have h2:wpOp P (ops.setIfInBounds n (idle n o)) (rX P ops n Q) i (wpAny P .any ops Q fuel (listed.setIfInBounds i true)) a w:=
    wpOp_mono (fun a' w' hh=>ih _ a' w' (by simpa using hs) Yt (yQ.take hi) hh) h1
   unfold wpOp at h2 ⊢;rw[Array.getElem?_setIfInBounds_ne ed] at h2;cases hx:ops[i]? with
   | none=>rw[hx] at h2;exact h2
   | some x=>
    rw[hx] at h2;simp only[] at h2 ⊢;rw[sZ h hx] at h2;split
    ·rename_i Nw;rw[if_pos Nw] at h2;rcases h2 with h2|h2
     ·exact .inl (Bh h2)
     ·exact .inr h2
    ·rename_i Nw;rw[if_neg Nw] at h2;exact h2
theorem BR {S:World→Prop} (h:oZ n ops=true) (ho:ops[n]?=some o) (NA:Region.noSelect (ops.setIfInBounds n (idle n o))=true) (hQ:∀c a d v w,Q (.panic c) (Act.put a d v) w→Q (.panic c) a w) : ∀(l:List (Nat×Bool)) (fuel:Nat) (listed:Array Bool) (a:Act) (w:World),l.length<fuel→pU (ops.setIfInBounds n (idle n o)) n l listed=true→S w→ tf P ops Q S n l a w→wpAnyH P .any (ops.setIfInBounds n (idle n o)) (rX P ops n Q) S fuel listed a w:=by
 have bn:n<ops.size:=(Array.getElem?_eq_some_iff.1 ho).1;intro l;induction l with
 | nil=>
  intro fuel listed a w hf lZ hS hs;obtain⟨fuel,rfl⟩:∃f,fuel=f+1:=⟨fuel-1,by simp at hf;omega⟩;have hr:Region.ready .any (ops.setIfInBounds n (idle n o)) listed=[n]:=by simpa[pU] using lZ
  refine wpAnyH_all hr (by simp) fun i hi=>?_;simp at hi;subst hi;unfold wpOp;rw[Array.getElem?_setIfInBounds_self_of_lt bn];have hnw:Region.wanted (idle i o) (yielded (ops.setIfInBounds i (idle i o)) a.tmps)=false:=by
   have:yielded (ops.setIfInBounds i (idle i o)) a.tmps i=none:=by
    unfold yielded;rw[Array.getElem?_setIfInBounds_self_of_lt bn];rfl
   unfold Region.wanted;show(yielded (ops.setIfInBounds i (idle i o)) a.tmps i==some true)=false;rw[this];rfl
  simp only[hnw,Bool.false_eq_true,if_false];refine⟨hS,wpAnyH_done ?_ hs fuel⟩;apply List.eq_nil_iff_forall_not_mem.2;intro j hj;obtain⟨h1,x,hx,bA⟩:=mem_ready.1 hj;by_cases NT:j=i
  ·subst NT;have h0:j∈Region.ready .any (ops.setIfInBounds j (idle j o)) listed:=by rw[hr];simp
   have h2:=(mem_ready.1 h0).1;have Sw:j<listed.size:=by
    rcases Nat.lt_or_ge j listed.size with h'|h'
    ·exact h'
    ·rw[Array.getD_eq_getD_getElem?,Array.getElem?_eq_none h'] at h2;cases h2
   rw[Array.getD_eq_getD_getElem?,Array.getElem?_setIfInBounds_self_of_lt Sw] at h1;cases h1
  ·rw[getD_set_ne true (Ne.symm NT)] at h1;have hx':ops[j]?=some x:=by rw[Array.getElem?_setIfInBounds_ne (Ne.symm NT)] at hx;exact hx
   have hjn:j<i+1:=by rw[←pY h];exact(Array.getElem?_eq_some_iff.1 hx').1
   have hj2:j∈Region.ready .any (ops.setIfInBounds i (idle i o)) listed:=by
    refine mem_ready.2 ⟨h1,x,hx,fun e he hb=>?_⟩;have h3:=bA e he hb;have h4:=(pZ h hx').1 e he hb;rw[getD_set_ne false (by omega)] at h3;exact h3
   rw[hr] at hj2;simp at hj2;exact NT hj2
 | cons p l ih=>
  obtain⟨i,r⟩:=p;intro fuel listed a w hf lZ hS hs;obtain⟨fuel,rfl⟩:∃f,fuel=f+1:=⟨fuel-1,by simp at hf;omega⟩;simp only[pU,Bool.and_eq_true,bne_iff_ne] at lZ;obtain⟨⟨ed,bV⟩,uQ⟩:=lZ;simp only[tf] at hs;cases hx:ops[i]? with
  | none=>rw[hx] at hs;exact hs.elim
  | some x=>
   rw[hx] at hs;have hx':(ops.setIfInBounds n (idle n o))[i]?=some x:=by rw[Array.getElem?_setIfInBounds_ne (Ne.symm ed)];exact hx
   cases r with
   | true=>
    simp only[if_true,Bool.and_eq_true] at bV hs;obtain⟨v,hy,hs⟩:=hs;refine wpAnyH_take hx' NA bV.2 bV.1 (fun c a w hq=>hQ c a x.dst v w hq) ?_ hS (ih fuel _ _ _ (by simp at hf;omega) uQ hS hs);unfold YieldsIf at hy ⊢;rw[sZ h hx];exact hy
   | false=>
    simp only[Bool.false_eq_true,if_false,beq_iff_eq] at bV hs;refine wpAnyH_all bV (by simp) fun j hj=>?_;simp at hj;subst hj;unfold wpOp at hs ⊢;rw[hx] at hs;rw[hx'];simp only[] at hs ⊢;rw[sZ h hx];split
    ·rename_i Nw;rw[if_pos Nw] at hs;rcases hs with hs|hs
     ·refine .inl (Oper.wp_mono (K:=fun a' w'=>S w'∧tf P ops Q S n l a' w') (fun a' w' hh=>⟨hh.1,ih fuel _ a' w' (by simp at hf;omega) uQ hh.1 hh.2⟩) ?_);exact BM hs
     ·exact .inr hs
    ·rename_i Nw;rw[if_neg Nw] at hs;exact⟨hs.1,ih fuel _ _ _ (by simp at hf;omega) uQ hs.1 hs.2⟩
theorem et {id:Nat} {a:Act} {w:World} (S:World→Prop) (n:Nat) (l:List (Nat×Bool)) (hm:P.follows .mixedOrders=true) (ho:ops[n]?=some o) (h:oZ n ops=true) (NA:Region.noSelect (ops.setIfInBounds n (idle n o))=true) (hl:(pU (ops.setIfInBounds n (idle n o)) n l (Array.replicate (n+1) false)&&l.length==n)=true) (hQ:∀c a d v w,Q (.panic c) (Act.put a d v) w→Q (.panic c) a w) (hS:S w.drew) (hs:tf P ops Q S n l a w.drew):(Code.region id ops true).wp P Q a w:=by
 simp only[Bool.and_eq_true,beq_iff_eq] at hl;refine wp_region_any hm ?_;rw[pY h];exact JX h ho _ _ _ _ (by simp) (by simp) (fun j x _ hl=>by simp only[Array.getD_eq_getD_getElem?,Array.getElem?_replicate] at hl;split at hl<;>cases hl) (wpAny_of_held _ _ _ _ (BR h ho NA hQ l _ _ _ _ (by omega) hl.1 hS hs))
end
theorem Tryz.contTy:cW Tryz.prog 23 95 9 96:=cW.mk' (z:=.agg #[.string ⟨#[]⟩,.slice none 0 0,.int .i64 0,.int .i64 0,.int .i64 0,.int .i64 0,.int .i64 0,.int .i64 0,.int .i64 0]) Tryz.underlying23 (by kernel_rfl) rfl (by omega)
theorem nk {w:World} {b n:Nat} {f:ByteArray→Option Value} {o:Oper} {a:Act} {m x:Operand} {t e:TypeId} (FS:o.op=Op.lookup t m x false) (ht:Tryz.prog.underlying t=some (.map 9 e)) {z:Value} (hz:(zeroValue e).run Tryz.prog w=.ok z w) (hm:a.eval m=.map (some b)) (h:dr w b n f) (s:ByteArray) (hx:a.eval x=.string s) (hs:s.size≤maxLen) {u:Value} (hu:(f s).getD z=u):(execOp a.eval o).run Tryz.prog w=.ok (.value u) w:=by
 obtain⟨D,h1,_,_,h3⟩:=h;obtain⟨v,ps,rN,hv⟩:=h1.lookup o9 ht hz (zd:=.held z) (zp:=[]) rfl (rf s hs);rw[h3] at hv;have Sf:v=(f s).getD z:=sB hv;subst Sf;simp[execOp,FS,hm,hx,rN,hu]
structure amN (bb g4 g5 m1 m2 M:Nat) (vC:Value) (nm:ByteArray) (v:aS) (fl:ByteArray→Option Value) (w:World):Prop where
 c5:w.cell? ⟨bb,5,none⟩=some vC
 c4:w.cell? ⟨g4,1,none⟩=some (.string nm)
 cm:w.cell? ⟨g5,1,none⟩=some (.map (some m2))
 hN:dr w m1 M (ints v.num)
 hL:dr w m2 M fl
theorem Own.grownTag {w w':World} {B:Nat} {e:TypeId} {α:Type} [bG α] {v:Value} {xs:List α} {τ:Nat→Tag} {T:Tag→Prop} (_:Own w aA B e v xs) (ht:∀g,v.ownBlock=some g→T (τ g)) (hg:w.grownBy w' v.ownBlock):Kept w w' τ T:=
 Kept.of_grown hg fun g h _=>ht g h
set_option maxRecDepth 20000 in
set_option maxHeartbeats 2000000 in
theorem FD {w:World} {B bb mn N:Nat} {τ:Nat→Tag} {f:ByteArray→Option Value} {vP vC vS vN vD vV:Value} {rC:List (bQ 9)} {rS:List (bQ 3)} {rV:List (bQ 7)} {s:cZ} (h:iO w B bb mn N τ f vP vC vS vN vD vV rC rS rV s) (hl:s.vals.length=s.e.styl.length) (nm:ByteArray) (AF:Option Addr) (nF cF:Nat) (line:Int) {cs:List Value} {v:aS} (hv:xD w B τ cs v) (hN:N<1099511627776) : Calls Tryz.prog 97 #[.pointer (some ⟨bb,0,none⟩),.agg #[.string ah,.string nm,.slice AF nF cF,.int .i64 line],.agg cs.toArray] w (vj w B bb (N+1) τ (ch ah nm v s)):=by
 have sw:=hv;obtain⟨m1,m2,m3,M,fl,ml,mo,rfl,d1,d2,d3,hn,GZ,ui,Ef,Cm,Bt⟩:=hv;have jK:Below w.heap.size w ((w.alloc (.cells #[.string ah,.string nm,.slice AF nF cF,.int .i64 line] 110)).alloc (.cells #[.map (some m1),.map (some m2),.map (some m3),.bool v.risk.neg,ml,mo,.string v.seed] 168)):=((Below.refl _ _).alloc (Nat.le_refl _) _).alloc (by simp) _;have jj:aK ((w.alloc (.cells #[.string ah,.string nm,.slice AF nF cF,.int .i64 line] 110)).alloc (.cells #[.map (some m1),.map (some m2),.map (some m3),.bool v.risk.neg,ml,mo,.string v.seed] 168)) w.heap.size 110 #[.string ah,.string nm,.slice AF nF cF,.int .i64 line]:=(aK.new _ _ _).alloc _;have mx:aK ((w.alloc (.cells #[.string ah,.string nm,.slice AF nF cF,.int .i64 line] 110)).alloc (.cells #[.map (some m1),.map (some m2),.map (some m3),.bool v.risk.neg,ml,mo,.string v.seed] 168)) (w.heap.size+1) 168 #[.map (some m1),.map (some m2),.map (some m3),.bool v.risk.neg,ml,mo,.string v.seed]:=aK.new' (by simp) _ _;have lw:((w.alloc (.cells #[.string ah,.string nm,.slice AF nF cF,.int .i64 line] 110)).alloc (.cells #[.map (some m1),.map (some m2),.map (some m3),.bool v.risk.neg,ml,mo,.string v.seed] 168)).heap.size=w.heap.size+2:=by simp
 obtain⟨w1,bj⟩:∃x,(w.alloc (.cells #[.string ah,.string nm,.slice AF nF cF,.int .i64 line] 110)).alloc (.cells #[.map (some m1),.map (some m2),.map (some m3),.bool v.risk.neg,ml,mo,.string v.seed] 168)=x:=⟨_,rfl⟩;rw[bj] at jK jj mx lw;have bn:bb<w.heap.size:=h.blk.lt;have kT:B≤w.heap.size:=Nat.le_of_lt (Nat.lt_of_le_of_lt h.hb bn);have Fp:B≤bb:=h.hb;have jm:aK w1 bb 135 (qh s mn vP vC vS vN vD vV):=h.blk.keep jK;have e0:w1.cell? ⟨w.heap.size,0,none⟩=some (.string ⟨#[99,111,110,116,101,115,116]⟩):=jj.cell 0;have e1:w1.cell? ⟨w.heap.size,1,none⟩=some (.string nm):=jj.cell 1;have v0:w1.cell? ⟨w.heap.size+1,0,none⟩=some (.map (some m1)):=mx.cell 0;have v1:w1.cell? ⟨w.heap.size+1,1,none⟩=some (.map (some m2)):=mx.cell 1;have z5:w1.cell? ⟨bb,5,none⟩=some (vC):=jm.cell 5;have y5:w1.frozen? ⟨bb,5,none⟩=false:=jm.frozen 5;have HN:=zH (hn.keep jK);have PH:=zH (GZ.keep jK);have C5:=zH ui;have HVD:=zH sw;have dO:=zH bj;have xW:=zH jm;have Gl:=zH jj;have Xu:=zH mx;have kq:=zH jK;have HH:=zH h;have HL:=zH hl;have Ry:=zH Cm;have Rz:=zH Bt;have Gf:=zH lw;obtain⟨AL,nL,cL,CP,CN⟩:=ui.at_ bU;have HFL:=zH CP;have Mt:=zH CN;have aj4:bb≠w.heap.size:=by omega
 have Vn:bb≠w.heap.size+1:=by omega
 have HD1:=zH d1;have HD2:=zH d2;clear hn bj jm jK h hl jj mx d1 d2 d3 GZ ui Ef Cm Bt sw lw CP CN;show Calls _ _ #[.pointer (some ⟨bb,0,none⟩),.agg #[.string ⟨#[99,111,110,116,101,115,116]⟩,.string nm,.slice AF nF cF,.int .i64 line],.agg #[.map (some m1),.map (some m2),.map (some m3),.bool v.risk.neg,ml,mo,.string v.seed]] w _;unfold ah at dO;go_enter Tryz.func97,Tryz.ntmps97;go_upto_region 1 with(fail);rw[dO.out];go_wp2_with fail;have afk:=zH (HH.out.oC.below kq.out);have Gi:Hid (bG.rep w (Dat w B τ) [.string nm,.slice AL nL cL,.int .i64 (v.n au),.int .i64 (v.n ax),.int .i64 (v.n bp),.int .i64 (v.n ao),.int .i64 (v.n bH),.int .i64 (v.n ar),.int .i64 (v.n bI)] (gT nm v)):=zH ⟨_,_,_,rfl,Mt.out⟩;have JO:=zH (show rC.length<1099511627776 from Nat.lt_of_le_of_lt (by rw[HH.out.dC.1];exact HH.out.lC) hN);refine et (amN bb w.heap.size (w.heap.size+1) m1 m2 M vC nm v fl) 31 [(0,true),(1,true),(2,true),(3,true),(4,true),(5,true),(6,true),(7,true),(8,true),(9,true),(10,true),(11,true),(12,true),(13,true),(14,true),(15,true),(16,true),(17,true),(18,true),(19,true),(20,true),(21,true),(22,true),(23,true),(24,true),(25,true),(26,false),(27,false),(28,true),(29,true),(30,true)]
  (by kernel_rfl) rfl (by kernel_rfl) (by kernel_rfl) (by kernel_rfl) (fun _ _ d _ _ h=>by cases d<;>exact h) ⟨z5,e1,v1,HN.out.drew,PH.out.drew⟩ ?_
 iterate 10
  refine bh (v:=?_) rfl rfl ?_ ?_;rotate_left 1
  ·intro w hS;have c5:=hS.c5;have c4:=hS.c4;have cm:=hS.cm;clear hS;go_simp;with_reducible rfl
  simp only[Act.put,List.getElem_toArray,List.getElem_cons_zero,List.getElem_cons_succ,List.setIfInBounds_toArray,List.set_cons_zero,List.set_cons_succ]
 refine bh (v:=.slice AL nL cL) rfl rfl (fun w hS=>nk rfl Tryz.underlying132 (z:=.slice none 0 0) rfl rfl hS.hL bU rfl (by decide) HFL.out) ?_;simp only[Act.put,List.getElem_toArray,List.getElem_cons_zero,List.getElem_cons_succ,List.setIfInBounds_toArray,List.set_cons_zero,List.set_cons_succ];iterate 1
  refine bh (v:=?_) rfl rfl ?_ ?_;rotate_left 1
  ·intro w hS;have c5:=hS.c5;have c4:=hS.c4;have cm:=hS.cm;clear hS;go_simp;with_reducible rfl
  simp only[Act.put,List.getElem_toArray,List.getElem_cons_zero,List.getElem_cons_succ,List.setIfInBounds_toArray,List.set_cons_zero,List.set_cons_succ]
 refine bh (v:=.int .i64 (v.n au)) rfl rfl (fun w hS=>nk rfl Tryz.underlying166 rfl rfl hS.hN au rfl (by decide) (oO v au)) ?_;simp only[Act.put,List.getElem_toArray,List.getElem_cons_zero,List.getElem_cons_succ,List.setIfInBounds_toArray,List.set_cons_zero,List.set_cons_succ];iterate 1
  refine bh (v:=?_) rfl rfl ?_ ?_;rotate_left 1
  ·intro w hS;have c5:=hS.c5;have c4:=hS.c4;have cm:=hS.cm;clear hS;go_simp;with_reducible rfl
  simp only[Act.put,List.getElem_toArray,List.getElem_cons_zero,List.getElem_cons_succ,List.setIfInBounds_toArray,List.set_cons_zero,List.set_cons_succ]
 refine bh (v:=.int .i64 (v.n ax)) rfl rfl (fun w hS=>nk rfl Tryz.underlying166 rfl rfl hS.hN ax rfl (by decide) (oO v ax)) ?_;simp only[Act.put,List.getElem_toArray,List.getElem_cons_zero,List.getElem_cons_succ,List.setIfInBounds_toArray,List.set_cons_zero,List.set_cons_succ];iterate 1
  refine bh (v:=?_) rfl rfl ?_ ?_;rotate_left 1
  ·intro w hS;have c5:=hS.c5;have c4:=hS.c4;have cm:=hS.cm;clear hS;go_simp;with_reducible rfl
  simp only[Act.put,List.getElem_toArray,List.getElem_cons_zero,List.getElem_cons_succ,List.setIfInBounds_toArray,List.set_cons_zero,List.set_cons_succ]
 refine bh (v:=.int .i64 (v.n bp)) rfl rfl (fun w hS=>nk rfl Tryz.underlying166 rfl rfl hS.hN bp rfl (by decide) (oO v bp)) ?_;simp only[Act.put,List.getElem_toArray,List.getElem_cons_zero,List.getElem_cons_succ,List.setIfInBounds_toArray,List.set_cons_zero,List.set_cons_succ];iterate 1
  refine bh (v:=?_) rfl rfl ?_ ?_;rotate_left 1
  ·intro w hS;have c5:=hS.c5;have c4:=hS.c4;have cm:=hS.cm;clear hS;go_simp;with_reducible rfl
  simp only[Act.put,List.getElem_toArray,List.getElem_cons_zero,List.getElem_cons_succ,List.setIfInBounds_toArray,List.set_cons_zero,List.set_cons_succ]
 refine bh (v:=.int .i64 (v.n ao)) rfl rfl (fun w hS=>nk rfl Tryz.underlying166 rfl rfl hS.hN ao rfl (by decide) (oO v ao)) ?_;simp only[Act.put,List.getElem_toArray,List.getElem_cons_zero,List.getElem_cons_succ,List.setIfInBounds_toArray,List.set_cons_zero,List.set_cons_succ];iterate 1
  refine bh (v:=?_) rfl rfl ?_ ?_;rotate_left 1
  ·intro w hS;have c5:=hS.c5;have c4:=hS.c4;have cm:=hS.cm;clear hS;go_simp;with_reducible rfl
  simp only[Act.put,List.getElem_toArray,List.getElem_cons_zero,List.getElem_cons_succ,List.setIfInBounds_toArray,List.set_cons_zero,List.set_cons_succ]
 refine bh (v:=.int .i64 (v.n bH)) rfl rfl (fun w hS=>nk rfl Tryz.underlying166 rfl rfl hS.hN bH rfl (by decide) (oO v bH)) ?_;simp only[Act.put,List.getElem_toArray,List.getElem_cons_zero,List.getElem_cons_succ,List.setIfInBounds_toArray,List.set_cons_zero,List.set_cons_succ];iterate 1
  refine bh (v:=?_) rfl rfl ?_ ?_;rotate_left 1
  ·intro w hS;have c5:=hS.c5;have c4:=hS.c4;have cm:=hS.cm;clear hS;go_simp;with_reducible rfl
  simp only[Act.put,List.getElem_toArray,List.getElem_cons_zero,List.getElem_cons_succ,List.setIfInBounds_toArray,List.set_cons_zero,List.set_cons_succ]
 refine bh (v:=.int .i64 (v.n ar)) rfl rfl (fun w hS=>nk rfl Tryz.underlying166 rfl rfl hS.hN ar rfl (by decide) (oO v ar)) ?_;simp only[Act.put,List.getElem_toArray,List.getElem_cons_zero,List.getElem_cons_succ,List.setIfInBounds_toArray,List.set_cons_zero,List.set_cons_succ];iterate 1
  refine bh (v:=?_) rfl rfl ?_ ?_;rotate_left 1
  ·intro w hS;have c5:=hS.c5;have c4:=hS.c4;have cm:=hS.cm;clear hS;go_simp;with_reducible rfl
  simp only[Act.put,List.getElem_toArray,List.getElem_cons_zero,List.getElem_cons_succ,List.setIfInBounds_toArray,List.set_cons_zero,List.set_cons_succ]
 refine bh (v:=.int .i64 (v.n bI)) rfl rfl (fun w hS=>nk rfl Tryz.underlying166 rfl rfl hS.hN bI rfl (by decide) (oO v bI)) ?_;simp only[Act.put,List.getElem_toArray,List.getElem_cons_zero,List.getElem_cons_succ,List.setIfInBounds_toArray,List.set_cons_zero,List.set_cons_succ];iterate 1
  refine bh (v:=?_) rfl rfl ?_ ?_;rotate_left 1
  ·intro w hS;have c5:=hS.c5;have c4:=hS.c4;have cm:=hS.cm;clear hS;go_simp;with_reducible rfl
  simp only[Act.put,List.getElem_toArray,List.getElem_cons_zero,List.getElem_cons_succ,List.setIfInBounds_toArray,List.set_cons_zero,List.set_cons_succ]
 refine fB rfl fun K hK=>?_;go_simp;refine hK _ _ ⟨by go_keep,by go_keep,by go_keep,HN.out.drew.alloc _,PH.out.drew.alloc _⟩ ?_;clear hK K;try simp only[Act.put,List.getElem_toArray,List.getElem_cons_zero,List.getElem_cons_succ,List.setIfInBounds_toArray,List.set_cons_zero,List.set_cons_succ]
 refine fB rfl fun K hK=>?_;refine fA (α:=bQ 9) (w0:=w) (B:=B) (base:=B) (wr:=w1) (by rfl) _ _ 23 (by rfl) 96 Tryz.contTy (by rfl) afk.out (kq.out.mono kT) (Nat.le_refl _) (Nat.le_trans kT kq.out.size) [.string nm,.slice AL nL cL,.int .i64 (v.n au),.int .i64 (v.n ax),.int .i64 (v.n bp),.int .i64 (v.n ao),.int .i64 (v.n bH),.int .i64 (v.n ar),.int .i64 (v.n bI)] ⟨[.string nm,.slice AL nL cL,.int .i64 (v.n au),.int .i64 (v.n ax),.int .i64 (v.n bp),.int .i64 (v.n ao),.int .i64 (v.n bH),.int .i64 (v.n ar),.int .i64 (v.n bI)],rfl⟩ 1 (by rfl) rfl 95 (by simp[Value.oneCell']) (by have:=JO.out;omega) ?_;intro v9 w2 fg rl hgrow kD;obtain⟨A9,n9,c9,rfl,hn9⟩:=fg.slice;clear hn9;have xT:Kept (w1.alloc (.cells #[.string nm,.slice AL nL cL,.int .i64 (v.n au),.int .i64 (v.n ax),.int .i64 (v.n bp),.int .i64 (v.n ao),.int .i64 (v.n bH),.int .i64 (v.n ar),.int .i64 (v.n bI)] 95)) w2 τ (One .cs):=Kept.of_grown hgrow (fun g h _=>HH.out.tC g h);have FV:aK w2 bb 135 (qh s mn vP vC vS vN vD vV):=(xW.out.alloc _).tag xT (by rw[HH.out.tb];simp[One]);have wv:=((Gl.out.alloc (.cells #[.string nm,.slice AL nL cL,.int .i64 (v.n au),.int .i64 (v.n ax),.int .i64 (v.n bp),.int .i64 (v.n ao),.int .i64 (v.n bH),.int .i64 (v.n ar),.int .i64 (v.n bI)] 95)).grown hgrow (fun h=>by have:=(HH.out.oC.lt _ h.symm).2;omega));have QI:=((Xu.out.alloc (.cells #[.string nm,.slice AL nL cL,.int .i64 (v.n au),.int .i64 (v.n ax),.int .i64 (v.n bp),.int .i64 (v.n ao),.int .i64 (v.n bH),.int .i64 (v.n ar),.int .i64 (v.n bI)] 95)).grown hgrow (fun h=>by have:=(HH.out.oC.lt _ h.symm).2;omega));have g5:w2.cell? ⟨bb,5,none⟩=some vC:=FV.cell 5;have f5:w2.frozen? ⟨bb,5,none⟩=false:=FV.frozen 5;refine hK _ _ ⟨g5,wv.cell 1,QI.cell 1,(HN.out.alloc _).tag xT (by rw[HD1.out.2.2];simp[One]),(PH.out.alloc _).tag xT (by rw[HD2.out.2.2];simp[One])⟩ ?_;clear hK K;have eX:=zH fg;have aww:=zH rl;have ZV:=zH kD;have PI:=zH xT;have av4:=zH FV;clear fg rl hgrow kD xT FV wv QI;try simp only[Act.put,List.getElem_toArray,List.getElem_cons_zero,List.getElem_cons_succ,List.setIfInBounds_toArray,List.set_cons_zero,List.set_cons_succ]
 iterate 3
  refine bh (v:=?_) rfl rfl ?_ ?_;rotate_left 1
  ·intro w hS;go_simp;with_reducible rfl
  simp only[Act.put,List.getElem_toArray,List.getElem_cons_zero,List.getElem_cons_succ,List.setIfInBounds_toArray,List.set_cons_zero,List.set_cons_succ]
 refine dW rfl rfl fun K hK=>?_;go_simp;refine hK _ _ ?_;clear hK K;go_wp2_with fail;go_end0
 have N7:Below w.heap.size w (w1.alloc (.cells #[.string nm,.slice AL nL cL,.int .i64 (v.n au),.int .i64 (v.n ax),.int .i64 (v.n bp),.int .i64 (v.n ao),.int .i64 (v.n bH),.int .i64 (v.n ar),.int .i64 (v.n bI)] 95)):=kq.out.alloc kq.out.size _;have hE:fi w τ (cH τ w.heap.size .cs):=fi.set _ _ _;have xU:cH τ w.heap.size .cs bb=.bb:=(hE bb bn).trans HH.out.tb;have fM:Kept w w2 τ (mb .cs .bb):=(Kept.of_below N7).trans (fi.refl _ _) (PI.out.weak fun t h=>.inl h);have iF:Kept w (w2.setCell ⟨bb,5,none⟩ (.slice A9 n9 c9:Value)) τ (mb .cs .bb):=fM.trans hE (Kept.of_set (T:=mb .cs .bb) (τ:=cH τ w.heap.size .cs) w2 (p:=⟨bb,5,none⟩) (.inr xU) (.slice A9 n9 c9:Value));have dl:Own (w2.setCell ⟨bb,5,none⟩ (.slice A9 n9 c9:Value)) aA B 95 (.slice A9 n9 c9:Value) (rC++[⟨[.string nm,.slice AL nL cL,.int .i64 (v.n au),.int .i64 (v.n ax),.int .i64 (v.n bp),.int .i64 (v.n ao),.int .i64 (v.n bH),.int .i64 (v.n ar),.int .i64 (v.n bI)],rfl⟩]):=eX.out.setCell (p:=⟨bb,5,none⟩) (fun e=>by
  rcases ZV.out with h|h
  ·rw[h] at e;have:=HH.out.tC bb e;rw[HH.out.tb] at this;cases this
  ·rw[h] at e;injection e with e
   have h0:w.heap.size≤w1.heap.size:=kq.out.size;have h1:w1.heap.size+1=bb:=e;omega) (fun b hb=>hb.elim) _
 have Mb:∀g,(Value.slice A9 n9 c9).ownBlock=some g→cH τ w.heap.size .cs g=.cs:=fun g hg=>by
  rcases ZV.out with h|h
  ·rw[h] at hg;exact(hE g (HH.out.oC.lt g hg).2).trans (HH.out.tC g hg)
  ·rw[h] at hg;injection hg with hg
   have h0:w.heap.size≤w1.heap.size:=kq.out.size;have h1:w1.heap.size+1=g:=hg;exact fu _ _ (by omega)
 refine⟨rfl,_,hE,⟨⟨mn,f,vP,(.slice A9 n9 c9:Value),vS,vN,vD,vV,rC++[⟨[.string nm,.slice AL nL cL,.int .i64 (v.n au),.int .i64 (v.n ax),.int .i64 (v.n bp),.int .i64 (v.n ao),.int .i64 (v.n bH),.int .i64 (v.n ar),.int .i64 (v.n bI)],rfl⟩],rS,rV,?_⟩,HL.out⟩,aww.out.setCell (p:=⟨bb,5,none⟩) Fp _,iF.weak fun t h=>by rcases h with h|h<;>rw[h]<;>simp⟩;exact HH.out.addC iF hE (av4.out.set_ 5 _) dl Mb Gi.out
end Go.Proofs.YtjlhbfbdcfajfaaGreatDoor
