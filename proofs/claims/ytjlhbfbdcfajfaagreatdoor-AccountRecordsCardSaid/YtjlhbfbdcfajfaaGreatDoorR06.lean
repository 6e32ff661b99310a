/- GrX Rec6 -/
import Derived.Test.YtjlhbfbdcfajfaaGreatDoorR05
namespace Go.Proofs.YtjlhbfbdcfajfaaGreatDoor
open Go Go.RowKit
theorem grownBy.reX (w:World) (X:Option Nat):w.grownBy w X:=⟨rfl,rfl,rfl,Nat.le_refl _,fun _ _ _=>rfl⟩
theorem grownBy.trX {a b c:World} {X:Option Nat} (h1:a.grownBy b X) (h2:b.grownBy c X):a.grownBy c X:=
 ⟨h2.os.trans h1.os,h2.tape.trans h1.tape,h2.output.trans h1.output,Nat.le_trans h1.size h2.size,fun k hk dA=>(h2.block k (Nat.lt_of_lt_of_le hk h1.size) dA).trans (h1.block k hk dA)⟩
structure StepX (X:Option Nat) (q i:Nat) (w w':World):Prop where
 b:i≠q→Below w.heap.size w w'
 g:w.grownBy w' X
theorem StepX.re (X:Option Nat) (q i:Nat) (w:World):StepX X q i w w:=⟨fun _=>Below.refl _ _,grownBy.reX _ _⟩
structure SoX (X:Option Nat) (u:Prop) (W w:World):Prop where
 g:W.grownBy w X
 b:u→Below W.heap.size W w
def GivesX (X:Option Nat) (q:Nat) (ops:Array Oper) (Φ:Nat→Value→(Nat→Nat)→World→Prop) (i:Nat) (a':Act) (col:Nat→Nat) (w':World) (a'':Act) (Z6:World):Prop:=∃v,a''=a'.put (gY ops i) v∧StepX X q i w' Z6∧Φ i v (tJ col w' i) Z6
section
variable {P:Program} {ops:Array Oper} {Q:Exit→Act→World→Prop} {n:Nat} {X:Option Nat} {q:Nat}
theorem wp_region_growX (X:Option Nat) (q:Nat) {id:Nat} {a:Act} {W:World} (n r:Nat) (Φ:Nat→Value→(Nat→Nat)→World→Prop) (hm:P.follows .mixedOrders=true) (hb:kH (n+(r+1)) ops=true) (sx:Ul ops n (n+(r+1))=true) (rk:Ev ops n a.tmps.size=true) (aiV:∀i j v c1 w1 c2 w2,i≠j→Φ i v c1 w1→StepX X q j w1 w2→(∀b,b<w1.heap.size→c2 b=c1 b)→Φ i v c2 w2) (bV:∀(Q':Exit→Act→World→Prop) (i:Nat),i<n→∀a' col w',PD ops n a a'→SoX X (i=q) W w'→(∀b,W.heap.size≤b→b<w'.heap.size→col b≠i)→(∀j,waits ops i j=true→Has ops Φ a' col w' j)→wpOp P ops Q' i (GivesX X q ops Φ i a' col w') a' w') (tD:∀(vs:List Value) col w',vs.length=n→W.grownBy w' X→(∀j v,vs[j]?=some v→Φ j v col w')→gd P ops Q (r+1) n (iD (ops.toList.take n) vs a) w') : (Code.region id ops true).wp P Q a W:=by
 have lk:=fF hb;refine mh (n+(r+1)) (fun d a' w'=>(∀i j,d i=true→waits ops i j=true→d j=true)∧ ((d n=true∧∃k s,n<k∧k+s=n+(r+1)∧(∀j,j<k→d j=true)∧(∀j,k≤j→d j=false)∧gd P ops Q s k a' w') ∨((∀j,n≤j→d j=false)∧SoX X (d q=false) W w'∧∃vs col,a'=nw ops d vs n a∧(∀b,W.heap.size≤b→b<w'.heap.size→d (col b)=true)∧∀j,j<n→d j=true→Φ j (vs j) col w'))) hm hb ?_ ?_ ?_
 ·refine⟨fun i j h=>by simp at h,.inr ⟨fun j _=>rfl,⟨rQ W 1 X,fun _=>(Below.refl _ _).drew⟩,fun _=>undef,fun _=>0,?_,fun b h1 h2=>absurd h2 (Nat.not_lt.2 h1),fun j _ h=>by simp at h⟩⟩;have:∀m,nw ops (fun _=>false) (fun _=>undef) m a=a:=by
   intro m;induction m with
   | zero=>rfl
   | succ m ih=>unfold nw;rw[if_neg (by simp),ih]
  exact(this n).symm
 ·intro d a' w' i hi hI CQ hw;obtain⟨yQ,hI⟩:=hI;have adO:∀k j,jL d i k=true→waits ops k j=true→jL d i j=true:=by
   intro k j hdk hkj;by_cases e:k=i
   ·subst e;have:=hw j hkj;by_cases e2:j=k
    ·subst e2;exact ft d j
    ·rw[al d e2];exact this
   ·rw[al d e] at hdk;have:=yQ k j hdk hkj;by_cases e2:j=i
    ·subst e2;exact ft d j
    ·rw[al d e2];exact this
  rcases hI with⟨Pq,k,s,hnk,xT,nR,yM,ht⟩|⟨yM,hB,vs,col,rfl,eN,hΦ⟩
  ·have YF:i=k:=by
    rcases Nat.lt_trichotomy i k with h|h|h
    ·rw[nR i h] at CQ;cases CQ
    ·exact h
    ·have h1:=wZ 9 i hw (fun q hq j=>yQ q j hq) (xi sx hi (by omega) h);rw[yM k (Nat.le_refl _)] at h1;cases h1
   subst YF;cases s with
   | zero=>omega
   | succ s=>
    refine wpOp_mono (fun a'' Z6 h=>⟨adO,.inl ⟨?_,i+1,s,by omega,by omega,fun j hj=>?_,fun j hj=>?_,h⟩⟩) ht
    ·rw[al d (show n≠i by omega)];exact Pq
    ·by_cases e:j=i
     ·subst e;exact ft d j
     ·rw[al d e];exact nR j (by omega)
    ·rw[al d (show j≠i by omega)];exact yM j (by omega)
  ·by_cases ed:n≤i
   ·have JI:i=n:=by
     rcases Nat.lt_or_ge n i with h|h
     ·have h1:=wZ 9 i hw (fun q hq j=>yQ q j hq) (xi sx hi ed h);rw[yM n (Nat.le_refl _)] at h1;cases h1
     ·omega
    subst JI;have bA:∀j,j<i→d j=true:=fun j hj=>wZ 9 i hw (fun k hk j=>yQ k j hk) (xi sx hi (Nat.le_refl _) hj);have he:nw ops d vs i a=iD (ops.toList.take i) ((List.range i).map vs) a:=by
     rw[It (by omega)];exact tj fun j hj=>⟨bA j hj,fun _=>rfl⟩
    rw[he];have ht:=tD ((List.range i).map vs) col w' (by simp) hB.g fun j v hv=>by
     have hj:j<i:=by
      have:=(List.getElem?_eq_some_iff.1 hv).1;simpa using this
     rw[List.getElem?_map,List.getElem?_range hj] at hv;injection hv with hv
     subst hv;exact hΦ j hj (bA j hj)
    refine wpOp_mono (fun a'' Z6 h=>⟨adO,.inl ⟨ft d i,i+1,r,by omega,by omega,fun j hj=>?_,fun j hj=>?_,h⟩⟩) ht
    ·by_cases e:j=i
     ·subst e;exact ft d j
     ·rw[al d e];exact bA j (by omega)
    ·rw[al d (show j≠i by omega)];exact yM j (by omega)
   ·have JI:i<n:=by omega
    refine wpOp_mono (fun a'' Z6 h=>?_) (bV Q i JI _ col w' ⟨(qS n).1,fun t ht=>Dv ht (Nat.le_refl _)⟩ ⟨hB.g,fun e=>hB.b (e▸CQ)⟩ (fun b h1 h2 e=>by have:=eN b h1 h2;rw[e,CQ] at this;cases this) fun j hj=>?_)
    ·obtain⟨v,rfl,bY,hv⟩:=h;refine⟨adO,.inr ⟨fun j hj=>by rw[al d (show j≠i by omega)];exact yM j hj,⟨grownBy.trX hB.g bY.g,fun e=>?_⟩,_,tJ col w' i,Du rk CQ (Nat.le_refl _) JI,fun b h1 h2=>?_,fun j hj hdj=>?_⟩⟩
     ·by_cases e2:q=i
      ·rw[e2,ft] at e;cases e
      ·rw[al d e2] at e;exact(hB.b e).trans ((bY.b (fun h=>e2 h.symm)).mono hB.g.size)
     ·by_cases e:b<w'.heap.size
      ·rw[fE e];by_cases e2:col b=i
       ·rw[e2];exact ft d i
       ·rw[al d e2];exact eN b h1 e
      ·rw[nW (by omega)];exact ft d i
     by_cases e:j=i
     ·subst e;simp only[if_true];exact hv
     ·rw[al d e] at hdj;simp only[if_neg e];exact aiV j i _ _ _ _ _ e (hΦ j hj hdj) bY fun b hb=>if_pos hb
    ·have hdj:=hw j hj;have hjn:j<n:=by
      rcases Nat.lt_or_ge j n with h|h
      ·exact h
      ·rw[yM j h] at hdj;cases hdj
     exact⟨vs j,fun t ht=>Dw rk hdj ht (Nat.le_refl _) hjn,hΦ j hjn hdj⟩
 ·intro d a' w' hI bA;obtain⟨_,⟨_,k,s,hnk,xT,_,yM,ht⟩|⟨yM,_⟩⟩:=hI
  ·have:s=0:=by
    rcases Nat.eq_zero_or_pos s with h|h
    ·exact h
    ·have h1:=bA k (by omega);rw[yM k (Nat.le_refl _)] at h1;cases h1
   subst this;exact ht
  ·have h1:=bA n (by omega);rw[yM n (Nat.le_refl _)] at h1;cases h1
theorem gwX_runs {Φ:Nat→Value→(Nat→Nat)→World→Prop} {i:Nat} {o:Oper} {a:Act} {col:Nat→Nat} {w w':World} (v:Value) (ho:ops[i]?=some o) (hw:Region.wanted o (yielded ops a.tmps)=true) (hr:(execOp a.eval o).run P w=.ok (.value v) w') (hb:StepX X q i w w') (h:Φ i v (tJ col w i) w'):wpOp P ops Q i (GivesX X q ops Φ i a col w) a w:=by
 refine JW ho hw ?_;unfold Oper.wp;rw[hr,Oper.upon_value];exact⟨v,by unfold gY;rw[ho];rfl,hb,h⟩
def JobX (X:Option Nat) (q:Nat) (P:Program) (ops:Array Oper) (gs:List Gv) (out:List (Nat×Value)) (a0:Act) (W:World) (i:Nat):Prop:=
 ∀(Q:Exit→Act→World→Prop) (a:Act) (col:Nat→Nat) (w:World),PD ops gs.length a0 a→SoX X (i=q) W w→WKn a (knG ops gs out i)→Hid (∀b,W.heap.size≤b→b<w.heap.size→col b≠i)→
  Hid (∀j,waits ops i j=true→Has ops (phi gs) a col w j)→wpOp P ops Q i (GivesX X q ops (phi gs) i a col w) a w
theorem stepX {a:Act} {W:World} {gs:List Gv} {out:List (Nat×Value)} {FN:List Nat} (h0:WKn a out) (hp:∀w,((List.range gs.length).filter (fun i=>!FN.contains i)).map (prG P ops gs out w)=((List.range gs.length).filter (fun i=>!FN.contains i)).map fun i=>.ok (.value (valG gs i)) w) (hj:AllJ (JobX X q P ops gs out a W) FN) (tB:(List.range gs.length).all (fun i=>FN.contains i||puG ops gs out i)=true) (Q':Exit→Act→World→Prop) (i:Nat) (hi:i<gs.length) (a':Act) (col:Nat→Nat) (w':World) (ho:PD ops gs.length a a') (hb:SoX X (i=q) W w') (eN:∀b,W.heap.size≤b→b<w'.heap.size→col b≠i) (ac:∀j,waits ops i j=true→Has ops (phi gs) a' col w' j) : wpOp P ops Q' i (GivesX X q ops (phi gs) i a' col w') a' w':=by
 have hk:=WKn.of ho h0 ac;cases hc:FN.contains i with
 | false=>
  have hpu:=List.all_eq_true.1 tB i (List.mem_range.2 hi);rw[hc,Bool.false_or] at hpu;have h1:=List.map_inj_left.1 (hp w') i (List.mem_filter.2 ⟨List.mem_range.2 hi,by rw[hc];rfl⟩);unfold puG at hpu;simp only[Bool.and_eq_true] at hpu;obtain⟨⟨hgk,hv⟩,hq⟩:=hpu;cases ho':ops[i]? with
  | none=>rw[ho'] at hq;cases hq
  | some o=>
   rw[ho'] at hq;have hw:=wanted_gd ho' hgk ac;unfold prG at h1;simp only[ho'] at h1;cases Co:gdG ops gs i with
   | true=>
    rw[Co] at h1 hw hq;simp only[Bool.not_true,Bool.false_or,Bool.and_eq_true] at hq;refine gwX_runs (valG gs i) ho' hw ?_ (StepX.re _ _ _ _) (phi_val hv _ _);rw[exec_evL hk hq.2];exact h1
   | false=>
    rw[Co] at h1 hw;simp only[Bool.false_eq_true,if_false] at h1;have hu:valG gs i=undef:=by injection h1 with h1;injection h1 with h1;exact h1.symm
    unfold wpOp;rw[ho'];simp only[hw,Bool.false_eq_true,if_false];exact⟨undef,by unfold gY;rw[ho'];rfl,StepX.re _ _ _ _,hu▸phi_val hv _ _⟩
 | true=>
  have hmem:i∈FN:=by simpa using hc
  exact hj.get i hmem Q' a' col w' ho hb hk (zH eN) (zH ac)
theorem wp_regX (X:Option Nat) (q:Nat) {id:Nat} {a:Act} {W:World} {m:Nat} {l:List (Nat×Value)} (hf:Fr m l a) (gs:List Gv) (r:Nat) (FN:List Nat) (hp:∀w,((List.range gs.length).filter (fun i=>!FN.contains i)).map (prG P ops gs l w)=((List.range gs.length).filter (fun i=>!FN.contains i)).map fun i=>.ok (.value (valG gs i)) w) (hj:AllJ (JobX X q P ops gs l a W) FN) (idx2:List Nat) (hm:AllJ (fun i=>∀v c1 w1 c2 w2,phi gs i v c1 w1→w1.grownBy w2 X→(∀b,b<w1.heap.size→c2 b=c1 b)→phi gs i v c2 w2) idx2) (tD:∀a' col w',W.grownBy w' X→Fr m (knE ops gs l) a'→(∀j,j<gs.length→Has ops (phi gs) a' col w' j)→gd P ops Q r gs.length a' w') (tB:(List.range gs.length).all (fun i=>FN.contains i||puG ops gs l i)=true:=by kernel_rfl) (hidx2:(List.range gs.length).all (fun i=>(i==q)||(isV gs[i]?||idx2.contains i))=true:=by kernel_rfl) (iW:kH (gs.length+r) ops=true:=by kernel_rfl) (rk:Ev ops gs.length m=true:=by kernel_rfl) (hdr:(decide (0<r)&&Ul ops gs.length (gs.length+r)&&P.follows .mixedOrders)=true:=by kernel_rfl):(Code.region id ops true).wp P Q a W:=by
 have lk:=fF iW;have hdist':Ev ops gs.length a.tmps.size=true:=by rw[hf.s];exact rk
 ·simp only[Bool.and_eq_true,decide_eq_true_eq] at hdr;obtain⟨⟨hr,sx⟩,Xh⟩:=hdr;obtain⟨r,rfl⟩:∃q,r=q+1:=⟨r-1,by omega⟩;refine wp_region_growX X q gs.length r (phi gs) Xh iW sx hdist' (fun i j v c1 w1 c2 w2 hij h hs hc=>?_) (stepX hf.k hp hj tB) (fun vs col w' hl hb hΦ=>?_)
  ·by_cases hjq:j=q
   ·have hiq:(i==q)=false:=by
     rw[←hjq];exact beq_false_of_ne hij
    have hi:i<gs.length:=by
     rcases Nat.lt_or_ge i gs.length with h1|h1
     ·exact h1
     ·unfold phi at h;rw[List.getElem?_eq_none h1] at h;exact h.elim
    have:=List.all_eq_true.1 hidx2 i (List.mem_range.2 hi);rw[hiq,Bool.false_or,Bool.or_eq_true] at this;rcases this with h1|h1
    ·unfold phi at h ⊢;cases e:gs[i]? with
     | none=>rw[e] at h;exact h.elim
     | some g=>
      rw[e] at h h1;cases g with
      | v u=>exact h
      | p Φ m=>cases h1
    ·exact hm.get i (by simpa using h1) v c1 w1 c2 w2 h hs.g hc
   ·exact phi_mono h (hs.b hjq) hc
  obtain⟨h1,h2,h3⟩:=putL_facts hdist' (by omega) hl;have hH:∀j,j<gs.length→Has ops (phi gs) (iD (ops.toList.take gs.length) vs a) col w' j:=fun j hj=>by
   have hj':j<vs.length:=by omega
   exact⟨vs[j],fun t ht=>(h3 j t hj ht).trans (List.getElem?_eq_getElem hj'),hΦ j _ (List.getElem?_eq_getElem hj')⟩
  exact tD _ col w' hb ⟨h1.1.trans hf.d,h2.trans hf.s,WKn.all h1 hf.k hH⟩ hH
end
section
variable {P:Program} {ops:Array Oper} {gs:List Gv} {out:List (Nat×Value)} {a0:Act} {W:World} {i q:Nat} {X:Option Nat} {o:Oper}
theorem StepX.of {X:Option Nat} {q i:Nat} {w w':World} (h:Below w.heap.size w w'):StepX X q i w w':=⟨fun _=>h,sD h (Nat.le_refl _) X⟩
theorem ldX {t:TypeId} {x:Operand} {p:Addr} {v:Value} (hc:W.cell? p=some v) (hpX:some p.block≠X) (FS:(ops[i]?).map (·.op)=some (.load t x):=by rfl) (hx:evL (knG ops gs out i) x=.pointer (some p):=by kernel_rfl) (ed:inL (knG ops gs out i) x=true:=by kernel_rfl) (ht:((P.underlying t).map fun d=>match d with|.struct _|.array _ _=>true|_=>false)=some false:=by kernel_rfl) (hv:gs[i]?=some (gV v):=by rfl) (hg:gdK ops gs i=true:=by kernel_rfl) (hg2:gdG ops gs i=true:=by kernel_rfl):JobX X q P ops gs out a0 W i:=by
 intro Q a col w _ hb hk _ hd;cases ho:ops[i]? with
 | none=>rw[ho] at FS;cases FS
 | some o=>
  rw[ho] at FS;injection FS with FS
  have hc':w.cell? p=some v:=by
   rw[←hc];unfold World.cell?;rw[hb.g.block p.block (cell_lt hc) hpX]
  refine gwX_runs v ho ((wanted_gd ho hg hd.out).trans hg2) ?_ (StepX.re _ _ _ _) (by unfold phi;rw[hv];rfl);unfold execOp;simp only[FS,evL_eq hk ed,hx,Sem.run_bind,loadG hc' ht,Result.andThen_ok,Sem.run_pure]
theorem lmX {t:TypeId} {x:Operand} {p:Addr} {cs:List Value} (hc:eT W p cs) (hp:p.block<W.heap.size) (hpX:some p.block≠X) (FS:(ops[i]?).map (·.op)=some (.load t x):=by rfl) (hx:evL (knG ops gs out i) x=.pointer (some p):=by kernel_rfl) (ed:inL (knG ops gs out i) x=true:=by kernel_rfl) (h1:aggB P t=some true:=by kernel_rfl) (h2:(P.info? t).map (·.size)=some cs.length:=by kernel_rfl) (hv:gs[i]?=some (gV (.agg cs.toArray)):=by rfl) (hg:gdK ops gs i=true:=by kernel_rfl) (hg2:gdG ops gs i=true:=by kernel_rfl):JobX X q P ops gs out a0 W i:=by
 intro Q a col w _ hb hk _ hd;cases ho:ops[i]? with
 | none=>rw[ho] at FS;cases FS
 | some o=>
  rw[ho] at FS;injection FS with FS
  have hc':eT w p cs:=hc.keep (aD.grown hb.g) ⟨hp,hpX⟩;refine gwX_runs (.agg cs.toArray) ho ((wanted_gd ho hg hd.out).trans hg2) ?_ (StepX.re _ _ _ _) (by unfold phi;rw[hv];rfl);unfold execOp;simp only[FS,evL_eq hk ed,hx,Sem.run_bind,loadM hc' h1 h2,Result.andThen_ok,Sem.run_pure]
theorem ixX {t e:TypeId} {sz bytes b o1 n k:Nat} (c:Nat) (ht:cW P t e sz bytes) (fI:k<n) (ho:ops[i]?=some o:=by rfl) (hv:gs[i]?=some (gV (.pointer (some ⟨b,o1+k*sz,none⟩))):=by rfl) (ed:opsIn (knG ops gs out i) o.op=true:=by kernel_rfl) (hr:execOp (evL (knG ops gs out i)) o=semV (Instr.indexAt t (.slice (some ⟨b,o1,none⟩) n c) (.int .i64 (k:Int))):=by kernel_rfl) (hg:gdK ops gs i=true:=by kernel_rfl) (hg2:gdG ops gs i=true:=by kernel_rfl):JobX X q P ops gs out a0 W i:=by
 intro Q a col w _ hb hk _ hd;refine gwX_runs _ ho ((wanted_gd ho hg hd.out).trans hg2) (runG hk ed ?_) (StepX.re _ _ _ _) (by unfold phi;rw[hv];rfl);rw[hr];unfold semV;simp only[Sem.run_bind,ixF ht fI,Result.andThen_ok,Sem.run_pure]
theorem wrX {k n:Nat} {t:TypeId} {cs:Array Value} (YF:k=i:=by rfl) (ho:ops[i]?=some o:=by rfl) (hv:gs[i]?=some (WgW W k t cs n):=by rfl) (ed:opsIn (knG ops gs out i) o.op=true:=by kernel_rfl) (hr:∀w,(execOp (evL (knG ops gs out i)) o).run P w=.ok (.value (.slice (some ⟨w.heap.size,0,none⟩) n n)) (w.alloc (.cells cs t)):=by intro w;kernel_rfl) (hg:gdK ops gs i=true:=by kernel_rfl) (hg2:gdG ops gs i=true:=by kernel_rfl):JobX X q P ops gs out a0 W i:=by
 intro Q a col w _ hb hk _ hd;subst YF;refine gwX_runs _ ho ((wanted_gd ho hg hd.out).trans hg2) (runG hk ed (hr w)) (StepX.of (aT _ _)) ?_;unfold phi;rw[hv];exact⟨w.heap.size,rfl,hb.g.size,nW (Nat.le_refl _),aK.new _ _ _⟩
theorem mwX {k n:Nat} {t:TypeId} {cs:Array Value} (hXW:∀b,X=some b→b<W.heap.size) (hv:gs[i]?=some (WgW W k t cs n):=by rfl):∀v c1 w1 c2 w2,phi gs i v c1 w1→w1.grownBy w2 X→(∀b,b<w1.heap.size→c2 b=c1 b)→phi gs i v c2 w2:=by
 intro v c1 w1 c2 w2 h hg hc;unfold phi at h ⊢;rw[hv] at h ⊢;obtain⟨g,e,h1,h2,h3⟩:ΦW W k t cs n v c1 w1:=h;exact⟨g,e,h1,by rw[hc g h3.lt];exact h2,h3.grown hg fun e=>Nat.not_lt_of_le h1 (hXW g e.symm)⟩
def ΦO {α:Type} [bG α] (W:World) (X:Option Nat) (S:Nat→Prop) (base:Nat) (e:TypeId) (ys:List α) (v:Value) (_:Nat→Nat) (w:World):Prop:=Own w S base e v ys∧(v.ownBlock=X∨∃b,v.ownBlock=some b∧W.heap.size≤b)
theorem ΦO.mono {α:Type} [bG α] {W w1 w2:World} {X:Option Nat} {S:Nat→Prop} {base:Nat} {e:TypeId} {ys:List α} {v:Value} {c1 c2:Nat→Nat} (h:ΦO W X S base e ys v c1 w1) (hb:Below w1.heap.size w1 w2) (_:∀b,b<w1.heap.size→c2 b=c1 b):ΦO W X S base e ys v c2 w2:=⟨h.1.below hb,h.2⟩
abbrev WgO {α:Type} [bG α] (W:World) (X:Option Nat) (S:Nat→Prop) (base:Nat) (e:TypeId) (ys:List α):Gv:=.p (ΦO W X S base e ys) ΦO.mono
theorem WapX {α:Type} [bG α] {S:Nat→Prop} {base bytes nn tj k:Nat} {tt e ty:TypeId} {v:Value} {xs ys:List α} {ds:List Value} {s:Operand} (j:Nat) (ht:cW P tt e (bG.sz α) bytes) (dB:Own W S base e v xs) (hX:v.ownBlock=X) (nT:base≤W.heap.size) (CP:Flat W S ds ys) (hSW:∀b,S b→b<W.heap.size) (h1:∀u∈ds,u.oneCell'=true) (hn:nn=ys.length) (hl:(xs.length+ys.length)*(bytes+1)≤140737488355328) (hiq:q=i:=by rfl) (hv:gs[i]?=some (WgO W X S base e (xs++ys)):=by rfl) (ho:ops[i]?=some o:=by rfl) (FS:o.op=.call { callee:=.builtin .append,args:=#[s,.tmp tj],argTypes:=#[tt,tt] }:=by rfl) (Ff:evL (knG ops gs out i) s=v:=by kernel_rfl) (hsi:inL (knG ops gs out i) s=true:=by kernel_rfl) (hj:gY ops j=some tj:=by rfl) (hgj:gs[j]?=some (WgW W k ty ds.toArray nn):=by rfl) (hw:waits ops i j=true:=by kernel_rfl) (hg:gdK ops gs i=true:=by kernel_rfl) (hg2:gdG ops gs i=true:=by kernel_rfl):JobX X q P ops gs out a0 W i:=by
 intro Q a col w _ hb hk _ hd;subst hiq;have xU:=hb.b rfl;obtain⟨v0,hv0,hΦ⟩:=hd.out j hw;unfold phi at hΦ;rw[hgj] at hΦ;obtain⟨g,rfl,_,_,ko⟩:ΦW W k ty ds.toArray nn v0 col w:=hΦ;have he:a.eval (.tmp tj)=.slice (some ⟨g,0,none⟩) nn nn:=by
  show a.tmps.getD tj undef=_;rw[Array.getD_eq_getD_getElem?,hv0 tj hj];rfl
 refine JW ho ((wanted_gd ho hg hd.out).trans hg2) ?_;refine cw (α:=α) s (.tmp tj) tt FS bytes ht ((evL_eq hk hsi).trans Ff) (dB.below xU) ⟨g,0,none⟩ nn nn ds ys he hn (CP.keep (fun _ h=>h) ((aD.of_below xU).sub fun b h=>hSW b h)) (fun j u hj=>?_) h1 hl (Nat.le_trans nT xU.size) fun v' w' q1 q2 q3=>⟨v',by unfold gY;rw[ho];rfl,⟨fun h=>absurd rfl h,hX▸q2⟩,?_⟩
 ·rw[addr_add,Nat.zero_add,ko.cell j];simpa using hj
 ·unfold phi;rw[hv];refine⟨q1,q3.imp (fun h=>h.trans hX) fun h=>⟨_,h,xU.size⟩⟩
theorem gotO {α:Type} [bG α] {a:Act} {w:World} {col:Nat→Nat} {S:Nat→Prop} {base:Nat} {ty:TypeId} {ys:List α} (hH:∀j,j<gs.length→Has ops (phi gs) a col w j) (j t:Nat) (hg:gs[j]?=some (WgO W X S base ty ys):=by rfl) (ht:gY ops j=some t:=by rfl) (hj:decide (j<gs.length)=true:=by kernel_rfl):∃A n c,a.tmps[t]?=some (.slice A n c)∧Own w S base ty (.slice A n c) ys∧((Value.slice A n c).ownBlock=X∨∃b,(Value.slice A n c).ownBlock=some b∧W.heap.size≤b):=by
 obtain⟨v,hv,hΦ⟩:=hH j (of_decide_eq_true hj);unfold phi at hΦ;rw[hg] at hΦ;obtain⟨h1,h2⟩:ΦO W X S base ty ys v col w:=hΦ;obtain⟨A,n,c,rfl,_⟩:=h1.slice;exact⟨A,n,c,hv t ht,h1,h2⟩
end
section
variable {P:Program} {Q:Exit→Act→World→Prop} {m:Nat} {l:List (Nat×Value)} {a:Act} {w:World} {xs:List Code}
theorem lRX {id:Nat} {ops:Array Oper} (hf:Fr m l a) (X:Option Nat) (q:Nat) (gs:List Gv) (r:Nat) (FN idx2:List Nat) (hj:AllJ (JobX X q P ops gs l a w) FN) (hm:AllJ (fun i=>∀v c1 w1 c2 w2,phi gs i v c1 w1→w1.grownBy w2 X→(∀b,b<w1.heap.size→c2 b=c1 b)→phi gs i v c2 w2) idx2) (tD:∀a' col w',w.grownBy w' X→Fr m (knE ops gs l) a'→(∀j,j<gs.length→Has ops (phi gs) a' col w' j)→gd P ops (Exit.then (wpL P xs Q) Q) r gs.length a' w') (hp:∀w,((List.range gs.length).filter (fun i=>!FN.contains i)).map (prG P ops gs l w)=((List.range gs.length).filter (fun i=>!FN.contains i)).map fun i=>.ok (.value (valG gs i)) w:=by intro w;kernel_rfl) (tB:(List.range gs.length).all (fun i=>FN.contains i||puG ops gs l i)=true:=by kernel_rfl) (hidx2:(List.range gs.length).all (fun i=>(i==q)||(isV gs[i]?||idx2.contains i))=true:=by kernel_rfl) (iW:kH (gs.length+r) ops=true:=by kernel_rfl) (rk:Ev ops gs.length m=true:=by kernel_rfl) (hdr:(decide (0<r)&&Ul ops gs.length (gs.length+r)&&P.follows .mixedOrders)=true:=by kernel_rfl):wpL P (.region id ops true::xs) Q a w:=wp_regX X q hf gs r FN hp hj idx2 hm tD tB hidx2 iW rk hdr
end
section
variable {S S2:Nat→Prop} {w:World} {va vb:Value}
set_option maxRecDepth 20000 in
theorem eq14_ok {x y:RecV} (h1:SV w S va x) (h2:SV w S2 vb y) (hS:∀b,S b→b<w.heap.size) (eF:∀b,S2 b→b<w.heap.size):Calls Tryz.prog 26 #[va,vb] w (gy w (.bool (decide (x=y)))):=by
 obtain⟨_,rfl,A,n,c,rfl,r1⟩:=h1;obtain⟨_,rfl,A2,n2,c2,rfl,r2⟩:=h2;have l1:=r1.len;have l2:=r2.len;have hm:=r1.max;refine lIn Tryz.func26 [(0,.agg #[.int .i64 x.prec,.slice A n c,.bool x.doubt]),(1,.agg #[.int .i64 y.prec,.slice A2 n2 c2,.bool y.doubt])] fun a hf=>?_;refine WlR hf [gB w 0 42 #[.int .i64 x.prec,.slice A n c,.bool x.doubt],gB w 1 42 #[.int .i64 y.prec,.slice A2 n2 c2,.bool y.doubt],gV (.bool false)] 0 [0,1] ⟨bxG,bxG,trivial⟩ fun a col w1 hb hf hH=>?_;obtain⟨g,e2,hg,_,k1⟩:=gotB hH 0 2;obtain⟨g2,e3,hg2,_,k2⟩:=gotB hH 1 3;have Fj:=((hf.c e2).c e3).sub [(2,.pointer (some ⟨g,0,none⟩)),(3,.pointer (some ⟨g2,0,none⟩))];obtain⟨b,hp⟩:∃b,(x.prec !=y.prec)=b:=⟨_,rfl⟩;obtain⟨q,hq⟩:∃b,(!(x.doubt==y.doubt))=b:=⟨_,rfl⟩;obtain⟨d,hd⟩:∃b,((n:Int) !=(n2:Int))=b:=⟨_,rfl⟩;cases b
 case true=>
  have dA:x≠y:=fun e=>by rw[e] at hp;simp at hp
  exact WlP Fj [cl (k1.at 0),cl (k2.at 0),tb 4 hp] [(26,.bool true)] fun a hf=>WlT hf (WlP hf [] [(4,.bool false)] fun a hf=>lRet (rt1 hf ⟨by rw[decide_eq_false dA],hb⟩))
 cases q
 case true=>
  have dA:x≠y:=fun e=>by rw[e] at hq;simp at hq
  exact WlP Fj [cl (k1.at 0),cl (k2.at 0),tb 4 hp,cl (k1.at 2),cl (k2.at 2),tb 10 hq] [(26,.bool true)] fun a hf=>WlT hf (WlP hf [] [(4,.bool false)] fun a hf=>lRet (rt1 hf ⟨by rw[decide_eq_false dA],hb⟩))
 cases d
 case true=>
  have dA:x≠y:=fun e=>by rw[bne_iff_ne] at hd;exact hd (by rw[←l1,←l2,e])
  exact WlP Fj [cl (k1.at 0),cl (k2.at 0),tb 4 hp,cl (k1.at 2),cl (k2.at 2),tb 10 hq,cl (k1.at 1),cl (k2.at 1),tb 19 hd] [(26,.bool true)] fun a hf=>WlT hf (WlP hf [] [(4,.bool false)] fun a hf=>lRet (rt1 hf ⟨by rw[decide_eq_false dA],hb⟩))
 have hn:n=n2:=by
  have:(n:Int)=n2:=by simpa using hd
  omega
 have hc:x.prec=y.prec:=by simpa using hp
 have hc2:x.doubt=y.doubt:=by simpa using hq
 subst hn;refine WlP Fj [cl (k1.at 0),cl (k2.at 0),tb 4 hp,cl (k1.at 2),cl (k2.at 2),tb 10 hq,cl (k1.at 1),cl (k2.at 1),tb 19 hd] [(2,.pointer (some ⟨g,0,none⟩)),(3,.pointer (some ⟨g2,0,none⟩)),(26,.bool false)] fun a hf=>WlF hf (WlP hf [] [(2,.pointer (some ⟨g,0,none⟩)),(3,.pointer (some ⟨g2,0,none⟩)),(5,.int .i64 0)] fun a hf=>?_);refine lLoop (fun a w'=>∃k:Nat,k≤n∧Fr 46 [(2,.pointer (some ⟨g,0,none⟩)),(3,.pointer (some ⟨g2,0,none⟩)),(5,.int .i64 k)] a∧x.votes.take k=y.votes.take k∧Below w1.heap.size w1 w') (fun a _=>n-(slotI 5 a).toNat) ⟨0,Nat.zero_le _,hf,rfl,Below.refl _ _⟩ ?_;rintro a0 w2 ⟨k,hk,QR,he,bY⟩;have b2:=hb.trans (bY.mono hb.size);have t1:∀{b},S b→b<w2.heap.size:=fun h=>Nat.lt_of_lt_of_le (hS _ h) b2.size;have t2:∀{b},S2 b→b<w2.heap.size:=fun h=>Nat.lt_of_lt_of_le (eF _ h) b2.size;by_cases bn:k<n
 ·obtain⟨b1,o1,u,_,rfl,q1,hx,⟨A3,n3,c3,rfl,rx⟩,e1⟩:=(r1.below b2 hS).stA bn;obtain⟨b3,o2,v,_,rfl,q2,hy,⟨A4,n4,c4,rfl,ry⟩,e2⟩:=(r2.below b2 eF).stA bn;refine WlP QR [cl ((k1.keep bY).at 1),tb 4 (ltT bn)] [(2,.pointer (some ⟨g,0,none⟩)),(3,.pointer (some ⟨g2,0,none⟩)),(5,.int .i64 k),(31,.bool true)] fun a hf=>WlT hf (lBlk ?_);refine WlR hf [gV (.pointer (some ⟨g,1,none⟩)),gV (.slice (some ⟨b1,o1,none⟩) n c),gV (.int .i64 k),gV (.pointer (some ⟨b1,o1+k*2,none⟩)),gV (.agg #[.int .i64 u.cont,.slice A3 n3 c3]),gV (.pointer (some ⟨g2,1,none⟩)),gV (.slice (some ⟨b3,o2,none⟩) n c2),gV (.int .i64 k),gV (.pointer (some ⟨b3,o2+k*2,none⟩)),gV (.agg #[.int .i64 v.cont,.slice A4 n4 c4]),gV (.bool (decide (u=v)))] 1 [1,3,4,6,8,9,10]
   ⟨ldG ((k1.keep bY).at 1),ixG c Tryz.votesW bn,lmG e1 (t1 q1),ldG ((k2.keep bY).at 1),ixG c2 Tryz.votesW bn,lmG e2 (t2 q2),cvG fun w' xU=>eq13_ok (S:=S) (S2:=S2) ⟨_,rfl,A3,n3,c3,rfl,rx.below xU fun _=>t1⟩ ⟨_,rfl,A4,n4,c4,rfl,ry.below xU fun _=>t2⟩ (fun b h=>Nat.lt_of_lt_of_le (t1 h) xU.size) (fun b h=>Nat.lt_of_lt_of_le (t2 h) xU.size),trivial⟩ fun a col w3 ey hf _=>tPu hf 45 fun a hf=>lIfB (b:=!decide (u=v)) hf (fun huv=>?_) fun huv=>?_
  ·have dA:x≠y:=fun e=>ne_of_at hx hy (by simpa using huv) (by rw[e]);exact WlP hf [] [(4,.bool false)] fun a hf=>lRet (rt1 hf ⟨by rw[decide_eq_false dA],b2.trans (ey.mono b2.size)⟩)
  ·have e:u=v:=by simpa using huv
   subst e;refine WlP hf [tl 1 (wrap1 (k:=k) (by omega))] [(2,.pointer (some ⟨g,0,none⟩)),(3,.pointer (some ⟨g2,0,none⟩)),(5,.int .i64 (k+1:Nat))] fun a' hf'=>⟨⟨k+1,bn,hf',by rw[du hx,du hy,he],bY.trans (ey.mono bY.size)⟩,?_⟩;rw[QR.slotI (t:=5) (x:=k),hf'.slotI (t:=5) (x:=(k+1:Nat))];omega
 ·have uP:x=y:=by
   have:=eq_of_take he (by omega) (by omega);cases x;cases y;simp_all
  exact WlP QR [cl ((k1.keep bY).at 1),tb 4 (ltF bn)] [(31,.bool false)] fun a hf=>WlF hf (lExit (WlP hf [] [(4,.bool true)] fun a hf=>lRet (rt1 hf ⟨by rw[decide_eq_true uP],b2⟩)))
end
end Go.Proofs.YtjlhbfbdcfajfaaGreatDoor
