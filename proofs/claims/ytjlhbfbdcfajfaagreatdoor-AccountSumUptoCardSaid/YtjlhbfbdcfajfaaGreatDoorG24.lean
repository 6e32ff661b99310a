/- Grow Grow2 Fld -/
import Derived.Test.YtjlhbfbdcfajfaaGreatDoorG18
import Derived.Test.YtjlhbfbdcfajfaaGreatDoorG01
import Derived.Test.YtjlhbfbdcfajfaaGreatDoorG08
import Derived.Test.YtjlhbfbdcfajfaaGreatDoorG23
/- A region that draws its order and in which memory only grows, but for its last operation: each operation once, whatever the order. -/
namespace Go.Proofs.YtjlhbfbdcfajfaaGreatDoor
open Go Go.RowKit

/-- an operation waits for earlier ones alone -/
def backOk (n : Nat) (ops : Array Oper) : Bool :=
  ops.size == n && (List.range n).all fun i => ((ops[i]?).map fun o => o.after.all fun e => !Region.binds .any e || decide (e.on < i)).getD false
/-- operation i waits for operation j -/
def waits (ops : Array Oper) (i j : Nat) : Bool := ((ops[i]?).map fun o => o.after.any fun e => Region.binds .any e && e.on == j).getD false
def updB (d : Nat → Bool) (i : Nat) (j : Nat) : Bool := if j = i then true else d j
theorem updB_self (d : Nat → Bool) (i : Nat) : updB d i i = true := if_pos rfl
theorem updB_other (d : Nat → Bool) {i j : Nat} (h : j ≠ i) : updB d i j = d j := if_neg h

section
variable {P : Program} {ops : Array Oper} {Q : Exit → Act → World → Prop} {n : Nat}

theorem backOk_size (h : backOk n ops = true) : ops.size = n := by
  simp only [backOk, Bool.and_eq_true, beq_iff_eq] at h
  exact h.1
theorem backOk_each (h : backOk n ops = true) {i : Nat} {x : Oper} (hx : ops[i]? = some x) : ∀ e ∈ x.after, Region.binds .any e = true → e.on < i := by
  have hi : i < n := by rw [← backOk_size h]; exact (Array.getElem?_eq_some_iff.1 hx).1
  simp only [backOk, Bool.and_eq_true] at h
  have := List.all_eq_true.1 h.2 i (List.mem_range.2 hi)
  rw [hx] at this
  simp only [Option.map_some, Option.getD_some, Array.all_eq_true_iff_forall_mem, Bool.or_eq_true, Bool.not_eq_true', decide_eq_true_eq] at this
  exact fun e he hb => (this e he).resolve_left (by simp [hb])

theorem getD_updB {listed : Array Bool} {i : Nat} (hi : i < listed.size) : (fun j => (listed.setIfInBounds i true).getD j false) = updB (fun j => listed.getD j false) i := by
  funext j
  unfold updB
  by_cases h : j = i
  · subst h
    rw [if_pos rfl, Array.getD_eq_getD_getElem?, Array.getElem?_setIfInBounds_self_of_lt hi]; rfl
  · rw [if_neg h]
    exact getD_set_ne false (Ne.symm h)

theorem wpAny_inv (Inv : (Nat → Bool) → Act → World → Prop) (hb : backOk n ops = true)
    (hstep : ∀ d a w i, i < n → Inv d a w → d i = false → (∀ j, waits ops i j = true → d j = true) → wpOp P ops Q i (Inv (updB d i)) a w)
    (hend : ∀ d a w, Inv d a w → (∀ i, i < n → d i = true) → Q .normal a w) :
    ∀ (fuel : Nat) (listed : Array Bool) (a : Act) (w : World), listed.size = n → (List.range n).countP (fun i => !listed.getD i false) ≤ fuel → Inv (fun j => listed.getD j false) a w → wpAny P .any ops Q fuel listed a w := by
  have hall : ∀ (listed : Array Bool), listed.size = n → Region.ready .any ops listed = [] → ∀ i, i < n → listed.getD i false = true := by
    intro listed hs hr
    have : ∀ m i, i < m → i < n → listed.getD i false = true := by
      intro m
      induction m with
      | zero => intro i hi; omega
      | succ m ih =>
        intro i hi hin
        by_cases hl : listed.getD i false = true
        · exact hl
        · exfalso
          have hlt : i < ops.size := by rw [backOk_size hb]; exact hin
          have : i ∈ Region.ready .any ops listed := by
            refine mem_ready.2 ⟨?_, ops[i], Array.getElem?_eq_getElem hlt, fun e he hb' => ?_⟩
            · rw [Array.getD_eq_getD_getElem?, Array.getElem?_eq_getElem (by omega)] at hl ⊢
              simpa using hl
            · have h1 := backOk_each hb (Array.getElem?_eq_getElem hlt) e he hb'
              exact ih _ (by omega) (by omega)
          rw [hr] at this
          cases this
    exact fun i hi => this (i + 1) i (by omega) hi
  intro fuel
  induction fuel with
  | zero =>
    intro listed a w hs hc hi
    have hd : ∀ i, i < n → listed.getD i false = true := by
      intro i hin
      have := List.countP_eq_zero.1 (Nat.le_zero.1 hc) i (List.mem_range.2 hin)
      simpa using this
    refine ⟨?_, hend _ a w hi hd⟩
    apply List.eq_nil_iff_forall_not_mem.2
    intro j hj
    obtain ⟨h1, o, ho, _⟩ := mem_ready.1 hj
    have hjn : j < n := by rw [← backOk_size hb]; exact (Array.getElem?_eq_some_iff.1 ho).1
    have h2 := hd j hjn
    rw [Array.getD_eq_getD_getElem?, Array.getElem?_eq_getElem (by omega)] at h1 h2
    simp only [Option.getD_some] at h1 h2
    rw [h1] at h2; cases h2
  | succ fuel ih =>
    intro listed a w hs hc hi
    refine ⟨fun h0 => hend _ a w hi (hall listed hs h0), fun i hri => ?_⟩
    obtain ⟨h1, o, ho, h2⟩ := mem_ready.1 hri
    have hin : i < n := by rw [← backOk_size hb]; exact (Array.getElem?_eq_some_iff.1 ho).1
    have h3 : listed.getD i false = false := by
      rw [Array.getD_eq_getD_getElem?, Array.getElem?_eq_getElem (by omega)] at h1 ⊢
      simpa using h1
    have hst := hstep _ a w i hin hi h3 (fun j hj => by
      unfold waits at hj
      rw [ho] at hj
      simp only [Option.map_some, Option.getD_some] at hj
      rw [← Array.any_toList, List.any_eq_true] at hj
      obtain ⟨e, he, hj⟩ := hj
      have he := Array.mem_toList_iff.1 he
      simp only [Bool.and_eq_true, beq_iff_eq] at hj
      rw [← hj.2]
      exact h2 e he hj.1)
    refine wpOp_mono (fun a' w' hI => ih _ a' w' (by simpa using hs) ?_ ?_) hst
    · have h4 : ∀ l : List Nat, l.Nodup → i ∈ l → l.countP (fun j => !(listed.setIfInBounds i true).getD j false) + 1 = l.countP (fun j => !listed.getD j false) := by
        intro l
        induction l with
        | nil => intro _ h; cases h
        | cons x l ih2 =>
          intro hnd hmem
          rw [List.nodup_cons] at hnd
          have hf := congrFun (getD_updB (listed := listed) (i := i) (by omega))
          by_cases hx : x = i
          · subst hx
            rw [List.countP_cons_of_neg (by rw [hf]; simp [updB]), List.countP_cons_of_pos (by simp [h3])]
            have : l.countP (fun j => !(listed.setIfInBounds x true).getD j false) = l.countP (fun j => !listed.getD j false) := by
              apply List.countP_congr
              intro j hj
              rw [hf, updB_other _ (fun h : j = x => hnd.1 (by rw [← h]; exact hj))]
            omega
          · have hm : i ∈ l := by
              rcases List.mem_cons.1 hmem with h | h
              · exact absurd h.symm hx
              · exact h
            have := ih2 hnd.2 hm
            rw [List.countP_cons, List.countP_cons, hf, updB_other _ hx]
            omega
      have := h4 (List.range n) List.nodup_range (List.mem_range.2 hin)
      omega
    · rw [getD_updB (by omega)]
      exact hI

/-- THE LAW -/
theorem wp_region_inv {id : Nat} {a : Act} {w : World} (n : Nat) (Inv : (Nat → Bool) → Act → World → Prop) (hm : P.follows .mixedOrders = true) (hb : backOk n ops = true)
    (h0 : Inv (fun _ => false) a w.drew)
    (hstep : ∀ d a w i, i < n → Inv d a w → d i = false → (∀ j, waits ops i j = true → d j = true) → wpOp P ops Q i (Inv (updB d i)) a w)
    (hend : ∀ d a w, Inv d a w → (∀ i, i < n → d i = true) → Q .normal a w) : (Code.region id ops true).wp P Q a w := by
  refine wp_region_any hm ?_
  rw [backOk_size hb]
  refine wpAny_inv Inv hb hstep hend n _ _ _ (by simp) ?_ ?_
  · exact Nat.le_trans List.countP_le_length (by simp)
  · have : (fun j => (Array.replicate n false).getD j false) = fun _ => false := by
      funext j
      rw [Array.getD_eq_getD_getElem?]
      by_cases h : j < n
      · simp [h]
      · rw [Array.getElem?_eq_none (by simp; omega)]; rfl
    rw [this]
    exact h0
/-- the same, the invariant told from the slots as they stand at the region's start -/
theorem wp_region_inv' {id : Nat} {a : Act} {w : World} (n : Nat) (Inv : Act → (Nat → Bool) → Act → World → Prop) (hm : P.follows .mixedOrders = true) (hb : backOk n ops = true)
    (h0 : Inv a (fun _ => false) a w.drew)
    (hstep : ∀ (Q' : Exit → Act → World → Prop) (a0 : Act) d a' w i, i < n → Inv a0 d a' w → d i = false → (∀ j, waits ops i j = true → d j = true) → wpOp P ops Q' i (Inv a0 (updB d i)) a' w)
    (hend : ∀ d a' w, Inv a d a' w → (∀ i, i < n → d i = true) → Q .normal a' w) : (Code.region id ops true).wp P Q a w :=
  wp_region_inv n (Inv a) hm hb h0 (hstep Q a) hend
theorem wpOp_go {i : Nat} {o : Oper} {K : Act → World → Prop} {a : Act} {w : World} (ho : ops[i]? = some o) (hg : o.guard = none) (h : o.wp P a w K Q) : wpOp P ops Q i K a w := by
  unfold wpOp
  rw [ho]
  have : Region.wanted o (yielded ops a.tmps) = true := by simp [Region.wanted, hg]
  simp only [this, if_true]
  exact .inl h
theorem wpOp_abs {i : Nat} {o : Oper} {K : Act → World → Prop} {a : Act} {w : World} (ho : ops[i]? = some o) (hg : o.guard = none) (h : ∀ K' : Act → World → Prop, (∀ a w, K a w → K' a w) → o.wp P a w K' Q) : wpOp P ops Q i K a w :=
  wpOp_go ho hg (h K fun _ _ h => h)
theorem wpOp_runs {i : Nat} {o : Oper} {K : Act → World → Prop} {a : Act} {w w' : World} (ho : ops[i]? = some o) (hg : o.guard = none) (v : Value) (hr : (execOp a.eval o).run P w = .ok (.value v) w') (h : K (a.put o.dst v) w') : wpOp P ops Q i K a w := by
  refine wpOp_go ho hg ?_
  unfold Oper.wp
  rw [hr, Oper.upon_value]
  exact h
theorem wpOp_calls {i : Nat} {o : Oper} {K : Act → World → Prop} {a : Act} {w : World} (ho : ops[i]? = some o) (hg : o.guard = none) (f : FuncId) (args : Array Value) (hr : (execOp a.eval o).run P w = .ok (.enter f args) w) {R : Ending → World → Prop} (hc : Calls P f args w R)
    (h : ∀ e w', R e w' → ∃ v, e = .returned v ∧ K (a.put o.dst v) w') : wpOp P ops Q i K a w := by
  refine wpOp_go ho hg ?_
  unfold Oper.wp
  rw [hr, Oper.upon_enter]
  refine hc.mono fun e w' he => ?_
  obtain ⟨v, rfl, hk⟩ := h e w' he
  exact hk
end

def dstOf (ops : Array Oper) (j : Nat) : Option Nat := (ops[j]?).bind (·.dst)
/-- no operation but the last writes slot t -/
def notDst (ops : Array Oper) (n t : Nat) : Bool := (List.range n).all fun j => !(dstOf ops j == some t)
/-- the slots are different, and there -/
def distB (ops : Array Oper) (n size : Nat) : Bool := (List.range n).all fun j => match dstOf ops j with | none => true | some t => decide (t < size) && (List.range j).all fun k => !(dstOf ops k == some t)
/-- the operations from n on wait for all ahead of them -/
def lastB (ops : Array Oper) (n m : Nat) : Bool := (List.range m).all fun k => decide (k < n) || (List.range k).all fun i => reach ops i 9 k
section
variable {P : Program} {ops : Array Oper} {Q : Exit → Act → World → Prop} {n : Nat}
theorem notDst_spec {t : Nat} (h : notDst ops n t = true) {j : Nat} (hj : j < n) : dstOf ops j ≠ some t := by
  have := List.all_eq_true.1 h j (List.mem_range.2 hj)
  simpa using this
theorem distB_spec {size : Nat} (h : distB ops n size = true) {j t : Nat} (hj : j < n) (ht : dstOf ops j = some t) : t < size ∧ ∀ k, k < j → dstOf ops k ≠ some t := by
  have := List.all_eq_true.1 h j (List.mem_range.2 hj)
  rw [ht] at this
  simp only [Bool.and_eq_true, decide_eq_true_eq] at this
  refine ⟨this.1, fun k hk => ?_⟩
  have := List.all_eq_true.1 this.2 k (List.mem_range.2 hk)
  simpa using this
theorem dist_ne {size : Nat} (h : distB ops n size = true) {j k : Nat} (hj : j < n) (hk : k < n) (hne : j ≠ k) : ∀ d, dstOf ops j = some d → dstOf ops k ≠ some d := by
  intro d hd hd2
  rcases Nat.lt_or_ge j k with h1 | h1
  · exact (distB_spec h hk hd2).2 j h1 hd
  · exact (distB_spec h hj hd).2 k (by omega) hd2

/-- the slots of the operations that are done -/
def putD (ops : Array Oper) (d : Nat → Bool) (vs : Nat → Value) : Nat → Act → Act
  | 0, a => a
  | m + 1, a => if d m = true then (putD ops d vs m a).put (dstOf ops m) (vs m) else putD ops d vs m a
theorem putD_congr {d d' : Nat → Bool} {vs vs' : Nat → Value} {a : Act} : ∀ {m : Nat}, (∀ j, j < m → d j = d' j ∧ (d j = true → vs j = vs' j)) → putD ops d vs m a = putD ops d' vs' m a
  | 0, _ => rfl
  | m + 1, h => by
    have ih := putD_congr (a := a) (m := m) fun j hj => h j (by omega)
    obtain ⟨h1, h2⟩ := h m (by omega)
    unfold putD
    rw [ih, ← h1]
    by_cases hd : d m = true
    · rw [if_pos hd, if_pos hd, h2 hd]
    · rw [if_neg hd, if_neg hd]
theorem putD_put {d : Nat → Bool} {vs : Nat → Value} {a : Act} {size : Nat} (hdist : distB ops n size = true) {i : Nat} {v : Value} (hi : d i = false) : ∀ {m : Nat}, m ≤ n → i < m → (putD ops d vs m a).put (dstOf ops i) v = putD ops (updB d i) (fun j => if j = i then v else vs j) m a
  | 0, _, h => absurd h (Nat.not_lt_zero _)
  | m + 1, hm, him => by
    by_cases e : i = m
    · subst e
      have hc : putD ops d vs i a = putD ops (updB d i) (fun j => if j = i then v else vs j) i a := putD_congr fun j hj => by
        have : j ≠ i := by omega
        exact ⟨(updB_other d this).symm, fun _ => (if_neg this).symm⟩
      unfold putD
      rw [if_neg (by rw [hi]; simp), if_pos (updB_self d i), hc]
      simp
    · have ih := putD_put (vs := vs) (a := a) hdist (v := v) hi (m := m) (by omega) (by omega)
      have hm2 : m ≠ i := fun h => e h.symm
      unfold putD
      rw [updB_other d hm2]
      by_cases hd : d m = true
      · rw [if_pos hd, if_pos hd, if_neg hm2, ← ih]
        exact Act.put_comm _ _ _ (dist_ne hdist (by omega) (by omega) hm2)
      · rw [if_neg hd, if_neg hd, ← ih]
theorem putD_defers {d : Nat → Bool} {vs : Nat → Value} {a : Act} : ∀ m, (putD ops d vs m a).defers = a.defers ∧ (putD ops d vs m a).tmps.size = a.tmps.size
  | 0 => ⟨rfl, rfl⟩
  | m + 1 => by
    obtain ⟨h1, h2⟩ := putD_defers (d := d) (vs := vs) (a := a) m
    unfold putD
    split
    · cases hd : dstOf ops m with
      | none => exact ⟨h1, h2⟩
      | some t => exact ⟨h1, by simpa [Act.put] using h2⟩
    · exact ⟨h1, h2⟩
theorem putD_out {d : Nat → Bool} {vs : Nat → Value} {a : Act} {t : Nat} (h : notDst ops n t = true) : ∀ {m : Nat}, m ≤ n → (putD ops d vs m a).tmps[t]? = a.tmps[t]?
  | 0, _ => rfl
  | m + 1, hm => by
    have ih := putD_out (d := d) (vs := vs) (a := a) h (m := m) (by omega)
    unfold putD
    split
    · cases hd : dstOf ops m with
      | none => exact ih
      | some s =>
        have hne : s ≠ t := fun e => notDst_spec h (j := m) (by omega) (by rw [hd, e])
        simp only [Act.put]
        rw [Array.getElem?_setIfInBounds_ne hne]
        exact ih
    · exact ih
theorem putD_get {d : Nat → Bool} {vs : Nat → Value} {a : Act} (hdist : distB ops n a.tmps.size = true) {j t : Nat} (hd : d j = true) (ht : dstOf ops j = some t) : ∀ {m : Nat}, m ≤ n → j < m → (putD ops d vs m a).tmps[t]? = some (vs j)
  | 0, _, h => absurd h (Nat.not_lt_zero _)
  | m + 1, hm, hj => by
    unfold putD
    by_cases e : j = m
    · subst e
      rw [if_pos hd, ht]
      have hlt := (distB_spec hdist (by omega) ht).1
      have hsz := (putD_defers (ops := ops) (d := d) (vs := vs) (a := a) j).2
      simp only [Act.put]
      rw [Array.getElem?_setIfInBounds_self_of_lt (by rw [hsz]; exact hlt)]
    · have ih := putD_get (vs := vs) hdist hd ht (m := m) (by omega) (by omega)
      split
      · cases hm2 : dstOf ops m with
        | none => exact ih
        | some s =>
          have hne : s ≠ t := fun h => dist_ne hdist (j := m) (k := j) (by omega) (by omega) (fun h => e h.symm) s hm2 (by rw [ht, h])
          simp only [Act.put]
          rw [Array.getElem?_setIfInBounds_ne hne]
          exact ih
      · exact ih
/-- all values in the text's order -/
def putL : List Oper → List Value → Act → Act
  | o :: os, v :: vs, a => putL os vs (a.put o.dst v)
  | _, _, a => a
theorem putL_snoc {o : Oper} {v : Value} : ∀ {os : List Oper} {vs : List Value} {a : Act}, os.length = vs.length → putL (os ++ [o]) (vs ++ [v]) a = (putL os vs a).put o.dst v
  | [], [], a, _ => rfl
  | o' :: os, v' :: vs, a, h => by
    simp only [List.cons_append, putL]
    exact putL_snoc (by simpa using h)
theorem putL_eq {vs : Nat → Value} {a : Act} : ∀ {m : Nat}, m ≤ ops.size → putL (ops.toList.take m) ((List.range m).map vs) a = putD ops (fun _ => true) vs m a
  | 0, _ => by simp [putL, putD]
  | m + 1, hm => by
    have hlt : m < ops.toList.length := by simp; omega
    rw [List.take_add_one, List.getElem?_eq_getElem hlt, List.range_succ, List.map_append]
    simp only [Option.toList_some, List.map_cons, List.map_nil]
    rw [putL_snoc (by simp; omega), putL_eq (by omega)]
    conv => rhs; unfold putD
    rw [if_pos rfl]
    have : dstOf ops m = ops.toList[m].dst := by
      unfold dstOf
      rw [Array.getElem?_eq_getElem (by omega)]
      rfl
    rw [this]

/-- slots that the region does not write are as they were -/
def OutOf (ops : Array Oper) (n : Nat) (a a' : Act) : Prop := a'.defers = a.defers ∧ ∀ t, notDst ops n t = true → a'.tmps[t]? = a.tmps[t]?
/-- operation j is done: its slot holds a value of which Φ j holds -/
def Has (ops : Array Oper) (Φ : Nat → Value → (Nat → Nat) → World → Prop) (a' : Act) (col : Nat → Nat) (w' : World) (j : Nat) : Prop := ∃ v, (∀ t, dstOf ops j = some t → a'.tmps[t]? = some v) ∧ Φ j v col w'
/-- the blocks that are new since w' bear the number i -/
def colr (col : Nat → Nat) (w' : World) (i : Nat) : Nat → Nat := fun b => if b < w'.heap.size then col b else i
/-- memory has grown, and the operation has given a value -/
def Gives (ops : Array Oper) (Φ : Nat → Value → (Nat → Nat) → World → Prop) (i : Nat) (a' : Act) (col : Nat → Nat) (w' : World) (a'' : Act) (w'' : World) : Prop := ∃ v, a'' = a'.put (dstOf ops i) v ∧ Below w'.heap.size w' w'' ∧ Φ i v (colr col w' i) w''
theorem reach_done {d : Nat → Bool} {i : Nat} : ∀ (f k : Nat), (∀ j, waits ops k j = true → d j = true) → (∀ k, d k = true → ∀ j, waits ops k j = true → d j = true) → reach ops i f k = true → d i = true := by
  intro f
  induction f with
  | zero => intro k _ _ hr; cases hr
  | succ f ih =>
    intro k hk hcl hr
    unfold reach at hr
    cases hx : ops[k]? with
    | none => rw [hx] at hr; cases hr
    | some x =>
      rw [hx] at hr
      simp only [Array.any_eq_true, Bool.and_eq_true, Bool.or_eq_true, beq_iff_eq] at hr
      obtain ⟨q, hq, hb, hr⟩ := hr
      have h1 := hk x.after[q].on (by
        unfold waits
        rw [hx]
        simp only [Option.map_some, Option.getD_some, Array.any_eq_true, Bool.and_eq_true, beq_iff_eq]
        exact ⟨q, hq, hb, rfl⟩)
      rcases hr with hr | hr
      · rw [← hr]; exact h1
      · exact ih _ (hcl _ h1) hcl hr
theorem colr_old {col : Nat → Nat} {w : World} {i b : Nat} (h : b < w.heap.size) : colr col w i b = col b := if_pos h
theorem colr_new {col : Nat → Nat} {w : World} {i b : Nat} (h : w.heap.size ≤ b) : colr col w i b = i := if_neg (by omega)
/-- the operations from k on, one behind the other -/
def tailW (P : Program) (ops : Array Oper) (Q : Exit → Act → World → Prop) : Nat → Nat → Act → World → Prop
  | 0, _ => fun a w => Q .normal a w
  | r + 1, k => wpOp P ops Q k (tailW P ops Q r (k + 1))
theorem lastB_spec {m k i : Nat} (h : lastB ops n m = true) (hk : k < m) (hn : n ≤ k) (hi : i < k) : reach ops i 9 k = true := by
  have := List.all_eq_true.1 h k (List.mem_range.2 hk)
  simp only [Bool.or_eq_true, decide_eq_true_eq] at this
  rcases this with h1 | h1
  · omega
  · exact List.all_eq_true.1 h1 i (List.mem_range.2 hi)
/-- THE LAW OF GROWING REGIONS: n operations that grow memory, and r behind them, in a row -/
theorem wp_region_grow {id : Nat} {a : Act} {W : World} (n r : Nat) (Φ : Nat → Value → (Nat → Nat) → World → Prop) (hm : P.follows .mixedOrders = true) (hb : backOk (n + (r + 1)) ops = true) (hlast : lastB ops n (n + (r + 1)) = true) (hdist : distB ops n a.tmps.size = true)
    (hmono : ∀ i v c1 w1 c2 w2, Φ i v c1 w1 → Below w1.heap.size w1 w2 → (∀ b, b < w1.heap.size → c2 b = c1 b) → Φ i v c2 w2)
    (hstep : ∀ (Q' : Exit → Act → World → Prop) (i : Nat), i < n → ∀ a' col w', OutOf ops n a a' → Below W.heap.size W w' → (∀ b, W.heap.size ≤ b → b < w'.heap.size → col b ≠ i) → (∀ j, waits ops i j = true → Has ops Φ a' col w' j) → wpOp P ops Q' i (Gives ops Φ i a' col w') a' w')
    (hend : ∀ (vs : List Value) col w', vs.length = n → Below W.heap.size W w' → (∀ j v, vs[j]? = some v → Φ j v col w') → tailW P ops Q (r + 1) n (putL (ops.toList.take n) vs a) w') :
    (Code.region id ops true).wp P Q a W := by
  have hsz := backOk_size hb
  refine wp_region_inv (n + (r + 1)) (fun d a' w' => (∀ i j, d i = true → waits ops i j = true → d j = true) ∧
      ((d n = true ∧ ∃ k s, n < k ∧ k + s = n + (r + 1) ∧ (∀ j, j < k → d j = true) ∧ (∀ j, k ≤ j → d j = false) ∧ tailW P ops Q s k a' w')
        ∨ ((∀ j, n ≤ j → d j = false) ∧ Below W.heap.size W w' ∧ ∃ vs col, a' = putD ops d vs n a ∧ (∀ b, W.heap.size ≤ b → b < w'.heap.size → d (col b) = true) ∧ ∀ j, j < n → d j = true → Φ j (vs j) col w'))) hm hb ?_ ?_ ?_
  · refine ⟨fun i j h => by simp at h, .inr ⟨fun j _ => rfl, (Below.refl _ _).drew, fun _ => undef, fun _ => 0, ?_, fun b h1 h2 => absurd h2 (Nat.not_lt.2 h1), fun j _ h => by simp at h⟩⟩
    have : ∀ m, putD ops (fun _ => false) (fun _ => undef) m a = a := by
      intro m
      induction m with
      | zero => rfl
      | succ m ih => unfold putD; rw [if_neg (by simp), ih]
    exact (this n).symm
  · intro d a' w' i hi hI hdi hw
    obtain ⟨hcl, hI⟩ := hI
    have hcl2 : ∀ k j, updB d i k = true → waits ops k j = true → updB d i j = true := by
      intro k j hdk hkj
      by_cases e : k = i
      · subst e
        have := hw j hkj
        by_cases e2 : j = k
        · subst e2; exact updB_self d j
        · rw [updB_other d e2]; exact this
      · rw [updB_other d e] at hdk
        have := hcl k j hdk hkj
        by_cases e2 : j = i
        · subst e2; exact updB_self d j
        · rw [updB_other d e2]; exact this
    rcases hI with ⟨hdn, k, s, hnk, hks, hlo, hhi, ht⟩ | ⟨hhi, hB, vs, col, rfl, hcol, hΦ⟩
    · have hik : i = k := by
        rcases Nat.lt_trichotomy i k with h | h | h
        · rw [hlo i h] at hdi; cases hdi
        · exact h
        · have h1 := reach_done 9 i hw (fun q hq j => hcl q j hq) (lastB_spec hlast hi (by omega) h)
          rw [hhi k (Nat.le_refl _)] at h1; cases h1
      subst hik
      cases s with
      | zero => omega
      | succ s =>
        refine wpOp_mono (fun a'' w'' h => ⟨hcl2, .inl ⟨?_, i + 1, s, by omega, by omega, fun j hj => ?_, fun j hj => ?_, h⟩⟩) ht
        · rw [updB_other d (show n ≠ i by omega)]; exact hdn
        · by_cases e : j = i
          · subst e; exact updB_self d j
          · rw [updB_other d e]; exact hlo j (by omega)
        · rw [updB_other d (show j ≠ i by omega)]; exact hhi j (by omega)
    · by_cases hin : n ≤ i
      · have hi2 : i = n := by
          rcases Nat.lt_or_ge n i with h | h
          · have h1 := reach_done 9 i hw (fun q hq j => hcl q j hq) (lastB_spec hlast hi hin h)
            rw [hhi n (Nat.le_refl _)] at h1; cases h1
          · omega
        subst hi2
        have hall : ∀ j, j < i → d j = true := fun j hj => reach_done 9 i hw (fun k hk j => hcl k j hk) (lastB_spec hlast hi (Nat.le_refl _) hj)
        have he : putD ops d vs i a = putL (ops.toList.take i) ((List.range i).map vs) a := by
          rw [putL_eq (by omega)]
          exact putD_congr fun j hj => ⟨hall j hj, fun _ => rfl⟩
        rw [he]
        have ht := hend ((List.range i).map vs) col w' (by simp) hB fun j v hv => by
          have hj : j < i := by
            have := (List.getElem?_eq_some_iff.1 hv).1
            simpa using this
          rw [List.getElem?_map, List.getElem?_range hj] at hv
          injection hv with hv
          subst hv
          exact hΦ j hj (hall j hj)
        refine wpOp_mono (fun a'' w'' h => ⟨hcl2, .inl ⟨updB_self d i, i + 1, r, by omega, by omega, fun j hj => ?_, fun j hj => ?_, h⟩⟩) ht
        · by_cases e : j = i
          · subst e; exact updB_self d j
          · rw [updB_other d e]; exact hall j (by omega)
        · rw [updB_other d (show j ≠ i by omega)]; exact hhi j (by omega)
      · have hi2 : i < n := by omega
        refine wpOp_mono (fun a'' w'' h => ?_) (hstep Q i hi2 _ col w' ⟨(putD_defers n).1, fun t ht => putD_out ht (Nat.le_refl _)⟩ hB (fun b h1 h2 e => by have := hcol b h1 h2; rw [e, hdi] at this; cases this) fun j hj => ?_)
        · obtain ⟨v, rfl, hb2, hv⟩ := h
          refine ⟨hcl2, .inr ⟨fun j hj => by rw [updB_other d (show j ≠ i by omega)]; exact hhi j hj, hB.trans (hb2.mono hB.size), _, colr col w' i, putD_put hdist hdi (Nat.le_refl _) hi2, fun b h1 h2 => ?_, fun j hj hdj => ?_⟩⟩
          · by_cases e : b < w'.heap.size
            · rw [colr_old e]
              by_cases e2 : col b = i
              · rw [e2]; exact updB_self d i
              · rw [updB_other d e2]; exact hcol b h1 e
            · rw [colr_new (by omega)]; exact updB_self d i
          by_cases e : j = i
          · subst e
            simp only [if_true]
            exact hv
          · rw [updB_other d e] at hdj
            simp only [if_neg e]
            exact hmono j _ _ _ _ _ (hΦ j hj hdj) hb2 fun b hb => if_pos hb
        · have hdj := hw j hj
          have hjn : j < n := by
            rcases Nat.lt_or_ge j n with h | h
            · exact h
            · rw [hhi j h] at hdj; cases hdj
          exact ⟨vs j, fun t ht => putD_get hdist hdj ht (Nat.le_refl _) hjn, hΦ j hjn hdj⟩
  · intro d a' w' hI hall
    obtain ⟨_, ⟨_, k, s, hnk, hks, _, hhi, ht⟩ | ⟨hhi, _⟩⟩ := hI
    · have : s = 0 := by
        rcases Nat.eq_zero_or_pos s with h | h
        · exact h
        · have h1 := hall k (by omega)
          rw [hhi k (Nat.le_refl _)] at h1; cases h1
      subst this
      exact ht
    · have h1 := hall n (by omega)
      rw [hhi n (Nat.le_refl _)] at h1; cases h1
theorem gives_runs {Φ : Nat → Value → (Nat → Nat) → World → Prop} {i : Nat} {o : Oper} {a : Act} {col : Nat → Nat} {w w' : World} (ho : ops[i]? = some o) (hg : o.guard = none) (v : Value) (hr : (execOp a.eval o).run P w = .ok (.value v) w') (hb : Below w.heap.size w w') (h : Φ i v (colr col w i) w') : wpOp P ops Q i (Gives ops Φ i a col w) a w :=
  wpOp_runs ho hg v hr ⟨v, by unfold dstOf; rw [ho]; rfl, hb, h⟩
theorem gives_calls {Φ : Nat → Value → (Nat → Nat) → World → Prop} {i : Nat} {o : Oper} {a : Act} {col : Nat → Nat} {w : World} (ho : ops[i]? = some o) (hg : o.guard = none) (f : FuncId) (args : Array Value) (hr : (execOp a.eval o).run P w = .ok (.enter f args) w) {R : Ending → World → Prop} (hc : Calls P f args w R)
    (h : ∀ e w', R e w' → ∃ v, e = .returned v ∧ Below w.heap.size w w' ∧ Φ i v (colr col w i) w') : wpOp P ops Q i (Gives ops Φ i a col w) a w := by
  refine wpOp_calls ho hg f args hr hc fun e w' he => ?_
  obtain ⟨v, rfl, hb, hv⟩ := h e w' he
  exact ⟨v, rfl, v, by unfold dstOf; rw [ho]; rfl, hb, hv⟩
end
end Go.Proofs.YtjlhbfbdcfajfaaGreatDoor
/- Words for growing regions: structs and slices of structs whose blocks are those of the region, but for the blocks of some operations. -/
namespace Go.Proofs.YtjlhbfbdcfajfaaGreatDoor
open Go.RowKit

/-- the blocks that the region has made, but those of operation k -/
def RD (W : World) (k : Nat) (col : Nat → Nat) (w : World) (b : Nat) : Prop := W.heap.size ≤ b ∧ b < w.heap.size ∧ col b ≠ k
/-- a struct -/
def ΦS {α : Type} [Rep α] (W : World) (k : Nat) (x : α) (v : Value) (col : Nat → Nat) (w : World) : Prop := SV w (RD W k col w) v x
/-- a slice -/
def ΦL {α : Type} [Rep α] (W : World) (k : Nat) (xs : List α) (v : Value) (col : Nat → Nat) (w : World) : Prop := ∃ A n c, v = .slice A n c ∧ RS w (RD W k col w) A n c xs
/-- a value -/
def ΦV (u v : Value) (_ : Nat → Nat) (_ : World) : Prop := v = u
/-- a new block of operation k -/
def ΦB (W : World) (k : Nat) (t : TypeId) (cs : Array Value) (v : Value) (col : Nat → Nat) (w : World) : Prop := ∃ g, v = .pointer (some ⟨g, 0, none⟩) ∧ W.heap.size ≤ g ∧ col g = k ∧ Blk w g t cs
/-- a row that operation i has built: a block of its own, its elements' data apart -/
def ΦR {α : Type} [Rep α] (W : World) (k i : Nat) (t : TypeId) (xs : List α) (n : Nat) (v : Value) (col : Nat → Nat) (w : World) : Prop :=
  ∃ g cs, v = .slice (some ⟨g, 0, none⟩) n n ∧ W.heap.size ≤ g ∧ col g = i ∧ Blk w g t cs.toArray ∧ Flat w (fun b => RD W k col w b ∧ col b ≠ i) cs xs ∧ n = xs.length ∧ ∀ u ∈ cs, u.oneCell' = true
section
variable {α : Type} [Rep α] {W w1 w2 : World} {k : Nat} {c1 c2 : Nat → Nat} {v : Value}
theorem RD.mono (hs : w1.heap.size ≤ w2.heap.size) (hc : ∀ b, b < w1.heap.size → c2 b = c1 b) : ∀ b, RD W k c1 w1 b → RD W k c2 w2 b := fun b hb => ⟨hb.1, Nat.lt_of_lt_of_le hb.2.1 hs, by rw [hc b hb.2.1]; exact hb.2.2⟩
theorem ΦS.mono {x : α} (h : ΦS W k x v c1 w1) (hb : Below w1.heap.size w1 w2) (hc : ∀ b, b < w1.heap.size → c2 b = c1 b) : ΦS W k x v c2 w2 := SV.keep h (RD.mono hb.size hc) ((Keeps.of_below hb).sub fun _b hb => hb.2.1)
theorem ΦL.mono {xs : List α} (h : ΦL W k xs v c1 w1) (hb : Below w1.heap.size w1 w2) (hc : ∀ b, b < w1.heap.size → c2 b = c1 b) : ΦL W k xs v c2 w2 := by
  obtain ⟨A, n, c, e, h⟩ := h
  exact ⟨A, n, c, e, h.keep (RD.mono hb.size hc) ((Keeps.of_below hb).sub fun b hb => hb.2.1)⟩
theorem ΦB.mono {t : TypeId} {cs : Array Value} (h : ΦB W k t cs v c1 w1) (hb : Below w1.heap.size w1 w2) (hc : ∀ b, b < w1.heap.size → c2 b = c1 b) : ΦB W k t cs v c2 w2 := by
  obtain ⟨g, e, h1, h2, h3⟩ := h
  exact ⟨g, e, h1, by rw [hc g h3.lt]; exact h2, h3.keep hb⟩
/-- what a call of operation i has made -/
theorem ΦS.of_ret {x : α} {w w' : World} {e : Ending} {i : Nat} {col : Nat → Nat} (h : RetSV w x e w') (hW : W.heap.size ≤ w.heap.size) (hi : i ≠ k) : ∃ v, e = .returned v ∧ Below w.heap.size w w' ∧ ΦS W k x v (colr col w i) w' := by
  obtain ⟨v, rfl, hs, hb⟩ := h
  exact ⟨v, rfl, hb, hs.sub fun b hb => ⟨Nat.le_trans hW hb.1, hb.2, by rw [colr_new hb.1]; exact hi⟩⟩
theorem ΦL.of_ret {xs : List α} {w w' : World} {e : Ending} {i : Nat} {col : Nat → Nat} (h : RetS w xs e w') (hW : W.heap.size ≤ w.heap.size) (hi : i ≠ k) : ∃ v, e = .returned v ∧ Below w.heap.size w w' ∧ ΦL W k xs v (colr col w i) w' := by
  obtain ⟨A, n, c, rfl, hs, hb⟩ := h
  exact ⟨_, rfl, hb, A, n, c, rfl, hs.sub fun b hb => ⟨Nat.le_trans hW hb.1, hb.2, by rw [colr_new hb.1]; exact hi⟩⟩
theorem ΦV.of_ret {u : Value} {w w' : World} {e : Ending} {i : Nat} {col : Nat → Nat} (h : RetV w u e w') : ∃ v, e = .returned v ∧ Below w.heap.size w w' ∧ ΦV u v (colr col w i) w' := ⟨u, h.1, h.2, rfl⟩
/-- a slice that has just been built out of these cells -/
theorem ΦL.built {xs : List α} {w : World} {i : Nat} {col : Nat → Nat} {cs : List Value} {t : TypeId} (hf : Flat w (RD W k col w) cs xs) {n : Nat} (hn : n = xs.length) (hm : n ≤ maxLen) (hW : W.heap.size ≤ w.heap.size) (hi : i ≠ k) :
    ΦL W k xs (.slice (some ⟨w.heap.size, 0, none⟩) n n) (colr col w i) (w.alloc (.cells cs.toArray t)) := by
  have hb : Below w.heap.size w (w.alloc (.cells cs.toArray t)) := (Below.refl _ _).alloc (Nat.le_refl _) _
  refine ⟨_, _, _, rfl, RS.of_blk (Blk.new w t cs.toArray) (by simpa using hf.keep (RD.mono hb.size fun b hb => colr_old hb) ((Keeps.of_below hb).sub fun b hb => hb.2.1)) hn (Nat.le_refl _) hm ⟨hW, by simp, by rw [colr_new (Nat.le_refl _)]; exact hi⟩⟩
/-- a block that has just been made -/
theorem ΦB.made {w : World} {col : Nat → Nat} {t : TypeId} {cs : Array Value} (hW : W.heap.size ≤ w.heap.size) : ΦB W k t cs (.pointer (some ⟨w.heap.size, 0, none⟩)) (colr col w k) (w.alloc (.cells cs t)) :=
  ⟨w.heap.size, rfl, hW, colr_new (Nat.le_refl _), Blk.new _ _ _⟩
/-- a row that operation i has built -/
theorem ΦR.mono {t : TypeId} {xs : List α} {n i : Nat} (h : ΦR W k i t xs n v c1 w1) (hb : Below w1.heap.size w1 w2) (hc : ∀ b, b < w1.heap.size → c2 b = c1 b) : ΦR W k i t xs n v c2 w2 := by
  obtain ⟨g, cs, e, h1, h2, h3, h4, h5, h6⟩ := h
  refine ⟨g, cs, e, h1, by rw [hc g h3.lt]; exact h2, h3.keep hb, h4.keep (fun b hbb => ⟨RD.mono hb.size hc b hbb.1, ?_⟩) ((Keeps.of_below hb).sub fun b hbb => hbb.1.2.1), h5, h6⟩
  rw [hc b hbb.1.2.1]
  exact hbb.2
theorem ΦR.built {xs : List α} {w : World} {i : Nat} {col : Nat → Nat} {cs : List Value} {t : TypeId} (hf : Flat w (RD W k col w) cs xs) (hfi : ∀ b, RD W k col w b → col b ≠ i) {n : Nat} (hn : n = xs.length) (h1 : ∀ u ∈ cs, u.oneCell' = true) (hW : W.heap.size ≤ w.heap.size) :
    ΦR W k i t xs n (.slice (some ⟨w.heap.size, 0, none⟩) n n) (colr col w i) (w.alloc (.cells cs.toArray t)) := by
  have hb : Below w.heap.size w (w.alloc (.cells cs.toArray t)) := (Below.refl _ _).alloc (Nat.le_refl _) _
  refine ⟨w.heap.size, cs, rfl, hW, colr_new (Nat.le_refl _), Blk.new _ _ _, hf.keep (fun b hbb => ⟨RD.mono hb.size (fun b hb => colr_old hb) b hbb, ?_⟩) ((Keeps.of_below hb).sub fun b hb => hb.2.1), hn, h1⟩
  rw [colr_old hbb.2.1]
  exact hfi b hbb
/-- such a row as a slice -/
theorem row_rs {xs : List α} {w : World} {g n i : Nat} {col : Nat → Nat} {cs : List Value} {t : TypeId} (hW : W.heap.size ≤ g) (hcg : col g = i) (hik : i ≠ k) (hk : Blk w g t cs.toArray) (hf : Flat w (fun b => RD W k col w b ∧ col b ≠ i) cs xs) (hn : n = xs.length) (hm : n ≤ maxLen) :
    RS w (RD W k col w) (some ⟨g, 0, none⟩) n n xs :=
  RS.of_blk hk (by simpa using hf.keep (S' := RD W k col w) (fun b hb => hb.1) (Keeps.refl _ _)) hn (Nat.le_refl _) hm ⟨hW, hk.lt, by rw [hcg]; exact hik⟩
/-- such a row as the call's own -/
theorem row_own {xs : List α} {w : World} {g n base : Nat} {S : Nat → Prop} {cs : List Value} {t : TypeId} (hg : base ≤ g) (hk : Blk w g t cs.toArray) (hf : Flat w S cs xs) (hn : n = xs.length) (hm : n ≤ maxLen) (hS : ∀ b, S b → b < w.heap.size ∧ b ≠ g) :
    Own w S base t (.slice (some ⟨g, 0, none⟩) n n) xs := by
  refine ⟨cs, ⟨hf.length, .inr ⟨g, n, cs.toArray, by rw [hn], hg, hk, by omega, hm, by rw [List.size_toArray, hf.length, hn], ?_⟩⟩, hf, fun b hb => ⟨(hS b hb).1, fun e => (hS b hb).2 (by injection e)⟩⟩
  rw [List.toList_toArray, ← hf.length, List.take_length]
theorem row_cells {w : World} {g : Nat} {cs : List Value} {t : TypeId} (hk : Blk w g t cs.toArray) : CellsAt w ⟨g, 0, none⟩ cs := by
  intro j u hj
  have : (⟨g, 0, none⟩ : Addr).add j = ⟨g, j, none⟩ := by unfold Addr.add; split <;> simp_all
  rw [this, hk.cell]
  simpa using hj
theorem uncons {n : Nat} {l : List Value} (h : l.length = n + 1) : ∃ v m, l = v :: m ∧ m.length = n := by
  cases l with
  | nil => cases h
  | cons v m => exact ⟨v, m, rfl, by simpa using h⟩
theorem below_alloc (w : World) (o : Obj) : Below w.heap.size w (w.alloc o) := (Below.refl _ _).alloc (Nat.le_refl _) _
end
end Go.Proofs.YtjlhbfbdcfajfaaGreatDoor
/- schema, the way back: a block whose fields grow. -/
namespace Go.Proofs.YtjlhbfbdcfajfaaGreatDoor
open Go.RowKit

def I64 (v : Int) : Prop := -9223372036854775808 ≤ v ∧ v ≤ 9223372036854775807
/-- the numbers of a contest fit into words of 64 bits, and its list is not too long -/
def ContOk (x : ContestD) : Prop := I64 x.method ∧ I64 x.seats ∧ I64 x.ranks ∧ I64 x.digits ∧ I64 x.ties ∧ I64 x.over ∧ I64 x.skip ∧ x.cands.length ≤ 274877906944
theorem Tryz.fldTy : SliceTy Tryz.prog 108 113 3 48 := SliceTy.mk' (z := .agg #[.string ⟨#[]⟩, .slice none 0 0, .int .i64 0]) Tryz.underlying108 (by kernel_rfl) rfl (by omega)
theorem ΦL.of_clone {W w w' : World} {k i : Nat} {e : Ending} {col : Nat → Nat} {xs : List ByteArray} (h : RetN w 9 xs e w') (hW : W.heap.size ≤ w.heap.size) (hi : i ≠ k) : ∃ v, e = .returned v ∧ Below w.heap.size w w' ∧ ΦL W k xs v (colr col w i) w' := by
  obtain ⟨v', rfl, ho, hb⟩ := h
  obtain ⟨A, n, c, rfl, _⟩ := ho.slice
  exact ⟨_, rfl, hb, A, n, c, rfl, ho.rs (fun _ h => h.elim) fun g h1 h2 => ⟨Nat.le_trans hW h1, h2, by rw [colr_new h1]; exact hi⟩⟩
/-- block g holds a block of the source whose fields lie in a row of the call's own; all since the world W -/
structure FldSt (W w : World) (g : Nat) (kind name : ByteArray) (A : Option Addr) (n c : Nat) (fs : List FieldD) : Prop where
  blk : Blk w g 110 #[.string kind, .string name, .slice A n c, .int .i64 0]
  own : Own w (fun b => W.heap.size ≤ b ∧ b < w.heap.size ∧ b ≠ g ∧ some b ≠ (Value.slice A n c).ownBlock) W.heap.size 113 (.slice A n c) fs
  ne : (Value.slice A n c).ownBlock ≠ some g
  hg : W.heap.size ≤ g
  bel : Below W.heap.size W w
section
variable {W w w' : World} {g : Nat} {kind name : ByteArray} {A : Option Addr} {n c : Nat} {fs : List FieldD}
theorem FldSt.base (h : FldSt W w g kind name A n c fs) : W.heap.size ≤ w.heap.size := h.bel.size
theorem FldSt.grow (h : FldSt W w g kind name A n c fs) (hb : Below w.heap.size w w') : FldSt W w' g kind name A n c fs := by
  refine ⟨h.blk.keep hb, ?_, h.ne, h.hg, h.bel.trans (hb.mono h.bel.size)⟩
  exact (h.own.below hb).widen (fun b hbb => ⟨hbb.1, Nat.lt_of_lt_of_le hbb.2.1 hb.size, hbb.2.2⟩) (fun b hbb => ⟨hbb.2.1, hbb.2.2.2⟩)
/-- what was made since w0 lies apart -/
theorem FldSt.apart_of {w0 : World} (_ : FldSt W w g kind name A n c fs) (h0 : FldSt W w0 g kind name A n c fs) {b : Nat} (h1 : w0.heap.size ≤ b) (h2 : b < w.heap.size) : W.heap.size ≤ b ∧ b < w.heap.size ∧ b ≠ g ∧ some b ≠ (Value.slice A n c).ownBlock :=
  ⟨Nat.le_trans h0.base h1, h2, by have := h0.blk.lt; omega, fun e => by have := (h0.own.lt b e.symm).2; omega⟩
theorem FldSt.rs (h : FldSt W w g kind name A n c fs) : RS w (fun b => W.heap.size ≤ b ∧ b < w.heap.size) A n c fs := h.own.rs (fun _b hb => ⟨hb.1, hb.2.1⟩) (fun _g h1 h2 => ⟨h1, h2⟩)
/-- behind an append and the store of the row -/
theorem FldSt.next (h : FldSt W w g kind name A n c fs) {A' : Option Addr} {n' c' : Nat} {ys : List FieldD} (q1 : Own w' (fun b => W.heap.size ≤ b ∧ b < w.heap.size ∧ b ≠ g ∧ some b ≠ (Value.slice A n c).ownBlock) W.heap.size 113 (.slice A' n' c') (fs ++ ys))
    (q2 : w.grownBy w' (Value.slice A n c).ownBlock) (q3 : (Value.slice A' n' c').ownBlock = (Value.slice A n c).ownBlock ∨ (Value.slice A' n' c').ownBlock = some w.heap.size) : FldSt W (w'.setCell ⟨g, 2, none⟩ (.slice A' n' c')) g kind name A' n' c' (fs ++ ys) := by
  have hne : (Value.slice A' n' c').ownBlock ≠ some g := fun e => by
    rcases q3 with q | q
    · exact h.ne (by rw [← q]; exact e)
    · rw [q] at e
      injection e with e
      have := h.blk.lt
      omega
  have hs : (w'.setCell ⟨g, 2, none⟩ (.slice A' n' c')).heap.size = w'.heap.size := by simp
  refine ⟨(h.blk.grown q2 (fun e => h.ne e.symm)).set_ 2 _, ?_, hne, h.hg, (h.bel.grown q2 h.base (fun k hk => (h.own.lt k hk).1)).setCell (p := ⟨g, 2, none⟩) h.hg _⟩
  have h1 := q1.setCell (p := ⟨g, 2, none⟩) hne (fun b hb => hb.2.2.1) (.slice A' n' c')
  have h2 := q1.apart
  refine h1.widen (fun b hb => ⟨hb.1, by rw [hs]; exact Nat.lt_of_lt_of_le hb.2.1 q2.size, hb.2.2.1, (h2 b hb).2⟩) (fun b hb => ⟨hb.2.1, hb.2.2.2⟩)
/-- a block whose fields have just been built -/
theorem fld_start {k i g13 n : Nat} {col : Nat → Nat} {cs : List Value} {cs0 : Array Value} (hb : Below W.heap.size W w) (hg : W.heap.size ≤ g) (hc : col g = k) (hk : Blk w g 110 cs0) (hik : i ≠ k) (hg13 : W.heap.size ≤ g13) (hc13 : col g13 = i) (hk13 : Blk w g13 113 cs.toArray)
    (hf : Flat w (fun b => RD W k col w b ∧ col b ≠ i) cs fs) (hn : n = fs.length) (hm : n ≤ maxLen) : FldSt W (w.setRow g #[.string kind, .string name, .slice (some ⟨g13, 0, none⟩) n n, .int .i64 0]) g kind name (some ⟨g13, 0, none⟩) n n fs := by
  have hne : g13 ≠ g := fun e => hik (by rw [← hc13, ← hc, e])
  have hs : (w.setRow g #[.string kind, .string name, .slice (some ⟨g13, 0, none⟩) n n, .int .i64 0]).heap.size = w.heap.size := by simp
  refine ⟨setRow_heap _ _ _ _ _ _ hk, ?_, fun e => hne (by injection e), hg, below_setRow hb hg _⟩
  refine row_own (S := fun b => W.heap.size ≤ b ∧ b < (w.setRow g #[.string kind, .string name, .slice (some ⟨g13, 0, none⟩) n n, .int .i64 0]).heap.size ∧ b ≠ g ∧ some b ≠ (Value.slice (some ⟨g13, 0, none⟩) n n).ownBlock) hg13 ((setRow_other _ _ _ _ hne).trans hk13) (hf.keep (fun b hbb => ⟨hbb.1.1, by rw [hs]; exact hbb.1.2.1, fun e => hbb.1.2.2 (by rw [e]; exact hc), fun e => ?_⟩) (fun p hp => ?_)) hn hm (fun b hbb => ⟨hbb.2.1, fun e => hbb.2.2.2 (by rw [e]; rfl)⟩)
  · injection e with e
    exact hbb.2 (by rw [e]; exact hc13)
  · exact cell_setRow_other _ _ _ _ (fun e => hp.1.2.2 (by rw [e]; exact hc))
end
end Go.Proofs.YtjlhbfbdcfajfaaGreatDoor
