/- A region that draws its order, by an invariant: what holds of the slots and of memory when these operations are done. -/
import Derived.RegionTactic
namespace Go.Proofs.YtofdjlngohhlmaaDoor
open Go

/-- an operation waits for earlier ones alone -/
def backOk (n : Nat) (ops : Array Oper) : Bool :=
  ops.size == n && (List.range n).all fun i => ((ops[i]?).map fun o => o.after.all fun e => !Region.binds .any e || decide (e.on < i)).getD false
/-- operation i waits for operation j -/
def waits (ops : Array Oper) (i j : Nat) : Bool := ((ops[i]?).map fun o => o.after.any fun e => Region.binds .any e && e.on == j).getD false
def upd (d : Nat → Bool) (i : Nat) (j : Nat) : Bool := if j = i then true else d j
theorem upd_self (d : Nat → Bool) (i : Nat) : upd d i i = true := if_pos rfl
theorem upd_other (d : Nat → Bool) {i j : Nat} (h : j ≠ i) : upd d i j = d j := if_neg h

section
variable {P : Program} {ops : Array Oper} {Q : Exit → Act → World → Prop} {n : Nat}

theorem backOk_size (h : backOk n ops = true) : ops.size = n := by
  simp only [backOk, Bool.and_eq_true, beq_iff_eq] at h
  exact h.1
theorem backOk_each (h : backOk n ops = true) {i : Nat} {x : Oper} (hx : ops[i]? = some x) : ∀ e ∈ x.after, Region.binds .any e = true → e.on < i := by
  have hi : i < n := by rw [← backOk_size h]; exact (Array.getElem?_eq_some_iff.1 hx).1
  simp only [backOk, Bool.and_eq_true] at h
  have := List.all_eq_true.1 h.2 i (List.mem_range.2 hi)
  rw [hx] at this
  simp only [Option.map_some, Option.getD_some, Array.all_eq_true_iff_forall_mem, Bool.or_eq_true, Bool.not_eq_true', decide_eq_true_eq] at this
  exact fun e he hb => (this e he).resolve_left (by simp [hb])

theorem getD_upd {listed : Array Bool} {i : Nat} (hi : i < listed.size) : (fun j => (listed.setIfInBounds i true).getD j false) = upd (fun j => listed.getD j false) i := by
  funext j
  unfold upd
  by_cases h : j = i
  · subst h
    rw [if_pos rfl, Array.getD_eq_getD_getElem?, Array.getElem?_setIfInBounds_self_of_lt hi]; rfl
  · rw [if_neg h]
    exact getD_set_ne false (Ne.symm h)

theorem wpAny_inv (Inv : (Nat → Bool) → Act → World → Prop) (hb : backOk n ops = true)
    (hstep : ∀ d a w i, i < n → Inv d a w → d i = false → (∀ j, waits ops i j = true → d j = true) → wpOp P ops Q i (Inv (upd d i)) a w)
    (hend : ∀ d a w, Inv d a w → (∀ i, i < n → d i = true) → Q .normal a w) :
    ∀ (fuel : Nat) (listed : Array Bool) (a : Act) (w : World), listed.size = n → (List.range n).countP (fun i => !listed.getD i false) ≤ fuel → Inv (fun j => listed.getD j false) a w → wpAny P .any ops Q fuel listed a w := by
  have hall : ∀ (listed : Array Bool), listed.size = n → Region.ready .any ops listed = [] → ∀ i, i < n → listed.getD i false = true := by
    intro listed hs hr
    have : ∀ m i, i < m → i < n → listed.getD i false = true := by
      intro m
      induction m with
      | zero => intro i hi; omega
      | succ m ih =>
        intro i hi hin
        by_cases hl : listed.getD i false = true
        · exact hl
        · exfalso
          have hlt : i < ops.size := by rw [backOk_size hb]; exact hin
          have : i ∈ Region.ready .any ops listed := by
            refine mem_ready.2 ⟨?_, ops[i], Array.getElem?_eq_getElem hlt, fun e he hb' => ?_⟩
            · rw [Array.getD_eq_getD_getElem?, Array.getElem?_eq_getElem (by omega)] at hl ⊢
              simpa using hl
            · have h1 := backOk_each hb (Array.getElem?_eq_getElem hlt) e he hb'
              exact ih _ (by omega) (by omega)
          rw [hr] at this
          cases this
    exact fun i hi => this (i + 1) i (by omega) hi
  intro fuel
  induction fuel with
  | zero =>
    intro listed a w hs hc hi
    have hd : ∀ i, i < n → listed.getD i false = true := by
      intro i hin
      have := List.countP_eq_zero.1 (Nat.le_zero.1 hc) i (List.mem_range.2 hin)
      simpa using this
    refine ⟨?_, hend _ a w hi hd⟩
    apply List.eq_nil_iff_forall_not_mem.2
    intro j hj
    obtain ⟨h1, o, ho, _⟩ := mem_ready.1 hj
    have hjn : j < n := by rw [← backOk_size hb]; exact (Array.getElem?_eq_some_iff.1 ho).1
    have h2 := hd j hjn
    rw [Array.getD_eq_getD_getElem?, Array.getElem?_eq_getElem (by omega)] at h1 h2
    simp only [Option.getD_some] at h1 h2
    rw [h1] at h2; cases h2
  | succ fuel ih =>
    intro listed a w hs hc hi
    refine ⟨fun h0 => hend _ a w hi (hall listed hs h0), fun i hri => ?_⟩
    obtain ⟨h1, o, ho, h2⟩ := mem_ready.1 hri
    have hin : i < n := by rw [← backOk_size hb]; exact (Array.getElem?_eq_some_iff.1 ho).1
    have h3 : listed.getD i false = false := by
      rw [Array.getD_eq_getD_getElem?, Array.getElem?_eq_getElem (by omega)] at h1 ⊢
      simpa using h1
    have hst := hstep _ a w i hin hi h3 (fun j hj => by
      unfold waits at hj
      rw [ho] at hj
      simp only [Option.map_some, Option.getD_some] at hj
      rw [← Array.any_toList, List.any_eq_true] at hj
      obtain ⟨e, he, hj⟩ := hj
      have he := Array.mem_toList_iff.1 he
      simp only [Bool.and_eq_true, beq_iff_eq] at hj
      rw [← hj.2]
      exact h2 e he hj.1)
    refine wpOp_mono (fun a' w' hI => ih _ a' w' (by simpa using hs) ?_ ?_) hst
    · have h4 : ∀ l : List Nat, l.Nodup → i ∈ l → l.countP (fun j => !(listed.setIfInBounds i true).getD j false) + 1 = l.countP (fun j => !listed.getD j false) := by
        intro l
        induction l with
        | nil => intro _ h; cases h
        | cons x l ih2 =>
          intro hnd hmem
          rw [List.nodup_cons] at hnd
          have hf := congrFun (getD_upd (listed := listed) (i := i) (by omega))
          by_cases hx : x = i
          · subst hx
            rw [List.countP_cons_of_neg (by rw [hf]; simp [upd]), List.countP_cons_of_pos (by simp [h3])]
            have : l.countP (fun j => !(listed.setIfInBounds x true).getD j false) = l.countP (fun j => !listed.getD j false) := by
              apply List.countP_congr
              intro j hj
              rw [hf, upd_other _ (fun h : j = x => hnd.1 (by rw [← h]; exact hj))]
            omega
          · have hm : i ∈ l := by
              rcases List.mem_cons.1 hmem with h | h
              · exact absurd h.symm hx
              · exact h
            have := ih2 hnd.2 hm
            rw [List.countP_cons, List.countP_cons, hf, upd_other _ hx]
            omega
      have := h4 (List.range n) List.nodup_range (List.mem_range.2 hin)
      omega
    · rw [getD_upd (by omega)]
      exact hI

/-- THE LAW -/
theorem wp_region_inv {id : Nat} {a : Act} {w : World} (n : Nat) (Inv : (Nat → Bool) → Act → World → Prop) (hm : P.follows .mixedOrders = true) (hb : backOk n ops = true)
    (h0 : Inv (fun _ => false) a w.drew)
    (hstep : ∀ d a w i, i < n → Inv d a w → d i = false → (∀ j, waits ops i j = true → d j = true) → wpOp P ops Q i (Inv (upd d i)) a w)
    (hend : ∀ d a w, Inv d a w → (∀ i, i < n → d i = true) → Q .normal a w) : (Code.region id ops true).wp P Q a w := by
  refine wp_region_any hm ?_
  rw [backOk_size hb]
  refine wpAny_inv Inv hb hstep hend n _ _ _ (by simp) ?_ ?_
  · exact Nat.le_trans List.countP_le_length (by simp)
  · have : (fun j => (Array.replicate n false).getD j false) = fun _ => false := by
      funext j
      rw [Array.getD_eq_getD_getElem?]
      by_cases h : j < n
      · simp [h]
      · rw [Array.getElem?_eq_none (by simp; omega)]; rfl
    rw [this]
    exact h0
/-- the same, the invariant told from the slots as they stand at the region's start -/
theorem wp_region_inv' {id : Nat} {a : Act} {w : World} (n : Nat) (Inv : Act → (Nat → Bool) → Act → World → Prop) (hm : P.follows .mixedOrders = true) (hb : backOk n ops = true)
    (h0 : Inv a (fun _ => false) a w.drew)
    (hstep : ∀ (Q' : Exit → Act → World → Prop) (a0 : Act) d a' w i, i < n → Inv a0 d a' w → d i = false → (∀ j, waits ops i j = true → d j = true) → wpOp P ops Q' i (Inv a0 (upd d i)) a' w)
    (hend : ∀ d a' w, Inv a d a' w → (∀ i, i < n → d i = true) → Q .normal a' w) : (Code.region id ops true).wp P Q a w :=
  wp_region_inv n (Inv a) hm hb h0 (hstep Q a) hend
theorem wpOp_go {i : Nat} {o : Oper} {K : Act → World → Prop} {a : Act} {w : World} (ho : ops[i]? = some o) (hg : o.guard = none) (h : o.wp P a w K Q) : wpOp P ops Q i K a w := by
  unfold wpOp
  rw [ho]
  have : Region.wanted o (yielded ops a.tmps) = true := by simp [Region.wanted, hg]
  simp only [this, if_true]
  exact .inl h
theorem wpOp_abs {i : Nat} {o : Oper} {K : Act → World → Prop} {a : Act} {w : World} (ho : ops[i]? = some o) (hg : o.guard = none) (h : ∀ K' : Act → World → Prop, (∀ a w, K a w → K' a w) → o.wp P a w K' Q) : wpOp P ops Q i K a w :=
  wpOp_go ho hg (h K fun _ _ h => h)
theorem wpOp_runs {i : Nat} {o : Oper} {K : Act → World → Prop} {a : Act} {w w' : World} (ho : ops[i]? = some o) (hg : o.guard = none) (v : Value) (hr : (execOp a.eval o).run P w = .ok (.value v) w') (h : K (a.put o.dst v) w') : wpOp P ops Q i K a w := by
  refine wpOp_go ho hg ?_
  unfold Oper.wp
  rw [hr, Oper.upon_value]
  exact h
theorem wpOp_calls {i : Nat} {o : Oper} {K : Act → World → Prop} {a : Act} {w : World} (ho : ops[i]? = some o) (hg : o.guard = none) (f : FuncId) (args : Array Value) (hr : (execOp a.eval o).run P w = .ok (.enter f args) w) {R : Ending → World → Prop} (hc : Calls P f args w R)
    (h : ∀ e w', R e w' → ∃ v, e = .returned v ∧ K (a.put o.dst v) w') : wpOp P ops Q i K a w := by
  refine wpOp_go ho hg ?_
  unfold Oper.wp
  rw [hr, Oper.upon_enter]
  refine hc.mono fun e w' he => ?_
  obtain ⟨v, rfl, hk⟩ := h e w' he
  exact hk
end
/-- slots that have been written, the last written at the head -/
def puts (a : Act) : List (Nat × Value) → Act
  | [] => a
  | (t, v) :: l => (puts a l).put (some t) v
theorem put_over (a : Act) (t : Nat) (u v : Value) : (a.put (some t) u).put (some t) v = a.put (some t) v := by simp [Act.put]
theorem puts_absorb (a : Act) (t : Nat) (v : Value) : ∀ l : List (Nat × Value), (puts a (l.map fun p => if p.1 = t then (t, v) else p)).put (some t) v = (puts a l).put (some t) v
  | [] => rfl
  | (s, u) :: l => by
    by_cases h : s = t
    · subst h
      simp only [List.map_cons, if_true, puts, put_over]
      exact puts_absorb a s v l
    · simp only [List.map_cons, if_neg h, puts]
      rw [Act.put_comm _ _ _ (by intro d hd; injection hd with hd; subst hd; intro hc; injection hc with hc; exact h hc.symm), puts_absorb a t v l]
      rw [Act.put_comm _ _ _ (by intro d hd; injection hd with hd; subst hd; intro hc; injection hc with hc; exact h hc)]
theorem puts_put {a : Act} {t : Nat} {v : Value} {l l' : List (Nat × Value)} (h : l.any (fun p => p.1 == t) = true) (hl : l.map (fun p => if p.1 = t then (t, v) else p) = l') : (puts a l).put (some t) v = puts a l' := by
  subst hl
  induction l with
  | nil => simp at h
  | cons p l ih =>
    obtain ⟨s, u⟩ := p
    by_cases hs : s = t
    · subst hs
      simp only [List.map_cons, if_true, puts, put_over]
      exact (puts_absorb a s v l).symm
    · simp only [List.map_cons, if_neg hs, puts]
      rw [Act.put_comm _ _ _ (by intro d hd; injection hd with hd; subst hd; intro hc; injection hc with hc; exact hs hc.symm), ih (by simpa [hs] using h)]
theorem puts_size (a : Act) : ∀ l, (puts a l).tmps.size = a.tmps.size
  | [] => rfl
  | (t, v) :: l => by simp [puts, Act.put, puts_size a l]
theorem puts_get {a : Act} {t : Nat} {v : Value} (hlt : t < a.tmps.size) : ∀ {l : List (Nat × Value)}, l.find? (fun p => p.1 == t) = some (t, v) → (puts a l).tmps[t]? = some v
  | [], h => by simp at h
  | (s, u) :: l, h => by
    by_cases hs : s = t
    · subst hs
      simp at h
      subst h
      simp [puts, Act.put, puts_size, hlt]
    · rw [List.find?_cons_of_neg (by simpa using hs)] at h
      simp only [puts, Act.put]
      rw [Array.getElem?_setIfInBounds_ne hs]
      exact puts_get hlt h
theorem puts_get_none {a : Act} {t : Nat} : ∀ {l : List (Nat × Value)}, l.find? (fun p => p.1 == t) = none → (puts a l).tmps[t]? = a.tmps[t]?
  | [], _ => rfl
  | (s, u) :: l, h => by
    by_cases hs : s = t
    · subst hs; simp at h
    · rw [List.find?_cons_of_neg (by simpa using hs)] at h
      simp only [puts, Act.put]
      rw [Array.getElem?_setIfInBounds_ne hs]
      exact puts_get_none h
theorem eval_get {a : Act} {t : Nat} {v : Value} (h : a.tmps[t]? = some v) : a.eval (.tmp t) = v := by
  simp [Act.eval, h]
end Go.Proofs.YtofdjlngohhlmaaDoor
