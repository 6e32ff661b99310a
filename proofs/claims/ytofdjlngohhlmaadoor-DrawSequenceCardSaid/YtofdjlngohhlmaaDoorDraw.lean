/- A region that draws its order, and whose last operation waits for all others: that operation may be put off: what holds of the memory while the others are carried out need not hold behind it. -/
import Derived.OrdersHeld
import Derived.RegionTactic
import Derived.Deep.RegionHeld
namespace Go.Proofs.YtofdjlngohhlmaaDoor
open Go

/-- an operation that is never wanted, in the place of number n -/
def idle (n : Nat) (o : Oper) : Oper := { o with op := .move (.const undef), dst := none, guard := some (n, true) }

/-- the last operation waits for all others; an operation waits for earlier ones alone, and is guarded by earlier ones alone -/
def lastOk (n : Nat) (ops : Array Oper) : Bool :=
  ops.size == n + 1 &&
  (List.range n).all (fun i => ((ops[n]?).map fun o => o.after.any fun e => Region.binds .any e && e.on == i).getD false) &&
  (List.range (n + 1)).all (fun i => ((ops[i]?).map fun o => (o.after.all fun e => !Region.binds .any e || e.on < i) && (match o.guard with | some (j, _) => decide (j < n) | none => true)).getD false)

/-- behind the others: the last operation -/
def Behind (P : Program) (ops : Array Oper) (n : Nat) (Q : Exit → Act → World → Prop) : Exit → Act → World → Prop
  | .normal, a, w => wpOp P ops Q n (fun a w => Q .normal a w) a w
  | e, a, w => Q e a w

section
variable {P : Program} {ops : Array Oper} {Q : Exit → Act → World → Prop} {n : Nat} {o : Oper}

theorem lastOk_size (h : lastOk n ops = true) : ops.size = n + 1 := by
  simp only [lastOk, Bool.and_eq_true, beq_iff_eq] at h
  exact h.1.1
theorem lastOk_waits (h : lastOk n ops = true) (ho : ops[n]? = some o) {i : Nat} (hi : i < n) : ∃ e ∈ o.after, Region.binds .any e = true ∧ e.on = i := by
  simp only [lastOk, Bool.and_eq_true] at h
  have := List.all_eq_true.1 h.1.2 i (List.mem_range.2 hi)
  rw [ho] at this
  simp at this
  obtain ⟨k, hk, h1, h2⟩ := this
  exact ⟨_, Array.getElem_mem hk, h1, h2⟩
theorem lastOk_each (h : lastOk n ops = true) {i : Nat} {x : Oper} (hx : ops[i]? = some x) : (∀ e ∈ x.after, Region.binds .any e = true → e.on < i) ∧ ∀ j b, x.guard = some (j, b) → j < n := by
  have hi : i < n + 1 := by rw [← lastOk_size h]; exact (Array.getElem?_eq_some_iff.1 hx).1
  simp only [lastOk, Bool.and_eq_true] at h
  have := List.all_eq_true.1 h.2 i (List.mem_range.2 hi)
  rw [hx] at this
  simp only [Option.map_some, Option.getD_some, Bool.and_eq_true, Array.all_eq_true_iff_forall_mem, Bool.or_eq_true, Bool.not_eq_true', decide_eq_true_eq] at this
  refine ⟨fun e he hb => (this.1 e he).resolve_left (by simp [hb]), fun j b hg => ?_⟩
  have h2 := this.2
  rw [hg] at h2
  simpa using h2

theorem ready_idle (ho : ops[n]? = some o) (listed : Array Bool) (j : Nat) : j ∈ Region.ready .any (ops.setIfInBounds n (idle n o)) listed ↔ j ∈ Region.ready .any ops listed := by
  rw [mem_ready, mem_ready]
  by_cases hj : n = j
  · subst hj
    have hlt : n < ops.size := (Array.getElem?_eq_some_iff.1 ho).1
    rw [Array.getElem?_setIfInBounds_self_of_lt hlt, ho]
    simp [idle]
  · rw [Array.getElem?_setIfInBounds_ne hj]

theorem yielded_idle {j : Nat} (tmps : Array Value) (hj : n ≠ j) (x : Oper) : yielded (ops.setIfInBounds n x) tmps j = yielded ops tmps j := by
  unfold yielded
  rw [Array.getElem?_setIfInBounds_ne hj]

theorem wanted_idle (h : lastOk n ops = true) {i : Nat} {x y : Oper} (hx : ops[i]? = some x) (tmps : Array Value) : Region.wanted x (yielded (ops.setIfInBounds n y) tmps) = Region.wanted x (yielded ops tmps) := by
  unfold Region.wanted
  cases hg : x.guard with
  | none => rfl
  | some g =>
    obtain ⟨j, b⟩ := g
    have := (lastOk_each h hx).2 j b hg
    simp only []
    rw [yielded_idle tmps (by omega)]

theorem upon_behind {x : Oper} {a : Act} {K : Act → World → Prop} {r : Result Next} (h : x.upon P a K (Behind P ops n Q) r) : x.upon P a K Q r := by
  cases r with
  | ok nx w' =>
    cases nx with
    | enter f args => exact h
    | _ => exact h
  | halt v w' => cases v <;> exact h

/-- the last operation is put off -/
theorem wpAny_last (h : lastOk n ops = true) (ho : ops[n]? = some o) : ∀ (fuel : Nat) (listed : Array Bool) (a : Act) (w : World), listed.size = n + 1 → listed.getD n true = false →
    wpAny P .any (ops.setIfInBounds n (idle n o)) (Behind P ops n Q) fuel listed a w → wpAny P .any ops Q fuel listed a w := by
  have hlt : n < ops.size := (Array.getElem?_eq_some_iff.1 ho).1
  have hnext : ∀ (listed : Array Bool), listed.size = n + 1 → listed.getD n true = false → Region.ready .any ops listed ≠ [] := by
    intro listed hs hn
    have : ∀ m, m ≤ n → (∀ j, j < m → listed.getD j false = true) ∨ ∃ i, i ∈ Region.ready .any ops listed := by
      intro m
      induction m with
      | zero => intro _; exact .inl (fun j hj => by omega)
      | succ m ih =>
        intro hm
        rcases ih (by omega) with h1 | h1
        · by_cases hl : listed.getD m true = false
          · right
            refine ⟨m, mem_ready.2 ⟨hl, ops[m]'(by omega), Array.getElem?_eq_getElem (by omega), fun e he hb => h1 _ ?_⟩⟩
            exact (lastOk_each h (Array.getElem?_eq_getElem (by omega))).1 e he hb
          · left
            intro j hj
            rcases (show j < m ∨ j = m by omega) with h2 | rfl
            · exact h1 j h2
            · have : j < listed.size := by omega
              simpa [this] using hl
        · exact .inr h1
    rcases this n (Nat.le_refl _) with h1 | ⟨i, hi⟩
    · have : n ∈ Region.ready .any ops listed := mem_ready.2 ⟨hn, o, ho, fun e he hb => h1 _ ((lastOk_each h ho).1 e he hb)⟩
      intro h2; rw [h2] at this; cases this
    · intro h2; rw [h2] at hi; cases hi
  have hready : ∀ listed, Region.ready .any (ops.setIfInBounds n (idle n o)) listed = [] ↔ Region.ready .any ops listed = [] := by
    intro listed
    constructor
    · intro h1
      apply List.eq_nil_iff_forall_not_mem.2
      intro j hj
      have := (ready_idle ho listed j).2 hj
      rw [h1] at this; cases this
    · intro h1
      apply List.eq_nil_iff_forall_not_mem.2
      intro j hj
      have := (ready_idle ho listed j).1 hj
      rw [h1] at this; cases this
  intro fuel
  induction fuel with
  | zero =>
    intro listed a w hs hn hw
    exact absurd ((hready listed).1 hw.1) (hnext listed hs hn)
  | succ fuel ih =>
    intro listed a w hs hn hw
    refine ⟨fun h0 => absurd h0 (hnext listed hs hn), fun i hi => ?_⟩
    have h1 := hw.2 i ((ready_idle ho listed i).2 hi)
    by_cases hin : n = i
    · subst hin
      unfold wpOp at h1
      rw [Array.getElem?_setIfInBounds_self_of_lt hlt] at h1
      have hnw : Region.wanted (idle n o) (yielded (ops.setIfInBounds n (idle n o)) a.tmps) = false := by
        have : yielded (ops.setIfInBounds n (idle n o)) a.tmps n = none := by
          unfold yielded
          rw [Array.getElem?_setIfInBounds_self_of_lt hlt]
          rfl
        unfold Region.wanted
        show (yielded (ops.setIfInBounds n (idle n o)) a.tmps n == some true) = false
        rw [this]
        rfl
      simp only [hnw, Bool.false_eq_true, if_false] at h1
      have hall : Region.ready .any ops (listed.setIfInBounds n true) = [] := by
        apply List.eq_nil_iff_forall_not_mem.2
        intro j hj
        obtain ⟨h2, x, hx, _⟩ := mem_ready.1 hj
        have hjn : j < n + 1 := by rw [← lastOk_size h]; exact (Array.getElem?_eq_some_iff.1 hx).1
        rcases (show j < n ∨ j = n by omega) with h3 | rfl
        · obtain ⟨e, he, hb, heo⟩ := lastOk_waits h ho h3
          obtain ⟨_, y, hy, hya⟩ := mem_ready.1 hi
          rw [ho] at hy
          injection hy with hy
          subst hy
          have h4 := hya e he hb
          rw [heo] at h4
          have h5 := getD_set_true (i := n) h4
          have hjs : j < (listed.setIfInBounds n true).size := by simp; omega
          rw [Array.getD_eq_getD_getElem?, Array.getElem?_eq_getElem hjs] at h2 h5
          simp only [Option.getD_some] at h2 h5
          rw [h2] at h5
          cases h5
        · rw [Array.getD_eq_getD_getElem?, Array.getElem?_setIfInBounds_self_of_lt (by omega)] at h2
          cases h2
      have hq : Behind P ops n Q .normal a w := by
        have hall' := (hready _).2 hall
        cases fuel with
        | zero => exact h1.2
        | succ fuel => exact h1.1 hall'
      exact wpOp_mono (fun a' w' hQ => wpAny_done hall hQ fuel) hq
    · have hns : (listed.setIfInBounds i true).getD n true = false := by rw [getD_set_ne true (Ne.symm hin)]; exact hn
      have h2 : wpOp P (ops.setIfInBounds n (idle n o)) (Behind P ops n Q) i (wpAny P .any ops Q fuel (listed.setIfInBounds i true)) a w :=
        wpOp_mono (fun a' w' hh => ih _ a' w' (by simpa using hs) hns hh) h1
      unfold wpOp at h2 ⊢
      rw [Array.getElem?_setIfInBounds_ne hin] at h2
      cases hx : ops[i]? with
      | none => rw [hx] at h2; exact h2
      | some x =>
        rw [hx] at h2
        simp only [] at h2 ⊢
        rw [wanted_idle h hx] at h2
        split
        · rename_i hwt
          rw [if_pos hwt] at h2
          rcases h2 with h2 | h2
          · exact .inl (upon_behind h2)
          · exact .inr h2
        · rename_i hwt
          rw [if_neg hwt] at h2
          exact h2

theorem behind_upon {x : Oper} {a : Act} {K : Act → World → Prop} {r : Result Next} (h : x.upon P a K Q r) : x.upon P a K (Behind P ops n Q) r := by
  cases r with
  | ok nx w' =>
    cases nx with
    | enter f args => exact h
    | _ => exact h
  | halt v w' => cases v <;> exact h

/-- An order in which the operations may be walked: number, and whether it only reads. Each that reads may come up and is free; each other is the only one that may come up; number n is left for the end. -/
def orderOk (ops : Array Oper) (n : Nat) : List (Nat × Bool) → Array Bool → Bool
  | [], listed => Region.ready .any ops listed == [n]
  | (i, r) :: l, listed => i != n && (if r then (Region.ready .any ops listed).contains i && Region.free .any ops listed i else Region.ready .any ops listed == [i]) && orderOk ops n l (listed.setIfInBounds i true)

/-- the walk in that order; S holds behind each operation but the last -/
def seqL (P : Program) (ops : Array Oper) (Q : Exit → Act → World → Prop) (S : World → Prop) (n : Nat) : List (Nat × Bool) → Act → World → Prop
  | [], a, w => wpOp P ops Q n (fun a w => Q .normal a w) a w
  | (i, r) :: l, a, w => match ops[i]? with
    | none => False
    | some o => if r = true then ∃ v, YieldsIf P ops S o v a ∧ seqL P ops Q S n l (a.put o.dst v) w else wpOp P ops Q i (fun a' w' => S w' ∧ seqL P ops Q S n l a' w') a w

theorem wpAnyH_of_seqL {S : World → Prop} (h : lastOk n ops = true) (ho : ops[n]? = some o) (hsel : Region.noSelect (ops.setIfInBounds n (idle n o)) = true)
    (hQ : ∀ c a d v w, Q (.panic c) (Act.put a d v) w → Q (.panic c) a w) :
    ∀ (l : List (Nat × Bool)) (fuel : Nat) (listed : Array Bool) (a : Act) (w : World), l.length < fuel → orderOk (ops.setIfInBounds n (idle n o)) n l listed = true → S w →
      seqL P ops Q S n l a w → wpAnyH P .any (ops.setIfInBounds n (idle n o)) (Behind P ops n Q) S fuel listed a w := by
  have hlt : n < ops.size := (Array.getElem?_eq_some_iff.1 ho).1
  intro l
  induction l with
  | nil =>
    intro fuel listed a w hf hok hS hs
    obtain ⟨fuel, rfl⟩ : ∃ f, fuel = f + 1 := ⟨fuel - 1, by simp at hf; omega⟩
    have hr : Region.ready .any (ops.setIfInBounds n (idle n o)) listed = [n] := by simpa [orderOk] using hok
    refine wpAnyH_all hr (by simp) fun i hi => ?_
    simp at hi
    subst hi
    unfold wpOp
    rw [Array.getElem?_setIfInBounds_self_of_lt hlt]
    have hnw : Region.wanted (idle i o) (yielded (ops.setIfInBounds i (idle i o)) a.tmps) = false := by
      have : yielded (ops.setIfInBounds i (idle i o)) a.tmps i = none := by
        unfold yielded
        rw [Array.getElem?_setIfInBounds_self_of_lt hlt]
        rfl
      unfold Region.wanted
      show (yielded (ops.setIfInBounds i (idle i o)) a.tmps i == some true) = false
      rw [this]
      rfl
    simp only [hnw, Bool.false_eq_true, if_false]
    refine ⟨hS, wpAnyH_done ?_ hs fuel⟩
    apply List.eq_nil_iff_forall_not_mem.2
    intro j hj
    obtain ⟨h1, x, hx, hall⟩ := mem_ready.1 hj
    by_cases hji : j = i
    · subst hji
      have h0 : j ∈ Region.ready .any (ops.setIfInBounds j (idle j o)) listed := by rw [hr]; simp
      have h2 := (mem_ready.1 h0).1
      have hjs : j < listed.size := by
        rcases Nat.lt_or_ge j listed.size with h' | h'
        · exact h'
        · rw [Array.getD_eq_getD_getElem?, Array.getElem?_eq_none h'] at h2; cases h2
      rw [Array.getD_eq_getD_getElem?, Array.getElem?_setIfInBounds_self_of_lt hjs] at h1
      cases h1
    · rw [getD_set_ne true (Ne.symm hji)] at h1
      -- j waits for nothing that is unlisted but i; i is the last: nobody waits for it
      have hx' : ops[j]? = some x := by rw [Array.getElem?_setIfInBounds_ne (Ne.symm hji)] at hx; exact hx
      have hjn : j < i + 1 := by rw [← lastOk_size h]; exact (Array.getElem?_eq_some_iff.1 hx').1
      have hj2 : j ∈ Region.ready .any (ops.setIfInBounds i (idle i o)) listed := by
        refine mem_ready.2 ⟨h1, x, hx, fun e he hb => ?_⟩
        have h3 := hall e he hb
        have h4 := (lastOk_each h hx').1 e he hb
        rw [getD_set_ne false (by omega)] at h3
        exact h3
      rw [hr] at hj2
      simp at hj2
      exact hji hj2
  | cons p l ih =>
    obtain ⟨i, r⟩ := p
    intro fuel listed a w hf hok hS hs
    obtain ⟨fuel, rfl⟩ : ∃ f, fuel = f + 1 := ⟨fuel - 1, by simp at hf; omega⟩
    simp only [orderOk, Bool.and_eq_true, bne_iff_ne] at hok
    obtain ⟨⟨hin, hstep⟩, hrest⟩ := hok
    simp only [seqL] at hs
    cases hx : ops[i]? with
    | none => rw [hx] at hs; exact hs.elim
    | some x =>
      rw [hx] at hs
      have hx' : (ops.setIfInBounds n (idle n o))[i]? = some x := by rw [Array.getElem?_setIfInBounds_ne (Ne.symm hin)]; exact hx
      cases r with
      | true =>
        simp only [if_true, Bool.and_eq_true] at hstep hs
        obtain ⟨v, hy, hs⟩ := hs
        refine wpAnyH_take hx' hsel hstep.2 hstep.1 (fun c a w hq => hQ c a x.dst v w hq) ?_ hS (ih fuel _ _ _ (by simp at hf; omega) hrest hS hs)
        unfold YieldsIf at hy ⊢
        rw [wanted_idle h hx]
        exact hy
      | false =>
        simp only [Bool.false_eq_true, if_false, beq_iff_eq] at hstep hs
        refine wpAnyH_all hstep (by simp) fun j hj => ?_
        simp at hj
        subst hj
        unfold wpOp at hs ⊢
        rw [hx] at hs
        rw [hx']
        simp only [] at hs ⊢
        rw [wanted_idle h hx]
        split
        · rename_i hwt
          rw [if_pos hwt] at hs
          rcases hs with hs | hs
          · refine .inl (Oper.wp_mono (K := fun a' w' => S w' ∧ seqL P ops Q S n l a' w') (fun a' w' hh => ⟨hh.1, ih fuel _ a' w' (by simp at hf; omega) hrest hh.1 hh.2⟩) ?_)
            exact behind_upon hs
          · exact .inr hs
        · rename_i hwt
          rw [if_neg hwt] at hs
          exact ⟨hs.1, ih fuel _ _ _ (by simp at hf; omega) hrest hs.1 hs.2⟩

/-- THE LAW -/
theorem wp_region_seq {id : Nat} {a : Act} {w : World} (S : World → Prop) (n : Nat) (l : List (Nat × Bool)) (hm : P.follows .mixedOrders = true) (ho : ops[n]? = some o) (h : lastOk n ops = true)
    (hsel : Region.noSelect (ops.setIfInBounds n (idle n o)) = true) (hl : (orderOk (ops.setIfInBounds n (idle n o)) n l (Array.replicate (n + 1) false) && l.length == n) = true)
    (hQ : ∀ c a d v w, Q (.panic c) (Act.put a d v) w → Q (.panic c) a w) (hS : S w.drew) (hs : seqL P ops Q S n l a w.drew) : (Code.region id ops true).wp P Q a w := by
  simp only [Bool.and_eq_true, beq_iff_eq] at hl
  refine wp_region_any hm ?_
  rw [lastOk_size h]
  exact wpAny_last h ho _ _ _ _ (by simp) (by simp) (wpAny_of_held _ _ _ _ (wpAnyH_of_seqL h ho hsel hQ l _ _ _ _ (by omega) hl.1 hS hs))

/- the steps -/
theorem seqL_read {S : World → Prop} {i : Nat} {l : List (Nat × Bool)} {x : Oper} {a : Act} {w : World} {v : Value} (hx : ops[i]? = some x) (hg : x.guard = none) (hy : ∀ w, S w → (execOp a.eval x).run P w = .ok (.value v) w)
    (h : seqL P ops Q S n l (a.put x.dst v) w) : seqL P ops Q S n ((i, true) :: l) a w := by
  simp only [seqL, hx, if_true]
  exact ⟨v, .inl ⟨by simp [Region.wanted, hg], hy⟩, h⟩
theorem seqL_do {S : World → Prop} {i : Nat} {l : List (Nat × Bool)} {x : Oper} {a : Act} {w : World} (hx : ops[i]? = some x)
    (h : ∀ K : Act → World → Prop, (∀ a w, S w → seqL P ops Q S n l a w → K a w) → if Region.wanted x (yielded ops a.tmps) = true then Oper.wp P x a w K Q else K (a.put x.dst undef) w) : seqL P ops Q S n ((i, false) :: l) a w := by
  simp only [seqL, hx, Bool.false_eq_true, if_false]
  exact wpOp_step hx fun K hK => h K fun a w hS hs => hK a w ⟨hS, hs⟩
theorem seqL_last {S : World → Prop} {x : Oper} {a : Act} {w : World} (hx : ops[n]? = some x)
    (h : ∀ K : Act → World → Prop, (∀ a w, Q .normal a w → K a w) → if Region.wanted x (yielded ops a.tmps) = true then Oper.wp P x a w K Q else K (a.put x.dst undef) w) : seqL P ops Q S n [] a w := by
  simp only [seqL]
  exact wpOp_step hx fun K hK => h K hK
end
end Go.Proofs.YtofdjlngohhlmaaDoor
