/- Draw Lib3 Bits NatM Nat1 -/
import Derived.OrdersHeld
import Derived.RegionTactic
import Derived.Deep.RegionHeld
import Derived.Test.YtjlhbfbdcfajfaaGreatDoorG01
import Derived.Laws.OwnMore
import Derived.Laws.BitsAllLaws
import Derived.Laws.ShiftsVarLaws
import Derived.Laws.Shifts
import Derived.Test.YtjlhbfbdcfajfaaGreatDoorChecked
/- A region that draws its order, and whose last operation waits for all others: that operation may be put off: what holds of the memory while the others are carried out need not hold behind it. -/
namespace Go.Proofs.YtjlhbfbdcfajfaaGreatDoor
open Go

/-- an operation that is never wanted, in the place of number n -/
def idle (n : Nat) (o : Oper) : Oper := { o with op := .move (.const undef), dst := none, guard := some (n, true) }

/-- the last operation waits for all others; an operation waits for earlier ones alone, and is guarded by earlier ones alone -/
def lastOk (n : Nat) (ops : Array Oper) : Bool :=
  ops.size == n + 1 &&
  (List.range n).all (fun i => ((ops[n]?).map fun o => o.after.any fun e => Region.binds .any e && e.on == i).getD false) &&
  (List.range (n + 1)).all (fun i => ((ops[i]?).map fun o => (o.after.all fun e => !Region.binds .any e || e.on < i) && (match o.guard with | some (j, _) => decide (j < n) | none => true)).getD false)

/-- behind the others: the last operation -/
def Behind (P : Program) (ops : Array Oper) (n : Nat) (Q : Exit → Act → World → Prop) : Exit → Act → World → Prop
  | .normal, a, w => wpOp P ops Q n (fun a w => Q .normal a w) a w
  | e, a, w => Q e a w

section
variable {P : Program} {ops : Array Oper} {Q : Exit → Act → World → Prop} {n : Nat} {o : Oper}

theorem lastOk_size (h : lastOk n ops = true) : ops.size = n + 1 := by
  simp only [lastOk, Bool.and_eq_true, beq_iff_eq] at h
  exact h.1.1
theorem lastOk_waits (h : lastOk n ops = true) (ho : ops[n]? = some o) {i : Nat} (hi : i < n) : ∃ e ∈ o.after, Region.binds .any e = true ∧ e.on = i := by
  simp only [lastOk, Bool.and_eq_true] at h
  have := List.all_eq_true.1 h.1.2 i (List.mem_range.2 hi)
  rw [ho] at this
  simp at this
  obtain ⟨k, hk, h1, h2⟩ := this
  exact ⟨_, Array.getElem_mem hk, h1, h2⟩
theorem lastOk_each (h : lastOk n ops = true) {i : Nat} {x : Oper} (hx : ops[i]? = some x) : (∀ e ∈ x.after, Region.binds .any e = true → e.on < i) ∧ ∀ j b, x.guard = some (j, b) → j < n := by
  have hi : i < n + 1 := by rw [← lastOk_size h]; exact (Array.getElem?_eq_some_iff.1 hx).1
  simp only [lastOk, Bool.and_eq_true] at h
  have := List.all_eq_true.1 h.2 i (List.mem_range.2 hi)
  rw [hx] at this
  simp only [Option.map_some, Option.getD_some, Bool.and_eq_true, Array.all_eq_true_iff_forall_mem, Bool.or_eq_true, Bool.not_eq_true', decide_eq_true_eq] at this
  refine ⟨fun e he hb => (this.1 e he).resolve_left (by simp [hb]), fun j b hg => ?_⟩
  have h2 := this.2
  rw [hg] at h2
  simpa using h2

theorem ready_idle (ho : ops[n]? = some o) (listed : Array Bool) (j : Nat) : j ∈ Region.ready .any (ops.setIfInBounds n (idle n o)) listed ↔ j ∈ Region.ready .any ops listed := by
  rw [mem_ready, mem_ready]
  by_cases hj : n = j
  · subst hj
    have hlt : n < ops.size := (Array.getElem?_eq_some_iff.1 ho).1
    rw [Array.getElem?_setIfInBounds_self_of_lt hlt, ho]
    simp [idle]
  · rw [Array.getElem?_setIfInBounds_ne hj]

theorem yielded_idle {j : Nat} (tmps : Array Value) (hj : n ≠ j) (x : Oper) : yielded (ops.setIfInBounds n x) tmps j = yielded ops tmps j := by
  unfold yielded
  rw [Array.getElem?_setIfInBounds_ne hj]

theorem wanted_idle (h : lastOk n ops = true) {i : Nat} {x y : Oper} (hx : ops[i]? = some x) (tmps : Array Value) : Region.wanted x (yielded (ops.setIfInBounds n y) tmps) = Region.wanted x (yielded ops tmps) := by
  unfold Region.wanted
  cases hg : x.guard with
  | none => rfl
  | some g =>
    obtain ⟨j, b⟩ := g
    have := (lastOk_each h hx).2 j b hg
    simp only []
    rw [yielded_idle tmps (by omega)]

theorem upon_behind {x : Oper} {a : Act} {K : Act → World → Prop} {r : Result Next} (h : x.upon P a K (Behind P ops n Q) r) : x.upon P a K Q r := by
  cases r with
  | ok nx w' =>
    cases nx with
    | enter f args => exact h
    | _ => exact h
  | halt v w' => cases v <;> exact h

/-- the last operation is put off -/
theorem wpAny_last (h : lastOk n ops = true) (ho : ops[n]? = some o) : ∀ (fuel : Nat) (listed : Array Bool) (a : Act) (w : World), listed.size = n + 1 → listed.getD n true = false →
    wpAny P .any (ops.setIfInBounds n (idle n o)) (Behind P ops n Q) fuel listed a w → wpAny P .any ops Q fuel listed a w := by
  have hlt : n < ops.size := (Array.getElem?_eq_some_iff.1 ho).1
  have hnext : ∀ (listed : Array Bool), listed.size = n + 1 → listed.getD n true = false → Region.ready .any ops listed ≠ [] := by
    intro listed hs hn
    have : ∀ m, m ≤ n → (∀ j, j < m → listed.getD j false = true) ∨ ∃ i, i ∈ Region.ready .any ops listed := by
      intro m
      induction m with
      | zero => intro _; exact .inl (fun j hj => by omega)
      | succ m ih =>
        intro hm
        rcases ih (by omega) with h1 | h1
        · by_cases hl : listed.getD m true = false
          · right
            refine ⟨m, mem_ready.2 ⟨hl, ops[m]'(by omega), Array.getElem?_eq_getElem (by omega), fun e he hb => h1 _ ?_⟩⟩
            exact (lastOk_each h (Array.getElem?_eq_getElem (by omega))).1 e he hb
          · left
            intro j hj
            rcases (show j < m ∨ j = m by omega) with h2 | rfl
            · exact h1 j h2
            · have : j < listed.size := by omega
              simpa [this] using hl
        · exact .inr h1
    rcases this n (Nat.le_refl _) with h1 | ⟨i, hi⟩
    · have : n ∈ Region.ready .any ops listed := mem_ready.2 ⟨hn, o, ho, fun e he hb => h1 _ ((lastOk_each h ho).1 e he hb)⟩
      intro h2; rw [h2] at this; cases this
    · intro h2; rw [h2] at hi; cases hi
  have hready : ∀ listed, Region.ready .any (ops.setIfInBounds n (idle n o)) listed = [] ↔ Region.ready .any ops listed = [] := by
    intro listed
    constructor
    · intro h1
      apply List.eq_nil_iff_forall_not_mem.2
      intro j hj
      have := (ready_idle ho listed j).2 hj
      rw [h1] at this; cases this
    · intro h1
      apply List.eq_nil_iff_forall_not_mem.2
      intro j hj
      have := (ready_idle ho listed j).1 hj
      rw [h1] at this; cases this
  intro fuel
  induction fuel with
  | zero =>
    intro listed a w hs hn hw
    exact absurd ((hready listed).1 hw.1) (hnext listed hs hn)
  | succ fuel ih =>
    intro listed a w hs hn hw
    refine ⟨fun h0 => absurd h0 (hnext listed hs hn), fun i hi => ?_⟩
    have h1 := hw.2 i ((ready_idle ho listed i).2 hi)
    by_cases hin : n = i
    · subst hin
      unfold wpOp at h1
      rw [Array.getElem?_setIfInBounds_self_of_lt hlt] at h1
      have hnw : Region.wanted (idle n o) (yielded (ops.setIfInBounds n (idle n o)) a.tmps) = false := by
        have : yielded (ops.setIfInBounds n (idle n o)) a.tmps n = none := by
          unfold yielded
          rw [Array.getElem?_setIfInBounds_self_of_lt hlt]
          rfl
        unfold Region.wanted
        show (yielded (ops.setIfInBounds n (idle n o)) a.tmps n == some true) = false
        rw [this]
        rfl
      simp only [hnw, Bool.false_eq_true, if_false] at h1
      have hall : Region.ready .any ops (listed.setIfInBounds n true) = [] := by
        apply List.eq_nil_iff_forall_not_mem.2
        intro j hj
        obtain ⟨h2, x, hx, _⟩ := mem_ready.1 hj
        have hjn : j < n + 1 := by rw [← lastOk_size h]; exact (Array.getElem?_eq_some_iff.1 hx).1
        rcases (show j < n ∨ j = n by omega) with h3 | rfl
        · obtain ⟨e, he, hb, heo⟩ := lastOk_waits h ho h3
          obtain ⟨_, y, hy, hya⟩ := mem_ready.1 hi
          rw [ho] at hy
          injection hy with hy
          subst hy
          have h4 := hya e he hb
          rw [heo] at h4
          have h5 := getD_set_true (i := n) h4
          have hjs : j < (listed.setIfInBounds n true).size := by simp; omega
          rw [Array.getD_eq_getD_getElem?, Array.getElem?_eq_getElem hjs] at h2 h5
          simp only [Option.getD_some] at h2 h5
          rw [h2] at h5
          cases h5
        · rw [Array.getD_eq_getD_getElem?, Array.getElem?_setIfInBounds_self_of_lt (by omega)] at h2
          cases h2
      have hq : Behind P ops n Q .normal a w := by
        have hall' := (hready _).2 hall
        cases fuel with
        | zero => exact h1.2
        | succ fuel => exact h1.1 hall'
      exact wpOp_mono (fun a' w' hQ => wpAny_done hall hQ fuel) hq
    · have hns : (listed.setIfInBounds i true).getD n true = false := by rw [getD_set_ne true (Ne.symm hin)]; exact hn
      have h2 : wpOp P (ops.setIfInBounds n (idle n o)) (Behind P ops n Q) i (wpAny P .any ops Q fuel (listed.setIfInBounds i true)) a w :=
        wpOp_mono (fun a' w' hh => ih _ a' w' (by simpa using hs) hns hh) h1
      unfold wpOp at h2 ⊢
      rw [Array.getElem?_setIfInBounds_ne hin] at h2
      cases hx : ops[i]? with
      | none => rw [hx] at h2; exact h2
      | some x =>
        rw [hx] at h2
        simp only [] at h2 ⊢
        rw [wanted_idle h hx] at h2
        split
        · rename_i hwt
          rw [if_pos hwt] at h2
          rcases h2 with h2 | h2
          · exact .inl (upon_behind h2)
          · exact .inr h2
        · rename_i hwt
          rw [if_neg hwt] at h2
          exact h2

theorem behind_upon {x : Oper} {a : Act} {K : Act → World → Prop} {r : Result Next} (h : x.upon P a K Q r) : x.upon P a K (Behind P ops n Q) r := by
  cases r with
  | ok nx w' =>
    cases nx with
    | enter f args => exact h
    | _ => exact h
  | halt v w' => cases v <;> exact h

/-- An order in which the operations may be walked: number, and whether it only reads. Each that reads may come up and is free; each other is the only one that may come up; number n is left for the end. -/
def orderOk (ops : Array Oper) (n : Nat) : List (Nat × Bool) → Array Bool → Bool
  | [], listed => Region.ready .any ops listed == [n]
  | (i, r) :: l, listed => i != n && (if r then (Region.ready .any ops listed).contains i && Region.free .any ops listed i else Region.ready .any ops listed == [i]) && orderOk ops n l (listed.setIfInBounds i true)

/-- the walk in that order; S holds behind each operation but the last -/
def seqL (P : Program) (ops : Array Oper) (Q : Exit → Act → World → Prop) (S : World → Prop) (n : Nat) : List (Nat × Bool) → Act → World → Prop
  | [], a, w => wpOp P ops Q n (fun a w => Q .normal a w) a w
  | (i, r) :: l, a, w => match ops[i]? with
    | none => False
    | some o => if r = true then ∃ v, YieldsIf P ops S o v a ∧ seqL P ops Q S n l (a.put o.dst v) w else wpOp P ops Q i (fun a' w' => S w' ∧ seqL P ops Q S n l a' w') a w

theorem wpAnyH_of_seqL {S : World → Prop} (h : lastOk n ops = true) (ho : ops[n]? = some o) (hsel : Region.noSelect (ops.setIfInBounds n (idle n o)) = true)
    (hQ : ∀ c a d v w, Q (.panic c) (Act.put a d v) w → Q (.panic c) a w) :
    ∀ (l : List (Nat × Bool)) (fuel : Nat) (listed : Array Bool) (a : Act) (w : World), l.length < fuel → orderOk (ops.setIfInBounds n (idle n o)) n l listed = true → S w →
      seqL P ops Q S n l a w → wpAnyH P .any (ops.setIfInBounds n (idle n o)) (Behind P ops n Q) S fuel listed a w := by
  have hlt : n < ops.size := (Array.getElem?_eq_some_iff.1 ho).1
  intro l
  induction l with
  | nil =>
    intro fuel listed a w hf hok hS hs
    obtain ⟨fuel, rfl⟩ : ∃ f, fuel = f + 1 := ⟨fuel - 1, by simp at hf; omega⟩
    have hr : Region.ready .any (ops.setIfInBounds n (idle n o)) listed = [n] := by simpa [orderOk] using hok
    refine wpAnyH_all hr (by simp) fun i hi => ?_
    simp at hi
    subst hi
    unfold wpOp
    rw [Array.getElem?_setIfInBounds_self_of_lt hlt]
    have hnw : Region.wanted (idle i o) (yielded (ops.setIfInBounds i (idle i o)) a.tmps) = false := by
      have : yielded (ops.setIfInBounds i (idle i o)) a.tmps i = none := by
        unfold yielded
        rw [Array.getElem?_setIfInBounds_self_of_lt hlt]
        rfl
      unfold Region.wanted
      show (yielded (ops.setIfInBounds i (idle i o)) a.tmps i == some true) = false
      rw [this]
      rfl
    simp only [hnw, Bool.false_eq_true, if_false]
    refine ⟨hS, wpAnyH_done ?_ hs fuel⟩
    apply List.eq_nil_iff_forall_not_mem.2
    intro j hj
    obtain ⟨h1, x, hx, hall⟩ := mem_ready.1 hj
    by_cases hji : j = i
    · subst hji
      have h0 : j ∈ Region.ready .any (ops.setIfInBounds j (idle j o)) listed := by rw [hr]; simp
      have h2 := (mem_ready.1 h0).1
      have hjs : j < listed.size := by
        rcases Nat.lt_or_ge j listed.size with h' | h'
        · exact h'
        · rw [Array.getD_eq_getD_getElem?, Array.getElem?_eq_none h'] at h2; cases h2
      rw [Array.getD_eq_getD_getElem?, Array.getElem?_setIfInBounds_self_of_lt hjs] at h1
      cases h1
    · rw [getD_set_ne true (Ne.symm hji)] at h1
      -- j waits for nothing that is unlisted but i; i is the last: nobody waits for it
      have hx' : ops[j]? = some x := by rw [Array.getElem?_setIfInBounds_ne (Ne.symm hji)] at hx; exact hx
      have hjn : j < i + 1 := by rw [← lastOk_size h]; exact (Array.getElem?_eq_some_iff.1 hx').1
      have hj2 : j ∈ Region.ready .any (ops.setIfInBounds i (idle i o)) listed := by
        refine mem_ready.2 ⟨h1, x, hx, fun e he hb => ?_⟩
        have h3 := hall e he hb
        have h4 := (lastOk_each h hx').1 e he hb
        rw [getD_set_ne false (by omega)] at h3
        exact h3
      rw [hr] at hj2
      simp at hj2
      exact hji hj2
  | cons p l ih =>
    obtain ⟨i, r⟩ := p
    intro fuel listed a w hf hok hS hs
    obtain ⟨fuel, rfl⟩ : ∃ f, fuel = f + 1 := ⟨fuel - 1, by simp at hf; omega⟩
    simp only [orderOk, Bool.and_eq_true, bne_iff_ne] at hok
    obtain ⟨⟨hin, hstep⟩, hrest⟩ := hok
    simp only [seqL] at hs
    cases hx : ops[i]? with
    | none => rw [hx] at hs; exact hs.elim
    | some x =>
      rw [hx] at hs
      have hx' : (ops.setIfInBounds n (idle n o))[i]? = some x := by rw [Array.getElem?_setIfInBounds_ne (Ne.symm hin)]; exact hx
      cases r with
      | true =>
        simp only [if_true, Bool.and_eq_true] at hstep hs
        obtain ⟨v, hy, hs⟩ := hs
        refine wpAnyH_take hx' hsel hstep.2 hstep.1 (fun c a w hq => hQ c a x.dst v w hq) ?_ hS (ih fuel _ _ _ (by simp at hf; omega) hrest hS hs)
        unfold YieldsIf at hy ⊢
        rw [wanted_idle h hx]
        exact hy
      | false =>
        simp only [Bool.false_eq_true, if_false, beq_iff_eq] at hstep hs
        refine wpAnyH_all hstep (by simp) fun j hj => ?_
        simp at hj
        subst hj
        unfold wpOp at hs ⊢
        rw [hx] at hs
        rw [hx']
        simp only [] at hs ⊢
        rw [wanted_idle h hx]
        split
        · rename_i hwt
          rw [if_pos hwt] at hs
          rcases hs with hs | hs
          · refine .inl (Oper.wp_mono (K := fun a' w' => S w' ∧ seqL P ops Q S n l a' w') (fun a' w' hh => ⟨hh.1, ih fuel _ a' w' (by simp at hf; omega) hrest hh.1 hh.2⟩) ?_)
            exact behind_upon hs
          · exact .inr hs
        · rename_i hwt
          rw [if_neg hwt] at hs
          exact ⟨hs.1, ih fuel _ _ _ (by simp at hf; omega) hrest hs.1 hs.2⟩

/-- THE LAW -/
theorem wp_region_seq {id : Nat} {a : Act} {w : World} (S : World → Prop) (n : Nat) (l : List (Nat × Bool)) (hm : P.follows .mixedOrders = true) (ho : ops[n]? = some o) (h : lastOk n ops = true)
    (hsel : Region.noSelect (ops.setIfInBounds n (idle n o)) = true) (hl : (orderOk (ops.setIfInBounds n (idle n o)) n l (Array.replicate (n + 1) false) && l.length == n) = true)
    (hQ : ∀ c a d v w, Q (.panic c) (Act.put a d v) w → Q (.panic c) a w) (hS : S w.drew) (hs : seqL P ops Q S n l a w.drew) : (Code.region id ops true).wp P Q a w := by
  simp only [Bool.and_eq_true, beq_iff_eq] at hl
  refine wp_region_any hm ?_
  rw [lastOk_size h]
  exact wpAny_last h ho _ _ _ _ (by simp) (by simp) (wpAny_of_held _ _ _ _ (wpAnyH_of_seqL h ho hsel hQ l _ _ _ _ (by omega) hl.1 hS hs))

/- the steps -/
theorem seqL_read {S : World → Prop} {i : Nat} {l : List (Nat × Bool)} {x : Oper} {a : Act} {w : World} {v : Value} (hx : ops[i]? = some x) (hg : x.guard = none) (hy : ∀ w, S w → (execOp a.eval x).run P w = .ok (.value v) w)
    (h : seqL P ops Q S n l (a.put x.dst v) w) : seqL P ops Q S n ((i, true) :: l) a w := by
  simp only [seqL, hx, if_true]
  exact ⟨v, .inl ⟨by simp [Region.wanted, hg], hy⟩, h⟩
theorem seqL_do {S : World → Prop} {i : Nat} {l : List (Nat × Bool)} {x : Oper} {a : Act} {w : World} (hx : ops[i]? = some x)
    (h : ∀ K : Act → World → Prop, (∀ a w, S w → seqL P ops Q S n l a w → K a w) → if Region.wanted x (yielded ops a.tmps) = true then Oper.wp P x a w K Q else K (a.put x.dst undef) w) : seqL P ops Q S n ((i, false) :: l) a w := by
  simp only [seqL, hx, Bool.false_eq_true, if_false]
  exact wpOp_step hx fun K hK => h K fun a w hS hs => hK a w ⟨hS, hs⟩
theorem seqL_last {S : World → Prop} {x : Oper} {a : Act} {w : World} (hx : ops[n]? = some x)
    (h : ∀ K : Act → World → Prop, (∀ a w, Q .normal a w → K a w) → if Region.wanted x (yielded ops a.tmps) = true then Oper.wp P x a w K Q else K (a.put x.dst undef) w) : seqL P ops Q S n [] a w := by
  simp only [seqL]
  exact wpOp_step hx fun K hK => h K hK
end
end Go.Proofs.YtjlhbfbdcfajfaaGreatDoor
/- More words for memory: rows of the call's own whose elements take one cell: read, written, made. -/
namespace Go.Proofs.YtjlhbfbdcfajfaaGreatDoor
open Go.RowKit

section
variable {α : Type} [Rep α] {w w' : World} {S S' : Nat → Prop} {base : Nat} {e : TypeId} {v : Value} {xs : List α}
theorem Flat.set1 (hsz : Rep.sz α = 1) {cs : List Value} (h : Flat w S cs xs) {k : Nat} {u : Value} {x : α} (hr : Rep.rep w S [u] x) : Flat w S (cs.set k u) (xs.set k x) := by
  induction h with
  | nil => exact .nil
  | @snoc cs ds xs y hf hy ih =>
    have hl := hf.length
    have hd := Rep.len hy
    rw [hsz] at hl hd
    rcases Nat.lt_trichotomy k xs.length with hk | hk | hk
    · rw [List.set_append_left _ _ (by omega), List.set_append_left _ _ hk]
      exact .snoc ih hy
    · obtain ⟨d, rfl⟩ := List.length_eq_one_iff.1 hd
      rw [List.set_append_right _ _ (by omega), List.set_append_right _ _ (by omega)]
      have e1 : k - cs.length = 0 := by omega
      have e2 : k - xs.length = 0 := by omega
      rw [e1, e2]
      exact .snoc hf hr
    · rw [List.set_eq_of_length_le (by rw [List.length_append, hd, hl]; omega), List.set_eq_of_length_le (by simp; omega)]
      exact .snoc hf hy
/-- an element of one cell in a row of the call's own -/
theorem Own.get1 {A : Option Addr} {n c : Nat} (hsz : Rep.sz α = 1) (h : Own w S base e (.slice A n c) xs) {k : Nat} {x : α} (hx : xs[k]? = some x) : ∃ g u, A = some ⟨g, 0, none⟩ ∧ base ≤ g ∧ g < w.heap.size ∧ Rep.rep w S [u] x ∧ w.cell? ⟨g, k, none⟩ = some u ∧ w.frozen? ⟨g, k, none⟩ = false := by
  have hlt := h.lt
  obtain ⟨A', n', c', hv, hn⟩ := h.slice
  injection hv with _ hn' _
  subst hn'
  have hk := lt_of_get hx
  obtain ⟨cs, h1, h2, h3⟩ := h
  have h1' := h1
  obtain ⟨hl, h4⟩ := h1'
  rcases h4 with ⟨hv, hxs⟩ | ⟨g, cap, cur, hv, hbase, hh, hnc, hcm, hcur⟩
  · injection hv with _ h5; omega
  · injection hv with h5 h6 h7
    subst h5
    obtain ⟨ds, hr, hd⟩ := h2.get k x hx
    have hdl := Rep.len hr
    rw [hsz] at hdl
    obtain ⟨u, rfl⟩ := List.length_eq_one_iff.1 hdl
    have := hd 0 u rfl
    rw [hsz] at this
    have hcell := h1.cells (g := g) rfl _ _ this
    have e2 : (⟨g, 0, none⟩ : Addr).add (k * 1 + 0) = ⟨g, k, none⟩ := by
      unfold Addr.add
      split
      · rename_i h; have : k = 0 := by omega
        subst this; rfl
      · simp
    rw [e2] at hcell
    refine ⟨g, u, rfl, (hlt g rfl).1, (hlt g rfl).2, hr, hcell, ?_⟩
    simp [World.frozen?, hh]
/-- an element of one cell is stored into a row of the call's own -/
theorem Own.stored {g n c : Nat} (hsz : Rep.sz α = 1) (h : Own w S base e (.slice (some ⟨g, 0, none⟩) n c) xs) {k : Nat} {u : Value} {x : α} (hr : Rep.rep w S [u] x) :
    Own (w.setCell ⟨g, k, none⟩ u) S base e (.slice (some ⟨g, 0, none⟩) n c) (xs.set k x) ∧ w.grownBy (w.setCell ⟨g, k, none⟩ u) (some g) := by
  obtain ⟨A', n', c', hv, hn⟩ := h.slice
  injection hv with _ hn' _
  subst hn'
  obtain ⟨cs, h1, h2, h3⟩ := h
  rw [show Rep.sz α = 1 from hsz, ← hn] at h1
  obtain ⟨q1, q2⟩ := h1.stored k u
  have hk : Keeps S w (w.setCell ⟨g, k, none⟩ u) := (Keeps.grown q2).sub fun b hb => ⟨(h3 b hb).1, (h3 b hb).2⟩
  refine ⟨⟨cs.set k u, by rw [List.length_set, show Rep.sz α = 1 from hsz, ← hn]; exact q1, (h2.set1 hsz hr).keep (fun _ h => h) hk, fun b hb => ⟨Nat.lt_of_lt_of_le (h3 b hb).1 q2.size, (h3 b hb).2⟩⟩, q2⟩
/-- a row of zeros that the call has made -/
theorem Own.made {g n : Nat} {z : Value} {x : α} (h : w.ownsRow base e (Rep.sz α) (.slice (some ⟨g, 0, none⟩) n n) n (List.replicate n z)) (hr : Rep.rep w S [z] x) (hS : ∀ b, S b → b < w.heap.size ∧ b ≠ g) :
    Own w S base e (.slice (some ⟨g, 0, none⟩) n n) (List.replicate n x) := by
  refine ⟨_, by rw [List.length_replicate]; exact h, ?_, fun b hb => ⟨(hS b hb).1, fun e => (hS b hb).2 (by injection e)⟩⟩
  clear h
  induction n with
  | zero => exact .nil
  | succ n ih =>
    rw [List.replicate_succ', List.replicate_succ']
    exact .snoc ih hr
end
theorem madeCells_one (z : Value) (n : Nat) (hz : z.cells = #[z]) : (madeCells z.cells (n * 1)).toList = List.replicate n z := by
  rw [hz, Nat.mul_one]; exact toList_madeCells_one z n
/-- 'make([]T, n)', T of one cell -/
theorem wpList_make_Own {α : Type} [Rep α] {P : Program} (w : World) {ops : Array Oper} {rest : List Oper} {o : Oper} {a : Act} {Q : Exit → Act → World → Prop}
    (hg : o.guard = none) (l c : Operand) (t : TypeId) (hop : o.op = Op.makeSlice t l c) (hsz : Rep.sz α = 1)
    (base : Nat) {e : TypeId} (i : TypeInfo) (z : Value) (h1 : P.underlying t = some (.slice e)) (h2 : P.info? e = some i) (h3 : i.zero = some z) (h4 : i.size = 1) (hz : z.cells = #[z])
    (kl kc : IntKind) (L C : Int) (n : Nat) (hl : a.eval l = .int kl L) (hc : a.eval c = .int kc C) (hL : L = (n : Int)) (hC : C = (n : Int)) (b2 : i.bytes * n ≤ 281474976710656) (b3 : n ≤ maxLen) (b4 : base ≤ w.heap.size)
    (x : α) (S : Nat → Prop) (hS : ∀ b, S b → b < w.heap.size) (hr : ∀ w', Keeps S w w' → Rep.rep w' S [z] x)
    (hK : ∀ w', Own w' S base e (.slice (some ⟨w.heap.size, 0, none⟩) n n) (List.replicate n x) → w.grownBy w' none → wpList P ops Q rest (a.put o.dst (.slice (some ⟨w.heap.size, 0, none⟩) n n)) w') :
    wpList P ops Q (o :: rest) a w := by
  refine wpList_make_full w hg l c t hop base e i z (Rep.sz α) h1 h2 h3 (by rw [h4, hsz]) kl kc L C n hl hc hL hC b2 b3 b4 fun w' q1 q2 => hK w' ?_ q2
  have e1 : (madeCells z.cells (n * Rep.sz α)).toList = List.replicate n z := by rw [hsz]; exact madeCells_one z n hz
  rw [e1] at q1
  refine Own.made q1 (hr w' ((Keeps.grown q2).sub fun b hb => ⟨hS b hb, by simp⟩)) fun b hb => ⟨Nat.lt_of_lt_of_le (hS b hb) q2.size, fun e => by have := hS b hb; omega⟩

theorem seqL_last_go {P : Program} {ops : Array Oper} {Q : Exit → Act → World → Prop} {n : Nat} {S : World → Prop} {x : Oper} {a : Act} {w : World} (hx : ops[n]? = some x) (hg : x.guard = none)
    (h : ∀ K : Act → World → Prop, (∀ a w, Q .normal a w → K a w) → Oper.wp P x a w K Q) : seqL P ops Q S n [] a w := by
  refine seqL_last hx fun K hK => ?_
  have hw : Region.wanted x (yielded ops a.tmps) = true := by simp [Region.wanted, hg]
  rw [if_pos hw]
  exact h K hK
end Go.Proofs.YtjlhbfbdcfajfaaGreatDoor
/- Words of 32 bits, bytes and words of 64 bits, as the model has them. -/
namespace Go.Proofs.YtjlhbfbdcfajfaaGreatDoor
open Go.RowKit

/-- a word of 32 bits -/
def wrd (x : BitVec 32) : Value := .int .u32 (x.toNat : Int)
theorem u32_lt (x : BitVec 32) : (x.toNat : Int) < 4294967296 := by have := x.isLt; omega

theorem u32_xor' (x y : BitVec 32) : bits .xor .u32 (x.toNat : Int) (y.toNat : Int) = ((x ^^^ y).toNat : Int) := by
  rw [u32_xor_nat _ _ x.isLt y.isLt, BitVec.toNat_xor]
theorem u32_or' (x y : BitVec 32) : bits .or .u32 (x.toNat : Int) (y.toNat : Int) = ((x ||| y).toNat : Int) := by
  rw [u32_or_nat _ _ x.isLt y.isLt, BitVec.toNat_or]
theorem u32_and' (x y : BitVec 32) : bits .and .u32 (x.toNat : Int) (y.toNat : Int) = ((x &&& y).toNat : Int) := by
  rw [u32_and_nat _ _ x.isLt y.isLt, BitVec.toNat_and]
theorem u32_add' (x y : BitVec 32) : IntKind.u32.wrap ((x.toNat : Int) + (y.toNat : Int)) = ((x + y).toNat : Int) := by
  rw [IntKind.wrap_u32, BitVec.toNat_add, Int.natCast_emod, Int.natCast_add]; rfl
theorem u32_wrap' (x : BitVec 32) : IntKind.u32.wrap (x.toNat : Int) = (x.toNat : Int) := by
  have := x.isLt
  rw [IntKind.wrap_u32]; omega
theorem u32_not' (x : BitVec 32) : bits .xor .u32 4294967295 (x.toNat : Int) = ((~~~x).toNat : Int) := by
  have h := u32_xor' (BitVec.allOnes 32) x
  rw [show (~~~x) = BitVec.allOnes 32 ^^^ x by rw [BitVec.allOnes_xor]]
  rw [← h]; rfl

theorem u32_shl' (x : BitVec 32) (j : Nat) : (x.toNat : Int) * 2 ^ j % 4294967296 = ((x <<< j).toNat : Int) := by
  rw [BitVec.toNat_shiftLeft, Nat.shiftLeft_eq, Int.natCast_emod, Int.natCast_mul, Int.natCast_pow]
  rfl
theorem u32_shr' (x : BitVec 32) (j : Nat) : (x.toNat : Int) / 2 ^ j = ((x >>> j).toNat : Int) := by
  rw [BitVec.toNat_ushiftRight, Nat.shiftRight_eq_div_pow, Int.natCast_ediv, Int.natCast_pow]
  rfl
theorem u32_shr3 (x : BitVec 32) : (x.toNat : Int) / (8 : Int) = ((x >>> 3).toNat : Int) := u32_shr' x 3
theorem u32_shr10 (x : BitVec 32) : (x.toNat : Int) / (1024 : Int) = ((x >>> 10).toNat : Int) := u32_shr' x 10
theorem u32_shl8 (x : BitVec 32) : (x.toNat : Int) * (256 : Int) % (4294967296 : Int) = ((x <<< 8).toNat : Int) := u32_shl' x 8
theorem u32_shl16 (x : BitVec 32) : (x.toNat : Int) * (65536 : Int) % (4294967296 : Int) = ((x <<< 16).toNat : Int) := u32_shl' x 16
theorem u32_shl24 (x : BitVec 32) : (x.toNat : Int) * (16777216 : Int) % (4294967296 : Int) = ((x <<< 24).toNat : Int) := u32_shl' x 24
theorem u32_add (x y : BitVec 32) : ((x.toNat : Int) + (y.toNat : Int)) % (4294967296 : Int) = ((x + y).toNat : Int) := by
  rw [BitVec.toNat_add, Int.natCast_emod, Int.natCast_add]; rfl
/-- a byte as a word -/
def wide (b : UInt8) : BitVec 32 := BitVec.ofNat 32 b.toNat
theorem wide_toNat (b : UInt8) : (wide b).toNat = b.toNat := by
  have := b.toNat_lt
  simp only [wide, BitVec.toNat_ofNat]
  omega
theorem byte_wide (b : UInt8) : (b.toNat : Int) = ((wide b).toNat : Int) := by rw [wide_toNat]

end Go.Proofs.YtjlhbfbdcfajfaaGreatDoor
/- Natural numbers as lists of limbs of 32 bits, the least significant first: plain arithmetic, no program. -/
namespace Go.Proofs.YtjlhbfbdcfajfaaGreatDoor

/-- what the limbs denote -/
def val : List (BitVec 32) → Nat
  | [] => 0
  | x :: l => x.toNat + 4294967296 * val l
/-- the limbs of a number, without zeros at the end -/
def lim (n : Nat) : List (BitVec 32) := if h : n = 0 then [] else BitVec.ofNat 32 n :: lim (n / 4294967296)
  termination_by n
  decreasing_by omega
/-- without the zeros at the end -/
def trimL : List (BitVec 32) → List (BitVec 32)
  | [] => []
  | x :: l => if trimL l = [] then (if x = 0#32 then [] else [x]) else x :: trimL l

theorem val_lim (n : Nat) : val (lim n) = n := by
  induction n using Nat.strongRecOn with
  | ind n ih =>
    unfold lim
    split
    · rename_i h; simp [val, h]
    · rename_i h
      simp only [val]
      rw [ih _ (by omega), BitVec.toNat_ofNat]
      omega
theorem lim_eq_nil {n : Nat} : lim n = [] ↔ n = 0 := by
  constructor
  · intro h
    have := val_lim n
    rw [h] at this
    simpa [val] using this.symm
  · rintro rfl
    unfold lim; simp
theorem lim_zero : lim 0 = [] := lim_eq_nil.2 rfl
theorem lim_cons (x : BitVec 32) (n : Nat) (h : x.toNat + 4294967296 * n ≠ 0) : lim (x.toNat + 4294967296 * n) = x :: lim n := by
  have := x.isLt
  rw [lim, dif_neg h]
  congr 1
  · apply BitVec.eq_of_toNat_eq
    rw [BitVec.toNat_ofNat]; omega
  · congr 1; omega
theorem bv_eq_zero {x : BitVec 32} : x = 0#32 ↔ x.toNat = 0 := by
  constructor
  · rintro rfl; rfl
  · intro h; exact BitVec.eq_of_toNat_eq h
theorem lim_val (l : List (BitVec 32)) : lim (val l) = trimL l := by
  induction l with
  | nil => exact lim_zero
  | cons x l ih =>
    simp only [val, trimL]
    rw [← ih]
    by_cases hv : val l = 0
    · rw [hv, lim_zero]
      by_cases hx : x = 0#32
      · subst hx; simp [lim_zero]
      · have : x.toNat ≠ 0 := fun h => hx (bv_eq_zero.2 h)
        rw [lim_cons x 0 (by omega), lim_zero]; simp [hx]
    · rw [lim_cons x _ (by omega), if_neg (fun h => hv (lim_eq_nil.1 h))]
theorem val_trimL (l : List (BitVec 32)) : val (trimL l) = val l := by rw [← lim_val, val_lim]
theorem trimL_lim (n : Nat) : trimL (lim n) = lim n := by rw [← lim_val, val_lim]
theorem val_append (a b : List (BitVec 32)) : val (a ++ b) = val a + 4294967296 ^ a.length * val b := by
  induction a with
  | nil => simp [val]
  | cons x a ih =>
    simp only [List.cons_append, val, ih, List.length_cons]
    rw [Nat.pow_succ', Nat.mul_add, Nat.mul_assoc, Nat.add_assoc]
theorem val_lt (l : List (BitVec 32)) : val l < 4294967296 ^ l.length := by
  induction l with
  | nil => simp [val]
  | cons x l ih =>
    have := x.isLt
    simp only [val, List.length_cons]
    rw [Nat.pow_succ']
    omega
theorem val_replicate (n : Nat) : val (List.replicate n 0#32) = 0 := by
  induction n with
  | zero => rfl
  | succ n ih => simp [List.replicate_succ, val, ih]
theorem val_take_drop (l : List (BitVec 32)) (k : Nat) (hk : k ≤ l.length) : val l = val (l.take k) + 4294967296 ^ k * val (l.drop k) := by
  have := val_append (l.take k) (l.drop k)
  rw [List.take_append_drop, List.length_take, Nat.min_eq_left hk] at this
  exact this
theorem val_snoc (l : List (BitVec 32)) (x : BitVec 32) : val (l ++ [x]) = val l + 4294967296 ^ l.length * x.toNat := by
  rw [val_append]; simp [val]
theorem val_take_succ {l : List (BitVec 32)} {k : Nat} {x : BitVec 32} (h : l[k]? = some x) : val (l.take (k + 1)) = val (l.take k) + 4294967296 ^ k * x.toNat := by
  have hk : k < l.length := (List.getElem?_eq_some_iff.1 h).1
  rw [List.take_add_one, h]
  show val (l.take k ++ [x]) = _
  rw [val_snoc, List.length_take, Nat.min_eq_left (by omega)]
theorem trimL_nil_of {l : List (BitVec 32)} (h : val l = 0) : trimL l = [] := by rw [← lim_val, h, lim_zero]
theorem trimL_snoc_zero (l : List (BitVec 32)) : trimL (l ++ [0#32]) = trimL l := by
  rw [← lim_val, val_snoc, ← lim_val]; simp
theorem trimL_snoc {l : List (BitVec 32)} {x : BitVec 32} (h : x ≠ 0#32) : trimL (l ++ [x]) = l ++ [x] := by
  induction l with
  | nil => simp [trimL, h]
  | cons y l ih => simp only [List.cons_append, trimL, ih]; simp
theorem trimL_append_zeros (l : List (BitVec 32)) (k : Nat) : trimL (l ++ List.replicate k 0#32) = trimL l := by
  rw [← lim_val, val_append, val_replicate, ← lim_val]; simp
theorem trimL_length (l : List (BitVec 32)) : (trimL l).length ≤ l.length := by
  induction l with
  | nil => simp [trimL]
  | cons x l ih =>
    simp only [trimL]
    split
    · split <;> simp
    · simp; exact ih
theorem trimL_take (l : List (BitVec 32)) : trimL l = l.take (trimL l).length := by
  induction l with
  | nil => simp [trimL]
  | cons x l ih =>
    simp only [trimL]
    split
    · split
      · simp
      · simp
    · simp only [List.length_cons, List.take_succ_cons]; rw [← ih]
theorem trimL_last {l : List (BitVec 32)} {x : BitVec 32} (h : (trimL l).getLast? = some x) : x ≠ 0#32 := by
  induction l with
  | nil => simp [trimL] at h
  | cons y l ih =>
    simp only [trimL] at h
    split at h
    · split at h
      · simp at h
      · rename_i hy; simp at h; subst h; exact hy
    · rename_i hn
      rw [List.getLast?_cons] at h
      cases hh : (trimL l).getLast? with
      | none => rw [List.getLast?_eq_none_iff] at hh; exact absurd hh hn
      | some z => rw [hh] at h; simp at h; subst h; exact ih hh
theorem lim_length_le {n k : Nat} (h : n < 4294967296 ^ k) : (lim n).length ≤ k := by
  induction k generalizing n with
  | zero => have : n = 0 := by simpa using h
            subst this; simp [lim_zero]
  | succ k ih =>
    by_cases hn : n = 0
    · subst hn; simp [lim_zero]
    · rw [lim, dif_neg hn, List.length_cons]
      have := ih (n := n / 4294967296) (by rw [Nat.pow_succ'] at h; omega)
      omega
theorem lim_length_ge {n k : Nat} (h : 4294967296 ^ k ≤ n) : k < (lim n).length := by
  rcases Nat.lt_or_ge k (lim n).length with hl | hg
  · exact hl
  · have := val_lt (lim n)
    rw [val_lim] at this
    have := Nat.pow_le_pow_right (n := 4294967296) (by omega) hg
    omega
theorem lim_ge {n : Nat} {k : Nat} (h : (lim n).length = k + 1) : 4294967296 ^ k ≤ n := by
  rcases Nat.lt_or_ge n (4294967296 ^ k) with hl | hg
  · have := lim_length_le hl; omega
  · exact hg
end Go.Proofs.YtjlhbfbdcfajfaaGreatDoor
/- nat: trim, Clone, Norm, Of, limb. -/
namespace Go.Proofs.YtjlhbfbdcfajfaaGreatDoor
open Go.RowKit

instance : Rep (BitVec 32) where
  sz := 1
  rep _ _ cs x := cs = [wrd x]
  len h := by rw [h]; rfl
  keep h _ _ := h
theorem Tryz.natTy : SliceTy Tryz.prog 26 98 1 4 := SliceTy.mk' (z := .int .u32 0) Tryz.underlying26 (by kernel_rfl) rfl (by omega)
theorem Flat.limbs {w : World} {S : Nat → Prop} (l : List (BitVec 32)) : Flat w S (l.map wrd) l := by
  have : ∀ (k : List (BitVec 32)), Flat w S (k.reverse.map wrd) k.reverse := by
    intro k
    induction k with
    | nil => exact .nil
    | cons x k ih =>
      rw [List.reverse_cons, List.map_append]
      exact .snoc ih rfl
  simpa using this l.reverse
/-- one limb -/
theorem RS.limb_at {w : World} {S : Nat → Prop} {A : Option Addr} {n c : Nat} {xs : List (BitVec 32)} (h : RS w S A n c xs) {k : Nat} (hk : k < n) :
    ∃ b o x, A = some ⟨b, o, none⟩ ∧ S b ∧ xs[k]? = some x ∧ w.cell? ⟨b, o + k, none⟩ = some (.int .u32 (x.toNat : Int)) := by
  obtain ⟨b, o, x, cs, e, hb, hx, hr, hc⟩ := h.at_ hk
  have hr' : cs = [wrd x] := hr
  subst hr'
  exact ⟨b, o, x, e, hb, hx, by simpa [Rep.sz, wrd] using hc 0 _ rfl⟩
theorem RS.limbsAt {w : World} {S : Nat → Prop} {ad : Addr} {n c : Nat} {bs : List (BitVec 32)} (h : RS w S (some ad) n c bs) : CellsAt w ad (bs.map wrd) := by
  obtain ⟨h1, h2, _, h3⟩ := h
  intro j u hj
  rw [List.getElem?_map, Option.map_eq_some_iff] at hj
  obtain ⟨x, hx, rfl⟩ := hj
  obtain ⟨b, o, e, _, he⟩ := h3 (by have := lt_of_get hx; omega)
  injection e with e
  subst e
  obtain ⟨cs, hr, hc⟩ := he j x hx
  have hr' : cs = [wrd x] := hr
  subst hr'
  have := hc 0 _ rfl
  rw [add_of_add] at this
  simpa [Rep.sz] using this

/-- the call hands back a slice that reads as xs; the world is the same -/
def RetR {α : Type} [Rep α] (w : World) (S : Nat → Prop) (xs : List α) (e : Ending) (w' : World) : Prop := ∃ A n c, e = .returned (.slice A n c) ∧ RS w S A n c xs ∧ w = w'
def NoBlk (_ : Nat) : Prop := False
/-- the call hands back a new row of its own -/
def RetN {α : Type} [Rep α] (w : World) (e : TypeId) (xs : List α) (en : Ending) (w' : World) : Prop :=
  ∃ v', en = .returned v' ∧ Own w' NoBlk w.heap.size e v' xs ∧ Below w.heap.size w w'
theorem Own.empty {α : Type} [Rep α] (w : World) (e : TypeId) : Own (w.alloc (.cells #[] e)) NoBlk w.heap.size e (.slice (some ⟨w.heap.size, 0, none⟩) 0 0) ([] : List α) :=
  ⟨[], ⟨by simp, .inr ⟨w.heap.size, 0, #[], rfl, Nat.le_refl _, heap_alloc_new _ _, Nat.le_refl _, Nat.zero_le _, by simp, by simp⟩⟩, .nil, fun _ h => h.elim⟩

theorem Own.base_le {α : Type} [Rep α] {w : World} {S : Nat → Prop} {base base' : Nat} {e : TypeId} {v : Value} {xs : List α} (h : Own w S base e v xs) (hb : base' ≤ base) : Own w S base' e v xs := by
  obtain ⟨cs, ⟨h0, h1⟩, h2, h3⟩ := h
  refine ⟨cs, ⟨h0, ?_⟩, h2, h3⟩
  rcases h1 with h1 | ⟨g, cap, cur, q1, q2, q3⟩
  · exact .inl h1
  · exact .inr ⟨g, cap, cur, q1, Nat.le_trans hb q2, q3⟩
theorem trimL_succ {l : List (BitVec 32)} {k : Nat} {x : BitVec 32} (hx : l[k]? = some x) : trimL (l.take (k + 1)) = if x = 0#32 then trimL (l.take k) else l.take (k + 1) := by
  rw [take_snoc hx]
  split
  · rename_i h; rw [h]; exact trimL_snoc_zero _
  · rename_i h; exact trimL_snoc h

set_option maxHeartbeats 400000 in
theorem trim_ok {S : Nat → Prop} {A : Option Addr} {n c : Nat} {xs : List (BitVec 32)} {w : World} (h : RS w S A n c xs) :
    Calls Tryz.prog 129 #[.slice A n c] w (RetR w S (trimL xs)) := by
  have H := Lib.hid h
  have hmax := h.max
  have hcap := h.cap
  have HL := Lib.hid h.len
  clear h
  go_enter Tryz.func129, Tryz.ntmps129
  go_wp2_with fail
  go_loop [3] (fun v => ∃ k : Nat, k ≤ n ∧ v = .int .i64 k ∧ trimL (xs.take k) = trimL xs) (fun v => (intOf v).toNat)
  case atStart => exact ⟨n, Nat.le_refl _, rfl, by rw [List.take_of_length_le (by rw [HL.out]; exact Nat.le_refl _)]⟩
  case round =>
    obtain ⟨k, hk, rfl, ht⟩ := hrel
    have HT := Lib.hid ht
    clear ht
    rcases k with _ | k
    · go_wp2_with fail
      go_ret
      have : trimL xs = [] := by rw [← HT.out]; rfl
      rw [this]
      exact ⟨_, _, _, rfl, RS.nil _ _, rfl⟩
    · obtain ⟨b, o, x, rfl, _, hx, e1⟩ := H.out.limb_at (k := k) (by omega)
      have hs := trimL_succ hx
      have hkn : (k : Int) < (n : Int) := by omega
      by_cases h0 : x = 0#32
      · have hb : ((x.toNat : Int) == 0) = true := by rw [h0]; rfl
        rw [if_pos h0, HT.out] at hs
        have HS := Lib.hid hs
        clear hs h0 hx
        go_wp2_with fail
        go_round
        case rel => exact ⟨k, by omega, by go_num, HS.out.symm⟩
        case measure => simp [intOf]
      · have hb : ((x.toNat : Int) == 0) = false := by
          rw [beq_eq_false_iff_ne]
          intro h
          exact h0 (bv_eq_zero.2 (by omega))
        rw [if_neg h0, HT.out] at hs
        have HS := Lib.hid hs
        have hkc : (k : Int) + 1 ≤ (c : Int) := by omega
        clear hs h0 hx
        go_wp2_with fail
        go_ret
        refine ⟨_, _, _, rfl, ?_, rfl⟩
        rw [HS.out]
        exact H.out.take hk

theorem cloneL_ok {S : Nat → Prop} {A : Option Addr} {n c : Nat} {bs : List (BitVec 32)} {w : World} (h : RS w S A n c bs) (hl : n ≤ 1099511627776) :
    Calls Tryz.prog 161 #[.slice A n c] w (RetN w 98 bs) := by
  have H := Lib.hid h; clear h
  have hq := Lib.run_eql_slice_nil w 26 98 A n c 0 0 Tryz.underlying26
  go_enter Tryz.func161, Tryz.ntmps161
  cases A with
  | none =>
    go_wp2_with fail
    go_ret
    have hn : n = 0 := by
      rcases Nat.eq_zero_or_pos n with h | h
      · exact h
      · obtain ⟨_, _, e, _⟩ := H.out.2.2.2 h
        cases e
    have hb : bs = [] := List.eq_nil_of_length_eq_zero (H.out.len.trans hn)
    subst hb
    exact ⟨_, rfl, Own.nil _ _ _, Below.refl _ _⟩
  | some ad =>
    have hca : CellsAt (w.alloc (.cells #[] 98)) ad (bs.map wrd) := by
      intro j u hj
      have h0 := H.out.limbsAt j u hj
      exact (World.cell?_alloc_lt w _ _ (World.block_lt_of_cell? w _ h0)).trans h0
    have HC := Lib.hid hca
    have HL := Lib.hid H.out.len
    clear hca
    go_wp2_with (at_builtin
                 refine wpList_append_Own (α := BitVec 32) rfl _ _ 26 rfl 4 Tryz.natTy rfl (Own.empty w 98) ad n c _ bs rfl HL.out.symm (Flat.limbs bs) HC.out (by simp [Value.oneCell', wrd]) (by have := HL.out; simp; omega) (by simp) ?_
                 intro v2 w2 hown2 hg2 hat2
                 have HO2 := Lib.hid hown2
                 have HB2 := Lib.hid (((Below.refl w.heap.size w).alloc (Nat.le_refl _) (.cells #[] 98)).grown hg2 (by simp) (fun k hk => by injection hk with hk; exact Nat.le_of_eq hk))
                 clear hown2 hg2 hat2)
    go_ret
    exact ⟨_, rfl, HO2.out, HB2.out⟩

theorem norm_ok {S : Nat → Prop} {A : Option Addr} {n c : Nat} {xs : List (BitVec 32)} {w : World} (h : RS w S A n c xs) (hl : n ≤ 1099511627776) :
    Calls Tryz.prog 159 #[.slice A n c] w (RetN w 98 (lim (val xs))) := by
  have H := Lib.hid h
  have HL := Lib.hid h.len
  clear h
  go_enter Tryz.func159, Tryz.ntmps159
  go_wp2_with fail
  refine (trim_ok H.out).mono ?_
  rintro e w' ⟨A1, n1, c1, rfl, hr, rfl⟩
  have hn1 : n1 ≤ 1099511627776 := by
    have := trimL_length xs
    have := hr.len
    have := HL.out
    omega
  have HR := Lib.hid hr
  clear hr
  go_wp2_with fail
  refine (cloneL_ok HR.out hn1).mono ?_
  rintro e w2 ⟨v, rfl, ho, hb⟩
  have HO := Lib.hid ho
  have HB := Lib.hid hb
  clear ho hb
  go_wp2_with fail
  go_ret
  exact ⟨_, rfl, by rw [lim_val]; exact HO.out, HB.out⟩

theorem limb_ok {S : Nat → Prop} {A : Option Addr} {n c : Nat} {xs : List (BitVec 32)} {w : World} (i : Nat) (h : RS w S A n c xs) :
    Calls Tryz.prog 189 #[.slice A n c, .int .i64 i] w (RetW w (.int .u64 ((xs.getD i 0#32).toNat : Int))) := by
  have H := Lib.hid h
  have HL := Lib.hid h.len
  clear h
  by_cases hi : i < n
  · obtain ⟨b, o, x, rfl, _, hx, e1⟩ := H.out.limb_at hi
    have hg : xs.getD i 0#32 = x := by rw [List.getD_eq_getElem?_getD, hx]; rfl
    have hlt := x.isLt
    have hw : IntKind.u64.wrap (x.toNat : Int) = (x.toNat : Int) := by rw [IntKind.wrap_u64]; omega
    rw [hg]
    have hii : (i : Int) < (n : Int) := by omega
    clear hg hx hlt
    go_enter Tryz.func189, Tryz.ntmps189
    go_wp2_with fail
    go_ret
    exact ⟨rfl, rfl⟩
  · have hg : xs.getD i 0#32 = 0#32 := by rw [List.getD_eq_getElem?_getD, List.getElem?_eq_none (by rw [HL.out]; omega)]; rfl
    rw [hg]
    have hii : ¬ (i : Int) < (n : Int) := by omega
    clear hg
    go_enter Tryz.func189, Tryz.ntmps189
    go_wp2_with fail
    go_ret
    exact ⟨rfl, rfl⟩
end Go.Proofs.YtjlhbfbdcfajfaaGreatDoor
