/- More words for memory: rows of the call's own whose elements take one cell: read, written, made. -/
import Derived.Test.YtofdjlngohhlmaaDoorLib2
import Derived.Test.YtofdjlngohhlmaaDoorDraw
import Derived.Laws.OwnMore
namespace Go.Proofs.YtofdjlngohhlmaaDoor
open Go.RowKit

section
variable {α : Type} [Rep α] {w w' : World} {S S' : Nat → Prop} {base : Nat} {e : TypeId} {v : Value} {xs : List α}
theorem Flat.set1 (hsz : Rep.sz α = 1) {cs : List Value} (h : Flat w S cs xs) {k : Nat} {u : Value} {x : α} (hr : Rep.rep w S [u] x) : Flat w S (cs.set k u) (xs.set k x) := by
  induction h with
  | nil => exact .nil
  | @snoc cs ds xs y hf hy ih =>
    have hl := hf.length
    have hd := Rep.len hy
    rw [hsz] at hl hd
    rcases Nat.lt_trichotomy k xs.length with hk | hk | hk
    · rw [List.set_append_left _ _ (by omega), List.set_append_left _ _ hk]
      exact .snoc ih hy
    · obtain ⟨d, rfl⟩ := List.length_eq_one_iff.1 hd
      rw [List.set_append_right _ _ (by omega), List.set_append_right _ _ (by omega)]
      have e1 : k - cs.length = 0 := by omega
      have e2 : k - xs.length = 0 := by omega
      rw [e1, e2]
      exact .snoc hf hr
    · rw [List.set_eq_of_length_le (by rw [List.length_append, hd, hl]; omega), List.set_eq_of_length_le (by simp; omega)]
      exact .snoc hf hy
/-- an element of one cell in a row of the call's own -/
theorem Own.get1 {A : Option Addr} {n c : Nat} (hsz : Rep.sz α = 1) (h : Own w S base e (.slice A n c) xs) {k : Nat} {x : α} (hx : xs[k]? = some x) : ∃ g u, A = some ⟨g, 0, none⟩ ∧ base ≤ g ∧ g < w.heap.size ∧ Rep.rep w S [u] x ∧ w.cell? ⟨g, k, none⟩ = some u ∧ w.frozen? ⟨g, k, none⟩ = false := by
  have hlt := h.lt
  obtain ⟨A', n', c', hv, hn⟩ := h.slice
  injection hv with _ hn' _
  subst hn'
  have hk := lt_of_get hx
  obtain ⟨cs, h1, h2, h3⟩ := h
  have h1' := h1
  obtain ⟨hl, h4⟩ := h1'
  rcases h4 with ⟨hv, hxs⟩ | ⟨g, cap, cur, hv, hbase, hh, hnc, hcm, hcur⟩
  · injection hv with _ h5; omega
  · injection hv with h5 h6 h7
    subst h5
    obtain ⟨ds, hr, hd⟩ := h2.get k x hx
    have hdl := Rep.len hr
    rw [hsz] at hdl
    obtain ⟨u, rfl⟩ := List.length_eq_one_iff.1 hdl
    have := hd 0 u rfl
    rw [hsz] at this
    have hcell := h1.cells (g := g) rfl _ _ this
    have e2 : (⟨g, 0, none⟩ : Addr).add (k * 1 + 0) = ⟨g, k, none⟩ := by
      unfold Addr.add
      split
      · rename_i h; have : k = 0 := by omega
        subst this; rfl
      · simp
    rw [e2] at hcell
    refine ⟨g, u, rfl, (hlt g rfl).1, (hlt g rfl).2, hr, hcell, ?_⟩
    simp [World.frozen?, hh]
/-- an element of one cell is stored into a row of the call's own -/
theorem Own.stored {g n c : Nat} (hsz : Rep.sz α = 1) (h : Own w S base e (.slice (some ⟨g, 0, none⟩) n c) xs) {k : Nat} {u : Value} {x : α} (hr : Rep.rep w S [u] x) :
    Own (w.setCell ⟨g, k, none⟩ u) S base e (.slice (some ⟨g, 0, none⟩) n c) (xs.set k x) ∧ w.grownBy (w.setCell ⟨g, k, none⟩ u) (some g) := by
  obtain ⟨A', n', c', hv, hn⟩ := h.slice
  injection hv with _ hn' _
  subst hn'
  obtain ⟨cs, h1, h2, h3⟩ := h
  rw [show Rep.sz α = 1 from hsz, ← hn] at h1
  obtain ⟨q1, q2⟩ := h1.stored k u
  have hk : Keeps S w (w.setCell ⟨g, k, none⟩ u) := (Keeps.grown q2).sub fun b hb => ⟨(h3 b hb).1, (h3 b hb).2⟩
  refine ⟨⟨cs.set k u, by rw [List.length_set, show Rep.sz α = 1 from hsz, ← hn]; exact q1, (h2.set1 hsz hr).keep (fun _ h => h) hk, fun b hb => ⟨Nat.lt_of_lt_of_le (h3 b hb).1 q2.size, (h3 b hb).2⟩⟩, q2⟩
/-- a row of zeros that the call has made -/
theorem Own.made {g n : Nat} {z : Value} {x : α} (h : w.ownsRow base e (Rep.sz α) (.slice (some ⟨g, 0, none⟩) n n) n (List.replicate n z)) (hr : Rep.rep w S [z] x) (hS : ∀ b, S b → b < w.heap.size ∧ b ≠ g) :
    Own w S base e (.slice (some ⟨g, 0, none⟩) n n) (List.replicate n x) := by
  refine ⟨_, by rw [List.length_replicate]; exact h, ?_, fun b hb => ⟨(hS b hb).1, fun e => (hS b hb).2 (by injection e)⟩⟩
  clear h
  induction n with
  | zero => exact .nil
  | succ n ih =>
    rw [List.replicate_succ', List.replicate_succ']
    exact .snoc ih hr
end
theorem madeCells_one (z : Value) (n : Nat) (hz : z.cells = #[z]) : (madeCells z.cells (n * 1)).toList = List.replicate n z := by
  rw [hz, Nat.mul_one]; exact toList_madeCells_one z n
/-- 'make([]T, n)', T of one cell -/
theorem wpList_make_Own {α : Type} [Rep α] {P : Program} (w : World) {ops : Array Oper} {rest : List Oper} {o : Oper} {a : Act} {Q : Exit → Act → World → Prop}
    (hg : o.guard = none) (l c : Operand) (t : TypeId) (hop : o.op = Op.makeSlice t l c) (hsz : Rep.sz α = 1)
    (base : Nat) {e : TypeId} (i : TypeInfo) (z : Value) (h1 : P.underlying t = some (.slice e)) (h2 : P.info? e = some i) (h3 : i.zero = some z) (h4 : i.size = 1) (hz : z.cells = #[z])
    (kl kc : IntKind) (L C : Int) (n : Nat) (hl : a.eval l = .int kl L) (hc : a.eval c = .int kc C) (hL : L = (n : Int)) (hC : C = (n : Int)) (b2 : i.bytes * n ≤ 281474976710656) (b3 : n ≤ maxLen) (b4 : base ≤ w.heap.size)
    (x : α) (S : Nat → Prop) (hS : ∀ b, S b → b < w.heap.size) (hr : ∀ w', Keeps S w w' → Rep.rep w' S [z] x)
    (hK : ∀ w', Own w' S base e (.slice (some ⟨w.heap.size, 0, none⟩) n n) (List.replicate n x) → w.grownBy w' none → wpList P ops Q rest (a.put o.dst (.slice (some ⟨w.heap.size, 0, none⟩) n n)) w') :
    wpList P ops Q (o :: rest) a w := by
  refine wpList_make_full w hg l c t hop base e i z (Rep.sz α) h1 h2 h3 (by rw [h4, hsz]) kl kc L C n hl hc hL hC b2 b3 b4 fun w' q1 q2 => hK w' ?_ q2
  have e1 : (madeCells z.cells (n * Rep.sz α)).toList = List.replicate n z := by rw [hsz]; exact madeCells_one z n hz
  rw [e1] at q1
  refine Own.made q1 (hr w' ((Keeps.grown q2).sub fun b hb => ⟨hS b hb, by simp⟩)) fun b hb => ⟨Nat.lt_of_lt_of_le (hS b hb) q2.size, fun e => by have := hS b hb; omega⟩

theorem seqL_last_go {P : Program} {ops : Array Oper} {Q : Exit → Act → World → Prop} {n : Nat} {S : World → Prop} {x : Oper} {a : Act} {w : World} (hx : ops[n]? = some x) (hg : x.guard = none)
    (h : ∀ K : Act → World → Prop, (∀ a w, Q .normal a w → K a w) → Oper.wp P x a w K Q) : seqL P ops Q S n [] a w := by
  refine seqL_last hx fun K hK => ?_
  have hw : Region.wanted x (yielded ops a.tmps) = true := by simp [Region.wanted, hg]
  rw [if_pos hw]
  exact h K hK
end Go.Proofs.YtofdjlngohhlmaaDoor
