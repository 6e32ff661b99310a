/- More words for memory. -/
import Derived.Test.YtofdjlngohhlmaaDoorLib
import Derived.Handy
namespace Go.Proofs.YtofdjlngohhlmaaDoor
open Go.RowKit

theorem Keeps.setCell {S : Nat → Prop} {w w1 : World} (h : Keeps S w w1) {p : Addr} (hp : ¬ S p.block) (u : Value) : Keeps S w (w1.setCell p u) :=
  fun q hq => (World.cell?_setCell_other w1 p q u (fun e => by subst e; exact hp hq)).trans (h q hq)
theorem Keeps.alloc {S : Nat → Prop} {w w1 : World} (h : Keeps S w w1) (hS : ∀ b, S b → b < w1.heap.size) (o : Obj) : Keeps S w (w1.alloc o) :=
  fun q hq => (World.cell?_alloc_lt w1 o q (hS _ hq)).trans (h q hq)
theorem Keeps.drew {S : Nat → Prop} {w w1 : World} (h : Keeps S w w1) : Keeps S w w1.drew := h
theorem Keeps.drewN {S : Nat → Prop} {w w1 : World} (h : Keeps S w w1) (n : Nat) : Keeps S w (w1.drewN n) := h

section
variable {α : Type} [Rep α] {w : World} {S : Nat → Prop}
/-- a list of one-cell data, cell by cell -/
inductive Each (w : World) (S : Nat → Prop) : List Value → List α → Prop where
  | nil : Each w S [] []
  | cons {u : Value} {us : List Value} {x : α} {xs : List α} : Rep.rep w S [u] x → Each w S us xs → Each w S (u :: us) (x :: xs)
theorem Flat.cons {ds cs : List Value} {x : α} {xs : List α} (hr : Rep.rep w S ds x) (h : Flat w S cs xs) : Flat w S (ds ++ cs) (x :: xs) := by
  induction h with
  | nil => have := Flat.snoc (Flat.nil (w := w) (S := S)) hr; simpa using this
  | @snoc cs es xs y _ hy ih => have := Flat.snoc ih hy; simpa using this
theorem Each.flat {us : List Value} {xs : List α} (h : Each w S us xs) : Flat w S us xs := by
  induction h with
  | nil => exact .nil
  | cons hr _ ih => exact Flat.cons (ds := [_]) hr ih
/-- a row that lies whole in a block reads as a slice -/
theorem RS.of_blk {g : Nat} {t : TypeId} {cs : Array Value} {xs : List α} {n c : Nat} (hb : Blk w g t cs) (hf : Flat w S cs.toList xs) (hn : n = xs.length) (hc : n ≤ c) (hm : c ≤ maxLen) (hS : S g) : RS w S (some ⟨g, 0, none⟩) n c xs := by
  refine ⟨hn, hc, hm, fun _ => ⟨g, 0, rfl, hS, fun i x hi => ?_⟩⟩
  obtain ⟨ds, hr, hd⟩ := hf.get i x hi
  refine ⟨ds, hr, fun j u hj => ?_⟩
  have h1 := hd j u hj
  rw [add_of_add]
  have : (⟨g, 0, none⟩ : Addr).add (i * Rep.sz α + j) = ⟨g, i * Rep.sz α + j, none⟩ := by unfold Addr.add; split <;> simp_all
  rw [this, hb.cell]
  simpa using h1
end
theorem name_calls {P : Program} {f : FuncId} {args : Array Value} {R : Ending → World → Prop} {w : World} (h : ∀ w2, w2 = w → Calls P f args w2 R) : Calls P f args w R := h w rfl

/-- stores one behind the other -/
def setAll (w : World) (g : Nat) : Nat → List Value → World
  | _, [] => w
  | i, v :: l => setAll (w.setCell ⟨g, i, none⟩ v) g (i + 1) l
theorem Blk.setFrom {g : Nat} {t : TypeId} : ∀ (l : List Value) (i : Nat) (w : World) (cs : Array Value), Blk w g t cs → cs.size = i + l.length → Blk (setAll w g i l) g t (cs.toList.take i ++ l).toArray := by
  intro l
  induction l with
  | nil =>
    intro i w cs h hs
    have : (cs.toList.take i ++ []).toArray = cs := by rw [List.append_nil, List.take_of_length_le (by simp at hs; simp; omega)]
    rw [this]
    exact h
  | cons v l ih =>
    intro i w cs h hs
    simp only [List.length_cons] at hs
    have := ih (i + 1) (w.setCell ⟨g, i, none⟩ v) (cs.setIfInBounds i v) (h.set_ i v) (by simp; omega)
    have e : (cs.setIfInBounds i v).toList.take (i + 1) ++ l = cs.toList.take i ++ v :: l := by
      rw [Array.toList_setIfInBounds, List.take_set, List.take_add_one]
      have hi : i < cs.toList.length := by simp; omega
      rw [List.getElem?_eq_getElem hi, List.set_append_right _ _ (by simp; omega)]
      simp [Nat.min_eq_left (Nat.le_of_lt (by simpa using hi))]
    rw [e] at this
    exact this
theorem Blk.setAll {g : Nat} {t : TypeId} {w : World} {cs : Array Value} (l : List Value) (h : Blk w g t cs) (hs : cs.size = l.length) : Blk (setAll w g 0 l) g t l.toArray := by
  have := Blk.setFrom l 0 w cs h (by omega)
  simpa using this

section
variable {α : Type} [Rep α] {w w' : World} {S S' : Nat → Prop} {base : Nat} {e : TypeId} {v : Value} {xs : List α}
theorem Own.widen (h : Own w S base e v xs) (hS : ∀ b, S b → S' b) (hA : ∀ b, S' b → b < w.heap.size ∧ some b ≠ v.ownBlock) : Own w S' base e v xs := by
  obtain ⟨cs, h1, h2, _⟩ := h
  exact ⟨cs, h1, h2.keep hS (Keeps.refl _ _), hA⟩
theorem Own.apart (h : Own w S base e v xs) : ∀ b, S b → b < w.heap.size ∧ some b ≠ v.ownBlock := by
  obtain ⟨_, _, _, h3⟩ := h
  exact h3
end
end Go.Proofs.YtofdjlngohhlmaaDoor
