/- The sequence: plain lists. -/
import Derived.Test.YtofdjlngohhlmaaDoorRnd5
namespace Go.Proofs.YtofdjlngohhlmaaDoor

/-- two elements change places -/
def swp (l : List Int) (i j : Nat) : List Int := (l.set i (l.getD j 0)).set j (l.getD i 0)
def iota (n : Nat) : List Int := (List.range n).map fun (i : Nat) => (i : Int)
/-- the list and the number of words drawn, behind k steps -/
def shuf (seed : ByteArray) (n : Nat) : Nat → List Int × Nat
  | 0 => (iota n, 0)
  | k + 1 => (swp (shuf seed n k).1 k (k + belowF seed (n - k) (shuf seed n k).2), belowN seed (n - k) (shuf seed n k).2)
/-- the sequence -/
def seqF (seed : ByteArray) (n : Nat) : List Int := (shuf seed n (n - 1)).1
theorem iota_length (n : Nat) : (iota n).length = n := by simp [iota]
theorem swp_length (l : List Int) (i j : Nat) : (swp l i j).length = l.length := by simp [swp]
theorem shuf_length (seed : ByteArray) (n k : Nat) : (shuf seed n k).1.length = n := by
  induction k with
  | zero => exact iota_length n
  | succ k ih => rw [shuf, swp_length, ih]
theorem shuf_count (seed : ByteArray) (n k : Nat) : (shuf seed n k).2 ≤ 16 * k := by
  induction k with
  | zero => simp [shuf]
  | succ k ih =>
    have := (tryF_count seed (restF (n - k)) 15 (shuf seed n k).2).2
    show belowN seed (n - k) (shuf seed n k).2 ≤ _
    rw [belowN]
    omega
theorem seqF_length (seed : ByteArray) (n : Nat) : (seqF seed n).length = n := shuf_length _ _ _
theorem swp_take (l : List Int) (i j k : Nat) (h1 : k ≤ i) (h2 : k ≤ j) : (swp l i j).take k = l.take k := by
  unfold swp
  rw [List.take_set, List.take_set, List.set_eq_of_length_le (by simp; omega), List.set_eq_of_length_le (by simp; omega)]
/-- the first k elements are settled behind k steps -/
theorem shuf_take (seed : ByteArray) (n k d : Nat) : (shuf seed n (k + d)).1.take k = (shuf seed n k).1.take k := by
  induction d with
  | zero => rfl
  | succ d ih =>
    rw [← Nat.add_assoc, shuf, swp_take _ _ _ _ (by omega) (by omega), ih]
theorem prefix_eq (seed : ByteArray) (n k : Nat) (hk : k ≤ n) : (shuf seed n (min k (n - 1))).1.take k = (seqF seed n).take k := by
  unfold seqF
  rcases Nat.lt_or_ge k n with h | h
  · have e1 : min k (n - 1) = k := by omega
    have e2 : n - 1 = k + (n - 1 - k) := by omega
    rw [e1, e2, shuf_take]
  · have e1 : min k (n - 1) = n - 1 := by omega
    rw [e1]
theorem swp_perm (l : List Int) (i j : Nat) (hi : i < l.length) (hj : j < l.length) : (swp l i j).Perm l := by
  have ei : l.getD i 0 = l[i] := by rw [List.getD_eq_getElem?_getD, List.getElem?_eq_getElem hi]; rfl
  have ej : l.getD j 0 = l[j] := by rw [List.getD_eq_getElem?_getD, List.getElem?_eq_getElem hj]; rfl
  unfold swp
  rw [ei, ej]
  exact List.set_set_perm hi hj
theorem shuf_perm (seed : ByteArray) (n k : Nat) (hk : k < n ∨ k = 0) : (shuf seed n k).1.Perm (iota n) := by
  induction k with
  | zero => exact List.Perm.refl _
  | succ k ih =>
    have hb := belowF_lt seed (n - k) (shuf seed n k).2 (by omega)
    refine (swp_perm _ _ _ (by rw [shuf_length]; omega) (by rw [shuf_length]; omega)).trans (ih (by omega))
theorem seqF_perm (seed : ByteArray) (n : Nat) : (seqF seed n).Perm (iota n) := shuf_perm seed n (n - 1) (by omega)
end Go.Proofs.YtofdjlngohhlmaaDoor
