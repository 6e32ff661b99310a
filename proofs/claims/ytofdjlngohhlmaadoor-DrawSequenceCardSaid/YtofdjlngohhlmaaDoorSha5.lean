/- SHA-256: numbers as bytes. -/
import Derived.Test.YtofdjlngohhlmaaDoorChecked
import Derived.Test.YtofdjlngohhlmaaDoorBits
namespace Go.Proofs.YtofdjlngohhlmaaDoor
open Go.RowKit

theorem Tryd.bytesTy : SliceTy Tryd.prog 45 5 1 1 := SliceTy.mk' (z := .int .u8 0) Tryd.underlying45 (by kernel_rfl) rfl (by omega)

/-- the bytes of a number, the most significant first -/
def be (n : Nat) : Nat → List UInt8
  | 0 => []
  | k + 1 => UInt8.ofNat (n / 2 ^ (8 * k)) :: be n k
theorem be_length (n k : Nat) : (be n k).length = k := by induction k with
  | zero => rfl
  | succ k ih => simp [be, ih]
theorem u8_of (x : Nat) : IntKind.u8.wrap (x : Int) = ((UInt8.ofNat x).toNat : Int) := by
  rw [IntKind.wrap_u8, UInt8.toNat_ofNat']
  omega

/-- the call hands back the grown row -/
def RetO {α : Type} [Rep α] (w : World) (S : Nat → Prop) (base : Nat) (e : TypeId) (v : Value) (xs : List α) (en : Ending) (w' : World) : Prop :=
  ∃ v', en = .returned v' ∧ Own w' S base e v' xs ∧ w.grownBy w' v.ownBlock ∧ ∀ j, v'.ownBlock = some j → w.heap.size ≤ j ∨ v.ownBlock = some j

theorem grown_next {w wr w' : World} {r r' : Option Nat} {o : Obj} (h : w.grownBy wr r) (k : (wr.alloc o).grownBy w' r') (hr : ∀ j, r' = some j → w.heap.size ≤ j ∨ r = some j) : w.grownBy w' r :=
  h.andThen ((World.grownBy_alloc wr o r').trans k) hr
theorem own_next {v v' v'' : Value} {w wr : World} (h : ∀ j, v'.ownBlock = some j → w.heap.size ≤ j ∨ v.ownBlock = some j) (k : v''.ownBlock = v'.ownBlock ∨ v''.ownBlock = some (wr.heap.size + 1)) (hs : w.heap.size ≤ wr.heap.size) :
    ∀ j, v''.ownBlock = some j → w.heap.size ≤ j ∨ v.ownBlock = some j := by
  intro j hj
  rcases k with k | k
  · exact h j (k.symm.trans hj)
  · rw [k] at hj
    injection hj with hj
    left; omega

set_option maxHeartbeats 1000000 in
theorem number_ok {S : Nat → Prop} {base : Nat} {v : Value} {xs : List UInt8} {n m : Nat} {w : World} (hown : Own w S base 5 v xs) (hbase : base ≤ w.heap.size) (_hn : n < 18446744073709551616) (hm : m ≤ 8) (hl : xs.length ≤ 1099511627776) :
    Calls Tryd.prog 33 #[v, .int .u64 n, .int .i64 m] w (RetO w S base 5 v (xs ++ be n m)) := by
  have HO := Lib.hid hown; clear hown
  go_enter Tryd.func33, Tryd.ntmps33
  go_wp2
  go_loopw [0, 7] (fun v' i wr => ∃ (k : Nat) (z : Int) (ys : List UInt8), k ≤ m ∧ i = .int .i64 z ∧ z + 1 = k ∧ Own wr S base 5 v' ys ∧ ys ++ be n k = xs ++ be n m ∧ w.grownBy wr v.ownBlock ∧ ∀ j, v'.ownBlock = some j → w.heap.size ≤ j ∨ v.ownBlock = some j)
    (fun _ i _ => (intOf i + 1).toNat)
  case atStart => exact ⟨m, (m : Int) - 1, xs, Nat.le_refl _, rfl, by omega, HO.out, rfl, World.grownBy.refl _ _, fun j hj => .inr hj⟩
  case round =>
    obtain ⟨k, z, ys, hk, rfl, hz, how, hys, hg, hj⟩ := hrel
    have HO1 := Lib.hid how
    have HY := Lib.hid hys
    have HG := Lib.hid hg
    have HJ := Lib.hid hj
    clear how hys hg hj
    rcases k with _ | k
    · obtain rfl : z = -1 := by omega
      clear hz
      go_wp2_with fail
      go_ret
      refine ⟨_, rfl, ?_, HG.out, HJ.out⟩
      have := HY.out
      rw [be, List.append_nil] at this
      rw [← this]
      exact HO1.out
    · obtain rfl : z = k := by omega
      clear hz
      obtain ⟨p, hp⟩ : ∃ p, 8 * k = p := ⟨_, rfl⟩
      have hp1 : IntKind.i64.wrap (8 * (k : Int)) = (p : Int) := by rw [IntKind.wrap_i64]; omega
      have hp2 : p ≤ 64 := by omega
      obtain ⟨y, hy⟩ : ∃ y, UInt8.ofNat (n / 2 ^ p) = y := ⟨_, rfl⟩
      have hv : IntKind.u8.wrap ((n : Int) / 2 ^ p) = (y.toNat : Int) := by rw [← hy, ← u8_of, Int.natCast_ediv, Int.natCast_pow]; rfl
      have HP := Lib.hid hp
      have HYY := Lib.hid hy
      clear hp hy
      have hl1 : Hid (ys.length ≤ 1099511627784) := by
        have := congrArg List.length HY.out
        rw [List.length_append, List.length_append, be_length, be_length] at this
        show ys.length ≤ 1099511627784
        omega
      go_wp2_with (at_builtin
                   refine wpList_append_gen (α := UInt8) (w0 := wr) (B := base) (base := base) rfl _ _ 45 rfl 1 Tryd.bytesTy rfl HO1.out (Below.refl _ _) (Nat.le_refl _) (Nat.le_trans hbase HG.out.size) [.int .u8 (y.toNat : Int)] y 1 rfl rfl 5 (by simp [Value.oneCell']) (by have := hl1.out; omega) ?_
                   intro v2 w2 hown2 _ hg2 hat2
                   have HO2 := Lib.hid hown2
                   have HG2 := Lib.hid (grown_next HG.out hg2 HJ.out)
                   have HJ2 := Lib.hid (own_next HJ.out hat2 HG.out.size)
                   clear hown2 hg2 hat2)
      go_roundw
      case rel =>
        refine ⟨k, (k : Int) - 1, ys ++ [y], by omega, by go_num, by omega, HO2.out, ?_, HG2.out, HJ2.out⟩
        rw [← HY.out, be, ← HYY.out, HP.out, List.append_assoc]
        rfl
      case measure => simp [intOf]
end Go.Proofs.YtofdjlngohhlmaaDoor
