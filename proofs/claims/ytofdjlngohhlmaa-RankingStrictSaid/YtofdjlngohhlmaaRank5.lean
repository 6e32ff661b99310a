/- Contract of electionlaw13.Awake: it returns true. -/
import Derived.Test.YtofdjlngohhlmaaRank4
namespace Go.Proofs.Ytofdjlngohhlmaa
open Go.RowKit

set_option maxRecDepth 100000 in
set_option maxHeartbeats 2000000 in
theorem awake_any (w : World) : Calls Try.prog 9 #[] w (RetV w (.bool true)) := by
  go_enter Try.func9, Try.ntmps9
  go_wp2_with fail
  refine name_calls ?_
  intro W hW
  have b2 : Blk W (w.heap.size + 1 + 1) 3 #[.int .i64 1] := by rw [hW]; repeat (first | (refine Blk.new' ?_ _ _; simp; done) | refine Blk.alloc ?_ _)
  have b3 : Blk W (w.heap.size + 1 + 1 + 1) 3 #[.int .i64 1] := by rw [hW]; repeat (first | (refine Blk.new' ?_ _ _; simp; done) | refine Blk.alloc ?_ _)
  have b4 : Blk W (w.heap.size + 1 + 1 + 1 + 1) 3 #[.int .i64 0] := by rw [hW]; repeat (first | (refine Blk.new' ?_ _ _; simp; done) | refine Blk.alloc ?_ _)
  have b5 : Blk W (w.heap.size + 1 + 1 + 1 + 1 + 1) 3 #[.int .i64 0, .int .i64 2] := by rw [hW]; repeat (first | (refine Blk.new' ?_ _ _; simp; done) | refine Blk.alloc ?_ _)
  have b6 : Blk W (w.heap.size + 1 + 1 + 1 + 1 + 1 + 1) 3 #[.int .i64 2] := by rw [hW]; repeat (first | (refine Blk.new' ?_ _ _; simp; done) | refine Blk.alloc ?_ _)
  have b7 : Blk W (w.heap.size + 1 + 1 + 1 + 1 + 1 + 1 + 1) 32 #[.slice (some ⟨w.heap.size + 1 + 1, 0, none⟩) 1 1, .slice none 0 0, .slice (some ⟨w.heap.size + 1 + 1 + 1, 0, none⟩) 1 1, .slice (some ⟨w.heap.size + 1 + 1 + 1 + 1, 0, none⟩) 1 1,
      .slice (some ⟨w.heap.size + 1 + 1 + 1 + 1 + 1, 0, none⟩) 2 2, .slice (some ⟨w.heap.size + 1 + 1 + 1 + 1 + 1 + 1, 0, none⟩) 1 1] := by rw [hW]; repeat (first | (refine Blk.new' ?_ _ _; simp; done) | refine Blk.alloc ?_ _)
  have hB : Below w.heap.size w W := by
    rw [hW]
    iterate 9 refine Below.alloc ?_ (by simp; try omega) _
    exact Below.refl _ _
  clear hW
  have HB := Lib.hid hB; clear hB
  have hml : (6 : Nat) ≤ maxLen := by decide
  have hml2 : (2 : Nat) ≤ maxLen := by decide
  have hml1 : (1 : Nat) ≤ maxLen := by decide
  have hrs : RS W (fun b => b < W.heap.size) (some ⟨w.heap.size + 1 + 1 + 1 + 1 + 1 + 1 + 1, 0, none⟩) 6 6 [[1], [], [1], [0], [0, 2], ([2] : List Int)] :=
    RS.of_blk b7 (Each.flat (.cons ⟨_, _, _, rfl, RS.of_blk b2 (Flat.ints [1]) rfl (Nat.le_refl _) hml1 b2.lt⟩ (.cons ⟨_, _, _, rfl, RS.nil _ _⟩ (.cons ⟨_, _, _, rfl, RS.of_blk b3 (Flat.ints [1]) rfl (Nat.le_refl _) hml1 b3.lt⟩
      (.cons ⟨_, _, _, rfl, RS.of_blk b4 (Flat.ints [0]) rfl (Nat.le_refl _) hml1 b4.lt⟩ (.cons ⟨_, _, _, rfl, RS.of_blk b5 (Flat.ints [0, 2]) rfl (Nat.le_refl _) hml2 b5.lt⟩ (.cons ⟨_, _, _, rfl, RS.of_blk b6 (Flat.ints [2]) rfl (Nat.le_refl _) hml1 b6.lt⟩ .nil)))))))
      rfl (Nat.le_refl _) hml b7.lt
  clear b2 b3 b4 b5 b6 b7 hml hml2 hml1
  have HR := Lib.hid hrs; clear hrs
  refine (prefs_any (S := fun b => b < W.heap.size) _ _ _ _ _ _ _ _ _ _ _ _ _ _ _ [[1], [], [1], [0], [0, 2], [2]] _ HR.out (fun _ h => h) (by omega) (by decide)).mono ?_
  rintro e w1 ⟨A, n, c, rfl, hr, hb⟩
  have hv : prefsF 1 1 6 (3 : Nat) [[1], [], [1], [0], [0, 2], [2]] = [1, 0] := by decide
  rw [hv] at hr
  have H1 := Lib.hid hr
  have HB1 := Lib.hid (below_more HB.out hb)
  clear hr hb hv
  go_wp2_with fail
  refine (eq_any (S2 := fun _ => True) _ _ _ _ _ _ [1, 0] [1, 0] _ (H1.out.below (Below.alloc (Below.refl _ _) (Nat.le_refl _) _) (fun b h => h.2)) (RS.of_blk (Blk.new _ _ _) (Flat.ints [1, 0]) rfl (Nat.le_refl _) (by decide) trivial)).mono ?_
  rintro e w2 ⟨rfl, m, rfl⟩
  go_wp2
  go_ret
  exact ⟨ret_of (by simp), below_drewN ((HB1.out).alloc HB1.out.size _) _⟩
end Go.Proofs.Ytofdjlngohhlmaa
