/- SHA-256: the digest of several texts. -/
import Derived.Test.YtofdjlngohhlmaaDoorSha9
namespace Go.Proofs.YtofdjlngohhlmaaDoor
open Go.RowKit

theorem Tab.keep {w w' : World} {g : Nat} (h : Tab w g) (hb : Below w.heap.size w w') : Tab w' g := h.below hb h.1

set_option maxRecDepth 100000 in
set_option maxHeartbeats 1000000 in
theorem of_ok {S : Nat → Prop} {A : Option Addr} {n c : Nat} {ps : List (List UInt8)} {w : World} (h : RS w S A n c ps) (hS : ∀ b, S b → b < w.heap.size) (hl : (joinF ps).length ≤ 1073741824) (hT : Tab w 1) :
    Calls Tryd.prog 25 #[.slice A n c] w (RetV w (.agg (cells8 (sha (joinF ps))))) := by
  have H := Lib.hid h
  have HT := Lib.hid hT
  clear h hT
  go_enter Tryd.func25, Tryd.ntmps25
  go_upto_region 1 with (fail)
  refine name_world fun W hW => ?_
  have hB : Below w.heap.size w W := by rw [hW]; exact (Below.refl _ _).alloc (Nat.le_refl _) _
  have k0 : Blk W w.heap.size 48 (cells8 (List.replicate 32 0)) := by rw [hW]; exact Blk.new' rfl _ _
  have HB := Lib.hid hB
  have K0 := Lib.hid k0
  clear hB k0 hW
  go_wp2_with fail
  refine (join_ok (H.out.below HB.out hS) (fun b hb => by have := hS b hb; have := K0.out.lt; omega) hl).mono ?_
  rintro e w1 ⟨v1, rfl, ho1, hb1⟩
  obtain ⟨A1, n1, c1, rfl, hn1⟩ := ho1.slice
  have HP := Lib.hid (ho1.rs (S' := fun b => b < w1.heap.size) (fun _ h => h.elim) (fun g _ h2 => h2))
  have HB1 := Lib.hid (below_more HB.out (hb1.mono (Nat.le_refl _)))
  have K1 := Lib.hid (K0.out.keep hb1)
  have hn1b : n1 ≤ 1073741824 := by omega
  clear ho1 hb1 hn1
  go_wp2_with fail
  refine (sum_ok HP.out (fun b hb => hb) hn1b (HT.out.keep HB1.out)).mono ?_
  rintro e w2 ⟨rfl, hb2⟩
  rename_i K hK
  refine hK _ _ ?_
  clear hK K
  refine wpList_store_row rfl _ _ _ rfl w.heap.size (cells8 (sha (joinF ps))) rfl rfl _ (cells8 (List.replicate 32 0)) (K1.out.keep hb2) (by rw [cells8_size, sha_length]; kernel_rfl) (by rw [cells8_size, cells8_size, sha_length, List.length_replicate]) (cells8_one _) ?_
  refine wpList_nil ?_
  have hb9 : Below w.heap.size w (w2.setRow w.heap.size (cells8 (sha (joinF ps)))) := below_setRow (below_more HB1.out (hb2.mono (Nat.le_refl _))) (Nat.le_refl _) _
  have k9 : Blk (w2.setRow w.heap.size (cells8 (sha (joinF ps)))) w.heap.size 48 (cells8 (sha (joinF ps))) := setRow_heap _ _ _ _ _ _ (K1.out.keep hb2)
  obtain ⟨w9, hw9⟩ : ∃ w9, w2.setRow w.heap.size (cells8 (sha (joinF ps))) = w9 := ⟨_, rfl⟩
  rw [hw9] at hb9 k9 ⊢
  clear hw9
  have HB9 := Lib.hid hb9
  have K9 := Lib.hid k9
  clear hb9 k9
  simp only [Act.put]
  go_wp2_with fail
  refine bodyPost_ret (results_cell_row rfl _ _ w.heap.size _ _ _ _ rfl K9.out Tryd.underlying48 rfl (by rw [cells8_size, sha_length]; kernel_rfl)) rfl ?_
  exact ⟨rfl, HB9.out⟩
end Go.Proofs.YtofdjlngohhlmaaDoor
