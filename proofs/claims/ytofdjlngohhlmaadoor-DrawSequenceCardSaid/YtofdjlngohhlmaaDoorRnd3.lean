/- The next word of a source, in the reference. -/
import Derived.Test.YtofdjlngohhlmaaDoorRnd2
namespace Go.Proofs.YtofdjlngohhlmaaDoor
open Go.RowKit

set_option maxRecDepth 100000 in
set_option maxHeartbeats 2000000 in
theorem rword_ok (seed : ByteArray) (N g : Nat) (w : World) (hk : Blk w g 36 #[.string seed, .int .u64 N]) (hs : seed.size ≤ 1073741000) (hN : N < 18446744073709551615) (hT : Tab w 0) (hg1 : g ≠ 0) :
    Calls Tryd.prog 20 #[.pointer (some ⟨g, 0, none⟩)] w (RetG w g 36 #[.string seed, .int .u64 ((N + 1 : Nat) : Int)] (.int .u64 (wordF seed N))) := by
  have HK := Lib.hid hk
  have HT := Lib.hid hT
  have hg := hk.lt
  clear hk hT
  go_enter Tryd.func20, Tryd.ntmps20
  go_wp2_with fail
  go_loopw [3, 4] (fun v i wr => ∃ (k : Nat) (z : Int) (ys : List UInt8), k ≤ 8 ∧ i = .int .i64 z ∧ z + 1 = k ∧ Own wr NoBlk w.heap.size 5 v ys ∧ ys ++ be N k = be N 8 ∧ Below w.heap.size w wr)
    (fun _ i _ => (intOf i + 1).toNat)
  case atStart => exact ⟨8, 7, [], by omega, rfl, by omega, Own.nil _ _ _, rfl, Below.refl _ _⟩
  case round =>
    obtain ⟨k, z, ys, hk, rfl, hz, how, hys, hb⟩ := hrel
    have HO1 := Lib.hid how
    have HY := Lib.hid hys
    have HB1 := Lib.hid hb
    have KR := Lib.hid (HK.out.keep hb)
    clear how hys hb
    rcases k with _ | k
    · obtain rfl : z = -1 := by omega
      clear hz
      have e0 : wr.cell? ⟨g, 0, none⟩ = some (.string seed) := KR.out.cell 0
      have e1 : wr.cell? ⟨g, 1, none⟩ = some (.int .u64 N) := KR.out.cell 1
      have f1 : wr.frozen? ⟨g, 1, none⟩ = false := KR.out.frozen 1
      have hN1 : (N : Int) + 1 < 18446744073709551616 := by omega
      go_upto_region 7 with (fail)
      have hset : Blk (wr.setCell ⟨g, 1, none⟩ (.int .u64 ((N : Int) + 1))) g 36 #[.string seed, .int .u64 ((N + 1 : Nat) : Int)] := by
        have := KR.out.set_ 1 (.int .u64 ((N + 1 : Nat) : Int))
        exact this
      have how := HO1.out.setCell (p := ⟨g, 1, none⟩) (fun h => by have := (HO1.out.lt g h).1; omega) (fun _ h => h.elim) (.int .u64 ((N : Int) + 1))
      have hyp : ys = be N 8 := by
        have := HY.out
        rw [be, List.append_nil] at this
        exact this
      rw [hyp] at how
      have hgw : w.grownBy (wr.setCell ⟨g, 1, none⟩ (.int .u64 ((N : Int) + 1))) (some g) := (grown_below HB1.out _).trans (grownBy_setCell wr ⟨g, 1, none⟩ _)
      have htab : Tab (wr.setCell ⟨g, 1, none⟩ (.int .u64 ((N : Int) + 1))) 0 := by
        have h0 := HT.out.below HB1.out HT.out.1
        exact ⟨by simpa using h0.1, fun t ht => (World.cell?_setCell_other wr ⟨g, 1, none⟩ ⟨0, t, none⟩ _ (fun e => by injection e with e; first | exact hg1 e | exact hg1 e.symm)).trans (h0.2 t ht)⟩
      have hzz : (wr.setCell ⟨g, 1, none⟩ (.int .u64 ((N : Int) + 1))).heap.size = wr.heap.size := by simp
      obtain ⟨W, hW⟩ : ∃ W, wr.setCell ⟨g, 1, none⟩ (.int .u64 ((N : Int) + 1)) = W := ⟨_, rfl⟩
      rw [hW] at hset how hgw htab hzz ⊢
      have hz1 := HB1.out.size
      have HK1 := Lib.hid hset
      have HO2 := Lib.hid how
      have HG2 := Lib.hid hgw
      have HT2 := Lib.hid htab
      have HZ2 : Hid (w.heap.size ≤ W.heap.size) := Lib.hid (by omega)
      have e0 : W.cell? ⟨g, 0, none⟩ = some (.string seed) := hset.cell 0
      clear hW hset how hgw htab e1 f1 HO1 HB1 KR hyp HY hzz hz1
      clear hN1
      have hb5 := bytesWorld_below W 5 seed
      have hz5 := Lib.bytesWorld_size W 5 seed
      have hr5 : RS (Lib.bytesWorld W 5 seed) (· < (Lib.bytesWorld W 5 seed).heap.size) (some ⟨W.heap.size, 0, none⟩) seed.size (grownCap W seed.size 0 5) (bts seed) := RS.bytesWorld W 5 seed (by omega) (by rw [hz5]; omega)
      have hcv := Lib.run_convert_string_bytes (P := Tryd.prog) W 9 45 5 seed Tryd.underlying9 Tryd.underlying45 Tryd.underlying5
      obtain ⟨w5, hw5⟩ : ∃ w5, Lib.bytesWorld W 5 seed = w5 := ⟨_, rfl⟩
      obtain ⟨c5, hc5⟩ : ∃ c5, grownCap W seed.size 0 5 = c5 := ⟨_, rfl⟩
      obtain ⟨g5, hg5⟩ : ∃ g5, W.heap.size = g5 := ⟨_, rfl⟩
      rw [hw5, hc5, hg5] at hr5
      rw [hw5, hc5, hg5] at hcv
      rw [hw5] at hb5 hz5
      have HB5 := Lib.hid hb5
      have HR5 := Lib.hid hr5
      have HZ5 := Lib.hid hz5
      clear hb5 hr5 hz5 hw5 hc5 hg5
      obtain ⟨A3, n3, c3, rfl, hn3⟩ := HO2.out.slice
      have HN3 := Lib.hid hn3
      clear hn3
      go_wp2_with fail
      have hb6 : Below w5.heap.size w5 (w5.alloc (.cells #[.slice (some ⟨g5, 0, none⟩) seed.size c5, .slice A3 n3 c3] 45)) := (Below.refl _ _).alloc (Nat.le_refl _) _
      have hb56 := below_more HB5.out hb6
      have hr6 : RS (w5.alloc (.cells #[.slice (some ⟨g5, 0, none⟩) seed.size c5, .slice A3 n3 c3] 45)) (· < w5.heap.size + 1) (some ⟨w5.heap.size, 0, none⟩) 2 2 [bts seed, be N 8] := by
        refine RS.of_blk (t := 45) (cs := #[.slice (some ⟨g5, 0, none⟩) seed.size c5, .slice A3 n3 c3]) (Blk.new _ _ _) ?_ rfl (Nat.le_refl _) (by decide) (by omega)
        refine Flat.cons (ds := [_]) ⟨_, _, _, rfl, (HR5.out.below hb6 (fun b hb => hb)).sub (fun b hb => by omega)⟩ (Flat.cons (ds := [_]) ⟨_, _, _, rfl, ?_⟩ .nil)
        have h1 : Own w5 NoBlk w.heap.size 5 (.slice A3 n3 c3) (be N 8) := HO2.out.below HB5.out
        exact (h1.below hb6).rs (fun _ h => h.elim) (fun g _ h2 => by simpa using h2)
      have hsz6 : (w5.alloc (.cells #[.slice (some ⟨g5, 0, none⟩) seed.size c5, .slice A3 n3 c3] 45)).heap.size = w5.heap.size + 1 := by simp
      refine (rof_ok hr6 (fun b hb => by rw [hsz6]; exact hb) (by rw [joinF_two]; simp [be_length, bts_length]; omega) (HT2.out.keep hb56)).mono ?_
      rintro e w7 ⟨rfl, hb7⟩
      have HB7 := Lib.hid (below_more hb56 hb7)
      clear hb6 hb56 hr6 hsz6 hb7 hcv e0
      obtain ⟨g7, hg7⟩ : ∃ g7, w7.heap.size = g7 := ⟨_, rfl⟩
      rename_i K hK
      refine hK _ _ ?_
      clear hK K
      refine wpList_runs (w' := w7.alloc (.cells (cells8 (List.replicate 32 0)) 48)) rfl (.pointer (some ⟨g7, 0, none⟩)) ?_ ?_
      · rw [← hg7]
        go_simp
        rfl
      refine wpList_store_row rfl _ _ _ rfl g7 (cells8 (sha (joinF [bts seed, be N 8]))) rfl rfl _ (cells8 (List.replicate 32 0)) (Blk.new' hg7 _ _) (by rw [cells8_size, sha_length]; kernel_rfl) (by rw [cells8_size, cells8_size, sha_length]; rfl) (cells8_one _) ?_
      refine wpList_nil ?_
      rw [← hg7, World.setRow_alloc_new]
      obtain ⟨ds, hds⟩ : ∃ ds, sha (joinF [bts seed, be N 8]) = ds := ⟨_, rfl⟩
      have hwf : wordF seed N = fstN ds 8 := by rw [wordF, hds]
      have hdl : ds.length = 32 := by rw [← hds, sha_length]
      rw [hds]
      obtain ⟨W8, hW8⟩ : ∃ W8, w7.alloc (.cells (cells8 ds) 48) = W8 := ⟨_, rfl⟩
      have HB8 : Hid (Below W.heap.size W W8) := Lib.hid (by rw [← hW8]; exact HB7.out.alloc HB7.out.size _)
      have K8 : Hid (Blk W8 g7 48 (cells8 ds)) := Lib.hid (by rw [← hW8]; exact Blk.new' hg7 _ _)
      rw [hW8, hg7]
      have HWF := Lib.hid hwf
      have HDL := Lib.hid hdl
      clear hW8 hg7 HB7 hds hwf hdl
      simp only [Act.put, List.setIfInBounds_toArray, List.set_cons_zero, List.set_cons_succ]
      go_wp2_with fail
      go_loop [6, 7] (fun v i => ∃ k : Nat, k ≤ 8 ∧ i = .int .i64 k ∧ v = .int .u64 (fstN ds k)) (fun _ i => 8 - (intOf i).toNat)
      case atStart => exact ⟨0, by omega, rfl, rfl⟩
      case round =>
        obtain ⟨k, hk, rfl, rfl⟩ := hrel
        by_cases hlt : k < 8
        · have lk : (k : Int) < 8 := by omega
          have lk2 : (k : Int) < 32 := by omega
          have hx : ds[k]? = some (ds.getD k 0) := by
            have : k < ds.length := by rw [HDL.out]; omega
            rw [List.getD_eq_getElem?_getD, List.getElem?_eq_getElem this]; rfl
          have e0 : W8.cell? ⟨g7, k, none⟩ = some (.int .u8 (((ds.getD k 0).toNat : Nat) : Int)) := by
            rw [K8.out.cell k, cells8, List.getElem?_toArray, List.getElem?_map, hx]
            rfl
          obtain ⟨x, hxx⟩ : ∃ x, ds.getD k 0 = x := ⟨_, rfl⟩
          have hst := fst_step ds k hlt
          have hb := fstN_lt ds k
          rw [hxx] at e0 hst
          obtain ⟨z, hz⟩ : ∃ z, fstN ds k = z := ⟨_, rfl⟩
          obtain ⟨z', hz'⟩ : ∃ z', fstN ds (k + 1) = z' := ⟨_, rfl⟩
          rw [hz, hz'] at hst
          rw [hz]
          have HZ := Lib.hid hz'
          clear hx hxx hb hz hz'
          go_wp2_with fail
          go_round
          case rel => exact ⟨k + 1, by omega, by go_num, by rw [HZ.out]⟩
          case measure => simp [intOf]; omega
        · have hk8 : k = 8 := by omega
          subst hk8
          go_wp2_with fail
          go_ret
          exact ⟨ret_of (by rw [HWF.out]; rfl), HG2.out.trans (grown_below HB8.out _), HK1.out.keep HB8.out⟩
    · obtain ⟨p, hp⟩ : ∃ p, 8 * k = p := ⟨_, rfl⟩
      obtain rfl : z = k := by omega
      clear hz
      have hp1 : IntKind.i64.wrap (8 * (k : Int)) = (p : Int) := by rw [IntKind.wrap_i64]; omega
      have hp2 : p ≤ 64 := by omega
      have e1 : wr.cell? ⟨g, 1, none⟩ = some (.int .u64 N) := KR.out.cell 1
      obtain ⟨y, hy⟩ : ∃ y, UInt8.ofNat (N / 2 ^ p) = y := ⟨_, rfl⟩
      have hv := u8_word N p y hy
      have HP := Lib.hid hp
      have HYY := Lib.hid hy
      clear hp hy
      have hl1 : Hid (ys.length ≤ 8) := by
        have := congrArg List.length HY.out
        rw [List.length_append, be_length, be_length] at this
        show ys.length ≤ 8
        omega
      go_wp2_with (at_builtin
                   refine wpList_append_gen (α := UInt8) (w0 := w) (B := w.heap.size) (base := w.heap.size) rfl _ _ 45 rfl 1 Tryd.bytesTy rfl HO1.out HB1.out (Nat.le_refl _) HB1.out.size [.int .u8 (y.toNat : Int)] y 1 rfl rfl 5 (by simp [Value.oneCell']) (by have := hl1.out; omega) ?_
                   intro v2 w2 hown2 hb2 _ _
                   have HO2 := Lib.hid hown2
                   have HB2 := Lib.hid hb2
                   clear hown2 hb2)
      go_roundw
      case rel =>
        refine ⟨k, (k : Int) - 1, ys ++ [y], by omega, by go_num, by omega, HO2.out, ?_, HB2.out⟩
        rw [← HY.out, be, ← HYY.out, HP.out, List.append_assoc]
        rfl
      case measure => simp [intOf]
end Go.Proofs.YtofdjlngohhlmaaDoor
