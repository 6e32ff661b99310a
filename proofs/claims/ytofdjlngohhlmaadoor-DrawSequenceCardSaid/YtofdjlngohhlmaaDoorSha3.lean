/- SHA-256: the words of a block, in the reference. -/
import Derived.Test.YtofdjlngohhlmaaDoorSha2
namespace Go.Proofs.YtofdjlngohhlmaaDoor
open Go.RowKit

theorem cat_bits (a b c d : UInt8) : bits .or .u32 (bits .or .u32 (bits .or .u32 (IntKind.u32.wrap (IntKind.u32.wrap (a.toNat : Int) * 16777216)) (IntKind.u32.wrap (IntKind.u32.wrap (b.toNat : Int) * 65536))) (IntKind.u32.wrap (IntKind.u32.wrap (c.toNat : Int) * 256))) (IntKind.u32.wrap (d.toNat : Int)) = ((wide a <<< 24 ||| wide b <<< 16 ||| wide c <<< 8 ||| wide d).toNat : Int) := by
  rw [byte_wide a, byte_wide b, byte_wide c, byte_wide d, u32_wrap', u32_wrap', u32_wrap', u32_wrap', IntKind.wrap_u32, IntKind.wrap_u32, IntKind.wrap_u32, u32_shl24, u32_shl16, u32_shl8, u32_or', u32_or', u32_or']
theorem byt_of {bs : List UInt8} {k : Nat} {x : UInt8} (h : bs[k]? = some x) : byt bs k = wide x := by
  rw [byt, List.getD_eq_getElem?_getD, h]; rfl

set_option maxRecDepth 100000 in
set_option maxHeartbeats 1000000 in
theorem words_ok {S : Nat → Prop} {A : Option Addr} {n c : Nat} {bs : List UInt8} {w : World} (h : RS w S A n c bs) (hS : ∀ b, S b → b < w.heap.size) (hn : 64 ≤ n) :
    Calls Tryd.prog 34 #[.slice A n c] w (RetV w (.agg (cells32 64 (upto bs 64)))) := by
  have H := Lib.hid h; clear h
  go_enter Tryd.func34, Tryd.ntmps34
  go_wp2
  refine name_world fun W hW => ?_
  have hB : Below w.heap.size w W := by rw [hW]; exact ((Below.refl _ _).alloc (Nat.le_refl _) _).alloc (by simp) _
  have hz : cells32 64 (fun _ => 0) = cells32 64 (upto bs 0) := rfl
  have k0 : Blk W w.heap.size 61 (cells32 64 (upto bs 0)) := by rw [hW, ← hz]; exact Blk.alloc (Blk.new' rfl _ _) _
  have k1 : Blk W (w.heap.size + 1) 61 (cells32 64 (upto bs 0)) := by rw [hW, ← hz]; exact Blk.new' (by simp) _ _
  have HB := Lib.hid hB
  have K0 := Lib.hid k0
  have K1 := Lib.hid k1
  clear hB k0 k1 hW hz
  go_loopw [4] (fun i wr => ∃ k : Nat, k ≤ 64 ∧ i = .int .i64 k ∧ Below w.heap.size w wr ∧ Blk wr w.heap.size 61 (cells32 64 (upto bs 0)) ∧ Blk wr (w.heap.size + 1) 61 (cells32 64 (upto bs k)))
    (fun i _ => 64 - (intOf i).toNat)
  case atStart => exact ⟨0, by omega, rfl, HB.out, K0.out, K1.out⟩
  case round =>
    clear HB K0 K1
    obtain ⟨k, hk, rfl, hB, k0, k1⟩ := hrel
    have HB := Lib.hid hB
    have K0 := Lib.hid k0
    have K1 := Lib.hid k1
    clear hB k0 k1
    by_cases hlt : k < 64
    · have lk : (k : Int) < 64 := by omega
      have ek : wr.cell? ⟨w.heap.size + 1, k, none⟩ = some (wrd (upto bs k k)) := (K1.out.cell k).trans (cells32_get _ hlt)
      have fk : wr.frozen? ⟨w.heap.size + 1, k, none⟩ = false := K1.out.frozen k
      unfold wrd at ek
      by_cases hlo : k < 16
      · obtain ⟨b, o, x0, rfl, hSb, hx0, e0⟩ := H.out.byte_at (show 4 * k < n by omega)
        obtain ⟨b', o', x1, hb1, _, hx1, e1⟩ := H.out.byte_at (show 4 * k + 1 < n by omega)
        injection hb1 with hb1; injection hb1 with hb1 ho1; subst hb1 ho1
        obtain ⟨b', o', x2, hb2, _, hx2, e2⟩ := H.out.byte_at (show 4 * k + 2 < n by omega)
        injection hb2 with hb2; injection hb2 with hb2 ho2; subst hb2 ho2
        obtain ⟨b', o', x3, hb3, _, hx3, e3⟩ := H.out.byte_at (show 4 * k + 3 < n by omega)
        injection hb3 with hb3; injection hb3 with hb3 ho3; subst hb3 ho3
        have d0 := (HB.out.cell (p := ⟨b, o + 4 * k, none⟩) (hS b hSb)).trans e0
        have d1 := (HB.out.cell (p := ⟨b, o + (4 * k + 1), none⟩) (hS b hSb)).trans e1
        have d2 := (HB.out.cell (p := ⟨b, o + (4 * k + 2), none⟩) (hS b hSb)).trans e2
        have d3 := (HB.out.cell (p := ⟨b, o + (4 * k + 3), none⟩) (hS b hSb)).trans e3
        have hval : wd bs k = wide x0 <<< 24 ||| wide x1 <<< 16 ||| wide x2 <<< 8 ||| wide x3 := by
          rw [wd, dif_pos hlo, byt_of hx0, byt_of hx1, byt_of hx2, byt_of hx3]
        have HV := Lib.hid hval
        obtain ⟨p0, h0⟩ : ∃ p, 4 * k = p := ⟨_, rfl⟩
        obtain ⟨p1, h1⟩ : ∃ p, 4 * k + 1 = p := ⟨_, rfl⟩
        obtain ⟨p2, h2⟩ : ∃ p, 4 * k + 2 = p := ⟨_, rfl⟩
        obtain ⟨p3, h3⟩ : ∃ p, 4 * k + 3 = p := ⟨_, rfl⟩
        have q0 : IntKind.i64.wrap (4 * (k : Int)) = (p0 : Int) := by rw [IntKind.wrap_i64]; omega
        have q1 : IntKind.i64.wrap ((p0 : Int) + 1) = (p1 : Int) := by rw [IntKind.wrap_i64]; omega
        have q2 : IntKind.i64.wrap ((p0 : Int) + 2) = (p2 : Int) := by rw [IntKind.wrap_i64]; omega
        have q3 : IntKind.i64.wrap ((p0 : Int) + 3) = (p3 : Int) := by rw [IntKind.wrap_i64]; omega
        rw [h1] at d1; rw [h2] at d2; rw [h3] at d3; rw [h0] at d0
        have l0 : p0 < n := by omega
        have l1 : p1 < n := by omega
        have l2 : p2 < n := by omega
        have l3 : p3 < n := by omega
        clear h0 h1 h2 h3 hx0 hx1 hx2 hx3 e0 e1 e2 e3 hval
        go_wp2_with fail
        refine wp_region_seq (fun w' => w'.cell? ⟨b, o + p0, none⟩ = some (.int .u8 (x0.toNat : Int)) ∧ w'.cell? ⟨b, o + p1, none⟩ = some (.int .u8 (x1.toNat : Int)) ∧ w'.cell? ⟨b, o + p2, none⟩ = some (.int .u8 (x2.toNat : Int)) ∧ w'.cell? ⟨b, o + p3, none⟩ = some (.int .u8 (x3.toNat : Int))) 35
          [(0, true), (1, true), (2, true), (3, true), (4, true), (5, true), (6, true), (7, true), (8, true), (9, true), (10, true), (11, true), (12, true), (13, true), (14, true), (15, true), (16, true), (17, true), (18, true), (19, true), (20, true), (21, true), (22, true), (23, true), (24, true), (25, true), (26, true), (27, true), (28, true), (29, true), (30, true), (31, true), (32, true), (33, true), (34, true)]
          (by kernel_rfl) rfl (by kernel_rfl) (by kernel_rfl) (by kernel_rfl) (fun _ _ d _ _ h => by cases d <;> exact h) ⟨d0, d1, d2, d3⟩ ?_
        clear d0 d1 d2 d3
        iterate 35
          refine seqL_read (v := ?_) rfl rfl ?_ ?_
          rotate_left 1
          · intro w hS
            go_simp
            with_reducible rfl
          simp only [Act.put, List.getElem_toArray, List.getElem_cons_zero, List.getElem_cons_succ, List.setIfInBounds_toArray, List.set_cons_zero, List.set_cons_succ]
        refine seqL_last rfl fun K hK => ?_
        go_simp
        rw [cat_bits, ← HV.out]
        refine hK _ _ ?_
        clear hK K
        go_wp2_with fail
        go_roundw
        case rel =>
          refine ⟨k + 1, by omega, by go_num, (HB.out.setCell (by simp) _).drew, (K0.out.far (by simp) _).drew, ?_⟩
          rw [← upto_next bs k _ rfl, ← cells32_set]
          exact (K1.out.set_ k _).drew
        case measure => simp [intOf]; omega
      · obtain ⟨k15, hk15⟩ : ∃ j, k - 15 = j := ⟨_, rfl⟩
        obtain ⟨k2, hk2⟩ : ∃ j, k - 2 = j := ⟨_, rfl⟩
        obtain ⟨k16, hk16⟩ : ∃ j, k - 16 = j := ⟨_, rfl⟩
        obtain ⟨k7, hk7⟩ : ∃ j, k - 7 = j := ⟨_, rfl⟩
        have q15 : (k : Int) - 15 = (k15 : Int) := by omega
        have q2 : (k : Int) - 2 = (k2 : Int) := by omega
        have q16 : (k : Int) - 16 = (k16 : Int) := by omega
        have q7 : (k : Int) - 7 = (k7 : Int) := by omega
        have l15 : (k15 : Int) < 64 := by omega
        have l2 : (k2 : Int) < 64 := by omega
        have l16 : (k16 : Int) < 64 := by omega
        have l7 : (k7 : Int) < 64 := by omega
        have e15 : wr.cell? ⟨w.heap.size + 1, k15, none⟩ = some (.int .u32 ((wd bs k15).toNat : Int)) := (K1.out.cell k15).trans ((cells32_get _ (by omega)).trans (by rw [upto, if_pos (by omega)]; rfl))
        have e2 : wr.cell? ⟨w.heap.size + 1, k2, none⟩ = some (.int .u32 ((wd bs k2).toNat : Int)) := (K1.out.cell k2).trans ((cells32_get _ (by omega)).trans (by rw [upto, if_pos (by omega)]; rfl))
        have e16 : wr.cell? ⟨w.heap.size + 1, k16, none⟩ = some (.int .u32 ((wd bs k16).toNat : Int)) := (K1.out.cell k16).trans ((cells32_get _ (by omega)).trans (by rw [upto, if_pos (by omega)]; rfl))
        have e7 : wr.cell? ⟨w.heap.size + 1, k7, none⟩ = some (.int .u32 ((wd bs k7).toNat : Int)) := (K1.out.cell k7).trans ((cells32_get _ (by omega)).trans (by rw [upto, if_pos (by omega)]; rfl))
        have hdef : wd bs k = sig1 (wd bs k2) + wd bs k7 + sig0 (wd bs k15) + wd bs k16 := by
          rw [wd, dif_neg (by omega), hk2, hk7, hk15, hk16]
        have HD := Lib.hid hdef
        have hw16 : IntKind.i64.wrap (k16 : Int) = (k16 : Int) := by rw [IntKind.wrap_i64]; omega
        have hw7 : IntKind.i64.wrap (k7 : Int) = (k7 : Int) := by rw [IntKind.wrap_i64]; omega
        clear hk15 hk2 hk16 hk7 hdef
        have s0 := sig0_bits (wd bs k15)
        have s1 := sig1_bits (wd bs k2)
        go_wp2_with fail
        go_quiet (fail)
        go_wp2_with fail
        refine wp_region_seq (fun w' => w'.cell? ⟨w.heap.size + 1, k16, none⟩ = some (.int .u32 ((wd bs k16).toNat : Int)) ∧ w'.cell? ⟨w.heap.size + 1, k7, none⟩ = some (.int .u32 ((wd bs k7).toNat : Int)) ∧ w'.cell? ⟨w.heap.size + 1, k, none⟩ = some (.int .u32 ((upto bs k k).toNat : Int)) ∧ w'.frozen? ⟨w.heap.size + 1, k, none⟩ = false) 29
          [(0, true), (1, true), (3, true), (6, true), (7, true), (9, true), (10, true), (11, true), (12, true), (14, true), (16, true), (19, true), (20, true), (23, true), (24, true), (25, true), (26, true), (2, false), (4, false), (5, true), (8, true), (13, true), (15, false), (17, false), (18, true), (21, true), (22, true), (27, true), (28, true)]
          (by kernel_rfl) rfl (by kernel_rfl) (by kernel_rfl) (by kernel_rfl) (fun _ _ d _ _ h => by cases d <;> exact h) ⟨e16, e7, ek, fk⟩ ?_
        obtain ⟨wx, hwx⟩ : ∃ wx, (wr.drewN nq).drew = wx := ⟨_, rfl⟩
        have HBx : Hid (Below w.heap.size w wx) := Lib.hid (by rw [← hwx]; exact (below_drewN HB.out nq).drew)
        have K0x : Hid (Blk wx w.heap.size 61 (cells32 64 (upto bs 0))) := Lib.hid (by rw [← hwx]; exact (K0.out.drewN nq).drew)
        have K1x : Hid (Blk wx (w.heap.size + 1) 61 (cells32 64 (upto bs k))) := Lib.hid (by rw [← hwx]; exact (K1.out.drewN nq).drew)
        have HSX : Hid (wx.cell? ⟨w.heap.size + 1, k16, none⟩ = some (.int .u32 ((wd bs k16).toNat : Int)) ∧ wx.cell? ⟨w.heap.size + 1, k7, none⟩ = some (.int .u32 ((wd bs k7).toNat : Int)) ∧ wx.cell? ⟨w.heap.size + 1, k, none⟩ = some (.int .u32 ((upto bs k k).toNat : Int)) ∧ wx.frozen? ⟨w.heap.size + 1, k, none⟩ = false) := Lib.hid (by rw [← hwx]; exact ⟨e16, e7, ek, fk⟩)
        rw [hwx]
        clear hwx e15 e2 e16 e7 ek fk
        iterate 17
          refine seqL_read (v := ?_) rfl rfl ?_ ?_
          rotate_left 1
          · intro w hS
            go_simp
            with_reducible rfl
          simp only [Act.put, List.getElem_toArray, List.getElem_cons_zero, List.getElem_cons_succ, List.setIfInBounds_toArray, List.set_cons_zero, List.set_cons_succ]
        refine seqL_do rfl fun K hK => ?_
        go_simp
        refine (refrot17 _ _).mono ?_
        rintro e w9 ⟨rfl, rfl⟩
        refine hK _ _ HSX.out ?_
        clear hK K
        try simp only [Act.put, List.getElem_toArray, List.getElem_cons_zero, List.getElem_cons_succ, List.setIfInBounds_toArray, List.set_cons_zero, List.set_cons_succ]
        refine seqL_do rfl fun K hK => ?_
        go_simp
        refine (refrot19 _ _).mono ?_
        rintro e w9 ⟨rfl, rfl⟩
        refine hK _ _ HSX.out ?_
        clear hK K
        try simp only [Act.put, List.getElem_toArray, List.getElem_cons_zero, List.getElem_cons_succ, List.setIfInBounds_toArray, List.set_cons_zero, List.set_cons_succ]
        iterate 3
          refine seqL_read (v := ?_) rfl rfl ?_ ?_
          rotate_left 1
          · intro w hS
            go_simp
            with_reducible rfl
          simp only [Act.put, List.getElem_toArray, List.getElem_cons_zero, List.getElem_cons_succ, List.setIfInBounds_toArray, List.set_cons_zero, List.set_cons_succ]
        refine seqL_do rfl fun K hK => ?_
        go_simp
        refine (refrot7 _ _).mono ?_
        rintro e w9 ⟨rfl, rfl⟩
        refine hK _ _ HSX.out ?_
        clear hK K
        try simp only [Act.put, List.getElem_toArray, List.getElem_cons_zero, List.getElem_cons_succ, List.setIfInBounds_toArray, List.set_cons_zero, List.set_cons_succ]
        refine seqL_do rfl fun K hK => ?_
        go_simp
        refine (refrot18 _ _).mono ?_
        rintro e w9 ⟨rfl, rfl⟩
        refine hK _ _ HSX.out ?_
        clear hK K
        try simp only [Act.put, List.getElem_toArray, List.getElem_cons_zero, List.getElem_cons_succ, List.setIfInBounds_toArray, List.set_cons_zero, List.set_cons_succ]
        iterate 5
          refine seqL_read (v := ?_) rfl rfl ?_ ?_
          rotate_left 1
          · intro w hS
            go_simp
            with_reducible rfl
          simp only [Act.put, List.getElem_toArray, List.getElem_cons_zero, List.getElem_cons_succ, List.setIfInBounds_toArray, List.set_cons_zero, List.set_cons_succ]
        refine seqL_last rfl fun K hK => ?_
        have ek := HSX.out.2.2.1
        have fk := HSX.out.2.2.2
        go_simp
        have hv : IntKind.u32.wrap (IntKind.u32.wrap (IntKind.u32.wrap (((sig1 (wd bs k2)).toNat : Int) + ((wd bs k7).toNat : Int)) + ((sig0 (wd bs k15)).toNat : Int)) + ((wd bs k16).toNat : Int)) = ((wd bs k).toNat : Int) := by
          rw [u32_add', u32_add', u32_add', HD.out]
        rw [hv]
        refine hK _ _ ?_
        clear hK K
        go_wp2_with fail
        go_roundw
        case rel =>
          refine ⟨k + 1, by omega, by go_num, HBx.out.setCell (by simp) _, K0x.out.far (by simp) _, ?_⟩
          rw [← upto_next bs k _ rfl, ← cells32_set]
          exact K1x.out.set_ k _
        case measure => simp [intOf]; omega
    · have hk64 : k = 64 := by omega
      rw [hk64] at K1
      clear hk64
      go_upto_region 9 with (fail)
      refine wp_region_list ?_
      refine wpList_load_row rfl _ _ rfl (w.heap.size + 1) rfl _ (cells32 64 (upto bs 64)) (0, 0) _ K1.out Tryd.underlying61 rfl (by rw [cells32_size]; kernel_rfl) ?_
      refine wpList_store_row rfl _ _ _ rfl w.heap.size (cells32 64 (upto bs 64)) rfl rfl _ (cells32 64 (upto bs 0)) K0.out (by rw [cells32_size]; kernel_rfl) (by rw [cells32_size, cells32_size]) (cells32_one _ _) ?_
      refine wpList_nil ?_
      have hb9 : Below w.heap.size w (wr.setRow w.heap.size (cells32 64 (upto bs 64))) := below_setRow HB.out (Nat.le_refl _) _
      have k9 : Blk (wr.setRow w.heap.size (cells32 64 (upto bs 64))) w.heap.size 61 (cells32 64 (upto bs 64)) := setRow_heap _ _ _ _ _ _ K0.out
      obtain ⟨w9, hw9⟩ : ∃ w9, wr.setRow w.heap.size (cells32 64 (upto bs 64)) = w9 := ⟨_, rfl⟩
      rw [hw9] at hb9 k9 ⊢
      clear hw9
      have HB9 := Lib.hid hb9
      have K9 := Lib.hid k9
      clear hb9 k9
      simp only [Act.put]
      go_wp2_with fail
      refine bodyPost_ret (results_cell_row rfl _ _ w.heap.size _ _ _ _ rfl K9.out Tryd.underlying61 rfl (by rw [cells32_size]; kernel_rfl)) rfl ?_
      exact ⟨rfl, HB9.out⟩
end Go.Proofs.YtofdjlngohhlmaaDoor
