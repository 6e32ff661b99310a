/- The law RankingPrefs: both Prefs agree on the shortened contest and vote. -/
import Derived.Test.YtofdjlngohhlmaaRank5
namespace Go.Proofs.Ytofdjlngohhlmaa
open Go.RowKit

set_option maxRecDepth 100000 in
set_option maxHeartbeats 4000000 in
theorem lawPrefs_any {S : Nat → Prop} (nm : ByteArray) (A A2 : Option Addr) (n c n2 c2 : Nat) (me se ra di ti ov sk co : Int) (xss : List (List Int)) (w : World)
    (h1 : RS w S A2 n2 c2 xss) (hS : ∀ b, S b → b < w.heap.size) (hc : n ≤ c) :
    Calls Try.prog 3 #[.agg #[.string nm, .slice A n c, .int .i64 me, .int .i64 se, .int .i64 ra, .int .i64 di, .int .i64 ti, .int .i64 ov, .int .i64 sk], .agg #[.int .i64 co, .slice A2 n2 c2]] w (RetV w (.bool true)) := by
  obtain ⟨w2, hw2⟩ : ∃ w2, w2 = (w.alloc (.cells #[.string nm, .slice A n c, .int .i64 me, .int .i64 se, .int .i64 ra, .int .i64 di, .int .i64 ti, .int .i64 ov, .int .i64 sk] 24)).alloc (.cells #[.int .i64 co, .slice A2 n2 c2] 27) := ⟨_, rfl⟩
  have hB2 : Below w.heap.size w w2 := by rw [hw2]; exact ((Below.refl _ _).alloc (Nat.le_refl _) _).alloc (by simp) _
  have b0 : Blk w2 w.heap.size 24 #[.string nm, .slice A n c, .int .i64 me, .int .i64 se, .int .i64 ra, .int .i64 di, .int .i64 ti, .int .i64 ov, .int .i64 sk] := by rw [hw2]; exact (Blk.new' rfl _ _).alloc _
  have b1 : Blk w2 (w.heap.size + 1) 27 #[.int .i64 co, .slice A2 n2 c2] := by rw [hw2]; exact (Blk.new' (by simp) _ _)
  have H1 := Lib.hid (h1.below hB2 hS); clear h1
  have HW := Lib.hid hw2; clear hw2
  have HB2 := Lib.hid hB2
  have hS2 := Lib.hid (fun b h => Nat.lt_of_lt_of_le (hS b h) hB2.size : ∀ b, S b → b < w2.heap.size)
  have hS0 := hS
  clear hB2 hS
  have K0 := Lib.hid b0
  have K1 := Lib.hid b1
  have e0 : w2.cell? ⟨w.heap.size, 0, none⟩ = some (.string nm) := b0.cell 0
  have e1 : w2.cell? ⟨w.heap.size, 1, none⟩ = some (.slice A n c) := b0.cell 1
  have e2 : w2.cell? ⟨w.heap.size, 2, none⟩ = some (.int .i64 me) := b0.cell 2
  have e3 : w2.cell? ⟨w.heap.size, 3, none⟩ = some (.int .i64 se) := b0.cell 3
  have e4 : w2.cell? ⟨w.heap.size, 4, none⟩ = some (.int .i64 ra) := b0.cell 4
  have e5 : w2.cell? ⟨w.heap.size, 5, none⟩ = some (.int .i64 di) := b0.cell 5
  have e6 : w2.cell? ⟨w.heap.size, 6, none⟩ = some (.int .i64 ti) := b0.cell 6
  have e7 : w2.cell? ⟨w.heap.size, 7, none⟩ = some (.int .i64 ov) := b0.cell 7
  have e8 : w2.cell? ⟨w.heap.size, 8, none⟩ = some (.int .i64 sk) := b0.cell 8
  have g0 : w2.cell? ⟨w.heap.size + 1, 0, none⟩ = some (.int .i64 co) := b1.cell 0
  have g1 : w2.cell? ⟨w.heap.size + 1, 1, none⟩ = some (.slice A2 n2 c2) := b1.cell 1
  clear b0 b1
  go_enter Try.func3, Try.ntmps3
  go_upto_region 1 with (fail)
  rw [← HW.out]
  go_wp2_with fail
  refine (short_any nm A A2 n c n2 c2 me se ra di ti ov sk co xss _ H1.out hS2.out hc).mono ?_
  rintro e w3 ⟨A3, n3, c3, rfl, hr, hb⟩
  have k0 := K0.out.keep hb
  have k1 := K1.out.keep hb
  have p0 := keepc hb e0
  have p1 := keepc hb e1
  have p2 := keepc hb e2
  have p3 := keepc hb e3
  have p4 := keepc hb e4
  have p5 := keepc hb e5
  have p6 := keepc hb e6
  have p7 := keepc hb e7
  have p8 := keepc hb e8
  have q0 := keepc hb g0
  have q1 := keepc hb g1
  have r0 : ∀ i, w3.frozen? ⟨w.heap.size, i, none⟩ = false := fun i => k0.frozen i
  have r1 : ∀ i, w3.frozen? ⟨w.heap.size + 1, i, none⟩ = false := fun i => k1.frozen i
  have K0' := Lib.hid k0
  have K1' := Lib.hid k1
  have HB3 := Lib.hid (below_more HB2.out hb)
  have HR := Lib.hid hr
  have HB3z := hb.size
  clear hb hr k0 k1 e0 e1 e2 e3 e4 e5 e6 e7 e8 g0 g1
  go_upto_region 2 with (fail)
  refine name_world ?_
  intro W hW
  have b0 : Blk W w.heap.size 24 #[.string nm, .slice A (min n 7) c, .int .i64 me, .int .i64 se, .int .i64 (min ra 7), .int .i64 di, .int .i64 ti, .int .i64 ov, .int .i64 sk] := by
    rw [hW]
    refine Blk.far (Blk.far ?_ (by simp) _) (by simp) _
    exact Blk.setAll [_, _, _, _, _, _, _, _, _] K0'.out rfl
  have b1 : Blk W (w.heap.size + 1) 27 #[.int .i64 co, .slice A3 n3 c3] := by
    rw [hW]
    refine Blk.setAll [_, _] (cs := #[.int .i64 co, .slice A2 n2 c2]) ?_ rfl
    iterate 9 refine Blk.far ?_ (by simp) _
    exact K1'.out
  have hBW : Below w.heap.size w W := by
    rw [hW]
    iterate 11 refine Below.setCell ?_ (by simp) _
    exact HB3.out
  have hzW : W.heap.size = w3.heap.size := by rw [hW]; simp
  have hrW : RS W (fun b => b < W.heap.size) A3 n3 c3 ((xss.take 8).map (·.take 9)) := by
    have hz2 : w2.heap.size = w.heap.size + 2 := by rw [HW.out]; simp
    refine HR.out.keep (fun b hb => ?_) ?_
    · rcases hb with hb | hb
      · exact Nat.lt_of_lt_of_le (hS2.out b hb) (by rw [hzW]; exact HB3z)
      · rw [hzW]; exact hb.2
    · rw [hW]
      have hne : ∀ b, (S b ∨ Fresh w2 w3 b) → b ≠ w.heap.size ∧ b ≠ w.heap.size + 1 := by
        rintro b (hb | hb)
        · have := hS0 b hb; omega
        · have := hb.1; omega
      iterate 11 refine Keeps.setCell ?_ (fun h => by have := hne _ h; simp at this) _
      exact Keeps.refl _ _
  have HW3 := Lib.hid hW
  clear hW p0 p1 p2 p3 p4 p5 p6 p7 p8 q0 q1 r0 r1
  have HBW := Lib.hid hBW; clear hBW
  have HRW := Lib.hid hrW; clear hrW
  have e0 : W.cell? ⟨w.heap.size, 0, none⟩ = some (.string nm) := b0.cell 0
  have e1 : W.cell? ⟨w.heap.size, 1, none⟩ = some (.slice A (min n 7) c) := b0.cell 1
  have e2 : W.cell? ⟨w.heap.size, 2, none⟩ = some (.int .i64 me) := b0.cell 2
  have e3 : W.cell? ⟨w.heap.size, 3, none⟩ = some (.int .i64 se) := b0.cell 3
  have e4 : W.cell? ⟨w.heap.size, 4, none⟩ = some (.int .i64 (min ra 7)) := b0.cell 4
  have e5 : W.cell? ⟨w.heap.size, 5, none⟩ = some (.int .i64 di) := b0.cell 5
  have e6 : W.cell? ⟨w.heap.size, 6, none⟩ = some (.int .i64 ti) := b0.cell 6
  have e7 : W.cell? ⟨w.heap.size, 7, none⟩ = some (.int .i64 ov) := b0.cell 7
  have e8 : W.cell? ⟨w.heap.size, 8, none⟩ = some (.int .i64 sk) := b0.cell 8
  have g0 : W.cell? ⟨w.heap.size + 1, 0, none⟩ = some (.int .i64 co) := b1.cell 0
  have g1 : W.cell? ⟨w.heap.size + 1, 1, none⟩ = some (.slice A3 n3 c3) := b1.cell 1
  clear b0 b1
  have hl3 := HRW.out.len
  have hn3 := Lib.hid (show n3 ≤ 1073741824 by rw [← hl3]; simp; omega)
  have hrows := Lib.hid (show ∀ l ∈ (xss.take 8).map (·.take 9), l.length ≤ 1073741824 by intro l hl; obtain ⟨x, _, rfl⟩ := List.mem_map.1 hl; simp; omega)
  clear hl3
  go_region_held3 (fun w' => w'.cell? ⟨w.heap.size, 0, none⟩ = some (.string nm) ∧ w'.cell? ⟨w.heap.size, 1, none⟩ = some (.slice A (min n 7) c) ∧ w'.cell? ⟨w.heap.size, 2, none⟩ = some (.int .i64 me) ∧ w'.cell? ⟨w.heap.size, 3, none⟩ = some (.int .i64 se) ∧ w'.cell? ⟨w.heap.size, 4, none⟩ = some (.int .i64 (min ra 7)) ∧ w'.cell? ⟨w.heap.size, 5, none⟩ = some (.int .i64 di) ∧ w'.cell? ⟨w.heap.size, 6, none⟩ = some (.int .i64 ti) ∧ w'.cell? ⟨w.heap.size, 7, none⟩ = some (.int .i64 ov) ∧ w'.cell? ⟨w.heap.size, 8, none⟩ = some (.int .i64 sk) ∧ w'.cell? ⟨w.heap.size + 1, 0, none⟩ = some (.int .i64 co) ∧ w'.cell? ⟨w.heap.size + 1, 1, none⟩ = some (.slice A3 n3 c3))
    (first | go_keep | (go_split_ands; exact ⟨keepc hbl (by assumption), keepc hbl (by assumption), keepc hbl (by assumption), keepc hbl (by assumption), keepc hbl (by assumption), keepc hbl (by assumption), keepc hbl (by assumption), keepc hbl (by assumption), keepc hbl (by assumption), keepc hbl (by assumption), keepc hbl (by assumption)⟩))
    (first
      | (go_at_call 9; refine (awake_any _).mono ?_; rintro e w4 ⟨rfl, hbl⟩; have hb4 := Lib.hid hbl)
      | (go_at_call 11; refine (prefs_any (S := fun b => b < W.heap.size) _ _ _ _ _ _ _ _ _ _ _ _ _ _ _ _ _ (HRW.out.drew.below hb4.out (fun _ h => h)) (fun b h => Nat.lt_of_lt_of_le h hb4.out.size) hn3.out hrows.out).mono ?_; rintro e w5 ⟨A5, n5, c5, rfl, hr5, hbl⟩; have hb5 := Lib.hid hbl; have HR5 := Lib.hid hr5; clear hr5)
      | (go_at_call 12; refine (refPrefs_any (S := fun b => b < W.heap.size) _ _ _ _ _ _ _ _ _ _ _ _ _ _ _ _ _ ((HRW.out.drew.below hb4.out (fun _ h => h)).below hb5.out (fun b h => Nat.lt_of_lt_of_le h hb4.out.size)) (fun b h => Nat.lt_of_lt_of_le h (Nat.le_trans hb4.out.size hb5.out.size)) (by omega)).mono ?_; rintro e w6 ⟨A6, n6, c6, rfl, hr6, hbl⟩; have hb6 := Lib.hid hbl; have HR6 := Lib.hid hr6; clear hr6)
      | (go_at_call 10; refine (eq_any _ _ _ _ _ _ _ _ _ (HR5.out.below hb6.out (fun b h => h.2)) HR6.out).mono ?_; rintro e w7 ⟨rfl, m, rfl⟩))
  go_wp2
  go_ret
  refine ⟨ret_of (by simp [prefs_agree]), ?_⟩
  exact below_drewN ((HBW.out.drew.trans (hb4.out.mono HBW.out.size)).trans ((hb5.out.mono (Nat.le_trans HBW.out.size hb4.out.size)).trans (hb6.out.mono (Nat.le_trans (Nat.le_trans HBW.out.size hb4.out.size) hb5.out.size)))) _
end Go.Proofs.Ytofdjlngohhlmaa
