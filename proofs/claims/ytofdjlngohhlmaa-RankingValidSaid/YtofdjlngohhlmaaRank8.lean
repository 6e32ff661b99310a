/- The law RankingValid: a ranking has each candidate at most once, and only candidates that are marked at some rank. -/
import Derived.Test.YtofdjlngohhlmaaRank5
namespace Go.Proofs.Ytofdjlngohhlmaa
open Go.RowKit

theorem valid_step1 {row : List Int} {x z : Int} {y : Nat} {p : Prop} (hz : row[y]? = some z) (h : false = true ↔ (p ∨ x ∈ row.take y)) : (z == x) = true ↔ (p ∨ x ∈ row.take (y + 1)) := by
  rw [take_snoc hz, List.mem_append, ← or_assoc, ← h]
  simp
  exact eq_comm
theorem valid_step2 {row : List Int} {x z : Int} {y : Nat} {p : Prop} (hz : row[y]? = some z) (h : true = true ↔ (p ∨ x ∈ row.take y)) : true = true ↔ (p ∨ x ∈ row.take (y + 1)) := by
  rw [take_snoc hz, List.mem_append, ← or_assoc]
  exact ⟨fun _ => .inl (h.1 rfl), fun _ => rfl⟩
theorem valid_step3 {rows : List (List Int)} {row : List Int} {x : Int} {y j : Nat} {hb : Bool} (hr : rows[j]? = some row) (hy : row.take y = row) (h : hb = true ↔ ((∃ l ∈ rows.take j, x ∈ l) ∨ x ∈ row.take y)) : hb = true ↔ ∃ l ∈ rows.take (j + 1), x ∈ l := by
  rw [take_snoc hr, h, hy]
  constructor
  · rintro (⟨l, h1, h2⟩ | h1)
    · exact ⟨l, by simp [h1], h2⟩
    · exact ⟨row, by simp, h1⟩
  · rintro ⟨l, h1, h2⟩
    rw [List.mem_append, List.mem_singleton] at h1
    rcases h1 with h1 | rfl
    · exact .inl ⟨l, h1, h2⟩
    · exact .inr h2

set_option maxRecDepth 100000 in
set_option maxHeartbeats 4000000 in
theorem lawValid_any {S : Nat → Prop} (nm : ByteArray) (A A2 : Option Addr) (n c n2 c2 : Nat) (me se ra di ti ov sk co : Int) (xss : List (List Int)) (w : World)
    (h1 : RS w S A2 n2 c2 xss) (hS : ∀ b, S b → b < w.heap.size) (hc : n ≤ c) :
    Calls Try.prog 4 #[.agg #[.string nm, .slice A n c, .int .i64 me, .int .i64 se, .int .i64 ra, .int .i64 di, .int .i64 ti, .int .i64 ov, .int .i64 sk], .agg #[.int .i64 co, .slice A2 n2 c2]] w (RetV w (.bool true)) := by
  obtain ⟨w2, hw2⟩ : ∃ w2, w2 = (w.alloc (.cells #[.string nm, .slice A n c, .int .i64 me, .int .i64 se, .int .i64 ra, .int .i64 di, .int .i64 ti, .int .i64 ov, .int .i64 sk] 24)).alloc (.cells #[.int .i64 co, .slice A2 n2 c2] 27) := ⟨_, rfl⟩
  have hB2 : Below w.heap.size w w2 := by rw [hw2]; exact ((Below.refl _ _).alloc (Nat.le_refl _) _).alloc (by simp) _
  have hz2 : w2.heap.size = w.heap.size + 2 := by rw [hw2]; simp
  have b0 : Blk w2 w.heap.size 24 #[.string nm, .slice A n c, .int .i64 me, .int .i64 se, .int .i64 ra, .int .i64 di, .int .i64 ti, .int .i64 ov, .int .i64 sk] := by rw [hw2]; exact (Blk.new' rfl _ _).alloc _
  have b1 : Blk w2 (w.heap.size + 1) 27 #[.int .i64 co, .slice A2 n2 c2] := by rw [hw2]; exact (Blk.new' (by simp) _ _)
  have H1 := Lib.hid (h1.below hB2 hS); clear h1
  have HW := Lib.hid hw2; clear hw2
  have HZ2 := Lib.hid hz2; clear hz2
  have HB2 := Lib.hid hB2
  have hS2 := Lib.hid (fun b h => Nat.lt_of_lt_of_le (hS b h) hB2.size : ∀ b, S b → b < w2.heap.size)
  have hS0 := Lib.hid hS
  clear hB2 hS
  have K0 := Lib.hid b0
  have K1 := Lib.hid b1
  have e0 : w2.cell? ⟨w.heap.size, 0, none⟩ = some (.string nm) := b0.cell 0
  have e1 : w2.cell? ⟨w.heap.size, 1, none⟩ = some (.slice A n c) := b0.cell 1
  have e2 : w2.cell? ⟨w.heap.size, 2, none⟩ = some (.int .i64 me) := b0.cell 2
  have e3 : w2.cell? ⟨w.heap.size, 3, none⟩ = some (.int .i64 se) := b0.cell 3
  have e4 : w2.cell? ⟨w.heap.size, 4, none⟩ = some (.int .i64 ra) := b0.cell 4
  have e5 : w2.cell? ⟨w.heap.size, 5, none⟩ = some (.int .i64 di) := b0.cell 5
  have e6 : w2.cell? ⟨w.heap.size, 6, none⟩ = some (.int .i64 ti) := b0.cell 6
  have e7 : w2.cell? ⟨w.heap.size, 7, none⟩ = some (.int .i64 ov) := b0.cell 7
  have e8 : w2.cell? ⟨w.heap.size, 8, none⟩ = some (.int .i64 sk) := b0.cell 8
  have g0 : w2.cell? ⟨w.heap.size + 1, 0, none⟩ = some (.int .i64 co) := b1.cell 0
  have g1 : w2.cell? ⟨w.heap.size + 1, 1, none⟩ = some (.slice A2 n2 c2) := b1.cell 1
  clear b0 b1
  go_enter Try.func4, Try.ntmps4
  go_upto_region 1 with (fail)
  rw [← HW.out]
  go_wp2_with fail
  refine (short_any nm A A2 n c n2 c2 me se ra di ti ov sk co xss _ H1.out hS2.out hc).mono ?_
  rintro e w3 ⟨A3, n3, c3, rfl, hr, hb⟩
  have k0 := K0.out.keep hb
  have k1 := K1.out.keep hb
  have p0 := keepc hb e0
  have p1 := keepc hb e1
  have p2 := keepc hb e2
  have p3 := keepc hb e3
  have p4 := keepc hb e4
  have p5 := keepc hb e5
  have p6 := keepc hb e6
  have p7 := keepc hb e7
  have p8 := keepc hb e8
  have q0 := keepc hb g0
  have q1 := keepc hb g1
  have r0 : ∀ i, w3.frozen? ⟨w.heap.size, i, none⟩ = false := fun i => k0.frozen i
  have r1 : ∀ i, w3.frozen? ⟨w.heap.size + 1, i, none⟩ = false := fun i => k1.frozen i
  have K0' := Lib.hid k0
  have K1' := Lib.hid k1
  have HB3 := Lib.hid (below_more HB2.out hb)
  have HR := Lib.hid hr
  have HB3z := Lib.hid hb.size
  clear hb hr k0 k1 e0 e1 e2 e3 e4 e5 e6 e7 e8 g0 g1
  go_upto_region 2 with (fail)
  refine name_world ?_
  intro W hW
  have b0 : Blk W w.heap.size 24 #[.string nm, .slice A (min n 7) c, .int .i64 me, .int .i64 se, .int .i64 (min ra 7), .int .i64 di, .int .i64 ti, .int .i64 ov, .int .i64 sk] := by
    rw [hW]
    refine Blk.far (Blk.far ?_ (by simp) _) (by simp) _
    exact Blk.setAll [_, _, _, _, _, _, _, _, _] K0'.out rfl
  have b1 : Blk W (w.heap.size + 1) 27 #[.int .i64 co, .slice A3 n3 c3] := by
    rw [hW]
    refine Blk.setAll [_, _] (cs := #[.int .i64 co, .slice A2 n2 c2]) ?_ rfl
    iterate 9 refine Blk.far ?_ (by simp) _
    exact K1'.out
  have hBW : Below w.heap.size w W := by
    rw [hW]
    iterate 11 refine Below.setCell ?_ (by simp) _
    exact HB3.out
  have hzW : W.heap.size = w3.heap.size := by rw [hW]; simp
  have hrW : RS W (fun b => b < W.heap.size ∧ b ≠ w.heap.size ∧ b ≠ w.heap.size + 1) A3 n3 c3 ((xss.take 8).map (·.take 9)) := by
    have hne : ∀ b, (S b ∨ Fresh w2 w3 b) → b ≠ w.heap.size ∧ b ≠ w.heap.size + 1 := by
      have hz2 := HZ2.out
      rintro b (hb | hb)
      · have := hS0.out b hb; omega
      · have := hb.1; omega
    refine HR.out.keep (fun b hb => ⟨?_, hne b hb⟩) ?_
    · rcases hb with hb | hb
      · exact Nat.lt_of_lt_of_le (hS2.out b hb) (by rw [hzW]; exact HB3z.out)
      · rw [hzW]; exact hb.2
    · rw [hW]
      iterate 11 refine Keeps.setCell ?_ (fun h => by have := hne _ h; simp at this) _
      exact Keeps.refl _ _
  have hzW2 : w.heap.size + 2 ≤ W.heap.size := by have := HZ2.out; have := HB3z.out; omega
  have HZW := Lib.hid hzW2
  have HW3 := Lib.hid hW
  clear hW hzW hzW2 p0 p1 p2 p3 p4 p5 p6 p7 p8 q0 q1 r0 r1
  have HBW := Lib.hid hBW; clear hBW
  have HRW := Lib.hid hrW; clear hrW
  have hl3 := Lib.hid HRW.out.len
  have hn3 := Lib.hid (show n3 ≤ 8 by rw [← hl3.out]; simp; omega)
  have hrows' := Lib.hid (show ∀ l ∈ (xss.take 8).map (·.take 9), l.length ≤ 1073741824 by intro l hl; obtain ⟨x, _, rfl⟩ := List.mem_map.1 hl; simp; omega)
  obtain ⟨rows, hrowsE⟩ : ∃ r, r = (xss.take 8).map (·.take 9) := ⟨_, rfl⟩
  obtain ⟨q, hqE⟩ : ∃ q, q = min n 7 := ⟨_, rfl⟩
  obtain ⟨r7, hr7E⟩ : ∃ r, r = min ra 7 := ⟨_, rfl⟩
  rw [← hrowsE] at HRW hl3 hrows'
  rw [← hqE, ← hr7E] at b0
  have hrows := hrows'
  clear hrows'
  have hq7 : q ≤ 7 := by omega
  have hr77 : r7 ≤ 7 := by omega
  have HQE := Lib.hid hqE
  have HR7E := Lib.hid hr7E
  have HROWS := Lib.hid hrowsE
  clear hqE hr7E hrowsE
  have e0 : W.cell? ⟨w.heap.size, 0, none⟩ = some (.string nm) := b0.cell 0
  have e1 : W.cell? ⟨w.heap.size, 1, none⟩ = some (.slice A q c) := b0.cell 1
  have e2 : W.cell? ⟨w.heap.size, 2, none⟩ = some (.int .i64 me) := b0.cell 2
  have e3 : W.cell? ⟨w.heap.size, 3, none⟩ = some (.int .i64 se) := b0.cell 3
  have e4 : W.cell? ⟨w.heap.size, 4, none⟩ = some (.int .i64 r7) := b0.cell 4
  have e5 : W.cell? ⟨w.heap.size, 5, none⟩ = some (.int .i64 di) := b0.cell 5
  have e6 : W.cell? ⟨w.heap.size, 6, none⟩ = some (.int .i64 ti) := b0.cell 6
  have e7 : W.cell? ⟨w.heap.size, 7, none⟩ = some (.int .i64 ov) := b0.cell 7
  have e8 : W.cell? ⟨w.heap.size, 8, none⟩ = some (.int .i64 sk) := b0.cell 8
  have g0 : W.cell? ⟨w.heap.size + 1, 0, none⟩ = some (.int .i64 co) := b1.cell 0
  have g1 : W.cell? ⟨w.heap.size + 1, 1, none⟩ = some (.slice A3 n3 c3) := b1.cell 1
  go_wp2_with fail
  refine (prefs_any (S := fun b => b < W.heap.size ∧ b ≠ w.heap.size ∧ b ≠ w.heap.size + 1) _ _ _ _ _ _ _ _ _ _ _ _ _ _ _ rows _ HRW.out (fun b h => h.1) (by have := hn3.out; omega) hrows.out).mono ?_
  rintro e w4 ⟨A4, n4, c4, rfl, hr4, hb4⟩
  have e1' := keepc hb4 e1
  have g1' := keepc hb4 g1
  have hinv := prefsF_inv ov sk r7 q rows
  obtain ⟨l, hlE⟩ : ∃ l, l = prefsF ov sk r7 q rows := ⟨_, rfl⟩
  rw [← hlE] at hr4 hinv
  have HI := Lib.hid hinv
  have HRW4 := Lib.hid (HRW.out.below hb4 (fun b h => h.1))
  have HR4 := Lib.hid hr4
  have HB4 := Lib.hid (HBW.out.trans (hb4.mono HBW.out.size))
  have hl4 := Lib.hid hr4.len
  have hn4 := hr4.max
  clear e0 e1 e2 e3 e4 e5 e6 e7 e8 g0 g1 b0 b1 hb4 hr4 hinv hlE
  go_wp2
  go_loopw [23] (fun i wr => ∃ k m : Nat, k ≤ n4 ∧ i = .int .i64 k ∧ wr = w4.drewN m) (fun i _ => n4 - (intOf i).toNat)
  case atStart => exact ⟨0, 0, Nat.zero_le _, rfl, rfl⟩
  case round =>
    obtain ⟨k, m, hk, rfl, rfl⟩ := hrel
    by_cases hlt : k < n4
    · obtain ⟨b, o, x, rfl, _, hx0, f1⟩ := HR4.out.int_at hlt
      have hx := Lib.hid hx0; clear hx0
      have hxl := HI.out.2 x (List.mem_of_getElem? hx.out)
      obtain ⟨⟨hx1, hx2⟩, hx3⟩ := hxl
      have HX3 := Lib.hid hx3; clear hx3
      have hge : decide (x < 0) = false := by simp; omega
      have hlt2 : x < (q : Int) := hx2
      go_wp2_with fail
      go_quiet (fail)
      go_wp2
      go_loopw [7] (fun i wr => ∃ j m : Nat, j ≤ k ∧ i = .int .i64 j ∧ wr = w4.drewN m) (fun i _ => k - (intOf i).toNat)
      case atStart => exact ⟨0, _, Nat.zero_le _, rfl, World.drewN_drewN _ _ _⟩
      case round =>
        obtain ⟨j, m, hj, rfl, rfl⟩ := hrel
        by_cases hjk : j < k
        · obtain ⟨b', o', y, hA, _, hy0, f2⟩ := HR4.out.int_at (Nat.lt_trans hjk hlt)
          injection hA with hA
          injection hA with hA1 hA2 _
          subst hA1 hA2
          have hy := Lib.hid hy0; clear hy0
          have hne : (y == x) = false := by
            have hnd := HI.out.1
            simp
            rintro rfl
            have := (List.getElem?_inj (lt_of_get hy.out) hnd).1 (hy.out.trans hx.out.symm)
            omega
          go_wp2_with fail
          go_quiet (fail)
          go_wp2
          go_roundw
          case rel => exact ⟨j + 1, _, by omega, by go_num, rfl⟩
          case measure => simp [intOf]; omega
        · go_wp2
          go_loopw [8, 9, 11, 58, 61, 62, 63, 64, 65, 66, 67] (fun t _ _ i _ _ _ _ _ _ _ wr => ∃ (hb : Bool) (j : Nat), t = .bool hb ∧ j ≤ n3 ∧ i = .int .i64 j ∧ wr = w4.drewN m ∧ (hb = true ↔ ∃ l ∈ rows.take j, x ∈ l)) (fun _ _ _ i _ _ _ _ _ _ _ _ => n3 - (intOf i).toNat)
          case atStart => exact ⟨false, 0, rfl, Nat.zero_le _, rfl, rfl, by simp⟩
          case round =>
            obtain ⟨hb, j, rfl, hj, rfl, rfl, hiff⟩ := hrel
            have HI2 := Lib.hid hiff; clear hiff
            have hn38 := hn3.out
            by_cases hj3 : j < n3
            · obtain ⟨b2, o2, row, A5, n5, c5, hA3, _, hrow0, f2, hrs5⟩ := HRW4.out.row_at hj3
              subst hA3
              have hrow := Lib.hid hrow0; clear hrow0
              have HR5 := Lib.hid hrs5; clear hrs5
              have hl5 := Lib.hid HR5.out.len
              have hn5 := HR5.out.max
              go_wp2
              go_loopw [8, 11, 67] (fun t _ i wr => ∃ (hb : Bool) (y : Nat), t = .bool hb ∧ y ≤ n5 ∧ i = .int .i64 y ∧ wr = w4.drewN m ∧ (hb = true ↔ ((∃ l ∈ rows.take j, x ∈ l) ∨ x ∈ row.take y))) (fun _ _ i _ => n5 - (intOf i).toNat)
              case atStart => exact ⟨hb, 0, rfl, Nat.zero_le _, rfl, rfl, by have := HI2.out; simpa using this⟩
              case round =>
                obtain ⟨hb2, y, rfl, hy, rfl, rfl, hiff2⟩ := hrel
                have HI3 := Lib.hid hiff2; clear hiff2
                by_cases hy5 : y < n5
                · obtain ⟨b5, o5, z, rfl, _, hz0, f3⟩ := HR5.out.int_at hy5
                  have hz := Lib.hid hz0; clear hz0
                  cases hb2
                  · go_wp2
                    go_roundw
                    case rel => exact ⟨(z == x), y + 1, rfl, by omega, by go_num, by trivial, valid_step1 hz.out HI3.out⟩
                    case measure => simp [intOf]; omega
                  · go_wp2
                    go_roundw
                    case rel => exact ⟨true, y + 1, rfl, by omega, by go_num, by trivial, valid_step2 hz.out (by have := HI3.out; simpa using this)⟩
                    case measure => simp [intOf]; omega
                · have hye := Lib.hid (show row.take y = row from List.take_of_length_le (by rw [hl5.out]; omega))
                  go_wp2
                  go_roundw
                  case rel => exact ⟨hb2, j + 1, rfl, by omega, by go_num, by trivial, valid_step3 hrow.out hye.out HI3.out⟩
                  case measure => simp [intOf]; omega
            · have ht : hb = true := by
                rw [HI2.out]
                obtain ⟨l', hl', hxl'⟩ := HX3.out
                exact ⟨l', by rw [List.take_of_length_le (by rw [hl3.out]; omega)]; exact hl', hxl'⟩
              subst ht
              go_wp2
              go_roundw
              case rel => exact ⟨k + 1, m, by omega, by go_num, rfl⟩
              case measure => simp [intOf]; omega
    · go_wp2_with fail
      refine (awake_any _).mono ?_
      rintro e w5 ⟨rfl, hb5⟩
      have HB5 := Lib.hid ((below_drewN HB4.out m).trans (hb5.mono (HB4.out.size)))
      clear hb5
      go_wp2
      go_ret
      exact ⟨rfl, HB5.out⟩
end Go.Proofs.Ytofdjlngohhlmaa
