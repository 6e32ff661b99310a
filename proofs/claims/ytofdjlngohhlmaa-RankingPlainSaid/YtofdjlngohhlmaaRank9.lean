/- The law RankingStrict: a stricter rule for blank ranks yields a shorter ranking that begins the other. -/
import Derived.Test.YtofdjlngohhlmaaRank5
namespace Go.Proofs.Ytofdjlngohhlmaa
open Go.RowKit

theorem eq_yes {S S2 : Nat → Prop} (A A2 : Option Addr) (n n2 c c2 : Nat) (xs ys : List Int) (w : World) (h1 : RS w S A n c xs) (h2 : RS w S2 A2 n2 c2 ys) (he : xs = ys) :
    Calls Try.prog 10 #[.slice A n c, .slice A2 n2 c2] w (RetQ w (.bool true)) := by
  have := eq_any A A2 n n2 c c2 xs ys w h1 h2
  rw [decide_eq_true he] at this
  exact this

set_option maxRecDepth 100000 in
set_option maxHeartbeats 4000000 in
theorem lawStrict_any {S : Nat → Prop} (nm : ByteArray) (A A2 : Option Addr) (n c n2 c2 : Nat) (me se ra di ti ov sk co : Int) (xss : List (List Int)) (w : World)
    (h1 : RS w S A2 n2 c2 xss) (hS : ∀ b, S b → b < w.heap.size) (hc : n ≤ c) :
    Calls Try.prog 6 #[.agg #[.string nm, .slice A n c, .int .i64 me, .int .i64 se, .int .i64 ra, .int .i64 di, .int .i64 ti, .int .i64 ov, .int .i64 sk], .agg #[.int .i64 co, .slice A2 n2 c2]] w (RetV w (.bool true)) := by
  obtain ⟨w2, hw2⟩ : ∃ w2, w2 = (w.alloc (.cells #[.string nm, .slice A n c, .int .i64 me, .int .i64 se, .int .i64 ra, .int .i64 di, .int .i64 ti, .int .i64 ov, .int .i64 sk] 24)).alloc (.cells #[.int .i64 co, .slice A2 n2 c2] 27) := ⟨_, rfl⟩
  have hB2 : Below w.heap.size w w2 := by rw [hw2]; exact ((Below.refl _ _).alloc (Nat.le_refl _) _).alloc (by simp) _
  have hz2 : w2.heap.size = w.heap.size + 2 := by rw [hw2]; simp
  have b0 : Blk w2 w.heap.size 24 #[.string nm, .slice A n c, .int .i64 me, .int .i64 se, .int .i64 ra, .int .i64 di, .int .i64 ti, .int .i64 ov, .int .i64 sk] := by rw [hw2]; exact (Blk.new' rfl _ _).alloc _
  have b1 : Blk w2 (w.heap.size + 1) 27 #[.int .i64 co, .slice A2 n2 c2] := by rw [hw2]; exact (Blk.new' (by simp) _ _)
  have H1 := Lib.hid (h1.below hB2 hS); clear h1
  have HW := Lib.hid hw2; clear hw2
  have HZ2 := Lib.hid hz2; clear hz2
  have HB2 := Lib.hid hB2
  have hS2 := Lib.hid (fun b h => Nat.lt_of_lt_of_le (hS b h) hB2.size : ∀ b, S b → b < w2.heap.size)
  have hS0 := Lib.hid hS
  clear hB2 hS
  have K0 := Lib.hid b0
  have K1 := Lib.hid b1
  have e0 : w2.cell? ⟨w.heap.size, 0, none⟩ = some (.string nm) := b0.cell 0
  have e1 : w2.cell? ⟨w.heap.size, 1, none⟩ = some (.slice A n c) := b0.cell 1
  have e2 : w2.cell? ⟨w.heap.size, 2, none⟩ = some (.int .i64 me) := b0.cell 2
  have e3 : w2.cell? ⟨w.heap.size, 3, none⟩ = some (.int .i64 se) := b0.cell 3
  have e4 : w2.cell? ⟨w.heap.size, 4, none⟩ = some (.int .i64 ra) := b0.cell 4
  have e5 : w2.cell? ⟨w.heap.size, 5, none⟩ = some (.int .i64 di) := b0.cell 5
  have e6 : w2.cell? ⟨w.heap.size, 6, none⟩ = some (.int .i64 ti) := b0.cell 6
  have e7 : w2.cell? ⟨w.heap.size, 7, none⟩ = some (.int .i64 ov) := b0.cell 7
  have e8 : w2.cell? ⟨w.heap.size, 8, none⟩ = some (.int .i64 sk) := b0.cell 8
  have g0 : w2.cell? ⟨w.heap.size + 1, 0, none⟩ = some (.int .i64 co) := b1.cell 0
  have g1 : w2.cell? ⟨w.heap.size + 1, 1, none⟩ = some (.slice A2 n2 c2) := b1.cell 1
  clear b0 b1
  go_enter Try.func6, Try.ntmps6
  go_upto_region 1 with (fail)
  rw [← HW.out]
  go_wp2_with fail
  refine (short_any nm A A2 n c n2 c2 me se ra di ti ov sk co xss _ H1.out hS2.out hc).mono ?_
  rintro e w3 ⟨A3, n3, c3, rfl, hr, hb⟩
  have k0 := K0.out.keep hb
  have k1 := K1.out.keep hb
  have p0 := keepc hb e0
  have p1 := keepc hb e1
  have p2 := keepc hb e2
  have p3 := keepc hb e3
  have p4 := keepc hb e4
  have p5 := keepc hb e5
  have p6 := keepc hb e6
  have p7 := keepc hb e7
  have p8 := keepc hb e8
  have q0 := keepc hb g0
  have q1 := keepc hb g1
  have r0 : ∀ i, w3.frozen? ⟨w.heap.size, i, none⟩ = false := fun i => k0.frozen i
  have r1 : ∀ i, w3.frozen? ⟨w.heap.size + 1, i, none⟩ = false := fun i => k1.frozen i
  have K0' := Lib.hid k0
  have K1' := Lib.hid k1
  have HB3 := Lib.hid (below_more HB2.out hb)
  have HR := Lib.hid hr
  have HB3z := Lib.hid hb.size
  clear hb hr k0 k1 e0 e1 e2 e3 e4 e5 e6 e7 e8 g0 g1
  go_upto_region 2 with (fail)
  refine name_world ?_
  intro W hW
  have b0 : Blk W w.heap.size 24 #[.string nm, .slice A (min n 7) c, .int .i64 me, .int .i64 se, .int .i64 (min ra 7), .int .i64 di, .int .i64 ti, .int .i64 ov, .int .i64 sk] := by
    rw [hW]
    refine Blk.far (Blk.far ?_ (by simp) _) (by simp) _
    exact Blk.setAll [_, _, _, _, _, _, _, _, _] K0'.out rfl
  have b1 : Blk W (w.heap.size + 1) 27 #[.int .i64 co, .slice A3 n3 c3] := by
    rw [hW]
    refine Blk.setAll [_, _] (cs := #[.int .i64 co, .slice A2 n2 c2]) ?_ rfl
    iterate 9 refine Blk.far ?_ (by simp) _
    exact K1'.out
  have hBW : Below w.heap.size w W := by
    rw [hW]
    iterate 11 refine Below.setCell ?_ (by simp) _
    exact HB3.out
  have hzW : W.heap.size = w3.heap.size := by rw [hW]; simp
  have hrW : RS W (fun b => b < W.heap.size ∧ b ≠ w.heap.size ∧ b ≠ w.heap.size + 1) A3 n3 c3 ((xss.take 8).map (·.take 9)) := by
    have hne : ∀ b, (S b ∨ Fresh w2 w3 b) → b ≠ w.heap.size ∧ b ≠ w.heap.size + 1 := by
      have hz2 := HZ2.out
      rintro b (hb | hb)
      · have := hS0.out b hb; omega
      · have := hb.1; omega
    refine HR.out.keep (fun b hb => ⟨?_, hne b hb⟩) ?_
    · rcases hb with hb | hb
      · exact Nat.lt_of_lt_of_le (hS2.out b hb) (by rw [hzW]; exact HB3z.out)
      · rw [hzW]; exact hb.2
    · rw [hW]
      iterate 11 refine Keeps.setCell ?_ (fun h => by have := hne _ h; simp at this) _
      exact Keeps.refl _ _
  have hzW2 : w.heap.size + 2 ≤ W.heap.size := by have := HZ2.out; have := HB3z.out; omega
  have HZW := Lib.hid hzW2
  have HW3 := Lib.hid hW
  clear hW hzW hzW2 p0 p1 p2 p3 p4 p5 p6 p7 p8 q0 q1 r0 r1
  have HBW := Lib.hid hBW; clear hBW
  have HRW := Lib.hid hrW; clear hrW
  have hl3 := Lib.hid HRW.out.len
  have hn3 := Lib.hid (show n3 ≤ 8 by rw [← hl3.out]; simp; omega)
  have hrows' := Lib.hid (show ∀ l ∈ (xss.take 8).map (·.take 9), l.length ≤ 1073741824 by intro l hl; obtain ⟨x, _, rfl⟩ := List.mem_map.1 hl; simp; omega)
  obtain ⟨rows, hrowsE⟩ : ∃ r, r = (xss.take 8).map (·.take 9) := ⟨_, rfl⟩
  obtain ⟨q, hqE⟩ : ∃ q, q = min n 7 := ⟨_, rfl⟩
  obtain ⟨r7, hr7E⟩ : ∃ r, r = min ra 7 := ⟨_, rfl⟩
  rw [← hrowsE] at HRW hl3 hrows'
  rw [← hqE, ← hr7E] at b0
  have hrows := hrows'
  clear hrows'
  have hq7 : q ≤ 7 := by omega
  have hr77 : r7 ≤ 7 := by omega
  have HQE := Lib.hid hqE
  have HR7E := Lib.hid hr7E
  have HROWS := Lib.hid hrowsE
  clear hqE hr7E hrowsE
  have B0 := Lib.hid b0
  have B1 := Lib.hid b1
  have s0 : W.cell? ⟨w.heap.size, 0, none⟩ = some (.string nm) := B0.out.cell 0
  have s1 : W.cell? ⟨w.heap.size, 1, none⟩ = some (.slice A q c) := B0.out.cell 1
  have s2 : W.cell? ⟨w.heap.size, 2, none⟩ = some (.int .i64 me) := B0.out.cell 2
  have s3 : W.cell? ⟨w.heap.size, 3, none⟩ = some (.int .i64 se) := B0.out.cell 3
  have s4 : W.cell? ⟨w.heap.size, 4, none⟩ = some (.int .i64 r7) := B0.out.cell 4
  have s5 : W.cell? ⟨w.heap.size, 5, none⟩ = some (.int .i64 di) := B0.out.cell 5
  have s6 : W.cell? ⟨w.heap.size, 6, none⟩ = some (.int .i64 ti) := B0.out.cell 6
  have s7 : W.cell? ⟨w.heap.size, 7, none⟩ = some (.int .i64 ov) := B0.out.cell 7
  have s8 : W.cell? ⟨w.heap.size, 8, none⟩ = some (.int .i64 sk) := B0.out.cell 8
  have u0 : W.cell? ⟨w.heap.size + 1, 0, none⟩ = some (.int .i64 co) := B1.out.cell 0
  have u1 : W.cell? ⟨w.heap.size + 1, 1, none⟩ = some (.slice A3 n3 c3) := B1.out.cell 1
  have f8 : W.frozen? ⟨w.heap.size, 8, none⟩ = false := b0.frozen 8
  clear b0 b1
  go_wp2_with fail
  refine name_calls ?_
  intro W1 hWk
  have b0 : Blk W1 w.heap.size 24 #[.string nm, .slice A q c, .int .i64 me, .int .i64 se, .int .i64 r7, .int .i64 di, .int .i64 ti, .int .i64 ov, .int .i64 2] := by rw [hWk]; exact B0.out.set_ 8 _
  have b1 : Blk W1 (w.heap.size + 1) 27 #[.int .i64 co, .slice A3 n3 c3] := by rw [hWk]; exact B1.out.far (by simp) _
  have hzk : W1.heap.size = W.heap.size := by rw [hWk]; simp
  have hrk : RS W1 (fun b => b < W1.heap.size ∧ b ≠ w.heap.size ∧ b ≠ w.heap.size + 1) A3 n3 c3 rows := by
    refine HRW.out.keep (fun b hb => ⟨by rw [hzk]; exact hb.1, hb.2⟩) ?_
    rw [hWk]
    exact Keeps.setCell (Keeps.refl _ _) (fun h => by have := h.2.1; simp at this) _
  have hbk : Below w.heap.size w W1 := by rw [hWk]; exact HBW.out.setCell (by simp) _
  have hnew : Below (w.heap.size) W W1 := by rw [hWk]; exact (Below.refl _ _).setCell (by simp) _
  have hza : w.heap.size + 2 ≤ W1.heap.size := by rw [hzk]; exact HZW.out
  clear HZW
  have HRk := Lib.hid hrk
  have HBk := Lib.hid hbk
  clear hrk hbk hzk s0 s1 s2 s3 s4 s5 s6 s7 s8 u0 u1 f8 hWk hnew
  refine (prefs_any (S := (fun b => b < W1.heap.size ∧ b ≠ w.heap.size ∧ b ≠ w.heap.size + 1)) _ _ _ _ _ _ _ _ _ _ _ _ _ _ _ rows _ HRk.out (fun b h => h.1) (by have := hn3.out; omega) hrows.out).mono ?_
  rintro e x1 ⟨A4, n4, c4, rfl, hr, hb⟩
  have HZW := Lib.hid (Nat.le_trans hza hb.size)
  have B0 := Lib.hid (b0.keep hb)
  have B1 := Lib.hid (b1.keep hb)
  obtain ⟨l1, hl1⟩ : ∃ l, l = prefsF ov 2 r7 q rows := ⟨_, rfl⟩
  rw [← hl1] at hr
  have HL1 := Lib.hid hl1
  clear hl1
  have HX1 := Lib.hid (hr.sub (S' := (fun b => b < x1.heap.size ∧ b ≠ w.heap.size ∧ b ≠ w.heap.size + 1)) (fun b h => ⟨h.2, by have := h.1; omega, by have := h.1; omega⟩))
  have HRW' := Lib.hid ((HRk.out.below hb (fun b h => h.1)).sub (S' := (fun b => b < x1.heap.size ∧ b ≠ w.heap.size ∧ b ≠ w.heap.size + 1)) (fun b h => ⟨Nat.lt_of_lt_of_le h.1 hb.size, h.2⟩))
  have HBW' := Lib.hid (HBk.out.trans (hb.mono HBk.out.size))
  clear HRW HBW HRk HBk
  have HRW := HRW'
  have HBW := HBW'
  clear HRW' HBW'
  have s0 : x1.cell? ⟨w.heap.size, 0, none⟩ = some (.string nm) := B0.out.cell 0
  have s1 : x1.cell? ⟨w.heap.size, 1, none⟩ = some (.slice A q c) := B0.out.cell 1
  have s2 : x1.cell? ⟨w.heap.size, 2, none⟩ = some (.int .i64 me) := B0.out.cell 2
  have s3 : x1.cell? ⟨w.heap.size, 3, none⟩ = some (.int .i64 se) := B0.out.cell 3
  have s4 : x1.cell? ⟨w.heap.size, 4, none⟩ = some (.int .i64 r7) := B0.out.cell 4
  have s5 : x1.cell? ⟨w.heap.size, 5, none⟩ = some (.int .i64 di) := B0.out.cell 5
  have s6 : x1.cell? ⟨w.heap.size, 6, none⟩ = some (.int .i64 ti) := B0.out.cell 6
  have s7 : x1.cell? ⟨w.heap.size, 7, none⟩ = some (.int .i64 ov) := B0.out.cell 7
  have s8 : x1.cell? ⟨w.heap.size, 8, none⟩ = some (.int .i64 2) := B0.out.cell 8
  have u0 : x1.cell? ⟨w.heap.size + 1, 0, none⟩ = some (.int .i64 co) := B1.out.cell 0
  have u1 : x1.cell? ⟨w.heap.size + 1, 1, none⟩ = some (.slice A3 n3 c3) := B1.out.cell 1
  have f8 : x1.frozen? ⟨w.heap.size, 8, none⟩ = false := B0.out.frozen 8
  clear hr hb b0 b1 hza
  go_wp2_with fail
  refine name_calls ?_
  intro W2 hWk
  have b0 : Blk W2 w.heap.size 24 #[.string nm, .slice A q c, .int .i64 me, .int .i64 se, .int .i64 r7, .int .i64 di, .int .i64 ti, .int .i64 ov, .int .i64 3] := by rw [hWk]; exact B0.out.set_ 8 _
  have b1 : Blk W2 (w.heap.size + 1) 27 #[.int .i64 co, .slice A3 n3 c3] := by rw [hWk]; exact B1.out.far (by simp) _
  have hzk : W2.heap.size = x1.heap.size := by rw [hWk]; simp
  have hrk : RS W2 (fun b => b < W2.heap.size ∧ b ≠ w.heap.size ∧ b ≠ w.heap.size + 1) A3 n3 c3 rows := by
    refine HRW.out.keep (fun b hb => ⟨by rw [hzk]; exact hb.1, hb.2⟩) ?_
    rw [hWk]
    exact Keeps.setCell (Keeps.refl _ _) (fun h => by have := h.2.1; simp at this) _
  have hbk : Below w.heap.size w W2 := by rw [hWk]; exact HBW.out.setCell (by simp) _
  have hnew : Below (w.heap.size) x1 W2 := by rw [hWk]; exact (Below.refl _ _).setCell (by simp) _
  have hro1 : RS W2 (fun b => b < W2.heap.size ∧ b ≠ w.heap.size ∧ b ≠ w.heap.size + 1) A4 n4 c4 l1 := by
    refine HX1.out.keep (fun b hb => ⟨by rw [hzk]; exact hb.1, hb.2⟩) ?_
    rw [hWk]
    exact Keeps.setCell (Keeps.refl _ _) (fun h => by have := h.2.1; simp at this) _
  clear HX1
  have hza : w.heap.size + 2 ≤ W2.heap.size := by rw [hzk]; exact HZW.out
  clear HZW
  have HRk := Lib.hid hrk
  have HBk := Lib.hid hbk
  clear hrk hbk hzk s0 s1 s2 s3 s4 s5 s6 s7 s8 u0 u1 f8 hWk hnew
  refine (prefs_any (S := (fun b => b < W2.heap.size ∧ b ≠ w.heap.size ∧ b ≠ w.heap.size + 1)) _ _ _ _ _ _ _ _ _ _ _ _ _ _ _ rows _ HRk.out (fun b h => h.1) (by have := hn3.out; omega) hrows.out).mono ?_
  rintro e x2 ⟨A5, n5, c5, rfl, hr, hb⟩
  have HZW := Lib.hid (Nat.le_trans hza hb.size)
  have B0 := Lib.hid (b0.keep hb)
  have B1 := Lib.hid (b1.keep hb)
  obtain ⟨l2, hl2⟩ : ∃ l, l = prefsF ov 3 r7 q rows := ⟨_, rfl⟩
  rw [← hl2] at hr
  have HL2 := Lib.hid hl2
  clear hl2
  have HX2 := Lib.hid (hr.sub (S' := (fun b => b < x2.heap.size ∧ b ≠ w.heap.size ∧ b ≠ w.heap.size + 1)) (fun b h => ⟨h.2, by have := h.1; omega, by have := h.1; omega⟩))
  have HRW' := Lib.hid ((HRk.out.below hb (fun b h => h.1)).sub (S' := (fun b => b < x2.heap.size ∧ b ≠ w.heap.size ∧ b ≠ w.heap.size + 1)) (fun b h => ⟨Nat.lt_of_lt_of_le h.1 hb.size, h.2⟩))
  have HBW' := Lib.hid (HBk.out.trans (hb.mono HBk.out.size))
  have HX1 := Lib.hid ((hro1.below hb (fun b h => h.1)).sub (S' := (fun b => b < x2.heap.size ∧ b ≠ w.heap.size ∧ b ≠ w.heap.size + 1)) (fun b h => ⟨Nat.lt_of_lt_of_le h.1 hb.size, h.2⟩))
  clear hro1
  clear HRW HBW HRk HBk
  have HRW := HRW'
  have HBW := HBW'
  clear HRW' HBW'
  have s0 : x2.cell? ⟨w.heap.size, 0, none⟩ = some (.string nm) := B0.out.cell 0
  have s1 : x2.cell? ⟨w.heap.size, 1, none⟩ = some (.slice A q c) := B0.out.cell 1
  have s2 : x2.cell? ⟨w.heap.size, 2, none⟩ = some (.int .i64 me) := B0.out.cell 2
  have s3 : x2.cell? ⟨w.heap.size, 3, none⟩ = some (.int .i64 se) := B0.out.cell 3
  have s4 : x2.cell? ⟨w.heap.size, 4, none⟩ = some (.int .i64 r7) := B0.out.cell 4
  have s5 : x2.cell? ⟨w.heap.size, 5, none⟩ = some (.int .i64 di) := B0.out.cell 5
  have s6 : x2.cell? ⟨w.heap.size, 6, none⟩ = some (.int .i64 ti) := B0.out.cell 6
  have s7 : x2.cell? ⟨w.heap.size, 7, none⟩ = some (.int .i64 ov) := B0.out.cell 7
  have s8 : x2.cell? ⟨w.heap.size, 8, none⟩ = some (.int .i64 3) := B0.out.cell 8
  have u0 : x2.cell? ⟨w.heap.size + 1, 0, none⟩ = some (.int .i64 co) := B1.out.cell 0
  have u1 : x2.cell? ⟨w.heap.size + 1, 1, none⟩ = some (.slice A3 n3 c3) := B1.out.cell 1
  have f8 : x2.frozen? ⟨w.heap.size, 8, none⟩ = false := B0.out.frozen 8
  clear hr hb b0 b1 hza
  go_wp2_with fail
  refine name_calls ?_
  intro W3 hWk
  have b0 : Blk W3 w.heap.size 24 #[.string nm, .slice A q c, .int .i64 me, .int .i64 se, .int .i64 r7, .int .i64 di, .int .i64 ti, .int .i64 ov, .int .i64 1] := by rw [hWk]; exact B0.out.set_ 8 _
  have b1 : Blk W3 (w.heap.size + 1) 27 #[.int .i64 co, .slice A3 n3 c3] := by rw [hWk]; exact B1.out.far (by simp) _
  have hzk : W3.heap.size = x2.heap.size := by rw [hWk]; simp
  have hrk : RS W3 (fun b => b < W3.heap.size ∧ b ≠ w.heap.size ∧ b ≠ w.heap.size + 1) A3 n3 c3 rows := by
    refine HRW.out.keep (fun b hb => ⟨by rw [hzk]; exact hb.1, hb.2⟩) ?_
    rw [hWk]
    exact Keeps.setCell (Keeps.refl _ _) (fun h => by have := h.2.1; simp at this) _
  have hbk : Below w.heap.size w W3 := by rw [hWk]; exact HBW.out.setCell (by simp) _
  have hnew : Below (w.heap.size) x2 W3 := by rw [hWk]; exact (Below.refl _ _).setCell (by simp) _
  have hro1 : RS W3 (fun b => b < W3.heap.size ∧ b ≠ w.heap.size ∧ b ≠ w.heap.size + 1) A4 n4 c4 l1 := by
    refine HX1.out.keep (fun b hb => ⟨by rw [hzk]; exact hb.1, hb.2⟩) ?_
    rw [hWk]
    exact Keeps.setCell (Keeps.refl _ _) (fun h => by have := h.2.1; simp at this) _
  clear HX1
  have hro2 : RS W3 (fun b => b < W3.heap.size ∧ b ≠ w.heap.size ∧ b ≠ w.heap.size + 1) A5 n5 c5 l2 := by
    refine HX2.out.keep (fun b hb => ⟨by rw [hzk]; exact hb.1, hb.2⟩) ?_
    rw [hWk]
    exact Keeps.setCell (Keeps.refl _ _) (fun h => by have := h.2.1; simp at this) _
  clear HX2
  have hza : w.heap.size + 2 ≤ W3.heap.size := by rw [hzk]; exact HZW.out
  clear HZW
  have HRk := Lib.hid hrk
  have HBk := Lib.hid hbk
  clear hrk hbk hzk s0 s1 s2 s3 s4 s5 s6 s7 s8 u0 u1 f8 hWk hnew
  refine (prefs_any (S := (fun b => b < W3.heap.size ∧ b ≠ w.heap.size ∧ b ≠ w.heap.size + 1)) _ _ _ _ _ _ _ _ _ _ _ _ _ _ _ rows _ HRk.out (fun b h => h.1) (by have := hn3.out; omega) hrows.out).mono ?_
  rintro e x3 ⟨A6, n6, c6, rfl, hr, hb⟩
  have HZW := Lib.hid (Nat.le_trans hza hb.size)
  have B0 := Lib.hid (b0.keep hb)
  have B1 := Lib.hid (b1.keep hb)
  obtain ⟨l3, hl3⟩ : ∃ l, l = prefsF ov 1 r7 q rows := ⟨_, rfl⟩
  rw [← hl3] at hr
  have HL3 := Lib.hid hl3
  clear hl3
  have HX3 := Lib.hid (hr.sub (S' := (fun b => b < x3.heap.size ∧ b ≠ w.heap.size ∧ b ≠ w.heap.size + 1)) (fun b h => ⟨h.2, by have := h.1; omega, by have := h.1; omega⟩))
  have HRW' := Lib.hid ((HRk.out.below hb (fun b h => h.1)).sub (S' := (fun b => b < x3.heap.size ∧ b ≠ w.heap.size ∧ b ≠ w.heap.size + 1)) (fun b h => ⟨Nat.lt_of_lt_of_le h.1 hb.size, h.2⟩))
  have HBW' := Lib.hid (HBk.out.trans (hb.mono HBk.out.size))
  have HX1 := Lib.hid ((hro1.below hb (fun b h => h.1)).sub (S' := (fun b => b < x3.heap.size ∧ b ≠ w.heap.size ∧ b ≠ w.heap.size + 1)) (fun b h => ⟨Nat.lt_of_lt_of_le h.1 hb.size, h.2⟩))
  clear hro1
  have HX2 := Lib.hid ((hro2.below hb (fun b h => h.1)).sub (S' := (fun b => b < x3.heap.size ∧ b ≠ w.heap.size ∧ b ≠ w.heap.size + 1)) (fun b h => ⟨Nat.lt_of_lt_of_le h.1 hb.size, h.2⟩))
  clear hro2
  clear HRW HBW HRk HBk
  have HRW := HRW'
  have HBW := HBW'
  clear HRW' HBW'
  have s0 : x3.cell? ⟨w.heap.size, 0, none⟩ = some (.string nm) := B0.out.cell 0
  have s1 : x3.cell? ⟨w.heap.size, 1, none⟩ = some (.slice A q c) := B0.out.cell 1
  have s2 : x3.cell? ⟨w.heap.size, 2, none⟩ = some (.int .i64 me) := B0.out.cell 2
  have s3 : x3.cell? ⟨w.heap.size, 3, none⟩ = some (.int .i64 se) := B0.out.cell 3
  have s4 : x3.cell? ⟨w.heap.size, 4, none⟩ = some (.int .i64 r7) := B0.out.cell 4
  have s5 : x3.cell? ⟨w.heap.size, 5, none⟩ = some (.int .i64 di) := B0.out.cell 5
  have s6 : x3.cell? ⟨w.heap.size, 6, none⟩ = some (.int .i64 ti) := B0.out.cell 6
  have s7 : x3.cell? ⟨w.heap.size, 7, none⟩ = some (.int .i64 ov) := B0.out.cell 7
  have s8 : x3.cell? ⟨w.heap.size, 8, none⟩ = some (.int .i64 1) := B0.out.cell 8
  have u0 : x3.cell? ⟨w.heap.size + 1, 0, none⟩ = some (.int .i64 co) := B1.out.cell 0
  have u1 : x3.cell? ⟨w.heap.size + 1, 1, none⟩ = some (.slice A3 n3 c3) := B1.out.cell 1
  have f8 : x3.frozen? ⟨w.heap.size, 8, none⟩ = false := B0.out.frozen 8
  clear hr hb b0 b1 hza
  have hp1 : l1 <+: l2 := by rw [HL1.out, HL2.out]; exact prefsGo_strict ov 2 3 (fun bl _ => by simp) _ _ _
  have hp2 : l2 <+: l3 := by rw [HL2.out, HL3.out]; exact prefsGo_strict ov 3 1 (fun bl h => absurd rfl h.1) _ _ _
  have hn45 : n4 ≤ n5 := by have := hp1.length_le; rw [HX1.out.len, HX2.out.len] at this; exact this
  have hn56 : n5 ≤ n6 := by have := hp2.length_le; rw [HX2.out.len, HX3.out.len] at this; exact this
  have ht1 := Lib.hid (show l2.take n4 = l1 by have := List.prefix_iff_eq_take.1 hp1; rw [HX1.out.len] at this; exact this.symm)
  have ht2 := Lib.hid (show l3.take n5 = l2 by have := List.prefix_iff_eq_take.1 hp2; rw [HX2.out.len] at this; exact this.symm)
  have hm1 : (if (n5 : Int) < (n4 : Int) then (n5 : Int) else (n4 : Int)) = (n4 : Int) := if_neg (by omega)
  have hm2 : (if (n6 : Int) < (n5 : Int) then (n6 : Int) else (n5 : Int)) = (n5 : Int) := if_neg (by omega)
  have hc5 := HX2.out.cap
  have hc6 := HX3.out.cap
  obtain ⟨hc51, hc52⟩ := hc5
  obtain ⟨hc61, hc62⟩ := hc6
  have hc54 : n4 ≤ c5 := by omega
  have hc65 : n5 ≤ c6 := by omega
  clear hp1 hp2 s0 s1 s2 s3 s4 s5 s6 s7 s8 u0 u1 f8
  go_wp2_with fail
  refine (awake_any _).mono ?_
  rintro e w7 ⟨rfl, hb7⟩
  have HB7 := Lib.hid (HBW.out.trans (hb7.mono HBW.out.size))
  have HX1' := Lib.hid (HX1.out.below hb7 (fun b h => h.1))
  have HX2' := Lib.hid (HX2.out.below hb7 (fun b h => h.1))
  have HX3' := Lib.hid (HX3.out.below hb7 (fun b h => h.1))
  clear hb7
  go_wp2_with fail
  refine (eq_yes _ _ _ _ _ _ _ _ _ (HX2'.out.take hn45) HX1'.out ht1.out).mono ?_
  rintro e w8 ⟨rfl, m, rfl⟩
  go_wp2_with fail
  refine (eq_yes _ _ _ _ _ _ _ _ _ ((HX3'.out.take hn56).drewN m) (HX2'.out.drewN m) ht2.out).mono ?_
  rintro e w9 ⟨rfl, m2, rfl⟩
  go_wp2
  go_ret
  exact ⟨rfl, below_drewN HB7.out _⟩
end Go.Proofs.Ytofdjlngohhlmaa
