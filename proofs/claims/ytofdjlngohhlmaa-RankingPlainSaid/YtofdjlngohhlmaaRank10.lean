/- The law RankingLonger: blanking all ranks from some rank on yields a ranking that begins the other, if blank ranks are passed over. -/
import Derived.Test.YtofdjlngohhlmaaRank9
import Derived.Test.YtofdjlngohhlmaaDraw
namespace Go.Proofs.Ytofdjlngohhlmaa
open Go.RowKit

theorem longer_begins (ov r : Int) (q : Nat) (rows : List (List Int)) (j : Nat) : prefsF ov 1 r q (rows.take j) <+: prefsF ov 1 r q rows := by
  unfold prefsF
  have e : ((rows.take j).take r.toNat).map (marksF · q) = ((rows.take r.toNat).map (marksF · q)).take j := by
    rw [← List.map_take, List.take_take, List.take_take, Nat.min_comm]
  rw [e]
  rcases Nat.le_total j ((rows.take r.toNat).map (marksF · q)).length with h | h
  · exact prefsGo_take ov 1 j _ _ _ h
  · rw [List.take_of_length_le h]
    exact List.prefix_refl _
theorem take_min_snoc {rows : List (List Int)} {k : Nat} {m : Int} {l : List Int} (h : rows[k]? = some l) (hk : (k : Int) < m) : rows.take (min (k + 1) m.toNat) = rows.take (min k m.toNat) ++ [l] := by
  rw [show min (k + 1) m.toNat = k + 1 by omega, show min k m.toNat = k by omega, take_snoc h]
theorem take_min_same {rows : List (List Int)} {k : Nat} {m : Int} (hk : m ≤ (k : Int)) : rows.take (min (k + 1) m.toNat) = rows.take (min k m.toNat) := by
  rw [show min (k + 1) m.toNat = min k m.toNat by omega]

set_option maxRecDepth 100000 in
set_option maxHeartbeats 4000000 in
theorem lawLonger_any {S : Nat → Prop} (nm : ByteArray) (A A2 : Option Addr) (n c n2 c2 : Nat) (me se ra di ti ov sk co : Int) (xss : List (List Int)) (fr : Int) (w : World)
    (h1 : RS w S A2 n2 c2 xss) (hS : ∀ b, S b → b < w.heap.size) (hc : n ≤ c) :
    Calls Try.prog 5 #[.agg #[.string nm, .slice A n c, .int .i64 me, .int .i64 se, .int .i64 ra, .int .i64 di, .int .i64 ti, .int .i64 ov, .int .i64 sk], .agg #[.int .i64 co, .slice A2 n2 c2], .int .i64 fr] w (RetV w (.bool true)) := by
  obtain ⟨w2, hw2⟩ : ∃ w2, w2 = (w.alloc (.cells #[.string nm, .slice A n c, .int .i64 me, .int .i64 se, .int .i64 ra, .int .i64 di, .int .i64 ti, .int .i64 ov, .int .i64 sk] 24)).alloc (.cells #[.int .i64 co, .slice A2 n2 c2] 27) := ⟨_, rfl⟩
  have hB2 : Below w.heap.size w w2 := by rw [hw2]; exact ((Below.refl _ _).alloc (Nat.le_refl _) _).alloc (by simp) _
  have hz2 : w2.heap.size = w.heap.size + 2 := by rw [hw2]; simp
  have b0 : Blk w2 w.heap.size 24 #[.string nm, .slice A n c, .int .i64 me, .int .i64 se, .int .i64 ra, .int .i64 di, .int .i64 ti, .int .i64 ov, .int .i64 sk] := by rw [hw2]; exact (Blk.new' rfl _ _).alloc _
  have b1 : Blk w2 (w.heap.size + 1) 27 #[.int .i64 co, .slice A2 n2 c2] := by rw [hw2]; exact (Blk.new' (by simp) _ _)
  have H1 := Lib.hid (h1.below hB2 hS); clear h1
  have HW := Lib.hid hw2; clear hw2
  have HZ2 := Lib.hid hz2; clear hz2
  have HB2 := Lib.hid hB2
  have hS2 := Lib.hid (fun b h => Nat.lt_of_lt_of_le (hS b h) hB2.size : ∀ b, S b → b < w2.heap.size)
  have hS0 := Lib.hid hS
  clear hB2 hS
  have K0 := Lib.hid b0
  have K1 := Lib.hid b1
  have e0 : w2.cell? ⟨w.heap.size, 0, none⟩ = some (.string nm) := b0.cell 0
  have e1 : w2.cell? ⟨w.heap.size, 1, none⟩ = some (.slice A n c) := b0.cell 1
  have e2 : w2.cell? ⟨w.heap.size, 2, none⟩ = some (.int .i64 me) := b0.cell 2
  have e3 : w2.cell? ⟨w.heap.size, 3, none⟩ = some (.int .i64 se) := b0.cell 3
  have e4 : w2.cell? ⟨w.heap.size, 4, none⟩ = some (.int .i64 ra) := b0.cell 4
  have e5 : w2.cell? ⟨w.heap.size, 5, none⟩ = some (.int .i64 di) := b0.cell 5
  have e6 : w2.cell? ⟨w.heap.size, 6, none⟩ = some (.int .i64 ti) := b0.cell 6
  have e7 : w2.cell? ⟨w.heap.size, 7, none⟩ = some (.int .i64 ov) := b0.cell 7
  have e8 : w2.cell? ⟨w.heap.size, 8, none⟩ = some (.int .i64 sk) := b0.cell 8
  have g0 : w2.cell? ⟨w.heap.size + 1, 0, none⟩ = some (.int .i64 co) := b1.cell 0
  have g1 : w2.cell? ⟨w.heap.size + 1, 1, none⟩ = some (.slice A2 n2 c2) := b1.cell 1
  clear b0 b1
  go_enter Try.func5, Try.ntmps5
  go_upto_region 1 with (fail)
  rw [← HW.out]
  go_wp2_with fail
  refine (short_any nm A A2 n c n2 c2 me se ra di ti ov sk co xss _ H1.out hS2.out hc).mono ?_
  rintro e w3 ⟨A3, n3, c3, rfl, hr, hb⟩
  have k0 := K0.out.keep hb
  have k1 := K1.out.keep hb
  have p0 := keepc hb e0
  have p1 := keepc hb e1
  have p2 := keepc hb e2
  have p3 := keepc hb e3
  have p4 := keepc hb e4
  have p5 := keepc hb e5
  have p6 := keepc hb e6
  have p7 := keepc hb e7
  have p8 := keepc hb e8
  have q0 := keepc hb g0
  have q1 := keepc hb g1
  have r0 : ∀ i, w3.frozen? ⟨w.heap.size, i, none⟩ = false := fun i => k0.frozen i
  have r1 : ∀ i, w3.frozen? ⟨w.heap.size + 1, i, none⟩ = false := fun i => k1.frozen i
  have K0' := Lib.hid k0
  have K1' := Lib.hid k1
  have HB3 := Lib.hid (below_more HB2.out hb)
  have HR := Lib.hid hr
  have HB3z := Lib.hid hb.size
  clear hb hr k0 k1 e0 e1 e2 e3 e4 e5 e6 e7 e8 g0 g1
  go_upto_region 2 with (fail)
  refine name_world ?_
  intro W hW
  have b0 : Blk W w.heap.size 24 #[.string nm, .slice A (min n 7) c, .int .i64 me, .int .i64 se, .int .i64 (min ra 7), .int .i64 di, .int .i64 ti, .int .i64 ov, .int .i64 sk] := by
    rw [hW]
    refine Blk.far (Blk.far ?_ (by simp) _) (by simp) _
    exact Blk.setAll [_, _, _, _, _, _, _, _, _] K0'.out rfl
  have b1 : Blk W (w.heap.size + 1) 27 #[.int .i64 co, .slice A3 n3 c3] := by
    rw [hW]
    refine Blk.setAll [_, _] (cs := #[.int .i64 co, .slice A2 n2 c2]) ?_ rfl
    iterate 9 refine Blk.far ?_ (by simp) _
    exact K1'.out
  have hBW : Below w.heap.size w W := by
    rw [hW]
    iterate 11 refine Below.setCell ?_ (by simp) _
    exact HB3.out
  have hzW : W.heap.size = w3.heap.size := by rw [hW]; simp
  have hrW : RS W (fun b => b < W.heap.size ∧ b ≠ w.heap.size ∧ b ≠ w.heap.size + 1) A3 n3 c3 ((xss.take 8).map (·.take 9)) := by
    have hne : ∀ b, (S b ∨ Fresh w2 w3 b) → b ≠ w.heap.size ∧ b ≠ w.heap.size + 1 := by
      have hz2 := HZ2.out
      rintro b (hb | hb)
      · have := hS0.out b hb; omega
      · have := hb.1; omega
    refine HR.out.keep (fun b hb => ⟨?_, hne b hb⟩) ?_
    · rcases hb with hb | hb
      · exact Nat.lt_of_lt_of_le (hS2.out b hb) (by rw [hzW]; exact HB3z.out)
      · rw [hzW]; exact hb.2
    · rw [hW]
      iterate 11 refine Keeps.setCell ?_ (fun h => by have := hne _ h; simp at this) _
      exact Keeps.refl _ _
  have hzW2 : w.heap.size + 2 ≤ W.heap.size := by have := HZ2.out; have := HB3z.out; omega
  have HZW := Lib.hid hzW2
  have HW3 := Lib.hid hW
  clear hW hzW hzW2 p0 p1 p2 p3 p4 p5 p6 p7 p8 q0 q1 r0 r1
  have HBW := Lib.hid hBW; clear hBW
  have HRW := Lib.hid hrW; clear hrW
  have hl3 := Lib.hid HRW.out.len
  have hn3 := Lib.hid (show n3 ≤ 8 by rw [← hl3.out]; simp; omega)
  have hrows' := Lib.hid (show ∀ l ∈ (xss.take 8).map (·.take 9), l.length ≤ 1073741824 by intro l hl; obtain ⟨x, _, rfl⟩ := List.mem_map.1 hl; simp; omega)
  obtain ⟨rows, hrowsE⟩ : ∃ r, r = (xss.take 8).map (·.take 9) := ⟨_, rfl⟩
  obtain ⟨q, hqE⟩ : ∃ q, q = min n 7 := ⟨_, rfl⟩
  obtain ⟨r7, hr7E⟩ : ∃ r, r = min ra 7 := ⟨_, rfl⟩
  rw [← hrowsE] at HRW hl3 hrows'
  rw [← hqE, ← hr7E] at b0
  have hrows := hrows'
  clear hrows'
  have hq7 : q ≤ 7 := by omega
  have hr77 : r7 ≤ 7 := by omega
  have HQE := Lib.hid hqE
  have HR7E := Lib.hid hr7E
  have HROWS := Lib.hid hrowsE
  clear hqE hr7E hrowsE
  have B0 := Lib.hid b0
  have B1 := Lib.hid b1
  have s0 : W.cell? ⟨w.heap.size, 0, none⟩ = some (.string nm) := B0.out.cell 0
  have s1 : W.cell? ⟨w.heap.size, 1, none⟩ = some (.slice A q c) := B0.out.cell 1
  have s2 : W.cell? ⟨w.heap.size, 2, none⟩ = some (.int .i64 me) := B0.out.cell 2
  have s3 : W.cell? ⟨w.heap.size, 3, none⟩ = some (.int .i64 se) := B0.out.cell 3
  have s4 : W.cell? ⟨w.heap.size, 4, none⟩ = some (.int .i64 r7) := B0.out.cell 4
  have s5 : W.cell? ⟨w.heap.size, 5, none⟩ = some (.int .i64 di) := B0.out.cell 5
  have s6 : W.cell? ⟨w.heap.size, 6, none⟩ = some (.int .i64 ti) := B0.out.cell 6
  have s7 : W.cell? ⟨w.heap.size, 7, none⟩ = some (.int .i64 ov) := B0.out.cell 7
  have s8 : W.cell? ⟨w.heap.size, 8, none⟩ = some (.int .i64 sk) := B0.out.cell 8
  have u0 : W.cell? ⟨w.heap.size + 1, 0, none⟩ = some (.int .i64 co) := B1.out.cell 0
  have u1 : W.cell? ⟨w.heap.size + 1, 1, none⟩ = some (.slice A3 n3 c3) := B1.out.cell 1
  have f8 : W.frozen? ⟨w.heap.size, 8, none⟩ = false := B0.out.frozen 8
  have hza : w.heap.size < W.heap.size := by have := HZW.out; omega
  have hzb : w.heap.size + 1 < W.heap.size := by have := HZW.out; omega
  clear b0 b1
  go_upto_region 4 with (fail)
  refine name_world ?_
  intro V hV
  have b0 : Blk V w.heap.size 24 #[.string nm, .slice A q c, .int .i64 me, .int .i64 se, .int .i64 r7, .int .i64 di, .int .i64 ti, .int .i64 ov, .int .i64 1] := by rw [hV]; exact (B0.out.set_ 8 _).alloc _
  have b1 : Blk V (w.heap.size + 1) 27 #[.int .i64 co, .slice A3 n3 c3] := by rw [hV]; exact (B1.out.far (by simp) _).alloc _
  have b2 : Blk V W.heap.size 27 #[.int .i64 co, .slice none 0 0] := by rw [hV]; exact Blk.new' (by simp) _ _
  have hzV : V.heap.size = W.heap.size + 1 := by rw [hV]; simp
  have hBV : Below w.heap.size w V := by rw [hV]; exact (HBW.out.setCell (by simp) _).alloc (by simp; omega) _
  have hrV : RS V (fun b => b < W.heap.size ∧ b ≠ w.heap.size ∧ b ≠ w.heap.size + 1) A3 n3 c3 rows := by
    refine HRW.out.keep (fun b hb => hb) ?_
    rw [hV]
    exact Keeps.alloc (Keeps.setCell (Keeps.refl _ _) (fun h => by have := h.2.1; simp at this) _) (fun b hb => by simp; exact hb.1) _
  have BV0 := Lib.hid b0
  have BV1 := Lib.hid b1
  have BV2 := Lib.hid b2
  have HRV := Lib.hid hrV
  have HBV := Lib.hid hBV
  have HZV := Lib.hid hzV
  clear s0 s1 s2 s3 s4 s5 s6 s7 s8 u0 u1 f8 hV b0 b1 b2 hrV hBV hzV
  have d1 : V.cell? ⟨w.heap.size + 1, 1, none⟩ = some (.slice A3 n3 c3) := BV1.out.cell 1
  obtain ⟨m, hm⟩ : ∃ m : Int, bits .and .i64 fr 7 = m := ⟨_, rfl⟩
  have hn8 := hn3.out
  go_wp2
  go_loopw [24] (fun i wr => ∃ (k : Nat) (v : Value), k ≤ n3 ∧ i = .int .i64 k ∧ Blk wr W.heap.size 27 #[.int .i64 co, v] ∧ Own wr (fun b => b < W.heap.size ∧ b ≠ w.heap.size ∧ b ≠ w.heap.size + 1) V.heap.size 32 v (rows.take (min k m.toNat)) ∧
      Below W.heap.size V wr)
    (fun i _ => n3 - (intOf i).toNat)
  case atStart => exact ⟨0, .slice none 0 0, Nat.zero_le _, rfl, BV2.out, by rw [Nat.zero_min]; exact Own.nil' _ _ (fun b hb => by have := HZV.out; have := hb.1; omega) _ _, Below.refl _ _⟩
  case round =>
    obtain ⟨k, v, hk, rfl, hb2, hown, hbel⟩ := hrel
    obtain ⟨A', n', c', rfl, hn'⟩ := hown.slice
    have HO := Lib.hid hown; clear hown
    have HN := Lib.hid hn'; clear hn'
    have HB := Lib.hid hbel
    have K2 := Lib.hid hb2
    have HZ' := Lib.hid hbel.size
    have d1' : wr.cell? ⟨w.heap.size + 1, 1, none⟩ = some (.slice A3 n3 c3) := (hbel.cell (p := ⟨w.heap.size + 1, 1, none⟩) hzb).trans d1
    clear hbel hb2 d1
    by_cases hlt : k < n3
    · by_cases hkm : (k : Int) < m
      · obtain ⟨b, o, l, A1, n1, c1, rfl, hSb, hx0, e0, hrow⟩ := HRV.out.row_at hlt
        have hbW := hSb.1
        have e1 : wr.cell? ⟨b, o + k, none⟩ = some (.slice A1 n1 c1) := (HB.out.cell (p := ⟨b, o + k, none⟩) hbW).trans e0
        have hx := Lib.hid hx0; clear hx0 e0
        have e4 : wr.cell? ⟨W.heap.size, 1, none⟩ = some (.slice A' n' c') := K2.out.cell 1
        have f4 : wr.frozen? ⟨W.heap.size, 1, none⟩ = false := K2.out.frozen 1
        have HRT := Lib.hid (hrow.below HB.out (fun b h => h.1)); clear hrow
        go_wp2_with fail
        refine wp_region_seq (fun w' => w'.cell? ⟨W.heap.size, 1, none⟩ = some (.slice A' n' c') ∧ w'.cell? ⟨w.heap.size + 1, 1, none⟩ = some (.slice (some ⟨b, o, none⟩) n3 c3) ∧ w'.cell? ⟨b, o + k, none⟩ = some (.slice A1 n1 c1)) 10
          [(0, true), (1, true), (2, true), (3, true), (4, true), (5, true), (6, true), (7, false), (8, false), (9, true)]
          (by kernel_rfl) rfl (by kernel_rfl) (by kernel_rfl) (by kernel_rfl) (fun _ _ d _ _ h => by cases d <;> exact h) ⟨e4, d1', e1⟩ ?_
        iterate 7
          refine seqL_read (v := ?_) rfl rfl ?_ ?_
          rotate_left 1
          · intro w hS
            go_simp
            with_reducible rfl
          simp only [Act.put, List.getElem_toArray, List.getElem_cons_zero, List.getElem_cons_succ, List.setIfInBounds_toArray, List.set_cons_zero, List.set_cons_succ]
        refine seqL_do rfl fun K hK => ?_
        go_simp
        refine hK _ _ (by go_keep) ?_
        clear hK K
        refine seqL_do rfl fun K hK => ?_
        refine step_append_gen (α := List Int) (w0 := V) (by rfl) _ _ 25 (by rfl) 24 Try.rows (by rfl) HO.out HB.out (by have := HZV.out; omega) HZ'.out [.slice A1 n1 c1] l 1 (by rfl) ⟨A1, n1, c1, rfl, HRT.out⟩ 32 (by simp [Value.oneCell']) (by simp; omega) ?_
        intro v' w1 hown1 hbel1 hgrow hat
        obtain ⟨A9, n9, c9, rfl, hn9⟩ := hown1.slice
        have HN9 := Lib.hid hn9; clear hn9
        have hne := (fun h => by have h1 : V.heap.size ≤ W.heap.size := (HO.out.lt _ h).1; have := HZV.out; omega : ¬ ((Value.slice A' n' c').ownBlock = some W.heap.size))
        have g4 : w1.frozen? ⟨W.heap.size, 1, none⟩ = false := ((K2.out.alloc _).grown hgrow (fun h => hne h.symm)).frozen 1
        have g1 : w1.cell? ⟨W.heap.size, 1, none⟩ = some (.slice A' n' c') := ((K2.out.alloc _).grown hgrow (fun h => hne h.symm)).cell 1
        have g2 : w1.cell? ⟨w.heap.size + 1, 1, none⟩ = some (.slice (some ⟨b, o, none⟩) n3 c3) := (hbel1.cell (p := ⟨w.heap.size + 1, 1, none⟩) hzb).trans ((HB.out.cell (p := ⟨w.heap.size + 1, 1, none⟩) hzb).symm.trans d1')
        have g3 : w1.cell? ⟨b, o + k, none⟩ = some (.slice A1 n1 c1) := (hbel1.cell (p := ⟨b, o + k, none⟩) hbW).trans ((HB.out.cell (p := ⟨b, o + k, none⟩) hbW).symm.trans e1)
        refine hK _ _ ⟨g1, g2, g3⟩ ?_
        clear hK K
        simp only [Act.put, List.getElem_toArray, List.getElem_cons_zero, List.getElem_cons_succ, List.setIfInBounds_toArray, List.set_cons_zero, List.set_cons_succ]
        refine seqL_read (v := ?_) rfl rfl ?_ ?_
        rotate_left 1
        · intro w hS
          go_simp
          with_reducible rfl
        simp only [Act.put, List.getElem_toArray, List.getElem_cons_zero, List.getElem_cons_succ, List.setIfInBounds_toArray, List.set_cons_zero, List.set_cons_succ]
        refine seqL_last rfl fun K hK => ?_
        go_simp
        refine hK _ _ ?_
        clear hK K
        have HO1 := Lib.hid hown1
        have HB1 := Lib.hid hbel1
        have HG1 := Lib.hid hgrow
        have HNE := Lib.hid hne
        clear hown1 hbel1 hgrow hat hne
        go_wp2
        go_roundw
        case rel =>
          refine ⟨k + 1, _, by omega, by go_num, ((K2.out.alloc _).grown HG1.out (fun h => HNE.out h.symm)).set_ 1 _, ?_, HB1.out.setCell (Nat.le_refl _) _⟩
          rw [take_min_snoc hx.out hkm]
          exact HO1.out.setCell (fun h => by have h1 : V.heap.size ≤ W.heap.size := (HO1.out.lt _ h).1; have := HZV.out; omega) (fun b hb => by have := hb.1; show b ≠ W.heap.size; omega) _
        case measure => simp [intOf]; omega
      · go_wp2
        go_roundw
        case rel => exact ⟨k + 1, _, by omega, by go_num, K2.out, by rw [take_min_same (by omega)]; exact HO.out, HB.out⟩
        case measure => simp [intOf]; omega
    · have hkn : k = n3 := by omega
      have hkn' := Lib.hid hkn; clear hkn
      have s0 : wr.cell? ⟨w.heap.size, 0, none⟩ = some (.string nm) := (BV0.out.below HB.out hza).cell 0
      have s1 : wr.cell? ⟨w.heap.size, 1, none⟩ = some (.slice A q c) := (BV0.out.below HB.out hza).cell 1
      have s2 : wr.cell? ⟨w.heap.size, 2, none⟩ = some (.int .i64 me) := (BV0.out.below HB.out hza).cell 2
      have s3 : wr.cell? ⟨w.heap.size, 3, none⟩ = some (.int .i64 se) := (BV0.out.below HB.out hza).cell 3
      have s4 : wr.cell? ⟨w.heap.size, 4, none⟩ = some (.int .i64 r7) := (BV0.out.below HB.out hza).cell 4
      have s5 : wr.cell? ⟨w.heap.size, 5, none⟩ = some (.int .i64 di) := (BV0.out.below HB.out hza).cell 5
      have s6 : wr.cell? ⟨w.heap.size, 6, none⟩ = some (.int .i64 ti) := (BV0.out.below HB.out hza).cell 6
      have s7 : wr.cell? ⟨w.heap.size, 7, none⟩ = some (.int .i64 ov) := (BV0.out.below HB.out hza).cell 7
      have s8 : wr.cell? ⟨w.heap.size, 8, none⟩ = some (.int .i64 1) := (BV0.out.below HB.out hza).cell 8
      have u0 : wr.cell? ⟨w.heap.size + 1, 0, none⟩ = some (.int .i64 co) := (BV1.out.below HB.out hzb).cell 0
      have v0 : wr.cell? ⟨W.heap.size, 0, none⟩ = some (.int .i64 co) := K2.out.cell 0
      have v1 : wr.cell? ⟨W.heap.size, 1, none⟩ = some (.slice A' n' c') := K2.out.cell 1
      have HRA := Lib.hid ((HRV.out.below HB.out (fun b h => h.1)).sub (S' := fun b => b < wr.heap.size) (fun b h => by have := h.1; have := HZ'.out; have := HZV.out; omega))
      have HRB := Lib.hid (HO.out.rs (S' := fun b => b < wr.heap.size) (fun b h => by have := h.1; have := HZ'.out; have := HZV.out; omega) (fun g _ h => h))
      have HBW2 := Lib.hid (HBV.out.trans (HB.out.mono (Nat.le_of_lt hza)))
      have hn' := Lib.hid (show n' ≤ 1073741824 by have h1 := HRB.out.len; rw [List.length_take] at h1; omega)
      have hrt := Lib.hid (show ∀ l ∈ rows.take (min k m.toNat), l.length ≤ 1073741824 from fun l hl => hrows.out l (List.mem_of_mem_take hl))
      have hn3' := Lib.hid (show n3 ≤ 1073741824 by omega)
      clear d1'
      go_wp2_with fail
      have d1' : wr.cell? ⟨w.heap.size + 1, 1, none⟩ = some (.slice A3 n3 c3) := (BV1.out.below HB.out hzb).cell 1
      have tok1 : True := trivial
      go_region_held3 (fun w' => w'.cell? ⟨w.heap.size, 0, none⟩ = some (.string nm) ∧ w'.cell? ⟨w.heap.size, 1, none⟩ = some (.slice A q c) ∧ w'.cell? ⟨w.heap.size, 2, none⟩ = some (.int .i64 me) ∧ w'.cell? ⟨w.heap.size, 3, none⟩ = some (.int .i64 se) ∧ w'.cell? ⟨w.heap.size, 4, none⟩ = some (.int .i64 r7) ∧ w'.cell? ⟨w.heap.size, 5, none⟩ = some (.int .i64 di) ∧ w'.cell? ⟨w.heap.size, 6, none⟩ = some (.int .i64 ti) ∧ w'.cell? ⟨w.heap.size, 7, none⟩ = some (.int .i64 ov) ∧ w'.cell? ⟨w.heap.size, 8, none⟩ = some (.int .i64 1) ∧ w'.cell? ⟨w.heap.size + 1, 0, none⟩ = some (.int .i64 co) ∧ w'.cell? ⟨w.heap.size + 1, 1, none⟩ = some (.slice A3 n3 c3) ∧ w'.cell? ⟨W.heap.size, 0, none⟩ = some (.int .i64 co) ∧ w'.cell? ⟨W.heap.size, 1, none⟩ = some (.slice A' n' c'))
        (first | go_keep | (go_split_ands; exact ⟨keepc hbl (by assumption), keepc hbl (by assumption), keepc hbl (by assumption), keepc hbl (by assumption), keepc hbl (by assumption), keepc hbl (by assumption), keepc hbl (by assumption), keepc hbl (by assumption), keepc hbl (by assumption), keepc hbl (by assumption), keepc hbl (by assumption), keepc hbl (by assumption), keepc hbl (by assumption)⟩))
        (first
          | (go_at_call 11; have _t := tok1; refine (prefs_any (S := fun b => b < wr.heap.size) _ _ _ _ _ _ _ _ _ _ _ _ _ _ _ rows _ HRA.out.drew (fun _ h => h) hn3'.out hrows.out).mono ?_; rintro e w5 ⟨A5, n5, c5, rfl, hr5, hbl⟩; have hb5 := Lib.hid hbl; have HR5 := Lib.hid hr5; clear hr5 tok1 _t)
          | (go_at_call 11; refine (prefs_any (S := fun b => b < wr.heap.size) _ _ _ _ _ _ _ _ _ _ _ _ _ _ _ (rows.take (min k m.toNat)) _ (HRB.out.drew.below hb5.out (fun _ h => h)) (fun b h => Nat.lt_of_lt_of_le h hb5.out.size) hn'.out hrt.out).mono ?_; rintro e w6 ⟨A6, n6, c6, rfl, hr6, hbl⟩; have hb6 := Lib.hid hbl; have HR6 := Lib.hid hr6; clear hr6))
      have HR5' := Lib.hid (HR5.out.below hb6.out (fun b h => h.2))
      have HB6 := Lib.hid (((HBW2.out.drew).trans (hb5.out.mono HBW2.out.size)).trans (hb6.out.mono (Nat.le_trans HBW2.out.size hb5.out.size)))
      have hp := longer_begins ov r7 q rows (min k m.toNat)
      have hn65 : n6 ≤ n5 := by have := hp.length_le; rw [HR6.out.len, HR5'.out.len] at this; exact this
      have ht := Lib.hid (show (prefsF ov 1 r7 q rows).take n6 = prefsF ov 1 r7 q (rows.take (min k m.toNat)) by have := List.prefix_iff_eq_take.1 hp; rw [HR6.out.len] at this; exact this.symm)
      have hm1 : (if (n5 : Int) < (n6 : Int) then (n5 : Int) else (n6 : Int)) = (n6 : Int) := if_neg (by omega)
      have hc5 := HR5'.out.cap
      obtain ⟨hc51, hc52⟩ := hc5
      have hc65 : n6 ≤ c5 := by omega
      clear hp s0 s1 s2 s3 s4 s5 s6 s7 s8 u0 v0 v1 d1'
      go_wp2_with fail
      refine (awake_any _).mono ?_
      rintro e w7 ⟨rfl, hb7⟩
      have HB7 := Lib.hid (HB6.out.trans (hb7.mono HB6.out.size))
      have HX5 := Lib.hid (HR5'.out.below hb7 (fun b h => Nat.lt_of_lt_of_le h.2 hb6.out.size))
      have HX6 := Lib.hid (HR6.out.below hb7 (fun b h => h.2))
      clear hb7
      go_wp2_with fail
      refine (eq_yes _ _ _ _ _ _ _ _ _ (HX5.out.take hn65) HX6.out ht.out).mono ?_
      rintro e w8 ⟨rfl, m2, rfl⟩
      go_wp2
      go_ret
      exact ⟨rfl, below_drewN HB7.out _⟩
end Go.Proofs.Ytofdjlngohhlmaa
