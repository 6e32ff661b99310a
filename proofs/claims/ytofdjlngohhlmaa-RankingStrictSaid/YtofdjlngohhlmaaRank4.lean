/- Contracts of electionlaw13.short and electionlaw13.Awake. -/
import Derived.Test.YtofdjlngohhlmaaRankLaw
import Derived.Test.YtofdjlngohhlmaaDraw
import Derived.Test.YtofdjlngohhlmaaLib2
namespace Go.Proofs.Ytofdjlngohhlmaa
open Go.RowKit

theorem Try.rows : SliceTy Try.prog 25 32 1 24 := SliceTy.mk' (z := .slice none 0 0) Try.underlying25 (by kernel_rfl) rfl (by omega)

/-- what 'short' returns -/
def ShortR (S : Nat → Prop) (w : World) (nm : ByteArray) (A : Option Addr) (n c : Nat) (me se ra di ti ov sk co : Int) (xss : List (List Int)) (e : Ending) (w' : World) : Prop :=
  ∃ A2 n2 c2, e = .returned (.tuple #[.agg #[.string nm, .slice A (min n 7) c, .int .i64 me, .int .i64 se, .int .i64 (min ra 7), .int .i64 di, .int .i64 ti, .int .i64 ov, .int .i64 sk], .agg #[.int .i64 co, .slice A2 n2 c2]]) ∧
    RS w' (fun b => S b ∨ Fresh w w' b) A2 n2 c2 ((xss.take 8).map (·.take 9)) ∧ Below w.heap.size w w'

set_option maxRecDepth 100000 in
set_option maxHeartbeats 4000000 in
theorem short_any {S : Nat → Prop} (nm : ByteArray) (A A2 : Option Addr) (n c n2 c2 : Nat) (me se ra di ti ov sk co : Int) (xss : List (List Int)) (w : World)
    (h1 : RS w S A2 n2 c2 xss) (hS : ∀ b, S b → b < w.heap.size) (hc : n ≤ c) :
    Calls Try.prog 8 #[.agg #[.string nm, .slice A n c, .int .i64 me, .int .i64 se, .int .i64 ra, .int .i64 di, .int .i64 ti, .int .i64 ov, .int .i64 sk], .agg #[.int .i64 co, .slice A2 n2 c2]] w
      (ShortR S w nm A n c me se ra di ti ov sk co xss) := by
  have H1 := Lib.hid h1; clear h1
  have hl := Lib.hid H1.out.len
  have hb := H1.out.max
  obtain ⟨q, hq, hq0⟩ : ∃ q : Nat, (if (7 : Int) < (n : Int) then (7 : Int) else (n : Int)) = (q : Int) ∧ min n 7 = q := ⟨min n 7, by split <;> omega, rfl⟩
  have hq1 : q ≤ c := by omega
  obtain ⟨r, hr, hr0⟩ : ∃ r : Int, (if (7 : Int) < ra then (7 : Int) else ra) = r ∧ min ra 7 = r := ⟨min ra 7, by split <;> omega, rfl⟩
  unfold ShortR
  rw [hq0, hr0]
  clear hq0 hr0
  go_enter Try.func8, Try.ntmps8
  go_wp2
  refine name_world ?_
  intro w2 hw2
  have b0 : Blk w2 w.heap.size 24 #[.string nm, .slice A q c, .int .i64 me, .int .i64 se, .int .i64 r, .int .i64 di, .int .i64 ti, .int .i64 ov, .int .i64 sk] := by
    rw [hw2]; exact ((((Blk.new' rfl _ _).alloc _).alloc _).alloc _).alloc _
  have b1 : Blk w2 (w.heap.size + 1) 27 #[.int .i64 co, .slice A2 n2 c2] := by rw [hw2]; exact (((Blk.new' (by simp) _ _).alloc _).alloc _).alloc _
  have b2 : Blk w2 (w.heap.size + 1 + 1) 24 #[.string { data := #[] }, .slice none 0 0, .int .i64 0, .int .i64 0, .int .i64 0, .int .i64 0, .int .i64 0, .int .i64 0, .int .i64 0] := by
    rw [hw2]; exact ((Blk.new' (by simp) _ _).alloc _).alloc _
  have b3 : Blk w2 (w.heap.size + 1 + 1 + 1) 27 #[.int .i64 0, .slice none 0 0] := by rw [hw2]; exact (Blk.new' (by simp) _ _).alloc _
  have b4 : Blk w2 (w.heap.size + 1 + 1 + 1 + 1) 27 #[.int .i64 co, .slice none 0 0] := by rw [hw2]; exact (Blk.new' (by simp) _ _)
  have hz : w2.heap.size = w.heap.size + 5 := by rw [hw2]; simp
  have hB2 : Below w.heap.size w w2 := by rw [hw2]; exact (((((Below.refl _ _).alloc (Nat.le_refl _) _).alloc (by simp) _).alloc (by simp; omega) _).alloc (by simp; omega) _).alloc (by simp; omega) _
  have H2 := Lib.hid (H1.out.below hB2 hS); clear H1
  have HW := Lib.hid hw2; clear hw2
  have HZ := Lib.hid hz; clear hz
  have K0 := Lib.hid b0
  have K1 := Lib.hid b1
  have K2 := Lib.hid b2
  have K3 := Lib.hid b3
  have K4 := Lib.hid b4
  clear b0 b1 b2 b3 b4
  have hS2 := Lib.hid (fun b h => Nat.lt_of_lt_of_le (hS b h) hB2.size : ∀ b, S b → b < w2.heap.size)
  go_loopw [7] (fun i wr => ∃ (k : Nat) (v : Value), k ≤ n2 ∧ k ≤ 8 ∧ i = .int .i64 k ∧ Blk wr (w.heap.size + 1 + 1 + 1 + 1) 27 #[.int .i64 co, v] ∧ Own wr S w2.heap.size 32 v ((xss.take k).map (·.take 9)) ∧
      Below (w.heap.size + 1 + 1 + 1 + 1) w2 wr)
    (fun i _ => n2 - (intOf i).toNat)
  case atStart => exact ⟨0, .slice none 0 0, Nat.zero_le _, Nat.zero_le _, rfl, K4.out, Own.nil' _ _ hS2.out _ _, Below.refl _ _⟩
  case round =>
    obtain ⟨k, v, hk, hk8, rfl, hb4, hown, hbel⟩ := hrel
    obtain ⟨A', n', c', rfl, hn'⟩ := hown.slice
    have HO := Lib.hid hown; clear hown
    have HN := Lib.hid hn'; clear hn'
    have HB := Lib.hid hbel
    have K4' := Lib.hid hb4
    have HZ' := Lib.hid hbel.size
    have d1 : wr.cell? ⟨w.heap.size + 1, 1, none⟩ = some (.slice A2 n2 c2) := (K1.out.below hbel (by omega)).cell 1
    clear hbel hb4
    by_cases hlt : k < n2
    · by_cases hk88 : k < 8
      · obtain ⟨b, o, l, A1, n1, c1, rfl, hSb, hx0, e0, hrow⟩ := H2.out.row_at hlt
        have hSw := hS b hSb
        have e1 : wr.cell? ⟨b, o + k, none⟩ = some (.slice A1 n1 c1) := (HB.out.cell (p := ⟨b, o + k, none⟩) (show b < _ by omega)).trans e0
        have hx := Lib.hid hx0; clear hx0 e0
        have e4 : wr.cell? ⟨w.heap.size + 1 + 1 + 1 + 1, 1, none⟩ = some (.slice A' n' c') := K4'.out.cell 1
        have f4 : wr.frozen? ⟨w.heap.size + 1 + 1 + 1 + 1, 1, none⟩ = false := K4'.out.frozen 1
        obtain ⟨p, hp, hp0⟩ : ∃ p : Nat, (if (9 : Int) < (n1 : Int) then (9 : Int) else (n1 : Int)) = (p : Int) ∧ min n1 9 = p := ⟨min n1 9, by split <;> omega, rfl⟩
        have hcap := hrow.cap
        have hp1 : p ≤ c1 := by omega
        have HP := Lib.hid hp0; clear hp0
        have hrt : RS wr S A1 p c1 (l.take 9) := by
          have h9 : l.take 9 = l.take p := by
            have := hrow.len
            rcases (show (p = 9) ∨ (p = n1 ∧ n1 ≤ 9) by omega) with h | ⟨h, h'⟩
            · rw [h]
            · rw [List.take_of_length_le (show l.length ≤ 9 by omega), List.take_of_length_le (show l.length ≤ p by omega)]
          rw [h9]
          exact (hrow.below HB.out (fun b h => by have := hS b h; omega)).take (by omega)
        have HRT := Lib.hid hrt; clear hrt
        clear hcap hrow
        have hbk : b < w.heap.size + 1 + 1 + 1 + 1 := by omega
        go_wp2_with fail
        refine wp_region_seq (fun w' => w'.cell? ⟨w.heap.size + 1 + 1 + 1 + 1, 1, none⟩ = some (.slice A' n' c') ∧ w'.cell? ⟨w.heap.size + 1, 1, none⟩ = some (.slice (some ⟨b, o, none⟩) n2 c2) ∧ w'.cell? ⟨b, o + k, none⟩ = some (.slice A1 n1 c1)) 18
          [(0, true), (1, true), (2, true), (3, true), (4, true), (5, true), (6, true), (7, true), (8, true), (9, true), (10, true), (11, true), (12, true), (13, true), (14, true), (15, false), (16, false), (17, true)]
          (by kernel_rfl) rfl (by kernel_rfl) (by kernel_rfl) (by kernel_rfl) (fun _ _ d _ _ h => by cases d <;> exact h) ⟨e4, d1, e1⟩ ?_
        repeat
          refine seqL_read (v := ?_) rfl rfl ?_ ?_
          rotate_left 1
          · intro w hS
            go_simp
            with_reducible rfl
          simp only [Act.put, List.getElem_toArray, List.getElem_cons_zero, List.getElem_cons_succ, List.setIfInBounds_toArray, List.set_cons_zero, List.set_cons_succ]
        refine seqL_do rfl fun K hK => ?_
        go_simp
        refine hK _ _ (by go_keep) ?_
        clear hK K
        refine seqL_do rfl fun K hK => ?_
        refine step_append_gen (α := List Int) (w0 := w2) (by rfl) _ _ 25 (by rfl) 24 Try.rows (by rfl) HO.out HB.out (by have := HZ.out; omega) HZ'.out [.slice A1 p c1] (l.take 9) 1 (by rfl) ⟨A1, p, c1, rfl, HRT.out⟩ 32 (by simp [Value.oneCell']) (by simp; omega) ?_
        intro v' w1 hown1 hbel1 hgrow hat
        obtain ⟨A9, n9, c9, rfl, hn9⟩ := hown1.slice
        have HN9 := Lib.hid hn9; clear hn9
        have hne := (fun h => by have := (HO.out.lt _ h).1; have := HZ.out; omega : ¬ ((Value.slice A' n' c').ownBlock = some (w.heap.size + 1 + 1 + 1 + 1)))
        have g4 : w1.frozen? ⟨w.heap.size + 1 + 1 + 1 + 1, 1, none⟩ = false := ((K4'.out.alloc _).grown hgrow (fun h => hne h.symm)).frozen 1
        have g1 : w1.cell? ⟨w.heap.size + 1 + 1 + 1 + 1, 1, none⟩ = some (.slice A' n' c') := ((K4'.out.alloc _).grown hgrow (fun h => hne h.symm)).cell 1
        have g2 : w1.cell? ⟨w.heap.size + 1, 1, none⟩ = some (.slice (some ⟨b, o, none⟩) n2 c2) := (K1.out.below hbel1 (by omega)).cell 1
        have g3 : w1.cell? ⟨b, o + k, none⟩ = some (.slice A1 n1 c1) := (hbel1.cell (p := ⟨b, o + k, none⟩) hbk).trans ((HB.out.cell (p := ⟨b, o + k, none⟩) hbk).symm.trans e1)
        refine hK _ _ ⟨g1, g2, g3⟩ ?_
        clear hK K
        simp only [Act.put, List.getElem_toArray, List.getElem_cons_zero, List.getElem_cons_succ, List.setIfInBounds_toArray, List.set_cons_zero, List.set_cons_succ]
        refine seqL_read (v := ?_) rfl rfl ?_ ?_
        rotate_left 1
        · intro w hS
          go_simp
          with_reducible rfl
        simp only [Act.put, List.getElem_toArray, List.getElem_cons_zero, List.getElem_cons_succ, List.setIfInBounds_toArray, List.set_cons_zero, List.set_cons_succ]
        refine seqL_last rfl fun K hK => ?_
        go_simp
        refine hK _ _ ?_
        clear hK K
        have HO1 := Lib.hid hown1
        have HB1 := Lib.hid hbel1
        have HG1 := Lib.hid hgrow
        have HNE := Lib.hid hne
        clear hown1 hbel1 hgrow hat hne
        go_wp2
        go_roundw
        case rel =>
          refine ⟨k + 1, _, by omega, by omega, by go_num, ((K4'.out.alloc _).grown HG1.out (fun h => HNE.out h.symm)).set_ 1 _, ?_, HB1.out.setCell (Nat.le_refl _) _⟩
          rw [map_take_snoc hx.out]
          exact HO1.out.setCell (fun h => by have h1 : w2.heap.size ≤ w.heap.size + 1 + 1 + 1 + 1 := (HO1.out.lt _ h).1; have := HZ.out; omega) (fun b hb => by have := hS b hb; show b ≠ w.heap.size + 1 + 1 + 1 + 1; omega) _
        case measure => simp [intOf]; omega
      · have HKF : k = 8 ∨ k = n2 := by omega
        have HK := Lib.hid HKF; clear HKF
        have e0 : wr.cell? ⟨w.heap.size, 0, none⟩ = some (.string nm) := (K0.out.below HB.out (by omega)).cell 0
        have e1 : wr.cell? ⟨w.heap.size, 1, none⟩ = some (.slice A q c) := (K0.out.below HB.out (by omega)).cell 1
        have e2 : wr.cell? ⟨w.heap.size, 2, none⟩ = some (.int .i64 me) := (K0.out.below HB.out (by omega)).cell 2
        have e3 : wr.cell? ⟨w.heap.size, 3, none⟩ = some (.int .i64 se) := (K0.out.below HB.out (by omega)).cell 3
        have e4 : wr.cell? ⟨w.heap.size, 4, none⟩ = some (.int .i64 r) := (K0.out.below HB.out (by omega)).cell 4
        have e5 : wr.cell? ⟨w.heap.size, 5, none⟩ = some (.int .i64 di) := (K0.out.below HB.out (by omega)).cell 5
        have e6 : wr.cell? ⟨w.heap.size, 6, none⟩ = some (.int .i64 ti) := (K0.out.below HB.out (by omega)).cell 6
        have e7 : wr.cell? ⟨w.heap.size, 7, none⟩ = some (.int .i64 ov) := (K0.out.below HB.out (by omega)).cell 7
        have e8 : wr.cell? ⟨w.heap.size, 8, none⟩ = some (.int .i64 sk) := (K0.out.below HB.out (by omega)).cell 8
        have g0 : wr.cell? ⟨w.heap.size + 1 + 1 + 1 + 1, 0, none⟩ = some (.int .i64 co) := K4'.out.cell 0
        have g1 : wr.cell? ⟨w.heap.size + 1 + 1 + 1 + 1, 1, none⟩ = some (.slice A' n' c') := K4'.out.cell 1
        have p0 : wr.cell? ⟨w.heap.size + 1 + 1, 0, none⟩ = some (.string { data := #[] }) := (K2.out.below HB.out (by omega)).cell 0
        have p1 : wr.cell? ⟨w.heap.size + 1 + 1, 1, none⟩ = some (.slice none 0 0) := (K2.out.below HB.out (by omega)).cell 1
        have p2 : wr.cell? ⟨w.heap.size + 1 + 1, 2, none⟩ = some (.int .i64 0) := (K2.out.below HB.out (by omega)).cell 2
        have p3 : wr.cell? ⟨w.heap.size + 1 + 1, 3, none⟩ = some (.int .i64 0) := (K2.out.below HB.out (by omega)).cell 3
        have p4 : wr.cell? ⟨w.heap.size + 1 + 1, 4, none⟩ = some (.int .i64 0) := (K2.out.below HB.out (by omega)).cell 4
        have p5 : wr.cell? ⟨w.heap.size + 1 + 1, 5, none⟩ = some (.int .i64 0) := (K2.out.below HB.out (by omega)).cell 5
        have p6 : wr.cell? ⟨w.heap.size + 1 + 1, 6, none⟩ = some (.int .i64 0) := (K2.out.below HB.out (by omega)).cell 6
        have p7 : wr.cell? ⟨w.heap.size + 1 + 1, 7, none⟩ = some (.int .i64 0) := (K2.out.below HB.out (by omega)).cell 7
        have p8 : wr.cell? ⟨w.heap.size + 1 + 1, 8, none⟩ = some (.int .i64 0) := (K2.out.below HB.out (by omega)).cell 8
        have q0 : wr.cell? ⟨w.heap.size + 1 + 1 + 1, 0, none⟩ = some (.int .i64 0) := (K3.out.below HB.out (by omega)).cell 0
        have q1 : wr.cell? ⟨w.heap.size + 1 + 1 + 1, 1, none⟩ = some (.slice none 0 0) := (K3.out.below HB.out (by omega)).cell 1
        have r2 : ∀ i, wr.frozen? ⟨w.heap.size + 1 + 1, i, none⟩ = false := fun i => (K2.out.below HB.out (by omega)).frozen i
        have r3 : ∀ i, wr.frozen? ⟨w.heap.size + 1 + 1 + 1, i, none⟩ = false := fun i => (K3.out.below HB.out (by omega)).frozen i
        clear hq hr hb hq1
        go_wp2_with fail
        go_region
        clear e0 e1 e2 e3 e4 e5 e6 e7 e8 g0 g1 r2 r3
        go_wp2
        refine bodyPost_ret (v := .tuple #[.agg #[.string nm, .slice A q c, .int .i64 me, .int .i64 se, .int .i64 r, .int .i64 di, .int .i64 ti, .int .i64 ov, .int .i64 sk], .agg #[.int .i64 co, .slice A' n' c']]) (by simp only [results, Try.results8]; go_simp) rfl ?_
        clear p0 p1 p2 p3 p4 p5 p6 p7 p8 q0 q1
        refine ⟨A', n', c', rfl, ?_, ?_⟩
        · have hk9 : (xss.take 8).map (·.take 9) = (xss.take k).map (·.take 9) := by
            have := hl.out
            rcases HK.out with h | h
            · rw [h]
            · rw [List.take_of_length_le (show xss.length ≤ 8 by omega), List.take_of_length_le (show xss.length ≤ k by omega)]
          rw [hk9]
          have hrs := HO.out.rs (S' := fun b => (S b ∨ w.heap.size ≤ b ∧ b < wr.heap.size) ∧ b ≠ w.heap.size + 1 + 1 ∧ b ≠ w.heap.size + 1 + 1 + 1) (fun b hb => ⟨.inl hb, by have := hS b hb; omega, by have := hS b hb; omega⟩)
            (fun g hg1 hg2 => ⟨.inr ⟨by have := HZ.out; omega, hg2⟩, by have := HZ.out; omega, by have := HZ.out; omega⟩)
          refine hrs.keep (fun b hb => by rcases hb.1 with h | h; exact .inl h; exact .inr ⟨h.1, by simpa using h.2⟩) ?_
          refine Keeps.drew ?_
          iterate 11 refine Keeps.setCell ?_ (by simp) _
          exact Keeps.refl _ _
        · refine Below.drew ?_
          iterate 11 refine Below.setCell ?_ (by simp; omega) _
          exact hB2.trans (HB.out.mono (by omega))
    · have HKF : k = 8 ∨ k = n2 := by omega
      have HK := Lib.hid HKF; clear HKF
      have e0 : wr.cell? ⟨w.heap.size, 0, none⟩ = some (.string nm) := (K0.out.below HB.out (by omega)).cell 0
      have e1 : wr.cell? ⟨w.heap.size, 1, none⟩ = some (.slice A q c) := (K0.out.below HB.out (by omega)).cell 1
      have e2 : wr.cell? ⟨w.heap.size, 2, none⟩ = some (.int .i64 me) := (K0.out.below HB.out (by omega)).cell 2
      have e3 : wr.cell? ⟨w.heap.size, 3, none⟩ = some (.int .i64 se) := (K0.out.below HB.out (by omega)).cell 3
      have e4 : wr.cell? ⟨w.heap.size, 4, none⟩ = some (.int .i64 r) := (K0.out.below HB.out (by omega)).cell 4
      have e5 : wr.cell? ⟨w.heap.size, 5, none⟩ = some (.int .i64 di) := (K0.out.below HB.out (by omega)).cell 5
      have e6 : wr.cell? ⟨w.heap.size, 6, none⟩ = some (.int .i64 ti) := (K0.out.below HB.out (by omega)).cell 6
      have e7 : wr.cell? ⟨w.heap.size, 7, none⟩ = some (.int .i64 ov) := (K0.out.below HB.out (by omega)).cell 7
      have e8 : wr.cell? ⟨w.heap.size, 8, none⟩ = some (.int .i64 sk) := (K0.out.below HB.out (by omega)).cell 8
      have g0 : wr.cell? ⟨w.heap.size + 1 + 1 + 1 + 1, 0, none⟩ = some (.int .i64 co) := K4'.out.cell 0
      have g1 : wr.cell? ⟨w.heap.size + 1 + 1 + 1 + 1, 1, none⟩ = some (.slice A' n' c') := K4'.out.cell 1
      have p0 : wr.cell? ⟨w.heap.size + 1 + 1, 0, none⟩ = some (.string { data := #[] }) := (K2.out.below HB.out (by omega)).cell 0
      have p1 : wr.cell? ⟨w.heap.size + 1 + 1, 1, none⟩ = some (.slice none 0 0) := (K2.out.below HB.out (by omega)).cell 1
      have p2 : wr.cell? ⟨w.heap.size + 1 + 1, 2, none⟩ = some (.int .i64 0) := (K2.out.below HB.out (by omega)).cell 2
      have p3 : wr.cell? ⟨w.heap.size + 1 + 1, 3, none⟩ = some (.int .i64 0) := (K2.out.below HB.out (by omega)).cell 3
      have p4 : wr.cell? ⟨w.heap.size + 1 + 1, 4, none⟩ = some (.int .i64 0) := (K2.out.below HB.out (by omega)).cell 4
      have p5 : wr.cell? ⟨w.heap.size + 1 + 1, 5, none⟩ = some (.int .i64 0) := (K2.out.below HB.out (by omega)).cell 5
      have p6 : wr.cell? ⟨w.heap.size + 1 + 1, 6, none⟩ = some (.int .i64 0) := (K2.out.below HB.out (by omega)).cell 6
      have p7 : wr.cell? ⟨w.heap.size + 1 + 1, 7, none⟩ = some (.int .i64 0) := (K2.out.below HB.out (by omega)).cell 7
      have p8 : wr.cell? ⟨w.heap.size + 1 + 1, 8, none⟩ = some (.int .i64 0) := (K2.out.below HB.out (by omega)).cell 8
      have q0 : wr.cell? ⟨w.heap.size + 1 + 1 + 1, 0, none⟩ = some (.int .i64 0) := (K3.out.below HB.out (by omega)).cell 0
      have q1 : wr.cell? ⟨w.heap.size + 1 + 1 + 1, 1, none⟩ = some (.slice none 0 0) := (K3.out.below HB.out (by omega)).cell 1
      have r2 : ∀ i, wr.frozen? ⟨w.heap.size + 1 + 1, i, none⟩ = false := fun i => (K2.out.below HB.out (by omega)).frozen i
      have r3 : ∀ i, wr.frozen? ⟨w.heap.size + 1 + 1 + 1, i, none⟩ = false := fun i => (K3.out.below HB.out (by omega)).frozen i
      clear hq hr hb hq1
      go_wp2_with fail
      go_region
      clear e0 e1 e2 e3 e4 e5 e6 e7 e8 g0 g1 r2 r3
      go_wp2
      refine bodyPost_ret (v := .tuple #[.agg #[.string nm, .slice A q c, .int .i64 me, .int .i64 se, .int .i64 r, .int .i64 di, .int .i64 ti, .int .i64 ov, .int .i64 sk], .agg #[.int .i64 co, .slice A' n' c']]) (by simp only [results, Try.results8]; go_simp) rfl ?_
      clear p0 p1 p2 p3 p4 p5 p6 p7 p8 q0 q1
      refine ⟨A', n', c', rfl, ?_, ?_⟩
      · have hk9 : (xss.take 8).map (·.take 9) = (xss.take k).map (·.take 9) := by
          have := hl.out
          rcases HK.out with h | h
          · rw [h]
          · rw [List.take_of_length_le (show xss.length ≤ 8 by omega), List.take_of_length_le (show xss.length ≤ k by omega)]
        rw [hk9]
        have hrs := HO.out.rs (S' := fun b => (S b ∨ w.heap.size ≤ b ∧ b < wr.heap.size) ∧ b ≠ w.heap.size + 1 + 1 ∧ b ≠ w.heap.size + 1 + 1 + 1) (fun b hb => ⟨.inl hb, by have := hS b hb; omega, by have := hS b hb; omega⟩)
          (fun g hg1 hg2 => ⟨.inr ⟨by have := HZ.out; omega, hg2⟩, by have := HZ.out; omega, by have := HZ.out; omega⟩)
        refine hrs.keep (fun b hb => by rcases hb.1 with h | h; exact .inl h; exact .inr ⟨h.1, by simpa using h.2⟩) ?_
        refine Keeps.drew ?_
        iterate 11 refine Keeps.setCell ?_ (by simp) _
        exact Keeps.refl _ _
      · refine Below.drew ?_
        iterate 11 refine Below.setCell ?_ (by simp; omega) _
        exact hB2.trans (HB.out.mono (by omega))
end Go.Proofs.Ytofdjlngohhlmaa
