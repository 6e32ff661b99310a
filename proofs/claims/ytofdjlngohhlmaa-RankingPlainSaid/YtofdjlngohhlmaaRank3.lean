/- Contract of electionref13.Prefs, and that both Prefs agree. -/
import Derived.Test.YtofdjlngohhlmaaRank2
namespace Go.Proofs.Ytofdjlngohhlmaa
open Go.RowKit

/-- the marks of a rank by the reference -/
def refRow (n : Nat) (xss : List (List Int)) (r : Nat) : List Int := match xss[r]? with | some l => refMarks l n | none => []
/-- the ranking of a vote by the reference -/
def refPrefsF (ov sk ra : Int) (n : Nat) (xss : List (List Int)) : List Int := prefsGo ov sk ((List.range ra.toNat).map (refRow n xss)) [] false

theorem drop_range {k r : Nat} (hk : k < r) : (List.range r).drop k = k :: (List.range r).drop (k + 1) := by
  rw [List.drop_eq_getElem_cons (by simpa using hk)]; simp
theorem drop_range_map {β : Type} {f : Nat → β} {k r : Nat} (hk : k < r) : ((List.range r).drop k).map f = f k :: ((List.range r).drop (k + 1)).map f := by
  rw [drop_range hk]; rfl
theorem drop_range_nil {β : Type} {f : Nat → β} {k r : Nat} (hk : r ≤ k) : ((List.range r).drop k).map f = [] := by
  rw [List.drop_eq_nil_of_le (by simpa using hk)]; rfl

/-- the slot holds a slice that reads as M; below B nothing has changed -/
def SlotS (w : World) (M : List Int) (v : Value) (w' : World) : Prop := ∃ A n c, v = .slice A n c ∧ RS w' (fun b => b < w'.heap.size) A n c M ∧ Below w.heap.size w w'

set_option maxRecDepth 100000 in
set_option maxHeartbeats 4000000 in
theorem refPrefs_any {S : Nat → Prop} (nm : ByteArray) (A A2 : Option Addr) (n c n2 c2 : Nat) (me se ra di ti ov sk co : Int) (xss : List (List Int)) (w : World)
    (h1 : RS w S A2 n2 c2 xss) (hS : ∀ b, S b → b < w.heap.size) (hra : ra ≤ 1073741824) :
    Calls Try.prog 12 #[.agg #[.string nm, .slice A n c, .int .i64 me, .int .i64 se, .int .i64 ra, .int .i64 di, .int .i64 ti, .int .i64 ov, .int .i64 sk], .agg #[.int .i64 co, .slice A2 n2 c2]] w
      (RetS w (refPrefsF ov sk ra (min n 7) xss)) := by
  obtain ⟨w2, hw2⟩ : ∃ w2, w2 = (w.alloc (.cells #[.string nm, .slice A n c, .int .i64 me, .int .i64 se, .int .i64 ra, .int .i64 di, .int .i64 ti, .int .i64 ov, .int .i64 sk] 24)).alloc (.cells #[.int .i64 co, .slice A2 n2 c2] 27) := ⟨_, rfl⟩
  have hB2 : Below w.heap.size w w2 := by rw [hw2]; exact ((Below.refl _ _).alloc (Nat.le_refl _) _).alloc (by simp) _
  have c1 : w2.cell? ⟨w.heap.size, 1, none⟩ = some (.slice A n c) := by rw [hw2]; go_simp
  have c4 : w2.cell? ⟨w.heap.size, 4, none⟩ = some (.int .i64 ra) := by rw [hw2]; go_simp
  have c7 : w2.cell? ⟨w.heap.size, 7, none⟩ = some (.int .i64 ov) := by rw [hw2]; go_simp
  have c8 : w2.cell? ⟨w.heap.size, 8, none⟩ = some (.int .i64 sk) := by rw [hw2]; go_simp
  have d1 : w2.cell? ⟨w.heap.size + 1, 1, none⟩ = some (.slice A2 n2 c2) := by rw [hw2]; go_simp
  have H1 := Lib.hid (h1.below hB2 hS); clear h1
  have HW := Lib.hid hw2; clear hw2
  have hl := Lib.hid H1.out.len
  have hb := H1.out.max
  obtain ⟨q, hq⟩ : ∃ q : Nat, (if (7 : Int) < (n : Int) then (7 : Int) else (n : Int)) = (q : Int) ∧ min n 7 = q := ⟨min n 7, by split <;> omega, rfl⟩
  obtain ⟨hq, hq0⟩ := hq
  have hq' : (if (n : Int) < (7 : Int) then (n : Int) else (7 : Int)) = (q : Int) := by rw [← hq]; split <;> split <;> omega
  have hq7 : q ≤ 7 := by omega
  rw [hq0]
  clear hq0
  go_enter Try.func12, Try.ntmps12
  go_wp2
  rw [← HW.out]
  go_loopw [5, 6, 7] (fun v bl i wr => ∃ (k : Nat) (out : List Int) (b : Bool), (k : Int) ≤ max 0 ra ∧ i = .int .i64 k ∧ bl = .bool b ∧ out.length ≤ k ∧ Own wr NoB w2.heap.size 3 v out ∧ Below w2.heap.size w2 wr ∧
      prefsGo ov sk (((List.range ra.toNat).drop k).map (refRow q xss)) out b = refPrefsF ov sk ra q xss)
    (fun _ _ i _ => ra.toNat - (intOf i).toNat)
  case atStart => exact ⟨0, [], false, by omega, rfl, rfl, Nat.le_refl _, Own.nil _ _ _, Below.refl _ _, rfl⟩
  case round =>
    obtain ⟨k, out, bl, hk, rfl, rfl, hol, hown, hbel, heq⟩ := hrel
    have HE := Lib.hid heq; clear heq
    have HB := Lib.hid hbel
    obtain ⟨A', n', c', rfl, hn'⟩ := hown.slice
    have HO := Lib.hid hown; clear hown
    have HN := Lib.hid hn'; clear hn'
    have c1' := keepc hbel c1
    have c4' := keepc hbel c4
    have d1' := keepc hbel d1
    have C7 := Lib.hid c7
    have C8 := Lib.hid c8
    clear hbel c1 c4 d1 c7 c8
    have hS2 := Lib.hid (fun b h => Nat.lt_of_lt_of_le (hS b h) hB2.size : ∀ b, S b → b < w2.heap.size)
    by_cases hlt : (k : Int) < ra
    · have hkr : k < ra.toNat := by omega
      have hst := Lib.hid (drop_range_map (f := refRow q xss) hkr)
      go_upto_if 21 with (fail)
      go_cut [8] (fun l wc => SlotS wr (refRow q xss k) l wc)
      case first =>
        by_cases hk2 : k < n2
        · obtain ⟨b, o, l, A1, n1, c1, rfl, hSb, hx0, e0, hrow⟩ := H1.out.row_at hk2
          have e1 := keepc HB.out e0
          have hx := Lib.hid hx0; clear hx0 e0
          have hrow' := Lib.hid (hrow.below HB.out hS2.out); clear hrow
          go_wp2_with fail
          go_still_tail 9, (by kernel_rfl)
          change wpList _ _ _ _ _ wr.drew
          go_wp2_with fail
          refine (refMarks_any _ _ _ _ _ _ (S := S) hrow'.out.drew (fun b h => Nat.lt_of_lt_of_le (hS2.out b h) HB.out.size) (by omega)).mono ?_
          rintro e w1 ⟨A3, n3, c3, rfl, hr3, hb3⟩
          have H3 := Lib.hid hr3; clear hr3
          have HB3 := Lib.hid hb3; clear hb3
          go_wp2
          go_meet
          case rel => exact ⟨_, _, _, rfl, by unfold refRow; rw [hx.out]; exact H3.out.sub (fun b h => h.2), below_drew HB3.out⟩
        · go_wp2
          go_meet
          case rel => exact ⟨none, 0, 0, rfl, by unfold refRow; rw [List.getElem?_eq_none (by rw [hl.out]; omega)]; exact RS.nil _ _, Below.refl _ _⟩
      case rest =>
        obtain ⟨A3, n3, c3, rfl, hr3, hb3⟩ := hcut
        have HB1 := Lib.hid (below_more HB.out hb3)
        have HO1 := Lib.hid (HO.out.below hb3)
        have c7' := keepc HB1.out C7.out
        have c8' := keepc HB1.out C8.out
        have H3 := Lib.hid hr3; clear hr3
        clear hb3 c1' c4' d1'
        have hn3 := Lib.hid H3.out.len
        have hn3m := H3.out.max
        have hnm := (HO1.out.rs (S' := fun _ => True) (fun _ h => h.elim) (fun _ _ _ => trivial)).max
        obtain ⟨M, hM⟩ : ∃ M, M = refRow q xss k := ⟨_, rfl⟩
        rw [← hM] at H3 hst hn3
        have HE2 := HE.out
        rw [hst.out] at HE2
        have HE3 := Lib.hid HE2; clear HE2 HE hM
        by_cases h1 : n3 = 1
        · subst h1
          obtain ⟨b3, o3, x, rfl, _, hx3, e3⟩ := H3.out.int_at (Nat.zero_lt_one)
          have HX3 := Lib.hid hx3; clear hx3
          rw [Nat.add_zero] at e3
          have hor := Lib.hid (HO1.out.rs (S' := fun _ => True) (fun _ h => h.elim) (fun _ _ _ => trivial))
          go_wp2
          go_loopw [9, 10] (fun t i wx => ∃ (hb : Bool) (j m : Nat), t = .bool hb ∧ j ≤ n' ∧ i = .int .i64 j ∧ (hb = true ↔ x ∈ out.take j) ∧ wx = wc.drewN m) (fun _ i _ => n' - (intOf i).toNat)
          case atStart => exact ⟨false, 0, 0, rfl, Nat.zero_le _, rfl, by simp, rfl⟩
          case round =>
            obtain ⟨hb, j, m, rfl, hj, rfl, hiff, rfl⟩ := hrel
            have HI := Lib.hid hiff; clear hiff
            by_cases hjn : j < n'
            · obtain ⟨b, o, y, rfl, hSb, hy0, e0⟩ := hor.out.int_at hjn
              have hy := Lib.hid hy0; clear hy0
              cases hb
              · go_wp2_with fail
                go_quiet (fail)
                go_wp2
                go_roundw
                case rel => exact ⟨(y == x), j + 1, _, rfl, by omega, by go_num, mts1 hy.out HI.out, rfl⟩
                case measure => simp [intOf]; omega
              · go_wp2_with fail
                go_quiet (fail)
                go_wp2
                go_roundw
                case rel => exact ⟨true, j + 1, _, rfl, by omega, by go_num, mts2 hy.out (by have := HI.out; simpa using this), rfl⟩
                case measure => simp [intOf]; omega
            · have hjn' : j = n' := by omega
              have hj2 := Lib.hid hjn'; clear hjn'
              have ht : out.take j = out := List.take_of_length_le (by rw [← HN.out, hj2.out]; exact Nat.le_refl _)
              have hi := HI.out
              rw [ht] at hi
              clear ht
              cases hb
              · have e := HE3.out
                rw [go_one hn3.out HX3.out, if_neg (by simpa using hi)] at e
                have HF := Lib.hid e; clear e hi
                go_wp2_with (at_builtin
                             refine wpList_append_new (α := Int) (w0 := w2) rfl _ _ 32 rfl 8 Try.ints rfl (HO1.out.drewN m) (below_drewN HB1.out m) [.int .i64 x] x 1 rfl rfl 3 (by simp [Value.oneCell']) (by omega) ?_
                             intro v' w' hown' hbel' _ _
                             have HO' := Lib.hid hown'; clear hown'
                             have HB' := Lib.hid hbel'; clear hbel')
                go_roundw
                case rel => exact ⟨k + 1, out ++ [x], false, by omega, by go_num, rfl, by simp; omega, HO'.out, HB'.out, HF.out⟩
                case measure => simp [intOf]; omega
              · have e := HE3.out
                rw [go_one hn3.out HX3.out, if_pos (by simpa using hi)] at e
                have HF := Lib.hid e; clear e hi
                go_wp2
                go_roundw
                case rel => exact ⟨k + 1, out, false, by omega, by go_num, rfl, by omega, HO1.out.drewN m, below_drewN HB1.out m, HF.out⟩
                case measure => simp [intOf]; omega
        · have hM1 : M.length ≠ 1 := by rw [hn3.out]; exact h1
          have hM1' := Lib.hid hM1; clear hM1
          by_cases hstop : 1 < n3 ∧ ov ≠ 2
          · obtain ⟨ha, hov⟩ := hstop
            have e := HE3.out
            rw [go_stop1 (by rw [hn3.out]; exact ha) hov] at e
            have HF := Lib.hid e; clear e
            go_wp2
            go_ret
            refine ⟨_, _, _, rfl, ?_, hB2.trans (HB1.out.mono hB2.size)⟩
            rw [← HF.out]
            exact HO1.out.rs (fun _ h => h.elim) (fun g h1 h2 => ⟨Nat.le_trans hB2.size h1, h2⟩)
          have hM2 := Lib.hid (show ¬ (1 < M.length ∧ ov ≠ 2) by rw [hn3.out]; exact hstop)
          rcases (show n3 = 0 ∨ (1 < n3 ∧ ov = 2) by omega) with rfl | ⟨ha, hov⟩
          all_goals
            clear hstop
            try (have hov2 : (ov != 2) = false := by simp [hov])
            try clear hov
            by_cases hs : sk ≠ 1 ∧ (sk ≠ 3 ∨ bl = true)
            · have e := HE3.out
              rw [go_blank_stop hM1'.out hM2.out hs] at e
              have HF := Lib.hid e; clear e
              rcases (show (sk = 3 ∧ bl = true) ∨ (sk ≠ 1 ∧ sk ≠ 3) by cases bl <;> simp_all <;> omega) with ⟨s1, s2⟩ | ⟨s1, s2⟩
              all_goals
                clear hs
                try subst s2
                go_wp2
                go_ret
                refine ⟨_, _, _, rfl, ?_, hB2.trans (HB1.out.mono hB2.size)⟩
                rw [← HF.out]
                exact HO1.out.rs (fun _ h => h.elim) (fun g h1 h2 => ⟨Nat.le_trans hB2.size h1, h2⟩)
            · have e := HE3.out
              rw [go_blank hM1'.out hM2.out hs] at e
              have HF := Lib.hid e; clear e
              rcases (show sk = 1 ∨ (sk = 3 ∧ bl = false) by cases bl <;> simp_all <;> omega) with s1 | ⟨s1, s2⟩
              all_goals
                clear hs
                try subst s2
                try subst s1
                go_wp2
                go_roundw
                case rel => exact ⟨k + 1, out, true, by omega, by go_num, rfl, by omega, HO1.out, HB1.out, HF.out⟩
                case measure => simp [intOf]; omega
    · have e := HE.out
      rw [drop_range_nil (by omega)] at e
      have HF := Lib.hid (show out = refPrefsF ov sk ra q xss from e); clear e
      go_wp2
      go_ret
      refine ⟨_, _, _, rfl, ?_, hB2.trans (HB.out.mono hB2.size)⟩
      rw [← HF.out]
      exact HO.out.rs (fun _ h => h.elim) (fun g h1 h2 => ⟨Nat.le_trans hB2.size h1, h2⟩)
end Go.Proofs.Ytofdjlngohhlmaa
