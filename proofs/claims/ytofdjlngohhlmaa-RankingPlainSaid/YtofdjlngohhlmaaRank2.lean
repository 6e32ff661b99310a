/- Contracts of both Prefs (ranking.Prefs, electionref13.Prefs), and that they agree. -/
import Derived.Test.YtofdjlngohhlmaaRank1
import Derived.StillTailTactics
import Derived.Deep.DeepCutAuto
import Derived.Deep.RegionHeld3
namespace Go.Proofs.Ytofdjlngohhlmaa
open Go.RowKit

/-- the ranking of a list of marks: ov, sk: the rules of the contest -/
def prefsGo (ov sk : Int) : List (List Int) → List Int → Bool → List Int
  | [], out, _ => out
  | l :: ls, out, bl =>
    if 1 < l.length ∧ ov ≠ 2 then out
    else if l.length = 1 then prefsGo ov sk ls (if l[0]?.getD 0 ∈ out then out else out ++ [l[0]?.getD 0]) false
    else if sk ≠ 1 ∧ (sk ≠ 3 ∨ bl = true) then out
    else prefsGo ov sk ls out true

/-- the ranking of a vote -/
def prefsF (ov sk ra n : Int) (xss : List (List Int)) : List Int := prefsGo ov sk ((xss.take ra.toNat).map (marksF · n)) [] false
theorem go_stop1 {ov sk : Int} {M : List Int} {ls : List (List Int)} {out : List Int} {bl : Bool} (h1 : 1 < M.length) (h2 : ov ≠ 2) : prefsGo ov sk (M :: ls) out bl = out := by
  rw [prefsGo, if_pos ⟨h1, h2⟩]
theorem go_one {ov sk : Int} {M : List Int} {ls : List (List Int)} {out : List Int} {bl : Bool} {x : Int} (h1 : M.length = 1) (hx : M[0]? = some x) :
    prefsGo ov sk (M :: ls) out bl = prefsGo ov sk ls (if x ∈ out then out else out ++ [x]) false := by
  rw [prefsGo, if_neg (by omega), if_pos h1, hx]; rfl
theorem go_blank_stop {ov sk : Int} {M : List Int} {ls : List (List Int)} {out : List Int} {bl : Bool} (h1 : M.length ≠ 1) (h2 : ¬ (1 < M.length ∧ ov ≠ 2)) (h3 : sk ≠ 1 ∧ (sk ≠ 3 ∨ bl = true)) :
    prefsGo ov sk (M :: ls) out bl = out := by
  rw [prefsGo, if_neg h2, if_neg h1, if_pos h3]
theorem go_blank {ov sk : Int} {M : List Int} {ls : List (List Int)} {out : List Int} {bl : Bool} (h1 : M.length ≠ 1) (h2 : ¬ (1 < M.length ∧ ov ≠ 2)) (h3 : ¬ (sk ≠ 1 ∧ (sk ≠ 3 ∨ bl = true))) :
    prefsGo ov sk (M :: ls) out bl = prefsGo ov sk ls out true := by
  rw [prefsGo, if_neg h2, if_neg h1, if_neg h3]
theorem drop_take_map {α β : Type} {f : α → β} {xs : List α} {x : α} {k r : Nat} (hx : xs[k]? = some x) (hk : k < r) : ((xs.take r).drop k).map f = f x :: ((xs.take r).drop (k + 1)).map f := by
  have : (xs.take r)[k]? = some x := by rw [List.getElem?_take, if_pos hk, hx]
  rw [drop_cons this]; rfl
theorem drop_take_nil {α β : Type} {f : α → β} {xs : List α} {k r : Nat} (hk : xs.length ≤ k ∨ r ≤ k) : ((xs.take r).drop k).map f = [] := by
  rw [List.drop_eq_nil_of_le (by rw [List.length_take]; omega)]; rfl

set_option maxHeartbeats 2000000 in
theorem prefs_any {S : Nat → Prop} (nm : ByteArray) (A A2 : Option Addr) (n c n2 c2 : Nat) (me se ra di ti ov sk co : Int) (xss : List (List Int)) (w : World)
    (h1 : RS w S A2 n2 c2 xss) (hS : ∀ b, S b → b < w.heap.size) (hn : n2 ≤ 1073741824) (hrows : ∀ l ∈ xss, l.length ≤ 1073741824) :
    Calls Try.prog 11 #[.agg #[.string nm, .slice A n c, .int .i64 me, .int .i64 se, .int .i64 ra, .int .i64 di, .int .i64 ti, .int .i64 ov, .int .i64 sk], .agg #[.int .i64 co, .slice A2 n2 c2]] w
      (RetS w (prefsF ov sk ra n xss)) := by
  obtain ⟨w2, hw2⟩ : ∃ w2, w2 = (w.alloc (.cells #[.string nm, .slice A n c, .int .i64 me, .int .i64 se, .int .i64 ra, .int .i64 di, .int .i64 ti, .int .i64 ov, .int .i64 sk] 24)).alloc (.cells #[.int .i64 co, .slice A2 n2 c2] 27) := ⟨_, rfl⟩
  have hB2 : Below w.heap.size w w2 := by rw [hw2]; exact ((Below.refl _ _).alloc (Nat.le_refl _) _).alloc (by simp) _
  have c1 : w2.cell? ⟨w.heap.size, 1, none⟩ = some (.slice A n c) := by rw [hw2]; go_simp
  have c4 : w2.cell? ⟨w.heap.size, 4, none⟩ = some (.int .i64 ra) := by rw [hw2]; go_simp
  have c7 : w2.cell? ⟨w.heap.size, 7, none⟩ = some (.int .i64 ov) := by rw [hw2]; go_simp
  have c8 : w2.cell? ⟨w.heap.size, 8, none⟩ = some (.int .i64 sk) := by rw [hw2]; go_simp
  have d1 : w2.cell? ⟨w.heap.size + 1, 1, none⟩ = some (.slice A2 n2 c2) := by rw [hw2]; go_simp
  have H1 := Lib.hid (h1.below hB2 hS); clear h1
  have HW := Lib.hid hw2; clear hw2
  have hl := Lib.hid H1.out.len
  obtain ⟨q, hq⟩ : ∃ q, (if (n2 : Int) < ra then (n2 : Int) else ra) = q := ⟨_, rfl⟩
  have hq1 : q ≤ n2 := by rw [← hq]; split <;> omega
  have hq2 : q ≤ ra := by rw [← hq]; split <;> omega
  have hq3 : Hid (q = n2 ∨ q = ra) := by show q = n2 ∨ q = ra; rw [← hq]; split <;> simp
  go_enter Try.func11, Try.ntmps11
  go_wp2
  rw [← HW.out]
  go_loopw [5, 6, 7] (fun v bl i wr => ∃ (k : Nat) (out : List Int) (b : Bool), k ≤ n2 ∧ i = .int .i64 k ∧ bl = .bool b ∧ out.length ≤ k ∧ Own wr NoB w2.heap.size 3 v out ∧ Below w2.heap.size w2 wr ∧
      prefsGo ov sk (((xss.take ra.toNat).drop k).map (marksF · n)) out b = prefsF ov sk ra n xss)
    (fun _ _ i _ => n2 - (intOf i).toNat)
  case atStart => exact ⟨0, [], false, Nat.zero_le _, rfl, rfl, Nat.le_refl _, Own.nil _ _ _, Below.refl _ _, rfl⟩
  case round =>
    obtain ⟨k, out, bl, hk, rfl, rfl, hol, hown, hbel, heq⟩ := hrel
    have HE := Lib.hid heq; clear heq
    have HB := Lib.hid hbel
    obtain ⟨A', n', c', rfl, hn'⟩ := hown.slice
    have HO := Lib.hid hown; clear hown
    have HN := Lib.hid hn'; clear hn'
    have c1' := keepc hbel c1
    have c4' := keepc hbel c4
    have d1' := keepc hbel d1
    have C7 := Lib.hid c7
    have C8 := Lib.hid c8
    clear hbel c1 c4 d1 c7 c8
    have hS2 := Lib.hid (fun b h => Nat.lt_of_lt_of_le (hS b h) hB2.size : ∀ b, S b → b < w2.heap.size)
    by_cases hlt : (k : Int) < q
    · have hk2 : k < n2 := by omega
      obtain ⟨b, o, l, A1, n1, c1, rfl, hSb, hx0, e0, hrow⟩ := H1.out.row_at hk2
      have e1 := keepc HB.out e0
      have hx := Lib.hid hx0; clear hx0 e0
      have hrow' := Lib.hid (hrow.below HB.out hS2.out); clear hrow
      have hn1 : n1 ≤ 1073741824 := by rw [← hrow'.out.len]; exact hrows l (List.mem_of_getElem? hx.out)
      go_upto_region 6 with (fail)
      go_still_tail 8, (by kernel_rfl)
      change wpList _ _ _ _ _ wr.drew
      go_wp2_with fail
      refine (marks_any _ _ _ _ _ _ (S := S) hrow'.out.drew (fun b h => Nat.lt_of_lt_of_le (hS2.out b h) HB.out.size) hn1).mono ?_
      rintro e w1 ⟨A3, n3, c3, rfl, hr3, hb3⟩
      have HB1 := Lib.hid (below_more_drew HB.out hb3)
      have HO1 := Lib.hid (HO.out.below (below_drew hb3))
      have c7' := keepc HB1.out C7.out
      have c8' := keepc HB1.out C8.out
      clear hb3
      have H3 := Lib.hid hr3; clear hr3
      have hkr : k < ra.toNat := by omega
      have hst := Lib.hid (drop_take_map (f := (marksF · n)) hx.out hkr)
      have hn3 := Lib.hid H3.out.len
      obtain ⟨M, hM⟩ : ∃ M, M = marksF l n := ⟨_, rfl⟩
      rw [← hM] at H3 hst hn3
      have HE2 := HE.out
      rw [hst.out] at HE2
      have HE3 := Lib.hid HE2; clear HE2 HE hM
      by_cases h1 : n3 = 1
      · subst h1
        obtain ⟨b3, o3, x, rfl, _, hx3, e3⟩ := H3.out.int_at (Nat.zero_lt_one)
        have HX3 := Lib.hid hx3; clear hx3
        rw [Nat.add_zero] at e3
        have hor := Lib.hid (HO1.out.rs (S' := fun _ => True) (fun _ h => h.elim) (fun _ _ _ => trivial))
        by_cases hmem : x ∈ out
        · have e := HE3.out
          rw [go_one hn3.out HX3.out, if_pos hmem] at e
          have HF := Lib.hid e; clear e
          have hm := Lib.hid hmem; clear hmem
          go_wp2_with (go_at_call 14; refine (contains_yes _ _ _ _ _ _ hor.out hm.out).mono ?_; rintro e w' ⟨rfl, rfl⟩)
          go_roundw
          case rel => exact ⟨k + 1, out, false, by omega, by go_num, rfl, by omega, HO1.out, HB1.out, HF.out⟩
          case measure => simp [intOf]; omega
        · have e := HE3.out
          rw [go_one hn3.out HX3.out, if_neg hmem] at e
          have HF := Lib.hid e; clear e
          have hm := Lib.hid hmem; clear hmem
          go_wp2_with (first
            | (go_at_call 14; refine (contains_no _ _ _ _ _ _ hor.out hm.out).mono ?_; rintro e w' ⟨rfl, rfl⟩)
            | (at_builtin
               refine wpList_append_new (α := Int) (w0 := w2) rfl _ _ 32 rfl 8 Try.ints rfl HO1.out HB1.out [.int .i64 x] x 1 rfl rfl 3 (by simp [Value.oneCell']) (by omega) ?_
               intro v' w' hown' hbel' _ _
               have HO' := Lib.hid hown'; clear hown'
               have HB' := Lib.hid hbel'; clear hbel'))
          go_roundw
          case rel => exact ⟨k + 1, out ++ [x], false, by omega, by go_num, rfl, by simp; omega, HO'.out, HB'.out, HF.out⟩
          case measure => simp [intOf]; omega
      · have hM1 : M.length ≠ 1 := by rw [hn3.out]; exact h1
        have hM1' := Lib.hid hM1; clear hM1
        by_cases hstop : 1 < n3 ∧ ov ≠ 2
        · obtain ⟨ha, hov⟩ := hstop
          have e := HE3.out
          rw [go_stop1 (by rw [hn3.out]; exact ha) hov] at e
          have HF := Lib.hid e; clear e
          go_wp2
          go_ret
          refine ⟨_, _, _, rfl, ?_, hB2.trans (HB1.out.mono hB2.size)⟩
          rw [← HF.out]
          exact HO1.out.rs (fun _ h => h.elim) (fun g h1 h2 => ⟨Nat.le_trans hB2.size h1, h2⟩)
        have hM2 := Lib.hid (show ¬ (1 < M.length ∧ ov ≠ 2) by rw [hn3.out]; exact hstop)
        rcases (show n3 = 0 ∨ (1 < n3 ∧ ov = 2) by omega) with rfl | ⟨ha, hov⟩
        all_goals
          clear hstop
          try (have hov2 : (ov != 2) = false := by simp [hov])
          try clear hov
          by_cases hs : sk ≠ 1 ∧ (sk ≠ 3 ∨ bl = true)
          · have e := HE3.out
            rw [go_blank_stop hM1'.out hM2.out hs] at e
            have HF := Lib.hid e; clear e
            rcases (show (sk = 3 ∧ bl = true) ∨ (sk ≠ 1 ∧ sk ≠ 3) by cases bl <;> simp_all <;> omega) with ⟨s1, s2⟩ | ⟨s1, s2⟩
            all_goals
              clear hs
              try subst s2
              try subst s1
              go_wp2
              go_ret
              refine ⟨_, _, _, rfl, ?_, hB2.trans (HB1.out.mono hB2.size)⟩
              rw [← HF.out]
              exact HO1.out.rs (fun _ h => h.elim) (fun g h1 h2 => ⟨Nat.le_trans hB2.size h1, h2⟩)
          · have e := HE3.out
            rw [go_blank hM1'.out hM2.out hs] at e
            have HF := Lib.hid e; clear e
            rcases (show sk = 1 ∨ (sk = 3 ∧ bl = false) by cases bl <;> simp_all <;> omega) with s1 | ⟨s1, s2⟩
            all_goals
              clear hs
              try subst s2
              try subst s1
              go_wp2
              go_roundw
              case rel => exact ⟨k + 1, out, true, by omega, by go_num, rfl, by omega, HO1.out, HB1.out, HF.out⟩
              case measure => simp [intOf]; omega
    · have hkq := Lib.hid (show xss.length ≤ k ∨ ra.toNat ≤ k by have := hl.out; have := hq3.out; omega)
      have e := HE.out
      rw [drop_take_nil hkq.out] at e
      have HF := Lib.hid (show out = prefsF ov sk ra n xss from e); clear e
      go_wp2
      go_ret
      refine ⟨_, _, _, rfl, ?_, hB2.trans (HB.out.mono hB2.size)⟩
      rw [← HF.out]
      exact HO.out.rs (fun _ h => h.elim) (fun g h1 h2 => ⟨Nat.le_trans hB2.size h1, h2⟩)
end Go.Proofs.Ytofdjlngohhlmaa
