/- A random number below n, in the reference. -/
import Derived.Test.YtofdjlngohhlmaaDoorRnd4
namespace Go.Proofs.YtofdjlngohhlmaaDoor
open Go.RowKit

theorem rest2_eq (n : Nat) (h1 : 1 ≤ n) : 18446744073709551615 % n + 1 = if restF n = 0 then n else restF n := by
  have h := Nat.div_add_mod 18446744073709551615 n
  have hl := Nat.mod_lt 18446744073709551615 (show n > 0 by omega)
  have e : 18446744073709551616 % n = (18446744073709551615 % n + 1) % n := by rw [Nat.mod_add_mod]
  unfold restF
  rw [e]
  by_cases hc : 18446744073709551615 % n + 1 = n
  · rw [hc, Nat.mod_self]; simp
  · rw [Nat.mod_eq_of_lt (show 18446744073709551615 % n + 1 < n by omega), if_neg (by omega)]
theorem sub_bits (r : Nat) (h : r < 2147483648) : ∃ q : Nat, IntKind.u64.wrap (18446744073709551615 - (r : Int)) = (q : Int) ∧ ∀ x, x < 18446744073709551616 → okW r x = decide ((x : Int) ≤ (q : Int)) := by
  refine ⟨18446744073709551615 - r, by rw [IntKind.wrap_u64]; omega, fun x hx => ?_⟩
  rw [okW]
  congr 1
  apply propext
  omega

set_option maxHeartbeats 1000000 in
theorem rbelow_ok (seed : ByteArray) (n N g : Nat) (w : World) (hk : Blk w g 36 #[.string seed, .int .u64 N]) (hs : seed.size ≤ 1073741000) (hN : N < 18446744073709551000) (hT : Tab w 0) (hg1 : g ≠ 0) (hn1 : 1 ≤ n) (hn2 : n ≤ 2147483648) :
    Calls Tryd.prog 14 #[.pointer (some ⟨g, 0, none⟩), .int .i64 n] w (RetG w g 36 #[.string seed, .int .u64 ((belowN seed n N : Nat) : Int)] (.int .i64 (belowF seed n N))) := by
  have HK := Lib.hid hk
  have HT := Lib.hid hT
  have HN := Lib.hid hN
  have hr2 := rest2_eq n hn1
  have hrl : restF n < n := Nat.mod_lt _ (by omega)
  obtain ⟨r, hr⟩ : ∃ r, restF n = r := ⟨_, rfl⟩
  have hF : belowF seed n N = (tryF seed r 15 N).1 % n := by rw [belowF, hr]
  have hF2 : belowN seed n N = (tryF seed r 15 N).2 := by rw [belowN, hr]
  rw [hr] at hr2 hrl
  obtain ⟨q, hq, hqs⟩ := sub_bits r (by omega)
  obtain ⟨t, ht⟩ : ∃ t, 18446744073709551615 % n = t := ⟨_, rfl⟩
  have hmod : (18446744073709551615 : Int).tmod (n : Int) = (t : Int) := by rw [← ht]; rfl
  have htl : t < n := by rw [← ht]; exact Nat.mod_lt _ (by omega)
  rw [ht] at hr2
  have HF := Lib.hid hF
  have HF2 := Lib.hid hF2
  have HR := Lib.hid hr
  have HQS := Lib.hid hqs
  clear hk hT hN hr hF hF2 ht hqs
  go_enter Tryd.func14, Tryd.ntmps14
  go_upto_if 22 with (fail)
  go_cut [6] (fun v wx => v = .int .u64 (r : Int) ∧ wx = w)
  case first =>
    by_cases hr0 : r = 0
    · rw [if_pos hr0] at hr2
      have hb : ((t : Int) + 1 == (n : Int)) = true := by simp; omega
      have HR0 := Lib.hid hr0
      clear hr2 hr0
      go_wp2_with fail
      go_meet
      exact ⟨by rw [HR0.out]; rfl, rfl⟩
    · rw [if_neg hr0] at hr2
      have hb : ((t : Int) + 1 == (n : Int)) = false := by simp; omega
      have HR2 := Lib.hid hr2
      clear hr2 hr0
      go_wp2_with fail
      go_meet
      exact ⟨by rw [← HR2.out]; rfl, rfl⟩
  case rest =>
    obtain ⟨rfl, rfl⟩ := hcut
    clear hr2 hmod
    go_wp2_with fail
    go_loopw [7] (fun i wr => ∃ k N' : Nat, k < 16 ∧ i = .int .i64 ((k + 1 : Nat) : Int) ∧ N' ≤ N + k ∧ tryF seed r (15 - k) N' = tryF seed r 15 N ∧ wc.grownBy wr (some g) ∧ Blk wr g 36 #[.string seed, .int .u64 N'])
      (fun i _ => 17 - (intOf i).toNat)
    case atStart => exact ⟨0, N, by omega, rfl, by omega, rfl, World.grownBy.refl _ _, HK.out⟩
    case round =>
      obtain ⟨k, N', hk, rfl, hN', h1, hg, hb⟩ := hrel
      have HG := Lib.hid hg
      have HB := Lib.hid hb
      have H1 := Lib.hid h1
      have HN' := Lib.hid hN'
      clear hg hb h1 hN'
      go_wp2_with fail
      refine (rword_ok seed N' g wr HB.out hs (by have := HN.out; have := HN'.out; omega) (HT.out.grown HG.out (fun h => hg1 h.symm)) hg1).mono ?_
      rintro e w2 ⟨rfl, hg2, hb2⟩
      have HG2 := Lib.hid (HG.out.trans hg2)
      have HB2 := Lib.hid hb2
      have hwl := wordF_lt seed N'
      obtain ⟨y, hy⟩ : ∃ y, wordF seed N' = y := ⟨_, rfl⟩
      have hqy := HQS.out y (by rw [← hy]; exact hwl)
      rw [hy]
      have HY := Lib.hid hy
      clear hg2 hb2 hwl hy
      have brk : (okW r y = true ∨ k = 15) → ∃ m : Nat, (y : Int).tmod (n : Int) = (m : Int) ∧ m < n ∧ belowF seed n N = m ∧ belowN seed n N = N' + 1 := by
        intro hok
        have ht : tryF seed r (15 - k) N' = (y, N' + 1) := by
          rcases hok with hok | hok
          · rw [tryF_ok (by rw [HY.out]; exact hok), HY.out]
          · subst hok
            show (wordF seed N', N' + 1) = _
            rw [HY.out]
        rw [H1.out] at ht
        refine ⟨y % n, rfl, Nat.mod_lt _ (by omega), by rw [HF.out, ht], by rw [HF2.out, ht]⟩
      have BRK := Lib.hid brk
      clear brk
      have NXT : Hid (okW r y = false → k ≠ 15 → tryF seed r (15 - (k + 1)) (N' + 1) = tryF seed r 15 N) := Lib.hid (by
        intro hno hk15
        have e : 15 - k = (15 - (k + 1)) + 1 := by omega
        rw [← H1.out, e, tryF_no (by rw [HY.out]; exact hno)])
      clear H1
      by_cases hyq : (y : Int) ≤ (q : Int)
      · have hd : decide ((y : Int) ≤ (q : Int)) = true := by simp; omega
        obtain ⟨m, hm, hml, hm1, hm2⟩ := BRK.out (.inl (by rw [hqy]; exact hd))
        have HM1 := Lib.hid hm1
        have HM2 := Lib.hid hm2
        clear hm1 hm2 hqy
        go_wp2_with fail
        go_ret
        rw [HM1.out, HM2.out]
        exact ⟨rfl, HG2.out, HB2.out⟩
      · have hd : decide ((y : Int) ≤ (q : Int)) = false := by simp; omega
        by_cases hk15 : k = 15
        · obtain ⟨m, hm, hml, hm1, hm2⟩ := BRK.out (.inr hk15)
          have HM1 := Lib.hid hm1
          have HM2 := Lib.hid hm2
          clear hm1 hm2 hqy
          subst hk15
          go_wp2_with fail
          go_ret
          rw [HM1.out, HM2.out]
          exact ⟨rfl, HG2.out, HB2.out⟩
        · have n1 := NXT.out (by rw [hqy]; exact hd) hk15
          have HN1 := Lib.hid n1
          have hb16 : ((k : Int) + 1 == 16) = false := by rw [beq_eq_false_iff_ne]; omega
          have hk15b : k + 1 < 16 := by omega
          clear hqy n1 hk15
          go_wp2_with fail
          go_roundw
          case rel => exact ⟨k + 1, N' + 1, by omega, by go_num, by have := HN'.out; omega, HN1.out, HG2.out, HB2.out⟩
          case measure => simp [intOf]; omega
end Go.Proofs.YtofdjlngohhlmaaDoor
