/- A random number below n, in the program and in the reference. -/
import Derived.Test.YtofdjlngohhlmaaDoorRnd3
namespace Go.Proofs.YtofdjlngohhlmaaDoor
open Go.RowKit

/-- a word is not one of the last r -/
def okW (r x : Nat) : Bool := decide (x + r < 18446744073709551616)
/-- at most k + 1 words from the N-th on, up to the first that is not one of the last r: the word, and how many words have been drawn then -/
def tryF (seed : ByteArray) (r : Nat) : Nat → Nat → Nat × Nat
  | 0, N => (wordF seed N, N + 1)
  | k + 1, N => if okW r (wordF seed N) then (wordF seed N, N + 1) else tryF seed r k (N + 1)
theorem tryF_count (seed : ByteArray) (r k N : Nat) : N < (tryF seed r k N).2 ∧ (tryF seed r k N).2 ≤ N + k + 1 := by
  induction k generalizing N with
  | zero => simp [tryF]
  | succ k ih =>
    rw [tryF]
    split
    · simp
    · have := ih (N + 1); omega
/-- 2^64 modulo n -/
def restF (n : Nat) : Nat := 18446744073709551616 % n
theorem tryF_ok {seed : ByteArray} {r k N : Nat} (h : okW r (wordF seed N) = true) : tryF seed r k N = (wordF seed N, N + 1) := by
  cases k with
  | zero => rfl
  | succ k => rw [tryF, if_pos h]
theorem tryF_no {seed : ByteArray} {r k N : Nat} (h : okW r (wordF seed N) = false) : tryF seed r (k + 1) N = tryF seed r k (N + 1) := by
  rw [tryF, if_neg (by rw [h]; simp)]
def belowF (seed : ByteArray) (n N : Nat) : Nat := (tryF seed (restF n) 15 N).1 % n
def belowN (seed : ByteArray) (n N : Nat) : Nat := (tryF seed (restF n) 15 N).2
theorem belowF_lt (seed : ByteArray) (n N : Nat) (h : 0 < n) : belowF seed n N < n := Nat.mod_lt _ h
theorem Tab.grown {w w1 : World} {t g : Nat} (h : Tab w t) (hg : w.grownBy w1 (some g)) (hne : t ≠ g) : Tab w1 t :=
  ⟨Nat.lt_of_lt_of_le h.1 hg.size, fun j hj => (World.cell?_of_block (hg.block t h.1 (fun e => hne (by injection e)))).trans (h.2 j hj)⟩

theorem rest_bits (n : Nat) (h1 : 1 ≤ n) (h2 : n ≤ 2147483648) : (IntKind.u64.wrap (-(n : Int))).tmod (n : Int) = ((restF n : Nat) : Int) := by
  have h3 : IntKind.u64.wrap (-(n : Int)) = ((18446744073709551616 - n : Nat) : Int) := by rw [IntKind.wrap_u64]; omega
  rw [h3]
  show (((18446744073709551616 - n) % n : Nat) : Int) = _
  congr 1
  rw [restF]
  have : 18446744073709551616 = (18446744073709551616 - n) + n := by omega
  conv => rhs; rw [this, Nat.add_mod_right]
theorem neg_bits (r : Nat) (h1 : 0 < r) (h2 : r < 2147483648) : ∃ q : Nat, IntKind.u64.wrap (-(r : Int)) = (q : Int) ∧ ∀ x, okW r x = decide ((x : Int) < (q : Int)) := by
  refine ⟨18446744073709551616 - r, by rw [IntKind.wrap_u64]; omega, fun x => ?_⟩
  rw [okW]
  congr 1
  apply propext
  omega
theorem okW_zero (x : Nat) (h : x < 18446744073709551616) : okW 0 x = true := by simp [okW, h]

set_option maxHeartbeats 1000000 in
theorem below_ok (seed : ByteArray) (n N g : Nat) (w : World) (hk : Blk w g 43 #[.string seed, .int .u64 N]) (hs : seed.size ≤ 1073741000) (hN : N < 18446744073709551000) (hT : Tab w 1) (hg1 : g ≠ 1) (hn1 : 1 ≤ n) (hn2 : n ≤ 2147483648) :
    Calls Tryd.prog 17 #[.pointer (some ⟨g, 0, none⟩), .int .i64 n] w (RetG w g 43 #[.string seed, .int .u64 ((belowN seed n N : Nat) : Int)] (.int .i64 (belowF seed n N))) := by
  have HK := Lib.hid hk
  have HT := Lib.hid hT
  have HN := Lib.hid hN
  have hrb := rest_bits n hn1 hn2
  have hrl : restF n < n := Nat.mod_lt _ (by omega)
  obtain ⟨r, hr⟩ : ∃ r, restF n = r := ⟨_, rfl⟩
  have hF : belowF seed n N = (tryF seed r 15 N).1 % n := by rw [belowF, hr]
  have hF2 : belowN seed n N = (tryF seed r 15 N).2 := by rw [belowN, hr]
  rw [hr] at hrb hrl
  have HF := Lib.hid hF
  have HF2 := Lib.hid hF2
  have HR := Lib.hid hr
  clear hk hT hN hr hF hF2
  go_enter Tryd.func17, Tryd.ntmps17
  go_wp2_with fail
  go_loopw [6, 23] (fun v i wr => ∃ k x N' : Nat, k ≤ 16 ∧ i = .int .i64 k ∧ v = .int .u64 x ∧ N' ≤ N + k ∧ (k < 16 → tryF seed r (15 - k) N' = tryF seed r 15 N) ∧ (k = 16 → tryF seed r 15 N = (x, N')) ∧ w.grownBy wr (some g) ∧ Blk wr g 43 #[.string seed, .int .u64 N'])
    (fun _ i _ => 16 - (intOf i).toNat)
  case atStart => exact ⟨0, 0, N, by omega, rfl, rfl, by omega, fun _ => rfl, fun h => by omega, World.grownBy.refl _ _, HK.out⟩
  case round =>
    obtain ⟨k, x, N', hk, rfl, rfl, hN', h1, h2, hg, hb⟩ := hrel
    have HG := Lib.hid hg
    have HB := Lib.hid hb
    have H1 := Lib.hid h1
    have H2 := Lib.hid h2
    have HN' := Lib.hid hN'
    clear hg hb h1 h2 hN'
    by_cases hlt : k < 16
    · go_upto_region 7 with (fail)
      go_wp2_with fail
      refine (word_ok seed N' g wr HB.out hs (by have := HN.out; have := HN'.out; omega) (HT.out.grown HG.out (fun h => hg1 h.symm)) hg1).mono ?_
      rintro e w2 ⟨rfl, hg2, hb2⟩
      have HG2 := Lib.hid (HG.out.trans hg2)
      have HB2 := Lib.hid hb2
      have hwl := wordF_lt seed N'
      obtain ⟨y, hy⟩ : ∃ y, wordF seed N' = y := ⟨_, rfl⟩
      have hok := okW_zero y (by rw [← hy]; exact hwl)
      rw [hy]
      have HY := Lib.hid hy
      have HOK := Lib.hid hok
      clear hg2 hb2 hwl hy hok
      have brk : okW r y = true → ∃ m : Nat, (y : Int).tmod (n : Int) = (m : Int) ∧ m < n ∧ belowF seed n N = m ∧ belowN seed n N = N' + 1 := by
        intro hok
        have ht := tryF_ok (seed := seed) (r := r) (k := 15 - k) (N := N') (by rw [HY.out]; exact hok)
        rw [H1.out hlt, HY.out] at ht
        refine ⟨y % n, rfl, Nat.mod_lt _ (by omega), by rw [HF.out, ht], by rw [HF2.out, ht]⟩
      have BRK := Lib.hid brk
      clear brk
      have NXT : Hid (okW r y = false → (k + 1 < 16 → tryF seed r (15 - (k + 1)) (N' + 1) = tryF seed r 15 N) ∧ (k + 1 = 16 → tryF seed r 15 N = (y, N' + 1))) := Lib.hid (by
        intro hno
        refine ⟨fun h => ?_, fun h => ?_⟩
        · have e : 15 - k = (15 - (k + 1)) + 1 := by omega
          rw [← H1.out hlt, e, tryF_no (by rw [HY.out]; exact hno)]
        · have e : 15 - k = 0 := by omega
          rw [← H1.out hlt, e, tryF, HY.out])
      clear H1 H2
      by_cases hr0 : r = 0
      · have hb0 : ((r : Int) == 0) = true := by simp [hr0]
        obtain ⟨m, hm, hml, hm1, hm2⟩ := BRK.out (by rw [hr0]; exact HOK.out)
        have HM1 := Lib.hid hm1
        have HM2 := Lib.hid hm2
        clear hr0 hm1 hm2
        go_wp2_with fail
        go_ret
        rw [HM1.out, HM2.out]
        exact ⟨rfl, HG2.out, HB2.out⟩
      · have hb0 : ((r : Int) == 0) = false := by simp; exact hr0
        obtain ⟨q, hq, hqs⟩ := neg_bits r (by omega) (by omega)
        have hqy := hqs y
        by_cases hyq : (y : Int) < (q : Int)
        · have hd : decide ((y : Int) < (q : Int)) = true := by simp; omega
          obtain ⟨m, hm, hml, hm1, hm2⟩ := BRK.out (by rw [hqy]; exact hd)
          have HM1 := Lib.hid hm1
          have HM2 := Lib.hid hm2
          clear hr0 hm1 hm2 hqs hqy
          go_wp2_with fail
          go_ret
          rw [HM1.out, HM2.out]
          exact ⟨rfl, HG2.out, HB2.out⟩
        · have hd : decide ((y : Int) < (q : Int)) = false := by simp; omega
          obtain ⟨n1, n2⟩ := NXT.out (by rw [hqy]; exact hd)
          have HN1 := Lib.hid n1
          have HN2 := Lib.hid n2
          clear hr0 hqs hqy n1 n2
          go_wp2_with fail
          go_roundw
          case rel => exact ⟨k + 1, y, N' + 1, by omega, by go_num, rfl, by have := HN'.out; omega, HN1.out, HN2.out, HG2.out, HB2.out⟩
          case measure => simp [intOf]; omega
    · have hk16 : k = 16 := by omega
      have hfin := H2.out hk16
      have hm : (x : Int).tmod (n : Int) = ((x % n : Nat) : Int) := rfl
      obtain ⟨m, hm'⟩ : ∃ m, x % n = m := ⟨_, rfl⟩
      have hml : m < n := by rw [← hm']; exact Nat.mod_lt _ (by omega)
      rw [hm'] at hm
      have HF' : Hid (belowF seed n N = m) := Lib.hid (by rw [HF.out, hfin]; exact hm')
      have HF2' : Hid (belowN seed n N = N') := Lib.hid (by rw [HF2.out, hfin])
      clear hfin hm' hk16
      go_wp2_with fail
      go_ret
      rw [HF'.out, HF2'.out]
      exact ⟨rfl, HG.out, HB.out⟩
end Go.Proofs.YtofdjlngohhlmaaDoor
