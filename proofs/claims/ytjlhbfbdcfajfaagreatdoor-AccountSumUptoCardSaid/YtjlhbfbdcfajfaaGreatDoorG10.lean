/- Lex1 Lex2 Lex3 -/
import Derived.Test.YtjlhbfbdcfajfaaGreatDoorG09
import Derived.Lib.IndexLaws
/- lex: the kinds of bytes; span; word; number. -/
namespace Go.Proofs.YtjlhbfbdcfajfaaGreatDoor
open Go.RowKit

def letterB (c : UInt8) : Bool := decide (97 ≤ c.toNat) && decide (c.toNat ≤ 122)
def digitB (c : UInt8) : Bool := decide (48 ≤ c.toNat) && decide (c.toNat ≤ 57)
def wordB (c : UInt8) : Bool := letterB c || digitB c || c == 45
def plainB (c : UInt8) : Bool := decide (32 ≤ c.toNat) && decide (c.toNat ≤ 126)

theorem bool_ret {a b : Bool} (h : a = true ↔ b = true) : Ending.returned (.bool a) = .returned (.bool b) := by rw [Bool.eq_iff_iff.2 h]

theorem letter_ok (c : UInt8) (w : World) : Calls Tryz.prog 173 #[.int .u8 (c.toNat : Int)] w (RetW w (.bool (letterB c))) := by
  have hc := c.toNat_lt
  obtain ⟨n, hn⟩ : ∃ n, c.toNat = n := ⟨_, rfl⟩
  unfold letterB
  rw [hn] at hc ⊢
  go_enter Tryz.func173, Tryz.ntmps173
  go_wp2_with fail
  all_goals
    go_ret
    exact ⟨bool_ret (by simp; omega), rfl⟩
theorem digit_ok (c : UInt8) (w : World) : Calls Tryz.prog 176 #[.int .u8 (c.toNat : Int)] w (RetW w (.bool (digitB c))) := by
  have hc := c.toNat_lt
  obtain ⟨n, hn⟩ : ∃ n, c.toNat = n := ⟨_, rfl⟩
  unfold digitB
  rw [hn] at hc ⊢
  go_enter Tryz.func176, Tryz.ntmps176
  go_wp2_with fail
  all_goals
    go_ret
    exact ⟨bool_ret (by simp; omega), rfl⟩
theorem printable_ok (c : UInt8) (w : World) : Calls Tryz.prog 117 #[.int .u8 (c.toNat : Int)] w (RetW w (.bool (plainB c))) := by
  have hc := c.toNat_lt
  obtain ⟨n, hn⟩ : ∃ n, c.toNat = n := ⟨_, rfl⟩
  unfold plainB
  rw [hn] at hc ⊢
  go_enter Tryz.func117, Tryz.ntmps117
  go_wp2_with fail
  all_goals
    go_ret
    exact ⟨bool_ret (by simp; omega), rfl⟩
theorem beq45 (c : UInt8) : (c == 45) = decide (c.toNat = 45) := by
  rw [Bool.eq_iff_iff, beq_iff_eq, decide_eq_true_iff]
  exact ⟨fun h => by rw [h]; rfl, fun h => UInt8.toNat_inj.1 (by rw [h]; rfl)⟩
theorem inWord_ok (c : UInt8) (w : World) : Calls Tryz.prog 175 #[.int .u8 (c.toNat : Int)] w (RetW w (.bool (wordB c))) := by
  have hl := letter_ok c w
  have hd := digit_ok c w
  obtain ⟨a, ha⟩ : ∃ a, letterB c = a := ⟨_, rfl⟩
  obtain ⟨b, hb⟩ : ∃ a, digitB c = a := ⟨_, rfl⟩
  unfold wordB
  rw [beq45, ha, hb]
  rw [ha] at hl
  rw [hb] at hd
  have hc := c.toNat_lt
  obtain ⟨n, hn⟩ : ∃ n, c.toNat = n := ⟨_, rfl⟩
  rw [hn] at hc hl hd ⊢
  have HL := Lib.hid hl
  have HD := Lib.hid hd
  clear hl hd ha hb hn
  go_enter Tryz.func175, Tryz.ntmps175
  go_wp2_with fail
  refine HL.out.mono ?_
  rintro e w' ⟨rfl, rfl⟩
  cases a with
  | true =>
    go_wp2_with fail
    go_ret
    exact ⟨bool_ret (by simp), rfl⟩
  | false =>
    go_wp2_with fail
    refine HD.out.mono ?_
    rintro e w' ⟨rfl, rfl⟩
    cases b with
    | true =>
      go_wp2_with fail
      go_ret
      exact ⟨bool_ret (by simp), rfl⟩
    | false =>
      go_wp2_with fail
      go_ret
      exact ⟨bool_ret (by simp; omega), rfl⟩

theorem takeWhile_len {p : UInt8 → Bool} : ∀ {l : List UInt8} {n : Nat}, (∀ i x, i < n → l[i]? = some x → p x = true) → n ≤ l.length → (n = l.length ∨ ∃ x, l[n]? = some x ∧ p x = false) → (l.takeWhile p).length = n
  | [], n, _, hn, _ => by simp at hn; subst hn; rfl
  | y :: l, 0, _, _, hx => by
    rcases hx with hx | ⟨x, hx, hp⟩
    · simp at hx
    · simp at hx; subst hx; simp [hp]
  | y :: l, n + 1, h, hn, hx => by
    have hy : p y = true := h 0 y (by omega) rfl
    simp only [List.length_cons] at hn hx
    rw [List.takeWhile_cons, if_pos hy, List.length_cons, takeWhile_len (n := n) (fun i x hi hx => h (i + 1) x (by omega) (by simpa using hx)) (by omega)]
    rcases hx with hx | ⟨x, hx, hp⟩
    · exact .inl (by omega)
    · exact .inr ⟨x, by simpa using hx, hp⟩
theorem str_at {s : ByteArray} {k : Nat} (h : k < s.size) : s.data.toList[k]? = some s[k] := by
  have : k < s.data.toList.length := by simpa using h
  rw [List.getElem?_eq_getElem this]; rfl
theorem str_len (s : ByteArray) : s.data.toList.length = s.size := by simp

set_option maxHeartbeats 1000000 in
theorem spanW_ok (s : ByteArray) (w : World) (hs : s.size ≤ 9223372036854775807) : Calls Tryz.prog 174 #[.string s, .func (.func 175) #[] #[]] w (RetW w (.int .i64 ((s.data.toList.takeWhile wordB).length : Nat))) := by
  obtain ⟨z, hz⟩ : ∃ z, (s.data.toList.takeWhile wordB).length = z := ⟨_, rfl⟩
  rw [hz]
  have HZ := Lib.hid hz
  clear hz
  go_enter Tryz.func174, Tryz.ntmps174
  go_wp2_with fail
  go_loopw [5] (fun v wr => ∃ n : Nat, v = .int .i64 n ∧ n ≤ s.size ∧ (∀ i x, i < n → s.data.toList[i]? = some x → wordB x = true) ∧ wr = w) (fun v _ => s.size - (intOf v).toNat)
  case atStart => exact ⟨0, rfl, Nat.zero_le _, fun i x hi => absurd hi (Nat.not_lt_zero _), rfl⟩
  case round =>
    obtain ⟨n, rfl, hn, hall, rfl⟩ := hrel
    have HA := Lib.hid hall
    clear hall
    by_cases hlt : n < s.size
    · have hlt2 : (n : Int) < (s.size : Int) := by omega
      have hx := str_at hlt
      have hw := inWord_ok s[n] wr
      obtain ⟨x, hxx⟩ : ∃ x, s[n] = x := ⟨_, rfl⟩
      rw [hxx] at hx hw
      obtain ⟨b, hb⟩ : ∃ b, wordB x = b := ⟨_, rfl⟩
      rw [hb] at hw
      have HX := Lib.hid hx
      have HW := Lib.hid hw
      have HB := Lib.hid hb
      clear hx hw hb
      go_wp2_with fail
      refine HW.out.mono ?_
      rintro e w' ⟨rfl, rfl⟩
      cases b with
      | true =>
        go_wp2_with fail
        go_roundw
        case rel =>
          refine ⟨n + 1, by go_num, by omega, fun i y hi hy => ?_, trivial⟩
          rcases (show i < n ∨ i = n by omega) with h | h
          · exact HA.out i y h hy
          · subst h
            rw [HX.out] at hy
            injection hy with hy
            rw [← hy]; exact HB.out
        case measure => simp [intOf]; omega
      | false =>
        have hzn : z = n := by rw [← HZ.out]; exact takeWhile_len HA.out (by rw [str_len]; exact hn) (.inr ⟨x, HX.out, HB.out⟩)
        have HN := Lib.hid hzn
        clear hzn
        go_wp2_with fail
        go_ret
        exact ⟨by rw [HN.out]; rfl, rfl⟩
    · have hne : n = s.size := by omega
      have hzn : z = n := by rw [← HZ.out]; exact takeWhile_len HA.out (by rw [str_len]; exact hn) (.inl (by rw [str_len]; exact hne))
      have HN := Lib.hid hzn
      clear hzn hne
      go_wp2_with fail
      go_ret
      exact ⟨by rw [HN.out]; rfl, rfl⟩
set_option maxHeartbeats 1000000 in
theorem spanD_ok (s : ByteArray) (w : World) (hs : s.size ≤ 9223372036854775807) : Calls Tryz.prog 174 #[.string s, .func (.func 176) #[] #[]] w (RetW w (.int .i64 ((s.data.toList.takeWhile digitB).length : Nat))) := by
  obtain ⟨z, hz⟩ : ∃ z, (s.data.toList.takeWhile digitB).length = z := ⟨_, rfl⟩
  rw [hz]
  have HZ := Lib.hid hz
  clear hz
  go_enter Tryz.func174, Tryz.ntmps174
  go_wp2_with fail
  go_loopw [5] (fun v wr => ∃ n : Nat, v = .int .i64 n ∧ n ≤ s.size ∧ (∀ i x, i < n → s.data.toList[i]? = some x → digitB x = true) ∧ wr = w) (fun v _ => s.size - (intOf v).toNat)
  case atStart => exact ⟨0, rfl, Nat.zero_le _, fun i x hi => absurd hi (Nat.not_lt_zero _), rfl⟩
  case round =>
    obtain ⟨n, rfl, hn, hall, rfl⟩ := hrel
    have HA := Lib.hid hall
    clear hall
    by_cases hlt : n < s.size
    · have hlt2 : (n : Int) < (s.size : Int) := by omega
      have hx := str_at hlt
      have hw := digit_ok s[n] wr
      obtain ⟨x, hxx⟩ : ∃ x, s[n] = x := ⟨_, rfl⟩
      rw [hxx] at hx hw
      obtain ⟨b, hb⟩ : ∃ b, digitB x = b := ⟨_, rfl⟩
      rw [hb] at hw
      have HX := Lib.hid hx
      have HW := Lib.hid hw
      have HB := Lib.hid hb
      clear hx hw hb
      go_wp2_with fail
      refine HW.out.mono ?_
      rintro e w' ⟨rfl, rfl⟩
      cases b with
      | true =>
        go_wp2_with fail
        go_roundw
        case rel =>
          refine ⟨n + 1, by go_num, by omega, fun i y hi hy => ?_, trivial⟩
          rcases (show i < n ∨ i = n by omega) with h | h
          · exact HA.out i y h hy
          · subst h
            rw [HX.out] at hy
            injection hy with hy
            rw [← hy]; exact HB.out
        case measure => simp [intOf]; omega
      | false =>
        have hzn : z = n := by rw [← HZ.out]; exact takeWhile_len HA.out (by rw [str_len]; exact hn) (.inr ⟨x, HX.out, HB.out⟩)
        have HN := Lib.hid hzn
        clear hzn
        go_wp2_with fail
        go_ret
        exact ⟨by rw [HN.out]; rfl, rfl⟩
    · have hne : n = s.size := by omega
      have hzn : z = n := by rw [← HZ.out]; exact takeWhile_len HA.out (by rw [str_len]; exact hn) (.inl (by rw [str_len]; exact hne))
      have HN := Lib.hid hzn
      clear hzn hne
      go_wp2_with fail
      go_ret
      exact ⟨by rw [HN.out]; rfl, rfl⟩

/-- the length of the word at the head, 0 if there is none -/
def wordLen (l : List UInt8) : Nat := match l with | [] => 0 | c :: _ => if letterB c then (l.takeWhile wordB).length else 0
/-- the length of the number at the head, 0 if there is none -/
def numLen (l : List UInt8) : Nat :=
  if (l.takeWhile digitB).length = 0 ∨ 6 < (l.takeWhile digitB).length ∨ (l.head? = some 48 ∧ 1 < (l.takeWhile digitB).length) ∨ ((l[(l.takeWhile digitB).length]?.map wordB).getD false = true) then 0 else (l.takeWhile digitB).length

theorem wordL_ok (s : ByteArray) (w : World) (hs : s.size ≤ 9223372036854775807) : Calls Tryz.prog 146 #[.string s] w (RetW w (.int .i64 (wordLen s.data.toList : Nat))) := by
  by_cases h : s = ⟨#[]⟩
  · subst h
    go_enter Tryz.func146, Tryz.ntmps146
    go_wp2_with fail
    go_ret
    exact ⟨rfl, rfl⟩
  · have hne : (s.toList == []) = false := str_ne (l := []) h
    have h0 : 0 < s.size := by
      rcases Nat.eq_zero_or_pos s.size with h0 | h0
      · exact absurd (ByteArray.ext (Array.eq_empty_of_size_eq_zero h0)) h
      · exact h0
    have hsp := spanW_ok s w hs
    have hl := letter_ok s[0] w
    have hx := str_at h0
    obtain ⟨x, hxx⟩ : ∃ x, s[0] = x := ⟨_, rfl⟩
    rw [hxx] at hl hx
    obtain ⟨b, hb⟩ : ∃ b, letterB x = b := ⟨_, rfl⟩
    obtain ⟨z, hz⟩ : ∃ z, (s.data.toList.takeWhile wordB).length = z := ⟨_, rfl⟩
    have hw : wordLen s.data.toList = if b then z else 0 := by
      unfold wordLen
      cases hd : s.data.toList with
      | nil => rw [hd] at hx; cases hx
      | cons y l =>
        rw [hd] at hx
        simp at hx
        subst hx
        simp only [hb]
        rw [← hd, hz]
    rw [hz] at hsp
    rw [hb] at hl
    have HS := Lib.hid hsp
    have HL := Lib.hid hl
    rw [hw]
    clear hsp hl hb hz hw hx h
    cases b with
    | true =>
      rw [if_pos rfl]
      go_enter Tryz.func146, Tryz.ntmps146
      go_wp2_with fail
      refine HL.out.mono ?_
      rintro e w' ⟨rfl, rfl⟩
      go_wp2_with fail
      refine HS.out.mono ?_
      rintro e w' ⟨rfl, rfl⟩
      go_wp2_with fail
      go_ret
      exact ⟨rfl, rfl⟩
    | false =>
      rw [if_neg (by simp)]
      go_enter Tryz.func146, Tryz.ntmps146
      go_wp2_with fail
      refine HL.out.mono ?_
      rintro e w' ⟨rfl, rfl⟩
      go_wp2_with fail
      go_ret
      exact ⟨rfl, rfl⟩

theorem tw_le (p : UInt8 → Bool) (l : List UInt8) : (l.takeWhile p).length ≤ l.length := (List.takeWhile_sublist p).length_le
theorem numberL_ok (s : ByteArray) (w : World) (hs : s.size ≤ 9223372036854775807) : Calls Tryz.prog 147 #[.string s] w (RetW w (.int .i64 (numLen s.data.toList : Nat))) := by
  have hsp := spanD_ok s w hs
  have hle := tw_le digitB s.data.toList
  rw [str_len] at hle
  have hdef : numLen s.data.toList = numLen s.data.toList := rfl
  unfold numLen at hdef
  obtain ⟨z, hz⟩ : ∃ z, numLen s.data.toList = z := ⟨_, rfl⟩
  obtain ⟨n, hn⟩ : ∃ n, (s.data.toList.takeWhile digitB).length = n := ⟨_, rfl⟩
  rw [hn] at hsp hle
  have hzz : z = if n = 0 ∨ 6 < n ∨ (s.data.toList.head? = some 48 ∧ 1 < n) ∨ ((s.data.toList[n]?.map wordB).getD false = true) then 0 else n := by rw [← hz]; unfold numLen; rw [hn]
  rw [hz]
  have HS := Lib.hid hsp
  have HZ := Lib.hid hzz
  clear hsp hz hn hzz hdef
  go_enter Tryz.func147, Tryz.ntmps147
  go_wp2_with fail
  refine HS.out.mono ?_
  rintro e w' ⟨rfl, rfl⟩
  by_cases h0 : n = 0
  · have hz0 : z = 0 := by rw [HZ.out, if_pos (.inl h0)]
    have HZ0 := Lib.hid hz0
    subst h0
    clear hz0
    go_wp2_with fail
    go_ret
    exact ⟨by rw [HZ0.out]; rfl, rfl⟩
  · have hb0 : ((n : Int) == 0) = false := by rw [beq_eq_false_iff_ne]; omega
    have hpos : 0 < s.size := by omega
    by_cases h6 : 6 < n
    · have hz0 : z = 0 := by rw [HZ.out, if_pos (.inr (.inl h6))]
      have HZ0 := Lib.hid hz0
      have hb6 : (6 < (n : Int)) = True := eq_true (by omega)
      clear hz0 h0
      go_wp2_with fail
      go_ret
      exact ⟨by rw [HZ0.out]; rfl, rfl⟩
    · have hb6 : (6 < (n : Int)) = False := eq_false (by omega)
      have hx := str_at hpos
      have hhead : s.data.toList.head? = some s[0] := by rw [List.head?_eq_getElem?]; exact hx
      obtain ⟨x, hxx⟩ : ∃ x, s[0] = x := ⟨_, rfl⟩
      rw [hxx] at hx hhead
      have hx48 : ((x.toNat : Int) == 48) = decide (x = 48) := by
        rw [Bool.eq_iff_iff, beq_iff_eq, decide_eq_true_iff]
        exact ⟨fun h => UInt8.toNat_inj.1 (by have : x.toNat = 48 := by omega
                                              rw [this]; rfl), fun h => by rw [h]; rfl⟩
      have HH := Lib.hid hhead
      clear hx hhead
      by_cases h48 : x = 48 ∧ 1 < n
      · have hz0 : z = 0 := by rw [HZ.out, if_pos (.inr (.inr (.inl ⟨by rw [HH.out, h48.1], h48.2⟩)))]
        have HZ0 := Lib.hid hz0
        rw [decide_eq_true h48.1] at hx48
        have hb1 : (1 < (n : Int)) = True := eq_true (by omega)
        clear hz0 h0 h6 h48
        go_wp2_with fail
        go_ret
        exact ⟨by rw [HZ0.out]; rfl, rfl⟩
      · have hlast : ∀ b, (s.data.toList[n]?.map wordB).getD false = b → z = if b then 0 else n := fun b hb => by
          rw [HZ.out]
          cases b with
          | true => rw [if_pos (.inr (.inr (.inr hb))), if_pos rfl]
          | false =>
            rw [if_neg, if_neg (by simp)]
            rintro (h | h | h | h)
            · exact h0 h
            · exact h6 h
            · rw [HH.out] at h
              exact h48 ⟨by simpa using h.1, h.2⟩
            · rw [hb] at h; cases h
        have HLA := Lib.hid hlast
        have hfin : ∀ (c : Bool), ((x.toNat : Int) == 48) = c → (c = true → ¬ 1 < n) := fun c hc h h1 => h48 ⟨by rw [hx48] at hc; simpa [h] using hc, h1⟩
        obtain ⟨c, hc⟩ : ∃ c, ((x.toNat : Int) == 48) = c := ⟨_, rfl⟩
        have hc1 := hfin c hc
        clear hlast hfin hx48 h48
        by_cases hlt : n < s.size
        · have hlt2 : ((n : Int) < (s.size : Int)) = True := eq_true (by omega)
          have hy := str_at hlt
          have hiw := inWord_ok s[n] w
          obtain ⟨y, hyy⟩ : ∃ y, s[n] = y := ⟨_, rfl⟩
          rw [hyy] at hy hiw
          obtain ⟨b, hb⟩ : ∃ b, wordB y = b := ⟨_, rfl⟩
          rw [hb] at hiw
          have hz2 := HLA.out b (by rw [hy]; simpa using hb)
          have HZ2 := Lib.hid hz2
          have HI := Lib.hid hiw
          clear hy hiw hb hz2
          cases c with
          | true =>
            have hb1 : (1 < (n : Int)) = False := eq_false (by have := hc1 rfl; omega)
            go_wp2_with fail
            refine HI.out.mono ?_
            rintro e w' ⟨rfl, rfl⟩
            cases b with
            | true => go_wp2_with fail; go_ret; exact ⟨by rw [HZ2.out]; rfl, rfl⟩
            | false => go_wp2_with fail; go_ret; exact ⟨by rw [HZ2.out]; rfl, rfl⟩
          | false =>
            go_wp2_with fail
            refine HI.out.mono ?_
            rintro e w' ⟨rfl, rfl⟩
            cases b with
            | true => go_wp2_with fail; go_ret; exact ⟨by rw [HZ2.out]; rfl, rfl⟩
            | false => go_wp2_with fail; go_ret; exact ⟨by rw [HZ2.out]; rfl, rfl⟩
        · have hlt2 : ((n : Int) < (s.size : Int)) = False := eq_false (by omega)
          have hz2 := HLA.out false (by rw [List.getElem?_eq_none (by rw [str_len]; omega)]; rfl)
          have HZ2 := Lib.hid hz2
          clear hz2
          cases c with
          | true =>
            have hb1 : (1 < (n : Int)) = False := eq_false (by have := hc1 rfl; omega)
            go_wp2_with fail
            go_ret
            exact ⟨by rw [HZ2.out]; rfl, rfl⟩
          | false =>
            go_wp2_with fail
            go_ret
            exact ⟨by rw [HZ2.out]; rfl, rfl⟩
end Go.Proofs.YtjlhbfbdcfajfaaGreatDoor
/- lex: strings.Cut at a slash; Bare; Quote. -/
namespace Go.Proofs.YtjlhbfbdcfajfaaGreatDoor
open Go.RowKit

/-- what stands before the first slash, behind it, and whether there is one -/
def cutA (l : List UInt8) : List UInt8 := l.takeWhile (· != 47)
def cutB (l : List UInt8) : List UInt8 := (l.dropWhile (· != 47)).drop 1
def cutF (l : List UInt8) : Bool := l.contains 47

theorem while_all {p : UInt8 → Bool} : ∀ {l : List UInt8}, (∀ x ∈ l, p x = true) → l.takeWhile p = l ∧ l.dropWhile p = []
  | [], _ => ⟨rfl, rfl⟩
  | x :: l, h => by
    have hx := h x (by simp)
    obtain ⟨h1, h2⟩ := while_all (l := l) (fun y hy => h y (by simp [hy]))
    exact ⟨by rw [List.takeWhile_cons, if_pos hx, h1], by rw [List.dropWhile_cons, if_pos hx, h2]⟩
theorem cut_none {l : List UInt8} (h : Lib.indexByte l 47 = -1) : cutA l = l ∧ cutB l = [] ∧ cutF l = false := by
  have h1 := Lib.indexByte_none h
  have h2 : ∀ x ∈ l, (x != 47) = true := by
    intro x hx
    obtain ⟨k, hk⟩ := List.getElem?_of_mem hx
    rw [bne_iff_ne]
    rintro rfl
    exact h1 k hk
  refine ⟨?_, ?_, ?_⟩
  · unfold cutA; exact (while_all h2).1
  · unfold cutB; rw [(while_all h2).2]; rfl
  · unfold cutF
    rw [Bool.eq_false_iff]
    intro hc
    have := List.contains_iff_mem.1 hc
    simpa using h2 _ this
theorem cut_some : ∀ {l : List UInt8} {k : Nat}, l[k]? = some 47 → (∀ j, j < k → l[j]? ≠ some 47) → cutA l = l.take k ∧ cutB l = l.drop (k + 1) ∧ cutF l = true
  | [], k, h, _ => by simp at h
  | x :: l, 0, h, _ => by
    simp at h
    subst h
    simp [cutA, cutB, cutF]
  | x :: l, k + 1, h, hne => by
    have hx : (x != 47) = true := by
      rw [bne_iff_ne]; rintro rfl
      exact hne 0 (by omega) rfl
    obtain ⟨h1, h2, h3⟩ := cut_some (l := l) (k := k) (by simpa using h) (fun j hj => by have := hne (j + 1) (by omega); simpa using this)
    unfold cutA cutB cutF at *
    refine ⟨?_, ?_, ?_⟩
    · rw [List.takeWhile_cons, if_pos hx, h1, List.take_succ_cons]
    · rw [List.dropWhile_cons, if_pos hx, h2, List.drop_succ_cons]
    · rw [List.contains_cons, h3, Bool.or_true]
theorem ba_of {s : ByteArray} {l : List UInt8} (h : s.data.toList = l) : s = ⟨l.toArray⟩ := by
  apply ByteArray.ext
  rw [← h]
theorem extract_take (s : ByteArray) (k : Nat) : s.extract 0 k = ⟨(s.data.toList.take k).toArray⟩ := by
  apply ba_of
  rw [ByteArray.data_extract]
  simp
theorem extract_drop (s : ByteArray) (k : Nat) : s.extract k s.size = ⟨(s.data.toList.drop k).toArray⟩ := by
  apply ba_of
  rw [ByteArray.data_extract, Array.toList_extract]
  have : s.size = s.data.toList.length := by simp
  rw [this]
  simp [List.extract_eq_take_drop]
  rw [List.take_of_length_le (by simp)]
theorem indexByte_cases (l : List UInt8) : Lib.indexByte l 47 = -1 ∨ ∃ k : Nat, Lib.indexByte l 47 = (k : Int) ∧ l[k]? = some 47 ∧ (∀ j, j < k → l[j]? ≠ some 47) ∧ k < l.length := by
  have hge := Lib.indexByte_ge l 47
  by_cases h : Lib.indexByte l 47 = -1
  · exact .inl h
  · obtain ⟨k, hk⟩ : ∃ k : Nat, Lib.indexByte l 47 = (k : Int) := ⟨(Lib.indexByte l 47).toNat, by omega⟩
    obtain ⟨h1, h2⟩ := Lib.indexByte_some hk
    exact .inr ⟨k, hk, h1, h2, (List.getElem?_eq_some_iff.1 h1).1⟩

theorem cutS_ok (s : ByteArray) (w : World) (hs : s.size ≤ 9223372036854775807) : Calls Tryz.prog 177 #[.string s, .string ⟨#[47]⟩] w (RetQ w (.tuple #[.string ⟨(cutA s.data.toList).toArray⟩, .string ⟨(cutB s.data.toList).toArray⟩, .bool (cutF s.data.toList)])) := by
  have hi := Tryz.stringslite_Index_one s 47 w
  rcases indexByte_cases s.data.toList with h | ⟨k, hk, h1, h2, h3⟩
  · rw [h] at hi
    obtain ⟨c1, c2, c3⟩ := cut_none h
    rw [c1, c2, c3]
    have hss : (⟨s.data.toList.toArray⟩ : ByteArray) = s := rfl
    rw [hss]
    have HI := Lib.hid hi
    clear hi h c1 c2 c3 hss
    go_enter Tryz.func177, Tryz.ntmps177
    go_wp2_with fail
    refine HI.out.mono ?_
    rintro e w' ⟨rfl, rfl⟩
    go_wp2_with fail
    go_ret3
    exact ⟨rfl, 0, rfl⟩
  · rw [hk] at hi
    obtain ⟨c1, c2, c3⟩ := cut_some h1 h2
    rw [c1, c2, c3, ← extract_take, ← extract_drop]
    rw [str_len] at h3
    have HI := Lib.hid hi
    have hk1 : (k : Int) ≤ (s.size : Int) := by omega
    have hk2 : (k : Int) + 1 ≤ (s.size : Int) := by omega
    clear hi hk c1 c2 c3 h1 h2
    go_enter Tryz.func177, Tryz.ntmps177
    go_wp2_with fail
    refine HI.out.mono ?_
    rintro e w' ⟨rfl, rfl⟩
    go_wp2_with fail
    go_quiet (fail)
    go_wp2_with fail
    go_ret3
    exact ⟨rfl, _, rfl⟩
theorem cut_ok (s : ByteArray) (w : World) (hs : s.size ≤ 9223372036854775807) : Calls Tryz.prog 148 #[.string s, .string ⟨#[47]⟩] w (RetQ w (.tuple #[.string ⟨(cutA s.data.toList).toArray⟩, .string ⟨(cutB s.data.toList).toArray⟩, .bool (cutF s.data.toList)])) := by
  have h := cutS_ok s w hs
  obtain ⟨a, ha⟩ : ∃ a : ByteArray, ⟨(cutA s.data.toList).toArray⟩ = a := ⟨_, rfl⟩
  obtain ⟨b, hb⟩ : ∃ a : ByteArray, ⟨(cutB s.data.toList).toArray⟩ = a := ⟨_, rfl⟩
  obtain ⟨c, hc⟩ : ∃ a, cutF s.data.toList = a := ⟨_, rfl⟩
  rw [ha, hb, hc] at h ⊢
  have H := Lib.hid h
  clear h ha hb hc
  go_enter Tryz.func148, Tryz.ntmps148
  go_wp2_with fail
  refine H.out.mono ?_
  rintro e w' ⟨rfl, n, rfl⟩
  go_wp2_with fail
  go_ret3
  exact ⟨rfl, n, rfl⟩

/-- a word, a number, or a fraction -/
def bareL (l : List UInt8) : Bool :=
  if l = [] then false
  else if wordLen l = l.length ∨ numLen l = l.length then true
  else cutF l && (decide (cutA l ≠ []) && (decide (cutB l ≠ []) && (decide (numLen (cutA l) = (cutA l).length) && decide (numLen (cutB l) = (cutB l).length))))

theorem cutA_size (s : ByteArray) : (⟨(cutA s.data.toList).toArray⟩ : ByteArray).size ≤ s.size := by
  show (cutA s.data.toList).toArray.size ≤ _
  rw [List.size_toArray, ← str_len]
  exact (List.takeWhile_sublist _).length_le
theorem cutB_size (s : ByteArray) : (⟨(cutB s.data.toList).toArray⟩ : ByteArray).size ≤ s.size := by
  show (cutB s.data.toList).toArray.size ≤ _
  rw [List.size_toArray, ← str_len]
  have h := (List.dropWhile_sublist (l := s.data.toList) (· != 47)).length_le
  unfold cutB
  rw [List.length_drop]
  omega
theorem ba_toList (l : List UInt8) : (⟨l.toArray⟩ : ByteArray).data.toList = l := rfl

set_option maxHeartbeats 1000000 in
theorem bare_ok (s : ByteArray) (w : World) (hs : s.size ≤ 9223372036854775807) : Calls Tryz.prog 120 #[.string s] w (RetV w (.bool (bareL s.data.toList))) := by
  by_cases h : s = ⟨#[]⟩
  · subst h
    go_enter Tryz.func120, Tryz.ntmps120
    go_wp2_with fail
    go_ret
    exact ⟨rfl, Below.refl _ _⟩
  · have hne : (s.toList == []) = false := str_ne (l := []) h
    have hl0 : s.data.toList ≠ [] := fun e => h (ba_of e)
    have hw := wordL_ok s w hs
    have hn := numberL_ok s w hs
    have hcut := cut_ok s w hs
    obtain ⟨x, hx⟩ : ∃ x, wordLen s.data.toList = x := ⟨_, rfl⟩
    obtain ⟨y, hy⟩ : ∃ x, numLen s.data.toList = x := ⟨_, rfl⟩
    obtain ⟨z, hz⟩ : ∃ z, bareL s.data.toList = z := ⟨_, rfl⟩
    have hzz := hz
    unfold bareL at hzz
    rw [if_neg hl0, hx, hy, str_len] at hzz
    rw [hx] at hw
    rw [hy] at hn
    rw [hz]
    have HW := Lib.hid hw
    have HN := Lib.hid hn
    have HZ := Lib.hid hzz
    clear hw hn hx hy hz hl0 hzz
    go_enter Tryz.func120, Tryz.ntmps120
    go_wp2_with fail
    refine HW.out.mono ?_
    rintro e w' ⟨rfl, rfl⟩
    by_cases h1 : x = s.size
    · have hb1 : ((x : Int) == (s.size : Int)) = true := by rw [beq_iff_eq]; omega
      have hz1 : z = true := by rw [← HZ.out, if_pos (.inl h1)]
      have HZ1 := Lib.hid hz1
      clear h1 hz1
      go_wp2_with fail
      go_ret
      exact ⟨by rw [HZ1.out]; rfl, Below.refl _ _⟩
    · have hb1 : ((x : Int) == (s.size : Int)) = false := by rw [beq_eq_false_iff_ne]; omega
      go_wp2_with fail
      refine HN.out.mono ?_
      rintro e w' ⟨rfl, rfl⟩
      by_cases h2 : y = s.size
      · have hb2 : ((y : Int) == (s.size : Int)) = true := by rw [beq_iff_eq]; omega
        have hz1 : z = true := by rw [← HZ.out, if_pos (.inr h2)]
        have HZ1 := Lib.hid hz1
        clear h2 h1 hz1
        go_wp2_with fail
        go_ret
        exact ⟨by rw [HZ1.out]; rfl, Below.refl _ _⟩
      · have hb2 : ((y : Int) == (s.size : Int)) = false := by rw [beq_eq_false_iff_ne]; omega
        have hz1 := HZ.out
        rw [if_neg (fun h => h.elim h1 h2)] at hz1
        have ha := cutA_size s
        have hb := cutB_size s
        have hna := fun w => numberL_ok ⟨(cutA s.data.toList).toArray⟩ w (Nat.le_trans ha hs)
        have hnb := fun w => numberL_ok ⟨(cutB s.data.toList).toArray⟩ w (Nat.le_trans hb hs)
        obtain ⟨a, hea⟩ : ∃ a : ByteArray, ⟨(cutA s.data.toList).toArray⟩ = a := ⟨_, rfl⟩
        obtain ⟨b, heb⟩ : ∃ a : ByteArray, ⟨(cutB s.data.toList).toArray⟩ = a := ⟨_, rfl⟩
        obtain ⟨c, hec⟩ : ∃ a, cutF s.data.toList = a := ⟨_, rfl⟩
        have hla : cutA s.data.toList = a.data.toList := by rw [← hea]
        have hlb : cutB s.data.toList = b.data.toList := by rw [← heb]
        rw [hea, heb, hec] at hcut
        rw [hea] at hna ha
        rw [heb] at hnb hb
        rw [hla, hlb, hec] at hz1
        obtain ⟨na, hena⟩ : ∃ n, numLen a.data.toList = n := ⟨_, rfl⟩
        obtain ⟨nb, henb⟩ : ∃ n, numLen b.data.toList = n := ⟨_, rfl⟩
        rw [hena, henb, str_len, str_len] at hz1
        rw [hena] at hna
        rw [henb] at hnb
        have HCUT := Lib.hid hcut
        have HNA := Lib.hid hna
        have HNB := Lib.hid hnb
        have HZ1 := Lib.hid hz1
        clear h1 h2 hz1 hea heb hec hla hlb hena henb hcut hna hnb
        go_wp2_with fail
        refine HCUT.out.mono ?_
        rintro e w2 ⟨rfl, m, rfl⟩
        cases c with
        | false =>
          have hzf : z = false := by rw [← HZ1.out]; rfl
          have HZF := Lib.hid hzf
          clear hzf
          go_wp2_with fail
          go_ret
          exact ⟨by rw [HZF.out]; rfl, below_drewN (Below.refl _ _) m⟩
        | true =>
          by_cases h3 : a = ⟨#[]⟩
          · have hzf : z = false := by rw [← HZ1.out, h3]; rfl
            have HZF := Lib.hid hzf
            clear hzf
            subst h3
            go_wp2_with fail
            go_ret
            exact ⟨by rw [HZF.out]; rfl, below_drewN (Below.refl _ _) m⟩
          · have hea3 : (a.toList == []) = false := str_ne (l := []) h3
            have ha4 : a.data.toList ≠ [] := fun e => h3 (ba_of e)
            by_cases h4 : b = ⟨#[]⟩
            · have hzf : z = false := by rw [← HZ1.out, h4]; simp
              have HZF := Lib.hid hzf
              clear hzf h3 ha4
              subst h4
              go_wp2_with fail
              go_ret
              exact ⟨by rw [HZF.out]; rfl, below_drewN (Below.refl _ _) m⟩
            · have heb3 : (b.toList == []) = false := str_ne (l := []) h4
              have hb4 : b.data.toList ≠ [] := fun e => h4 (ba_of e)
              have hz2 := HZ1.out
              rw [decide_eq_true ha4, decide_eq_true hb4] at hz2
              have HZ2 := Lib.hid hz2
              clear hz2 h3 h4 ha4 hb4
              go_wp2_with fail
              refine (HNA.out _).mono ?_
              rintro e w' ⟨rfl, rfl⟩
              by_cases h5 : na = a.size
              · have hb5 : ((na : Int) == (a.size : Int)) = true := by rw [beq_iff_eq]; omega
                go_wp2_with fail
                refine (HNB.out _).mono ?_
                rintro e w' ⟨rfl, rfl⟩
                have hzf : z = ((nb : Int) == (b.size : Int)) := by
                  rw [← HZ2.out, decide_eq_true h5]
                  rw [Bool.eq_iff_iff]
                  simp
                  omega
                have HZF := Lib.hid hzf
                clear hzf h5
                go_wp2_with fail
                go_ret
                exact ⟨by rw [HZF.out]; rfl, below_drewN (Below.refl _ _) m⟩
              · have hb5 : ((na : Int) == (a.size : Int)) = false := by rw [beq_eq_false_iff_ne]; omega
                have hzf : z = false := by rw [← HZ2.out, decide_eq_false h5]; simp
                have HZF := Lib.hid hzf
                clear hzf h5
                go_wp2_with fail
                go_ret
                exact ⟨by rw [HZF.out]; rfl, below_drewN (Below.refl _ _) m⟩
end Go.Proofs.YtjlhbfbdcfajfaaGreatDoor
/- lex: Quote. -/
namespace Go.Proofs.YtjlhbfbdcfajfaaGreatDoor
open Go.RowKit

/-- a byte as it stands in a string token -/
def escB (c : UInt8) : List UInt8 := if c.toNat = 34 ∨ c.toNat = 92 then [92, c] else [c]
def escL (l : List UInt8) : List UInt8 := l.flatMap escB
/-- are all bytes printable? -/
def plainL (l : List UInt8) : Bool := l.all plainB
def quoteL (l : List UInt8) : List UInt8 := 34 :: escL l ++ [34]
theorem escL_snoc (l : List UInt8) (c : UInt8) : escL (l ++ [c]) = escL l ++ escB c := by simp [escL]
theorem escL_len (l : List UInt8) : (escL l).length ≤ 2 * l.length := by
  induction l with
  | nil => simp [escL]
  | cons x l ih =>
    have : escL (x :: l) = escB x ++ escL l := rfl
    rw [this, List.length_append, List.length_cons]
    have : (escB x).length ≤ 2 := by unfold escB; split <;> simp
    omega
theorem take_succ_of {l : List UInt8} {k : Nat} {x : UInt8} (h : l[k]? = some x) : l.take (k + 1) = l.take k ++ [x] := by rw [List.take_add_one, h]; rfl
theorem all_take_of {p : UInt8 → Bool} {l : List UInt8} {k : Nat} {x : UInt8} (h : l[k]? = some x) : (l.take (k + 1)).all p = ((l.take k).all p && p x) := by rw [take_succ_of h]; simp
theorem all_false_of {p : UInt8 → Bool} {l : List UInt8} {k : Nat} {x : UInt8} (h : l[k]? = some x) (hp : p x = false) : l.all p = false := by
  rw [List.all_eq_false]
  exact ⟨x, List.mem_of_getElem? h, by simp [hp]⟩

/-- a row that has just been laid -/
theorem Own.lit {α : Type} [Rep α] (w : World) (e : TypeId) (vs : List Value) (xs : List α) (hl : vs.length = xs.length) (h1 : Rep.sz α = 1) (hx : xs.length ≤ maxLen) (hf : Flat (w.alloc (.cells vs.toArray e)) NoBlk vs xs) :
    Own (w.alloc (.cells vs.toArray e)) NoBlk w.heap.size e (.slice (some ⟨w.heap.size, 0, none⟩) xs.length xs.length) xs :=
  ⟨vs, ⟨by rw [h1, Nat.mul_one]; exact hl, .inr ⟨w.heap.size, xs.length, vs.toArray, rfl, Nat.le_refl _, heap_alloc_new _ _, Nat.le_refl _, hx, by rw [h1, Nat.mul_one]; simpa using hl, by rw [h1, Nat.mul_one, ← hl]; simp⟩⟩, hf, fun _ h => h.elim⟩

set_option maxRecDepth 20000 in
set_option maxHeartbeats 2000000 in
theorem quote_ok (s : ByteArray) (w : World) (hs : s.size ≤ 17592186044416) : Calls Tryz.prog 93 #[.string s] w
    (RetV w (.tuple #[.string (if plainL s.data.toList then ⟨(quoteL s.data.toList).toArray⟩ else ⟨#[]⟩), .bool (plainL s.data.toList)])) := by
  obtain ⟨l, hl⟩ : ∃ l, s.data.toList = l := ⟨_, rfl⟩
  have hll : l.length = s.size := by rw [← hl]; exact str_len s
  have hat : ∀ k (h : k < s.size), l[k]? = some s[k] := fun k h => by rw [← hl]; exact str_at h
  rw [hl]
  obtain ⟨b, hb⟩ : ∃ b, plainL l = b := ⟨_, rfl⟩
  obtain ⟨t, ht⟩ : ∃ t : ByteArray, (if b then ⟨(quoteL l).toArray⟩ else ⟨#[]⟩) = t := ⟨_, rfl⟩
  rw [hb, ht]
  have HAT := Lib.hid hat
  have HLL := Lib.hid hll
  have HB := Lib.hid hb
  have HT := Lib.hid ht
  clear hl hll hat hb ht
  go_enter Tryz.func93, Tryz.ntmps93
  go_wp2_with fail
  go_loopw [4, 9] (fun vo iv wr => ∃ k : Nat, iv = .int .i64 k ∧ k ≤ s.size ∧ (l.take k).all plainB = true ∧ Own wr NoBlk w.heap.size 5 vo (34 :: escL (l.take k)) ∧ Below w.heap.size w wr) (fun _ iv _ => s.size - (intOf iv).toNat)
  case atStart =>
    exact ⟨0, rfl, Nat.zero_le _, rfl, Own.lit w 5 [.int .u8 34] [34] rfl rfl (by decide) (Flat.bytes [34]), (Below.refl _ _).alloc (Nat.le_refl _) _⟩
  case round =>
    obtain ⟨k, rfl, hk, hall, ho, hbl⟩ := hrel
    obtain ⟨Ao, no, co, rfl, hno⟩ := ho.slice
    have hlen : (34 :: escL (l.take k)).length ≤ 2 * k + 1 := by
      have := escL_len (l.take k)
      rw [List.length_take] at this
      rw [List.length_cons]
      omega
    have HALL := Lib.hid hall
    have HO := Lib.hid ho
    have HBL := Lib.hid hbl
    have HLEN := Lib.hid hlen
    clear hall ho hbl hno hlen
    by_cases hlt : k < s.size
    · have hlt2 : (k : Int) < (s.size : Int) := by omega
      have hx := HAT.out k hlt
      have hp := printable_ok s[k] wr
      obtain ⟨x, hxx⟩ : ∃ x, s[k] = x := ⟨_, rfl⟩
      rw [hxx] at hx hp
      obtain ⟨c, hc⟩ : ∃ c, plainB x = c := ⟨_, rfl⟩
      rw [hc] at hp
      have HX := Lib.hid hx
      have HP := Lib.hid hp
      have HC := Lib.hid hc
      clear hx hp hc
      go_wp2_with fail
      refine HP.out.mono ?_
      rintro e w' ⟨rfl, rfl⟩
      cases c with
      | false =>
        have hbf : b = false := by rw [← HB.out]; exact all_false_of HX.out HC.out
        have HBF := Lib.hid hbf
        have htf : t = ⟨#[]⟩ := by rw [← HT.out, hbf]; rfl
        have HTF := Lib.hid htf
        clear hbf htf
        go_wp2_with fail
        go_ret2
        exact ⟨by rw [HBF.out, HTF.out]; rfl, HBL.out⟩
      | true =>
        obtain ⟨n, hn⟩ : ∃ n, x.toNat = n := ⟨_, rfl⟩
        have hxn : n < 256 := by rw [← hn]; exact x.toNat_lt
        have hsuc : (l.take (k + 1)).all plainB = true := by rw [all_take_of HX.out, HALL.out, HC.out]; rfl
        have HSUC := Lib.hid hsuc
        have hes : 34 :: escL (l.take (k + 1)) = (34 :: escL (l.take k)) ++ escB x := by rw [take_succ_of HX.out, escL_snoc]; rfl
        clear hsuc
        by_cases hq : n = 34 ∨ n = 92
        · have he : escB x = [92, x] := by unfold escB; rw [hn, if_pos hq]
          rw [he] at hes
          have HES := Lib.hid hes
          have HN := Lib.hid hn
          clear he hes
          have HRX : Hid ([Value.int .u8 (n : Int)] = [Value.int .u8 (x.toNat : Int)]) := Lib.hid (by rw [HN.out])
          rcases hq with rfl | rfl
          · go_wp2_with (first
             | (at_builtin
                refine wpList_append_gen (α := UInt8) (w0 := w) (B := w.heap.size) (base := w.heap.size) rfl _ _ 49 rfl 1 Tryz.bytesTy rfl HO.out HBL.out (Nat.le_refl _) HBL.out.size [.int .u8 92] 92 1 rfl rfl 5 (by simp [Value.oneCell']) (by have := HLEN.out; omega) ?_
                intro v4 w4 hown4 hb4 hg4 hl4
                obtain ⟨A4, n4, c4, rfl, hn4⟩ := hown4.slice
                have HO4 := Lib.hid hown4
                have HB4 := Lib.hid hb4
                clear hown4 hb4 hg4 hl4 hn4)
             | (at_builtin
                refine wpList_append_gen (α := UInt8) (w0 := w) (B := w.heap.size) (base := w.heap.size) rfl _ _ 49 rfl 1 Tryz.bytesTy rfl HO4.out HB4.out (Nat.le_refl _) HB4.out.size [.int .u8 34] x 1 rfl HRX.out 5 (by simp [Value.oneCell']) (by have := HLEN.out; rw [List.length_append]; simp only [List.length_singleton]; omega) ?_
                intro v5 w5 hown4 hb4 hg4 hl4
                obtain ⟨A5, n5, c5, rfl, hn4⟩ := hown4.slice
                have HO5 := Lib.hid hown4
                have HB5 := Lib.hid hb4
                clear hown4 hb4 hg4 hl4 hn4))
            go_roundw
            case rel => exact ⟨k + 1, by go_num, by omega, HSUC.out, by rw [HES.out]; simpa using HO5.out, HB5.out⟩
            case measure => simp [intOf]; omega
          · go_wp2_with (first
             | (at_builtin
                refine wpList_append_gen (α := UInt8) (w0 := w) (B := w.heap.size) (base := w.heap.size) rfl _ _ 49 rfl 1 Tryz.bytesTy rfl HO.out HBL.out (Nat.le_refl _) HBL.out.size [.int .u8 92] 92 1 rfl rfl 5 (by simp [Value.oneCell']) (by have := HLEN.out; omega) ?_
                intro v4 w4 hown4 hb4 hg4 hl4
                obtain ⟨A4, n4, c4, rfl, hn4⟩ := hown4.slice
                have HO4 := Lib.hid hown4
                have HB4 := Lib.hid hb4
                clear hown4 hb4 hg4 hl4 hn4)
             | (at_builtin
                refine wpList_append_gen (α := UInt8) (w0 := w) (B := w.heap.size) (base := w.heap.size) rfl _ _ 49 rfl 1 Tryz.bytesTy rfl HO4.out HB4.out (Nat.le_refl _) HB4.out.size [.int .u8 92] x 1 rfl HRX.out 5 (by simp [Value.oneCell']) (by have := HLEN.out; rw [List.length_append]; simp only [List.length_singleton]; omega) ?_
                intro v5 w5 hown4 hb4 hg4 hl4
                obtain ⟨A5, n5, c5, rfl, hn4⟩ := hown4.slice
                have HO5 := Lib.hid hown4
                have HB5 := Lib.hid hb4
                clear hown4 hb4 hg4 hl4 hn4))
            go_roundw
            case rel => exact ⟨k + 1, by go_num, by omega, HSUC.out, by rw [HES.out]; simpa using HO5.out, HB5.out⟩
            case measure => simp [intOf]; omega
        · have he : escB x = [x] := by unfold escB; rw [hn, if_neg hq]
          rw [he] at hes
          have HES := Lib.hid hes
          have HN := Lib.hid hn
          have HRX : Hid ([Value.int .u8 (n : Int)] = [Value.int .u8 (x.toNat : Int)]) := Lib.hid (by rw [HN.out])
          have hq1 : ((n : Int) == 34) = false := by rw [beq_eq_false_iff_ne]; omega
          have hq2 : ((n : Int) == 92) = false := by rw [beq_eq_false_iff_ne]; omega
          clear he hes hq
          go_wp2_with (first
             | (at_builtin
                refine wpList_append_gen (α := UInt8) (w0 := w) (B := w.heap.size) (base := w.heap.size) rfl _ _ 49 rfl 1 Tryz.bytesTy rfl HO.out HBL.out (Nat.le_refl _) HBL.out.size [.int .u8 (n : Int)] x 1 rfl HRX.out 5 (by simp [Value.oneCell']) (by have := HLEN.out; omega) ?_
                intro v5 w5 hown4 hb4 hg4 hl4
                obtain ⟨A5, n5, c5, rfl, hn4⟩ := hown4.slice
                have HO5 := Lib.hid hown4
                have HB5 := Lib.hid hb4
                clear hown4 hb4 hg4 hl4 hn4))
          go_roundw
          case rel => exact ⟨k + 1, by go_num, by omega, HSUC.out, by rw [HES.out]; exact HO5.out, HB5.out⟩
          case measure => simp [intOf]; omega
    · have hke : k = s.size := by omega
      have hbt : b = true := by
        have h1 := HALL.out
        rw [hke, List.take_of_length_le (by rw [HLL.out]; exact Nat.le_refl _)] at h1
        rw [← HB.out]; exact h1
      have htt : t = ⟨(quoteL l).toArray⟩ := by rw [← HT.out, hbt]; rfl
      have hol : 34 :: escL (l.take k) = 34 :: escL l := by rw [hke, List.take_of_length_le (by rw [HLL.out]; exact Nat.le_refl _)]
      have HBT := Lib.hid hbt
      have HTT := Lib.hid htt
      have HOL := Lib.hid hol
      clear hke hbt htt hol
      go_wp2_with (first
             | (at_builtin
                refine wpList_append_gen (α := UInt8) (w0 := w) (B := w.heap.size) (base := w.heap.size) rfl _ _ 49 rfl 1 Tryz.bytesTy rfl HO.out HBL.out (Nat.le_refl _) HBL.out.size [.int .u8 34] 34 1 rfl rfl 5 (by simp [Value.oneCell']) (by have := HLEN.out; omega) ?_
                intro v5 w5 hown4 hb4 hg4 hl4
                obtain ⟨A5, n5, c5, rfl, hn4⟩ := hown4.slice
                have HO5 := Lib.hid hown4
                have HB5 := Lib.hid hb4
                have hcv := strConv hown4.rs8
                rw [HOL.out] at hcv
                have hcv2 : (convert 49 9 (.slice A5 n5 c5)).run Tryz.prog w5 = .ok (.string t) w5 := by rw [hcv, HTT.out]; rfl
                clear hown4 hb4 hg4 hl4 hn4 hcv))
      go_ret2
      exact ⟨by rw [HBT.out]; rfl, HB5.out⟩
end Go.Proofs.YtjlhbfbdcfajfaaGreatDoor
