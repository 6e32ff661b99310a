/- Lists compared, and looked at, in the reference; the small functions of the laws. -/
import Derived.Test.YtofdjlngohhlmaaDoorSeq5
namespace Go.Proofs.YtofdjlngohhlmaaDoor
open Go.RowKit

set_option maxHeartbeats 400000 in
theorem less_same {S S2 : Nat → Prop} (A A2 : Option Addr) (n n2 c c2 : Nat) (xs : List Int) (w : World) (h1 : RS w S A n c xs) (h2 : RS w S2 A2 n2 c2 xs) :
    Calls Tryd.prog 15 #[.slice A n c, .slice A2 n2 c2] w (RetQ w (.bool false)) := by
  have hb := h1.max
  have hn : n = n2 := h1.len.symm.trans h2.len
  subst hn
  have H1 := Lib.hid h1
  have H2 := Lib.hid h2
  clear h1 h2
  go_enter Tryd.func15, Tryd.ntmps15
  go_wp2_with fail
  go_loopw [5] (fun i wr => ∃ k m : Nat, k ≤ n ∧ i = .int .i64 k ∧ wr = w.drewN m)
    (fun i _ => n - (intOf i).toNat)
  case atStart => exact ⟨0, 0, Nat.zero_le _, rfl, rfl⟩
  case round =>
    obtain ⟨k, m, hk, rfl, rfl⟩ := hrel
    by_cases hlt : k < n
    · obtain ⟨b, o, x, rfl, _, hx0, e1⟩ := H1.out.int_at hlt
      obtain ⟨b2, o2, y, rfl, _, hy0, e2⟩ := H2.out.int_at hlt
      rw [hx0] at hy0
      injection hy0 with hy0
      subst hy0
      have hne : (x != x) = false := by simp
      clear hx0
      go_wp2_with fail
      go_quiet (fail)
      go_wp2_with fail
      go_roundw
      case rel => exact ⟨k + 1, _, by omega, by go_num, rfl⟩
      case measure => simp [intOf]; omega
    · go_wp2_with fail
      go_ret
      exact ⟨rfl, _, rfl⟩

theorem eq24_same {S S2 : Nat → Prop} (A A2 : Option Addr) (n n2 c c2 : Nat) (xs : List Int) (w : World) (h1 : RS w S A n c xs) (h2 : RS w S2 A2 n2 c2 xs) :
    Calls Tryd.prog 8 #[.slice A n c, .slice A2 n2 c2] w (RetQ w (.bool true)) := by
  have H1 := Lib.hid h1
  have H2 := Lib.hid h2
  clear h1 h2
  go_enter Tryd.func8, Tryd.ntmps8
  go_wp2_with fail
  refine (less_same _ _ _ _ _ _ xs w H1.out H2.out).mono ?_
  rintro e w' ⟨rfl, m, rfl⟩
  go_wp2_with fail
  refine (less_same _ _ _ _ _ _ xs _ (H2.out.drewN m) (H1.out.drewN m)).mono ?_
  rintro e w' ⟨rfl, m', rfl⟩
  go_wp2_with fail
  go_ret
  exact ⟨rfl, _, rfl⟩

set_option maxHeartbeats 400000 in
theorem has_no {S : Nat → Prop} (A : Option Addr) (n c : Nat) (xs : List Int) (x : Int) (w : World) (h1 : RS w S A n c xs) (hx : x ∉ xs) :
    Calls Tryd.prog 22 #[.slice A n c, .int .i64 x] w (RetW w (.bool false)) := by
  have hb := h1.max
  have H1 := Lib.hid h1
  have HX := Lib.hid hx
  clear h1 hx
  go_enter Tryd.func22, Tryd.ntmps22
  go_wp2_with fail
  go_loop [5] (fun i => ∃ k : Nat, k ≤ n ∧ i = .int .i64 k) (fun i => n - (intOf i).toNat)
  case atStart => exact ⟨0, Nat.zero_le _, rfl⟩
  case round =>
    obtain ⟨k, hk, rfl⟩ := hrel
    by_cases hlt : k < n
    · obtain ⟨b, o, y, rfl, _, hy0, e1⟩ := H1.out.int_at hlt
      have hne : (y == x) = false := by
        rw [beq_eq_false_iff_ne]
        rintro rfl
        exact HX.out (List.mem_of_getElem? hy0)
      clear hy0
      go_wp2_with fail
      go_round
      case rel => exact ⟨k + 1, by omega, by go_num⟩
      case measure => simp [intOf]; omega
    · go_wp2_with fail
      go_ret
      exact ⟨rfl, rfl⟩

set_option maxHeartbeats 1000000 in
theorem ballot_yes {S : Nat → Prop} (A : Option Addr) (n c : Nat) (xs : List Int) (m : Int) (w : World) (h1 : RS w S A n c xs) (hnd : xs.Nodup) (hin : ∀ x ∈ xs, 0 ≤ x ∧ x < m) :
    Calls Tryd.prog 19 #[.int .i64 m, .slice A n c] w (RetQ w (.bool true)) := by
  have hb := h1.cap
  have hb2 := h1.max
  have H1 := Lib.hid h1
  have HN := Lib.hid hnd
  have HI := Lib.hid hin
  clear h1 hnd hin
  go_enter Tryd.func19, Tryd.ntmps19
  go_wp2_with fail
  go_loopw [5] (fun i wr => ∃ k j : Nat, k ≤ n ∧ i = .int .i64 k ∧ wr = w.drewN j) (fun i _ => n - (intOf i).toNat)
  case atStart => exact ⟨0, 0, Nat.zero_le _, rfl, rfl⟩
  case round =>
    obtain ⟨k, j, hk, rfl, rfl⟩ := hrel
    by_cases hlt : k < n
    · obtain ⟨wx, hwx⟩ : ∃ wx, w.drewN j = wx := ⟨_, rfl⟩
      have HR : Hid (RS wx S A n c xs) := Lib.hid (by rw [← hwx]; exact H1.out.drewN j)
      have HW := Lib.hid hwx
      rw [hwx]
      clear hwx
      obtain ⟨b, o, y, rfl, _, hy0, e1⟩ := HR.out.int_at hlt
      have hy := HI.out y (List.mem_of_getElem? hy0)
      have d1 : decide (y < 0) = false := decide_eq_false (by omega)
      have d2 : decide (m ≤ y) = false := decide_eq_false (by omega)
      have hno : y ∉ xs.take k := by
        intro hc
        obtain ⟨i, hi, he⟩ := List.mem_take_iff_getElem.1 hc
        obtain ⟨hk2, hy2⟩ := List.getElem?_eq_some_iff.1 hy0
        have := (List.getElem_inj (h₀ := by omega) (h₁ := hk2) HN.out).1 (he.trans hy2.symm)
        omega
      have HNO := Lib.hid hno
      have hkc : (k : Int) ≤ (c : Int) := by omega
      clear hno hy0 hy
      go_wp2_with fail
      go_quiet ((go_at_call 22; (with_reducible refine (has_no _ _ _ _ _ _ ((HR.out.take (Nat.le_of_lt hlt)).drewN _) HNO.out).mono ?_); rintro e w' ⟨rfl, rfl⟩; exact ⟨rfl, _, rfl⟩))
      go_wp2_with fail
      go_roundw
      case rel => exact ⟨k + 1, _, by omega, by go_num, by rw [← HW.out]; exact World.drewN_drewN _ _ _⟩
      case measure => simp [intOf]; omega
    · go_wp2_with fail
      go_ret
      exact ⟨rfl, _, rfl⟩

theorem perm_yes {S : Nat → Prop} (A : Option Addr) (n c : Nat) (xs : List Int) (w : World) (h1 : RS w S A n c xs) (hp : xs.Perm (iota n)) :
    Calls Tryd.prog 13 #[.int .i64 n, .slice A n c] w (RetQ w (.bool true)) := by
  have hin : ∀ x ∈ xs, 0 ≤ x ∧ x < (n : Int) := by
    intro x hx
    have := hp.mem_iff.1 hx
    simp only [iota, List.mem_map, List.mem_range] at this
    obtain ⟨i, hi, rfl⟩ := this
    omega
  have hnd : xs.Nodup := hp.nodup_iff.2 (by
    unfold iota
    exact List.Pairwise.map _ (fun a b (h : a ≠ b) => by omega) List.nodup_range)
  have H1 := Lib.hid h1
  have HI := Lib.hid hin
  have HN := Lib.hid hnd
  clear h1 hin hnd hp
  go_enter Tryd.func13, Tryd.ntmps13
  go_wp2_with fail
  refine (ballot_yes _ _ _ _ _ _ H1.out HN.out HI.out).mono ?_
  rintro e w' ⟨rfl, m, rfl⟩
  go_wp2_with fail
  go_ret
  exact ⟨rfl, _, rfl⟩
end Go.Proofs.YtofdjlngohhlmaaDoor
