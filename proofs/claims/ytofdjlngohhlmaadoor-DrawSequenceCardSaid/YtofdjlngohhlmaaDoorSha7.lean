/- SHA-256: the padding. -/
import Derived.Test.YtofdjlngohhlmaaDoorSha6
namespace Go.Proofs.YtofdjlngohhlmaaDoor
open Go.RowKit

/-- how many zeros -/
def zs (n : Nat) : Nat := (119 - n % 64) % 64
/-- the padded text -/
def pad (bs : List UInt8) : List UInt8 := bs ++ [128] ++ List.replicate (zs bs.length) 0 ++ be (8 * bs.length) 8
theorem zs_stop (n : Nat) : (n + 1 + zs n) % 64 = 56 := by unfold zs; omega
theorem zs_go (n k : Nat) (hk : k < zs n) : (n + 1 + k) % 64 ≠ 56 := by unfold zs at hk; omega
/-- the length of a slice -/
def slen : Value → Nat
  | .slice _ n _ => n
  | _ => 0
theorem zs_lt (n : Nat) : zs n < 64 := by unfold zs; omega

set_option maxHeartbeats 1000000 in
theorem padded_ok {S : Nat → Prop} {A : Option Addr} {n c : Nat} {bs : List UInt8} {w : World} (h : RS w S A n c bs) (hS : ∀ b, S b → b < w.heap.size) (hl : n ≤ 1073741824) :
    Calls Tryd.prog 31 #[.slice A n c] w (RetN w 5 (pad bs)) := by
  have H := Lib.hid h; clear h
  have HL := Lib.hid H.out.len
  go_enter Tryd.func31, Tryd.ntmps31
  go_wp2_with fail
  refine (clone_ok H.out hS (by omega)).mono ?_
  rintro e w1 ⟨v1, rfl, ho1, hb1⟩
  have HO1 := Lib.hid ho1
  have HB1 := Lib.hid hb1
  clear ho1 hb1
  go_wp2_with (at_builtin
               refine wpList_append_gen (α := UInt8) (w0 := w) (B := w.heap.size) (base := w.heap.size) rfl _ _ 45 rfl 1 Tryd.bytesTy rfl HO1.out HB1.out (Nat.le_refl _) HB1.out.size [.int .u8 128] 128 1 rfl rfl 5 (by simp [Value.oneCell']) (by have := HL.out; omega) ?_
               intro v2 w2 hown2 hb2 _ _
               have HO2 := Lib.hid hown2
               have HB2 := Lib.hid hb2
               clear hown2 hb2)
  go_loopw [3] (fun v wr => ∃ k : Nat, k ≤ zs n ∧ Own wr NoBlk w.heap.size 5 v (bs ++ [128] ++ List.replicate k 0) ∧ Below w.heap.size w wr)
    (fun v _ => zs n + n + 1 - slen v)
  case atStart => exact ⟨0, Nat.zero_le _, by simpa using HO2.out, HB2.out⟩
  case round =>
    obtain ⟨k, hk, ho, hb⟩ := hrel
    obtain ⟨A3, n3, c3, rfl, hn3⟩ := ho.slice
    have hn3' : n3 = n + 1 + k := by rw [hn3]; simp [HL.out]; omega
    have HO3 := Lib.hid ho
    have HB3 := Lib.hid hb
    clear ho hb hn3
    by_cases hlt : k < zs n
    · have hr := zs_go n k hlt
      obtain ⟨r, hr'⟩ : ∃ r, n3 % 64 = r := ⟨_, rfl⟩
      have hm : (n3 : Int).tmod 64 = (r : Int) := by rw [← hr']; rfl
      have hne : ((r : Int) != 56) = true := by simp; omega
      clear hr
      have hlen : Hid ((bs ++ [128] ++ List.replicate k 0).length ≤ 1073742000) := by
        have := zs_lt n
        have := HL.out
        show (bs ++ [128] ++ List.replicate k 0).length ≤ 1073742000
        simp; omega
      have HR := Lib.hid hr'
      have HN3 := Lib.hid hn3'
      clear hr' hn3'
      go_wp2_with (at_builtin
                   refine wpList_append_gen (α := UInt8) (w0 := w) (B := w.heap.size) (base := w.heap.size) rfl _ _ 45 rfl 1 Tryd.bytesTy rfl HO3.out HB3.out (Nat.le_refl _) HB3.out.size [.int .u8 0] 0 1 rfl rfl 5 (by simp [Value.oneCell']) (by have := hlen.out; omega) ?_
                   intro v4 w4 hown4 hb4 _ _
                   have HO4 := Lib.hid hown4
                   have HB4 := Lib.hid hb4
                   obtain ⟨A4, n4, c4, rfl, hn4⟩ := hown4.slice
                   have HN4 := Lib.hid hn4
                   clear hown4 hb4 hn4)
      go_roundw
      case rel =>
        refine ⟨k + 1, by omega, ?_, HB4.out⟩
        have := HO4.out
        rw [List.append_assoc, ← List.replicate_succ'] at this
        exact this
      case measure =>
        have h4 := HN4.out
        have hL := HL.out
        have h3 := HN3.out
        simp at h4
        simp [slen]
        omega
    · have hkz : k = zs n := by omega
      have hr := zs_stop n
      obtain ⟨r, hr'⟩ : ∃ r, n3 % 64 = r := ⟨_, rfl⟩
      have hm : (n3 : Int).tmod 64 = (56 : Int) := by
        have : n3 % 64 = 56 := by rw [hn3', hkz]; exact hr
        show ((n3 % 64 : Nat) : Int) = 56
        rw [this]
        rfl
      have HK := Lib.hid hkz
      have HN3 := Lib.hid hn3'
      clear hr hr' hkz hn3'
      go_wp2_with fail
      have hcast : (n : Int) * 8 = ((8 * n : Nat) : Int) := by omega
      rw [hcast]
      refine (number_ok (n := 8 * n) (m := 8) HO3.out HB3.out.size (by omega) (by omega) (by have := HL.out; have := HK.out; have := zs_lt n; simp; omega)).mono ?_
      rintro e w5 ⟨v5, rfl, ho5, hg5, _⟩
      have HO5 := Lib.hid ho5
      have HB5 := Lib.hid (HB3.out.grown hg5 HB3.out.size (fun j hj => (HO3.out.lt j hj).1))
      clear ho5 hg5
      go_wp2_with fail
      go_ret
      refine ⟨_, rfl, ?_, HB5.out⟩
      have := HO5.out
      rw [HK.out] at this
      rw [pad, HL.out]
      exact this
end Go.Proofs.YtofdjlngohhlmaaDoor
