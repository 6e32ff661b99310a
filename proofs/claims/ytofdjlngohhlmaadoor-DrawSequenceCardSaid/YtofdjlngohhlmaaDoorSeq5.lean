/- draw.Sequence, draw.At; lists compared, and looked at, in the reference. -/
import Derived.Test.YtofdjlngohhlmaaDoorSeq4
namespace Go.Proofs.YtofdjlngohhlmaaDoor
open Go.RowKit

/-- a length that is refused -/
def badN (n : Int) : Prop := n < 0 ∨ 1024 < n
instance (n : Int) : Decidable (badN n) := inferInstanceAs (Decidable (_ ∨ _))
def seqZ (seed : ByteArray) (n : Int) : List Int := if badN n then [] else seqF seed n.toNat
def prefZ (seed : ByteArray) (n k : Int) : List Int := (seqZ seed n).take (clip k n.toNat)
def atZ (seed : ByteArray) (n k : Int) : Int := if k < 0 then -1 else (seqZ seed n).getD k.toNat (-1)
theorem seqZ_length (seed : ByteArray) (n : Int) : (seqZ seed n).length = if badN n then 0 else n.toNat := by
  unfold seqZ
  split
  · rfl
  · exact seqF_length _ _

theorem prefixZ (seed : ByteArray) (n k : Int) (w : World) (hs : seed.size ≤ 1073741000) (hT : Tab w 1) :
    Calls Tryd.prog 11 #[.string seed, .int .i64 n, .int .i64 k] w (RetN w 3 (prefZ seed n k)) := by
  by_cases h : badN n
  · have e : prefZ seed n k = [] := by rw [prefZ, seqZ, if_pos h]; simp
    rw [e]
    exact prefix_no seed n k w h
  · have h' : 0 ≤ n ∧ n ≤ 1024 := by unfold badN at h; omega
    have e : prefZ seed n k = (seqF seed n.toNat).take (clip k n.toNat) := by rw [prefZ, seqZ, if_neg h]
    rw [e]
    obtain ⟨m, rfl⟩ : ∃ m : Nat, n = m := ⟨n.toNat, by omega⟩
    exact prefix_ok seed m k w hs (by omega) hT
theorem rseqZ (seed : ByteArray) (n : Int) (w : World) (hs : seed.size ≤ 1073741000) (hT : Tab w 0) :
    Calls Tryd.prog 6 #[.string seed, .int .i64 n] w (RetN w 3 (seqZ seed n)) := by
  by_cases h : badN n
  · rw [seqZ, if_pos h]
    exact rseq_no seed n w h
  · have h' : 0 ≤ n ∧ n ≤ 1024 := by unfold badN at h; omega
    rw [seqZ, if_neg h]
    obtain ⟨m, rfl⟩ : ∃ m : Nat, n = m := ⟨n.toNat, by omega⟩
    exact rseq_ok seed m w hs (by omega) hT
theorem sequenceZ (seed : ByteArray) (n : Int) (w : World) (hs : seed.size ≤ 1073741000) (hT : Tab w 1) :
    Calls Tryd.prog 9 #[.string seed, .int .i64 n] w (RetN w 3 (seqZ seed n)) := by
  have e : prefZ seed n n = seqZ seed n := by
    rw [prefZ, List.take_of_length_le]
    rw [seqZ_length, clip]
    split
    · exact Nat.zero_le _
    · omega
  go_enter Tryd.func9, Tryd.ntmps9
  have HE := Lib.hid e
  clear e
  go_wp2_with fail
  refine (prefixZ seed n n w hs hT).mono ?_
  rintro e w2 ⟨v, rfl, ho, hb⟩
  have HO := Lib.hid ho
  have HB := Lib.hid hb
  clear ho hb
  go_wp2_with fail
  go_ret
  exact ⟨_, rfl, by rw [← HE.out]; exact HO.out, HB.out⟩

theorem atZ_no {seed : ByteArray} {n k : Int} (h : badN n ∨ k < 0 ∨ n ≤ k) : atZ seed n k = -1 := by
  unfold atZ
  split
  · rfl
  · rename_i hk
    have hl := seqZ_length seed n
    rw [List.getD_eq_getElem?_getD, List.getElem?_eq_none]
    · rfl
    · rw [hl]
      split
      · omega
      · rename_i hb
        unfold badN at h hb
        omega
theorem at_no (seed : ByteArray) (n k : Int) (w : World) (h : badN n ∨ k < 0 ∨ n ≤ k) :
    Calls Tryd.prog 10 #[.string seed, .int .i64 n, .int .i64 k] w (RetV w (.int .i64 (atZ seed n k))) := by
  have e := atZ_no (seed := seed) h
  have HE := Lib.hid e
  clear e
  have key : ∀ (b1 b2 b3 b4 : Bool), decide (n < 0) = b1 → decide (1024 < n) = b2 → decide (k < 0) = b3 → decide (n ≤ k) = b4 → (b1 || b2 || b3 || b4) = true → Calls Tryd.prog 10 #[.string seed, .int .i64 n, .int .i64 k] w (RetV w (.int .i64 (atZ seed n k))) := by
    intro b1 b2 b3 b4 h1 h2 h3 h4 hb
    cases b1 <;> cases b2 <;> cases b3 <;> cases b4 <;> first | (simp at hb; done) | skip
    all_goals
      clear hb h
      go_enter Tryd.func10, Tryd.ntmps10
      go_wp2_with fail
      go_ret
      exact ⟨ret_of (by rw [HE.out]; rfl), Below.refl _ _⟩
  refine key _ _ _ _ rfl rfl rfl rfl ?_
  unfold badN at h
  simp only [Bool.or_eq_true, decide_eq_true_eq]
  omega
theorem at_yes (seed : ByteArray) (n k : Nat) (w : World) (hs : seed.size ≤ 1073741000) (hT : Tab w 1) (hn : n ≤ 1024) (hk : k < n) :
    Calls Tryd.prog 10 #[.string seed, .int .i64 n, .int .i64 k] w (RetV w (.int .i64 (atZ seed n k))) := by
  have hpre : prefZ seed n ((k : Int) + 1) = (seqF seed n).take (k + 1) := by
    rw [prefZ, seqZ, if_neg (by unfold badN; omega), Int.toNat_natCast, clip]
    congr 1
    omega
  have hat : atZ seed n k = (seqF seed n).getD k 0 := by
    rw [atZ, if_neg (by omega), seqZ, if_neg (by unfold badN; omega), Int.toNat_natCast, Int.toNat_natCast, List.getD_eq_getElem?_getD, List.getD_eq_getElem?_getD, List.getElem?_eq_getElem (by rw [seqF_length]; exact hk)]
    rfl
  have hl := seqF_length seed n
  have HP := Lib.hid hpre
  have HA := Lib.hid hat
  have HL := Lib.hid hl
  clear hpre hat hl
  have d1 : decide ((n : Int) < 0) = false := decide_eq_false (by omega)
  have d2 : decide (1024 < (n : Int)) = false := decide_eq_false (by omega)
  have d3 : decide ((k : Int) < 0) = false := decide_eq_false (by omega)
  have d4 : decide ((n : Int) ≤ (k : Int)) = false := decide_eq_false (by omega)
  go_enter Tryd.func10, Tryd.ntmps10
  go_wp2_with fail
  refine (prefixZ seed n ((k : Int) + 1) w hs hT).mono ?_
  rintro e w2 ⟨v, rfl, ho, hb⟩
  rw [HP.out] at ho
  obtain ⟨A, m, c, rfl, hm⟩ := ho.slice
  have hm' : m = k + 1 := by rw [hm, List.length_take, HL.out]; omega
  have hx : ((seqF seed n).take (k + 1))[k]? = some ((seqF seed n).getD k 0) := by
    rw [List.getElem?_take_of_lt (by omega), List.getD_eq_getElem?_getD, List.getElem?_eq_getElem (by rw [HL.out]; exact hk)]; rfl
  obtain ⟨g, u, rfl, _, _, hu, ec, _⟩ := ho.get1 rfl hx
  have hu' : [u] = [.int .i64 ((seqF seed n).getD k 0)] := hu
  injection hu' with hu'
  subst hu'
  rw [← HA.out] at ec
  have hkm : (k : Int) < (m : Int) := by omega
  have HB := Lib.hid hb
  clear hb ho hm hm' hx hu
  go_wp2_with fail
  go_ret
  exact ⟨rfl, HB.out⟩
theorem atZ_ok (seed : ByteArray) (n k : Int) (w : World) (hs : seed.size ≤ 1073741000) (hT : Tab w 1) :
    Calls Tryd.prog 10 #[.string seed, .int .i64 n, .int .i64 k] w (RetV w (.int .i64 (atZ seed n k))) := by
  by_cases h : badN n ∨ k < 0 ∨ n ≤ k
  · exact at_no seed n k w h
  · have h' : (0 ≤ n ∧ n ≤ 1024) ∧ 0 ≤ k ∧ k < n := by unfold badN at h; omega
    obtain ⟨m, rfl⟩ : ∃ m : Nat, n = m := ⟨n.toNat, by omega⟩
    obtain ⟨j, rfl⟩ : ∃ j : Nat, k = j := ⟨k.toNat, by omega⟩
    exact at_yes seed m j w hs hT (by omega) (by omega)
end Go.Proofs.YtofdjlngohhlmaaDoor
