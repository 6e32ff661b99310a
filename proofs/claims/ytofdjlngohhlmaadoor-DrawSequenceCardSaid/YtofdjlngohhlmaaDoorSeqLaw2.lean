/- DrawPermutes: the walk of the law. -/
import Derived.Test.YtofdjlngohhlmaaDoorSeq7
import Derived.Deep.DeepCutAuto
namespace Go.Proofs.YtofdjlngohhlmaaDoor
open Go.RowKit

theorem prefZ_at (t : ByteArray) (n k : Nat) (hn : n ≤ 1024) (hk : k ≤ n) : prefZ t n k = (seqF t n).take k := by
  rw [prefZ, seqZ, if_neg (by unfold badN; omega), Int.toNat_natCast, clip]
  congr 1
  omega
theorem seqZ_at (t : ByteArray) (n : Nat) (hn : n ≤ 1024) : seqZ t n = seqF t n := by
  rw [seqZ, if_neg (by unfold badN; omega), Int.toNat_natCast]
theorem nat_mod (x : Int) (n : Nat) (h : 0 < n) : ∃ m : Nat, x % (n : Int) = (m : Int) ∧ m < n :=
  ⟨(x % (n : Int)).toNat, by have := Int.emod_nonneg x (show (n : Int) ≠ 0 by omega); omega, by have := Int.emod_lt_of_pos x (show (0 : Int) < n by omega); have := Int.emod_nonneg x (show (n : Int) ≠ 0 by omega); omega⟩

set_option maxHeartbeats 2000000 in
theorem lawPerm_any (seed : ByteArray) (n j k : Int) (w : World) (hs : seed.size ≤ 9223372036854775807) (hT1 : Tab w 1) :
    Calls Tryd.prog 4 #[.string seed, .int .i64 n, .int .i64 j, .int .i64 k] w (RetV w (.bool true)) := by
  have HT1 := Lib.hid hT1
  clear hT1
  obtain ⟨m, hm, hml⟩ := nat_mod n 13 (by omega)
  obtain ⟨j1, hj, hjl⟩ := nat_mod j (m + 1) (by omega)
  obtain ⟨k1, hk, hkl⟩ := nat_mod k (m + 1) (by omega)
  have HM : Hid (n % 13 = (m : Int)) := Lib.hid hm
  have HJ : Hid (j % ((m : Int) + 1) = (j1 : Int)) := Lib.hid hj
  have HK : Hid (k % ((m : Int) + 1) = (k1 : Int)) := Lib.hid hk
  clear hm hj hk
  go_enter Tryd.func4, Tryd.ntmps4
  go_wp2_with fail
  refine (short_ok seed w hs).mono ?_
  rintro e w' ⟨t, rfl, ht, rfl⟩
  have hts : t.size ≤ 1073741000 := by omega
  clear hs
  go_wp2_with fail
  refine (mod_ok n 13 w (by omega) (by omega)).mono ?_
  rintro e w' ⟨rfl, rfl⟩
  rw [HM.out]
  go_wp2_with fail
  refine (sequenceZ t m w hts HT1.out).mono ?_
  rintro e W1 ⟨v, rfl, ho, hb⟩
  rw [seqZ_at t m (by omega)] at ho
  obtain ⟨A, n1, c1, rfl, hn1⟩ := ho.slice
  rw [seqF_length] at hn1
  obtain rfl : m = n1 := hn1.symm
  have hcap := ho.cap
  have HL := Lib.hid (ho.rs (S' := (· < W1.heap.size)) (fun _ h => h.elim) (fun _ _ h => h))
  have HB1 := Lib.hid hb
  clear ho hb
  go_wp2_with fail
  refine (mod_ok j ((m : Int) + 1) W1 (by omega) (by omega)).mono ?_
  rintro e w' ⟨rfl, rfl⟩
  rw [HJ.out]
  go_wp2_with fail
  refine (mod_ok k ((m : Int) + 1) W1 (by omega) (by omega)).mono ?_
  rintro e w' ⟨rfl, rfl⟩
  rw [HK.out]
  obtain ⟨p, q, hpq, hqm, hpc⟩ : ∃ p q : Nat, p ≤ q ∧ q ≤ m ∧ ((j1 < k1 ∧ p = j1 ∧ q = k1) ∨ (k1 < j1 ∧ p = k1 ∧ q = j1) ∨ (j1 = k1 ∧ p = j1 ∧ q = k1)) := by
    by_cases h : j1 ≤ k1
    · by_cases h2 : j1 = k1
      · exact ⟨j1, k1, h, by omega, .inr (.inr ⟨h2, rfl, rfl⟩)⟩
      · exact ⟨j1, k1, h, by omega, .inl ⟨by omega, rfl, rfl⟩⟩
    · exact ⟨k1, j1, by omega, by omega, .inr (.inl ⟨by omega, rfl, rfl⟩)⟩
  have hpm : p ≤ m := by omega
  have ca := prefZ_at t m p (by omega) hpm
  have cb := prefZ_at t m q (by omega) hqm
  have hsl := seqF_length t m
  have hsp := seqF_perm t m
  obtain ⟨l, hl⟩ : ∃ l, seqF t m = l := ⟨_, rfl⟩
  rw [hl] at ca cb hsl hsp HL
  have htt : (l.take q).take p = l.take p := by rw [List.take_take, Nat.min_eq_left hpq]
  have CA := Lib.hid ca
  have CB := Lib.hid cb
  have HSL := Lib.hid hsl
  have HSP := Lib.hid hsp
  have HTT := Lib.hid htt
  clear ca cb hsl hsp htt hl
  rcases hpc with ⟨hjk, rfl, rfl⟩ | ⟨hjk, rfl, rfl⟩ | ⟨hj1, hj2, hj3⟩
  rotate_left 2
  · obtain rfl : p = q := by omega
    obtain rfl : p = j1 := by omega
    obtain rfl : p = k1 := by omega
    clear hj1 hj2 hj3
    go_wp2_with fail
    refine (prefixZ t m p W1 hts (HT1.out.keep HB1.out)).mono ?_
    rintro e W2 ⟨v, rfl, ho, hb⟩
    rw [CA.out] at ho
    obtain ⟨Aa, na, ca', rfl, hna⟩ := ho.slice
    rw [List.length_take, HSL.out, Nat.min_eq_left hpm] at hna
    have hna := hna.symm
    subst hna
    have HA := Lib.hid (ho.rs (S' := (· < W2.heap.size)) (fun _ h => h.elim) (fun _ _ h => h))
    have HL2 := Lib.hid ((HL.out.below hb (fun _ h => h)).sub (S' := (· < W2.heap.size)) (fun b h => Nat.lt_of_lt_of_le h hb.size))
    have HB2 := Lib.hid (below_more HB1.out hb)
    clear ho hb
    go_wp2_with fail
    refine (prefixZ t m p W2 hts (HT1.out.keep HB2.out)).mono ?_
    rintro e W3 ⟨v, rfl, ho, hb⟩
    rw [CA.out] at ho
    obtain ⟨Ab, nb, cb', rfl, hnb⟩ := ho.slice
    rw [List.length_take, HSL.out, Nat.min_eq_left hpm] at hnb
    have hnb := hnb.symm
    subst hnb
    have hcapb := ho.cap
    have HBB := Lib.hid (ho.rs (S' := (· < W3.heap.size)) (fun _ h => h.elim) (fun _ _ h => h))
    have HA3 := Lib.hid ((HA.out.below hb (fun _ h => h)).sub (S' := (· < W3.heap.size)) (fun b h => Nat.lt_of_lt_of_le h hb.size))
    have HL3 := Lib.hid ((HL2.out.below hb (fun _ h => h)).sub (S' := (· < W3.heap.size)) (fun b h => Nat.lt_of_lt_of_le h hb.size))
    have HB3 := Lib.hid (below_more HB2.out hb)
    clear ho hb
    go_wp2_with fail
    refine (perm_yes _ m _ _ W3 HL3.out HSP.out).mono ?_
    rintro e W4 h4
    obtain ⟨rfl, hb4⟩ := RetQ.toV h4
    have HB4 := Lib.hid (below_more HB3.out hb4)
    have HLB4 := Lib.hid hb4
    have b1 : ((p : Int) != (p : Int)) = false := by simp
    have b2 : ((p : Int) != (p : Int)) = false := by simp
    clear h4 hb4
    go_wp2_with fail
    refine (awake_ok W4 (HT1.out.keep HB4.out)).mono ?_
    rintro e W5 ⟨rfl, hb5⟩
    have HLB5 := Lib.hid (below_more HLB4.out hb5)
    have HB5 := Lib.hid (below_more HB4.out hb5)
    have hpc1 : (p : Int) ≤ (cb' : Int) := by omega
    have hqc1 : (p : Int) ≤ (c1 : Int) := by omega
    clear hb5
    go_wp2_with fail
    have hb1 := (HBB.out.below HLB5.out (fun _ h => h)).take hpq
    rw [HTT.out] at hb1
    refine (eq24_same _ _ _ _ _ _ _ W5 (HA3.out.below HLB5.out (fun _ h => h)) hb1).mono ?_
    rintro e W6 h6
    obtain ⟨rfl, hb6⟩ := RetQ.toV h6
    have HLB6 := Lib.hid (below_more HLB5.out hb6)
    have HB6 := Lib.hid (below_more HB5.out hb6)
    clear h6 hb6 hb1
    go_wp2_with fail
    refine (eq24_same _ _ _ _ _ _ _ W6 (HBB.out.below HLB6.out (fun _ h => h)) ((HL3.out.below HLB6.out (fun _ h => h)).take hpm)).mono ?_
    rintro e W7 h7
    obtain ⟨rfl, hb7⟩ := RetQ.toV h7
    have HB7 := Lib.hid (below_more HB6.out hb7)
    clear h7 hb7
    go_wp2_with fail
    go_ret
    exact ⟨rfl, HB7.out⟩
  all_goals
    have hjk' := hjk
    go_wp2_with fail
    refine (prefixZ t m p W1 hts (HT1.out.keep HB1.out)).mono ?_
    rintro e W2 ⟨v, rfl, ho, hb⟩
    rw [CA.out] at ho
    obtain ⟨Aa, na, ca', rfl, hna⟩ := ho.slice
    rw [List.length_take, HSL.out, Nat.min_eq_left hpm] at hna
    have hna := hna.symm
    subst hna
    have HA := Lib.hid (ho.rs (S' := (· < W2.heap.size)) (fun _ h => h.elim) (fun _ _ h => h))
    have HL2 := Lib.hid ((HL.out.below hb (fun _ h => h)).sub (S' := (· < W2.heap.size)) (fun b h => Nat.lt_of_lt_of_le h hb.size))
    have HB2 := Lib.hid (below_more HB1.out hb)
    clear ho hb
    go_wp2_with fail
    refine (prefixZ t m q W2 hts (HT1.out.keep HB2.out)).mono ?_
    rintro e W3 ⟨v, rfl, ho, hb⟩
    rw [CB.out] at ho
    obtain ⟨Ab, nb, cb', rfl, hnb⟩ := ho.slice
    rw [List.length_take, HSL.out, Nat.min_eq_left hqm] at hnb
    have hnb := hnb.symm
    subst hnb
    have hcapb := ho.cap
    have HBB := Lib.hid (ho.rs (S' := (· < W3.heap.size)) (fun _ h => h.elim) (fun _ _ h => h))
    have HA3 := Lib.hid ((HA.out.below hb (fun _ h => h)).sub (S' := (· < W3.heap.size)) (fun b h => Nat.lt_of_lt_of_le h hb.size))
    have HL3 := Lib.hid ((HL2.out.below hb (fun _ h => h)).sub (S' := (· < W3.heap.size)) (fun b h => Nat.lt_of_lt_of_le h hb.size))
    have HB3 := Lib.hid (below_more HB2.out hb)
    clear ho hb
    go_wp2_with fail
    refine (perm_yes _ m _ _ W3 HL3.out HSP.out).mono ?_
    rintro e W4 h4
    obtain ⟨rfl, hb4⟩ := RetQ.toV h4
    have HB4 := Lib.hid (below_more HB3.out hb4)
    have HLB4 := Lib.hid hb4
    have b1 : ((p : Int) != (p : Int)) = false := by simp
    have b2 : ((q : Int) != (q : Int)) = false := by simp
    clear h4 hb4
    go_wp2_with fail
    refine (awake_ok W4 (HT1.out.keep HB4.out)).mono ?_
    rintro e W5 ⟨rfl, hb5⟩
    have HLB5 := Lib.hid (below_more HLB4.out hb5)
    have HB5 := Lib.hid (below_more HB4.out hb5)
    have hpc1 : (p : Int) ≤ (cb' : Int) := by omega
    have hqc1 : (q : Int) ≤ (c1 : Int) := by omega
    clear hb5
    go_wp2_with fail
    have hb1 := (HBB.out.below HLB5.out (fun _ h => h)).take hpq
    rw [HTT.out] at hb1
    refine (eq24_same _ _ _ _ _ _ _ W5 (HA3.out.below HLB5.out (fun _ h => h)) hb1).mono ?_
    rintro e W6 h6
    obtain ⟨rfl, hb6⟩ := RetQ.toV h6
    have HLB6 := Lib.hid (below_more HLB5.out hb6)
    have HB6 := Lib.hid (below_more HB5.out hb6)
    clear h6 hb6 hb1
    go_wp2_with fail
    refine (eq24_same _ _ _ _ _ _ _ W6 (HBB.out.below HLB6.out (fun _ h => h)) ((HL3.out.below HLB6.out (fun _ h => h)).take hqm)).mono ?_
    rintro e W7 h7
    obtain ⟨rfl, hb7⟩ := RetQ.toV h7
    have HB7 := Lib.hid (below_more HB6.out hb7)
    clear h7 hb7
    go_wp2_with fail
    go_ret
    exact ⟨rfl, HB7.out⟩
end Go.Proofs.YtofdjlngohhlmaaDoor
