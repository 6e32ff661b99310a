/- DrawSequence: the walk of the law. -/
import Derived.Test.YtofdjlngohhlmaaDoorSeq7
import Derived.Deep.DeepCutAuto
namespace Go.Proofs.YtofdjlngohhlmaaDoor
open Go.RowKit

theorem prefZ_len (t : ByteArray) (n k : Int) : prefZ t n k = (seqZ t n).take (clip k (seqZ t n).length) := by
  by_cases h : badN n
  · have e : seqZ t n = [] := by rw [seqZ, if_pos h]
    rw [prefZ, e]; simp
  · have hl := seqZ_length t n
    rw [if_neg h] at hl
    rw [prefZ, hl]

/-- what lay in the world W still lies in w' -/
def Upon (W w' : World) : Prop := Below W.heap.size W w'
theorem Upon.out {W w' : World} (h : Upon W w') : Below W.heap.size W w' := h
theorem Upon.start (W : World) : Upon W W.drew := (Below.refl _ _).drew
theorem Upon.more {W w1 w2 : World} (h : Upon W w1) (k : Below w1.heap.size w1 w2) : Upon W w2 := below_more h k

set_option maxHeartbeats 2000000 in
theorem lawSeq_any (seed : ByteArray) (n k : Int) (w : World) (hs : seed.size ≤ 9223372036854775807) (hT0 : Tab w 0) (hT1 : Tab w 1) :
    Calls Tryd.prog 3 #[.string seed, .int .i64 n, .int .i64 k] w (RetV w (.bool true)) := by
  have HT0 := Lib.hid hT0
  have HT1 := Lib.hid hT1
  clear hT0 hT1
  go_enter Tryd.func3, Tryd.ntmps3
  go_wp2_with fail
  refine (short_ok seed w hs).mono ?_
  rintro e w' ⟨t, rfl, ht, rfl⟩
  have hts : t.size ≤ 1073741000 := by omega
  clear hs
  go_upto_region 2 with (fail)
  go_cut [16] (fun v wx => ∃ b : Bool, v = .bool b ∧ w = wx)
  case first =>
    go_wp2_with fail
    all_goals
      go_meet
      exact ⟨_, rfl, rfl⟩
  case rest =>
  obtain ⟨bb, rfl, rfl⟩ := hcut
  go_upto_if 16 with (fail)
  go_cut [1] (fun v wx => ∃ m : Int, v = .int .i64 m ∧ w = wx)
  case first =>
    cases bb
    all_goals
      go_wp2_with fail
      go_meet
      exact ⟨_, rfl, rfl⟩
  case rest =>
    obtain ⟨m, rfl, rfl⟩ := hcut
    go_wp2_with fail
    refine (rseqZ t m _ hts HT0.out).mono ?_
    rintro e W ⟨v, rfl, ho, hb⟩
    obtain ⟨A, n1, c1, rfl, hn1⟩ := ho.slice
    have hpz := prefZ_len t m k
    rw [← hn1] at hpz
    have hcap := ho.cap
    have hmax : c1 ≤ 9223372036854775807 := (ho.rs (S' := fun _ => True) (fun _ _ => trivial) (fun _ _ _ => trivial)).cap.2
    have HO := Lib.hid ho
    have HB := Lib.hid hb
    have HN1 := Lib.hid hn1
    have HPZ := Lib.hid hpz
    clear ho hb hn1 hpz
    go_upto_region 6 with (fail)
    go_cut [29] (fun v wx => v = .bool (decide (0 ≤ k ∧ k < (n1 : Int))) ∧ W = wx)
    case first =>
      by_cases h1 : 0 ≤ k
      · by_cases h2 : k < (n1 : Int)
        · go_wp2_with fail
          go_meet
          refine ⟨?_, rfl⟩
          show Value.bool _ = Value.bool _
          congr 1
          simp [h1, h2]
        · go_wp2_with fail
          go_meet
          refine ⟨?_, rfl⟩
          show Value.bool _ = Value.bool _
          congr 1
          simp [h1, h2]
      · go_wp2_with fail
        go_meet
        refine ⟨?_, rfl⟩
        show Value.bool _ = Value.bool _
        congr 1
        simp
        omega
    case rest =>
    obtain ⟨rfl, rfl⟩ := hcut
    go_upto_if 29 with (fail)
    have hatz : ∀ x : Int, (0 ≤ k ∧ k < (n1 : Int) → (seqZ t m)[k.toNat]? = some x) → (¬ (0 ≤ k ∧ k < (n1 : Int)) → x = -1) → atZ t m k = x := by
      intro x h1 h2
      unfold atZ
      split
      · rename_i hk
        rw [h2 (by omega)]
      · rename_i hk
        by_cases hc : 0 ≤ k ∧ k < (n1 : Int)
        · rw [List.getD_eq_getElem?_getD, h1 hc]; rfl
        · rw [h2 hc, List.getD_eq_getElem?_getD, List.getElem?_eq_none (by rw [← HN1.out]; omega)]; rfl
    have HAT := Lib.hid hatz
    clear hatz
    go_cut [8] (fun v wx => v = .int .i64 (atZ t m k) ∧ W = wx)
    case first =>
      by_cases hc : 0 ≤ k ∧ k < (n1 : Int)
      · have hd : decide (0 ≤ k ∧ k < (n1 : Int)) = true := decide_eq_true hc
        obtain ⟨hc1, hc2⟩ := hc
        obtain ⟨j, rfl⟩ : ∃ j : Nat, k = j := ⟨k.toNat, by omega⟩
        have hx : (seqZ t m)[j]? = some ((seqZ t m).getD j 0) := getD_some (by rw [← HN1.out]; omega)
        have hfin := HAT.out _ (fun _ => hx) (fun h => absurd ⟨hc1, hc2⟩ h)
        obtain ⟨g, u, rfl, _, _, hu, ec, _⟩ := HO.out.get1 rfl hx
        have hu' : [u] = [.int .i64 ((seqZ t m).getD j 0)] := hu
        injection hu' with hu'
        subst hu'
        have HF := Lib.hid hfin
        clear hfin hx hu
        rw [hd]
        go_wp2_with fail
        go_meet
        exact ⟨by rw [HF.out]; rfl, rfl⟩
      · have hd : decide (0 ≤ k ∧ k < (n1 : Int)) = false := decide_eq_false hc
        have hfin := HAT.out (-1) (fun h => absurd h hc) (fun _ => rfl)
        have HF := Lib.hid hfin
        clear hfin
        rw [hd]
        clear hd hc
        go_wp2_with fail
        go_meet
        exact ⟨by rw [HF.out], rfl⟩
    case rest =>
      obtain ⟨rfl, rfl⟩ := hcut
      have hrs : RS W (· < W.heap.size) A n1 c1 (seqZ t m) := HO.out.rs (fun _ h => h.elim) (fun _ _ h => h)
      have HRS := Lib.hid hrs
      have HT0' : Hid (∀ w', Below W.heap.size W w' → Tab w' 0) := Lib.hid (fun w' h => (HT0.out.keep HB.out).keep h)
      have HT1' : Hid (∀ w', Below W.heap.size W w' → Tab w' 1) := Lib.hid (fun w' h => (HT1.out.keep HB.out).keep h)
      have hnc : (n1 : Int) ≤ (c1 : Int) := by omega
      clear hrs
      by_cases hk0 : k ≤ 0
      · have hclip : clip k n1 = 0 := by unfold clip; omega
        have HRK : Hid (RS W (· < W.heap.size) A 0 c1 ((seqZ t m).take (clip k n1))) := Lib.hid (by rw [hclip]; exact HRS.out.take (Nat.zero_le _))
        have t1 : ¬ (0 < k) := by omega
        have hkn2 : k ≤ (n1 : Int) := by omega
        have hkn4 : ((n1 : Int) < k) = False := eq_false (by omega)
        have hkn5 : decide ((n1 : Int) < k) = false := decide_eq_false (by omega)
        have hkn6 : (0 < k) = False := eq_false t1
        have hkn7 : decide (0 < k) = false := decide_eq_false t1
        have hz1 : (0 : Int) ≤ (c1 : Int) := by omega
        have hz2 : (0 : Int) ≤ (0 : Int) := by omega
        clear hclip
        go_upto_region 8 with (fail)
        go_region_held3 (fun w' => Upon W w') (first | assumption | exact Upon.start W | exact Upon.more ‹Upon W _› ‹Below _ _ _›)
          (first
            | (go_at_call 7; (with_reducible refine (awake_ok _ (HT1'.out _ (‹Upon W _›).out)).mono ?_); rintro e w9 ⟨rfl, hb9⟩)
            | (go_at_call 9; (with_reducible refine (sequenceZ t m _ hts (HT1'.out _ (‹Upon W _›).out)).mono ?_); rintro e w9 ⟨v9, rfl, ho9, hb9⟩; obtain ⟨A9, n9, c9, rfl, hn9⟩ := ho9.slice; have HO9 := Lib.hid ho9; clear ho9 hn9)
            | (go_at_call 10; (with_reducible refine (atZ_ok t m _ _ hts (HT1'.out _ (‹Upon W _›).out)).mono ?_); rintro e w9 ⟨rfl, hb9⟩)
            | (go_at_call 11; (with_reducible refine (prefixZ t m _ _ hts (HT1'.out _ (‹Upon W _›).out)).mono ?_); rintro e w9 ⟨v9, rfl, ho9, hb9⟩; obtain ⟨A9, n9, c9, rfl, hn9⟩ := ho9.slice; rw [HPZ.out] at ho9; have HO10 := Lib.hid ho9; clear ho9 hn9)
            | (go_at_call 8; (with_reducible refine (eq24_same _ _ _ _ _ _ _ _ (HO10.out.rs (S' := fun _ => True) (fun _ _ => trivial) (fun _ _ _ => trivial)) (HRK.out.below (‹Upon W _›).out (fun _ h => h))).mono ?_); rintro e w10 h10; obtain ⟨rfl, hb10⟩ := RetQ.toV h10; clear h10)
            | (go_at_call 8; (with_reducible refine (eq24_same _ _ _ _ _ _ _ _ (HO9.out.rs (S' := fun _ => True) (fun _ _ => trivial) (fun _ _ _ => trivial)) (HRS.out.below (‹Upon W _›).out (fun _ h => h))).mono ?_); rintro e w10 h10; obtain ⟨rfl, hb10⟩ := RetQ.toV h10; clear h10))
        all_goals
          go_wp2_with fail
          go_ret
          exact ⟨rfl, below_more HB.out (‹Upon W _›).out⟩
      · by_cases hkn : k ≤ (n1 : Int)
        · obtain ⟨j, rfl⟩ : ∃ j : Nat, k = j := ⟨k.toNat, by omega⟩
          have hjn : j ≤ n1 := by omega
          have hclip : clip (j : Int) n1 = j := by unfold clip; omega
          have HRK : Hid (RS W (· < W.heap.size) A j c1 ((seqZ t m).take (clip (j : Int) n1))) := Lib.hid (by rw [hclip]; exact HRS.out.take hjn)
          have hjc : (j : Int) ≤ (c1 : Int) := by omega
          have hj0 : (0 : Int) < (j : Int) := by omega
          have hj1 : (0 : Int) ≤ (j : Int) := by omega
          have hj2 : 0 < j := by omega
          have hkn4 : ¬ ((n1 : Int) < (j : Int)) := by omega
          have hkn5 : ¬ (n1 < j) := by omega
          clear hclip hk0
          go_upto_region 8 with (fail)
          go_region_held3 (fun w' => Upon W w') (first | assumption | exact Upon.start W | exact Upon.more ‹Upon W _› ‹Below _ _ _›)
            (first
              | (go_at_call 7; (with_reducible refine (awake_ok _ (HT1'.out _ (‹Upon W _›).out)).mono ?_); rintro e w9 ⟨rfl, hb9⟩)
              | (go_at_call 9; (with_reducible refine (sequenceZ t m _ hts (HT1'.out _ (‹Upon W _›).out)).mono ?_); rintro e w9 ⟨v9, rfl, ho9, hb9⟩; obtain ⟨A9, n9, c9, rfl, hn9⟩ := ho9.slice; have HO9 := Lib.hid ho9; clear ho9 hn9)
              | (go_at_call 10; (with_reducible refine (atZ_ok t m _ _ hts (HT1'.out _ (‹Upon W _›).out)).mono ?_); rintro e w9 ⟨rfl, hb9⟩)
              | (go_at_call 11; (with_reducible refine (prefixZ t m _ _ hts (HT1'.out _ (‹Upon W _›).out)).mono ?_); rintro e w9 ⟨v9, rfl, ho9, hb9⟩; obtain ⟨A9, n9, c9, rfl, hn9⟩ := ho9.slice; rw [HPZ.out] at ho9; have HO10 := Lib.hid ho9; clear ho9 hn9)
              | (go_at_call 8; (with_reducible refine (eq24_same _ _ _ _ _ _ _ _ (HO10.out.rs (S' := fun _ => True) (fun _ _ => trivial) (fun _ _ _ => trivial)) (HRK.out.below (‹Upon W _›).out (fun _ h => h))).mono ?_); rintro e w10 h10; obtain ⟨rfl, hb10⟩ := RetQ.toV h10; clear h10)
              | (go_at_call 8; (with_reducible refine (eq24_same _ _ _ _ _ _ _ _ (HO9.out.rs (S' := fun _ => True) (fun _ _ => trivial) (fun _ _ _ => trivial)) (HRS.out.below (‹Upon W _›).out (fun _ h => h))).mono ?_); rintro e w10 h10; obtain ⟨rfl, hb10⟩ := RetQ.toV h10; clear h10))
          all_goals
            go_wp2_with fail
            go_ret
            exact ⟨rfl, below_more HB.out (‹Upon W _›).out⟩
        · have hclip : clip k n1 = n1 := by unfold clip; omega
          have HRK : Hid (RS W (· < W.heap.size) A n1 c1 ((seqZ t m).take (clip k n1))) := Lib.hid (by rw [hclip]; exact HRS.out.take (Nat.le_refl _))
          have hkn3 : (n1 : Int) < k := by omega
          clear hclip
          by_cases hn0 : 0 < n1
          · have hn00 : (0 : Int) < (n1 : Int) := by omega
            go_upto_region 8 with (fail)
            go_region_held3 (fun w' => Upon W w') (first | assumption | exact Upon.start W | exact Upon.more ‹Upon W _› ‹Below _ _ _›)
              (first
                | (go_at_call 7; (with_reducible refine (awake_ok _ (HT1'.out _ (‹Upon W _›).out)).mono ?_); rintro e w9 ⟨rfl, hb9⟩)
                | (go_at_call 9; (with_reducible refine (sequenceZ t m _ hts (HT1'.out _ (‹Upon W _›).out)).mono ?_); rintro e w9 ⟨v9, rfl, ho9, hb9⟩; obtain ⟨A9, n9, c9, rfl, hn9⟩ := ho9.slice; have HO9 := Lib.hid ho9; clear ho9 hn9)
                | (go_at_call 10; (with_reducible refine (atZ_ok t m _ _ hts (HT1'.out _ (‹Upon W _›).out)).mono ?_); rintro e w9 ⟨rfl, hb9⟩)
                | (go_at_call 11; (with_reducible refine (prefixZ t m _ _ hts (HT1'.out _ (‹Upon W _›).out)).mono ?_); rintro e w9 ⟨v9, rfl, ho9, hb9⟩; obtain ⟨A9, n9, c9, rfl, hn9⟩ := ho9.slice; rw [HPZ.out] at ho9; have HO10 := Lib.hid ho9; clear ho9 hn9)
                | (go_at_call 8; (with_reducible refine (eq24_same _ _ _ _ _ _ _ _ (HO10.out.rs (S' := fun _ => True) (fun _ _ => trivial) (fun _ _ _ => trivial)) (HRK.out.below (‹Upon W _›).out (fun _ h => h))).mono ?_); rintro e w10 h10; obtain ⟨rfl, hb10⟩ := RetQ.toV h10; clear h10)
                | (go_at_call 8; (with_reducible refine (eq24_same _ _ _ _ _ _ _ _ (HO9.out.rs (S' := fun _ => True) (fun _ _ => trivial) (fun _ _ _ => trivial)) (HRS.out.below (‹Upon W _›).out (fun _ h => h))).mono ?_); rintro e w10 h10; obtain ⟨rfl, hb10⟩ := RetQ.toV h10; clear h10))
            all_goals
              go_wp2_with fail
              go_ret
              exact ⟨rfl, below_more HB.out (‹Upon W _›).out⟩
          · have hn00 : n1 = 0 := by omega
            subst hn00
            have hk00 : (0 : Int) < k := by omega
            have hz1 : (0 : Int) ≤ (c1 : Int) := by omega
            have hz2 : (0 : Int) ≤ (0 : Int) := by omega
            go_upto_region 8 with (fail)
            go_region_held3 (fun w' => Upon W w') (first | assumption | exact Upon.start W | exact Upon.more ‹Upon W _› ‹Below _ _ _›)
              (first
                | (go_at_call 7; (with_reducible refine (awake_ok _ (HT1'.out _ (‹Upon W _›).out)).mono ?_); rintro e w9 ⟨rfl, hb9⟩)
                | (go_at_call 9; (with_reducible refine (sequenceZ t m _ hts (HT1'.out _ (‹Upon W _›).out)).mono ?_); rintro e w9 ⟨v9, rfl, ho9, hb9⟩; obtain ⟨A9, n9, c9, rfl, hn9⟩ := ho9.slice; have HO9 := Lib.hid ho9; clear ho9 hn9)
                | (go_at_call 10; (with_reducible refine (atZ_ok t m _ _ hts (HT1'.out _ (‹Upon W _›).out)).mono ?_); rintro e w9 ⟨rfl, hb9⟩)
                | (go_at_call 11; (with_reducible refine (prefixZ t m _ _ hts (HT1'.out _ (‹Upon W _›).out)).mono ?_); rintro e w9 ⟨v9, rfl, ho9, hb9⟩; obtain ⟨A9, n9, c9, rfl, hn9⟩ := ho9.slice; rw [HPZ.out] at ho9; have HO10 := Lib.hid ho9; clear ho9 hn9)
                | (go_at_call 8; (with_reducible refine (eq24_same _ _ _ _ _ _ _ _ (HO10.out.rs (S' := fun _ => True) (fun _ _ => trivial) (fun _ _ _ => trivial)) (HRK.out.below (‹Upon W _›).out (fun _ h => h))).mono ?_); rintro e w10 h10; obtain ⟨rfl, hb10⟩ := RetQ.toV h10; clear h10)
                | (go_at_call 8; (with_reducible refine (eq24_same _ _ _ _ _ _ _ _ (HO9.out.rs (S' := fun _ => True) (fun _ _ => trivial) (fun _ _ _ => trivial)) (HRS.out.below (‹Upon W _›).out (fun _ h => h))).mono ?_); rintro e w10 h10; obtain ⟨rfl, hb10⟩ := RetQ.toV h10; clear h10))
            all_goals
              go_wp2_with fail
              go_ret
              exact ⟨rfl, below_more HB.out (‹Upon W _›).out⟩
end Go.Proofs.YtofdjlngohhlmaaDoor
