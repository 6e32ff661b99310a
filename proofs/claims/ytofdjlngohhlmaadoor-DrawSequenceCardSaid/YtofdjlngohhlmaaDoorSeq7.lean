/- The small functions of the laws; the sanity check. -/
import Derived.Test.YtofdjlngohhlmaaDoorSeq6
import Derived.Deep.RegionHeld3
namespace Go.Proofs.YtofdjlngohhlmaaDoor
open Go.RowKit

theorem mod_eq (x : Int) (n : Int) (h1 : 1 ≤ n) : (x.tmod n + n).tmod n = x % n := by
  have h0 := Int.tmod_add_mul_tdiv x n
  have hl : -n < x.tmod n ∧ x.tmod n < n := by
    have := Int.lt_tmod_of_pos x (show 0 < n by omega)
    have := Int.tmod_lt_of_pos x (show 0 < n by omega)
    omega
  rw [Int.tmod_eq_emod_of_nonneg (by omega), Int.add_emod_right]
  conv => rhs; rw [← h0, Int.add_mul_emod_self_left]
theorem mod_ok (x n : Int) (w : World) (h1 : 1 ≤ n) (h2 : n ≤ 1099511627776) :
    Calls Tryd.prog 12 #[.int .i64 x, .int .i64 n] w (RetW w (.int .i64 (x % n))) := by
  have hl : -n < x.tmod n ∧ x.tmod n < n := by
    have := Int.lt_tmod_of_pos x (show 0 < n by omega)
    have := Int.tmod_lt_of_pos x (show 0 < n by omega)
    omega
  have he := mod_eq x n h1
  obtain ⟨y, hy⟩ : ∃ y, x.tmod n = y := ⟨_, rfl⟩
  rw [hy] at hl he
  obtain ⟨hl1, hl2⟩ := hl
  have hyw : IntKind.i64.wrap y = y := by rw [IntKind.wrap_i64]; omega
  have hn0 : (n == 0) = false := by rw [beq_eq_false_iff_ne]; omega
  obtain ⟨z, hz⟩ : ∃ z, (y + n).tmod n = z := ⟨_, rfl⟩
  rw [hz] at he
  have HE := Lib.hid he
  have hzl : 0 ≤ z ∧ z < n := by rw [he]; exact ⟨Int.emod_nonneg _ (by omega), Int.emod_lt_of_pos _ (by omega)⟩
  obtain ⟨hz1, hz2⟩ := hzl
  clear he
  go_enter Tryd.func12, Tryd.ntmps12
  go_wp2_with fail
  go_ret
  exact ⟨ret_of (by rw [← HE.out]; rfl), rfl⟩

/-- a text of at most 20 bytes -/
def RetShort (w : World) (e : Ending) (w' : World) : Prop := ∃ t : ByteArray, e = .returned (.string t) ∧ t.size ≤ 20 ∧ w = w'
theorem short_ok (s : ByteArray) (w : World) (hs : s.size ≤ 9223372036854775807) :
    Calls Tryd.prog 5 #[.string s] w (RetShort w) := by
  go_enter Tryd.func5, Tryd.ntmps5
  by_cases h : s.size ≤ 20
  · go_wp2_with fail
    go_ret
    refine ⟨_, rfl, ?_, rfl⟩
    first | (simp; omega) | (simp; done) | exact h
  · go_wp2_with fail
    go_ret
    refine ⟨_, rfl, ?_, rfl⟩
    first | (simp; omega) | (simp; done) | exact h

theorem seq3_eq (sd : ByteArray) : seqZ sd 3 = seqF sd 3 := by rw [seqZ, if_neg (by decide)]; rfl
theorem pre32_eq (sd : ByteArray) : prefZ sd 3 2 = (seqF sd 3).take 2 := by rw [prefZ, seq3_eq]; rfl
theorem get31 (l : List Int) (hl : l.length = 3) : l[1]? = some (l.getD 1 0) := by
  rw [List.getD_eq_getElem?_getD, List.getElem?_eq_getElem (by rw [hl]; decide)]; rfl
theorem at31_eq (sd : ByteArray) : atZ sd 3 1 = (seqF sd 3).getD 1 0 := by
  have hx := get31 (seqF sd 3) (seqF_length sd 3)
  rw [atZ, if_neg (by decide), seq3_eq, List.getD_eq_getElem?_getD, List.getD_eq_getElem?_getD]
  show (seqF sd 3)[1]?.getD (-1) = (seqF sd 3)[1]?.getD 0
  rw [hx]; rfl
theorem at11_eq (sd : ByteArray) : atZ sd 1 1 = -1 := atZ_no (by decide)

set_option maxHeartbeats 2000000 in
theorem awake_sd (sd : ByteArray) (hsd : sd = ⟨#[115, 101, 101, 100]⟩) (hs : sd.size ≤ 1073741000) (w : World) (hT1 : Tab w 1) :
    Calls Tryd.prog 7 #[] w (RetV w (.bool true)) := by
  have HT1 := Lib.hid hT1
  have seq3 : ∀ w', Tab w' 1 → Calls Tryd.prog 9 #[.string ⟨#[115, 101, 101, 100]⟩, .int .i64 3] w' (RetN w' 3 (seqF sd 3)) := fun w' ht => by
    rw [← hsd, ← seq3_eq]; exact sequenceZ sd 3 w' hs ht
  have at31 : ∀ w', Tab w' 1 → Calls Tryd.prog 10 #[.string ⟨#[115, 101, 101, 100]⟩, .int .i64 3, .int .i64 1] w' (RetV w' (.int .i64 ((seqF sd 3).getD 1 0))) := fun w' ht => by
    rw [← hsd, ← at31_eq]; exact atZ_ok sd 3 1 w' hs ht
  have at11 : ∀ w', Tab w' 1 → Calls Tryd.prog 10 #[.string ⟨#[115, 101, 101, 100]⟩, .int .i64 1, .int .i64 1] w' (RetV w' (.int .i64 (-1))) := fun w' ht => by
    rw [← hsd, ← at11_eq sd]; exact atZ_ok sd 1 1 w' hs ht
  have pre32 : ∀ w', Tab w' 1 → Calls Tryd.prog 11 #[.string ⟨#[115, 101, 101, 100]⟩, .int .i64 3, .int .i64 2] w' (RetN w' 3 ((seqF sd 3).take 2)) := fun w' ht => by
    rw [← hsd, ← pre32_eq]; exact prefixZ sd 3 2 w' hs ht
  have hp := seqF_perm sd 3
  have hl := seqF_length sd 3
  obtain ⟨l, hll⟩ : ∃ l, seqF sd 3 = l := ⟨_, rfl⟩
  rw [hll] at seq3 at31 pre32 hp hl
  have hx := get31 l hl
  obtain ⟨x1, hx1⟩ : ∃ x1, l.getD 1 0 = x1 := ⟨_, rfl⟩
  rw [hx1] at hx at31
  have SEQ3 := Lib.hid seq3
  have AT31 := Lib.hid at31
  have AT11 := Lib.hid at11
  have PRE32 := Lib.hid pre32
  have HX := Lib.hid hx
  have HL := Lib.hid hl
  have HP := Lib.hid hp
  clear hT1 seq3 at31 at11 pre32 hp hl hx hx1 hll hsd
  go_enter Tryd.func7, Tryd.ntmps7
  go_wp2_with fail
  refine (SEQ3.out w HT1.out).mono ?_
  rintro e W ⟨v, rfl, ho, hb⟩
  obtain ⟨A, n, c, rfl, hn⟩ := ho.slice
  rw [HL.out] at hn
  subst hn
  have hcap := ho.cap
  obtain ⟨g, u, rfl, hg1, hg2, hu, ec, _⟩ := ho.get1 rfl HX.out
  have hu' : [u] = [.int .i64 x1] := hu
  injection hu' with hu'
  subst hu'
  have hrs : RS W (· < W.heap.size) (some ⟨g, 0, none⟩) 3 c l := ho.rs (fun _ h => h.elim) (fun _ _ h => h)
  have HB := Lib.hid hb
  have HRS := Lib.hid hrs
  have hc3 : (3 : Int) ≤ (c : Int) := by omega
  have hc2 : (2 : Int) ≤ (c : Int) := by omega
  clear hb hrs hu ho
  have perm3 : ∀ w', Below W.heap.size W w' → Calls Tryd.prog 13 #[.int .i64 3, .slice (some ⟨g, 0, none⟩) 3 c] w' (RetV w' (.bool true)) :=
    fun w' hb => (perm_yes _ 3 _ _ _ (HRS.out.below hb (fun _ h => h)) HP.out).mono fun _ _ h => RetQ.toV h
  have tabW : ∀ w', Below W.heap.size W w' → Tab w' 1 := fun w' hb => (HT1.out.keep HB.out).keep hb
  have PERM3 := Lib.hid perm3
  have TABW := Lib.hid tabW
  clear perm3 tabW
  go_upto_region 2 with (fail)
  go_region_held3 (fun w' => Below W.heap.size W w' ∧ w'.cell? ⟨g, 1, none⟩ = some (.int .i64 x1)) (first | (exact ⟨(Below.refl _ _).drew, ec⟩) | (exact ⟨below_more (‹Below W.heap.size W _ ∧ _›).1 ‹Below _ _ _›, keepc ‹Below _ _ _› (‹Below W.heap.size W _ ∧ _›).2⟩) | (exact ⟨below_drewN (‹Below W.heap.size W _ ∧ _›).1 _, (‹Below W.heap.size W _ ∧ _›).2⟩))
    (first
      | (go_at_call 13; (with_reducible refine (PERM3.out _ (‹Below W.heap.size W _ ∧ _›).1).mono ?_); rintro e w9 ⟨rfl, hb9⟩)
      | (go_at_call 10; (with_reducible refine (AT31.out _ (TABW.out _ (‹Below W.heap.size W _ ∧ _›).1)).mono ?_); rintro e w9 ⟨rfl, hb9⟩)
      | (go_at_call 10; (with_reducible refine (AT11.out _ (TABW.out _ (‹Below W.heap.size W _ ∧ _›).1)).mono ?_); rintro e w9 ⟨rfl, hb9⟩)
      | (go_at_call 11; (with_reducible refine (PRE32.out _ (TABW.out _ (‹Below W.heap.size W _ ∧ _›).1)).mono ?_); rintro e w9 ⟨v9, rfl, ho9, hb9⟩; obtain ⟨A9, n9, c9, rfl, hn9⟩ := ho9.slice; have HO9 := Lib.hid ho9; clear ho9 hn9)
      | (go_at_call 8; (with_reducible refine (eq24_same _ _ _ _ _ _ _ _ (HO9.out.rs (S' := fun _ => True) (fun _ _ => trivial) (fun _ _ _ => trivial)) ((HRS.out.below (‹Below W.heap.size W _ ∧ _›).1 (fun _ h => h)).take (k := 2) (by decide))).mono ?_); rintro e w10 h10; obtain ⟨rfl, hb10⟩ := RetQ.toV h10; clear h10))
  all_goals
    go_wp2_with fail
    go_ret
    exact ⟨rfl, below_more HB.out (‹Below W.heap.size W _ ∧ _›).1⟩
theorem awake_ok (w : World) (hT1 : Tab w 1) : Calls Tryd.prog 7 #[] w (RetV w (.bool true)) :=
  awake_sd _ rfl (by decide) w hT1
end Go.Proofs.YtofdjlngohhlmaaDoor
