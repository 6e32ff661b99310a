/- Rat3 Rat4 Rat5 -/
import Derived.Test.YtjlhbfbdcfajfaaGreatDoorG08
import Derived.Deep.RegionWith
import Derived.Deep.RegionHeld3
import Derived.Deep.DeepCutAuto
/- ratio: sum, Add. -/
namespace Go.Proofs.YtjlhbfbdcfajfaaGreatDoor
open Go.RowKit

/-- the sum of two signed numbers -/
def sumQ (a : Bool) (X : Nat) (b : Bool) (Y : Nat) : Bool × Nat := if a = b then (a, X + Y) else if Y ≤ X then (a, X - Y) else (b, Y - X)
def RetSum (w : World) (r : Bool × Nat) (e : Ending) (w' : World) : Prop := ∃ A n c, e = .returned (.tuple #[.bool r.1, .slice A n c]) ∧ n = (lim r.2).length ∧ RS w' (Fresh w w') A n c (lim r.2) ∧ Below w.heap.size w w'

set_option maxHeartbeats 1000000 in
theorem sum_ok {S S2 : Nat → Prop} {A A2 : Option Addr} {n c n2 c2 : Nat} {xs ys : List (BitVec 32)} {w : World} (a b : Bool) (h : RS w S A n c xs) (h2 : RS w S2 A2 n2 c2 ys) (hS : ∀ b, S b → b < w.heap.size) (hS2 : ∀ b, S2 b → b < w.heap.size) (hn : n ≤ 536870912) (hn2 : n2 ≤ 536870912) :
    Calls Tryz.prog 166 #[.bool a, .slice A n c, .bool b, .slice A2 n2 c2] w (RetSum w (sumQ a (val xs) b (val ys))) := by
  have H := Lib.hid h
  have H2 := Lib.hid h2
  obtain ⟨X, hX⟩ : ∃ X, val xs = X := ⟨_, rfl⟩
  obtain ⟨Y, hY⟩ : ∃ Y, val ys = Y := ⟨_, rfl⟩
  have HX := Lib.hid hX
  have HY := Lib.hid hY
  rw [hX, hY]
  clear h h2 hX hY
  by_cases hab : a = b
  · have hq : sumQ a X b Y = (a, X + Y) := by unfold sumQ; rw [if_pos hab]
    rw [hq]
    have hab' : (a == b) = true := by simpa using hab
    have hab2 : (!a == !b) = true := by simpa using hab
    clear hq hab
    go_enter Tryz.func166, Tryz.ntmps166
    go_wp2_with fail
    refine (addL_ok H.out H2.out hS hS2 (by omega) (by omega)).mono ?_
    rintro e w2 h
    rw [HX.out, HY.out] at h
    obtain ⟨A3, n3, c3, rfl, hn3, hr, hb⟩ := h.slice
    have HN := Lib.hid hn3
    have HR := Lib.hid hr
    have HB := Lib.hid hb
    clear h hr hb hn3
    go_wp2_with fail
    go_ret2
    exact ⟨A3, n3, c3, rfl, HN.out, HR.out, HB.out⟩
  · have hab' : (a == b) = false := by simpa using hab
    by_cases hle : Y ≤ X
    · have hq : sumQ a X b Y = (a, X - Y) := by unfold sumQ; rw [if_neg hab, if_pos hle]
      rw [hq]
      have HLE := Lib.hid hle
      clear hq hab hle
      go_enter Tryz.func166, Tryz.ntmps166
      go_wp2_with fail
      refine (subL_ok H.out H2.out hS hS2 (by omega) (by rw [HX.out, HY.out]; exact HLE.out)).mono ?_
      rintro e w2 ⟨v, rfl, ho, hb⟩
      rw [HX.out, HY.out] at ho
      obtain ⟨A3, n3, c3, rfl, hn3⟩ := ho.slice
      have HN := Lib.hid hn3
      have HR := Lib.hid (ho.fresh (Nat.le_refl _))
      have HB := Lib.hid hb
      clear ho hb hn3
      go_wp2_with fail
      go_ret2
      exact ⟨A3, n3, c3, rfl, HN.out, HR.out, HB.out⟩
    · have hq : sumQ a X b Y = (b, Y - X) := by unfold sumQ; rw [if_neg hab, if_neg hle]
      rw [hq]
      have hlt : X < Y := by omega
      have HLT := Lib.hid hlt
      clear hq hab hle hlt
      go_enter Tryz.func166, Tryz.ntmps166
      go_wp2_with fail
      refine (subL_no H.out H2.out (by rw [HX.out, HY.out]; exact HLT.out)).mono ?_
      rintro e w2 ⟨v, rfl, ho, hb⟩
      have HR1 := Lib.hid (H.out.below hb hS)
      have HR2 := Lib.hid (H2.out.below hb hS2)
      have HB := Lib.hid hb
      clear ho hb
      go_wp2_with fail
      refine (subL_ok HR2.out HR1.out (fun b h => Nat.lt_of_lt_of_le (hS2 b h) HB.out.size) (fun b h => Nat.lt_of_lt_of_le (hS b h) HB.out.size) (by omega) (by rw [HX.out, HY.out]; exact Nat.le_of_lt HLT.out)).mono ?_
      rintro e w3 ⟨v, rfl, ho, hb⟩
      rw [HX.out, HY.out] at ho
      obtain ⟨A3, n3, c3, rfl, hn3⟩ := ho.slice
      have HN := Lib.hid hn3
      have HR := Lib.hid (ho.fresh HB.out.size)
      have HB3 := Lib.hid (below_more HB.out hb)
      clear ho hb hn3
      go_wp2_with fail
      go_ret2
      exact ⟨A3, n3, c3, rfl, HN.out, HR.out, HB3.out⟩

theorem lim_mul_len {a b j k : Nat} (ha : (lim a).length ≤ j) (hb : (lim b).length ≤ k) : (lim (a * b)).length ≤ j + k := by
  have h1 := val_lt (lim a)
  have h2 := val_lt (lim b)
  rw [val_lim] at h1 h2
  have h3 := Nat.lt_of_lt_of_le h1 (Nat.pow_le_pow_right (by omega) ha)
  have h4 := Nat.lt_of_lt_of_le h2 (Nat.pow_le_pow_right (by omega) hb)
  refine lim_length_le ?_
  rw [Nat.pow_add]
  exact Nat.mul_lt_mul'' h3 h4
theorem lim_add_len {a b k : Nat} (ha : (lim a).length ≤ k) (hb : (lim b).length ≤ k) : (lim (a + b)).length ≤ k + 1 := by
  have h1 := val_lt (lim a)
  have h2 := val_lt (lim b)
  rw [val_lim] at h1 h2
  have h3 := Nat.lt_of_lt_of_le h1 (Nat.pow_le_pow_right (by omega) ha)
  have h4 := Nat.lt_of_lt_of_le h2 (Nat.pow_le_pow_right (by omega) hb)
  refine lim_length_le ?_
  rw [Nat.pow_succ]
  omega
theorem sumQ_len {a b : Bool} {X Y k : Nat} (hx : (lim X).length ≤ k) (hy : (lim Y).length ≤ k) : (lim (sumQ a X b Y).2).length ≤ k + 1 := by
  unfold sumQ
  split
  · exact lim_add_len hx hy
  · split
    · exact Nat.le_succ_of_le (lim_short hx (Nat.sub_le _ _))
    · exact Nat.le_succ_of_le (lim_short hy (Nat.sub_le _ _))
theorem short_q {r : Raw} {k : Nat} (h : r.short k) (hk : 1 ≤ k) : (lim r.q.n).length ≤ k ∧ (lim r.q.d).length ≤ k := by
  have hx : (lim (val r.num)).length ≤ k := by rw [lim_val]; exact Nat.le_trans (trimL_length _) h.1
  have hy : (lim (val r.den)).length ≤ k := by rw [lim_val]; exact Nat.le_trans (trimL_length _) h.2
  unfold Raw.q mkQ
  split
  · simp only [lim_zero, one_lim, List.length_nil, List.length_singleton]; omega
  · exact ⟨lim_short hx (Nat.div_le_self _ _), lim_short hy (Nat.div_le_self _ _)⟩

/-- the sum of two numbers -/
def addQ (a b : Q) : Q := mkQ (sumQ a.neg (a.n * b.d) b.neg (b.n * a.d)).1 (sumQ a.neg (a.n * b.d) b.neg (b.n * a.d)).2 (a.d * b.d)

set_option maxRecDepth 20000 in
set_option maxHeartbeats 2000000 in
theorem addR_ok {S S2 : Nat → Prop} {va vb : Value} {ra rb : Raw} {w : World} (ha : SV w S va ra) (hb : SV w S2 vb rb) (hS : ∀ b, S b → b < w.heap.size) (hS2 : ∀ b, S2 b → b < w.heap.size) (hla : ra.short 67108864) (hlb : rb.short 67108864) :
    Calls Tryz.prog 137 #[va, vb] w (RetSV w (addQ ra.q rb.q)) := by
  obtain ⟨A, n, c, A2, n2, c2, rfl, h1, h2⟩ := ha.raw_cases
  obtain ⟨A3, n3, c3, A4, n4, c4, rfl, h3, h4⟩ := hb.raw_cases
  have hbb : Below w.heap.size w (((w.alloc (.cells #[.bool ra.neg, .slice A n c, .slice A2 n2 c2] 28)).alloc (.cells #[.bool rb.neg, .slice A3 n3 c3, .slice A4 n4 c4] 28)).alloc (.cells #[.bool false, .slice none 0 0, .slice none 0 0] 28)) :=
    (((Below.refl _ _).alloc (Nat.le_refl _) _).alloc (by simp) _).alloc (by simp; omega) _
  obtain ⟨w1, hw1⟩ : ∃ x, ((w.alloc (.cells #[.bool ra.neg, .slice A n c, .slice A2 n2 c2] 28)).alloc (.cells #[.bool rb.neg, .slice A3 n3 c3, .slice A4 n4 c4] 28)).alloc (.cells #[.bool false, .slice none 0 0, .slice none 0 0] 28) = x := ⟨_, rfl⟩
  have hs1 : w1.heap.size = w.heap.size + 3 := by rw [← hw1]; simp
  have hk0 : Blk w1 w.heap.size 28 #[.bool ra.neg, .slice A n c, .slice A2 n2 c2] := by rw [← hw1]; exact ((Blk.new _ _ _).alloc _).alloc _
  have hk1 : Blk w1 (w.heap.size + 1) 28 #[.bool rb.neg, .slice A3 n3 c3, .slice A4 n4 c4] := by rw [← hw1]; exact (Blk.new' (by simp) _ _).alloc _
  have hk2 : Blk w1 (w.heap.size + 2) 28 #[.bool false, .slice none 0 0, .slice none 0 0] := by rw [← hw1]; exact Blk.new' (by simp) _ _
  rw [hw1] at hbb
  have HWA := Lib.hid (ha.below hbb hS)
  have HWB := Lib.hid (hb.below hbb hS2)
  have HW1 := Lib.hid hw1
  have HBB := Lib.hid hbb
  have HK0 := Lib.hid hk0
  have HK1 := Lib.hid hk1
  have HK2 := Lib.hid hk2
  have HS1 := Lib.hid hs1
  obtain ⟨qa, hqa⟩ : ∃ q, ra.q = q := ⟨_, rfl⟩
  obtain ⟨qb, hqb⟩ : ∃ q, rb.q = q := ⟨_, rfl⟩
  rw [hqa, hqb]
  have HQA := Lib.hid hqa
  have HQB := Lib.hid hqb
  clear ha hb h1 h2 h3 h4 hw1 hbb hk0 hk1 hk2 hs1 hqa hqb
  go_enter Tryz.func137, Tryz.ntmps137
  go_upto_region 1 with (fail)
  rw [HW1.out]
  obtain ⟨d0, d1, d2, e0, e1, e2⟩ := HK0.out.facts3
  obtain ⟨d3, d4, d5, e3, e4, e5⟩ := HK1.out.facts3
  go_cut [8] (fun _ wx => ∃ A5 n5 c5 A6 n6 c6 A7 n7 c7 A8 n8 c8, Blk wx w.heap.size 28 #[.bool qa.neg, .slice A5 n5 c5, .slice A6 n6 c6] ∧ Blk wx (w.heap.size + 1) 28 #[.bool qb.neg, .slice A7 n7 c7, .slice A8 n8 c8] ∧
      Blk wx (w.heap.size + 1 + 1) 28 #[.bool false, .slice none 0 0, .slice none 0 0] ∧ RS wx (Fresh w1 wx) A5 n5 c5 (lim qa.n) ∧ RS wx (Fresh w1 wx) A6 n6 c6 (lim qa.d) ∧ RS wx (Fresh w1 wx) A7 n7 c7 (lim qb.n) ∧ RS wx (Fresh w1 wx) A8 n8 c8 (lim qb.d) ∧ Below w.heap.size w wx)
  case first =>
    have NA0 : Calls Tryz.prog 74 #[.agg #[.bool ra.neg, .slice A n c, .slice A2 n2 c2]] w1.drew (RetSV w1 qa) := by
      rw [← HQA.out]; exact calls_drew (normR_ok (w := w1.drew) (r := ra) HWA.out.drew (fun b hb => Nat.lt_of_lt_of_le (hS b hb) HBB.out.size) ⟨Nat.le_trans hla.1 (by omega), Nat.le_trans hla.2 (by omega)⟩)
    have NA1 : Calls Tryz.prog 74 #[.agg #[.bool ra.neg, .slice A n c, .slice A2 n2 c2]] w1.drew.drew (RetSV w1 qa) := by
      rw [← HQA.out]; exact calls_drew2 (normR_ok (w := w1.drew.drew) (r := ra) HWA.out.drew.drew (fun b hb => Nat.lt_of_lt_of_le (hS b hb) HBB.out.size) ⟨Nat.le_trans hla.1 (by omega), Nat.le_trans hla.2 (by omega)⟩)
    have NB : ∀ w2 : World, Below w1.heap.size w1 w2 → Calls Tryz.prog 74 #[.agg #[.bool rb.neg, .slice A3 n3 c3, .slice A4 n4 c4]] w2 (RetSV w2 qb) := fun w2 hb2 => by
      rw [← HQB.out]; exact normR_ok (r := rb) (HWB.out.below hb2 (fun b hb => Nat.lt_of_lt_of_le (hS2 b hb) HBB.out.size)) (fun b hb => Nat.lt_of_lt_of_le (hS2 b hb) (Nat.le_trans HBB.out.size hb2.size)) ⟨Nat.le_trans hlb.1 (by omega), Nat.le_trans hlb.2 (by omega)⟩
    have HNA0 := Lib.hid NA0
    have HNA1 := Lib.hid NA1
    have HNB := Lib.hid NB
    clear NA0 NA1 NB
    go_region_with (first
      | (go_at_call 74
         (with_reducible first | refine HNA0.out.mono ?_ | refine HNA1.out.mono ?_)
         rintro e w2 ⟨v, rfl, ⟨cs, rfl, A5, n5, c5, A6, n6, c6, rfl, g5, g6⟩, hb2⟩
         obtain ⟨d3, d4, d5, e3, e4, e5⟩ := (HK1.out.keep hb2).facts3
         have HNB0 := Lib.hid (HNB.out w2 hb2)
         have HNB1 : Hid (Calls Tryz.prog 74 #[.agg #[.bool rb.neg, .slice A3 n3 c3, .slice A4 n4 c4]] w2.drew (RetSV w2 qb)) := Lib.hid (calls_drew (HNB.out w2.drew (below_drewN hb2 1)))
         have HNB2 : Hid (Calls Tryz.prog 74 #[.agg #[.bool rb.neg, .slice A3 n3 c3, .slice A4 n4 c4]] w2.drew.drew (RetSV w2 qb)) := Lib.hid (calls_drew2 (HNB.out w2.drew.drew (below_drewN hb2 2)))
         have G5 := Lib.hid g5
         have G6 := Lib.hid g6
         have HBA := Lib.hid hb2
         clear g5 g6 hb2)
      | (go_at_call 74
         (with_reducible first | refine HNB0.out.mono ?_ | refine HNB1.out.mono ?_ | refine HNB2.out.mono ?_)
         rintro e w3 ⟨v, rfl, ⟨cs, rfl, A7, n7, c7, A8, n8, c8, rfl, g7, g8⟩, hb3⟩
         obtain ⟨d0, d1, d2, e0, e1, e2⟩ := ((HK0.out.keep HBA.out).keep hb3).facts3
         obtain ⟨d3, d4, d5, e3, e4, e5⟩ := ((HK1.out.keep HBA.out).keep hb3).facts3
         have G7 := Lib.hid g7
         have G8 := Lib.hid g8
         have HBB3 := Lib.hid hb3
         clear g7 g8 hb3))
    all_goals go_wp2_with fail
    all_goals
      go_meet
      have b0 := (HK0.out.keep HBA.out).keep HBB3.out
      have b1 := (HK1.out.keep HBA.out).keep HBB3.out
      have b2 := (HK2.out.keep HBA.out).keep HBB3.out
      have s1 := HS1.out
      have s2 := HBA.out.size
      have s3 := HBB3.out.size
      have r5 : RS w3 (Fresh w1 w3) A5 n5 c5 (lim qa.n) := (G5.out.below HBB3.out (fun _ h => h.2)).sub (fresh_mono s3)
      have r6 : RS w3 (Fresh w1 w3) A6 n6 c6 (lim qa.d) := (G6.out.below HBB3.out (fun _ h => h.2)).sub (fresh_mono s3)
      have r7 : RS w3 (Fresh w1 w3) A7 n7 c7 (lim qb.n) := G7.out.sub (fresh_trans s2)
      have r8 : RS w3 (Fresh w1 w3) A8 n8 c8 (lim qb.d) := G8.out.sub (fresh_trans s2)
      have kk : Keeps (Fresh w1 w3) w3 (setAll (setAll w3 w.heap.size 0 [.bool qa.neg, .slice A5 n5 c5, .slice A6 n6 c6]) (w.heap.size + 1) 0 [.bool qb.neg, .slice A7 n7 c7, .slice A8 n8 c8]) :=
        ((Keeps.refl _ _).setAll (fun h => by have := h.1; omega) _ 0).setAll (fun h => by have := h.1; omega) _ 0
      have ff : ∀ b, Fresh w1 w3 b → Fresh w1 (setAll (setAll w3 w.heap.size 0 [.bool qa.neg, .slice A5 n5 c5, .slice A6 n6 c6]) (w.heap.size + 1) 0 [.bool qb.neg, .slice A7 n7 c7, .slice A8 n8 c8]) b := fun b hb => ⟨hb.1, by rw [size_setAll, size_setAll]; exact hb.2⟩
      have k0 : Blk (setAll (setAll w3 w.heap.size 0 [.bool qa.neg, .slice A5 n5 c5, .slice A6 n6 c6]) (w.heap.size + 1) 0 [.bool qb.neg, .slice A7 n7 c7, .slice A8 n8 c8]) w.heap.size 28 #[.bool qa.neg, .slice A5 n5 c5, .slice A6 n6 c6] :=
        Blk.farAll (Blk.setAll [.bool qa.neg, .slice A5 n5 c5, .slice A6 n6 c6] b0 rfl) (by omega) _ 0
      have k1 : Blk (setAll (setAll w3 w.heap.size 0 [.bool qa.neg, .slice A5 n5 c5, .slice A6 n6 c6]) (w.heap.size + 1) 0 [.bool qb.neg, .slice A7 n7 c7, .slice A8 n8 c8]) (w.heap.size + 1) 28 #[.bool qb.neg, .slice A7 n7 c7, .slice A8 n8 c8] :=
        Blk.setAll [.bool qb.neg, .slice A7 n7 c7, .slice A8 n8 c8] (Blk.farAll b1 (by omega) _ 0) rfl
      have k2 : Blk (setAll (setAll w3 w.heap.size 0 [.bool qa.neg, .slice A5 n5 c5, .slice A6 n6 c6]) (w.heap.size + 1) 0 [.bool qb.neg, .slice A7 n7 c7, .slice A8 n8 c8]) (w.heap.size + 1 + 1) 28 #[.bool false, .slice none 0 0, .slice none 0 0] :=
        Blk.farAll (Blk.farAll b2 (by omega) _ 0) (by omega) _ 0
      have k3 : Below w.heap.size w (setAll (setAll w3 w.heap.size 0 [.bool qa.neg, .slice A5 n5 c5, .slice A6 n6 c6]) (w.heap.size + 1) 0 [.bool qb.neg, .slice A7 n7 c7, .slice A8 n8 c8]) :=
        below_setAll (below_setAll (below_more (below_more HBB.out HBA.out) HBB3.out) (Nat.le_refl _) _ 0) (Nat.le_succ _) _ 0
      exact ⟨A5, n5, c5, A6, n6, c6, A7, n7, c7, A8, n8, c8, k0, k1, k2, r5.keep ff kk, r6.keep ff kk, r7.keep ff kk, r8.keep ff kk, k3⟩
  case rest =>
    obtain ⟨A5, n5, c5, A6, n6, c6, A7, n7, c7, A8, n8, c8, b0, b1, b2, r5, r6, r7, r8, hbx⟩ := hcut
    have R5 := Lib.hid r5
    have R6 := Lib.hid r6
    have R7 := Lib.hid r7
    have R8 := Lib.hid r8
    have l5 := (short_q hla (by omega)).1
    have l6 := (short_q hla (by omega)).2
    have l7 := (short_q hlb (by omega)).1
    have l8 := (short_q hlb (by omega)).2
    rw [HQA.out, r5.len] at l5
    rw [HQA.out, r6.len] at l6
    rw [HQB.out, r7.len] at l7
    rw [HQB.out, r8.len] at l8
    have HX := Lib.hid (lim_mul_len (Nat.le_of_eq r5.len) (Nat.le_of_eq r8.len))
    have HY := Lib.hid (lim_mul_len (Nat.le_of_eq r7.len) (Nat.le_of_eq r6.len))
    have hH : ∀ w', Up wc w' → Up wc w' ∧ w'.cell? ⟨w.heap.size, 0, none⟩ = some (.bool qa.neg) ∧ w'.cell? ⟨w.heap.size, 1, none⟩ = some (.slice A5 n5 c5) ∧ w'.cell? ⟨w.heap.size, 2, none⟩ = some (.slice A6 n6 c6) ∧
        w'.cell? ⟨w.heap.size + 1, 0, none⟩ = some (.bool qb.neg) ∧ w'.cell? ⟨w.heap.size + 1, 1, none⟩ = some (.slice A7 n7 c7) ∧ w'.cell? ⟨w.heap.size + 1, 2, none⟩ = some (.slice A8 n8 c8) :=
      fun w' hu => ⟨hu, (b0.keep hu).cell 0, (b0.keep hu).cell 1, (b0.keep hu).cell 2, (b1.keep hu).cell 0, (b1.keep hu).cell 1, (b1.keep hu).cell 2⟩
    have HH := Lib.hid hH
    have B0 := Lib.hid b0
    have B1 := Lib.hid b1
    have B2 := Lib.hid b2
    have HBX := Lib.hid hbx
    have m1 : ∀ w', Up wc w' → Calls Tryz.prog 167 #[.slice A5 n5 c5, .slice A8 n8 c8] w' (RetN w' 98 (lim (qa.n * qb.d))) := fun w' hu => by
      have := mulL_ok (R5.out.below hu.out (fun _ h => h.2)) (R8.out.below hu.out (fun _ h => h.2)) (fun b h => Nat.lt_of_lt_of_le h.2 hu.out.size) (fun b h => Nat.lt_of_lt_of_le h.2 hu.out.size) (by omega) (by omega)
      rwa [val_lim, val_lim] at this
    have m2 : ∀ w', Up wc w' → Calls Tryz.prog 167 #[.slice A7 n7 c7, .slice A6 n6 c6] w' (RetN w' 98 (lim (qb.n * qa.d))) := fun w' hu => by
      have := mulL_ok (R7.out.below hu.out (fun _ h => h.2)) (R6.out.below hu.out (fun _ h => h.2)) (fun b h => Nat.lt_of_lt_of_le h.2 hu.out.size) (fun b h => Nat.lt_of_lt_of_le h.2 hu.out.size) (by omega) (by omega)
      rwa [val_lim, val_lim] at this
    have m3 : ∀ w', Up wc w' → Calls Tryz.prog 167 #[.slice A6 n6 c6, .slice A8 n8 c8] w' (RetN w' 98 (lim (qa.d * qb.d))) := fun w' hu => by
      have := mulL_ok (R6.out.below hu.out (fun _ h => h.2)) (R8.out.below hu.out (fun _ h => h.2)) (fun b h => Nat.lt_of_lt_of_le h.2 hu.out.size) (fun b h => Nat.lt_of_lt_of_le h.2 hu.out.size) (by omega) (by omega)
      rwa [val_lim, val_lim] at this
    have HD := Lib.hid (lim_mul_len (Nat.le_of_eq R6.out.len) (Nat.le_of_eq R8.out.len))
    obtain ⟨s1, hs1⟩ : ∃ s, sumQ qa.neg (qa.n * qb.d) qb.neg (qb.n * qa.d) = s := ⟨_, rfl⟩
    have hsl : (lim s1.2).length ≤ 268435457 := by
      rw [← hs1]
      exact sumQ_len (Nat.le_trans HX.out (by omega)) (Nat.le_trans HY.out (by omega))
    have hadd : addQ qa qb = mkQ s1.1 s1.2 (qa.d * qb.d) := by unfold addQ; rw [hs1]
    have m4 : ∀ (w' : World) (S9 S0 : Nat → Prop) (A9 A0 : Option Addr) (n9 c9 n0 c0 : Nat), n9 = (lim (qa.n * qb.d)).length → n0 = (lim (qb.n * qa.d)).length → RS w' S9 A9 n9 c9 (lim (qa.n * qb.d)) → RS w' S0 A0 n0 c0 (lim (qb.n * qa.d)) → (∀ b, S9 b → b < w'.heap.size) → (∀ b, S0 b → b < w'.heap.size) →
        Calls Tryz.prog 166 #[.bool qa.neg, .slice A9 n9 c9, .bool qb.neg, .slice A0 n0 c0] w' (RetSum w' s1) := fun w' S9 S0 A9 A0 n9 c9 n0 c0 e9 e0 h9 h0 hS9 hS0 => by
      have := sum_ok qa.neg qb.neg h9 h0 hS9 hS0 (by have := HX.out; omega) (by have := HY.out; omega)
      rwa [val_lim, val_lim, hs1] at this
    have M1 := Lib.hid m1
    have M2 := Lib.hid m2
    have M3 := Lib.hid m3
    have M4 := Lib.hid m4
    have HSL := Lib.hid hsl
    have HADD := Lib.hid hadd
    clear r5 r6 r7 r8 hH b0 b1 b2 hbx d0 d1 d2 e0 e1 e2 d3 d4 d5 e3 e4 e5 m1 m2 m3 m4 hs1 hsl hadd
    go_upto_region 2 with (fail)
    go_region_held3 (fun w' => Up wc w' ∧ w'.cell? ⟨w.heap.size, 0, none⟩ = some (.bool qa.neg) ∧ w'.cell? ⟨w.heap.size, 1, none⟩ = some (.slice A5 n5 c5) ∧ w'.cell? ⟨w.heap.size, 2, none⟩ = some (.slice A6 n6 c6) ∧
        w'.cell? ⟨w.heap.size + 1, 0, none⟩ = some (.bool qb.neg) ∧ w'.cell? ⟨w.heap.size + 1, 1, none⟩ = some (.slice A7 n7 c7) ∧ w'.cell? ⟨w.heap.size + 1, 2, none⟩ = some (.slice A8 n8 c8))
      (first | assumption | exact HH.out _ (Up.start wc) | exact HH.out _ (Up.more (‹Up wc _ ∧ _›).1 ‹Below _ _ _›))
      (first
        | (go_at_call 167
           (with_reducible refine (M1.out _ (‹Up wc _ ∧ _›).1).mono ?_)
           rintro e w5 h9
           obtain ⟨A9, n9, c9, rfl, hn9, hr9, hb9⟩ := h9.slice
           obtain ⟨S9, hr9', hS9⟩ : ∃ S9 : Nat → Prop, RS w5 S9 A9 n9 c9 (lim (qa.n * qb.d)) ∧ ∀ b, S9 b → b < w5.heap.size := ⟨_, hr9, fun b h => h.2⟩
           have HR9 := Lib.hid hr9'
           have HS9 := Lib.hid hS9
           have HN9 := Lib.hid hn9
           clear h9 hr9 hn9 hr9' hS9)
        | (go_at_call 167
           (with_reducible refine (M2.out _ (‹Up wc _ ∧ _›).1).mono ?_)
           rintro e w6 h9
           obtain ⟨A0, n0, c0, rfl, hn0, hr0, hb0⟩ := h9.slice
           obtain ⟨S0, hr0', hS0⟩ : ∃ S0 : Nat → Prop, RS w6 S0 A0 n0 c0 (lim (qb.n * qa.d)) ∧ ∀ b, S0 b → b < w6.heap.size := ⟨_, hr0, fun b h => h.2⟩
           have HR0 := Lib.hid hr0'
           have HS0 := Lib.hid hS0
           have HN0 := Lib.hid hn0
           have HR91 := Lib.hid (HR9.out.below hb0 HS9.out)
           have HF9 : Hid (∀ b, S9 b → b < w6.heap.size) := Lib.hid (fun b h => Nat.lt_of_lt_of_le (HS9.out b h) hb0.size)
           clear h9 hr0 hn0 hr0' hS0)
        | (go_at_call 166
           (with_reducible refine (M4.out _ _ _ _ _ _ _ _ _ HN9.out HN0.out HR91.out HR0.out HF9.out HS0.out).mono ?_)
           rintro e w7 ⟨A1, n1, c1, rfl, hn1, hr1, hb1⟩
           have HR1 := Lib.hid hr1
           have HN1 := Lib.hid hn1
           clear hr1 hn1))
    all_goals
      have hu : Up wc w7 := (‹Up wc w7 ∧ _›).1
      have HU := Lib.hid hu
      obtain ⟨S1, hr1', hS1⟩ : ∃ S1 : Nat → Prop, RS w7 S1 A1 n1 c1 (lim s1.2) ∧ ∀ b, S1 b → b < w7.heap.size := ⟨_, HR1.out, fun b h => h.2⟩
      have HR1' := Lib.hid hr1'
      have HS1' := Lib.hid hS1
      have BB2 := Lib.hid (B2.out.keep hu)
      have BX7 := Lib.hid (below_more HBX.out hu.out)
      have hn1b : n1 ≤ 268435457 := by have := HN1.out; have := HSL.out; omega
      clear hr1' hS1 hu
      go_wp2_with fail
      refine (M3.out _ HU.out).mono ?_
      rintro e w8 h
      obtain ⟨A2', n2', c2', rfl, hn2', hr2', hb8⟩ := h.slice
      have hn2b : n2' ≤ 268435457 := by have := HD.out; omega
      have HR1'' := Lib.hid (HR1'.out.below hb8 HS1'.out)
      have HS1'' : Hid (∀ b, S1 b → b < w8.heap.size) := Lib.hid (fun b h => Nat.lt_of_lt_of_le (HS1'.out b h) hb8.size)
      have HR2' := Lib.hid hr2'
      have BB3 := Lib.hid (BB2.out.keep hb8)
      have BX8 := Lib.hid (below_more BX7.out hb8)
      clear h hn2' hr2' hb8
      go_wp2_with fail
      refine (make_ok s1.1 HR1''.out HR2'.out HS1''.out (fun b h => h.2) (by omega) (by omega)).mono ?_
      rintro e w9 ⟨v, rfl, ⟨cs, rfl, hr⟩, hb⟩
      have hr' := hr
      obtain ⟨A5', n5', c5', A6', n6', c6', rfl, _, _⟩ := hr'
      rw [val_lim, val_lim, ← HADD.out] at hr ⊢
      obtain ⟨c0, c1, c2, f0, f1, f2⟩ := (BB3.out.keep hb).facts3
      have HK4 := Lib.hid (BB3.out.keep hb)
      have HB4 := Lib.hid (below_more BX8.out hb)
      have HR4 := Lib.hid hr
      obtain ⟨q, hq⟩ : ∃ q, addQ qa qb = q := ⟨_, rfl⟩
      rw [hq] at HR4 ⊢
      have HQ := Lib.hid hq
      have hsz := BB3.out.lt
      clear hr hb hq
      go_wp2_with fail
      refine ret_struct (x := q) (S := Fresh w8 w9) (cs := [.bool q.neg, .slice A5' n5' c5', .slice A6' n6' c6']) rfl rfl (by omega) HK4.out rfl Tryz.underlying28 rfl (by kernel_rfl) HR4.out (fun b hb => ?_) HB4.out rfl (by rw [← HQ.out]; exact id)
      have h1 := hb.1
      exact ⟨⟨by omega, hb.2⟩, by omega⟩
end Go.Proofs.YtjlhbfbdcfajfaaGreatDoor
/- ratio: Sub, Cmp, Valid, Text. -/
namespace Go.Proofs.YtjlhbfbdcfajfaaGreatDoor
open Go.RowKit

/-- with the other sign -/
def Raw.flip (r : Raw) : Raw := ⟨!r.neg, r.num, r.den⟩

set_option maxRecDepth 20000 in
set_option maxHeartbeats 2000000 in
theorem subR_ok {S S2 : Nat → Prop} {va vb : Value} {ra rb : Raw} {w : World} (ha : SV w S va ra) (hb : SV w S2 vb rb) (hS : ∀ b, S b → b < w.heap.size) (hS2 : ∀ b, S2 b → b < w.heap.size) (hla : ra.short 67108864) (hlb : rb.short 67108864) :
    Calls Tryz.prog 106 #[va, vb] w (RetSV w (addQ ra.q rb.flip.q)) := by
  obtain ⟨A, n, c, A2, n2, c2, rfl, h1, h2⟩ := ha.raw_cases
  obtain ⟨A3, n3, c3, A4, n4, c4, rfl, h3, h4⟩ := hb.raw_cases
  have hbb : Below w.heap.size w (((w.alloc (.cells #[.bool ra.neg, .slice A n c, .slice A2 n2 c2] 28)).alloc (.cells #[.bool (!rb.neg), .slice A3 n3 c3, .slice A4 n4 c4] 28)).alloc (.cells #[.bool false, .slice none 0 0, .slice none 0 0] 28)) :=
    (((Below.refl _ _).alloc (Nat.le_refl _) _).alloc (by simp) _).alloc (by simp; omega) _
  obtain ⟨w1, hw1⟩ : ∃ x, ((w.alloc (.cells #[.bool ra.neg, .slice A n c, .slice A2 n2 c2] 28)).alloc (.cells #[.bool (!rb.neg), .slice A3 n3 c3, .slice A4 n4 c4] 28)).alloc (.cells #[.bool false, .slice none 0 0, .slice none 0 0] 28) = x := ⟨_, rfl⟩
  have hs1 : w1.heap.size = w.heap.size + 3 := by rw [← hw1]; simp
  have hk2 : Blk w1 (w.heap.size + 1 + 1) 28 #[.bool false, .slice none 0 0, .slice none 0 0] := by rw [← hw1]; exact Blk.new' (by simp) _ _
  rw [hw1] at hbb
  have hfl : SV w1 S2 (.agg #[.bool (!rb.neg), .slice A3 n3 c3, .slice A4 n4 c4]) rb.flip := ⟨_, rfl, A3, n3, c3, A4, n4, c4, rfl, h3.below hbb hS2, h4.below hbb hS2⟩
  have HWA := Lib.hid (ha.below hbb hS)
  have HWB := Lib.hid hfl
  have HW1 := Lib.hid hw1
  have HBB := Lib.hid hbb
  have HK2 := Lib.hid hk2
  have HS1 := Lib.hid hs1
  obtain ⟨q, hq⟩ : ∃ q, addQ ra.q rb.flip.q = q := ⟨_, rfl⟩
  rw [hq]
  have HQ := Lib.hid hq
  clear ha hb h1 h2 h3 h4 hw1 hbb hk2 hs1 hq hfl
  go_enter Tryz.func106, Tryz.ntmps106
  go_wp2_with fail
  rw [HW1.out]
  refine (addR_ok HWA.out HWB.out (fun b hb => Nat.lt_of_lt_of_le (hS b hb) HBB.out.size) (fun b hb => Nat.lt_of_lt_of_le (hS2 b hb) HBB.out.size) hla hlb).mono ?_
  rintro e w2 ⟨v, rfl, ⟨cs, rfl, hr⟩, hb⟩
  have hr' := hr
  obtain ⟨A5, n5, c5, A6, n6, c6, rfl, _, _⟩ := hr'
  obtain ⟨c0, c1, c2', f0, f1, f2⟩ := (HK2.out.keep hb).facts3
  have HK := Lib.hid (HK2.out.keep hb)
  have HB2 := Lib.hid (below_more HBB.out hb)
  rw [HQ.out] at hr ⊢
  have HR := Lib.hid hr
  clear hr hb
  go_wp2_with fail
  refine ret_struct (x := q) (S := Fresh w1 w2) (cs := [.bool q.neg, .slice A5 n5 c5, .slice A6 n6 c6]) rfl rfl (by omega) HK.out rfl Tryz.underlying28 rfl (by kernel_rfl) HR.out (fun b hb => ?_) HB2.out rfl id
  have h1 := hb.1
  rw [HS1.out] at h1
  exact ⟨⟨by omega, hb.2⟩, by omega⟩

/-- the order of two numbers -/
def cmpQ (a b : Q) : Int := if (addQ a b).neg then -1 else if (addQ a b).n = 0 then 0 else 1
theorem len_lim_zero {n : Nat} : (lim n).length = 0 ↔ n = 0 := by rw [List.length_eq_zero_iff, lim_eq_nil]

set_option maxRecDepth 20000 in
set_option maxHeartbeats 2000000 in
theorem cmpR_ok {S S2 : Nat → Prop} {va vb : Value} {ra rb : Raw} {w : World} (ha : SV w S va ra) (hb : SV w S2 vb rb) (hS : ∀ b, S b → b < w.heap.size) (hS2 : ∀ b, S2 b → b < w.heap.size) (hla : ra.short 67108864) (hlb : rb.short 67108864) :
    Calls Tryz.prog 81 #[va, vb] w (RetV w (.int .i64 (cmpQ ra.q rb.flip.q))) := by
  obtain ⟨A, n, c, A2, n2, c2, rfl, h1, h2⟩ := ha.raw_cases
  obtain ⟨A3, n3, c3, A4, n4, c4, rfl, h3, h4⟩ := hb.raw_cases
  have hbb : Below w.heap.size w ((w.alloc (.cells #[.bool ra.neg, .slice A n c, .slice A2 n2 c2] 28)).alloc (.cells #[.bool rb.neg, .slice A3 n3 c3, .slice A4 n4 c4] 28)) :=
    ((Below.refl _ _).alloc (Nat.le_refl _) _).alloc (by simp) _
  obtain ⟨w1, hw1⟩ : ∃ x, (w.alloc (.cells #[.bool ra.neg, .slice A n c, .slice A2 n2 c2] 28)).alloc (.cells #[.bool rb.neg, .slice A3 n3 c3, .slice A4 n4 c4] 28) = x := ⟨_, rfl⟩
  rw [hw1] at hbb
  have HWA := Lib.hid (ha.below hbb hS)
  have HWB := Lib.hid (hb.below hbb hS2)
  have HW1 := Lib.hid hw1
  have HBB := Lib.hid hbb
  obtain ⟨q, hq⟩ : ∃ q, addQ ra.q rb.flip.q = q := ⟨_, rfl⟩
  have hc : cmpQ ra.q rb.flip.q = if q.neg then -1 else if q.n = 0 then 0 else 1 := by unfold cmpQ; rw [hq]
  obtain ⟨z, hz⟩ : ∃ z, cmpQ ra.q rb.flip.q = z := ⟨_, rfl⟩
  rw [hz] at hc ⊢
  have HC := Lib.hid hc
  have HQ := Lib.hid hq
  clear ha hb h1 h2 h3 h4 hw1 hbb hq hc hz
  go_enter Tryz.func81, Tryz.ntmps81
  go_wp2_with fail
  rw [HW1.out]
  refine (subR_ok HWA.out HWB.out (fun b hb => Nat.lt_of_lt_of_le (hS b hb) HBB.out.size) (fun b hb => Nat.lt_of_lt_of_le (hS2 b hb) HBB.out.size) hla hlb).mono ?_
  rintro e w2 ⟨v, rfl, ⟨cs, rfl, A5, n5, c5, A6, n6, c6, rfl, h5, h6⟩, hb⟩
  rw [HQ.out] at h5 h6 ⊢
  have HB2 := Lib.hid (below_more HBB.out hb)
  have hn5 := h5.len
  have h0 := len_lim_zero (n := q.n)
  rw [hn5] at h0
  have H0 := Lib.hid h0
  have hm := h5.max
  clear h5 h6 hb hn5 h0 HQ
  obtain ⟨qneg, qn, qd⟩ := q
  cases qneg with
  | true =>
    go_wp2_with fail
    go_ret
    exact ⟨by rw [HC.out]; rfl, HB2.out.alloc HB2.out.size _⟩
  | false =>
    by_cases hz : n5 = 0
    · have hq0 : qn = 0 := H0.out.1 hz
      subst hz
      subst hq0
      go_wp2_with fail
      go_ret
      exact ⟨by rw [HC.out]; rfl, HB2.out.alloc HB2.out.size _⟩
    · have hb0 : ((n5 : Int) == 0) = false := by rw [beq_eq_false_iff_ne]; omega
      have hq0 : qn ≠ 0 := fun e => hz (H0.out.2 e)
      have HQ0 := Lib.hid hq0
      clear hq0 hz
      go_wp2_with fail
      go_ret
      exact ⟨by rw [HC.out]; simp [HQ0.out], HB2.out.alloc HB2.out.size _⟩
end Go.Proofs.YtjlhbfbdcfajfaaGreatDoor
/- ratio: Valid, Text. -/
namespace Go.Proofs.YtjlhbfbdcfajfaaGreatDoor
open Go.RowKit

/-- is it in normal form? -/
def Raw.valid (r : Raw) : Bool := r.neg == r.q.neg && (decide (r.num = lim r.q.n) && decide (r.den = lim r.q.d))

set_option maxRecDepth 20000 in
set_option maxHeartbeats 2000000 in
theorem validR_ok {S : Nat → Prop} {v : Value} {r : Raw} {w : World} (h : SV w S v r) (hS : ∀ b, S b → b < w.heap.size) (hl : r.short 536870912) :
    Calls Tryz.prog 43 #[v] w (RetV w (.bool r.valid)) := by
  obtain ⟨A, n, c, A2, n2, c2, rfl, h1, h2⟩ := h.raw_cases
  have hbb : Below w.heap.size w (w.alloc (.cells #[.bool r.neg, .slice A n c, .slice A2 n2 c2] 28)) := (Below.refl _ _).alloc (Nat.le_refl _) _
  have hkk : Blk (w.alloc (.cells #[.bool r.neg, .slice A n c, .slice A2 n2 c2] 28)) w.heap.size 28 #[.bool r.neg, .slice A n c, .slice A2 n2 c2] := Blk.new _ _ _
  obtain ⟨w1, hw1⟩ : ∃ x, w.alloc (.cells #[.bool r.neg, .slice A n c, .slice A2 n2 c2] 28) = x := ⟨_, rfl⟩
  rw [hw1] at hbb hkk
  have HV := Lib.hid (h.below hbb hS)
  have HW1 := Lib.hid hw1
  have HBB := Lib.hid hbb
  have HKK := Lib.hid hkk
  have H1 := Lib.hid (h1.below hbb hS)
  have H2 := Lib.hid (h2.below hbb hS)
  obtain ⟨q, hq⟩ : ∃ q, r.q = q := ⟨_, rfl⟩
  obtain ⟨z, hz⟩ : ∃ z, r.valid = z := ⟨_, rfl⟩
  have hzz : z = (r.neg == q.neg && (decide (r.num = lim q.n) && decide (r.den = lim q.d))) := by rw [← hz, ← hq]; rfl
  rw [hz]
  obtain ⟨neg, num, den⟩ := r
  have HQ := Lib.hid hq
  have HZ := Lib.hid hzz
  clear h h1 h2 hw1 hbb hkk hq hz hzz
  go_enter Tryz.func43, Tryz.ntmps43
  go_wp2_with fail
  rw [HW1.out]
  refine (normR_ok HV.out (fun b hb => Nat.lt_of_lt_of_le (hS b hb) HBB.out.size) hl).mono ?_
  rintro e w2 ⟨v, rfl, ⟨cs, rfl, A5, n5, c5, A6, n6, c6, rfl, h5, h6⟩, hb⟩
  rw [HQ.out] at h5 h6 ⊢
  obtain ⟨d0, d1, d2, _, _, _⟩ := ((HKK.out.keep hb).alloc (.cells #[.bool q.neg, .slice A5 n5 c5, .slice A6 n6 c6] 28)).facts3
  have hb2 : Below w.heap.size w (w2.alloc (.cells #[.bool q.neg, .slice A5 n5 c5, .slice A6 n6 c6] 28)) := (below_more HBB.out hb).alloc (below_more HBB.out hb).size _
  have hn1 : RS (w2.alloc (.cells #[.bool q.neg, .slice A5 n5 c5, .slice A6 n6 c6] 28)) S A n c num := (H1.out.below hb (fun b hb => Nat.lt_of_lt_of_le (hS b hb) HBB.out.size)).below ((Below.refl _ _).alloc (Nat.le_refl _) _) (fun b h => Nat.lt_of_lt_of_le (hS b h) (below_more HBB.out hb).size)
  have hn2 : RS (w2.alloc (.cells #[.bool q.neg, .slice A5 n5 c5, .slice A6 n6 c6] 28)) S A2 n2 c2 den := (H2.out.below hb (fun b hb => Nat.lt_of_lt_of_le (hS b hb) HBB.out.size)).below ((Below.refl _ _).alloc (Nat.le_refl _) _) (fun b h => Nat.lt_of_lt_of_le (hS b h) (below_more HBB.out hb).size)
  have hn5 : RS (w2.alloc (.cells #[.bool q.neg, .slice A5 n5 c5, .slice A6 n6 c6] 28)) (Fresh w1 w2) A5 n5 c5 (lim q.n) := h5.below ((Below.refl _ _).alloc (Nat.le_refl _) _) (fun b h => h.2)
  have hn6 : RS (w2.alloc (.cells #[.bool q.neg, .slice A5 n5 c5, .slice A6 n6 c6] 28)) (Fresh w1 w2) A6 n6 c6 (lim q.d) := h6.below ((Below.refl _ _).alloc (Nat.le_refl _) _) (fun b h => h.2)
  have N1 := Lib.hid hn1
  have N2 := Lib.hid hn2
  have N5 := Lib.hid hn5
  have N6 := Lib.hid hn6
  have B2 := Lib.hid hb2
  clear h5 h6 hb hb2 hn1 hn2 hn5 hn6
  by_cases he : neg = q.neg
  · have he' : (neg == q.neg) = true := by simpa using he
    have he2 : (!neg == !q.neg) = true := by simpa using he
    go_wp2_with fail
    refine (equalN_ok N1.out N5.out).mono ?_
    rintro e w' ⟨rfl, m, rfl⟩
    by_cases hx : num = lim q.n
    · rw [decide_eq_true hx]
      go_wp2_with fail
      refine (equalN_ok (N2.out.drewN m) (N6.out.drewN m)).mono ?_
      rintro e w' ⟨rfl, m2, rfl⟩
      obtain ⟨y, hy⟩ : ∃ y, decide (den = lim q.d) = y := ⟨_, rfl⟩
      have hzy : z = y := by rw [HZ.out, decide_eq_true hx, hy]; simp [he]
      rw [hy, ← hzy]
      clear hy hzy hx
      go_wp2_with fail
      go_ret
      exact ⟨rfl, below_drewN B2.out _⟩
    · have hzf : z = false := by rw [HZ.out, decide_eq_false hx]; simp
      rw [decide_eq_false hx]
      have HZF := Lib.hid hzf
      clear hx hzf
      go_wp2_with fail
      go_ret
      exact ⟨by rw [HZF.out]; rfl, below_drewN B2.out _⟩
  · have he' : (neg == q.neg) = false := by simpa using he
    have hzf : z = false := by rw [HZ.out]; simp [he]
    have HZF := Lib.hid hzf
    clear hzf he
    go_wp2_with fail
    go_ret
    exact ⟨by rw [HZF.out]; rfl, B2.out⟩

/-- how a walk compares a string with a constant -/
theorem str_ne {y : ByteArray} {l : List UInt8} (h : y ≠ ⟨l.toArray⟩) : (y.toList == l) = false := by
  rw [ByteArray.toList_eq]
  rw [beq_eq_false_iff_ne]
  intro e
  apply h
  apply ByteArray.ext
  rw [← e]
theorem ba_append (a b : List UInt8) : ((⟨a.toArray⟩ : ByteArray) ++ ⟨b.toArray⟩) = ⟨(a ++ b).toArray⟩ := by
  apply ByteArray.ext
  rw [ByteArray.data_append]
  simp
/-- a number in decimal, as a fraction if it is no integer -/
def textQ (q : Q) : List UInt8 := (if q.neg then [45] else []) ++ decText q.n ++ (if decText q.d = [49] then [] else 47 :: decText q.d)

set_option maxRecDepth 20000 in
set_option maxHeartbeats 2000000 in
theorem textR_ok {S : Nat → Prop} {v : Value} {r : Raw} {w : World} (h : SV w S v r) (hS : ∀ b, S b → b < w.heap.size) (hl : r.short 67108864) :
    Calls Tryz.prog 73 #[v] w (RetV w (.string ⟨(textQ r.q).toArray⟩)) := by
  obtain ⟨A, n, c, A2, n2, c2, rfl, h1, h2⟩ := h.raw_cases
  have hbb : Below w.heap.size w (w.alloc (.cells #[.bool r.neg, .slice A n c, .slice A2 n2 c2] 28)) := (Below.refl _ _).alloc (Nat.le_refl _) _
  have hkk : Blk (w.alloc (.cells #[.bool r.neg, .slice A n c, .slice A2 n2 c2] 28)) w.heap.size 28 #[.bool r.neg, .slice A n c, .slice A2 n2 c2] := Blk.new _ _ _
  obtain ⟨w1, hw1⟩ : ∃ x, w.alloc (.cells #[.bool r.neg, .slice A n c, .slice A2 n2 c2] 28) = x := ⟨_, rfl⟩
  rw [hw1] at hbb hkk
  have hs1 : w1.heap.size = w.heap.size + 1 := by rw [← hw1]; simp
  have HV := Lib.hid (h.below hbb hS)
  have HW1 := Lib.hid hw1
  have HBB := Lib.hid hbb
  have HKK := Lib.hid hkk
  have HS1 := Lib.hid hs1
  have hq1 := (short_q hl (by omega)).1
  have hq2 := (short_q hl (by omega)).2
  obtain ⟨q, hq⟩ : ∃ q, r.q = q := ⟨_, rfl⟩
  rw [hq] at hq1 hq2
  rw [hq]
  obtain ⟨neg, num, den⟩ := r
  have HQ := Lib.hid hq
  have HQ1 := Lib.hid hq1
  have HQ2 := Lib.hid hq2
  obtain ⟨T, hT⟩ : ∃ T : ByteArray, ⟨(textQ q).toArray⟩ = T := ⟨_, rfl⟩
  rw [hT]
  have HT := Lib.hid hT
  clear h h1 h2 hw1 hbb hkk hq hq1 hq2 hs1 hT
  go_enter Tryz.func73, Tryz.ntmps73
  go_wp2_with fail
  rw [HW1.out]
  refine (normR_ok HV.out (fun b hb => Nat.lt_of_lt_of_le (hS b hb) HBB.out.size) ⟨Nat.le_trans hl.1 (by omega), Nat.le_trans hl.2 (by omega)⟩).mono ?_
  rintro e w2 ⟨v, rfl, ⟨cs, rfl, A5, n5, c5, A6, n6, c6, rfl, h5, h6⟩, hb⟩
  rw [HQ.out] at h5 h6 ⊢
  obtain ⟨c0, c1, c2', f0, f1, f2⟩ := (HKK.out.keep hb).facts3
  have b3 : Below w.heap.size w (setAll w2 w.heap.size 0 [.bool q.neg, .slice A5 n5 c5, .slice A6 n6 c6]) := below_setAll (below_more HBB.out hb) (Nat.le_refl _) _ 0
  have k3 : Blk (setAll w2 w.heap.size 0 [.bool q.neg, .slice A5 n5 c5, .slice A6 n6 c6]) w.heap.size 28 #[.bool q.neg, .slice A5 n5 c5, .slice A6 n6 c6] := (HKK.out.keep hb).setAll [.bool q.neg, .slice A5 n5 c5, .slice A6 n6 c6] rfl
  have kp : Keeps (Fresh w1 w2) w2 (setAll w2 w.heap.size 0 [.bool q.neg, .slice A5 n5 c5, .slice A6 n6 c6]) := (Keeps.refl _ _).setAll (fun h => by have := h.1; have := HS1.out; omega) _ 0
  have r5 := h5.keep (fun _ h => h) kp
  have r6 := h6.keep (fun _ h => h) kp
  have z3 : (setAll w2 w.heap.size 0 [.bool q.neg, .slice A5 n5 c5, .slice A6 n6 c6]).heap.size = w2.heap.size := size_setAll _ _ _
  obtain ⟨w3, hw3⟩ : ∃ x, setAll w2 w.heap.size 0 [.bool q.neg, .slice A5 n5 c5, .slice A6 n6 c6] = x := ⟨_, rfl⟩
  rw [hw3] at b3 k3 r5 r6 z3
  have hl5 : n5 ≤ 67108864 := by have := HQ1.out; have := r5.len; omega
  have hl6 : n6 ≤ 67108864 := by have := HQ2.out; have := r6.len; omega
  have HW3 : Hid (((w2.setCell ⟨w.heap.size, 0, none⟩ (.bool q.neg)).setCell ⟨w.heap.size, 1, none⟩ (.slice A5 n5 c5)).setCell ⟨w.heap.size, 2, none⟩ (.slice A6 n6 c6) = w3) := Lib.hid hw3
  have B3 := Lib.hid b3
  have K3 := Lib.hid k3
  have R5 := Lib.hid r5
  have R6 := Lib.hid r6
  have Z3 := Lib.hid z3
  clear h5 h6 hb b3 k3 kp r5 r6 hw3 z3
  go_wp2_with fail
  rw [HW3.out]
  have t5 := text_ok R5.out (fun b h => by rw [Z3.out]; exact h.2) (by omega)
  rw [val_lim] at t5
  obtain ⟨x, hx⟩ : ∃ x : ByteArray, ⟨(decText q.n).toArray⟩ = x := ⟨_, rfl⟩
  rw [hx] at t5
  have hxs : x.size ≤ 1000000000 := by
    have := decText_len HQ1.out
    rw [← hx]
    show (decText q.n).toArray.size ≤ _
    rw [List.size_toArray]; omega
  have HX := Lib.hid hx
  have T5 := Lib.hid t5
  clear hx t5
  refine T5.out.mono ?_
  rintro e w4 ⟨rfl, hb4⟩
  obtain ⟨d0, d1, d2, _, _, _⟩ := (K3.out.keep hb4).facts3
  have R64 := Lib.hid (R6.out.below hb4 (fun b h => by rw [Z3.out]; exact h.2))
  have hz4 := hb4.size
  have t6 := text_ok R64.out (fun b h => Nat.lt_of_lt_of_le h.2 (by rw [← Z3.out]; exact hz4)) (by omega)
  rw [val_lim] at t6
  obtain ⟨y, hy⟩ : ∃ y : ByteArray, ⟨(decText q.d).toArray⟩ = y := ⟨_, rfl⟩
  rw [hy] at t6
  have hys : y.size ≤ 1000000000 := by
    have := decText_len HQ2.out
    rw [← hy]
    show (decText q.d).toArray.size ≤ _
    rw [List.size_toArray]; omega
  have HY := Lib.hid hy
  have T6 := Lib.hid t6
  have B4 := Lib.hid (below_more B3.out hb4)
  clear hy t6 hb4 hz4
  have hy1 : (y = ⟨#[49]⟩) ↔ decText q.d = [49] := by
    rw [← HY.out]
    constructor
    · intro e
      have := congrArg (fun b => b.data.toList) e
      simpa using this
    · intro e; rw [e]
  have HY1 := Lib.hid hy1
  clear hy1
  obtain ⟨qneg, qn, qd⟩ := q
  cases qneg with
  | true =>
    go_wp2_with fail
    refine T6.out.mono ?_
    rintro e w5 ⟨rfl, hb5⟩
    have B5 := Lib.hid (below_more B4.out hb5)
    clear hb5
    by_cases h1 : y = ⟨#[49]⟩
    · have hT : (⟨#[45]⟩ : ByteArray) ++ x = T := by
        rw [← HT.out, ← HX.out]
        unfold textQ
        rw [if_pos rfl, if_pos (HY1.out.1 h1), List.append_nil]
        exact ba_append [45] _
      have HTT := Lib.hid hT
      clear hT
      go_wp2_with fail
      go_ret
      exact ⟨congrArg (fun t => Ending.returned (.string t)) HTT.out, B5.out⟩
    · have hne : (y.toList == [49]) = false := str_ne h1
      have hT : (⟨#[45]⟩ : ByteArray) ++ x ++ (⟨#[47]⟩ ++ y) = T := by
        rw [← HT.out, ← HX.out, ← HY.out]
        unfold textQ
        rw [if_pos rfl, if_neg (fun e => h1 (HY1.out.2 e))]
        exact (congr (congrArg HAppend.hAppend (ba_append [45] _)) (ba_append [47] _)).trans (ba_append _ _)
      have HTT := Lib.hid hT
      clear hT h1
      have hxs2 : ((⟨#[45]⟩ : ByteArray) ++ x).size ≤ 1000000001 := by rw [ByteArray.size_append]; show 1 + _ ≤ _; omega
      have hys2 : ((⟨#[47]⟩ : ByteArray) ++ y).size ≤ 1000000001 := by rw [ByteArray.size_append]; show 1 + _ ≤ _; omega
      go_wp2_with fail
      go_ret
      exact ⟨congrArg (fun t => Ending.returned (.string t)) HTT.out, B5.out⟩
  | false =>
    go_wp2_with fail
    refine T6.out.mono ?_
    rintro e w5 ⟨rfl, hb5⟩
    have B5 := Lib.hid (below_more B4.out hb5)
    clear hb5
    by_cases h1 : y = ⟨#[49]⟩
    · have hT : x = T := by
        rw [← HT.out, ← HX.out]
        unfold textQ
        rw [if_neg (by simp), if_pos (HY1.out.1 h1), List.append_nil, List.nil_append]
      have HTT := Lib.hid hT
      clear hT
      go_wp2_with fail
      go_ret
      exact ⟨congrArg (fun t => Ending.returned (.string t)) HTT.out, B5.out⟩
    · have hne : (y.toList == [49]) = false := str_ne h1
      have hT : x ++ ((⟨#[47]⟩ : ByteArray) ++ y) = T := by
        rw [← HT.out, ← HX.out, ← HY.out]
        unfold textQ
        rw [if_neg (by simp), if_neg (fun e => h1 (HY1.out.2 e)), List.nil_append]
        exact (congrArg _ (ba_append [47] _)).trans (ba_append _ _)
      have HTT := Lib.hid hT
      clear hT h1
      go_wp2_with fail
      go_ret
      exact ⟨congrArg (fun t => Ending.returned (.string t)) HTT.out, B5.out⟩
end Go.Proofs.YtjlhbfbdcfajfaaGreatDoor
