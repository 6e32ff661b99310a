/- Vld2 Smp1 Acc1 Acc2 -/
import Derived.Test.YtjlhbfbdcfajfaaGreatDoorG28
/- schema: Valid. PRINTED by wip/gen/vld2.py -/
namespace Go.Proofs.YtjlhbfbdcfajfaaGreatDoor
open Go.RowKit

set_option maxRecDepth 20000 in
set_option maxHeartbeats 8000000 in
theorem valid_ok {B : Nat} {w : World} (htab : Tab B w) (hB : B ≤ w.heap.size) {S : Nat → Prop} {v : Value} {e : ElectionD} (h : SV w S v e) (hS : ∀ b, S b → b < w.heap.size) (hok : ElecOk e) (hsn : ElecSane e) :
    Calls Tryz.prog 28 #[v] w (RetV w (.bool (validP e))) := by
  obtain ⟨cs, rfl, AP, AnP, AcP, AC, AnC, AcC, AS, AnS, AcS, AN, AnN, AcN, AD, AnD, AcD, rfl, hrP, hrC, hrS, hrN, hrD⟩ := h
  have hb1 : Below w.heap.size w (w.alloc (.cells #[.string e.title, .int .i64 e.dots, .int .i64 e.blank, .int .i64 e.marked, .slice AP AnP AcP, .slice AC AnC AcC, .slice AS AnS AcS, .int .i64 e.scan, .int .i64 e.batch, .bool e.risk.neg, .slice AN AnN AcN, .slice AD AnD AcD, .int .i64 e.cell, .string e.seed] 30)) := (Below.refl _ _).alloc (Nat.le_refl _) _
  have hk1 : Blk (w.alloc (.cells #[.string e.title, .int .i64 e.dots, .int .i64 e.blank, .int .i64 e.marked, .slice AP AnP AcP, .slice AC AnC AcC, .slice AS AnS AcS, .int .i64 e.scan, .int .i64 e.batch, .bool e.risk.neg, .slice AN AnN AcN, .slice AD AnD AcD, .int .i64 e.cell, .string e.seed] 30)) w.heap.size 30 #[.string e.title, .int .i64 e.dots, .int .i64 e.blank, .int .i64 e.marked, .slice AP AnP AcP, .slice AC AnC AcC, .slice AS AnS AcS, .int .i64 e.scan, .int .i64 e.batch, .bool e.risk.neg, .slice AN AnN AcN, .slice AD AnD AcD, .int .i64 e.cell, .string e.seed] := Blk.new _ _ _
  obtain ⟨w1, hw1⟩ : ∃ q, w.alloc (.cells #[.string e.title, .int .i64 e.dots, .int .i64 e.blank, .int .i64 e.marked, .slice AP AnP AcP, .slice AC AnC AcC, .slice AS AnS AcS, .int .i64 e.scan, .int .i64 e.batch, .bool e.risk.neg, .slice AN AnN AcN, .slice AD AnD AcD, .int .i64 e.cell, .string e.seed] 30) = q := ⟨_, rfl⟩
  rw [hw1] at hb1 hk1
  have hS1 : ∀ b, S b → b < w1.heap.size := fun b h => Nat.lt_of_lt_of_le (hS b h) hb1.size
  have hE : ∀ w', Up w1 w' → SV w' S (.agg #[.string e.title, .int .i64 e.dots, .int .i64 e.blank, .int .i64 e.marked, .slice AP AnP AcP, .slice AC AnC AcC, .slice AS AnS AcS, .int .i64 e.scan, .int .i64 e.batch, .bool e.risk.neg, .slice AN AnN AcN, .slice AD AnD AcD, .int .i64 e.cell, .string e.seed]) e := fun w' hu => ⟨_, rfl, AP, AnP, AcP, AC, AnC, AcC, AS, AnS, AcS, AN, AnN, AcN, AD, AnD, AcD, rfl, (hrP.below hb1 hS).below hu.out hS1, (hrC.below hb1 hS).below hu.out hS1, (hrS.below hb1 hS).below hu.out hS1, (hrN.below hb1 hS).below hu.out hS1, (hrD.below hb1 hS).below hu.out hS1⟩
  have hRK : ∀ w', Up w1 w' → SV w' S (.agg #[.bool e.risk.neg, .slice AN AnN AcN, .slice AD AnD AcD]) e.risk := fun w' hu => ⟨_, rfl, _, _, _, _, _, _, rfl, (hrN.below hb1 hS).below hu.out hS1, (hrD.below hb1 hS).below hu.out hS1⟩
  have hsrc := sourceF_ok (htab.up hB hb1) (Nat.le_trans hB hb1.size) (hE w1 (Below.refl _ _)) hS1 hok
  obtain ⟨z, hz⟩ : ∃ z, validP e = z := ⟨_, rfl⟩
  rw [hz]
  have hzz := hz.symm
  unfold validP at hzz
  have d0 : w1.cell? ⟨w.heap.size, 0, none⟩ = some (.string e.title) := hk1.cell 0
  have d1 : w1.cell? ⟨w.heap.size, 1, none⟩ = some (.int .i64 e.dots) := hk1.cell 1
  have d2 : w1.cell? ⟨w.heap.size, 2, none⟩ = some (.int .i64 e.blank) := hk1.cell 2
  have d3 : w1.cell? ⟨w.heap.size, 3, none⟩ = some (.int .i64 e.marked) := hk1.cell 3
  have d4 : w1.cell? ⟨w.heap.size, 4, none⟩ = some (.slice AP AnP AcP) := hk1.cell 4
  have d5 : w1.cell? ⟨w.heap.size, 5, none⟩ = some (.slice AC AnC AcC) := hk1.cell 5
  have d6 : w1.cell? ⟨w.heap.size, 6, none⟩ = some (.slice AS AnS AcS) := hk1.cell 6
  have d7 : w1.cell? ⟨w.heap.size, 7, none⟩ = some (.int .i64 e.scan) := hk1.cell 7
  have d8 : w1.cell? ⟨w.heap.size, 8, none⟩ = some (.int .i64 e.batch) := hk1.cell 8
  have d9 : w1.cell? ⟨w.heap.size, 9, none⟩ = some (.bool e.risk.neg) := hk1.cell 9
  have d10 : w1.cell? ⟨w.heap.size, 10, none⟩ = some (.slice AN AnN AcN) := hk1.cell 10
  have d11 : w1.cell? ⟨w.heap.size, 11, none⟩ = some (.slice AD AnD AcD) := hk1.cell 11
  have d12 : w1.cell? ⟨w.heap.size, 12, none⟩ = some (.int .i64 e.cell) := hk1.cell 12
  have d13 : w1.cell? ⟨w.heap.size, 13, none⟩ = some (.string e.seed) := hk1.cell 13
  have HE := Lib.hid hE
  have HRK := Lib.hid hRK
  have HSRC := Lib.hid hsrc
  have HZ := Lib.hid hzz
  have HW1 := Lib.hid hw1
  have HB1 := Lib.hid hb1
  have HK1 := Lib.hid hk1
  have HS1 := Lib.hid hS1
  have HOK := Lib.hid hok
  have HSN := Lib.hid hsn
  show Calls _ _ #[.agg #[.string e.title, .int .i64 e.dots, .int .i64 e.blank, .int .i64 e.marked, .slice AP AnP AcP, .slice AC AnC AcC, .slice AS AnS AcS, .int .i64 e.scan, .int .i64 e.batch, .bool e.risk.neg, .slice AN AnN AcN, .slice AD AnD AcD, .int .i64 e.cell, .string e.seed]] w _
  clear hE hRK hsrc hzz hz hw1 hb1 hk1 hS1 hok hsn htab hrP hrC hrS hrN hrD hS
  go_enter Tryz.func28, Tryz.ntmps28
  go_upto_region 1 with (fail)
  rw [HW1.out]
  go_wp2_with fail
  refine HSRC.out.mono ?_
  rintro en w2 ⟨v2, rfl, ⟨cs2, rfl, hr2⟩, hb2⟩
  obtain ⟨A2, n2, c2, rfl, hrb⟩ := hr2
  have hcmp := compile_ok (s := sourceP e) hrb (fun b hb => hb.2) (srcOk_of HOK.out HSN.out)
  obtain ⟨⟨r, ⟨no, ln⟩⟩, hq⟩ : ∃ q, compileP (sourceP e) = q := ⟨_, rfl⟩
  have hshort := compileP_short (sourceP e)
  rw [hq] at hcmp hshort
  have hz1 := HZ.out
  rw [hq] at hz1
  have HZ1 := Lib.hid hz1
  have HCMP := Lib.hid hcmp
  have HSH := Lib.hid hshort
  have HB2 := Lib.hid hb2
  clear hrb hcmp hq hshort hz1 HZ hb2 d0 d1 d2 d3 d4 d5 d6 d7 d8 d9 d10 d11 d12 d13
  go_wp2_with fail
  refine HCMP.out.mono ?_
  rintro en w3 ⟨cs3, hen, hr3, hb3⟩
  obtain ⟨BP, BnP, BcP, BC, BnC, BcC, BS, BnS, BcS, BN, BnN, BcN, BD, BnD, BcD, hcs3, gP, gC, gS, gN, gD⟩ := hr3
  have hen' : en = .returned (.tuple #[.agg #[.string r.title, .int .i64 r.dots, .int .i64 r.blank, .int .i64 r.marked, .slice BP BnP BcP, .slice BC BnC BcC, .slice BS BnS BcS, .int .i64 r.scan, .int .i64 r.batch, .bool r.risk.neg, .slice BN BnN BcN, .slice BD BnD BcD, .int .i64 r.cell, .string r.seed], .agg #[.int .i64 no, .int .i64 ln]]) := by rw [hen, hcs3]; rfl
  clear hen
  subst hen'
  have hb13 : Below w1.heap.size w1 w3 := below_more HB2.out hb3
  have hb4 : Below w3.heap.size w3 ((w3.alloc (.cells #[.string r.title, .int .i64 r.dots, .int .i64 r.blank, .int .i64 r.marked, .slice BP BnP BcP, .slice BC BnC BcC, .slice BS BnS BcS, .int .i64 r.scan, .int .i64 r.batch, .bool r.risk.neg, .slice BN BnN BcN, .slice BD BnD BcD, .int .i64 r.cell, .string r.seed] 30)).alloc (.cells #[.int .i64 no, .int .i64 ln] 76)) := ((Below.refl _ _).alloc (Nat.le_refl _) _).alloc (by simp) _
  have hk3 : Blk ((w3.alloc (.cells #[.string r.title, .int .i64 r.dots, .int .i64 r.blank, .int .i64 r.marked, .slice BP BnP BcP, .slice BC BnC BcC, .slice BS BnS BcS, .int .i64 r.scan, .int .i64 r.batch, .bool r.risk.neg, .slice BN BnN BcN, .slice BD BnD BcD, .int .i64 r.cell, .string r.seed] 30)).alloc (.cells #[.int .i64 no, .int .i64 ln] 76)) w3.heap.size 30 #[.string r.title, .int .i64 r.dots, .int .i64 r.blank, .int .i64 r.marked, .slice BP BnP BcP, .slice BC BnC BcC, .slice BS BnS BcS, .int .i64 r.scan, .int .i64 r.batch, .bool r.risk.neg, .slice BN BnN BcN, .slice BD BnD BcD, .int .i64 r.cell, .string r.seed] := (Blk.new _ _ _).alloc _
  have hk4 : Blk ((w3.alloc (.cells #[.string r.title, .int .i64 r.dots, .int .i64 r.blank, .int .i64 r.marked, .slice BP BnP BcP, .slice BC BnC BcC, .slice BS BnS BcS, .int .i64 r.scan, .int .i64 r.batch, .bool r.risk.neg, .slice BN BnN BcN, .slice BD BnD BcD, .int .i64 r.cell, .string r.seed] 30)).alloc (.cells #[.int .i64 no, .int .i64 ln] 76)) (w3.heap.size + 1) 76 #[.int .i64 no, .int .i64 ln] := Blk.new' (by simp) _ _
  obtain ⟨w4, hw4⟩ : ∃ q, (w3.alloc (.cells #[.string r.title, .int .i64 r.dots, .int .i64 r.blank, .int .i64 r.marked, .slice BP BnP BcP, .slice BC BnC BcC, .slice BS BnS BcS, .int .i64 r.scan, .int .i64 r.batch, .bool r.risk.neg, .slice BN BnN BcN, .slice BD BnD BcD, .int .i64 r.cell, .string r.seed] 30)).alloc (.cells #[.int .i64 no, .int .i64 ln] 76) = q := ⟨_, rfl⟩
  rw [hw4] at hb4 hk3 hk4
  have hu4 : Up w1 w4 := Up.more hb13 hb4
  have hC : ∀ w', Up w4 w' → SV w' (Fresh w2 w3) (.agg #[.string r.title, .int .i64 r.dots, .int .i64 r.blank, .int .i64 r.marked, .slice BP BnP BcP, .slice BC BnC BcC, .slice BS BnS BcS, .int .i64 r.scan, .int .i64 r.batch, .bool r.risk.neg, .slice BN BnN BcN, .slice BD BnD BcD, .int .i64 r.cell, .string r.seed]) r := fun w' hu => ⟨_, rfl, BP, BnP, BcP, BC, BnC, BcC, BS, BnS, BcS, BN, BnN, BcN, BD, BnD, BcD, rfl, (gP.below hb4 (fun _ h => h.2)).below hu.out (fun b h => Nat.lt_of_lt_of_le h.2 hb4.size), (gC.below hb4 (fun _ h => h.2)).below hu.out (fun b h => Nat.lt_of_lt_of_le h.2 hb4.size), (gS.below hb4 (fun _ h => h.2)).below hu.out (fun b h => Nat.lt_of_lt_of_le h.2 hb4.size), (gN.below hb4 (fun _ h => h.2)).below hu.out (fun b h => Nat.lt_of_lt_of_le h.2 hb4.size), (gD.below hb4 (fun _ h => h.2)).below hu.out (fun b h => Nat.lt_of_lt_of_le h.2 hb4.size)⟩
  have t0 : w4.cell? ⟨w3.heap.size + 1, 0, none⟩ = some (.int .i64 no) := hk4.cell 0
  have hk14 := HK1.out.keep hu4
  have x9 : w4.cell? ⟨w.heap.size, 9, none⟩ = some (.bool e.risk.neg) := hk14.cell 9
  have x10 : w4.cell? ⟨w.heap.size, 10, none⟩ = some (.slice AN AnN AcN) := hk14.cell 10
  have x11 : w4.cell? ⟨w.heap.size, 11, none⟩ = some (.slice AD AnD AcD) := hk14.cell 11
  have HC := Lib.hid hC
  have HU4 := Lib.hid hu4
  have HW4 := Lib.hid hw4
  have HK3 := Lib.hid hk3
  have HB4 := Lib.hid hb4.size
  clear hb13 hb4 hk3 hk4 hw4 hu4 hC gP gC gS gN gD hb3 hk14
  go_upto_region 2 with (fail)
  rw [HW4.out]
  by_cases hno : no = 0
  case neg =>
    have hne : (no == 0) = false := by rw [beq_eq_false_iff_ne]; exact hno
    have hzf : z = false := by rw [HZ1.out, decide_eq_false hno, Bool.false_and]
    have HZF := Lib.hid hzf
    clear hzf hno
    go_wp2_with fail
    go_ret
    exact ⟨by rw [HZF.out]; rfl, HB1.out.trans (HU4.out.out.mono HB1.out.size)⟩
  subst hno
  obtain ⟨rv, hrv⟩ : ∃ q, e.risk.valid = q := ⟨_, rfl⟩
  have hval := validR_ok (HRK.out w4 HU4.out) (fun b h => Nat.lt_of_lt_of_le (HS1.out b h) HU4.out.out.size) ⟨Nat.le_trans HOK.out.short.1 (by omega), Nat.le_trans HOK.out.short.2 (by omega)⟩
  have hz2 := HZ1.out
  rw [decide_eq_true (rfl : (0 : Int) = 0), Bool.true_and] at hz2
  rw [hrv] at hval hz2
  have HVAL := Lib.hid hval
  have HZ2 := Lib.hid hz2
  clear hval hz2 hrv
  go_wp2_with fail
  refine HVAL.out.mono ?_
  rintro en w5 ⟨rfl, hb5⟩
  have hu5 : Up w4 w5 := hb5
  cases rv
  case false =>
    have hzf : z = false := by rw [HZ2.out, Bool.false_and]
    have HZF := Lib.hid hzf
    have HU5 := Lib.hid (HU4.out.more hb5)
    clear hzf hu5 hb5
    go_wp2_with fail
    go_ret
    exact ⟨by rw [HZF.out]; rfl, HB1.out.trans (HU5.out.out.mono HB1.out.size)⟩
  have hu15 : Up w1 w5 := HU4.out.more hb5
  obtain ⟨eq, heq⟩ : ∃ q, equalP r e = q := ⟨_, rfl⟩
  have hcall := equal_ok (HC.out w5 hu5) (HE.out w5 hu15) (fun b h => Nat.lt_of_lt_of_le h.2 (Nat.le_trans HB4.out hu5.out.size)) (fun b h => Nat.lt_of_lt_of_le (HS1.out b h) hu15.out.size) HSH.out HOK.out.short
  have hz3 := HZ2.out
  rw [Bool.true_and] at hz3
  rw [heq] at hcall hz3
  have hk15 := HK1.out.keep hu15
  have hk35 := HK3.out.keep hu5
  have p0 : w5.cell? ⟨w.heap.size, 0, none⟩ = some (.string e.title) := hk15.cell 0
  have p1 : w5.cell? ⟨w.heap.size, 1, none⟩ = some (.int .i64 e.dots) := hk15.cell 1
  have p2 : w5.cell? ⟨w.heap.size, 2, none⟩ = some (.int .i64 e.blank) := hk15.cell 2
  have p3 : w5.cell? ⟨w.heap.size, 3, none⟩ = some (.int .i64 e.marked) := hk15.cell 3
  have p4 : w5.cell? ⟨w.heap.size, 4, none⟩ = some (.slice AP AnP AcP) := hk15.cell 4
  have p5 : w5.cell? ⟨w.heap.size, 5, none⟩ = some (.slice AC AnC AcC) := hk15.cell 5
  have p6 : w5.cell? ⟨w.heap.size, 6, none⟩ = some (.slice AS AnS AcS) := hk15.cell 6
  have p7 : w5.cell? ⟨w.heap.size, 7, none⟩ = some (.int .i64 e.scan) := hk15.cell 7
  have p8 : w5.cell? ⟨w.heap.size, 8, none⟩ = some (.int .i64 e.batch) := hk15.cell 8
  have p9 : w5.cell? ⟨w.heap.size, 9, none⟩ = some (.bool e.risk.neg) := hk15.cell 9
  have p10 : w5.cell? ⟨w.heap.size, 10, none⟩ = some (.slice AN AnN AcN) := hk15.cell 10
  have p11 : w5.cell? ⟨w.heap.size, 11, none⟩ = some (.slice AD AnD AcD) := hk15.cell 11
  have p12 : w5.cell? ⟨w.heap.size, 12, none⟩ = some (.int .i64 e.cell) := hk15.cell 12
  have p13 : w5.cell? ⟨w.heap.size, 13, none⟩ = some (.string e.seed) := hk15.cell 13
  have q0 : w5.cell? ⟨w3.heap.size, 0, none⟩ = some (.string r.title) := hk35.cell 0
  have q1 : w5.cell? ⟨w3.heap.size, 1, none⟩ = some (.int .i64 r.dots) := hk35.cell 1
  have q2 : w5.cell? ⟨w3.heap.size, 2, none⟩ = some (.int .i64 r.blank) := hk35.cell 2
  have q3 : w5.cell? ⟨w3.heap.size, 3, none⟩ = some (.int .i64 r.marked) := hk35.cell 3
  have q4 : w5.cell? ⟨w3.heap.size, 4, none⟩ = some (.slice BP BnP BcP) := hk35.cell 4
  have q5 : w5.cell? ⟨w3.heap.size, 5, none⟩ = some (.slice BC BnC BcC) := hk35.cell 5
  have q6 : w5.cell? ⟨w3.heap.size, 6, none⟩ = some (.slice BS BnS BcS) := hk35.cell 6
  have q7 : w5.cell? ⟨w3.heap.size, 7, none⟩ = some (.int .i64 r.scan) := hk35.cell 7
  have q8 : w5.cell? ⟨w3.heap.size, 8, none⟩ = some (.int .i64 r.batch) := hk35.cell 8
  have q9 : w5.cell? ⟨w3.heap.size, 9, none⟩ = some (.bool r.risk.neg) := hk35.cell 9
  have q10 : w5.cell? ⟨w3.heap.size, 10, none⟩ = some (.slice BN BnN BcN) := hk35.cell 10
  have q11 : w5.cell? ⟨w3.heap.size, 11, none⟩ = some (.slice BD BnD BcD) := hk35.cell 11
  have q12 : w5.cell? ⟨w3.heap.size, 12, none⟩ = some (.int .i64 r.cell) := hk35.cell 12
  have q13 : w5.cell? ⟨w3.heap.size, 13, none⟩ = some (.string r.seed) := hk35.cell 13
  have HCALL := Lib.hid hcall
  have HZ3 := Lib.hid hz3
  have HU5 := Lib.hid hu15
  clear hcall hz3 heq hk15 hk35 hu5 hu15 hb5 x9 x10 x11 t0
  go_wp2_with fail
  refine HCALL.out.mono ?_
  rintro en w6 ⟨rfl, hb6⟩
  have HU6 := Lib.hid (HU5.out.more hb6)
  clear hb6
  go_wp2_with fail
  go_ret
  exact ⟨by rw [HZ3.out]; rfl, HB1.out.trans (HU6.out.out.mono HB1.out.size)⟩
end Go.Proofs.YtjlhbfbdcfajfaaGreatDoor
/- account: the sample election is valid. -/
namespace Go.Proofs.YtjlhbfbdcfajfaaGreatDoor
open Go.RowKit

/-- the sample of the statements -/
def sampleE : ElectionD := ⟨⟨#[]⟩, 2, 20, 50, [⟨#[97]⟩, ⟨#[98]⟩], [⟨⟨#[109]⟩, [⟨#[120]⟩, ⟨#[121]⟩, ⟨#[122]⟩], 1, 1, 3, 0, 3, 1, 1⟩], [⟨⟨#[115]⟩, [0, 1], [0]⟩], 1, 4, ⟨false, [1#32], [20#32]⟩, 2, ⟨#[]⟩⟩
theorem t1 : (textQ sampleE.risk.q) = [49, 47, 50, 48] := by kernel_rfl
theorem t2 : itoaP 20 = ⟨#[50, 48]⟩ := by kernel_rfl
theorem t3 : validP sampleE = true := by kernel_rfl
end Go.Proofs.YtjlhbfbdcfajfaaGreatDoor
/- account: its data; possible; Phantoms. -/
namespace Go.Proofs.YtjlhbfbdcfajfaaGreatDoor
open Go.RowKit

structure AccountD where
  prec : Int
  issued : Int
  spoilt : Int
  cast : Int
instance : Rep AccountD where
  sz := 4
  rep _ _ cs x := cs = [.int .i64 x.prec, .int .i64 x.issued, .int .i64 x.spoilt, .int .i64 x.cast]
  len h := by rw [h]; rfl
  keep h _ _ := h
structure GapD where
  prec : Int
  papers : Int
  recs : Int
  missing : Int
  extra : Int
  unbal : Bool
instance : Rep GapD where
  sz := 6
  rep _ _ cs x := cs = [.int .i64 x.prec, .int .i64 x.papers, .int .i64 x.recs, .int .i64 x.missing, .int .i64 x.extra, .bool x.unbal]
  len h := by rw [h]; rfl
  keep h _ _ := h
/-- a record, its votes as they stand -/
structure RecD where
  prec : Int
  votes : Value
  doubt : Bool
instance : Rep RecD where
  sz := 3
  rep _ _ cs x := ∃ A n c, x.votes = .slice A n c ∧ cs = [.int .i64 x.prec, .slice A n c, .bool x.doubt]
  len h := by obtain ⟨_, _, _, _, rfl⟩ := h; rfl
  keep h _ _ := h

def possP (n : Int) : Bool := decide (0 ≤ n) && decide (n ≤ 400)
theorem poss_ok (n : Int) (w : World) : Calls Tryz.prog 29 #[.int .i64 n] w (RetW w (.bool (possP n))) := by
  obtain ⟨z, hz⟩ : ∃ z, possP n = z := ⟨_, rfl⟩
  have hzz := hz.symm
  unfold possP at hzz
  rw [hz]
  have HZ := Lib.hid hzz
  clear hz hzz
  go_enter Tryz.func29, Tryz.ntmps29
  by_cases h0 : 0 ≤ n
  · have d0 : (0 ≤ n) = True := eq_true h0
    by_cases h1 : n ≤ 400
    · have hzf : z = true := by rw [HZ.out, decide_eq_true h0, decide_eq_true h1]; rfl
      have HZF := Lib.hid hzf
      have d1 : (n ≤ 400) = True := eq_true h1
      clear hzf h0 h1
      go_wp2_with fail
      go_ret
      exact ⟨by rw [HZF.out]; rfl, rfl⟩
    · have hzf : z = false := by rw [HZ.out, decide_eq_false h1, Bool.and_false]
      have HZF := Lib.hid hzf
      have d1 : (n ≤ 400) = False := eq_false h1
      clear hzf h0 h1
      go_wp2_with fail
      go_ret
      exact ⟨by rw [HZF.out]; rfl, rfl⟩
  · have hzf : z = false := by rw [HZ.out, decide_eq_false h0, Bool.false_and]
    have HZF := Lib.hid hzf
    have d0 : (0 ≤ n) = False := eq_false h0
    clear hzf h0
    go_wp2_with fail
    go_ret
    exact ⟨by rw [HZF.out]; rfl, rfl⟩

/-- one step of Phantoms -/
def phStep (n : Int) (g : GapD) : Int := min (n + min (max g.missing 0) 400) 400
def phantP (l : List GapD) : Int := l.foldl phStep 0
theorem phStep_range {n : Int} (g : GapD) (h : 0 ≤ n ∧ n ≤ 400) : 0 ≤ phStep n g ∧ phStep n g ≤ 400 := by unfold phStep; omega

set_option maxRecDepth 20000 in
set_option maxHeartbeats 2000000 in
theorem phant_ok {w : World} {S : Nat → Prop} {A : Option Addr} {n c : Nat} {xs : List GapD} (h : RS w S A n c xs) (hS : ∀ b, S b → b < w.heap.size) : Calls Tryz.prog 16 #[.slice A n c] w (RetV w (.int .i64 (phantP xs))) := by
  obtain ⟨z, hz⟩ : ∃ z, phantP xs = z := ⟨_, rfl⟩
  rw [hz]
  have hzz := hz.symm
  have hm1 := h.max
  have H1 := Lib.hid h
  have HZ := Lib.hid hzz
  have HL1 := Lib.hid h.len
  clear h hz hzz
  go_enter Tryz.func16, Tryz.ntmps16
  go_wp2_with fail
  go_loopw [3, 8] (fun nv iv wr => ∃ (k : Nat) (m : Int), iv = .int .i64 k ∧ k ≤ n ∧ nv = .int .i64 m ∧ 0 ≤ m ∧ m ≤ 400 ∧ z = (xs.drop k).foldl phStep m ∧ Below w.heap.size w wr) (fun _ iv _ => n - (intOf iv).toNat)
  case atStart => exact ⟨0, 0, rfl, Nat.zero_le _, rfl, by omega, by omega, HZ.out, Below.refl _ _⟩
  case round =>
    clear HZ
    obtain ⟨k, m, rfl, hk, rfl, hm0, hm4, hzk, hb⟩ := hrel
    have HZK := Lib.hid hzk
    have HB := Lib.hid hb
    have HR := Lib.hid (H1.out.below hb hS)
    clear hzk hb
    by_cases hlt : k < n
    · have hlt2 : (k : Int) < (n : Int) := by omega
      obtain ⟨b, o, x, cs, rfl, hSb, hx, hr, hld⟩ := HR.out.load_at (fun b h => Nat.lt_of_lt_of_le (hS b h) HB.out.size) hlt
      have hkc : (k : Int) ≤ (c : Int) := by have := HR.out.cap; omega
      have hz1 : z = (xs.drop (k + 1)).foldl phStep (phStep m x) := by rw [HZK.out, drop_cons' hx]; rfl
      have hrg := phStep_range x ⟨hm0, hm4⟩
      have hcs : cs = [.int .i64 x.prec, .int .i64 x.papers, .int .i64 x.recs, .int .i64 x.missing, .int .i64 x.extra, .bool x.unbal] := hr
      subst hcs
      have hla := hld wr (Below.refl _ _)
      have r0 : wr.cell? ⟨b, o + k * 6, none⟩ = some (.int .i64 x.prec) := hla.1 _ rfl
      have r1 : wr.cell? ⟨b, o + k * 6 + 1, none⟩ = some (.int .i64 x.papers) := hla.2 1 _ rfl
      have r2 : wr.cell? ⟨b, o + k * 6 + 2, none⟩ = some (.int .i64 x.recs) := hla.2 2 _ rfl
      have r3 : wr.cell? ⟨b, o + k * 6 + 3, none⟩ = some (.int .i64 x.missing) := hla.2 3 _ rfl
      have r4 : wr.cell? ⟨b, o + k * 6 + 4, none⟩ = some (.int .i64 x.extra) := hla.2 4 _ rfl
      have r5 : wr.cell? ⟨b, o + k * 6 + 5, none⟩ = some (.bool x.unbal) := hla.2 5 _ rfl
      have hb1 : Below wr.heap.size wr (wr.alloc (.cells #[.int .i64 x.prec, .int .i64 x.papers, .int .i64 x.recs, .int .i64 x.missing, .int .i64 x.extra, .bool x.unbal] 45)) := (Below.refl _ _).alloc (Nat.le_refl _) _
      have hk1 : Blk (wr.alloc (.cells #[.int .i64 x.prec, .int .i64 x.papers, .int .i64 x.recs, .int .i64 x.missing, .int .i64 x.extra, .bool x.unbal] 45)) wr.heap.size 45 #[.int .i64 x.prec, .int .i64 x.papers, .int .i64 x.recs, .int .i64 x.missing, .int .i64 x.extra, .bool x.unbal] := Blk.new _ _ _
      obtain ⟨w1, hw1⟩ : ∃ q, wr.alloc (.cells #[.int .i64 x.prec, .int .i64 x.papers, .int .i64 x.recs, .int .i64 x.missing, .int .i64 x.extra, .bool x.unbal] 45) = q := ⟨_, rfl⟩
      rw [hw1] at hb1 hk1
      have p3 : w1.cell? ⟨wr.heap.size, 3, none⟩ = some (.int .i64 x.missing) := hk1.cell 3
      obtain ⟨y, hy⟩ : ∃ y, max x.missing 0 = y := ⟨_, rfl⟩
      obtain ⟨u, hu⟩ : ∃ u, min y 400 = u := ⟨_, rfl⟩
      obtain ⟨s, hs⟩ : ∃ s, phStep m x = s := ⟨_, rfl⟩
      have hs2 : s = min (m + u) 400 := by rw [← hs, ← hu, ← hy]; rfl
      have hwr : IntKind.i64.wrap (m + u) = m + u := by rw [IntKind.wrap_i64] <;> omega
      rw [hs] at hz1 hrg
      have HZ1 := Lib.hid hz1
      have HB1 := Lib.hid (below_more HB.out hb1)
      have HW1 := Lib.hid hw1
      have HS := Lib.hid hs
      obtain ⟨hs0, hs4⟩ := hrg
      clear hla hld hx hr hz1 hb1 hk1 hw1 hs
      go_upto_region 5 with (fail)
      rw [HW1.out]
      clear r0 r1 r2 r3 r4 r5
      go_wp2_with fail
      refine ⟨⟨k + 1, s, by go_num, by omega, by rw [hs2], hs0, hs4, HZ1.out, HB1.out⟩, ?_⟩
      simp [intOf]
      omega
    · have hkn : k = n := by omega
      have hzf : z = m := by
        rw [HZK.out, List.drop_eq_nil_of_le (by rw [HL1.out]; omega)]
        rfl
      have HZF := Lib.hid hzf
      clear hzf hkn
      go_wp2_with fail
      go_ret
      exact ⟨by rw [HZF.out]; rfl, HB.out⟩
end Go.Proofs.YtjlhbfbdcfajfaaGreatDoor
/- account: Valid. PRINTED by wip/gen/acc2.py -/
namespace Go.Proofs.YtjlhbfbdcfajfaaGreatDoor
open Go.RowKit

def accOk : Nat → List AccountD → Bool
  | _, [] => true
  | i, a :: l => decide (a.prec = (i : Int)) && (possP a.issued && (possP a.spoilt && (possP a.cast && accOk (i + 1) l)))
def castSum (l : List AccountD) : Int := (l.map (·.cast)).sum
/-- what Valid of the accounts answers -/
def validA (e : ElectionD) (acs : List AccountD) : Bool := validP e && (decide (acs.length = e.prec.length) && (accOk 0 acs && possP (castSum acs)))
theorem possP_iff {n : Int} : possP n = true ↔ 0 ≤ n ∧ n ≤ 400 := by unfold possP; simp

set_option maxRecDepth 20000 in
set_option maxHeartbeats 4000000 in
theorem accValid_ok {B : Nat} {w : World} (htab : Tab B w) (hB : B ≤ w.heap.size) {S S2 : Nat → Prop} {v : Value} {e : ElectionD} (h : SV w S v e) (hS : ∀ b, S b → b < w.heap.size) (hok : ElecOk e) (hsn : ElecSane e) {A : Option Addr} {n c : Nat} {acs : List AccountD} (ha : RS w S2 A n c acs) (hS2 : ∀ b, S2 b → b < w.heap.size) :
    Calls Tryz.prog 11 #[v, .slice A n c] w (RetV w (.bool (validA e acs))) := by
  obtain ⟨cs, rfl, AP, AnP, AcP, AC, AnC, AcC, AS, AnS, AcS, AN, AnN, AcN, AD, AnD, AcD, rfl, hrP, hrC, hrS, hrN, hrD⟩ := h
  have hb1 : Below w.heap.size w (w.alloc (.cells #[.string e.title, .int .i64 e.dots, .int .i64 e.blank, .int .i64 e.marked, .slice AP AnP AcP, .slice AC AnC AcC, .slice AS AnS AcS, .int .i64 e.scan, .int .i64 e.batch, .bool e.risk.neg, .slice AN AnN AcN, .slice AD AnD AcD, .int .i64 e.cell, .string e.seed] 30)) := (Below.refl _ _).alloc (Nat.le_refl _) _
  have hk1 : Blk (w.alloc (.cells #[.string e.title, .int .i64 e.dots, .int .i64 e.blank, .int .i64 e.marked, .slice AP AnP AcP, .slice AC AnC AcC, .slice AS AnS AcS, .int .i64 e.scan, .int .i64 e.batch, .bool e.risk.neg, .slice AN AnN AcN, .slice AD AnD AcD, .int .i64 e.cell, .string e.seed] 30)) w.heap.size 30 #[.string e.title, .int .i64 e.dots, .int .i64 e.blank, .int .i64 e.marked, .slice AP AnP AcP, .slice AC AnC AcC, .slice AS AnS AcS, .int .i64 e.scan, .int .i64 e.batch, .bool e.risk.neg, .slice AN AnN AcN, .slice AD AnD AcD, .int .i64 e.cell, .string e.seed] := Blk.new _ _ _
  obtain ⟨w1, hw1⟩ : ∃ q, w.alloc (.cells #[.string e.title, .int .i64 e.dots, .int .i64 e.blank, .int .i64 e.marked, .slice AP AnP AcP, .slice AC AnC AcC, .slice AS AnS AcS, .int .i64 e.scan, .int .i64 e.batch, .bool e.risk.neg, .slice AN AnN AcN, .slice AD AnD AcD, .int .i64 e.cell, .string e.seed] 30) = q := ⟨_, rfl⟩
  rw [hw1] at hb1 hk1
  have hval := valid_ok (htab.up hB hb1) (Nat.le_trans hB hb1.size) (S := S) (e := e) (w := w1) ⟨_, rfl, AP, AnP, AcP, AC, AnC, AcC, AS, AnS, AcS, AN, AnN, AcN, AD, AnD, AcD, rfl, hrP.below hb1 hS, hrC.below hb1 hS, hrS.below hb1 hS, hrN.below hb1 hS, hrD.below hb1 hS⟩ (fun b h => Nat.lt_of_lt_of_le (hS b h) hb1.size) hok hsn
  obtain ⟨z, hz⟩ : ∃ z, validA e acs = z := ⟨_, rfl⟩
  rw [hz]
  have hzz := hz.symm
  unfold validA at hzz
  obtain ⟨vb, hvb⟩ : ∃ q, validP e = q := ⟨_, rfl⟩
  rw [hvb] at hval hzz
  have hlP := hrP.len
  have hlA := ha.len
  have hmP : AnP ≤ 274877906944 := by rw [← hlP]; exact hok.lp
  have hmA := ha.max
  rw [hlP, hlA] at hzz
  have d0 : w1.cell? ⟨w.heap.size, 0, none⟩ = some (.string e.title) := hk1.cell 0
  have d1 : w1.cell? ⟨w.heap.size, 1, none⟩ = some (.int .i64 e.dots) := hk1.cell 1
  have d2 : w1.cell? ⟨w.heap.size, 2, none⟩ = some (.int .i64 e.blank) := hk1.cell 2
  have d3 : w1.cell? ⟨w.heap.size, 3, none⟩ = some (.int .i64 e.marked) := hk1.cell 3
  have d4 : w1.cell? ⟨w.heap.size, 4, none⟩ = some (.slice AP AnP AcP) := hk1.cell 4
  have d5 : w1.cell? ⟨w.heap.size, 5, none⟩ = some (.slice AC AnC AcC) := hk1.cell 5
  have d6 : w1.cell? ⟨w.heap.size, 6, none⟩ = some (.slice AS AnS AcS) := hk1.cell 6
  have d7 : w1.cell? ⟨w.heap.size, 7, none⟩ = some (.int .i64 e.scan) := hk1.cell 7
  have d8 : w1.cell? ⟨w.heap.size, 8, none⟩ = some (.int .i64 e.batch) := hk1.cell 8
  have d9 : w1.cell? ⟨w.heap.size, 9, none⟩ = some (.bool e.risk.neg) := hk1.cell 9
  have d10 : w1.cell? ⟨w.heap.size, 10, none⟩ = some (.slice AN AnN AcN) := hk1.cell 10
  have d11 : w1.cell? ⟨w.heap.size, 11, none⟩ = some (.slice AD AnD AcD) := hk1.cell 11
  have d12 : w1.cell? ⟨w.heap.size, 12, none⟩ = some (.int .i64 e.cell) := hk1.cell 12
  have d13 : w1.cell? ⟨w.heap.size, 13, none⟩ = some (.string e.seed) := hk1.cell 13
  have HVAL := Lib.hid hval
  have HZ := Lib.hid hzz
  have HW1 := Lib.hid hw1
  have HB1 := Lib.hid hb1
  have HK1 := Lib.hid hk1
  have HA := Lib.hid (ha.below hb1 hS2)
  have HLA := Lib.hid hlA
  have HS2 : Hid (∀ b, S2 b → b < w1.heap.size) := Lib.hid fun b h => Nat.lt_of_lt_of_le (hS2 b h) hb1.size
  show Calls _ _ #[.agg #[.string e.title, .int .i64 e.dots, .int .i64 e.blank, .int .i64 e.marked, .slice AP AnP AcP, .slice AC AnC AcC, .slice AS AnS AcS, .int .i64 e.scan, .int .i64 e.batch, .bool e.risk.neg, .slice AN AnN AcN, .slice AD AnD AcD, .int .i64 e.cell, .string e.seed], .slice A n c] w _
  clear hval hz hzz hvb hlP hlA hw1 hb1 hk1 ha hS2 hS hok hsn htab hrP hrC hrS hrN hrD
  go_enter Tryz.func11, Tryz.ntmps11
  go_upto_region 1 with (fail)
  rw [HW1.out]
  go_wp2_with fail
  refine HVAL.out.mono ?_
  rintro en w2 ⟨rfl, hb2⟩
  have hk2 := HK1.out.keep hb2
  have x4 : w2.cell? ⟨w.heap.size, 4, none⟩ = some (.slice AP AnP AcP) := hk2.cell 4
  have HB2 := Lib.hid hb2
  clear hb2 hk2 d0 d1 d2 d3 d4 d5 d6 d7 d8 d9 d10 d11 d12 d13
  cases vb
  case false =>
    have hzf : z = false := by rw [HZ.out, Bool.false_and]
    have HZF := Lib.hid hzf
    clear hzf
    go_wp2_with fail
    go_ret
    exact ⟨by rw [HZF.out]; rfl, below_more HB1.out HB2.out⟩
  by_cases hn : n = AnP
  case neg =>
    have hzf : z = false := by rw [HZ.out, decide_eq_false hn]; rfl
    have HZF := Lib.hid hzf
    have hb : ((n : Int) == (AnP : Int)) = false := by rw [beq_eq_false_iff_ne]; omega
    have hb2 : (n == AnP) = false := by rw [beq_eq_false_iff_ne]; exact hn
    clear hzf hn
    go_wp2_with fail
    go_ret
    exact ⟨by rw [HZF.out]; rfl, below_more HB1.out HB2.out⟩
  subst hn
  have hz1 := HZ.out
  rw [decide_eq_true rfl, Bool.true_and, Bool.true_and] at hz1
  have HZ1 := Lib.hid hz1
  clear hz1 HZ
  go_wp2_with fail
  go_loopw [5, 21] (fun sv iv wr => ∃ (k : Nat) (s : Int), iv = .int .i64 k ∧ k ≤ n ∧ sv = .int .i64 s ∧ 0 ≤ s ∧ s ≤ 400 * (k : Int) ∧ z = (accOk k (acs.drop k) && possP (s + castSum (acs.drop k))) ∧ Below w1.heap.size w1 wr) (fun _ iv _ => n - (intOf iv).toNat)
  case atStart => exact ⟨0, 0, rfl, Nat.zero_le _, rfl, by omega, by omega, by simpa using HZ1.out, HB2.out⟩
  case round =>
    clear HZ1
    obtain ⟨k, s, rfl, hk, rfl, hs0, hs4, hzk, hb⟩ := hrel
    have HZK := Lib.hid hzk
    have HB := Lib.hid hb
    have HR := Lib.hid (HA.out.below hb HS2.out)
    clear hzk hb
    by_cases hlt : k < n
    · have hlt2 : (k : Int) < (n : Int) := by omega
      obtain ⟨b, o, x, cs, rfl, hSb, hx, hr, hld⟩ := HR.out.load_at (fun b h => Nat.lt_of_lt_of_le (HS2.out b h) HB.out.size) hlt
      have hkc : (k : Int) ≤ (c : Int) := by have := HR.out.cap; omega
      have hz1 : z = ((decide (x.prec = (k : Int)) && (possP x.issued && (possP x.spoilt && (possP x.cast && accOk (k + 1) (acs.drop (k + 1)))))) && possP (s + (x.cast + castSum (acs.drop (k + 1))))) := by rw [HZK.out, drop_cons' hx]; rfl
      have hcs : cs = [.int .i64 x.prec, .int .i64 x.issued, .int .i64 x.spoilt, .int .i64 x.cast] := hr
      subst hcs
      have hla := hld wr (Below.refl _ _)
      have r0 : wr.cell? ⟨b, o + k * 4, none⟩ = some (.int .i64 x.prec) := hla.1 _ rfl
      have r1 : wr.cell? ⟨b, o + k * 4 + 1, none⟩ = some (.int .i64 x.issued) := hla.2 1 _ rfl
      have r2 : wr.cell? ⟨b, o + k * 4 + 2, none⟩ = some (.int .i64 x.spoilt) := hla.2 2 _ rfl
      have r3 : wr.cell? ⟨b, o + k * 4 + 3, none⟩ = some (.int .i64 x.cast) := hla.2 3 _ rfl
      have hb3 : Below wr.heap.size wr (wr.alloc (.cells #[.int .i64 x.prec, .int .i64 x.issued, .int .i64 x.spoilt, .int .i64 x.cast] 73)) := (Below.refl _ _).alloc (Nat.le_refl _) _
      have hk3 : Blk (wr.alloc (.cells #[.int .i64 x.prec, .int .i64 x.issued, .int .i64 x.spoilt, .int .i64 x.cast] 73)) wr.heap.size 73 #[.int .i64 x.prec, .int .i64 x.issued, .int .i64 x.spoilt, .int .i64 x.cast] := Blk.new _ _ _
      obtain ⟨w3, hw3⟩ : ∃ q, wr.alloc (.cells #[.int .i64 x.prec, .int .i64 x.issued, .int .i64 x.spoilt, .int .i64 x.cast] 73) = q := ⟨_, rfl⟩
      rw [hw3] at hb3 hk3
      have p0 : w3.cell? ⟨wr.heap.size, 0, none⟩ = some (.int .i64 x.prec) := hk3.cell 0
      have p1 : w3.cell? ⟨wr.heap.size, 1, none⟩ = some (.int .i64 x.issued) := hk3.cell 1
      have p2 : w3.cell? ⟨wr.heap.size, 2, none⟩ = some (.int .i64 x.spoilt) := hk3.cell 2
      have p3 : w3.cell? ⟨wr.heap.size, 3, none⟩ = some (.int .i64 x.cast) := hk3.cell 3
      have HZ1 := Lib.hid hz1
      have HB3 := Lib.hid (HB.out.trans (hb3.mono HB.out.size))
      have HW3 := Lib.hid hw3
      clear hla hld hx hr hz1 hb3 hk3 hw3
      go_upto_region 7 with (fail)
      rw [HW3.out]
      clear r0 r1 r2 r3
      have HOUT : Hid (Below w.heap.size w w3) := Lib.hid (HB1.out.trans (HB3.out.mono HB1.out.size))
      by_cases hp : x.prec = (k : Int)
      case neg =>
        have hzf : z = false := by rw [HZ1.out, decide_eq_false hp]; rfl
        have HZF := Lib.hid hzf
        have hq : (x.prec == (k : Int)) = false := by rw [beq_eq_false_iff_ne]; exact hp
        have hq2 : (x.prec != (k : Int)) = true := by rw [bne_iff_ne]; exact hp
        clear hzf hp
        go_wp2_with fail
        go_ret
        exact ⟨by rw [HZF.out]; rfl, HOUT.out⟩
      have hq : (x.prec == (k : Int)) = true := by rw [beq_iff_eq]; exact hp
      have hq2 : (x.prec != (k : Int)) = false := by simp [hp]
      have hz2 := HZ1.out
      rw [decide_eq_true hp, Bool.true_and] at hz2
      have HZ2 := Lib.hid hz2
      clear hz2 hp
      obtain ⟨b1, hb1⟩ : ∃ q, possP x.issued = q := ⟨_, rfl⟩
      obtain ⟨b2, hb2⟩ : ∃ q, possP x.spoilt = q := ⟨_, rfl⟩
      obtain ⟨b3, hb3⟩ : ∃ q, possP x.cast = q := ⟨_, rfl⟩
      have h1 := fun w => poss_ok x.issued w
      have h2 := fun w => poss_ok x.spoilt w
      have h3 := fun w => poss_ok x.cast w
      rw [hb1] at h1
      rw [hb2] at h2
      rw [hb3] at h3
      have hz3 := HZ2.out
      rw [hb1, hb2, hb3] at hz3
      have HZ3 := Lib.hid hz3
      have HP1 := Lib.hid h1
      have HP2 := Lib.hid h2
      have HP3 := Lib.hid h3
      have HB3e := Lib.hid hb3
      clear hb1 hb2 hb3 h1 h2 h3 hz3
      go_wp2_with fail
      refine (HP1.out _).mono ?_
      rintro en w' ⟨rfl, rfl⟩
      cases b1
      case false =>
        have hzf : z = false := by rw [HZ3.out]; rfl
        have HZF := Lib.hid hzf
        clear hzf
        go_wp2_with fail
        go_ret
        exact ⟨by rw [HZF.out]; rfl, HOUT.out⟩
      go_wp2_with fail
      refine (HP2.out _).mono ?_
      rintro en w' ⟨rfl, rfl⟩
      cases b2
      case false =>
        have hzf : z = false := by rw [HZ3.out]; rfl
        have HZF := Lib.hid hzf
        clear hzf
        go_wp2_with fail
        go_ret
        exact ⟨by rw [HZF.out]; rfl, HOUT.out⟩
      go_wp2_with fail
      refine (HP3.out _).mono ?_
      rintro en w' ⟨rfl, rfl⟩
      cases b3
      case false =>
        have hzf : z = false := by rw [HZ3.out]; rfl
        have HZF := Lib.hid hzf
        clear hzf
        go_wp2_with fail
        go_ret
        exact ⟨by rw [HZF.out]; rfl, HOUT.out⟩
      have hrange := possP_iff.1 HB3e.out
      have hwrap : IntKind.i64.wrap (s + x.cast) = s + x.cast := by rw [IntKind.wrap_i64] <;> omega
      have hz4 : z = (accOk (k + 1) (acs.drop (k + 1)) && possP (s + x.cast + castSum (acs.drop (k + 1)))) := by
        rw [HZ3.out, Int.add_assoc]; rfl
      have HZ4 := Lib.hid hz4
      obtain ⟨hr0, hr4⟩ := hrange
      obtain ⟨s2, hs2⟩ : ∃ q, s + x.cast = q := ⟨_, rfl⟩
      rw [hs2] at hwrap hz4
      have HZ5 := Lib.hid hz4
      have hsr : 0 ≤ s2 ∧ s2 ≤ 400 * ((k + 1 : Nat) : Int) := by omega
      have HSR := Lib.hid hsr
      have HE2 := Lib.hid hs2
      clear hz4 hs2 hsr HZ4
      go_wp2_with fail
      go_roundw
      case rel => exact ⟨k + 1, s2, by go_num, by omega, by rw [HE2.out], HSR.out.1, HSR.out.2, HZ5.out, HB3.out⟩
      case measure => simp [intOf]; omega
    · have hkn : k = n := by omega
      have hzf : z = possP s := by
        rw [HZK.out, List.drop_eq_nil_of_le (by rw [HLA.out]; omega)]
        simp [accOk, castSum]
      have hcall := fun w => poss_ok s w
      rw [← hzf] at hcall
      have HCALL := Lib.hid hcall
      clear hzf hkn hcall
      go_wp2_with fail
      refine (HCALL.out _).mono ?_
      rintro en w' ⟨rfl, rfl⟩
      go_wp2_with fail
      go_ret
      exact ⟨rfl, HB1.out.trans (HB.out.mono HB1.out.size)⟩
end Go.Proofs.YtjlhbfbdcfajfaaGreatDoor
