/- Acc3 -/
import Derived.Test.YtjlhbfbdcfajfaaGreatDoorG29
import Derived.Test.YtjlhbfbdcfajfaaGreatDoorG24
/- account: Reconcile. PRINTED by wip/gen/acc3.py -/
namespace Go.Proofs.YtjlhbfbdcfajfaaGreatDoor
open Go.RowKit

/-- the records of each precinct, counted; none: a record of no precinct -/
def cntP : List RecD → List Int → Option (List Int)
  | [], cs => some cs
  | r :: l, cs => if r.prec < 0 ∨ (cs.length : Int) ≤ r.prec then none else cntP l (cs.set r.prec.toNat (cs.getD r.prec.toNat 0 + 1))
def gapOf (k : Nat) (x : AccountD) (q : Int) : GapD := ⟨(k : Int), x.cast, q, max (x.cast - q) 0, max (q - x.cast) 0, x.issued != x.spoilt + x.cast⟩
def gapsGo : Nat → List AccountD → List Int → List GapD
  | i, a :: l, q :: m => gapOf i a q :: gapsGo (i + 1) l m
  | _, _, _ => []
def reconP (e : ElectionD) (acs : List AccountD) (rs : List RecD) : List GapD × Int :=
  if validA e acs = false then ([], 8) else match cntP rs (List.replicate acs.length 0) with | none => ([], 4) | some cs => (gapsGo 0 acs cs, 0)
theorem accOk_all : ∀ {i : Nat} {l : List AccountD}, accOk i l = true → ∀ a ∈ l, (0 ≤ a.issued ∧ a.issued ≤ 400) ∧ (0 ≤ a.spoilt ∧ a.spoilt ≤ 400) ∧ (0 ≤ a.cast ∧ a.cast ≤ 400)
  | _, [], _ => fun a h => by cases h
  | i, x :: l, h => by
    simp only [accOk, Bool.and_eq_true, possP_iff] at h
    intro a ha
    rcases List.mem_cons.1 ha with rfl | ha
    · exact ⟨h.2.1, h.2.2.1, h.2.2.2.1⟩
    · exact accOk_all h.2.2.2.2 a ha
theorem Tryz.gapTy : SliceTy Tryz.prog 36 45 6 48 := SliceTy.mk' (z := .agg #[.int .i64 0, .int .i64 0, .int .i64 0, .int .i64 0, .int .i64 0, .bool false]) Tryz.underlying36 (by kernel_rfl) rfl (by omega)
theorem Tryz.intInfo : ∃ i, Tryz.prog.info? 3 = some i ∧ i.zero = some (.int .i64 0) ∧ i.size = 1 ∧ i.bytes = 8 := info_parts (by kernel_rfl)
theorem gap_flat {w : World} {S S' : Nat → Prop} {cs : List Value} {xs : List GapD} (h : Flat w S cs xs) : Flat w S' cs xs := by
  induction h with
  | nil => exact .nil
  | snoc _ hr ih => exact .snoc ih hr
theorem gaps_snoc : ∀ {i : Nat} {l : List AccountD} {m : List Int} {a : AccountD} {q : Int}, l.length = m.length → gapsGo i (l ++ [a]) (m ++ [q]) = gapsGo i l m ++ [gapOf (i + l.length) a q]
  | i, [], [], a, q, _ => rfl
  | i, x :: l, y :: m, a, q, h => by
    simp only [List.cons_append, gapsGo]
    rw [gaps_snoc (by simpa using h), List.length_cons, Nat.add_assoc, Nat.add_comm 1]
theorem gaps_len : ∀ {i : Nat} {l : List AccountD} {m : List Int}, l.length = m.length → (gapsGo i l m).length = l.length
  | i, [], [], _ => rfl
  | i, x :: l, y :: m, h => by
    simp only [gapsGo, List.length_cons]
    rw [gaps_len (by simpa using h)]
/-- what Reconcile returns -/
def RetRec (w : World) (x : List GapD × Int) (e : Ending) (w' : World) : Prop := ∃ A n c, e = .returned (.tuple #[.slice A n c, .int .i64 x.2]) ∧ RS w' (Fresh w w') A n c x.1 ∧ Below w.heap.size w w'

set_option maxRecDepth 20000 in
set_option maxHeartbeats 8000000 in
theorem recon_ok {B : Nat} {w : World} (htab : Tab B w) (hB : B ≤ w.heap.size) {S S2 S3 : Nat → Prop} {v : Value} {e : ElectionD} (h : SV w S v e) (hS : ∀ b, S b → b < w.heap.size) (hok : ElecOk e) (hsn : ElecSane e) {A A3 : Option Addr} {n c n3 c3 : Nat} {acs : List AccountD} (ha : RS w S2 A n c acs) (hS2 : ∀ b, S2 b → b < w.heap.size)
    {rs : List RecD} (hr : RS w S3 A3 n3 c3 rs) (hS3 : ∀ b, S3 b → b < w.heap.size) : Calls Tryz.prog 14 #[v, .slice A n c, .slice A3 n3 c3] w (RetRec w (reconP e acs rs)) := by
  obtain ⟨cs, rfl, AP, AnP, AcP, AC, AnC, AcC, AS, AnS, AcS, AN, AnN, AcN, AD, AnD, AcD, rfl, hrP, hrC, hrS, hrN, hrD⟩ := h
  have hb1 : Below w.heap.size w (w.alloc (.cells #[.string e.title, .int .i64 e.dots, .int .i64 e.blank, .int .i64 e.marked, .slice AP AnP AcP, .slice AC AnC AcC, .slice AS AnS AcS, .int .i64 e.scan, .int .i64 e.batch, .bool e.risk.neg, .slice AN AnN AcN, .slice AD AnD AcD, .int .i64 e.cell, .string e.seed] 30)) := (Below.refl _ _).alloc (Nat.le_refl _) _
  have hk1 : Blk (w.alloc (.cells #[.string e.title, .int .i64 e.dots, .int .i64 e.blank, .int .i64 e.marked, .slice AP AnP AcP, .slice AC AnC AcC, .slice AS AnS AcS, .int .i64 e.scan, .int .i64 e.batch, .bool e.risk.neg, .slice AN AnN AcN, .slice AD AnD AcD, .int .i64 e.cell, .string e.seed] 30)) w.heap.size 30 #[.string e.title, .int .i64 e.dots, .int .i64 e.blank, .int .i64 e.marked, .slice AP AnP AcP, .slice AC AnC AcC, .slice AS AnS AcS, .int .i64 e.scan, .int .i64 e.batch, .bool e.risk.neg, .slice AN AnN AcN, .slice AD AnD AcD, .int .i64 e.cell, .string e.seed] := Blk.new _ _ _
  obtain ⟨w1, hw1⟩ : ∃ q, w.alloc (.cells #[.string e.title, .int .i64 e.dots, .int .i64 e.blank, .int .i64 e.marked, .slice AP AnP AcP, .slice AC AnC AcC, .slice AS AnS AcS, .int .i64 e.scan, .int .i64 e.batch, .bool e.risk.neg, .slice AN AnN AcN, .slice AD AnD AcD, .int .i64 e.cell, .string e.seed] 30) = q := ⟨_, rfl⟩
  rw [hw1] at hb1 hk1
  have hval := accValid_ok (htab.up hB hb1) (Nat.le_trans hB hb1.size) (S := S) (e := e) (w := w1) ⟨_, rfl, AP, AnP, AcP, AC, AnC, AcC, AS, AnS, AcS, AN, AnN, AcN, AD, AnD, AcD, rfl, hrP.below hb1 hS, hrC.below hb1 hS, hrS.below hb1 hS, hrN.below hb1 hS, hrD.below hb1 hS⟩ (fun b h => Nat.lt_of_lt_of_le (hS b h) hb1.size) hok hsn (ha.below hb1 hS2) (fun b h => Nat.lt_of_lt_of_le (hS2 b h) hb1.size)
  obtain ⟨z, hz⟩ : ∃ z, reconP e acs rs = z := ⟨_, rfl⟩
  rw [hz]
  have hzz := hz.symm
  unfold reconP at hzz
  obtain ⟨vb, hvb⟩ : ∃ q, validA e acs = q := ⟨_, rfl⟩
  have hall : vb = true → n ≤ 274877906944 ∧ ∀ a ∈ acs, (0 ≤ a.issued ∧ a.issued ≤ 400) ∧ (0 ≤ a.spoilt ∧ a.spoilt ≤ 400) ∧ (0 ≤ a.cast ∧ a.cast ≤ 400) := fun hv => by
    rw [hv] at hvb
    unfold validA at hvb
    simp only [Bool.and_eq_true, decide_eq_true_eq] at hvb
    refine ⟨by rw [← ha.len, hvb.2.1]; exact hok.lp, accOk_all hvb.2.2.1⟩
  rw [hvb] at hval hzz
  have hlA := ha.len
  rw [hlA] at hzz
  obtain ⟨i0, hi0, hi1, hi2, hi3⟩ := Tryz.intInfo
  have d0 : w1.cell? ⟨w.heap.size, 0, none⟩ = some (.string e.title) := hk1.cell 0
  have d1 : w1.cell? ⟨w.heap.size, 1, none⟩ = some (.int .i64 e.dots) := hk1.cell 1
  have d2 : w1.cell? ⟨w.heap.size, 2, none⟩ = some (.int .i64 e.blank) := hk1.cell 2
  have d3 : w1.cell? ⟨w.heap.size, 3, none⟩ = some (.int .i64 e.marked) := hk1.cell 3
  have d4 : w1.cell? ⟨w.heap.size, 4, none⟩ = some (.slice AP AnP AcP) := hk1.cell 4
  have d5 : w1.cell? ⟨w.heap.size, 5, none⟩ = some (.slice AC AnC AcC) := hk1.cell 5
  have d6 : w1.cell? ⟨w.heap.size, 6, none⟩ = some (.slice AS AnS AcS) := hk1.cell 6
  have d7 : w1.cell? ⟨w.heap.size, 7, none⟩ = some (.int .i64 e.scan) := hk1.cell 7
  have d8 : w1.cell? ⟨w.heap.size, 8, none⟩ = some (.int .i64 e.batch) := hk1.cell 8
  have d9 : w1.cell? ⟨w.heap.size, 9, none⟩ = some (.bool e.risk.neg) := hk1.cell 9
  have d10 : w1.cell? ⟨w.heap.size, 10, none⟩ = some (.slice AN AnN AcN) := hk1.cell 10
  have d11 : w1.cell? ⟨w.heap.size, 11, none⟩ = some (.slice AD AnD AcD) := hk1.cell 11
  have d12 : w1.cell? ⟨w.heap.size, 12, none⟩ = some (.int .i64 e.cell) := hk1.cell 12
  have d13 : w1.cell? ⟨w.heap.size, 13, none⟩ = some (.string e.seed) := hk1.cell 13
  have HVAL := Lib.hid hval
  have HZ := Lib.hid hzz
  have HALL := Lib.hid hall
  have HW1 := Lib.hid hw1
  have HB1 := Lib.hid hb1
  have HA := Lib.hid (ha.below hb1 hS2)
  have HR := Lib.hid (hr.below hb1 hS3)
  have HLA := Lib.hid hlA
  have HLR := Lib.hid hr.len
  have hmA := ha.max
  have hmR := hr.max
  have HS2 : Hid (∀ b, S2 b → b < w1.heap.size) := Lib.hid fun b h => Nat.lt_of_lt_of_le (hS2 b h) hb1.size
  have HS3 : Hid (∀ b, S3 b → b < w1.heap.size) := Lib.hid fun b h => Nat.lt_of_lt_of_le (hS3 b h) hb1.size
  have HI0 := Lib.hid hi0
  have HI1 := Lib.hid hi1
  have HI2 := Lib.hid hi2
  have HI3 := Lib.hid hi3
  show Calls _ _ #[.agg #[.string e.title, .int .i64 e.dots, .int .i64 e.blank, .int .i64 e.marked, .slice AP AnP AcP, .slice AC AnC AcC, .slice AS AnS AcS, .int .i64 e.scan, .int .i64 e.batch, .bool e.risk.neg, .slice AN AnN AcN, .slice AD AnD AcD, .int .i64 e.cell, .string e.seed], .slice A n c, .slice A3 n3 c3] w _
  clear hval hz hzz hvb hall hlA hw1 hb1 hk1 ha hr hS2 hS3 hS hok hsn htab hrP hrC hrS hrN hrD hi0 hi1 hi2 hi3
  go_enter Tryz.func14, Tryz.ntmps14
  go_upto_region 1 with (fail)
  rw [HW1.out]
  go_wp2_with fail
  refine HVAL.out.mono ?_
  rintro en w2 ⟨rfl, hb2⟩
  have HB2 := Lib.hid hb2
  clear hb2 d0 d1 d2 d3 d4 d5 d6 d7 d8 d9 d10 d11 d12 d13
  cases vb
  case false =>
    have hzf : z = ([], 8) := by rw [HZ.out]; rfl
    have HZF := Lib.hid hzf
    clear hzf
    go_wp2_with fail
    go_ret2
    exact ⟨none, 0, 0, by rw [HZF.out]; rfl, by rw [HZF.out]; exact RS.nil _ _, below_more HB1.out HB2.out⟩
  obtain ⟨hn, hall⟩ := HALL.out rfl
  have HAL := Lib.hid hall
  have hz1 := HZ.out
  simp only [Bool.true_eq_false, if_false] at hz1
  have HZ1 := Lib.hid hz1
  clear hz1 HZ HALL hall
  go_upto_region 4 with (refine wpList_make_Own (α := Int) _ rfl _ _ _ rfl rfl w2.heap.size i0 (.int .i64 0) Tryz.underlying84 HI0.out HI1.out HI2.out rfl .i64 .i64 (n : Int) (n : Int) n rfl rfl rfl rfl (by rw [HI3.out]; omega) (by unfold maxLen; omega) (Nat.le_refl _) 0 NoBlk (fun _ h => h.elim) (fun _ _ => rfl) ?_; intro w3 ho3 hg3; have HO3 := Lib.hid ho3; have HB3 := Lib.hid ((Below.refl w2.heap.size w2).grown hg3 (Nat.le_refl _) (fun k hk => by cases hk)); clear ho3 hg3)
  obtain ⟨gR, hgR⟩ : ∃ q, w2.heap.size = q := ⟨_, rfl⟩
  rw [hgR] at HO3
  rw [hgR]
  have HGR := Lib.hid hgR
  clear hgR
  go_wp2_with fail
  go_loopw [23] (fun iv wr => ∃ (k : Nat) (qs : List Int), iv = .int .i64 k ∧ k ≤ n3 ∧ qs.length = n ∧ (∀ q ∈ qs, 0 ≤ q ∧ q ≤ (k : Int)) ∧ cntP rs (List.replicate n 0) = cntP (rs.drop k) qs ∧ Own wr NoBlk gR 3 (.slice (some ⟨gR, 0, none⟩) n n) qs ∧ Below gR w2 wr) (fun iv _ => n3 - (intOf iv).toNat)
  case atStart => exact ⟨0, _, rfl, Nat.zero_le _, by simp, fun q hq => by rw [List.eq_of_mem_replicate hq]; exact ⟨Int.le_refl _, Int.le_refl _⟩, rfl, HO3.out, by rw [← HGR.out]; exact HB3.out⟩
  case round =>
    clear HO3 HB3
    obtain ⟨k, qs, rfl, hk, hql, hqr, hcn, ho, hb⟩ := hrel
    have HQL := Lib.hid hql
    have HQR := Lib.hid hqr
    have HCN := Lib.hid hcn
    have HO := Lib.hid ho
    have HB := Lib.hid hb
    have hbw1 : Below w1.heap.size w1 wr := HB2.out.trans (hb.mono (by rw [← HGR.out]; exact HB2.out.size))
    have HRR := Lib.hid (HR.out.below hbw1 HS3.out)
    have HAA := Lib.hid (HA.out.below hbw1 HS2.out)
    have HBW1 := Lib.hid hbw1
    clear hql hqr hcn ho hb hbw1
    by_cases hlt : k < n3
    · have hlt2 : (k : Int) < (n3 : Int) := by omega
      obtain ⟨b, o, x, cs, rfl, hSb, hx, hrx, hld⟩ := HRR.out.load_at (fun b h => Nat.lt_of_lt_of_le (HS3.out b h) HBW1.out.size) hlt
      have hkc : (k : Int) ≤ (c3 : Int) := by have := HRR.out.cap; omega
      obtain ⟨Av, nv, cv, hxv, rfl⟩ := hrx
      have hla := hld wr (Below.refl _ _)
      have r0 : wr.cell? ⟨b, o + k * 3, none⟩ = some (.int .i64 x.prec) := hla.1 _ rfl
      have r1 : wr.cell? ⟨b, o + k * 3 + 1, none⟩ = some (.slice Av nv cv) := hla.2 1 _ rfl
      have r2 : wr.cell? ⟨b, o + k * 3 + 2, none⟩ = some (.bool x.doubt) := hla.2 2 _ rfl
      have hstep : cntP rs (List.replicate n 0) = if x.prec < 0 ∨ (n : Int) ≤ x.prec then none else cntP (rs.drop (k + 1)) (qs.set x.prec.toNat (qs.getD x.prec.toNat 0 + 1)) := by rw [HCN.out, drop_cons' hx, cntP, HQL.out]
      have hb3 : Below wr.heap.size wr (wr.alloc (.cells #[.int .i64 x.prec, .slice Av nv cv, .bool x.doubt] 42)) := (Below.refl _ _).alloc (Nat.le_refl _) _
      have hk3 : Blk (wr.alloc (.cells #[.int .i64 x.prec, .slice Av nv cv, .bool x.doubt] 42)) wr.heap.size 42 #[.int .i64 x.prec, .slice Av nv cv, .bool x.doubt] := Blk.new _ _ _
      obtain ⟨w4, hw4⟩ : ∃ q, wr.alloc (.cells #[.int .i64 x.prec, .slice Av nv cv, .bool x.doubt] 42) = q := ⟨_, rfl⟩
      rw [hw4] at hb3 hk3
      have p0 : w4.cell? ⟨wr.heap.size, 0, none⟩ = some (.int .i64 x.prec) := hk3.cell 0
      have HST := Lib.hid hstep
      have HO4 := Lib.hid (HO.out.below hb3)
      have hgRw : gR ≤ wr.heap.size := by have := HB.out.size; rw [HGR.out] at this; exact this
      have HB4 := Lib.hid (HB.out.trans (hb3.mono hgRw))
      have HW4 := Lib.hid hw4
      clear hla hld hx hstep hb3 hk3 hw4
      go_upto_region 7 with (fail)
      rw [HW4.out]
      clear r0 r1 r2
      have HOUT : Hid (Below w.heap.size w w4) := Lib.hid ((HB1.out.trans (HB2.out.mono HB1.out.size)).trans (HB4.out.mono (by rw [← HGR.out]; exact Nat.le_trans HB1.out.size HB2.out.size)))
      by_cases h0 : x.prec < 0
      · have hzf : z = ([], 4) := by rw [HZ1.out, HST.out, if_pos (.inl h0)]
        have HZF := Lib.hid hzf
        have d0 : (x.prec < 0) = True := eq_true h0
        clear hzf h0
        go_wp2_with fail
        go_ret2
        exact ⟨none, 0, 0, by rw [HZF.out]; rfl, by rw [HZF.out]; exact RS.nil _ _, HOUT.out⟩
      by_cases h1 : (n : Int) ≤ x.prec
      · have hzf : z = ([], 4) := by rw [HZ1.out, HST.out, if_pos (.inr h1)]
        have HZF := Lib.hid hzf
        have d0 : (x.prec < 0) = False := eq_false h0
        have d1 : ((n : Int) ≤ x.prec) = True := eq_true h1
        clear hzf h0 h1
        go_wp2_with fail
        go_ret2
        exact ⟨none, 0, 0, by rw [HZF.out]; rfl, by rw [HZF.out]; exact RS.nil _ _, HOUT.out⟩
      obtain ⟨j, hj⟩ : ∃ j : Nat, x.prec = (j : Int) := ⟨x.prec.toNat, by omega⟩
      have hst2 := HST.out
      rw [if_neg (by omega), hj, Int.toNat_natCast] at hst2
      have hjn : j < n := by omega
      rw [hj]
      rw [hj] at p0
      obtain ⟨q, hq⟩ : ∃ q, qs[j]? = some q := ⟨_, List.getElem?_eq_getElem (by rw [HQL.out]; exact hjn)⟩
      obtain ⟨gX, uX, heX, _, _, hrX, hcX, hfX⟩ := HO4.out.get1 rfl hq
      injection heX with heX
      injection heX with heX
      subst heX
      have hrX' : [uX] = [.int .i64 q] := hrX
      injection hrX' with hrX'
      subst hrX'
      have hqb := HQR.out q (List.mem_of_getElem? hq)
      have hwq : IntKind.i64.wrap (q + 1) = q + 1 := by rw [IntKind.wrap_i64] <;> omega
      rw [List.getD_eq_getElem?_getD, hq, Option.getD_some] at hst2
      have d0 : ((j : Int) < 0) = False := eq_false (by omega)
      have d1 : ((n : Int) ≤ (j : Int)) = False := eq_false (by omega)
      have d2 : (j : Int) < (n : Int) := by omega
      have d3 : (j : Int) ≤ (n : Int) := by omega
      have HST2 := Lib.hid hst2
      have hq2 : ∀ q' ∈ qs.set j (q + 1), 0 ≤ q' ∧ q' ≤ ((k + 1 : Nat) : Int) := fun q' hq' => by
        rcases List.mem_or_eq_of_mem_set hq' with h | h
        · have := HQR.out q' h; omega
        · subst h; omega
      have HQ2 := Lib.hid hq2
      have hst := HO4.out.stored (k := j) (u := .int .i64 (q + 1)) (x := q + 1) rfl rfl
      have HSTO := Lib.hid hst.1
      have HB5 := Lib.hid (HB4.out.setCell (p := ⟨gR, j, none⟩) (Nat.le_refl gR) (.int .i64 (q + 1)))
      clear hst2 hst hq2 hrX hq h0 h1 hj hqb
      go_wp2_with fail
      go_roundw
      case rel => exact ⟨k + 1, qs.set j (q + 1), by go_num, by omega, by rw [List.length_set]; exact HQL.out, HQ2.out, HST2.out, HSTO.out, HB5.out⟩
      case measure => simp [intOf]; omega
    · have hkn : k = n3 := by omega
      have hcn2 : cntP rs (List.replicate n 0) = some qs := by
        rw [HCN.out, List.drop_eq_nil_of_le (by rw [HLR.out]; omega)]
        rfl
      have hz2 := HZ1.out
      rw [hcn2] at hz2
      have HZ2 := Lib.hid hz2
      clear hcn2 hz2 HZ1 HCN
      go_wp2_with fail
      obtain ⟨gB, hgB⟩ : ∃ q, wr.heap.size = q := ⟨_, rfl⟩
      have HGB := Lib.hid hgB
      have HGRB : Hid (gR < gB) := Lib.hid (by rw [← hgB]; exact (HO.out.lt gR rfl).2)
      obtain ⟨W0, hW0⟩ : ∃ q, q = wr := ⟨_, rfl⟩

      subst hW0
      clear hgB hkn
      go_loopw [11, 47] (fun gv iv wr => ∃ k : Nat, iv = .int .i64 k ∧ k ≤ n ∧ Own wr NoBlk gB 45 gv (gapsGo 0 (acs.take k) (qs.take k)) ∧ Below gB W0 wr) (fun _ iv _ => n - (intOf iv).toNat)
      case atStart => exact ⟨0, rfl, Nat.zero_le _, Own.nil _ _ _, Below.refl _ _⟩
      case round =>
        obtain ⟨k, rfl, hk, hog, hbw⟩ := hrel
        have hGw : gB ≤ wr.heap.size := by rw [← HGB.out]; exact hbw.size
        have HBWa := Lib.hid hbw
        have HBG0 := Lib.hid hGw
        obtain ⟨AG, nG, cG, rfl, hnG⟩ := hog.slice
        have HOG0 := Lib.hid hog
        have HAA2 := Lib.hid (HAA.out.below (by rw [HGB.out]; exact hbw) (fun b h => Nat.lt_of_lt_of_le (HS2.out b h) HBW1.out.size))
        have HOR := Lib.hid (HO.out.below (by rw [HGB.out]; exact hbw))
        clear hog hbw hnG
        by_cases hlt : k < n
        · have hlt2 : (k : Int) < (n : Int) := by omega
          have hlt3 : (k : Int) ≤ (n : Int) := by omega
          obtain ⟨b, o, x, cs, rfl, hSb, hx, hrx, hld⟩ := HAA2.out.load_at (fun b h => Nat.lt_of_lt_of_le (HS2.out b h) (Nat.le_trans HBW1.out.size (by rw [HGB.out]; exact hGw))) hlt
          have hkc : (k : Int) ≤ (c : Int) := by have := HAA2.out.cap; omega
          have hcs : cs = [.int .i64 x.prec, .int .i64 x.issued, .int .i64 x.spoilt, .int .i64 x.cast] := hrx
          subst hcs
          have hla := hld wr (Below.refl _ _)
          have r0 : wr.cell? ⟨b, o + k * 4, none⟩ = some (.int .i64 x.prec) := hla.1 _ rfl
          have r1 : wr.cell? ⟨b, o + k * 4 + 1, none⟩ = some (.int .i64 x.issued) := hla.2 1 _ rfl
          have r2 : wr.cell? ⟨b, o + k * 4 + 2, none⟩ = some (.int .i64 x.spoilt) := hla.2 2 _ rfl
          have r3 : wr.cell? ⟨b, o + k * 4 + 3, none⟩ = some (.int .i64 x.cast) := hla.2 3 _ rfl
          obtain ⟨q, hq⟩ : ∃ q, qs[k]? = some q := ⟨_, List.getElem?_eq_getElem (by rw [HQL.out]; exact hlt)⟩
          obtain ⟨gX, uX, heX, _, _, hrX, hcX, hfX⟩ := HOR.out.get1 rfl hq
          injection heX with heX
          injection heX with heX
          subst heX
          have hrX' : [uX] = [.int .i64 q] := hrX
          injection hrX' with hrX'
          subst hrX'
          have hqb := HQR.out q (List.mem_of_getElem? hq)
          have hab := HAL.out x (List.mem_of_getElem? hx)
          have hw1' : IntKind.i64.wrap (x.cast - q) = x.cast - q := by rw [IntKind.wrap_i64] <;> omega
          have hw2' : IntKind.i64.wrap (q - x.cast) = q - x.cast := by rw [IntKind.wrap_i64] <;> omega
          have hw3' : IntKind.i64.wrap (x.spoilt + x.cast) = x.spoilt + x.cast := by rw [IntKind.wrap_i64] <;> omega
          have HSN : Hid (gapsGo 0 (acs.take (k + 1)) (qs.take (k + 1)) = gapsGo 0 (acs.take k) (qs.take k) ++ [gapOf k x q]) := Lib.hid (by
            rw [take_snoc hx, take_snoc hq, gaps_snoc (by rw [List.length_take, List.length_take, HLA.out, HQL.out]), List.length_take, HLA.out, Nat.zero_add, Nat.min_eq_left hk])
          have HLG : Hid ((gapsGo 0 (acs.take k) (qs.take k)).length = k) := Lib.hid (by rw [gaps_len (by rw [List.length_take, List.length_take, HLA.out, HQL.out]), List.length_take, HLA.out, Nat.min_eq_left hk])
          have hb3 : Below wr.heap.size wr (wr.alloc (.cells #[.int .i64 x.prec, .int .i64 x.issued, .int .i64 x.spoilt, .int .i64 x.cast] 73)) := (Below.refl _ _).alloc (Nat.le_refl _) _
          have hk3 : Blk (wr.alloc (.cells #[.int .i64 x.prec, .int .i64 x.issued, .int .i64 x.spoilt, .int .i64 x.cast] 73)) wr.heap.size 73 #[.int .i64 x.prec, .int .i64 x.issued, .int .i64 x.spoilt, .int .i64 x.cast] := Blk.new _ _ _
          obtain ⟨w4, hw4⟩ : ∃ q, wr.alloc (.cells #[.int .i64 x.prec, .int .i64 x.issued, .int .i64 x.spoilt, .int .i64 x.cast] 73) = q := ⟨_, rfl⟩
          rw [hw4] at hb3 hk3
          obtain ⟨gx, hgx⟩ : ∃ q, wr.heap.size = q := ⟨_, rfl⟩
          rw [hgx] at hk3
          have HGX := Lib.hid hgx
          have HBX := Lib.hid hk3
          have HOG := Lib.hid (HOG0.out.below hb3)
          have HBG : Hid (gB ≤ w4.heap.size) := Lib.hid (Nat.le_trans hGw hb3.size)
          have HBW := Lib.hid (HBWa.out.trans (hb3.mono hGw))
          have HGL : Hid (gR < w4.heap.size) := Lib.hid (by have := HGRB.out; have := HBG.out; omega)
          have HCR : Hid (w4.cell? ⟨gR, k, none⟩ = some (.int .i64 q)) := Lib.hid ((hb3.cell (World.block_lt_of_cell? wr _ hcX)).trans hcX)
          have HW4 := Lib.hid hw4
          clear hla hld hx hrx hq hrX hcX hfX hqb hab hb3 hk3 hw4 hgx
          go_upto_region 15 with (fail)
          rw [HW4.out, HGX.out]
          clear r0 r1 r2 r3
          refine wp_region_grow 34 1 (fun i => match i with
            | 0 => ΦV (.slice AG nG cG)
            | 1 => ΦV (.int .i64 (k : Int))
            | 2 => ΦV (.pointer (some ⟨gx, 3, none⟩))
            | 3 => ΦV (.int .i64 x.cast)
            | 4 => ΦV (.slice (some ⟨gR, 0, none⟩) n n)
            | 5 => ΦV (.int .i64 (k : Int))
            | 6 => ΦV (.pointer (some ⟨gR, k, none⟩))
            | 7 => ΦV (.int .i64 q)
            | 8 => ΦV (.pointer (some ⟨gx, 3, none⟩))
            | 9 => ΦV (.int .i64 x.cast)
            | 10 => ΦV (.slice (some ⟨gR, 0, none⟩) n n)
            | 11 => ΦV (.int .i64 (k : Int))
            | 12 => ΦV (.pointer (some ⟨gR, k, none⟩))
            | 13 => ΦV (.int .i64 q)
            | 14 => ΦV (.int .i64 (x.cast - q))
            | 15 => ΦV (.int .i64 (max (x.cast - q) 0))
            | 16 => ΦV (.slice (some ⟨gR, 0, none⟩) n n)
            | 17 => ΦV (.int .i64 (k : Int))
            | 18 => ΦV (.pointer (some ⟨gR, k, none⟩))
            | 19 => ΦV (.int .i64 q)
            | 20 => ΦV (.pointer (some ⟨gx, 3, none⟩))
            | 21 => ΦV (.int .i64 x.cast)
            | 22 => ΦV (.int .i64 (q - x.cast))
            | 23 => ΦV (.int .i64 (max (q - x.cast) 0))
            | 24 => ΦV (.pointer (some ⟨gx, 1, none⟩))
            | 25 => ΦV (.int .i64 x.issued)
            | 26 => ΦV (.pointer (some ⟨gx, 2, none⟩))
            | 27 => ΦV (.int .i64 x.spoilt)
            | 28 => ΦV (.pointer (some ⟨gx, 3, none⟩))
            | 29 => ΦV (.int .i64 x.cast)
            | 30 => ΦV (.int .i64 (x.spoilt + x.cast))
            | 31 => ΦV (.bool (x.issued != x.spoilt + x.cast))
            | 32 => ΦV (.agg #[.int .i64 (k : Int), .int .i64 x.cast, .int .i64 q, .int .i64 (max (x.cast - q) 0), .int .i64 (max (q - x.cast) 0), .bool (x.issued != x.spoilt + x.cast)])
            | 33 => @ΦR GapD _ w4 99 33 45 ([gapOf k x q]) 1
            | _ => fun _ _ _ => False) (by kernel_rfl) (by kernel_rfl) (by kernel_rfl) (by kernel_rfl) ?_ ?_ ?_
          · intro i v c1 w1 c2 w2 h hb hc
            match i with
            | 0 => exact h
            | 1 => exact h
            | 2 => exact h
            | 3 => exact h
            | 4 => exact h
            | 5 => exact h
            | 6 => exact h
            | 7 => exact h
            | 8 => exact h
            | 9 => exact h
            | 10 => exact h
            | 11 => exact h
            | 12 => exact h
            | 13 => exact h
            | 14 => exact h
            | 15 => exact h
            | 16 => exact h
            | 17 => exact h
            | 18 => exact h
            | 19 => exact h
            | 20 => exact h
            | 21 => exact h
            | 22 => exact h
            | 23 => exact h
            | 24 => exact h
            | 25 => exact h
            | 26 => exact h
            | 27 => exact h
            | 28 => exact h
            | 29 => exact h
            | 30 => exact h
            | 31 => exact h
            | 32 => exact h
            | 33 => exact ΦR.mono h hb hc
            | _ + 34 => exact h
          · intro Q0 i hi a1 col wc hout hbc hcol hdep
            have hWc := hbc.size
            match i, hi with
            | 0, _ =>
              have e11 : a1.tmps[11]? = some (.slice AG nG cG) := (hout.2 11 (by kernel_rfl)).trans rfl
              clear hdep
              refine gives_runs rfl rfl (.slice AG nG cG) ?_ (Below.refl _ _) rfl
              go_simp
            | 1, _ =>
              have e12 : a1.tmps[12]? = some (.int .i64 (k : Int)) := (hout.2 12 (by kernel_rfl)).trans rfl
              clear hdep
              refine gives_runs rfl rfl (.int .i64 (k : Int)) ?_ (Below.refl _ _) rfl
              go_simp
            | 2, _ =>
              have e13 : a1.tmps[13]? = some (.pointer (some ⟨gx, 0, none⟩)) := (hout.2 13 (by kernel_rfl)).trans rfl
              clear hdep
              refine gives_runs rfl rfl (.pointer (some ⟨gx, 3, none⟩)) ?_ (Below.refl _ _) rfl
              go_simp
            | 3, _ =>
              obtain ⟨v54, ev, pv54⟩ := hdep 2 (by kernel_rfl)
              have e54 := ev 54 rfl
              clear ev
              obtain rfl : v54 = _ := pv54
              clear hdep
              have ld0 : wc.cell? ⟨gx, 3, none⟩ = some (.int .i64 x.cast) := (HBX.out.keep hbc).cell 3
              refine gives_runs rfl rfl (.int .i64 x.cast) ?_ (Below.refl _ _) rfl
              go_simp
            | 4, _ =>
              have e8 : a1.tmps[8]? = some (.slice (some ⟨gR, 0, none⟩) n n) := (hout.2 8 (by kernel_rfl)).trans rfl
              clear hdep
              refine gives_runs rfl rfl (.slice (some ⟨gR, 0, none⟩) n n) ?_ (Below.refl _ _) rfl
              go_simp
            | 5, _ =>
              have e12 : a1.tmps[12]? = some (.int .i64 (k : Int)) := (hout.2 12 (by kernel_rfl)).trans rfl
              clear hdep
              refine gives_runs rfl rfl (.int .i64 (k : Int)) ?_ (Below.refl _ _) rfl
              go_simp
            | 6, _ =>
              obtain ⟨v56, ev, pv56⟩ := hdep 4 (by kernel_rfl)
              have e56 := ev 56 rfl
              clear ev
              obtain rfl : v56 = _ := pv56
              obtain ⟨v57, ev, pv57⟩ := hdep 5 (by kernel_rfl)
              have e57 := ev 57 rfl
              clear ev
              obtain rfl : v57 = _ := pv57
              clear hdep
              refine gives_runs rfl rfl (.pointer (some ⟨gR, k, none⟩)) ?_ (Below.refl _ _) rfl
              go_simp
            | 7, _ =>
              obtain ⟨v58, ev, pv58⟩ := hdep 6 (by kernel_rfl)
              have e58 := ev 58 rfl
              clear ev
              obtain rfl : v58 = _ := pv58
              clear hdep
              have ld0 : wc.cell? ⟨gR, k, none⟩ = some (.int .i64 q) := (hbc.cell HGL.out).trans HCR.out
              refine gives_runs rfl rfl (.int .i64 q) ?_ (Below.refl _ _) rfl
              go_simp
            | 8, _ =>
              have e13 : a1.tmps[13]? = some (.pointer (some ⟨gx, 0, none⟩)) := (hout.2 13 (by kernel_rfl)).trans rfl
              clear hdep
              refine gives_runs rfl rfl (.pointer (some ⟨gx, 3, none⟩)) ?_ (Below.refl _ _) rfl
              go_simp
            | 9, _ =>
              obtain ⟨v60, ev, pv60⟩ := hdep 8 (by kernel_rfl)
              have e60 := ev 60 rfl
              clear ev
              obtain rfl : v60 = _ := pv60
              clear hdep
              have ld0 : wc.cell? ⟨gx, 3, none⟩ = some (.int .i64 x.cast) := (HBX.out.keep hbc).cell 3
              refine gives_runs rfl rfl (.int .i64 x.cast) ?_ (Below.refl _ _) rfl
              go_simp
            | 10, _ =>
              have e8 : a1.tmps[8]? = some (.slice (some ⟨gR, 0, none⟩) n n) := (hout.2 8 (by kernel_rfl)).trans rfl
              clear hdep
              refine gives_runs rfl rfl (.slice (some ⟨gR, 0, none⟩) n n) ?_ (Below.refl _ _) rfl
              go_simp
            | 11, _ =>
              have e12 : a1.tmps[12]? = some (.int .i64 (k : Int)) := (hout.2 12 (by kernel_rfl)).trans rfl
              clear hdep
              refine gives_runs rfl rfl (.int .i64 (k : Int)) ?_ (Below.refl _ _) rfl
              go_simp
            | 12, _ =>
              obtain ⟨v62, ev, pv62⟩ := hdep 10 (by kernel_rfl)
              have e62 := ev 62 rfl
              clear ev
              obtain rfl : v62 = _ := pv62
              obtain ⟨v63, ev, pv63⟩ := hdep 11 (by kernel_rfl)
              have e63 := ev 63 rfl
              clear ev
              obtain rfl : v63 = _ := pv63
              clear hdep
              refine gives_runs rfl rfl (.pointer (some ⟨gR, k, none⟩)) ?_ (Below.refl _ _) rfl
              go_simp
            | 13, _ =>
              obtain ⟨v64, ev, pv64⟩ := hdep 12 (by kernel_rfl)
              have e64 := ev 64 rfl
              clear ev
              obtain rfl : v64 = _ := pv64
              clear hdep
              have ld0 : wc.cell? ⟨gR, k, none⟩ = some (.int .i64 q) := (hbc.cell HGL.out).trans HCR.out
              refine gives_runs rfl rfl (.int .i64 q) ?_ (Below.refl _ _) rfl
              go_simp
            | 14, _ =>
              obtain ⟨v61, ev, pv61⟩ := hdep 9 (by kernel_rfl)
              have e61 := ev 61 rfl
              clear ev
              obtain rfl : v61 = _ := pv61
              obtain ⟨v65, ev, pv65⟩ := hdep 13 (by kernel_rfl)
              have e65 := ev 65 rfl
              clear ev
              obtain rfl : v65 = _ := pv65
              clear hdep
              refine gives_runs rfl rfl (.int .i64 (x.cast - q)) ?_ (Below.refl _ _) rfl
              go_simp
            | 15, _ =>
              obtain ⟨v66, ev, pv66⟩ := hdep 14 (by kernel_rfl)
              have e66 := ev 66 rfl
              clear ev
              obtain rfl : v66 = _ := pv66
              clear hdep
              refine gives_runs rfl rfl (.int .i64 (max (x.cast - q) 0)) ?_ (Below.refl _ _) rfl
              go_simp
            | 16, _ =>
              have e8 : a1.tmps[8]? = some (.slice (some ⟨gR, 0, none⟩) n n) := (hout.2 8 (by kernel_rfl)).trans rfl
              clear hdep
              refine gives_runs rfl rfl (.slice (some ⟨gR, 0, none⟩) n n) ?_ (Below.refl _ _) rfl
              go_simp
            | 17, _ =>
              have e12 : a1.tmps[12]? = some (.int .i64 (k : Int)) := (hout.2 12 (by kernel_rfl)).trans rfl
              clear hdep
              refine gives_runs rfl rfl (.int .i64 (k : Int)) ?_ (Below.refl _ _) rfl
              go_simp
            | 18, _ =>
              obtain ⟨v68, ev, pv68⟩ := hdep 16 (by kernel_rfl)
              have e68 := ev 68 rfl
              clear ev
              obtain rfl : v68 = _ := pv68
              obtain ⟨v69, ev, pv69⟩ := hdep 17 (by kernel_rfl)
              have e69 := ev 69 rfl
              clear ev
              obtain rfl : v69 = _ := pv69
              clear hdep
              refine gives_runs rfl rfl (.pointer (some ⟨gR, k, none⟩)) ?_ (Below.refl _ _) rfl
              go_simp
            | 19, _ =>
              obtain ⟨v70, ev, pv70⟩ := hdep 18 (by kernel_rfl)
              have e70 := ev 70 rfl
              clear ev
              obtain rfl : v70 = _ := pv70
              clear hdep
              have ld0 : wc.cell? ⟨gR, k, none⟩ = some (.int .i64 q) := (hbc.cell HGL.out).trans HCR.out
              refine gives_runs rfl rfl (.int .i64 q) ?_ (Below.refl _ _) rfl
              go_simp
            | 20, _ =>
              have e13 : a1.tmps[13]? = some (.pointer (some ⟨gx, 0, none⟩)) := (hout.2 13 (by kernel_rfl)).trans rfl
              clear hdep
              refine gives_runs rfl rfl (.pointer (some ⟨gx, 3, none⟩)) ?_ (Below.refl _ _) rfl
              go_simp
            | 21, _ =>
              obtain ⟨v72, ev, pv72⟩ := hdep 20 (by kernel_rfl)
              have e72 := ev 72 rfl
              clear ev
              obtain rfl : v72 = _ := pv72
              clear hdep
              have ld0 : wc.cell? ⟨gx, 3, none⟩ = some (.int .i64 x.cast) := (HBX.out.keep hbc).cell 3
              refine gives_runs rfl rfl (.int .i64 x.cast) ?_ (Below.refl _ _) rfl
              go_simp
            | 22, _ =>
              obtain ⟨v71, ev, pv71⟩ := hdep 19 (by kernel_rfl)
              have e71 := ev 71 rfl
              clear ev
              obtain rfl : v71 = _ := pv71
              obtain ⟨v73, ev, pv73⟩ := hdep 21 (by kernel_rfl)
              have e73 := ev 73 rfl
              clear ev
              obtain rfl : v73 = _ := pv73
              clear hdep
              refine gives_runs rfl rfl (.int .i64 (q - x.cast)) ?_ (Below.refl _ _) rfl
              go_simp
            | 23, _ =>
              obtain ⟨v74, ev, pv74⟩ := hdep 22 (by kernel_rfl)
              have e74 := ev 74 rfl
              clear ev
              obtain rfl : v74 = _ := pv74
              clear hdep
              refine gives_runs rfl rfl (.int .i64 (max (q - x.cast) 0)) ?_ (Below.refl _ _) rfl
              go_simp
            | 24, _ =>
              have e13 : a1.tmps[13]? = some (.pointer (some ⟨gx, 0, none⟩)) := (hout.2 13 (by kernel_rfl)).trans rfl
              clear hdep
              refine gives_runs rfl rfl (.pointer (some ⟨gx, 1, none⟩)) ?_ (Below.refl _ _) rfl
              go_simp
            | 25, _ =>
              obtain ⟨v76, ev, pv76⟩ := hdep 24 (by kernel_rfl)
              have e76 := ev 76 rfl
              clear ev
              obtain rfl : v76 = _ := pv76
              clear hdep
              have ld0 : wc.cell? ⟨gx, 1, none⟩ = some (.int .i64 x.issued) := (HBX.out.keep hbc).cell 1
              refine gives_runs rfl rfl (.int .i64 x.issued) ?_ (Below.refl _ _) rfl
              go_simp
            | 26, _ =>
              have e13 : a1.tmps[13]? = some (.pointer (some ⟨gx, 0, none⟩)) := (hout.2 13 (by kernel_rfl)).trans rfl
              clear hdep
              refine gives_runs rfl rfl (.pointer (some ⟨gx, 2, none⟩)) ?_ (Below.refl _ _) rfl
              go_simp
            | 27, _ =>
              obtain ⟨v78, ev, pv78⟩ := hdep 26 (by kernel_rfl)
              have e78 := ev 78 rfl
              clear ev
              obtain rfl : v78 = _ := pv78
              clear hdep
              have ld0 : wc.cell? ⟨gx, 2, none⟩ = some (.int .i64 x.spoilt) := (HBX.out.keep hbc).cell 2
              refine gives_runs rfl rfl (.int .i64 x.spoilt) ?_ (Below.refl _ _) rfl
              go_simp
            | 28, _ =>
              have e13 : a1.tmps[13]? = some (.pointer (some ⟨gx, 0, none⟩)) := (hout.2 13 (by kernel_rfl)).trans rfl
              clear hdep
              refine gives_runs rfl rfl (.pointer (some ⟨gx, 3, none⟩)) ?_ (Below.refl _ _) rfl
              go_simp
            | 29, _ =>
              obtain ⟨v80, ev, pv80⟩ := hdep 28 (by kernel_rfl)
              have e80 := ev 80 rfl
              clear ev
              obtain rfl : v80 = _ := pv80
              clear hdep
              have ld0 : wc.cell? ⟨gx, 3, none⟩ = some (.int .i64 x.cast) := (HBX.out.keep hbc).cell 3
              refine gives_runs rfl rfl (.int .i64 x.cast) ?_ (Below.refl _ _) rfl
              go_simp
            | 30, _ =>
              obtain ⟨v79, ev, pv79⟩ := hdep 27 (by kernel_rfl)
              have e79 := ev 79 rfl
              clear ev
              obtain rfl : v79 = _ := pv79
              obtain ⟨v81, ev, pv81⟩ := hdep 29 (by kernel_rfl)
              have e81 := ev 81 rfl
              clear ev
              obtain rfl : v81 = _ := pv81
              clear hdep
              refine gives_runs rfl rfl (.int .i64 (x.spoilt + x.cast)) ?_ (Below.refl _ _) rfl
              go_simp
            | 31, _ =>
              obtain ⟨v77, ev, pv77⟩ := hdep 25 (by kernel_rfl)
              have e77 := ev 77 rfl
              clear ev
              obtain rfl : v77 = _ := pv77
              obtain ⟨v82, ev, pv82⟩ := hdep 30 (by kernel_rfl)
              have e82 := ev 82 rfl
              clear ev
              obtain rfl : v82 = _ := pv82
              clear hdep
              refine gives_runs rfl rfl (.bool (x.issued != x.spoilt + x.cast)) ?_ (Below.refl _ _) rfl
              go_simp
            | 32, _ =>
              obtain ⟨v53, ev, pv53⟩ := hdep 1 (by kernel_rfl)
              have e53 := ev 53 rfl
              clear ev
              obtain rfl : v53 = _ := pv53
              obtain ⟨v55, ev, pv55⟩ := hdep 3 (by kernel_rfl)
              have e55 := ev 55 rfl
              clear ev
              obtain rfl : v55 = _ := pv55
              obtain ⟨v59, ev, pv59⟩ := hdep 7 (by kernel_rfl)
              have e59 := ev 59 rfl
              clear ev
              obtain rfl : v59 = _ := pv59
              obtain ⟨v67, ev, pv67⟩ := hdep 15 (by kernel_rfl)
              have e67 := ev 67 rfl
              clear ev
              obtain rfl : v67 = _ := pv67
              obtain ⟨v75, ev, pv75⟩ := hdep 23 (by kernel_rfl)
              have e75 := ev 75 rfl
              clear ev
              obtain rfl : v75 = _ := pv75
              obtain ⟨v83, ev, pv83⟩ := hdep 31 (by kernel_rfl)
              have e83 := ev 83 rfl
              clear ev
              obtain rfl : v83 = _ := pv83
              clear hdep
              refine gives_runs rfl rfl (.agg #[.int .i64 (k : Int), .int .i64 x.cast, .int .i64 q, .int .i64 (max (x.cast - q) 0), .int .i64 (max (q - x.cast) 0), .bool (x.issued != x.spoilt + x.cast)]) ?_ (Below.refl _ _) rfl
              go_simp
            | 33, _ =>
              obtain ⟨v84, ev, pv84⟩ := hdep 32 (by kernel_rfl)
              have e84 := ev 84 rfl
              clear ev
              obtain rfl : v84 = _ := pv84
              clear hdep
              have hf : Flat wc (RD w4 99 col wc) [.int .i64 (k : Int), .int .i64 x.cast, .int .i64 q, .int .i64 (max (x.cast - q) 0), .int .i64 (max (q - x.cast) 0), .bool (x.issued != x.spoilt + x.cast)] ([gapOf k x q]) := Flat.cons (ds := [_, _, _, _, _, _]) rfl Flat.nil
              refine gives_runs rfl rfl (.slice (some ⟨wc.heap.size, 0, none⟩) 1 1) (w' := wc.alloc (.cells #[.int .i64 (k : Int), .int .i64 x.cast, .int .i64 q, .int .i64 (max (x.cast - q) 0), .int .i64 (max (q - x.cast) 0), .bool (x.issued != x.spoilt + x.cast)] 45)) ?_ (below_alloc _ _) (ΦR.built (cs := [.int .i64 (k : Int), .int .i64 x.cast, .int .i64 q, .int .i64 (max (x.cast - q) 0), .int .i64 (max (q - x.cast) 0), .bool (x.issued != x.spoilt + x.cast)]) (t := 45) hf (fun b hb => hcol b hb.1 hb.2.1) rfl (by simp [Value.oneCell']) hWc)
              go_simp
              try rfl
            | k + 34, hk => exact absurd hk (by omega)
          intro vs0 col wc hl0 hbc hΦ
          obtain ⟨v0, vs1, rfl, hl1⟩ := uncons hl0
          clear hl0
          obtain ⟨v1, vs2, rfl, hl2⟩ := uncons hl1
          clear hl1
          obtain ⟨v2, vs3, rfl, hl3⟩ := uncons hl2
          clear hl2
          obtain ⟨v3, vs4, rfl, hl4⟩ := uncons hl3
          clear hl3
          obtain ⟨v4, vs5, rfl, hl5⟩ := uncons hl4
          clear hl4
          obtain ⟨v5, vs6, rfl, hl6⟩ := uncons hl5
          clear hl5
          obtain ⟨v6, vs7, rfl, hl7⟩ := uncons hl6
          clear hl6
          obtain ⟨v7, vs8, rfl, hl8⟩ := uncons hl7
          clear hl7
          obtain ⟨v8, vs9, rfl, hl9⟩ := uncons hl8
          clear hl8
          obtain ⟨v9, vs10, rfl, hl10⟩ := uncons hl9
          clear hl9
          obtain ⟨v10, vs11, rfl, hl11⟩ := uncons hl10
          clear hl10
          obtain ⟨v11, vs12, rfl, hl12⟩ := uncons hl11
          clear hl11
          obtain ⟨v12, vs13, rfl, hl13⟩ := uncons hl12
          clear hl12
          obtain ⟨v13, vs14, rfl, hl14⟩ := uncons hl13
          clear hl13
          obtain ⟨v14, vs15, rfl, hl15⟩ := uncons hl14
          clear hl14
          obtain ⟨v15, vs16, rfl, hl16⟩ := uncons hl15
          clear hl15
          obtain ⟨v16, vs17, rfl, hl17⟩ := uncons hl16
          clear hl16
          obtain ⟨v17, vs18, rfl, hl18⟩ := uncons hl17
          clear hl17
          obtain ⟨v18, vs19, rfl, hl19⟩ := uncons hl18
          clear hl18
          obtain ⟨v19, vs20, rfl, hl20⟩ := uncons hl19
          clear hl19
          obtain ⟨v20, vs21, rfl, hl21⟩ := uncons hl20
          clear hl20
          obtain ⟨v21, vs22, rfl, hl22⟩ := uncons hl21
          clear hl21
          obtain ⟨v22, vs23, rfl, hl23⟩ := uncons hl22
          clear hl22
          obtain ⟨v23, vs24, rfl, hl24⟩ := uncons hl23
          clear hl23
          obtain ⟨v24, vs25, rfl, hl25⟩ := uncons hl24
          clear hl24
          obtain ⟨v25, vs26, rfl, hl26⟩ := uncons hl25
          clear hl25
          obtain ⟨v26, vs27, rfl, hl27⟩ := uncons hl26
          clear hl26
          obtain ⟨v27, vs28, rfl, hl28⟩ := uncons hl27
          clear hl27
          obtain ⟨v28, vs29, rfl, hl29⟩ := uncons hl28
          clear hl28
          obtain ⟨v29, vs30, rfl, hl30⟩ := uncons hl29
          clear hl29
          obtain ⟨v30, vs31, rfl, hl31⟩ := uncons hl30
          clear hl30
          obtain ⟨v31, vs32, rfl, hl32⟩ := uncons hl31
          clear hl31
          obtain ⟨v32, vs33, rfl, hl33⟩ := uncons hl32
          clear hl32
          obtain ⟨v33, vs34, rfl, hl34⟩ := uncons hl33
          clear hl33
          obtain rfl := List.length_eq_zero_iff.1 hl34
          clear hl34
          have p0 := hΦ 0 _ rfl
          obtain rfl : v0 = _ := p0
          have p1 := hΦ 1 _ rfl
          obtain rfl : v1 = _ := p1
          have p2 := hΦ 2 _ rfl
          obtain rfl : v2 = _ := p2
          have p3 := hΦ 3 _ rfl
          obtain rfl : v3 = _ := p3
          have p4 := hΦ 4 _ rfl
          obtain rfl : v4 = _ := p4
          have p5 := hΦ 5 _ rfl
          obtain rfl : v5 = _ := p5
          have p6 := hΦ 6 _ rfl
          obtain rfl : v6 = _ := p6
          have p7 := hΦ 7 _ rfl
          obtain rfl : v7 = _ := p7
          have p8 := hΦ 8 _ rfl
          obtain rfl : v8 = _ := p8
          have p9 := hΦ 9 _ rfl
          obtain rfl : v9 = _ := p9
          have p10 := hΦ 10 _ rfl
          obtain rfl : v10 = _ := p10
          have p11 := hΦ 11 _ rfl
          obtain rfl : v11 = _ := p11
          have p12 := hΦ 12 _ rfl
          obtain rfl : v12 = _ := p12
          have p13 := hΦ 13 _ rfl
          obtain rfl : v13 = _ := p13
          have p14 := hΦ 14 _ rfl
          obtain rfl : v14 = _ := p14
          have p15 := hΦ 15 _ rfl
          obtain rfl : v15 = _ := p15
          have p16 := hΦ 16 _ rfl
          obtain rfl : v16 = _ := p16
          have p17 := hΦ 17 _ rfl
          obtain rfl : v17 = _ := p17
          have p18 := hΦ 18 _ rfl
          obtain rfl : v18 = _ := p18
          have p19 := hΦ 19 _ rfl
          obtain rfl : v19 = _ := p19
          have p20 := hΦ 20 _ rfl
          obtain rfl : v20 = _ := p20
          have p21 := hΦ 21 _ rfl
          obtain rfl : v21 = _ := p21
          have p22 := hΦ 22 _ rfl
          obtain rfl : v22 = _ := p22
          have p23 := hΦ 23 _ rfl
          obtain rfl : v23 = _ := p23
          have p24 := hΦ 24 _ rfl
          obtain rfl : v24 = _ := p24
          have p25 := hΦ 25 _ rfl
          obtain rfl : v25 = _ := p25
          have p26 := hΦ 26 _ rfl
          obtain rfl : v26 = _ := p26
          have p27 := hΦ 27 _ rfl
          obtain rfl : v27 = _ := p27
          have p28 := hΦ 28 _ rfl
          obtain rfl : v28 = _ := p28
          have p29 := hΦ 29 _ rfl
          obtain rfl : v29 = _ := p29
          have p30 := hΦ 30 _ rfl
          obtain rfl : v30 = _ := p30
          have p31 := hΦ 31 _ rfl
          obtain rfl : v31 = _ := p31
          have p32 := hΦ 32 _ rfl
          obtain rfl : v32 = _ := p32
          have p33 := hΦ 33 _ rfl
          obtain ⟨g33, cs33, rfl, hg33, hcg33, hk33, hf33, hn33, ho33⟩ := p33
          clear hΦ
          simp only [List.take_succ_cons, List.take_zero, putL, tailW, Act.put, List.setIfInBounds_toArray, List.set_cons_zero, List.set_cons_succ]
          refine wpOp_abs rfl rfl fun K hK => ?_
          refine wp_append_Own (α := GapD) _ _ 36 rfl 48 Tryz.gapTy rfl (HOG.out.below hbc) ⟨g33, 0, none⟩ 1 1 cs33 [gapOf k x q] rfl rfl (gap_flat hf33) (row_cells hk33) ho33 (by rw [HLG.out]; simp; omega) (Nat.le_trans HBG.out hbc.size) fun v9 w9 q1 q2 q3 => hK _ _ ?_
          clear hK K
          obtain ⟨A9, n9, c9, rfl, hnq⟩ := q1.slice
          have HQ1 := Lib.hid q1
          have HBN := Lib.hid ((HBW.out.trans (hbc.mono HBG.out)).grown q2 (Nat.le_trans HBG.out hbc.size) (fun k hk => (HOG.out.lt k hk).1))
          clear q1 q2 q3 hnq hg33 hcg33 hk33 hf33 hn33 ho33 hbc
          refine wpOp_runs (w' := w9) rfl rfl (.slice A9 n9 c9) ?_ ?_
          · go_simp
          try simp only [Act.put, List.getElem_toArray, List.getElem_cons_zero, List.getElem_cons_succ, List.setIfInBounds_toArray, List.set_cons_zero, List.set_cons_succ]
          go_wp2_with fail
          go_roundw
          case rel => exact ⟨k + 1, by go_num, by omega, by rw [HSN.out]; exact HQ1.out, HBN.out⟩
          case measure => simp [intOf]; omega
        · have hkn : k = n := by omega
          have hzf : z = (gapsGo 0 (acs.take k) (qs.take k), 0) := by
            rw [HZ2.out, List.take_of_length_le (by rw [HLA.out]; omega), List.take_of_length_le (by rw [HQL.out]; omega)]
          have HZF := Lib.hid hzf
          have HOUT : Hid (Below w.heap.size w wr) := Lib.hid (((HB1.out.trans (HBW1.out.mono HB1.out.size)).trans (HBWa.out.mono (by rw [← HGB.out]; exact Nat.le_trans HB1.out.size HBW1.out.size))))
          clear hzf hkn
          go_wp2_with fail
          go_ret2
          refine ⟨AG, nG, cG, by rw [HZF.out]; rfl, by rw [HZF.out]; exact HOG0.out.rs (fun _ h => h.elim) (fun g h1 h2 => ⟨Nat.le_trans (by rw [← HGB.out]; exact Nat.le_trans HB1.out.size HBW1.out.size) h1, h2⟩), HOUT.out⟩
end Go.Proofs.YtjlhbfbdcfajfaaGreatDoor
