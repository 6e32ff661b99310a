/- account: the law AccountSum walked. PRINTED by wip/gen/sum2.py -/
import Derived.Test.YtjlhbfbdcfajfaaGreatDoorSum1
import Derived.Test.YtjlhbfbdcfajfaaGreatDoorG31
namespace Go.Proofs.YtjlhbfbdcfajfaaGreatDoor
open Go.RowKit

theorem recs_step {gs : List GapD} (hg : ∀ g ∈ gs, GoodG g) {k : Nat} {x : GapD} (hx : gs[k]? = some x) : 0 ≤ recsOf (gs.take k) ∧ recsOf (gs.take k) + x.recs ≤ recsOf gs ∧ recsOf (gs.take k) + x.recs = recsOf (gs.take (k + 1)) := by
  have pos : ∀ l : List GapD, (∀ g ∈ l, GoodG g) → 0 ≤ recsOf l := by
    intro l
    induction l with
    | nil => intro _; exact Int.le_refl _
    | cons a l ih =>
      intro h
      have h1 := ih fun g hg => h g (List.mem_cons_of_mem _ hg)
      have h2 := (h a (List.mem_cons_self ..)).r0
      unfold recsOf at *
      simp only [List.map_cons, List.sum_cons]
      omega
  have app : ∀ a b : List GapD, recsOf (a ++ b) = recsOf a + recsOf b := fun a b => by unfold recsOf; rw [List.map_append, List.sum_append]
  have e1 : recsOf (gs.take (k + 1)) = recsOf (gs.take k) + x.recs := by rw [take_snoc hx, app]; simp [recsOf]
  have e2 : recsOf gs = recsOf (gs.take (k + 1)) + recsOf (gs.drop (k + 1)) := by rw [← app, List.take_append_drop]
  have p1 := pos (gs.take k) fun g h => hg g (List.mem_of_mem_take h)
  have p2 := pos (gs.drop (k + 1)) fun g h => hg g (List.mem_of_mem_drop h)
  omega
theorem miss_step {gs : List GapD} (hg : ∀ g ∈ gs, GoodG g) {k : Nat} {x : GapD} (hx : gs[k]? = some x) : 0 ≤ missOf (gs.take k) ∧ missOf (gs.take k) + x.missing ≤ missOf gs ∧ missOf (gs.take k) + x.missing = missOf (gs.take (k + 1)) := by
  have pos : ∀ l : List GapD, (∀ g ∈ l, GoodG g) → 0 ≤ missOf l := by
    intro l
    induction l with
    | nil => intro _; exact Int.le_refl _
    | cons a l ih =>
      intro h
      have h1 := ih fun g hg => h g (List.mem_cons_of_mem _ hg)
      have h2 := (h a (List.mem_cons_self ..)).m0
      unfold missOf at *
      simp only [List.map_cons, List.sum_cons]
      omega
  have app : ∀ a b : List GapD, missOf (a ++ b) = missOf a + missOf b := fun a b => by unfold missOf; rw [List.map_append, List.sum_append]
  have e1 : missOf (gs.take (k + 1)) = missOf (gs.take k) + x.missing := by rw [take_snoc hx, app]; simp [missOf]
  have e2 : missOf gs = missOf (gs.take (k + 1)) + missOf (gs.drop (k + 1)) := by rw [← app, List.take_append_drop]
  have p1 := pos (gs.take k) fun g h => hg g (List.mem_of_mem_take h)
  have p2 := pos (gs.drop (k + 1)) fun g h => hg g (List.mem_of_mem_drop h)
  omega

set_option maxRecDepth 20000 in
set_option maxHeartbeats 8000000 in
theorem lawAccountSum_any {B : Nat} {w : World} (htab : Tab B w) (hB : B ≤ w.heap.size) {S S2 S3 : Nat → Prop} {v : Value} {e : ElectionD} (h : SV w S v e) (hS : ∀ b, S b → b < w.heap.size) (hok : ElecOk e) (hsn : ElecSane e) {A A3 : Option Addr} {n c n3 c3 : Nat} {acs : List AccountD} (ha : RS w S2 A n c acs) (hS2 : ∀ b, S2 b → b < w.heap.size)
    {rs : List RecD} (hr : RS w S3 A3 n3 c3 rs) (hS3 : ∀ b, S3 b → b < w.heap.size) : Calls Tryz.prog 5 #[v, .slice A n c, .slice A3 n3 c3] w (RetV w (.bool true)) := by
  obtain ⟨cs, rfl, AP, AnP, AcP, AC, AnC, AcC, AS, AnS, AcS, AN, AnN, AcN, AD, AnD, AcD, rfl, hrP, hrC, hrS, hrN, hrD⟩ := h
  have hb1 : Below w.heap.size w (w.alloc (.cells #[.string e.title, .int .i64 e.dots, .int .i64 e.blank, .int .i64 e.marked, .slice AP AnP AcP, .slice AC AnC AcC, .slice AS AnS AcS, .int .i64 e.scan, .int .i64 e.batch, .bool e.risk.neg, .slice AN AnN AcN, .slice AD AnD AcD, .int .i64 e.cell, .string e.seed] 30)) := (Below.refl _ _).alloc (Nat.le_refl _) _
  have hk1 : Blk (w.alloc (.cells #[.string e.title, .int .i64 e.dots, .int .i64 e.blank, .int .i64 e.marked, .slice AP AnP AcP, .slice AC AnC AcC, .slice AS AnS AcS, .int .i64 e.scan, .int .i64 e.batch, .bool e.risk.neg, .slice AN AnN AcN, .slice AD AnD AcD, .int .i64 e.cell, .string e.seed] 30)) w.heap.size 30 #[.string e.title, .int .i64 e.dots, .int .i64 e.blank, .int .i64 e.marked, .slice AP AnP AcP, .slice AC AnC AcC, .slice AS AnS AcS, .int .i64 e.scan, .int .i64 e.batch, .bool e.risk.neg, .slice AN AnN AcN, .slice AD AnD AcD, .int .i64 e.cell, .string e.seed] := Blk.new _ _ _
  obtain ⟨w1, hw1⟩ : ∃ q, w.alloc (.cells #[.string e.title, .int .i64 e.dots, .int .i64 e.blank, .int .i64 e.marked, .slice AP AnP AcP, .slice AC AnC AcC, .slice AS AnS AcS, .int .i64 e.scan, .int .i64 e.batch, .bool e.risk.neg, .slice AN AnN AcN, .slice AD AnD AcD, .int .i64 e.cell, .string e.seed] 30) = q := ⟨_, rfl⟩
  rw [hw1] at hb1 hk1
  obtain ⟨m, hm, hm0⟩ : ∃ m : Nat, min (n : Int) 14 = (m : Int) ∧ m = min n 14 := ⟨min n 14, by omega, rfl⟩
  obtain ⟨m3, hm3, hm30⟩ : ∃ m : Nat, min (n3 : Int) 30 = (m : Int) ∧ m = min n3 30 := ⟨min n3 30, by omega, rfl⟩
  have hc := ha.cap
  have hc3 := hr.cap
  have hmn : m ≤ n := by omega
  have hmc : m ≤ c := by omega
  have hmn3 : m3 ≤ n3 := by omega
  have hmc3 : m3 ≤ c3 := by omega
  have hm3b : m3 ≤ 30 := by omega
  have hta := ha.take hmn
  have htr := hr.take hmn3
  have hcall : ∀ wq, Below w1.heap.size w1 wq → Calls Tryz.prog 14 #[.agg #[.string e.title, .int .i64 e.dots, .int .i64 e.blank, .int .i64 e.marked, .slice AP AnP AcP, .slice AC AnC AcC, .slice AS AnS AcS, .int .i64 e.scan, .int .i64 e.batch, .bool e.risk.neg, .slice AN AnN AcN, .slice AD AnD AcD, .int .i64 e.cell, .string e.seed], .slice A m c, .slice A3 m3 c3] wq (RetRec wq (reconP e (acs.take m) (rs.take m3))) := fun wq hq => by
    have hbq : Below w.heap.size w wq := below_more hb1 hq
    have sz : ∀ {S : Nat → Prop}, (∀ b, S b → b < w.heap.size) → ∀ b, S b → b < wq.heap.size := fun hS b h => Nat.lt_of_lt_of_le (hS b h) hbq.size
    exact recon_ok (htab.up hB hbq) (Nat.le_trans hB hbq.size) (S := S) (e := e) ⟨_, rfl, AP, AnP, AcP, AC, AnC, AcC, AS, AnS, AcS, AN, AnN, AcN, AD, AnD, AcD, rfl, hrP.below hbq hS, hrC.below hbq hS, hrS.below hbq hS, hrN.below hbq hS, hrD.below hbq hS⟩ (sz hS) hok hsn (hta.below hbq hS2) (sz hS2) (htr.below hbq hS3) (sz hS3)
  obtain ⟨⟨gs, f⟩, hz⟩ : ∃ z, reconP e (acs.take m) (rs.take m3) = z := ⟨_, rfl⟩
  have hlaw := recon_law hz
  have hlr : ((rs.take m3).length : Int) = (m3 : Int) := by rw [htr.len]
  rw [hlr] at hlaw
  rw [hz] at hcall
  have HBE := Lib.hid hk1
  have HCALL := Lib.hid hcall
  have HLAW := Lib.hid hlaw
  have HW1 := Lib.hid hw1
  have HB1 := Lib.hid hb1
  have HTAB := Lib.hid htab
  have HWB := Lib.hid hB
  show Calls _ _ #[.agg #[.string e.title, .int .i64 e.dots, .int .i64 e.blank, .int .i64 e.marked, .slice AP AnP AcP, .slice AC AnC AcC, .slice AS AnS AcS, .int .i64 e.scan, .int .i64 e.batch, .bool e.risk.neg, .slice AN AnN AcN, .slice AD AnD AcD, .int .i64 e.cell, .string e.seed], .slice A n c, .slice A3 n3 c3] w _
  clear hcall hlaw hw1 hb1 hk1 ha hr hta htr hS2 hS3 hS hok hsn htab hB hrP hrC hrS hrN hrD hz hlr hm0 hm30
  go_enter Tryz.func5, Tryz.ntmps5
  go_upto_region 1 with (fail)
  rw [HW1.out]
  go_quiet (fail)
  have hbq : Below w1.heap.size w1 (w1.drewN nq) := below_drewN (Below.refl _ _) nq
  have hkq := HBE.out.keep hbq
  obtain ⟨wq, hwq⟩ : ∃ q, w1.drewN nq = q := ⟨_, rfl⟩
  rw [hwq] at hbq hkq
  rw [hwq]
  have d0 : wq.cell? ⟨w.heap.size, 0, none⟩ = some (.string e.title) := hkq.cell 0
  have d1 : wq.cell? ⟨w.heap.size, 1, none⟩ = some (.int .i64 e.dots) := hkq.cell 1
  have d2 : wq.cell? ⟨w.heap.size, 2, none⟩ = some (.int .i64 e.blank) := hkq.cell 2
  have d3 : wq.cell? ⟨w.heap.size, 3, none⟩ = some (.int .i64 e.marked) := hkq.cell 3
  have d4 : wq.cell? ⟨w.heap.size, 4, none⟩ = some (.slice AP AnP AcP) := hkq.cell 4
  have d5 : wq.cell? ⟨w.heap.size, 5, none⟩ = some (.slice AC AnC AcC) := hkq.cell 5
  have d6 : wq.cell? ⟨w.heap.size, 6, none⟩ = some (.slice AS AnS AcS) := hkq.cell 6
  have d7 : wq.cell? ⟨w.heap.size, 7, none⟩ = some (.int .i64 e.scan) := hkq.cell 7
  have d8 : wq.cell? ⟨w.heap.size, 8, none⟩ = some (.int .i64 e.batch) := hkq.cell 8
  have d9 : wq.cell? ⟨w.heap.size, 9, none⟩ = some (.bool e.risk.neg) := hkq.cell 9
  have d10 : wq.cell? ⟨w.heap.size, 10, none⟩ = some (.slice AN AnN AcN) := hkq.cell 10
  have d11 : wq.cell? ⟨w.heap.size, 11, none⟩ = some (.slice AD AnD AcD) := hkq.cell 11
  have d12 : wq.cell? ⟨w.heap.size, 12, none⟩ = some (.int .i64 e.cell) := hkq.cell 12
  have d13 : wq.cell? ⟨w.heap.size, 13, none⟩ = some (.string e.seed) := hkq.cell 13
  have HBQ := Lib.hid hbq
  clear hkq hwq hbq
  go_wp2_with fail
  refine (HCALL.out wq HBQ.out).mono ?_
  rintro en w2 ⟨A9, n9, c9, rfl, hrs, hb2⟩
  have HB2 := Lib.hid (below_more (below_more HB1.out HBQ.out) hb2)
  have HRS := Lib.hid hrs
  have hl9 := hrs.len
  have HL9 := Lib.hid hl9
  clear hb2 hrs HCALL hl9 d0 d1 d2 d3 d4 d5 d6 d7 d8 d9 d10 d11 d12 d13
  have hfs : ∀ b, Fresh wq w2 b → b < w2.heap.size := fun b h => h.2
  have HFS := Lib.hid hfs
  clear hfs
  by_cases hf : f = 0
  case neg =>
    obtain rfl := HLAW.out.1 hf
    have hn9 : n9 = 0 := HL9.out.symm
    subst hn9
    have d0 : (f == 0) = false := by simpa using hf
    clear hf HLAW
    go_wp2_with fail
    refine (awake20_ok (HTAB.out.up HWB.out HB2.out) (Nat.le_trans HWB.out HB2.out.size)).mono ?_
    rintro en w3 ⟨rfl, hb3⟩
    have HB3 := Lib.hid (below_more HB2.out hb3)
    clear hb3
    go_wp2_with fail
    go_ret
    exact ⟨rfl, HB3.out⟩
  subst hf
  obtain ⟨hgood, hrecs, hmiss, hph⟩ := HLAW.out.2 rfl
  have HGOOD := Lib.hid hgood
  have HRECS := Lib.hid hrecs
  have HMISS := Lib.hid hmiss
  have HPH := Lib.hid hph
  have hm9 := HRS.out.max
  clear hgood hrecs hmiss hph HLAW
  go_wp2_with fail
  go_loopw [9, 10, 39] (fun pv qv iv wr => ∃ (k : Nat) (p q : Int), iv = .int .i64 k ∧ k ≤ n9 ∧ pv = .int .i64 p ∧ qv = .int .i64 q ∧ p = recsOf (gs.take k) ∧ q = missOf (gs.take k) ∧ Below w2.heap.size w2 wr) (fun _ _ iv _ => n9 - (intOf iv).toNat)
  case atStart => exact ⟨0, 0, 0, rfl, Nat.zero_le _, rfl, rfl, rfl, rfl, Below.refl _ _⟩
  case round =>
    obtain ⟨k, p, q, rfl, hk, rfl, rfl, hp, hq, hb⟩ := hrel
    have HP := Lib.hid hp
    have HQ := Lib.hid hq
    have HB := Lib.hid hb
    have HR := Lib.hid (HRS.out.below hb HFS.out)
    clear hp hq hb
    by_cases hlt : k < n9
    · have hlt2 : (k : Int) < (n9 : Int) := by omega
      obtain ⟨b, o, x, cs, rfl, hSb, hx, hrx, hld⟩ := HR.out.load_at (fun b h => Nat.lt_of_lt_of_le (HFS.out b h) HB.out.size) hlt
      have hkc : (k : Int) ≤ (c9 : Int) := by have := HR.out.cap; omega
      have hg := HGOOD.out x (List.mem_of_getElem? hx)
      obtain ⟨hp0, hp1, hpn⟩ := recs_step HGOOD.out hx
      obtain ⟨hq0, hq1, hqn⟩ := miss_step HGOOD.out hx
      rw [← HP.out] at hp0 hp1 hpn
      rw [← HQ.out] at hq0 hq1 hqn
      have hR := HRECS.out
      have hM := HMISS.out
      rw [hR] at hp1
      obtain ⟨pr, pa, re, mi, ex, ub⟩ := x
      obtain ⟨g1, g2, g3, g4, g5, g6, g7⟩ := hg
      simp only at g1 g2 g3 g4 g5 g6 g7 hp0 hp1 hpn hq0 hq1 hqn
      have hwP : IntKind.i64.wrap (p + re) = p + re := by rw [IntKind.wrap_i64] <;> omega
      have hcs : cs = [.int .i64 pr, .int .i64 pa, .int .i64 re, .int .i64 mi, .int .i64 ex, .bool ub] := hrx
      subst hcs
      have hcell : ∀ w', Below wr.heap.size wr w' → w'.cell? ⟨b, o + k * 6 + 1, none⟩ = some (.int .i64 pa) ∧ w'.cell? ⟨b, o + k * 6 + 2, none⟩ = some (.int .i64 re) ∧ w'.cell? ⟨b, o + k * 6 + 3, none⟩ = some (.int .i64 mi) ∧ w'.cell? ⟨b, o + k * 6 + 4, none⟩ = some (.int .i64 ex) := fun w' h => ⟨(hld w' h).2 1 _ rfl, (hld w' h).2 2 _ rfl, (hld w' h).2 3 _ rfl, (hld w' h).2 4 _ rfl⟩
      obtain ⟨r1, r2, r3, r4⟩ := hcell wr (Below.refl _ _)
      have HCELL := Lib.hid hcell
      have HPN := Lib.hid hpn
      have hmx : mi = 0 ∨ (mi ≠ 0 ∧ ex = 0) := by omega
      have d3 : (mi < 0) = False := eq_false (by omega)
      have d4 : (ex < 0) = False := eq_false (by omega)
      clear hcell hld hx hrx hpn
      rcases hmx with h0 | ⟨h0, h1⟩
      · subst h0
        rw [Int.add_zero] at hqn
        have HQN := Lib.hid hqn
        have hwA : IntKind.i64.wrap re = re := by rw [IntKind.wrap_i64] <;> omega
        have hwB : IntKind.i64.wrap (pa + ex) = re := by rw [IntKind.wrap_i64] <;> omega
        have hwQ : IntKind.i64.wrap q = q := by rw [IntKind.wrap_i64] <;> omega
        clear d3 g1 g2 g3 g4 g5 g6 g7 hq0 hq1 hqn hp0 hp1 hR hM
        go_upto_region 9 with (fail)
        go_quiet (fail)
        have hbn := below_drewN (Below.refl wr.heap.size wr) nq
        obtain ⟨wn, hwn⟩ : ∃ q, wr.drewN nq = q := ⟨_, rfl⟩
        rw [hwn] at hbn
        rw [hwn]
        clear r1 r2 r3 r4
        obtain ⟨r1, r2, r3, r4⟩ := HCELL.out wn hbn
        have HBN := Lib.hid (below_more HB.out hbn)
        clear hbn hwn
        go_wp2_with fail
        go_roundw
        case rel => exact ⟨k + 1, _, _, by go_num, by omega, rfl, rfl, HPN.out, HQN.out, HBN.out⟩
        case measure => simp [intOf]; omega
      · subst h1
        have HQN := Lib.hid hqn
        have d5 : (mi == 0) = false := by simpa using h0
        have d6 : (mi != 0) = true := by rw [bne, d5]; rfl
        have hwA : IntKind.i64.wrap (re + mi) = pa := by rw [IntKind.wrap_i64] <;> omega
        have hwB : IntKind.i64.wrap pa = pa := by rw [IntKind.wrap_i64] <;> omega
        have hwQ : IntKind.i64.wrap (q + mi) = q + mi := by rw [IntKind.wrap_i64] <;> omega
        clear h0 d4 g1 g2 g3 g4 g5 g6 g7 hq0 hq1 hqn hp0 hp1 hR hM
        go_upto_region 9 with (fail)
        go_quiet (fail)
        have hbn := below_drewN (Below.refl wr.heap.size wr) nq
        obtain ⟨wn, hwn⟩ : ∃ q, wr.drewN nq = q := ⟨_, rfl⟩
        rw [hwn] at hbn
        rw [hwn]
        clear r1 r2 r3 r4
        obtain ⟨r1, r2, r3, r4⟩ := HCELL.out wn hbn
        have HBN := Lib.hid (below_more HB.out hbn)
        clear hbn hwn
        go_wp2_with fail
        go_roundw
        case rel => exact ⟨k + 1, _, _, by go_num, by omega, rfl, rfl, HPN.out, HQN.out, HBN.out⟩
        case measure => simp [intOf]; omega
    · have hkn : k = n9 := by omega
      have hp2 : p = (m3 : Int) := by rw [HP.out, List.take_of_length_le (by rw [HL9.out]; omega)]; exact HRECS.out
      have hq2 : q = phantP gs := by rw [HQ.out, List.take_of_length_le (by rw [HL9.out]; omega)]; exact HPH.out.symm
      subst hp2
      subst hq2
      clear hkn
      go_wp2_with fail
      refine (awake20_ok (HTAB.out.up HWB.out (below_more HB2.out HB.out)) (Nat.le_trans HWB.out (below_more HB2.out HB.out).size)).mono ?_
      rintro en w3 ⟨rfl, hb3⟩
      have HB3 := Lib.hid (below_more (below_more HB2.out HB.out) hb3)
      have HR3 := Lib.hid (HRS.out.below (HB.out.trans (hb3.mono HB.out.size)) HFS.out)
      have HS3 : Hid (∀ b, Fresh wq w2 b → b < w3.heap.size) := Lib.hid fun b h => Nat.lt_of_lt_of_le (HFS.out b h) (Nat.le_trans HB.out.size hb3.size)
      clear hb3
      go_wp2_with fail
      refine (phant_ok HR3.out HS3.out).mono ?_
      rintro en w4 ⟨rfl, hb4⟩
      have HB4 := Lib.hid (below_more HB3.out hb4)
      clear hb4
      go_wp2_with fail
      go_ret
      exact ⟨rfl, HB4.out⟩
end Go.Proofs.YtjlhbfbdcfajfaaGreatDoor
