/- Src5 -/
import Derived.Test.YtjlhbfbdcfajfaaGreatDoorG26
/- schema, the way back: source. PRINTED by wip/gen/src5.py -/
namespace Go.Proofs.YtjlhbfbdcfajfaaGreatDoor
open Go.RowKit

/-- an election whose numbers fit into words of 64 bits and whose lists are not too long -/
structure ElecOk (e : ElectionD) : Prop where
  dots : I64 e.dots
  blank : I64 e.blank
  marked : I64 e.marked
  scan : I64 e.scan
  batch : I64 e.batch
  cell : I64 e.cell
  conts : ∀ x ∈ e.cont, ContOk x
  styls : ∀ x ∈ e.styl, x.prec.length ≤ 274877906944 ∧ x.cont.length ≤ 274877906944
  lc : e.cont.length ≤ 34359738368
  ls : e.styl.length ≤ 34359738367
  lp : e.prec.length ≤ 274877906944
  short : e.risk.short 67108864

set_option maxRecDepth 20000 in
set_option maxHeartbeats 16000000 in
theorem sourceF_ok {B : Nat} {w : World} (htab : Tab B w) (hB : B ≤ w.heap.size) {S : Nat → Prop} {v : Value} {e : ElectionD} (h : SV w S v e) (hS : ∀ b, S b → b < w.heap.size) (hok : ElecOk e) :
    Calls Tryz.prog 42 #[v] w (RetSV w (sourceP e)) := by
  obtain ⟨cs, rfl, AP, nP, cP, AC, nC, cC, AS, nS, cS, AN, nN, cN, AD, nD, cD, rfl, hrp, hrc, hrs, hrn, hrd⟩ := h
  have hb1 : Below w.heap.size w ((w.alloc (.cells #[.string e.title, .int .i64 e.dots, .int .i64 e.blank, .int .i64 e.marked, .slice AP nP cP, .slice AC nC cC, .slice AS nS cS, .int .i64 e.scan, .int .i64 e.batch, .bool e.risk.neg, .slice AN nN cN, .slice AD nD cD, .int .i64 e.cell, .string e.seed] 30)).alloc (.cells #[.string ⟨#[]⟩, .slice none 0 0] 81)) := ((Below.refl _ _).alloc (Nat.le_refl _) _).alloc (by simp) _
  have hkx : Blk ((w.alloc (.cells #[.string e.title, .int .i64 e.dots, .int .i64 e.blank, .int .i64 e.marked, .slice AP nP cP, .slice AC nC cC, .slice AS nS cS, .int .i64 e.scan, .int .i64 e.batch, .bool e.risk.neg, .slice AN nN cN, .slice AD nD cD, .int .i64 e.cell, .string e.seed] 30)).alloc (.cells #[.string ⟨#[]⟩, .slice none 0 0] 81)) w.heap.size 30 #[.string e.title, .int .i64 e.dots, .int .i64 e.blank, .int .i64 e.marked, .slice AP nP cP, .slice AC nC cC, .slice AS nS cS, .int .i64 e.scan, .int .i64 e.batch, .bool e.risk.neg, .slice AN nN cN, .slice AD nD cD, .int .i64 e.cell, .string e.seed] := (Blk.new _ _ _).alloc _
  have hkr : Blk ((w.alloc (.cells #[.string e.title, .int .i64 e.dots, .int .i64 e.blank, .int .i64 e.marked, .slice AP nP cP, .slice AC nC cC, .slice AS nS cS, .int .i64 e.scan, .int .i64 e.batch, .bool e.risk.neg, .slice AN nN cN, .slice AD nD cD, .int .i64 e.cell, .string e.seed] 30)).alloc (.cells #[.string ⟨#[]⟩, .slice none 0 0] 81)) (w.heap.size + 1) 81 #[.string ⟨#[]⟩, .slice none 0 0] := Blk.new' (by simp) _ _
  have hs1 : ((w.alloc (.cells #[.string e.title, .int .i64 e.dots, .int .i64 e.blank, .int .i64 e.marked, .slice AP nP cP, .slice AC nC cC, .slice AS nS cS, .int .i64 e.scan, .int .i64 e.batch, .bool e.risk.neg, .slice AN nN cN, .slice AD nD cD, .int .i64 e.cell, .string e.seed] 30)).alloc (.cells #[.string ⟨#[]⟩, .slice none 0 0] 81)).heap.size = w.heap.size + 2 := by simp
  obtain ⟨w1, hw1⟩ : ∃ q, (w.alloc (.cells #[.string e.title, .int .i64 e.dots, .int .i64 e.blank, .int .i64 e.marked, .slice AP nP cP, .slice AC nC cC, .slice AS nS cS, .int .i64 e.scan, .int .i64 e.batch, .bool e.risk.neg, .slice AN nN cN, .slice AD nD cD, .int .i64 e.cell, .string e.seed] 30)).alloc (.cells #[.string ⟨#[]⟩, .slice none 0 0] 81) = q := ⟨_, rfl⟩
  rw [hw1] at hb1 hkx hkr hs1
  have HW1 := Lib.hid hw1
  have HB1 := Lib.hid hb1
  have HS1 := Lib.hid hs1
  have HKX := Lib.hid hkx
  have HKR := Lib.hid hkr
  have HTAB := Lib.hid (htab.up hB hb1)
  have HTB := Lib.hid (Nat.le_trans hB hb1.size)
  have HRG := Lib.hid hok
  have HRP := Lib.hid (hrp.below hb1 hS)
  have HRC := Lib.hid (hrc.below hb1 hS)
  have HRS := Lib.hid (hrs.below hb1 hS)
  have HRN := Lib.hid (hrn.below hb1 hS)
  have HRD := Lib.hid (hrd.below hb1 hS)
  have HSX : Hid (∀ b, S b → b < w1.heap.size) := Lib.hid fun b h => Nat.lt_of_lt_of_le (hS b h) hb1.size
  have HNP : Hid (nP ≤ 1099511627776) := Lib.hid (by rw [← hrp.len]; exact Nat.le_trans hok.lp (by omega))
  have HLC := Lib.hid hrc.len
  have HLS := Lib.hid hrs.len
  have hmC : nC ≤ 34359738368 := by rw [← hrc.len]; exact hok.lc
  have hmS : nS ≤ 34359738367 := by rw [← hrs.len]; exact hok.ls
  show Calls _ _ #[.agg #[.string e.title, .int .i64 e.dots, .int .i64 e.blank, .int .i64 e.marked, .slice AP nP cP, .slice AC nC cC, .slice AS nS cS, .int .i64 e.scan, .int .i64 e.batch, .bool e.risk.neg, .slice AN nN cN, .slice AD nD cD, .int .i64 e.cell, .string e.seed]] w _
  clear hw1 hb1 hkx hkr htab hok hrp hrc hrs hrn hrd hs1
  go_enter Tryz.func42, Tryz.ntmps42
  go_upto_region 1 with (fail)
  rw [HW1.out]
  refine wp_region_grow 30 0 (fun i => match i with
    | 0 => ΦV (.pointer (some ⟨w.heap.size, 0, none⟩))
    | 1 => ΦV (.string e.title)
    | 2 => ΦV (.pointer (some ⟨w.heap.size, 1, none⟩))
    | 3 => ΦV (.int .i64 e.dots)
    | 4 => @ΦS FieldD _ w1 29 (numF kDots e.dots)
    | 5 => ΦV (.pointer (some ⟨w.heap.size, 2, none⟩))
    | 6 => ΦV (.int .i64 e.blank)
    | 7 => @ΦS FieldD _ w1 29 (numF kBlank e.blank)
    | 8 => ΦV (.pointer (some ⟨w.heap.size, 3, none⟩))
    | 9 => ΦV (.int .i64 e.marked)
    | 10 => @ΦS FieldD _ w1 29 (numF kMarked e.marked)
    | 11 => @ΦR FieldD _ w1 29 11 113 ([numF kDots e.dots, numF kBlank e.blank, numF kMarked e.marked]) 3
    | 12 => @ΦS BlockD _ w1 29 ((⟨kScan, ⟨#[]⟩, [numF kDots e.dots, numF kBlank e.blank, numF kMarked e.marked], 0⟩ : BlockD))
    | 13 => ΦV (.pointer (some ⟨w.heap.size, 7, none⟩))
    | 14 => ΦV (.int .i64 e.scan)
    | 15 => @ΦS FieldD _ w1 29 (numF kCount e.scan)
    | 16 => ΦV (.pointer (some ⟨w.heap.size, 8, none⟩))
    | 17 => ΦV (.int .i64 e.batch)
    | 18 => @ΦS FieldD _ w1 29 (numF kBatch e.batch)
    | 19 => @ΦR FieldD _ w1 29 19 113 ([numF kCount e.scan, numF kBatch e.batch]) 2
    | 20 => @ΦS BlockD _ w1 29 ((⟨kScanners, ⟨#[]⟩, [numF kCount e.scan, numF kBatch e.batch], 0⟩ : BlockD))
    | 21 => ΦV (.pointer (some ⟨w.heap.size, 4, none⟩))
    | 22 => ΦV (.slice AP nP cP)
    | 23 => @ΦL ByteArray _ w1 29 (e.prec)
    | 24 => @ΦS FieldD _ w1 29 ((⟨kNames, e.prec, 0⟩ : FieldD))
    | 25 => @ΦR FieldD _ w1 29 25 113 ([(⟨kNames, e.prec, 0⟩ : FieldD)]) 1
    | 26 => @ΦS BlockD _ w1 29 ((⟨kPrecincts, ⟨#[]⟩, [(⟨kNames, e.prec, 0⟩ : FieldD)], 0⟩ : BlockD))
    | 27 => @ΦR BlockD _ w1 29 27 110 ([(⟨kScan, ⟨#[]⟩, [numF kDots e.dots, numF kBlank e.blank, numF kMarked e.marked], 0⟩ : BlockD), ⟨kScanners, ⟨#[]⟩, [numF kCount e.scan, numF kBatch e.batch], 0⟩, ⟨kPrecincts, ⟨#[]⟩, [(⟨kNames, e.prec, 0⟩ : FieldD)], 0⟩]) 3
    | 28 => (fun v col w => ∃ u, v = .agg #[.string e.title, u] ∧ ΦR w1 29 27 110 [(⟨kScan, ⟨#[]⟩, [numF kDots e.dots, numF kBlank e.blank, numF kMarked e.marked], 0⟩ : BlockD), ⟨kScanners, ⟨#[]⟩, [numF kCount e.scan, numF kBatch e.batch], 0⟩, ⟨kPrecincts, ⟨#[]⟩, [(⟨kNames, e.prec, 0⟩ : FieldD)], 0⟩] 3 u col w)
    | 29 => ΦB w1 29 81 #[.string ⟨#[]⟩, .slice none 0 0]
    | _ => fun _ _ _ => False) (by kernel_rfl) (by kernel_rfl) (by kernel_rfl) (by kernel_rfl) ?_ ?_ ?_
  · intro i v c1 w1 c2 w2 h hb hc
    match i with
    | 0 => exact h
    | 1 => exact h
    | 2 => exact h
    | 3 => exact h
    | 4 => exact ΦS.mono h hb hc
    | 5 => exact h
    | 6 => exact h
    | 7 => exact ΦS.mono h hb hc
    | 8 => exact h
    | 9 => exact h
    | 10 => exact ΦS.mono h hb hc
    | 11 => exact ΦR.mono h hb hc
    | 12 => exact ΦS.mono h hb hc
    | 13 => exact h
    | 14 => exact h
    | 15 => exact ΦS.mono h hb hc
    | 16 => exact h
    | 17 => exact h
    | 18 => exact ΦS.mono h hb hc
    | 19 => exact ΦR.mono h hb hc
    | 20 => exact ΦS.mono h hb hc
    | 21 => exact h
    | 22 => exact h
    | 23 => exact ΦL.mono h hb hc
    | 24 => exact ΦS.mono h hb hc
    | 25 => exact ΦR.mono h hb hc
    | 26 => exact ΦS.mono h hb hc
    | 27 => exact ΦR.mono h hb hc
    | 28 => obtain ⟨u, e, hu⟩ := h; exact ⟨u, e, ΦR.mono hu hb hc⟩
    | 29 => exact ΦB.mono h hb hc
    | _ + 30 => exact h
  · intro Q0 i hi a1 col wc hout hbc hcol hdep
    have hWc := hbc.size
    match i, hi with
    | 0, _ =>
      have e1 : a1.tmps[1]? = some (.pointer (some ⟨w.heap.size, 0, none⟩)) := (hout.2 1 (by kernel_rfl)).trans rfl
      clear hdep
      refine gives_runs rfl rfl (.pointer (some ⟨w.heap.size, 0, none⟩)) ?_ (Below.refl _ _) rfl
      go_simp
    | 1, _ =>
      obtain ⟨v9, ev, pv9⟩ := hdep 0 (by kernel_rfl)
      have e9 := ev 9 rfl
      clear ev
      obtain rfl : v9 = _ := pv9
      clear hdep
      have ld0 : wc.cell? ⟨w.heap.size, 0, none⟩ = some (.string e.title) := (HKX.out.keep hbc).cell 0
      refine gives_runs rfl rfl (.string e.title) ?_ (Below.refl _ _) rfl
      go_simp
    | 2, _ =>
      have e1 : a1.tmps[1]? = some (.pointer (some ⟨w.heap.size, 0, none⟩)) := (hout.2 1 (by kernel_rfl)).trans rfl
      clear hdep
      refine gives_runs rfl rfl (.pointer (some ⟨w.heap.size, 1, none⟩)) ?_ (Below.refl _ _) rfl
      go_simp
    | 3, _ =>
      obtain ⟨v11, ev, pv11⟩ := hdep 2 (by kernel_rfl)
      have e11 := ev 11 rfl
      clear ev
      obtain rfl : v11 = _ := pv11
      clear hdep
      have ld0 : wc.cell? ⟨w.heap.size, 1, none⟩ = some (.int .i64 e.dots) := (HKX.out.keep hbc).cell 1
      refine gives_runs rfl rfl (.int .i64 e.dots) ?_ (Below.refl _ _) rfl
      go_simp
    | 4, _ =>
      obtain ⟨v12, ev, pv12⟩ := hdep 3 (by kernel_rfl)
      have e12 := ev 12 rfl
      clear ev
      obtain rfl : v12 = _ := pv12
      clear hdep
      refine gives_calls rfl rfl 68 #[.string kDots, .int .i64 e.dots] ?_ (fieldF_ok (HTAB.out.up HTB.out hbc) (Nat.le_trans HTB.out hWc) kDots e.dots HRG.out.dots.1 HRG.out.dots.2) (fun e w2 hr => ΦS.of_ret hr hWc (by decide))
      go_simp
      try rfl
    | 5, _ =>
      have e1 : a1.tmps[1]? = some (.pointer (some ⟨w.heap.size, 0, none⟩)) := (hout.2 1 (by kernel_rfl)).trans rfl
      clear hdep
      refine gives_runs rfl rfl (.pointer (some ⟨w.heap.size, 2, none⟩)) ?_ (Below.refl _ _) rfl
      go_simp
    | 6, _ =>
      obtain ⟨v14, ev, pv14⟩ := hdep 5 (by kernel_rfl)
      have e14 := ev 14 rfl
      clear ev
      obtain rfl : v14 = _ := pv14
      clear hdep
      have ld0 : wc.cell? ⟨w.heap.size, 2, none⟩ = some (.int .i64 e.blank) := (HKX.out.keep hbc).cell 2
      refine gives_runs rfl rfl (.int .i64 e.blank) ?_ (Below.refl _ _) rfl
      go_simp
    | 7, _ =>
      obtain ⟨v15, ev, pv15⟩ := hdep 6 (by kernel_rfl)
      have e15 := ev 15 rfl
      clear ev
      obtain rfl : v15 = _ := pv15
      clear hdep
      refine gives_calls rfl rfl 68 #[.string kBlank, .int .i64 e.blank] ?_ (fieldF_ok (HTAB.out.up HTB.out hbc) (Nat.le_trans HTB.out hWc) kBlank e.blank HRG.out.blank.1 HRG.out.blank.2) (fun e w2 hr => ΦS.of_ret hr hWc (by decide))
      go_simp
      try rfl
    | 8, _ =>
      have e1 : a1.tmps[1]? = some (.pointer (some ⟨w.heap.size, 0, none⟩)) := (hout.2 1 (by kernel_rfl)).trans rfl
      clear hdep
      refine gives_runs rfl rfl (.pointer (some ⟨w.heap.size, 3, none⟩)) ?_ (Below.refl _ _) rfl
      go_simp
    | 9, _ =>
      obtain ⟨v17, ev, pv17⟩ := hdep 8 (by kernel_rfl)
      have e17 := ev 17 rfl
      clear ev
      obtain rfl : v17 = _ := pv17
      clear hdep
      have ld0 : wc.cell? ⟨w.heap.size, 3, none⟩ = some (.int .i64 e.marked) := (HKX.out.keep hbc).cell 3
      refine gives_runs rfl rfl (.int .i64 e.marked) ?_ (Below.refl _ _) rfl
      go_simp
    | 10, _ =>
      obtain ⟨v18, ev, pv18⟩ := hdep 9 (by kernel_rfl)
      have e18 := ev 18 rfl
      clear ev
      obtain rfl : v18 = _ := pv18
      clear hdep
      refine gives_calls rfl rfl 68 #[.string kMarked, .int .i64 e.marked] ?_ (fieldF_ok (HTAB.out.up HTB.out hbc) (Nat.le_trans HTB.out hWc) kMarked e.marked HRG.out.marked.1 HRG.out.marked.2) (fun e w2 hr => ΦS.of_ret hr hWc (by decide))
      go_simp
      try rfl
    | 11, _ =>
      obtain ⟨v13, ev, pv13⟩ := hdep 4 (by kernel_rfl)
      have e13 := ev 13 rfl
      clear ev
      obtain ⟨cs13, rfl, A13, n13, c13, rfl, h13⟩ := pv13
      obtain ⟨v16, ev, pv16⟩ := hdep 7 (by kernel_rfl)
      have e16 := ev 16 rfl
      clear ev
      obtain ⟨cs16, rfl, A16, n16, c16, rfl, h16⟩ := pv16
      obtain ⟨v19, ev, pv19⟩ := hdep 10 (by kernel_rfl)
      have e19 := ev 19 rfl
      clear ev
      obtain ⟨cs19, rfl, A19, n19, c19, rfl, h19⟩ := pv19
      clear hdep
      have hf : Flat wc (RD w1 29 col wc) [.string kDots, .slice A13 n13 c13, .int .i64 0, .string kBlank, .slice A16 n16 c16, .int .i64 0, .string kMarked, .slice A19 n19 c19, .int .i64 0] ([numF kDots e.dots, numF kBlank e.blank, numF kMarked e.marked]) := Flat.cons (ds := [_, _, _]) ⟨A13, n13, c13, rfl, h13⟩ (Flat.cons (ds := [_, _, _]) ⟨A16, n16, c16, rfl, h16⟩ (Flat.cons (ds := [_, _, _]) ⟨A19, n19, c19, rfl, h19⟩ (Flat.nil)))
      refine gives_runs rfl rfl (.slice (some ⟨wc.heap.size, 0, none⟩) 3 3) (w' := wc.alloc (.cells #[.string kDots, .slice A13 n13 c13, .int .i64 0, .string kBlank, .slice A16 n16 c16, .int .i64 0, .string kMarked, .slice A19 n19 c19, .int .i64 0] 113)) ?_ (below_alloc _ _) (ΦR.built (cs := [.string kDots, .slice A13 n13 c13, .int .i64 0, .string kBlank, .slice A16 n16 c16, .int .i64 0, .string kMarked, .slice A19 n19 c19, .int .i64 0]) (t := 113) hf (fun b hb => hcol b hb.1 hb.2.1) rfl (by simp [Value.oneCell']) hWc)
      go_simp
      try rfl
    | 12, _ =>
      obtain ⟨v20, ev, pv20⟩ := hdep 11 (by kernel_rfl)
      have e20 := ev 20 rfl
      clear ev
      have P20 := pv20
      obtain ⟨g20, cs20, rfl, hg20, hcg20, hk20, hf20, hn20, ho20⟩ := pv20
      have h20 := row_rs hg20 hcg20 (show 11 ≠ 29 by decide) hk20 hf20 hn20 (by decide)
      clear hg20 hcg20 hk20 hf20 hn20 ho20
      clear hdep
      refine gives_runs rfl rfl (.agg #[.string kScan, .string ⟨#[]⟩, .slice (some ⟨g20, 0, none⟩) 3 3, .int .i64 0]) ?_ (Below.refl _ _) (ΦS.mono (x := (⟨kScan, ⟨#[]⟩, [numF kDots e.dots, numF kBlank e.blank, numF kMarked e.marked], 0⟩ : BlockD)) (c1 := col) (w1 := wc) (⟨_, rfl, _, _, _, rfl, h20⟩) (Below.refl _ _) fun b hb => colr_old hb)
      go_simp
      try rfl
    | 13, _ =>
      have e1 : a1.tmps[1]? = some (.pointer (some ⟨w.heap.size, 0, none⟩)) := (hout.2 1 (by kernel_rfl)).trans rfl
      clear hdep
      refine gives_runs rfl rfl (.pointer (some ⟨w.heap.size, 7, none⟩)) ?_ (Below.refl _ _) rfl
      go_simp
    | 14, _ =>
      obtain ⟨v22, ev, pv22⟩ := hdep 13 (by kernel_rfl)
      have e22 := ev 22 rfl
      clear ev
      obtain rfl : v22 = _ := pv22
      clear hdep
      have ld0 : wc.cell? ⟨w.heap.size, 7, none⟩ = some (.int .i64 e.scan) := (HKX.out.keep hbc).cell 7
      refine gives_runs rfl rfl (.int .i64 e.scan) ?_ (Below.refl _ _) rfl
      go_simp
    | 15, _ =>
      obtain ⟨v23, ev, pv23⟩ := hdep 14 (by kernel_rfl)
      have e23 := ev 23 rfl
      clear ev
      obtain rfl : v23 = _ := pv23
      clear hdep
      refine gives_calls rfl rfl 68 #[.string kCount, .int .i64 e.scan] ?_ (fieldF_ok (HTAB.out.up HTB.out hbc) (Nat.le_trans HTB.out hWc) kCount e.scan HRG.out.scan.1 HRG.out.scan.2) (fun e w2 hr => ΦS.of_ret hr hWc (by decide))
      go_simp
      try rfl
    | 16, _ =>
      have e1 : a1.tmps[1]? = some (.pointer (some ⟨w.heap.size, 0, none⟩)) := (hout.2 1 (by kernel_rfl)).trans rfl
      clear hdep
      refine gives_runs rfl rfl (.pointer (some ⟨w.heap.size, 8, none⟩)) ?_ (Below.refl _ _) rfl
      go_simp
    | 17, _ =>
      obtain ⟨v25, ev, pv25⟩ := hdep 16 (by kernel_rfl)
      have e25 := ev 25 rfl
      clear ev
      obtain rfl : v25 = _ := pv25
      clear hdep
      have ld0 : wc.cell? ⟨w.heap.size, 8, none⟩ = some (.int .i64 e.batch) := (HKX.out.keep hbc).cell 8
      refine gives_runs rfl rfl (.int .i64 e.batch) ?_ (Below.refl _ _) rfl
      go_simp
    | 18, _ =>
      obtain ⟨v26, ev, pv26⟩ := hdep 17 (by kernel_rfl)
      have e26 := ev 26 rfl
      clear ev
      obtain rfl : v26 = _ := pv26
      clear hdep
      refine gives_calls rfl rfl 68 #[.string kBatch, .int .i64 e.batch] ?_ (fieldF_ok (HTAB.out.up HTB.out hbc) (Nat.le_trans HTB.out hWc) kBatch e.batch HRG.out.batch.1 HRG.out.batch.2) (fun e w2 hr => ΦS.of_ret hr hWc (by decide))
      go_simp
      try rfl
    | 19, _ =>
      obtain ⟨v24, ev, pv24⟩ := hdep 15 (by kernel_rfl)
      have e24 := ev 24 rfl
      clear ev
      obtain ⟨cs24, rfl, A24, n24, c24, rfl, h24⟩ := pv24
      obtain ⟨v27, ev, pv27⟩ := hdep 18 (by kernel_rfl)
      have e27 := ev 27 rfl
      clear ev
      obtain ⟨cs27, rfl, A27, n27, c27, rfl, h27⟩ := pv27
      clear hdep
      have hf : Flat wc (RD w1 29 col wc) [.string kCount, .slice A24 n24 c24, .int .i64 0, .string kBatch, .slice A27 n27 c27, .int .i64 0] ([numF kCount e.scan, numF kBatch e.batch]) := Flat.cons (ds := [_, _, _]) ⟨A24, n24, c24, rfl, h24⟩ (Flat.cons (ds := [_, _, _]) ⟨A27, n27, c27, rfl, h27⟩ (Flat.nil))
      refine gives_runs rfl rfl (.slice (some ⟨wc.heap.size, 0, none⟩) 2 2) (w' := wc.alloc (.cells #[.string kCount, .slice A24 n24 c24, .int .i64 0, .string kBatch, .slice A27 n27 c27, .int .i64 0] 113)) ?_ (below_alloc _ _) (ΦR.built (cs := [.string kCount, .slice A24 n24 c24, .int .i64 0, .string kBatch, .slice A27 n27 c27, .int .i64 0]) (t := 113) hf (fun b hb => hcol b hb.1 hb.2.1) rfl (by simp [Value.oneCell']) hWc)
      go_simp
      try rfl
    | 20, _ =>
      obtain ⟨v28, ev, pv28⟩ := hdep 19 (by kernel_rfl)
      have e28 := ev 28 rfl
      clear ev
      have P28 := pv28
      obtain ⟨g28, cs28, rfl, hg28, hcg28, hk28, hf28, hn28, ho28⟩ := pv28
      have h28 := row_rs hg28 hcg28 (show 19 ≠ 29 by decide) hk28 hf28 hn28 (by decide)
      clear hg28 hcg28 hk28 hf28 hn28 ho28
      clear hdep
      refine gives_runs rfl rfl (.agg #[.string kScanners, .string ⟨#[]⟩, .slice (some ⟨g28, 0, none⟩) 2 2, .int .i64 0]) ?_ (Below.refl _ _) (ΦS.mono (x := (⟨kScanners, ⟨#[]⟩, [numF kCount e.scan, numF kBatch e.batch], 0⟩ : BlockD)) (c1 := col) (w1 := wc) (⟨_, rfl, _, _, _, rfl, h28⟩) (Below.refl _ _) fun b hb => colr_old hb)
      go_simp
      try rfl
    | 21, _ =>
      have e1 : a1.tmps[1]? = some (.pointer (some ⟨w.heap.size, 0, none⟩)) := (hout.2 1 (by kernel_rfl)).trans rfl
      clear hdep
      refine gives_runs rfl rfl (.pointer (some ⟨w.heap.size, 4, none⟩)) ?_ (Below.refl _ _) rfl
      go_simp
    | 22, _ =>
      obtain ⟨v30, ev, pv30⟩ := hdep 21 (by kernel_rfl)
      have e30 := ev 30 rfl
      clear ev
      obtain rfl : v30 = _ := pv30
      clear hdep
      have ld0 : wc.cell? ⟨w.heap.size, 4, none⟩ = some (.slice AP nP cP) := (HKX.out.keep hbc).cell 4
      refine gives_runs rfl rfl (.slice AP nP cP) ?_ (Below.refl _ _) rfl
      go_simp
    | 23, _ =>
      obtain ⟨v31, ev, pv31⟩ := hdep 22 (by kernel_rfl)
      have e31 := ev 31 rfl
      clear ev
      obtain rfl : v31 = _ := pv31
      clear hdep
      refine gives_calls rfl rfl 69 #[.slice AP nP cP] ?_ (cloneS_ok (HRP.out.below hbc HSX.out) HNP.out) (fun e w2 hr => ΦL.of_clone hr hWc (by decide))
      go_simp
      try rfl
    | 24, _ =>
      obtain ⟨v32, ev, pv32⟩ := hdep 23 (by kernel_rfl)
      have e32 := ev 32 rfl
      clear ev
      obtain ⟨A32, n32, c32, rfl, h32⟩ := pv32
      clear hdep
      refine gives_runs rfl rfl (.agg #[.string kNames, .slice A32 n32 c32, .int .i64 0]) ?_ (Below.refl _ _) (ΦS.mono (x := (⟨kNames, e.prec, 0⟩ : FieldD)) (c1 := col) (w1 := wc) (⟨_, rfl, A32, n32, c32, rfl, h32⟩) (Below.refl _ _) fun b hb => colr_old hb)
      go_simp
      try rfl
    | 25, _ =>
      obtain ⟨v33, ev, pv33⟩ := hdep 24 (by kernel_rfl)
      have e33 := ev 33 rfl
      clear ev
      obtain ⟨cs33, rfl, A33, n33, c33, rfl, h33⟩ := pv33
      clear hdep
      have hf : Flat wc (RD w1 29 col wc) [.string kNames, .slice A33 n33 c33, .int .i64 0] ([(⟨kNames, e.prec, 0⟩ : FieldD)]) := Flat.cons (ds := [_, _, _]) ⟨A33, n33, c33, rfl, h33⟩ (Flat.nil)
      refine gives_runs rfl rfl (.slice (some ⟨wc.heap.size, 0, none⟩) 1 1) (w' := wc.alloc (.cells #[.string kNames, .slice A33 n33 c33, .int .i64 0] 113)) ?_ (below_alloc _ _) (ΦR.built (cs := [.string kNames, .slice A33 n33 c33, .int .i64 0]) (t := 113) hf (fun b hb => hcol b hb.1 hb.2.1) rfl (by simp [Value.oneCell']) hWc)
      go_simp
      try rfl
    | 26, _ =>
      obtain ⟨v34, ev, pv34⟩ := hdep 25 (by kernel_rfl)
      have e34 := ev 34 rfl
      clear ev
      have P34 := pv34
      obtain ⟨g34, cs34, rfl, hg34, hcg34, hk34, hf34, hn34, ho34⟩ := pv34
      have h34 := row_rs hg34 hcg34 (show 25 ≠ 29 by decide) hk34 hf34 hn34 (by decide)
      clear hg34 hcg34 hk34 hf34 hn34 ho34
      clear hdep
      refine gives_runs rfl rfl (.agg #[.string kPrecincts, .string ⟨#[]⟩, .slice (some ⟨g34, 0, none⟩) 1 1, .int .i64 0]) ?_ (Below.refl _ _) (ΦS.mono (x := (⟨kPrecincts, ⟨#[]⟩, [(⟨kNames, e.prec, 0⟩ : FieldD)], 0⟩ : BlockD)) (c1 := col) (w1 := wc) (⟨_, rfl, _, _, _, rfl, h34⟩) (Below.refl _ _) fun b hb => colr_old hb)
      go_simp
      try rfl
    | 27, _ =>
      obtain ⟨v21, ev, pv21⟩ := hdep 12 (by kernel_rfl)
      have e21 := ev 21 rfl
      clear ev
      obtain ⟨cs21, rfl, A21, n21, c21, rfl, h21⟩ := pv21
      obtain ⟨v29, ev, pv29⟩ := hdep 20 (by kernel_rfl)
      have e29 := ev 29 rfl
      clear ev
      obtain ⟨cs29, rfl, A29, n29, c29, rfl, h29⟩ := pv29
      obtain ⟨v35, ev, pv35⟩ := hdep 26 (by kernel_rfl)
      have e35 := ev 35 rfl
      clear ev
      obtain ⟨cs35, rfl, A35, n35, c35, rfl, h35⟩ := pv35
      clear hdep
      have hf : Flat wc (RD w1 29 col wc) [.string kScan, .string ⟨#[]⟩, .slice A21 n21 c21, .int .i64 0, .string kScanners, .string ⟨#[]⟩, .slice A29 n29 c29, .int .i64 0, .string kPrecincts, .string ⟨#[]⟩, .slice A35 n35 c35, .int .i64 0] ([(⟨kScan, ⟨#[]⟩, [numF kDots e.dots, numF kBlank e.blank, numF kMarked e.marked], 0⟩ : BlockD), ⟨kScanners, ⟨#[]⟩, [numF kCount e.scan, numF kBatch e.batch], 0⟩, ⟨kPrecincts, ⟨#[]⟩, [(⟨kNames, e.prec, 0⟩ : FieldD)], 0⟩]) := Flat.cons (ds := [_, _, _, _]) ⟨A21, n21, c21, rfl, h21⟩ (Flat.cons (ds := [_, _, _, _]) ⟨A29, n29, c29, rfl, h29⟩ (Flat.cons (ds := [_, _, _, _]) ⟨A35, n35, c35, rfl, h35⟩ (Flat.nil)))
      refine gives_runs rfl rfl (.slice (some ⟨wc.heap.size, 0, none⟩) 3 3) (w' := wc.alloc (.cells #[.string kScan, .string ⟨#[]⟩, .slice A21 n21 c21, .int .i64 0, .string kScanners, .string ⟨#[]⟩, .slice A29 n29 c29, .int .i64 0, .string kPrecincts, .string ⟨#[]⟩, .slice A35 n35 c35, .int .i64 0] 110)) ?_ (below_alloc _ _) (ΦR.built (cs := [.string kScan, .string ⟨#[]⟩, .slice A21 n21 c21, .int .i64 0, .string kScanners, .string ⟨#[]⟩, .slice A29 n29 c29, .int .i64 0, .string kPrecincts, .string ⟨#[]⟩, .slice A35 n35 c35, .int .i64 0]) (t := 110) hf (fun b hb => hcol b hb.1 hb.2.1) rfl (by simp [Value.oneCell']) hWc)
      go_simp
      try rfl
    | 28, _ =>
      obtain ⟨v10, ev, pv10⟩ := hdep 1 (by kernel_rfl)
      have e10 := ev 10 rfl
      clear ev
      obtain rfl : v10 = _ := pv10
      obtain ⟨v36, ev, pv36⟩ := hdep 27 (by kernel_rfl)
      have e36 := ev 36 rfl
      clear ev
      have P36 := pv36
      obtain ⟨g36, cs36, rfl, hg36, hcg36, hk36, hf36, hn36, ho36⟩ := pv36
      have h36 := row_rs hg36 hcg36 (show 27 ≠ 29 by decide) hk36 hf36 hn36 (by decide)
      clear hg36 hcg36 hk36 hf36 hn36 ho36
      clear hdep
      refine gives_runs rfl rfl (.agg #[.string e.title, .slice (some ⟨g36, 0, none⟩) 3 3]) ?_ (Below.refl _ _) ⟨_, rfl, ΦR.mono P36 (Below.refl _ _) fun b hb => colr_old hb⟩
      go_simp
      try rfl
    | 29, _ =>
      clear hdep
      refine gives_runs rfl rfl (.pointer (some ⟨wc.heap.size, 0, none⟩)) (w' := wc.alloc (.cells #[.string ⟨#[]⟩, .slice none 0 0] 81)) ?_ (below_alloc _ _) (ΦB.made hWc)
      go_simp
      try rfl
    | k + 30, hk => exact absurd hk (by omega)
  intro vs0 col wc hl0 hbc hΦ
  obtain ⟨v0, vs1, rfl, hl1⟩ := uncons hl0
  clear hl0
  obtain ⟨v1, vs2, rfl, hl2⟩ := uncons hl1
  clear hl1
  obtain ⟨v2, vs3, rfl, hl3⟩ := uncons hl2
  clear hl2
  obtain ⟨v3, vs4, rfl, hl4⟩ := uncons hl3
  clear hl3
  obtain ⟨v4, vs5, rfl, hl5⟩ := uncons hl4
  clear hl4
  obtain ⟨v5, vs6, rfl, hl6⟩ := uncons hl5
  clear hl5
  obtain ⟨v6, vs7, rfl, hl7⟩ := uncons hl6
  clear hl6
  obtain ⟨v7, vs8, rfl, hl8⟩ := uncons hl7
  clear hl7
  obtain ⟨v8, vs9, rfl, hl9⟩ := uncons hl8
  clear hl8
  obtain ⟨v9, vs10, rfl, hl10⟩ := uncons hl9
  clear hl9
  obtain ⟨v10, vs11, rfl, hl11⟩ := uncons hl10
  clear hl10
  obtain ⟨v11, vs12, rfl, hl12⟩ := uncons hl11
  clear hl11
  obtain ⟨v12, vs13, rfl, hl13⟩ := uncons hl12
  clear hl12
  obtain ⟨v13, vs14, rfl, hl14⟩ := uncons hl13
  clear hl13
  obtain ⟨v14, vs15, rfl, hl15⟩ := uncons hl14
  clear hl14
  obtain ⟨v15, vs16, rfl, hl16⟩ := uncons hl15
  clear hl15
  obtain ⟨v16, vs17, rfl, hl17⟩ := uncons hl16
  clear hl16
  obtain ⟨v17, vs18, rfl, hl18⟩ := uncons hl17
  clear hl17
  obtain ⟨v18, vs19, rfl, hl19⟩ := uncons hl18
  clear hl18
  obtain ⟨v19, vs20, rfl, hl20⟩ := uncons hl19
  clear hl19
  obtain ⟨v20, vs21, rfl, hl21⟩ := uncons hl20
  clear hl20
  obtain ⟨v21, vs22, rfl, hl22⟩ := uncons hl21
  clear hl21
  obtain ⟨v22, vs23, rfl, hl23⟩ := uncons hl22
  clear hl22
  obtain ⟨v23, vs24, rfl, hl24⟩ := uncons hl23
  clear hl23
  obtain ⟨v24, vs25, rfl, hl25⟩ := uncons hl24
  clear hl24
  obtain ⟨v25, vs26, rfl, hl26⟩ := uncons hl25
  clear hl25
  obtain ⟨v26, vs27, rfl, hl27⟩ := uncons hl26
  clear hl26
  obtain ⟨v27, vs28, rfl, hl28⟩ := uncons hl27
  clear hl27
  obtain ⟨v28, vs29, rfl, hl29⟩ := uncons hl28
  clear hl28
  obtain ⟨v29, vs30, rfl, hl30⟩ := uncons hl29
  clear hl29
  obtain rfl := List.length_eq_zero_iff.1 hl30
  clear hl30
  have p0 := hΦ 0 _ rfl
  obtain rfl : v0 = _ := p0
  have p1 := hΦ 1 _ rfl
  obtain rfl : v1 = _ := p1
  have p2 := hΦ 2 _ rfl
  obtain rfl : v2 = _ := p2
  have p3 := hΦ 3 _ rfl
  obtain rfl : v3 = _ := p3
  have p4 := hΦ 4 _ rfl
  obtain ⟨cs4, rfl, A4, n4, c4, rfl, h4⟩ := p4
  have p5 := hΦ 5 _ rfl
  obtain rfl : v5 = _ := p5
  have p6 := hΦ 6 _ rfl
  obtain rfl : v6 = _ := p6
  have p7 := hΦ 7 _ rfl
  obtain ⟨cs7, rfl, A7, n7, c7, rfl, h7⟩ := p7
  have p8 := hΦ 8 _ rfl
  obtain rfl : v8 = _ := p8
  have p9 := hΦ 9 _ rfl
  obtain rfl : v9 = _ := p9
  have p10 := hΦ 10 _ rfl
  obtain ⟨cs10, rfl, A10, n10, c10, rfl, h10⟩ := p10
  have p11 := hΦ 11 _ rfl
  obtain ⟨g11, cs11, rfl, hg11, hcg11, hk11, hf11, hn11, ho11⟩ := p11
  have p12 := hΦ 12 _ rfl
  obtain ⟨cs12, rfl, A12, n12, c12, rfl, h12⟩ := p12
  have p13 := hΦ 13 _ rfl
  obtain rfl : v13 = _ := p13
  have p14 := hΦ 14 _ rfl
  obtain rfl : v14 = _ := p14
  have p15 := hΦ 15 _ rfl
  obtain ⟨cs15, rfl, A15, n15, c15, rfl, h15⟩ := p15
  have p16 := hΦ 16 _ rfl
  obtain rfl : v16 = _ := p16
  have p17 := hΦ 17 _ rfl
  obtain rfl : v17 = _ := p17
  have p18 := hΦ 18 _ rfl
  obtain ⟨cs18, rfl, A18, n18, c18, rfl, h18⟩ := p18
  have p19 := hΦ 19 _ rfl
  obtain ⟨g19, cs19, rfl, hg19, hcg19, hk19, hf19, hn19, ho19⟩ := p19
  have p20 := hΦ 20 _ rfl
  obtain ⟨cs20, rfl, A20, n20, c20, rfl, h20⟩ := p20
  have p21 := hΦ 21 _ rfl
  obtain rfl : v21 = _ := p21
  have p22 := hΦ 22 _ rfl
  obtain rfl : v22 = _ := p22
  have p23 := hΦ 23 _ rfl
  obtain ⟨A23, n23, c23, rfl, h23⟩ := p23
  have p24 := hΦ 24 _ rfl
  obtain ⟨cs24, rfl, A24, n24, c24, rfl, h24⟩ := p24
  have p25 := hΦ 25 _ rfl
  obtain ⟨g25, cs25, rfl, hg25, hcg25, hk25, hf25, hn25, ho25⟩ := p25
  have p26 := hΦ 26 _ rfl
  obtain ⟨cs26, rfl, A26, n26, c26, rfl, h26⟩ := p26
  have p27 := hΦ 27 _ rfl
  obtain ⟨g27, cs27, rfl, hg27, hcg27, hk27, hf27, hn27, ho27⟩ := p27
  have p28 := hΦ 28 _ rfl
  obtain ⟨u28, rfl, g28, cs28, rfl, hg28, hcg28, hk28, hf28, hn28, ho28⟩ := p28
  have p29 := hΦ 29 _ rfl
  obtain ⟨g29, rfl, hg29, hcg29, hk29⟩ := p29
  clear hΦ
  simp only [List.take_succ_cons, List.take_zero, putL, tailW, Act.put, List.setIfInBounds_toArray, List.set_cons_zero, List.set_cons_succ]
  refine wpOp_abs rfl rfl fun K hK => ?_
  refine wp_store_row 81 _ _ rfl g29 #[.string e.title, .slice (some ⟨g28, 0, none⟩) 3 3] rfl rfl _ _ hk29 (by kernel_rfl) rfl (by simp [Value.oneCell']) (hK _ _ ?_)
  clear hK K
  have hst := src_start hbc hg29 hcg29 hk29 (by decide) hg28 hcg28 hk28 hf28 hn28 (by decide) (title := e.title)
  obtain ⟨w2, hw2⟩ : ∃ q, wc.setRow g29 #[.string e.title, .slice (some ⟨g28, 0, none⟩) 3 3] = q := ⟨_, rfl⟩
  rw [hw2] at hst
  rw [hw2]
  obtain ⟨g, hgg⟩ : ∃ q, g29 = q := ⟨_, rfl⟩
  rw [hgg] at hst
  rw [hgg]
  have HST := Lib.hid hst
  have c5 : w2.cell? ⟨w.heap.size, 5, none⟩ = some (.slice AC nC cC) := (HKX.out.keep hst.bel).cell 5
  clear hst hw2 hgg h4 h7 h10 h12 h15 h18 h20 h23 h24 h26 hg11 hcg11 hk11 hf11 hn11 ho11 hg19 hcg19 hk19 hf19 hn19 ho19 hg25 hcg25 hk25 hf25 hn25 ho25 hg27 hcg27 hk27 hf27 hn27 ho27 hg28 hcg28 hk28 hf28 hn28 ho28 hg29 hcg29 hk29 hbc
  go_wp2_with fail
  go_loopw [4, 41] (fun v4 iv wr => ∃ (k : Nat) (A : Option Addr) (n c : Nat), iv = .int .i64 k ∧ k ≤ nC ∧ SrcSt w1 wr g e.title A n c ([(⟨kScan, ⟨#[]⟩, [numF kDots e.dots, numF kBlank e.blank, numF kMarked e.marked], 0⟩ : BlockD), ⟨kScanners, ⟨#[]⟩, [numF kCount e.scan, numF kBatch e.batch], 0⟩, ⟨kPrecincts, ⟨#[]⟩, [(⟨kNames, e.prec, 0⟩ : FieldD)], 0⟩] ++ (e.cont.take k).map contestP) v4 ((e.cont.take k).map (·.name))) (fun _ iv _ => nC - (intOf iv).toNat)
  case atStart => exact ⟨0, _, _, _, rfl, Nat.zero_le _, HST.out⟩
  case round =>
    clear HST c5
    obtain ⟨k, A, n, c, rfl, hk, hst0⟩ := hrel
    have HST0 := Lib.hid hst0
    have hbel0 := hst0.bel
    have HBL0 := Lib.hid hbel0
    have hSw : ∀ b, S b → b < wr.heap.size := fun b h => Nat.lt_of_lt_of_le (HSX.out b h) hbel0.size
    have HRC0 := Lib.hid (HRC.out.below hbel0 HSX.out)
    clear hst0 hbel0
    by_cases hlt : k < nC
    · have hlt2 : (k : Int) < (nC : Int) := by omega
      obtain ⟨ba, o, x, cs, rfl, hSb, hx, hrx, hld⟩ := HRC0.out.load_at hSw hlt
      obtain ⟨AX, nX, cX, rfl, hrf⟩ := hrx
      have hla := hld wr (Below.refl _ _)
      have r0 : wr.cell? ⟨ba, o + k * 9, none⟩ = some (.string x.name) := hla.1 _ rfl
      have r1 : wr.cell? ⟨ba, o + k * 9 + 1, none⟩ = some (.slice AX nX cX) := hla.2 1 _ rfl
      have r2 : wr.cell? ⟨ba, o + k * 9 + 2, none⟩ = some (.int .i64 x.method) := hla.2 2 _ rfl
      have r3 : wr.cell? ⟨ba, o + k * 9 + 3, none⟩ = some (.int .i64 x.seats) := hla.2 3 _ rfl
      have r4 : wr.cell? ⟨ba, o + k * 9 + 4, none⟩ = some (.int .i64 x.ranks) := hla.2 4 _ rfl
      have r5 : wr.cell? ⟨ba, o + k * 9 + 5, none⟩ = some (.int .i64 x.digits) := hla.2 5 _ rfl
      have r6 : wr.cell? ⟨ba, o + k * 9 + 6, none⟩ = some (.int .i64 x.ties) := hla.2 6 _ rfl
      have r7 : wr.cell? ⟨ba, o + k * 9 + 7, none⟩ = some (.int .i64 x.over) := hla.2 7 _ rfl
      have r8 : wr.cell? ⟨ba, o + k * 9 + 8, none⟩ = some (.int .i64 x.skip) := hla.2 8 _ rfl
      have hkc : (k : Int) ≤ (cC : Int) := by have := HRC0.out.cap; omega
      have HXO := Lib.hid (HRG.out.conts x (List.mem_of_getElem? hx))
      have HTK := Lib.hid (take_snoc hx)
      have hb6 : Below wr.heap.size wr (wr.alloc (.cells #[.string x.name, .slice AX nX cX, .int .i64 x.method, .int .i64 x.seats, .int .i64 x.ranks, .int .i64 x.digits, .int .i64 x.ties, .int .i64 x.over, .int .i64 x.skip] 95)) := below_alloc _ _
      have hk6 : Blk (wr.alloc (.cells #[.string x.name, .slice AX nX cX, .int .i64 x.method, .int .i64 x.seats, .int .i64 x.ranks, .int .i64 x.digits, .int .i64 x.ties, .int .i64 x.over, .int .i64 x.skip] 95)) wr.heap.size 95 #[.string x.name, .slice AX nX cX, .int .i64 x.method, .int .i64 x.seats, .int .i64 x.ranks, .int .i64 x.digits, .int .i64 x.ties, .int .i64 x.over, .int .i64 x.skip] := Blk.new _ _ _
      obtain ⟨w6, hw6⟩ : ∃ q, wr.alloc (.cells #[.string x.name, .slice AX nX cX, .int .i64 x.method, .int .i64 x.seats, .int .i64 x.ranks, .int .i64 x.digits, .int .i64 x.ties, .int .i64 x.over, .int .i64 x.skip] 95) = q := ⟨_, rfl⟩
      rw [hw6] at hb6 hk6
      obtain ⟨gb, hgb⟩ : ∃ q, wr.heap.size = q := ⟨_, rfl⟩
      rw [hgb] at hk6
      have HGBE := Lib.hid hgb
      have HBOX := Lib.hid hk6
      have HST6 := Lib.hid (HST0.out.grow hb6)
      have HAP := HST6
      have HGB : Hid (gb ≠ g) := Lib.hid (by have := HST0.out.blk.lt; omega)
      have HNB : Hid ((Value.slice A n c).ownBlock ≠ some gb) := Lib.hid fun e => by have := (HST0.out.own.lt gb e).2; omega
      have HTAB6 := Lib.hid (HTAB.out.up HTB.out HST6.out.bel)
      have HTB6 := Lib.hid (Nat.le_trans HTB.out HST6.out.bel.size)
      have HSX6 : Hid (∀ b, S b → b < w6.heap.size) := Lib.hid fun b h => Nat.lt_of_lt_of_le (HSX.out b h) HST6.out.bel.size
      have HRX6 := Lib.hid (hrf.below hb6 hSw)
      have HLEN : Hid (([(⟨kScan, ⟨#[]⟩, [numF kDots e.dots, numF kBlank e.blank, numF kMarked e.marked], 0⟩ : BlockD), ⟨kScanners, ⟨#[]⟩, [numF kCount e.scan, numF kBatch e.batch], 0⟩, ⟨kPrecincts, ⟨#[]⟩, [(⟨kNames, e.prec, 0⟩ : FieldD)], 0⟩] ++ (e.cont.take k).map contestP).length = 3 + k) := Lib.hid (by simp; rw [HLC.out]; omega)
      have HLN4 : Hid (((e.cont.take k).map (·.name)).length = k) := Lib.hid (by simp; rw [HLC.out]; omega)
      have HW6 := Lib.hid hw6
      clear hla hld hx hrf hb6 hk6 hw6 hgb
      go_upto_region 6 with (fail)
      rw [HW6.out, HGBE.out]
      clear r0 r1 r2 r3 r4 r5 r6 r7 r8
      refine wp_region_grow 5 2 (fun i => match i with
        | 0 => ΦV (.pointer (some ⟨g, 1, none⟩))
        | 1 => ΦV (.slice A n c)
        | 2 => ΦV (.agg #[.string x.name, .slice AX nX cX, .int .i64 x.method, .int .i64 x.seats, .int .i64 x.ranks, .int .i64 x.digits, .int .i64 x.ties, .int .i64 x.over, .int .i64 x.skip])
        | 3 => @ΦS BlockD _ w6 99 (contestP x)
        | 4 => @ΦR BlockD _ w6 99 4 110 ([contestP x]) 1
        | _ => fun _ _ _ => False) (by kernel_rfl) (by kernel_rfl) (by kernel_rfl) (by kernel_rfl) ?_ ?_ ?_
      · intro i v c1 w1 c2 w2 h hb hc
        match i with
        | 0 => exact h
        | 1 => exact h
        | 2 => exact h
        | 3 => exact ΦS.mono h hb hc
        | 4 => exact ΦR.mono h hb hc
        | _ + 5 => exact h
      · intro Q0 i hi a1 col wc hout hbc hcol hdep
        have hWc := hbc.size
        match i, hi with
        | 0, _ =>
          have e3 : a1.tmps[3]? = some (.pointer (some ⟨g, 0, none⟩)) := (hout.2 3 (by kernel_rfl)).trans rfl
          clear hdep
          refine gives_runs rfl rfl (.pointer (some ⟨g, 1, none⟩)) ?_ (Below.refl _ _) rfl
          go_simp
        | 1, _ =>
          obtain ⟨v45, ev, pv45⟩ := hdep 0 (by kernel_rfl)
          have e45 := ev 45 rfl
          clear ev
          obtain rfl : v45 = _ := pv45
          clear hdep
          have ld0 : wc.cell? ⟨g, 1, none⟩ = some (.slice A n c) := (HST6.out.blk.keep hbc).cell 1
          refine gives_runs rfl rfl (.slice A n c) ?_ (Below.refl _ _) rfl
          go_simp
        | 2, _ =>
          have e6 : a1.tmps[6]? = some (.pointer (some ⟨gb, 0, none⟩)) := (hout.2 6 (by kernel_rfl)).trans rfl
          clear hdep
          have ld0 : wc.cell? ⟨gb, 0, none⟩ = some (.string x.name) := (HBOX.out.keep hbc).cell 0
          have ld1 : wc.cell? ⟨gb, 1, none⟩ = some (.slice AX nX cX) := (HBOX.out.keep hbc).cell 1
          have ld2 : wc.cell? ⟨gb, 2, none⟩ = some (.int .i64 x.method) := (HBOX.out.keep hbc).cell 2
          have ld3 : wc.cell? ⟨gb, 3, none⟩ = some (.int .i64 x.seats) := (HBOX.out.keep hbc).cell 3
          have ld4 : wc.cell? ⟨gb, 4, none⟩ = some (.int .i64 x.ranks) := (HBOX.out.keep hbc).cell 4
          have ld5 : wc.cell? ⟨gb, 5, none⟩ = some (.int .i64 x.digits) := (HBOX.out.keep hbc).cell 5
          have ld6 : wc.cell? ⟨gb, 6, none⟩ = some (.int .i64 x.ties) := (HBOX.out.keep hbc).cell 6
          have ld7 : wc.cell? ⟨gb, 7, none⟩ = some (.int .i64 x.over) := (HBOX.out.keep hbc).cell 7
          have ld8 : wc.cell? ⟨gb, 8, none⟩ = some (.int .i64 x.skip) := (HBOX.out.keep hbc).cell 8
          refine gives_runs rfl rfl (.agg #[.string x.name, .slice AX nX cX, .int .i64 x.method, .int .i64 x.seats, .int .i64 x.ranks, .int .i64 x.digits, .int .i64 x.ties, .int .i64 x.over, .int .i64 x.skip]) ?_ (Below.refl _ _) rfl
          go_simp
        | 3, _ =>
          obtain ⟨v47, ev, pv47⟩ := hdep 2 (by kernel_rfl)
          have e47 := ev 47 rfl
          clear ev
          obtain rfl : v47 = _ := pv47
          clear hdep
          refine gives_calls rfl rfl 70 #[.agg #[.string x.name, .slice AX nX cX, .int .i64 x.method, .int .i64 x.seats, .int .i64 x.ranks, .int .i64 x.digits, .int .i64 x.ties, .int .i64 x.over, .int .i64 x.skip]] ?_ (contestF_ok (HTAB6.out.up HTB6.out hbc) (Nat.le_trans HTB6.out hWc) ⟨_, rfl, AX, nX, cX, rfl, HRX6.out.below hbc HSX6.out⟩ (fun b h => Nat.lt_of_lt_of_le (HSX6.out b h) hWc) HXO.out) (fun e w2 hr => ΦS.of_ret hr hWc (by decide))
          go_simp
          try rfl
        | 4, _ =>
          obtain ⟨v48, ev, pv48⟩ := hdep 3 (by kernel_rfl)
          have e48 := ev 48 rfl
          clear ev
          obtain ⟨cs48, rfl, A48, n48, c48, rfl, h48⟩ := pv48
          clear hdep
          have hf : Flat wc (RD w6 99 col wc) [.string (contestP x).kind, .string (contestP x).name, .slice A48 n48 c48, .int .i64 (contestP x).line] ([contestP x]) := Flat.cons (ds := [_, _, _, _]) ⟨A48, n48, c48, rfl, h48⟩ Flat.nil
          refine gives_runs rfl rfl (.slice (some ⟨wc.heap.size, 0, none⟩) 1 1) (w' := wc.alloc (.cells #[.string (contestP x).kind, .string (contestP x).name, .slice A48 n48 c48, .int .i64 (contestP x).line] 110)) ?_ (below_alloc _ _) (ΦR.built (cs := [.string (contestP x).kind, .string (contestP x).name, .slice A48 n48 c48, .int .i64 (contestP x).line]) (t := 110) hf (fun b hb => hcol b hb.1 hb.2.1) rfl (by simp [Value.oneCell']) hWc)
          go_simp
          try rfl
      intro vs0 col wc hl0 hbc hΦ
      obtain ⟨v0, vs1, rfl, hl1⟩ := uncons hl0
      clear hl0
      obtain ⟨v1, vs2, rfl, hl2⟩ := uncons hl1
      clear hl1
      obtain ⟨v2, vs3, rfl, hl3⟩ := uncons hl2
      clear hl2
      obtain ⟨v3, vs4, rfl, hl4⟩ := uncons hl3
      clear hl3
      obtain ⟨v4, vs5, rfl, hl5⟩ := uncons hl4
      clear hl4
      obtain rfl := List.length_eq_zero_iff.1 hl5
      clear hl5
      have p0 := hΦ 0 _ rfl
      obtain rfl : v0 = _ := p0
      have p1 := hΦ 1 _ rfl
      obtain rfl : v1 = _ := p1
      have p2 := hΦ 2 _ rfl
      obtain rfl : v2 = _ := p2
      have p3 := hΦ 3 _ rfl
      obtain ⟨cs3, rfl, A3, n3, c3, rfl, h3⟩ := p3
      have p4 := hΦ 4 _ rfl
      obtain ⟨g4, cs4, rfl, hg4, hcg4, hk4, hf4, hn4, ho4⟩ := p4
      clear hΦ
      simp only [List.take_succ_cons, List.take_zero, putL, tailW, Act.put, List.setIfInBounds_toArray, List.set_cons_zero, List.set_cons_succ]
      have hsg := (HST6.out.grow hbc)
      refine wpOp_abs rfl rfl fun K hK => ?_
      refine wp_append_Own (α := BlockD) _ _ 79 rfl 64 Tryz.blkTy rfl hsg.own ⟨g4, 0, none⟩ 1 1 cs4 [contestP x] rfl (by rfl) (hf4.keep (fun b hb => by have hq := HAP.out.apart_of (b := b) hb.1.1 (Nat.lt_of_lt_of_le (Nat.lt_succ_self _) (by exact hb.1.2.1)); exact hq) (Keeps.refl _ _)) (row_cells hk4) ho4 (by rw [HLEN.out]; simp; omega) (Nat.le_trans hsg.base (Nat.le_refl _)) fun v9 w9 q1 q2 q3 => hK _ _ ?_
      clear hK K
      obtain ⟨A9, n9, c9, rfl, hnq⟩ := q1.slice
      have HQ1 := Lib.hid q1
      have HQ2 := Lib.hid q2
      have HQ3 := Lib.hid q3
      have hkg := hsg.blk.grown q2 (fun e => hsg.ne e.symm)
      have y2 : w9.cell? ⟨g, 1, none⟩ = some (.slice A n c) := hkg.cell 1
      have y3 : w9.frozen? ⟨g, 1, none⟩ = false := hkg.frozen 1
      have HSG := Lib.hid hsg
      have HBC := Lib.hid hbc
      clear q1 q2 q3 hnq hkg hsg hbc hg4 hcg4 hk4 hf4 hn4 ho4
      refine wpOp_runs (w' := w9) rfl rfl (.pointer (some ⟨g, 1, none⟩)) ?_ ?_
      · go_simp
      try simp only [Act.put, List.getElem_toArray, List.getElem_cons_zero, List.getElem_cons_succ, List.setIfInBounds_toArray, List.set_cons_zero, List.set_cons_succ]
      refine wpOp_abs rfl rfl fun K hK => ?_
      go_simp
      refine hK _ _ ?_
      clear hK K
      have hst := HSG.out.next HQ1.out HQ2.out HQ3.out
      obtain ⟨w7, hw2⟩ : ∃ q, w9.setCell ⟨g, 1, none⟩ (.slice A9 n9 c9) = q := ⟨_, rfl⟩
      rw [hw2] at hst
      have hbx := ((HBOX.out.keep HBC.out).grown HQ2.out (fun e => HNB.out e.symm)).far (p := ⟨g, 1, none⟩) HGB.out (.slice A9 n9 c9)
      rw [hw2] at hbx
      rw [hw2]
      have HST7 := Lib.hid hst
      have u0 : w7.cell? ⟨gb, 0, none⟩ = some (.string x.name) := hbx.cell 0
      have HN4 := Lib.hid hst.nms
      have HBE7 := Lib.hid hst.bel
      have hbs7 := hst.base
      clear hst hw2 y2 y3 h3 hbx
      go_wp2_with (at_builtin; refine wpList_append_gen (α := ByteArray) (w0 := w1) (B := w1.heap.size) (base := w1.heap.size) rfl _ _ 22 rfl 16 Tryz.strsTy rfl HN4.out HBE7.out (Nat.le_refl _) hbs7 [.string x.name] x.name 1 rfl rfl 9 (by simp [Value.oneCell']) (by rw [HLN4.out]; omega) ?_; intro v8 w8 hown8 hb8 hg8 hl8; have HST8 := Lib.hid (HST7.out.name hown8 hg8 hl8); clear hown8 hb8 hg8 hl8)
      go_roundw
      case rel => exact ⟨k + 1, _, _, _, by go_num, by omega, by rw [HTK.out, List.map_append, List.map_append, ← List.append_assoc]; exact HST8.out⟩
      case measure => simp [intOf]; omega
    · have hkn : k = nC := by omega
      have hst1 := HST0.out
      rw [List.take_of_length_le (by rw [HLC.out]; omega)] at hst1
      obtain ⟨A4, n4, c4, rfl, hn4⟩ := hst1.nms.slice
      have c6 : wr.cell? ⟨w.heap.size, 6, none⟩ = some (.slice AS nS cS) := (HKX.out.keep HBL0.out).cell 6
      have HST1 := Lib.hid hst1
      clear hst1 hkn hn4 HST0
      go_wp2_with fail
      go_loopw [61] (fun iv wr => ∃ (k : Nat) (A : Option Addr) (n c : Nat), iv = .int .i64 k ∧ k ≤ nS ∧ SrcSt w1 wr g e.title A n c ([(⟨kScan, ⟨#[]⟩, [numF kDots e.dots, numF kBlank e.blank, numF kMarked e.marked], 0⟩ : BlockD), ⟨kScanners, ⟨#[]⟩, [numF kCount e.scan, numF kBatch e.batch], 0⟩, ⟨kPrecincts, ⟨#[]⟩, [(⟨kNames, e.prec, 0⟩ : FieldD)], 0⟩] ++ e.cont.map contestP ++ (e.styl.take k).map (styleP e.prec (e.cont.map (·.name)))) (.slice A4 n4 c4) (e.cont.map (·.name))) (fun iv _ => nS - (intOf iv).toNat)
      case atStart => exact ⟨0, _, _, _, rfl, Nat.zero_le _, by simpa using HST1.out⟩
      case round =>
      clear HST1 c6 HRC0 HBL0 hSw
      obtain ⟨k2, A, n, c, rfl, hk2, hst0⟩ := hrel
      have HST0 := Lib.hid hst0
      have hbel0 := hst0.bel
      have HBL0 := Lib.hid hbel0
      have hSw : ∀ b, S b → b < wr.heap.size := fun b h => Nat.lt_of_lt_of_le (HSX.out b h) hbel0.size
      have HRS0 := Lib.hid (HRS.out.below hbel0 HSX.out)
      have HLEN : Hid (([(⟨kScan, ⟨#[]⟩, [numF kDots e.dots, numF kBlank e.blank, numF kMarked e.marked], 0⟩ : BlockD), ⟨kScanners, ⟨#[]⟩, [numF kCount e.scan, numF kBatch e.batch], 0⟩, ⟨kPrecincts, ⟨#[]⟩, [(⟨kNames, e.prec, 0⟩ : FieldD)], 0⟩] ++ e.cont.map contestP ++ (e.styl.take k2).map (styleP e.prec (e.cont.map (·.name)))).length = 3 + nC + k2) := Lib.hid (by simp; rw [HLC.out, HLS.out]; omega)
      clear hst0 hbel0
      by_cases hlt : k2 < nS
      · have hlt2 : (k2 : Int) < (nS : Int) := by omega
        obtain ⟨ba, o, x, cs, rfl, hSb, hx, hrx, hld⟩ := HRS0.out.load_at hSw hlt
        obtain ⟨Ai, ni, ci, Aj, nj, cj, rfl, hri, hrj⟩ := hrx
        have hla := hld wr (Below.refl _ _)
        have r0 : wr.cell? ⟨ba, o + k2 * 3, none⟩ = some (.string x.name) := hla.1 _ rfl
        have r1 : wr.cell? ⟨ba, o + k2 * 3 + 1, none⟩ = some (.slice Ai ni ci) := hla.2 1 _ rfl
        have r2 : wr.cell? ⟨ba, o + k2 * 3 + 2, none⟩ = some (.slice Aj nj cj) := hla.2 2 _ rfl
        have hkc : (k2 : Int) ≤ (cS : Int) := by have := HRS0.out.cap; omega
        have hxo := HRG.out.styls x (List.mem_of_getElem? hx)
        have HNI : Hid (ni ≤ 1099511627776) := Lib.hid (by rw [← hri.len]; exact Nat.le_trans hxo.1 (by omega))
        have HNJ : Hid (nj ≤ 1099511627776) := Lib.hid (by rw [← hrj.len]; exact Nat.le_trans hxo.2 (by omega))
        have HTK := Lib.hid (take_snoc hx)
        have hb6 : Below wr.heap.size wr (wr.alloc (.cells #[.string x.name, .slice Ai ni ci, .slice Aj nj cj] 97)) := below_alloc _ _
        have hk6 : Blk (wr.alloc (.cells #[.string x.name, .slice Ai ni ci, .slice Aj nj cj] 97)) wr.heap.size 97 #[.string x.name, .slice Ai ni ci, .slice Aj nj cj] := Blk.new _ _ _
        obtain ⟨w6, hw6⟩ : ∃ q, wr.alloc (.cells #[.string x.name, .slice Ai ni ci, .slice Aj nj cj] 97) = q := ⟨_, rfl⟩
        rw [hw6] at hb6 hk6
        obtain ⟨gb, hgb⟩ : ∃ q, wr.heap.size = q := ⟨_, rfl⟩
        rw [hgb] at hk6
        have HGBE := Lib.hid hgb
        have HBOX := Lib.hid hk6
        have HST6 := Lib.hid (HST0.out.grow hb6)
        have HAP := HST6
        have HSX6 : Hid (∀ b, S b → b < w6.heap.size) := Lib.hid fun b h => Nat.lt_of_lt_of_le (HSX.out b h) HST6.out.bel.size
        have HRI := Lib.hid (hri.below hb6 hSw)
        have HRJ := Lib.hid (hrj.below hb6 hSw)
        have HRP6 := Lib.hid (HRP.out.below HST6.out.bel HSX.out)
        have HKX6 := Lib.hid (HKX.out.keep HST6.out.bel)
        have HW6 := Lib.hid hw6
        clear hla hld hx hri hrj hb6 hk6 hw6 hxo hgb
        go_upto_region 12 with (fail)
        rw [HW6.out, HGBE.out]
        clear r0 r1 r2
        refine wp_region_grow 16 2 (fun i => match i with
          | 0 => ΦV (.pointer (some ⟨g, 1, none⟩))
          | 1 => ΦV (.slice A n c)
          | 2 => ΦV (.pointer (some ⟨gb, 0, none⟩))
          | 3 => ΦV (.string x.name)
          | 4 => ΦV (.pointer (some ⟨gb, 1, none⟩))
          | 5 => ΦV (.slice Ai ni ci)
          | 6 => ΦV (.pointer (some ⟨w.heap.size, 4, none⟩))
          | 7 => ΦV (.slice AP nP cP)
          | 8 => @ΦS FieldD _ w6 99 ((⟨kPrecincts, namesP x.prec e.prec, 0⟩ : FieldD))
          | 9 => ΦV (.pointer (some ⟨gb, 2, none⟩))
          | 10 => ΦV (.slice Aj nj cj)
          | 11 => ΦV (.slice A4 n4 c4)
          | 12 => @ΦS FieldD _ w6 99 ((⟨kContests, namesP x.cont (e.cont.map (·.name)), 0⟩ : FieldD))
          | 13 => @ΦR FieldD _ w6 99 13 113 ([(⟨kPrecincts, namesP x.prec e.prec, 0⟩ : FieldD), (⟨kContests, namesP x.cont (e.cont.map (·.name)), 0⟩ : FieldD)]) 2
          | 14 => @ΦS BlockD _ w6 99 ((styleP e.prec (e.cont.map (·.name)) x : BlockD))
          | 15 => @ΦR BlockD _ w6 99 15 110 ([styleP e.prec (e.cont.map (·.name)) x]) 1
          | _ => fun _ _ _ => False) (by kernel_rfl) (by kernel_rfl) (by kernel_rfl) (by kernel_rfl) ?_ ?_ ?_
        · intro i v c1 w1 c2 w2 h hb hc
          match i with
          | 0 => exact h
          | 1 => exact h
          | 2 => exact h
          | 3 => exact h
          | 4 => exact h
          | 5 => exact h
          | 6 => exact h
          | 7 => exact h
          | 8 => exact ΦS.mono h hb hc
          | 9 => exact h
          | 10 => exact h
          | 11 => exact h
          | 12 => exact ΦS.mono h hb hc
          | 13 => exact ΦR.mono h hb hc
          | 14 => exact ΦS.mono h hb hc
          | 15 => exact ΦR.mono h hb hc
          | _ + 16 => exact h
        · intro Q0 i hi a1 col wc hout hbc hcol hdep
          have hWc := hbc.size
          match i, hi with
          | 0, _ =>
            have e3 : a1.tmps[3]? = some (.pointer (some ⟨g, 0, none⟩)) := (hout.2 3 (by kernel_rfl)).trans rfl
            clear hdep
            refine gives_runs rfl rfl (.pointer (some ⟨g, 1, none⟩)) ?_ (Below.refl _ _) rfl
            go_simp
          | 1, _ =>
            obtain ⟨v65, ev, pv65⟩ := hdep 0 (by kernel_rfl)
            have e65 := ev 65 rfl
            clear ev
            obtain rfl : v65 = _ := pv65
            clear hdep
            have ld0 : wc.cell? ⟨g, 1, none⟩ = some (.slice A n c) := (HST6.out.blk.keep hbc).cell 1
            refine gives_runs rfl rfl (.slice A n c) ?_ (Below.refl _ _) rfl
            go_simp
          | 2, _ =>
            have e8 : a1.tmps[8]? = some (.pointer (some ⟨gb, 0, none⟩)) := (hout.2 8 (by kernel_rfl)).trans rfl
            clear hdep
            refine gives_runs rfl rfl (.pointer (some ⟨gb, 0, none⟩)) ?_ (Below.refl _ _) rfl
            go_simp
          | 3, _ =>
            obtain ⟨v67, ev, pv67⟩ := hdep 2 (by kernel_rfl)
            have e67 := ev 67 rfl
            clear ev
            obtain rfl : v67 = _ := pv67
            clear hdep
            have ld0 : wc.cell? ⟨gb, 0, none⟩ = some (.string x.name) := (HBOX.out.keep hbc).cell 0
            refine gives_runs rfl rfl (.string x.name) ?_ (Below.refl _ _) rfl
            go_simp
          | 4, _ =>
            have e8 : a1.tmps[8]? = some (.pointer (some ⟨gb, 0, none⟩)) := (hout.2 8 (by kernel_rfl)).trans rfl
            clear hdep
            refine gives_runs rfl rfl (.pointer (some ⟨gb, 1, none⟩)) ?_ (Below.refl _ _) rfl
            go_simp
          | 5, _ =>
            obtain ⟨v69, ev, pv69⟩ := hdep 4 (by kernel_rfl)
            have e69 := ev 69 rfl
            clear ev
            obtain rfl : v69 = _ := pv69
            clear hdep
            have ld0 : wc.cell? ⟨gb, 1, none⟩ = some (.slice Ai ni ci) := (HBOX.out.keep hbc).cell 1
            refine gives_runs rfl rfl (.slice Ai ni ci) ?_ (Below.refl _ _) rfl
            go_simp
          | 6, _ =>
            have e1 : a1.tmps[1]? = some (.pointer (some ⟨w.heap.size, 0, none⟩)) := (hout.2 1 (by kernel_rfl)).trans rfl
            clear hdep
            refine gives_runs rfl rfl (.pointer (some ⟨w.heap.size, 4, none⟩)) ?_ (Below.refl _ _) rfl
            go_simp
          | 7, _ =>
            obtain ⟨v71, ev, pv71⟩ := hdep 6 (by kernel_rfl)
            have e71 := ev 71 rfl
            clear ev
            obtain rfl : v71 = _ := pv71
            clear hdep
            have ld0 : wc.cell? ⟨w.heap.size, 4, none⟩ = some (.slice AP nP cP) := (HKX6.out.keep hbc).cell 4
            refine gives_runs rfl rfl (.slice AP nP cP) ?_ (Below.refl _ _) rfl
            go_simp
          | 8, _ =>
            obtain ⟨v70, ev, pv70⟩ := hdep 5 (by kernel_rfl)
            have e70 := ev 70 rfl
            clear ev
            obtain rfl : v70 = _ := pv70
            obtain ⟨v72, ev, pv72⟩ := hdep 7 (by kernel_rfl)
            have e72 := ev 72 rfl
            clear ev
            obtain rfl : v72 = _ := pv72
            clear hdep
            refine gives_calls rfl rfl 71 #[.string kPrecincts, .slice Ai ni ci, .slice AP nP cP] ?_ (names_ok kPrecincts (HRI.out.below hbc HSX6.out) (HRP6.out.below hbc HSX6.out) (fun b h => Nat.lt_of_lt_of_le (HSX6.out b h) hWc) (fun b h => Nat.lt_of_lt_of_le (HSX6.out b h) hWc) HNI.out) (fun e w2 hr => ΦS.of_ret hr hWc (by decide))
            go_simp
            try rfl
          | 9, _ =>
            have e8 : a1.tmps[8]? = some (.pointer (some ⟨gb, 0, none⟩)) := (hout.2 8 (by kernel_rfl)).trans rfl
            clear hdep
            refine gives_runs rfl rfl (.pointer (some ⟨gb, 2, none⟩)) ?_ (Below.refl _ _) rfl
            go_simp
          | 10, _ =>
            obtain ⟨v74, ev, pv74⟩ := hdep 9 (by kernel_rfl)
            have e74 := ev 74 rfl
            clear ev
            obtain rfl : v74 = _ := pv74
            clear hdep
            have ld0 : wc.cell? ⟨gb, 2, none⟩ = some (.slice Aj nj cj) := (HBOX.out.keep hbc).cell 2
            refine gives_runs rfl rfl (.slice Aj nj cj) ?_ (Below.refl _ _) rfl
            go_simp
          | 11, _ =>
            have e4 : a1.tmps[4]? = some (.slice A4 n4 c4) := (hout.2 4 (by kernel_rfl)).trans rfl
            clear hdep
            refine gives_runs rfl rfl (.slice A4 n4 c4) ?_ (Below.refl _ _) rfl
            go_simp
          | 12, _ =>
            obtain ⟨v75, ev, pv75⟩ := hdep 10 (by kernel_rfl)
            have e75 := ev 75 rfl
            clear ev
            obtain rfl : v75 = _ := pv75
            obtain ⟨v76, ev, pv76⟩ := hdep 11 (by kernel_rfl)
            have e76 := ev 76 rfl
            clear ev
            obtain rfl : v76 = _ := pv76
            clear hdep
            refine gives_calls rfl rfl 71 #[.string kContests, .slice Aj nj cj, .slice A4 n4 c4] ?_ (names_ok kContests (HRJ.out.below hbc HSX6.out) ((HST6.out.nms.rs (S' := fun b => b < w6.heap.size) (fun _ h => h.elim) (fun _ _ h => h)).below hbc (fun _ h => h)) (fun b h => Nat.lt_of_lt_of_le (HSX6.out b h) hWc) (fun b h => Nat.lt_of_lt_of_le h hWc) HNJ.out) (fun e w2 hr => ΦS.of_ret hr hWc (by decide))
            go_simp
            try rfl
          | 13, _ =>
            obtain ⟨v73, ev, pv73⟩ := hdep 8 (by kernel_rfl)
            have e73 := ev 73 rfl
            clear ev
            obtain ⟨cs73, rfl, A73, n73, c73, rfl, h73⟩ := pv73
            obtain ⟨v77, ev, pv77⟩ := hdep 12 (by kernel_rfl)
            have e77 := ev 77 rfl
            clear ev
            obtain ⟨cs77, rfl, A77, n77, c77, rfl, h77⟩ := pv77
            clear hdep
            have hf : Flat wc (RD w6 99 col wc) [.string kPrecincts, .slice A73 n73 c73, .int .i64 0, .string kContests, .slice A77 n77 c77, .int .i64 0] ([(⟨kPrecincts, namesP x.prec e.prec, 0⟩ : FieldD), (⟨kContests, namesP x.cont (e.cont.map (·.name)), 0⟩ : FieldD)]) := Flat.cons (ds := [_, _, _]) ⟨A73, n73, c73, rfl, h73⟩ (Flat.cons (ds := [_, _, _]) ⟨A77, n77, c77, rfl, h77⟩ (Flat.nil))
            refine gives_runs rfl rfl (.slice (some ⟨wc.heap.size, 0, none⟩) 2 2) (w' := wc.alloc (.cells #[.string kPrecincts, .slice A73 n73 c73, .int .i64 0, .string kContests, .slice A77 n77 c77, .int .i64 0] 113)) ?_ (below_alloc _ _) (ΦR.built (cs := [.string kPrecincts, .slice A73 n73 c73, .int .i64 0, .string kContests, .slice A77 n77 c77, .int .i64 0]) (t := 113) hf (fun b hb => hcol b hb.1 hb.2.1) rfl (by simp [Value.oneCell']) hWc)
            go_simp
            try rfl
          | 14, _ =>
            obtain ⟨v68, ev, pv68⟩ := hdep 3 (by kernel_rfl)
            have e68 := ev 68 rfl
            clear ev
            obtain rfl : v68 = _ := pv68
            obtain ⟨v78, ev, pv78⟩ := hdep 13 (by kernel_rfl)
            have e78 := ev 78 rfl
            clear ev
            have P78 := pv78
            obtain ⟨g78, cs78, rfl, hg78, hcg78, hk78, hf78, hn78, ho78⟩ := pv78
            have h78 := row_rs hg78 hcg78 (show 13 ≠ 99 by decide) hk78 hf78 hn78 (by decide)
            clear hg78 hcg78 hk78 hf78 hn78 ho78
            clear hdep
            refine gives_runs rfl rfl (.agg #[.string kStyle, .string x.name, .slice (some ⟨g78, 0, none⟩) 2 2, .int .i64 0]) ?_ (Below.refl _ _) (ΦS.mono (x := (styleP e.prec (e.cont.map (·.name)) x : BlockD)) (c1 := col) (w1 := wc) (⟨_, rfl, _, _, _, rfl, h78⟩) (Below.refl _ _) fun b hb => colr_old hb)
            go_simp
            try rfl
          | 15, _ =>
            obtain ⟨v79, ev, pv79⟩ := hdep 14 (by kernel_rfl)
            have e79 := ev 79 rfl
            clear ev
            obtain ⟨cs79, rfl, A79, n79, c79, rfl, h79⟩ := pv79
            clear hdep
            have hf : Flat wc (RD w6 99 col wc) [.string kStyle, .string x.name, .slice A79 n79 c79, .int .i64 0] ([styleP e.prec (e.cont.map (·.name)) x]) := Flat.cons (ds := [_, _, _, _]) ⟨A79, n79, c79, rfl, h79⟩ (Flat.nil)
            refine gives_runs rfl rfl (.slice (some ⟨wc.heap.size, 0, none⟩) 1 1) (w' := wc.alloc (.cells #[.string kStyle, .string x.name, .slice A79 n79 c79, .int .i64 0] 110)) ?_ (below_alloc _ _) (ΦR.built (cs := [.string kStyle, .string x.name, .slice A79 n79 c79, .int .i64 0]) (t := 110) hf (fun b hb => hcol b hb.1 hb.2.1) rfl (by simp [Value.oneCell']) hWc)
            go_simp
            try rfl
          | k + 16, hk => exact absurd hk (by omega)
        intro vs0 col wc hl0 hbc hΦ
        obtain ⟨v0, vs1, rfl, hl1⟩ := uncons hl0
        clear hl0
        obtain ⟨v1, vs2, rfl, hl2⟩ := uncons hl1
        clear hl1
        obtain ⟨v2, vs3, rfl, hl3⟩ := uncons hl2
        clear hl2
        obtain ⟨v3, vs4, rfl, hl4⟩ := uncons hl3
        clear hl3
        obtain ⟨v4, vs5, rfl, hl5⟩ := uncons hl4
        clear hl4
        obtain ⟨v5, vs6, rfl, hl6⟩ := uncons hl5
        clear hl5
        obtain ⟨v6, vs7, rfl, hl7⟩ := uncons hl6
        clear hl6
        obtain ⟨v7, vs8, rfl, hl8⟩ := uncons hl7
        clear hl7
        obtain ⟨v8, vs9, rfl, hl9⟩ := uncons hl8
        clear hl8
        obtain ⟨v9, vs10, rfl, hl10⟩ := uncons hl9
        clear hl9
        obtain ⟨v10, vs11, rfl, hl11⟩ := uncons hl10
        clear hl10
        obtain ⟨v11, vs12, rfl, hl12⟩ := uncons hl11
        clear hl11
        obtain ⟨v12, vs13, rfl, hl13⟩ := uncons hl12
        clear hl12
        obtain ⟨v13, vs14, rfl, hl14⟩ := uncons hl13
        clear hl13
        obtain ⟨v14, vs15, rfl, hl15⟩ := uncons hl14
        clear hl14
        obtain ⟨v15, vs16, rfl, hl16⟩ := uncons hl15
        clear hl15
        obtain rfl := List.length_eq_zero_iff.1 hl16
        clear hl16
        have p0 := hΦ 0 _ rfl
        obtain rfl : v0 = _ := p0
        have p1 := hΦ 1 _ rfl
        obtain rfl : v1 = _ := p1
        have p2 := hΦ 2 _ rfl
        obtain rfl : v2 = _ := p2
        have p3 := hΦ 3 _ rfl
        obtain rfl : v3 = _ := p3
        have p4 := hΦ 4 _ rfl
        obtain rfl : v4 = _ := p4
        have p5 := hΦ 5 _ rfl
        obtain rfl : v5 = _ := p5
        have p6 := hΦ 6 _ rfl
        obtain rfl : v6 = _ := p6
        have p7 := hΦ 7 _ rfl
        obtain rfl : v7 = _ := p7
        have p8 := hΦ 8 _ rfl
        obtain ⟨cs8, rfl, A8, n8, c8, rfl, h8⟩ := p8
        have p9 := hΦ 9 _ rfl
        obtain rfl : v9 = _ := p9
        have p10 := hΦ 10 _ rfl
        obtain rfl : v10 = _ := p10
        have p11 := hΦ 11 _ rfl
        obtain rfl : v11 = _ := p11
        have p12 := hΦ 12 _ rfl
        obtain ⟨cs12, rfl, A12, n12, c12, rfl, h12⟩ := p12
        have p13 := hΦ 13 _ rfl
        obtain ⟨g13, cs13, rfl, hg13, hcg13, hk13, hf13, hn13, ho13⟩ := p13
        have p14 := hΦ 14 _ rfl
        obtain ⟨cs14, rfl, A14, n14, c14, rfl, h14⟩ := p14
        have p15 := hΦ 15 _ rfl
        obtain ⟨g15, cs15, rfl, hg15, hcg15, hk15, hf15, hn15, ho15⟩ := p15
        clear hΦ
        simp only [List.take_succ_cons, List.take_zero, putL, tailW, Act.put, List.setIfInBounds_toArray, List.set_cons_zero, List.set_cons_succ]
        have hsg := (HST6.out.grow hbc)
        refine wpOp_abs rfl rfl fun K hK => ?_
        refine wp_append_Own (α := BlockD) _ _ 79 rfl 64 Tryz.blkTy rfl hsg.own ⟨g15, 0, none⟩ 1 1 cs15 [styleP e.prec (e.cont.map (·.name)) x] rfl (by rfl) (hf15.keep (fun b hb => by have hq := HAP.out.apart_of (b := b) hb.1.1 (Nat.lt_of_lt_of_le (Nat.lt_succ_self _) (by exact hb.1.2.1)); exact hq) (Keeps.refl _ _)) (row_cells hk15) ho15 (by rw [HLEN.out]; simp; omega) (Nat.le_trans hsg.base (Nat.le_refl _)) fun v9 w9 q1 q2 q3 => hK _ _ ?_
        clear hK K
        obtain ⟨A9, n9, c9, rfl, hnq⟩ := q1.slice
        have HQ1 := Lib.hid q1
        have HQ2 := Lib.hid q2
        have HQ3 := Lib.hid q3
        have hkg := hsg.blk.grown q2 (fun e => hsg.ne e.symm)
        have y2 : w9.cell? ⟨g, 1, none⟩ = some (.slice A n c) := hkg.cell 1
        have y3 : w9.frozen? ⟨g, 1, none⟩ = false := hkg.frozen 1
        have HSG := Lib.hid hsg
        have HBC := Lib.hid hbc
        clear q1 q2 q3 hnq hkg hsg hbc hg15 hcg15 hk15 hf15 hn15 ho15 hg13 hcg13 hk13 hf13 hn13 ho13
        refine wpOp_runs (w' := w9) rfl rfl (.pointer (some ⟨g, 1, none⟩)) ?_ ?_
        · go_simp
        try simp only [Act.put, List.getElem_toArray, List.getElem_cons_zero, List.getElem_cons_succ, List.setIfInBounds_toArray, List.set_cons_zero, List.set_cons_succ]
        refine wpOp_abs rfl rfl fun K hK => ?_
        go_simp
        refine hK _ _ ?_
        clear hK K
        have hst := HSG.out.next HQ1.out HQ2.out HQ3.out
        obtain ⟨w7, hw2⟩ : ∃ q, w9.setCell ⟨g, 1, none⟩ (.slice A9 n9 c9) = q := ⟨_, rfl⟩
        rw [hw2] at hst
        rw [hw2]
        have HST7 := Lib.hid hst
        clear hst hw2 y2 y3 h8 h12 h14
        go_wp2_with fail
        go_roundw
        case rel => exact ⟨k2 + 1, _, _, _, by go_num, by omega, by rw [HTK.out, List.map_append, ← List.append_assoc]; exact HST7.out⟩
        case measure => simp [intOf]; omega
      have hkn : k2 = nS := by omega
      have hst1 := HST0.out
      rw [List.take_of_length_le (by rw [HLS.out]; omega)] at hst1
      obtain ⟨w6, hw6⟩ : ∃ q, wr = q := ⟨_, rfl⟩
      subst hw6
      have HST6 := Lib.hid hst1
      have HAP := HST6
      have hlen2 := HLEN.out
      rw [List.take_of_length_le (by rw [HLS.out]; omega)] at hlen2
      clear HLEN
      have HLEN := Lib.hid hlen2
      have HSX6 : Hid (∀ b, S b → b < wr.heap.size) := Lib.hid hSw
      have HKX6 := Lib.hid (HKX.out.keep HBL0.out)
      have HRN6 := Lib.hid (HRN.out.below HBL0.out HSX.out)
      have HRD6 := Lib.hid (HRD.out.below HBL0.out HSX.out)
      have HTAB6 := Lib.hid (HTAB.out.up HTB.out HBL0.out)
      have HTB6 := Lib.hid (Nat.le_trans HTB.out HBL0.out.size)
      clear hst1 hlen2 HST0
      go_wp2_with fail
      refine wp_region_grow 17 2 (fun i => match i with
        | 0 => ΦV (.pointer (some ⟨g, 1, none⟩))
        | 1 => ΦV (.slice A n c)
        | 2 => ΦV (.pointer (some ⟨w.heap.size, 9, none⟩))
        | 3 => ΦV (.agg #[.bool e.risk.neg, .slice AN nN cN, .slice AD nD cD])
        | 4 => ΦV (.string ⟨(textQ e.risk.q).toArray⟩)
        | 5 => @ΦS FieldD _ wr 99 ((⟨kRisk, [⟨(textQ e.risk.q).toArray⟩], 0⟩ : FieldD))
        | 6 => ΦV (.pointer (some ⟨w.heap.size, 13, none⟩))
        | 7 => ΦV (.string e.seed)
        | 8 => @ΦS FieldD _ wr 99 ((⟨kSeed, [e.seed], 0⟩ : FieldD))
        | 9 => @ΦR FieldD _ wr 99 9 113 ([(⟨kRisk, [⟨(textQ e.risk.q).toArray⟩], 0⟩ : FieldD), (⟨kSeed, [e.seed], 0⟩ : FieldD)]) 2
        | 10 => @ΦS BlockD _ wr 99 ((⟨kAudit, ⟨#[]⟩, [(⟨kRisk, [⟨(textQ e.risk.q).toArray⟩], 0⟩ : FieldD), (⟨kSeed, [e.seed], 0⟩ : FieldD)], 0⟩ : BlockD))
        | 11 => ΦV (.pointer (some ⟨w.heap.size, 12, none⟩))
        | 12 => ΦV (.int .i64 e.cell)
        | 13 => @ΦS FieldD _ wr 99 (numF kCell e.cell)
        | 14 => @ΦR FieldD _ wr 99 14 113 ([numF kCell e.cell]) 1
        | 15 => @ΦS BlockD _ wr 99 ((⟨kPrivacy, ⟨#[]⟩, [numF kCell e.cell], 0⟩ : BlockD))
        | 16 => @ΦR BlockD _ wr 99 16 110 ([(⟨kAudit, ⟨#[]⟩, [(⟨kRisk, [⟨(textQ e.risk.q).toArray⟩], 0⟩ : FieldD), (⟨kSeed, [e.seed], 0⟩ : FieldD)], 0⟩ : BlockD), (⟨kPrivacy, ⟨#[]⟩, [numF kCell e.cell], 0⟩ : BlockD)]) 2
        | _ => fun _ _ _ => False) (by kernel_rfl) (by kernel_rfl) (by kernel_rfl) (by kernel_rfl) ?_ ?_ ?_
      · intro i v c1 w1 c2 w2 h hb hc
        match i with
        | 0 => exact h
        | 1 => exact h
        | 2 => exact h
        | 3 => exact h
        | 4 => exact h
        | 5 => exact ΦS.mono h hb hc
        | 6 => exact h
        | 7 => exact h
        | 8 => exact ΦS.mono h hb hc
        | 9 => exact ΦR.mono h hb hc
        | 10 => exact ΦS.mono h hb hc
        | 11 => exact h
        | 12 => exact h
        | 13 => exact ΦS.mono h hb hc
        | 14 => exact ΦR.mono h hb hc
        | 15 => exact ΦS.mono h hb hc
        | 16 => exact ΦR.mono h hb hc
        | _ + 17 => exact h
      · intro Q0 i hi a1 col wc hout hbc hcol hdep
        have hWc := hbc.size
        match i, hi with
        | 0, _ =>
          have e3 : a1.tmps[3]? = some (.pointer (some ⟨g, 0, none⟩)) := (hout.2 3 (by kernel_rfl)).trans rfl
          clear hdep
          refine gives_runs rfl rfl (.pointer (some ⟨g, 1, none⟩)) ?_ (Below.refl _ _) rfl
          go_simp
        | 1, _ =>
          obtain ⟨v84, ev, pv84⟩ := hdep 0 (by kernel_rfl)
          have e84 := ev 84 rfl
          clear ev
          obtain rfl : v84 = _ := pv84
          clear hdep
          have ld0 : wc.cell? ⟨g, 1, none⟩ = some (.slice A n c) := (HST6.out.blk.keep hbc).cell 1
          refine gives_runs rfl rfl (.slice A n c) ?_ (Below.refl _ _) rfl
          go_simp
        | 2, _ =>
          have e1 : a1.tmps[1]? = some (.pointer (some ⟨w.heap.size, 0, none⟩)) := (hout.2 1 (by kernel_rfl)).trans rfl
          clear hdep
          refine gives_runs rfl rfl (.pointer (some ⟨w.heap.size, 9, none⟩)) ?_ (Below.refl _ _) rfl
          go_simp
        | 3, _ =>
          obtain ⟨v86, ev, pv86⟩ := hdep 2 (by kernel_rfl)
          have e86 := ev 86 rfl
          clear ev
          obtain rfl : v86 = _ := pv86
          clear hdep
          have ld0 : wc.cell? ⟨w.heap.size, 9, none⟩ = some (.bool e.risk.neg) := (HKX6.out.keep hbc).cell 9
          have ld1 : wc.cell? ⟨w.heap.size, 10, none⟩ = some (.slice AN nN cN) := (HKX6.out.keep hbc).cell 10
          have ld2 : wc.cell? ⟨w.heap.size, 11, none⟩ = some (.slice AD nD cD) := (HKX6.out.keep hbc).cell 11
          refine gives_runs rfl rfl (.agg #[.bool e.risk.neg, .slice AN nN cN, .slice AD nD cD]) ?_ (Below.refl _ _) rfl
          go_simp
        | 4, _ =>
          obtain ⟨v87, ev, pv87⟩ := hdep 3 (by kernel_rfl)
          have e87 := ev 87 rfl
          clear ev
          obtain rfl : v87 = _ := pv87
          clear hdep
          refine gives_calls rfl rfl 73 #[.agg #[.bool e.risk.neg, .slice AN nN cN, .slice AD nD cD]] ?_ (textR_ok ⟨_, rfl, AN, nN, cN, AD, nD, cD, rfl, HRN6.out.below hbc HSX6.out, HRD6.out.below hbc HSX6.out⟩ (fun b h => Nat.lt_of_lt_of_le (HSX6.out b h) hWc) HRG.out.short) (fun e w2 hr => ΦV.of_ret hr)
          go_simp
          try rfl
        | 5, _ =>
          obtain ⟨v88, ev, pv88⟩ := hdep 4 (by kernel_rfl)
          have e88 := ev 88 rfl
          clear ev
          obtain rfl : v88 = _ := pv88
          clear hdep
          refine gives_calls rfl rfl 72 #[.string kRisk, .string ⟨(textQ e.risk.q).toArray⟩] ?_ (textF_ok kRisk _ wc) (fun e w2 hr => ΦS.of_ret hr hWc (by decide))
          go_simp
          try rfl
        | 6, _ =>
          have e1 : a1.tmps[1]? = some (.pointer (some ⟨w.heap.size, 0, none⟩)) := (hout.2 1 (by kernel_rfl)).trans rfl
          clear hdep
          refine gives_runs rfl rfl (.pointer (some ⟨w.heap.size, 13, none⟩)) ?_ (Below.refl _ _) rfl
          go_simp
        | 7, _ =>
          obtain ⟨v90, ev, pv90⟩ := hdep 6 (by kernel_rfl)
          have e90 := ev 90 rfl
          clear ev
          obtain rfl : v90 = _ := pv90
          clear hdep
          have ld0 : wc.cell? ⟨w.heap.size, 13, none⟩ = some (.string e.seed) := (HKX6.out.keep hbc).cell 13
          refine gives_runs rfl rfl (.string e.seed) ?_ (Below.refl _ _) rfl
          go_simp
        | 8, _ =>
          obtain ⟨v91, ev, pv91⟩ := hdep 7 (by kernel_rfl)
          have e91 := ev 91 rfl
          clear ev
          obtain rfl : v91 = _ := pv91
          clear hdep
          refine gives_calls rfl rfl 72 #[.string kSeed, .string e.seed] ?_ (textF_ok kSeed _ wc) (fun e w2 hr => ΦS.of_ret hr hWc (by decide))
          go_simp
          try rfl
        | 9, _ =>
          obtain ⟨v89, ev, pv89⟩ := hdep 5 (by kernel_rfl)
          have e89 := ev 89 rfl
          clear ev
          obtain ⟨cs89, rfl, A89, n89, c89, rfl, h89⟩ := pv89
          obtain ⟨v92, ev, pv92⟩ := hdep 8 (by kernel_rfl)
          have e92 := ev 92 rfl
          clear ev
          obtain ⟨cs92, rfl, A92, n92, c92, rfl, h92⟩ := pv92
          clear hdep
          have hf : Flat wc (RD wr 99 col wc) [.string kRisk, .slice A89 n89 c89, .int .i64 0, .string kSeed, .slice A92 n92 c92, .int .i64 0] ([(⟨kRisk, [⟨(textQ e.risk.q).toArray⟩], 0⟩ : FieldD), (⟨kSeed, [e.seed], 0⟩ : FieldD)]) := Flat.cons (ds := [_, _, _]) ⟨A89, n89, c89, rfl, h89⟩ (Flat.cons (ds := [_, _, _]) ⟨A92, n92, c92, rfl, h92⟩ (Flat.nil))
          refine gives_runs rfl rfl (.slice (some ⟨wc.heap.size, 0, none⟩) 2 2) (w' := wc.alloc (.cells #[.string kRisk, .slice A89 n89 c89, .int .i64 0, .string kSeed, .slice A92 n92 c92, .int .i64 0] 113)) ?_ (below_alloc _ _) (ΦR.built (cs := [.string kRisk, .slice A89 n89 c89, .int .i64 0, .string kSeed, .slice A92 n92 c92, .int .i64 0]) (t := 113) hf (fun b hb => hcol b hb.1 hb.2.1) rfl (by simp [Value.oneCell']) hWc)
          go_simp
          try rfl
        | 10, _ =>
          obtain ⟨v93, ev, pv93⟩ := hdep 9 (by kernel_rfl)
          have e93 := ev 93 rfl
          clear ev
          have P93 := pv93
          obtain ⟨g93, cs93, rfl, hg93, hcg93, hk93, hf93, hn93, ho93⟩ := pv93
          have h93 := row_rs hg93 hcg93 (show 9 ≠ 99 by decide) hk93 hf93 hn93 (by decide)
          clear hg93 hcg93 hk93 hf93 hn93 ho93
          clear hdep
          refine gives_runs rfl rfl (.agg #[.string kAudit, .string ⟨#[]⟩, .slice (some ⟨g93, 0, none⟩) 2 2, .int .i64 0]) ?_ (Below.refl _ _) (ΦS.mono (x := (⟨kAudit, ⟨#[]⟩, [(⟨kRisk, [⟨(textQ e.risk.q).toArray⟩], 0⟩ : FieldD), (⟨kSeed, [e.seed], 0⟩ : FieldD)], 0⟩ : BlockD)) (c1 := col) (w1 := wc) (⟨_, rfl, _, _, _, rfl, h93⟩) (Below.refl _ _) fun b hb => colr_old hb)
          go_simp
          try rfl
        | 11, _ =>
          have e1 : a1.tmps[1]? = some (.pointer (some ⟨w.heap.size, 0, none⟩)) := (hout.2 1 (by kernel_rfl)).trans rfl
          clear hdep
          refine gives_runs rfl rfl (.pointer (some ⟨w.heap.size, 12, none⟩)) ?_ (Below.refl _ _) rfl
          go_simp
        | 12, _ =>
          obtain ⟨v95, ev, pv95⟩ := hdep 11 (by kernel_rfl)
          have e95 := ev 95 rfl
          clear ev
          obtain rfl : v95 = _ := pv95
          clear hdep
          have ld0 : wc.cell? ⟨w.heap.size, 12, none⟩ = some (.int .i64 e.cell) := (HKX6.out.keep hbc).cell 12
          refine gives_runs rfl rfl (.int .i64 e.cell) ?_ (Below.refl _ _) rfl
          go_simp
        | 13, _ =>
          obtain ⟨v96, ev, pv96⟩ := hdep 12 (by kernel_rfl)
          have e96 := ev 96 rfl
          clear ev
          obtain rfl : v96 = _ := pv96
          clear hdep
          refine gives_calls rfl rfl 68 #[.string kCell, .int .i64 e.cell] ?_ (fieldF_ok (HTAB6.out.up HTB6.out hbc) (Nat.le_trans HTB6.out hWc) kCell e.cell HRG.out.cell.1 HRG.out.cell.2) (fun e w2 hr => ΦS.of_ret hr hWc (by decide))
          go_simp
          try rfl
        | 14, _ =>
          obtain ⟨v97, ev, pv97⟩ := hdep 13 (by kernel_rfl)
          have e97 := ev 97 rfl
          clear ev
          obtain ⟨cs97, rfl, A97, n97, c97, rfl, h97⟩ := pv97
          clear hdep
          have hf : Flat wc (RD wr 99 col wc) [.string kCell, .slice A97 n97 c97, .int .i64 0] ([numF kCell e.cell]) := Flat.cons (ds := [_, _, _]) ⟨A97, n97, c97, rfl, h97⟩ (Flat.nil)
          refine gives_runs rfl rfl (.slice (some ⟨wc.heap.size, 0, none⟩) 1 1) (w' := wc.alloc (.cells #[.string kCell, .slice A97 n97 c97, .int .i64 0] 113)) ?_ (below_alloc _ _) (ΦR.built (cs := [.string kCell, .slice A97 n97 c97, .int .i64 0]) (t := 113) hf (fun b hb => hcol b hb.1 hb.2.1) rfl (by simp [Value.oneCell']) hWc)
          go_simp
          try rfl
        | 15, _ =>
          obtain ⟨v98, ev, pv98⟩ := hdep 14 (by kernel_rfl)
          have e98 := ev 98 rfl
          clear ev
          have P98 := pv98
          obtain ⟨g98, cs98, rfl, hg98, hcg98, hk98, hf98, hn98, ho98⟩ := pv98
          have h98 := row_rs hg98 hcg98 (show 14 ≠ 99 by decide) hk98 hf98 hn98 (by decide)
          clear hg98 hcg98 hk98 hf98 hn98 ho98
          clear hdep
          refine gives_runs rfl rfl (.agg #[.string kPrivacy, .string ⟨#[]⟩, .slice (some ⟨g98, 0, none⟩) 1 1, .int .i64 0]) ?_ (Below.refl _ _) (ΦS.mono (x := (⟨kPrivacy, ⟨#[]⟩, [numF kCell e.cell], 0⟩ : BlockD)) (c1 := col) (w1 := wc) (⟨_, rfl, _, _, _, rfl, h98⟩) (Below.refl _ _) fun b hb => colr_old hb)
          go_simp
          try rfl
        | 16, _ =>
          obtain ⟨v94, ev, pv94⟩ := hdep 10 (by kernel_rfl)
          have e94 := ev 94 rfl
          clear ev
          obtain ⟨cs94, rfl, A94, n94, c94, rfl, h94⟩ := pv94
          obtain ⟨v99, ev, pv99⟩ := hdep 15 (by kernel_rfl)
          have e99 := ev 99 rfl
          clear ev
          obtain ⟨cs99, rfl, A99, n99, c99, rfl, h99⟩ := pv99
          clear hdep
          have hf : Flat wc (RD wr 99 col wc) [.string kAudit, .string ⟨#[]⟩, .slice A94 n94 c94, .int .i64 0, .string kPrivacy, .string ⟨#[]⟩, .slice A99 n99 c99, .int .i64 0] ([(⟨kAudit, ⟨#[]⟩, [(⟨kRisk, [⟨(textQ e.risk.q).toArray⟩], 0⟩ : FieldD), (⟨kSeed, [e.seed], 0⟩ : FieldD)], 0⟩ : BlockD), (⟨kPrivacy, ⟨#[]⟩, [numF kCell e.cell], 0⟩ : BlockD)]) := Flat.cons (ds := [_, _, _, _]) ⟨A94, n94, c94, rfl, h94⟩ (Flat.cons (ds := [_, _, _, _]) ⟨A99, n99, c99, rfl, h99⟩ (Flat.nil))
          refine gives_runs rfl rfl (.slice (some ⟨wc.heap.size, 0, none⟩) 2 2) (w' := wc.alloc (.cells #[.string kAudit, .string ⟨#[]⟩, .slice A94 n94 c94, .int .i64 0, .string kPrivacy, .string ⟨#[]⟩, .slice A99 n99 c99, .int .i64 0] 110)) ?_ (below_alloc _ _) (ΦR.built (cs := [.string kAudit, .string ⟨#[]⟩, .slice A94 n94 c94, .int .i64 0, .string kPrivacy, .string ⟨#[]⟩, .slice A99 n99 c99, .int .i64 0]) (t := 110) hf (fun b hb => hcol b hb.1 hb.2.1) rfl (by simp [Value.oneCell']) hWc)
          go_simp
          try rfl
        | k + 17, hk => exact absurd hk (by omega)
      intro vs0 col wc hl0 hbc hΦ
      obtain ⟨v0, vs1, rfl, hl1⟩ := uncons hl0
      clear hl0
      obtain ⟨v1, vs2, rfl, hl2⟩ := uncons hl1
      clear hl1
      obtain ⟨v2, vs3, rfl, hl3⟩ := uncons hl2
      clear hl2
      obtain ⟨v3, vs4, rfl, hl4⟩ := uncons hl3
      clear hl3
      obtain ⟨v4, vs5, rfl, hl5⟩ := uncons hl4
      clear hl4
      obtain ⟨v5, vs6, rfl, hl6⟩ := uncons hl5
      clear hl5
      obtain ⟨v6, vs7, rfl, hl7⟩ := uncons hl6
      clear hl6
      obtain ⟨v7, vs8, rfl, hl8⟩ := uncons hl7
      clear hl7
      obtain ⟨v8, vs9, rfl, hl9⟩ := uncons hl8
      clear hl8
      obtain ⟨v9, vs10, rfl, hl10⟩ := uncons hl9
      clear hl9
      obtain ⟨v10, vs11, rfl, hl11⟩ := uncons hl10
      clear hl10
      obtain ⟨v11, vs12, rfl, hl12⟩ := uncons hl11
      clear hl11
      obtain ⟨v12, vs13, rfl, hl13⟩ := uncons hl12
      clear hl12
      obtain ⟨v13, vs14, rfl, hl14⟩ := uncons hl13
      clear hl13
      obtain ⟨v14, vs15, rfl, hl15⟩ := uncons hl14
      clear hl14
      obtain ⟨v15, vs16, rfl, hl16⟩ := uncons hl15
      clear hl15
      obtain ⟨v16, vs17, rfl, hl17⟩ := uncons hl16
      clear hl16
      obtain rfl := List.length_eq_zero_iff.1 hl17
      clear hl17
      have p0 := hΦ 0 _ rfl
      obtain rfl : v0 = _ := p0
      have p1 := hΦ 1 _ rfl
      obtain rfl : v1 = _ := p1
      have p2 := hΦ 2 _ rfl
      obtain rfl : v2 = _ := p2
      have p3 := hΦ 3 _ rfl
      obtain rfl : v3 = _ := p3
      have p4 := hΦ 4 _ rfl
      obtain rfl : v4 = _ := p4
      have p5 := hΦ 5 _ rfl
      obtain ⟨cs5, rfl, A5, n5, c5, rfl, h5⟩ := p5
      have p6 := hΦ 6 _ rfl
      obtain rfl : v6 = _ := p6
      have p7 := hΦ 7 _ rfl
      obtain rfl : v7 = _ := p7
      have p8 := hΦ 8 _ rfl
      obtain ⟨cs8, rfl, A8, n8, c8, rfl, h8⟩ := p8
      have p9 := hΦ 9 _ rfl
      obtain ⟨g9, cs9, rfl, hg9, hcg9, hk9, hf9, hn9, ho9⟩ := p9
      have p10 := hΦ 10 _ rfl
      obtain ⟨cs10, rfl, A10, n10, c10, rfl, h10⟩ := p10
      have p11 := hΦ 11 _ rfl
      obtain rfl : v11 = _ := p11
      have p12 := hΦ 12 _ rfl
      obtain rfl : v12 = _ := p12
      have p13 := hΦ 13 _ rfl
      obtain ⟨cs13, rfl, A13, n13, c13, rfl, h13⟩ := p13
      have p14 := hΦ 14 _ rfl
      obtain ⟨g14, cs14, rfl, hg14, hcg14, hk14, hf14, hn14, ho14⟩ := p14
      have p15 := hΦ 15 _ rfl
      obtain ⟨cs15, rfl, A15, n15, c15, rfl, h15⟩ := p15
      have p16 := hΦ 16 _ rfl
      obtain ⟨g16, cs16, rfl, hg16, hcg16, hk16, hf16, hn16, ho16⟩ := p16
      clear hΦ
      simp only [List.take_succ_cons, List.take_zero, putL, tailW, Act.put, List.setIfInBounds_toArray, List.set_cons_zero, List.set_cons_succ]
      have hsg := (HST6.out.grow hbc)
      refine wpOp_abs rfl rfl fun K hK => ?_
      refine wp_append_Own (α := BlockD) _ _ 79 rfl 64 Tryz.blkTy rfl hsg.own ⟨g16, 0, none⟩ 2 2 cs16 [(⟨kAudit, ⟨#[]⟩, [(⟨kRisk, [⟨(textQ e.risk.q).toArray⟩], 0⟩ : FieldD), (⟨kSeed, [e.seed], 0⟩ : FieldD)], 0⟩ : BlockD), (⟨kPrivacy, ⟨#[]⟩, [numF kCell e.cell], 0⟩ : BlockD)] rfl (by rfl) (hf16.keep (fun b hb => by have hq := HAP.out.apart_of (b := b) hb.1.1 (Nat.lt_of_lt_of_le (Nat.lt_succ_self _) (by exact hb.1.2.1)); exact hq) (Keeps.refl _ _)) (row_cells hk16) ho16 (by rw [HLEN.out]; simp; omega) (Nat.le_trans hsg.base (Nat.le_refl _)) fun v9 w9 q1 q2 q3 => hK _ _ ?_
      clear hK K
      obtain ⟨A9, n9, c9, rfl, hnq⟩ := q1.slice
      have HQ1 := Lib.hid q1
      have HQ2 := Lib.hid q2
      have HQ3 := Lib.hid q3
      have hkg := hsg.blk.grown q2 (fun e => hsg.ne e.symm)
      have y2 : w9.cell? ⟨g, 1, none⟩ = some (.slice A n c) := hkg.cell 1
      have y3 : w9.frozen? ⟨g, 1, none⟩ = false := hkg.frozen 1
      have HSG := Lib.hid hsg
      have HBC := Lib.hid hbc
      clear q1 q2 q3 hnq hkg hsg hbc hg16 hcg16 hk16 hf16 hn16 ho16 hg9 hcg9 hk9 hf9 hn9 ho9 hg14 hcg14 hk14 hf14 hn14 ho14
      refine wpOp_runs (w' := w9) rfl rfl (.pointer (some ⟨g, 1, none⟩)) ?_ ?_
      · go_simp
      try simp only [Act.put, List.getElem_toArray, List.getElem_cons_zero, List.getElem_cons_succ, List.setIfInBounds_toArray, List.set_cons_zero, List.set_cons_succ]
      refine wpOp_abs rfl rfl fun K hK => ?_
      go_simp
      refine hK _ _ ?_
      clear hK K
      have hst := HSG.out.next HQ1.out HQ2.out HQ3.out
      obtain ⟨w7, hw2⟩ : ∃ q, w9.setCell ⟨g, 1, none⟩ (.slice A9 n9 c9) = q := ⟨_, rfl⟩
      rw [hw2] at hst
      rw [hw2]
      have hkr4 := HKR.out.keep hst.bel
      have d0 : w7.cell? ⟨g, 0, none⟩ = some (.string e.title) := hst.blk.cell 0
      have d1 : w7.cell? ⟨g, 1, none⟩ = some (.slice A9 n9 c9) := hst.blk.cell 1
      have z0 : w7.cell? ⟨w.heap.size + 1, 0, none⟩ = some (.string ⟨#[]⟩) := hkr4.cell 0
      have z1 : w7.cell? ⟨w.heap.size + 1, 1, none⟩ = some (.slice none 0 0) := hkr4.cell 1
      have zf0 : w7.frozen? ⟨w.heap.size + 1, 0, none⟩ = false := hkr4.frozen 0
      have zf1 : w7.frozen? ⟨w.heap.size + 1, 1, none⟩ = false := hkr4.frozen 1
      have HST7 := Lib.hid hst
      have HKR7 := Lib.hid hkr4
      have HBX := Lib.hid (HB1.out.trans (hst.bel.mono HB1.out.size))
      clear hst hw2 y2 y3 hkr4 h5 h8 h10 h13 h15
      go_wp2_with fail
      refine ret_struct (x := sourceP e) (S := fun b => w1.heap.size ≤ b ∧ b < w7.heap.size) (cs := [.string e.title, .slice A9 n9 c9]) rfl rfl (Nat.le_succ _) HKR7.out rfl Tryz.underlying81 rfl (by kernel_rfl) ⟨_, _, _, rfl, ?_⟩ (fun b hb => ⟨⟨Nat.le_trans HB1.out.size hb.1, hb.2⟩, by have := HS1.out; have := hb.1; omega⟩) HBX.out rfl id
      exact HST7.out.rs
end Go.Proofs.YtjlhbfbdcfajfaaGreatDoor
