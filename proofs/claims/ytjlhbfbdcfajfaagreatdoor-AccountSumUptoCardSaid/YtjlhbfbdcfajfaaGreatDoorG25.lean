/- Src4 -/
import Derived.Test.YtjlhbfbdcfajfaaGreatDoorG24
/- schema, the way back: contest. PRINTED by wip/gen/src4.py -/
namespace Go.Proofs.YtjlhbfbdcfajfaaGreatDoor
open Go.RowKit

set_option maxRecDepth 20000 in
set_option maxHeartbeats 8000000 in
theorem contestF_ok {B : Nat} {w : World} (htab : Tab B w) (hB : B ≤ w.heap.size) {S : Nat → Prop} {v : Value} {x : ContestD} (h : SV w S v x) (hS : ∀ b, S b → b < w.heap.size) (hok : ContOk x) :
    Calls Tryz.prog 70 #[v] w (RetSV w (contestP x)) := by
  obtain ⟨cs, rfl, AX, nX, cX, rfl, hrx⟩ := h
  have hb1 : Below w.heap.size w ((w.alloc (.cells #[.string x.name, .slice AX nX cX, .int .i64 x.method, .int .i64 x.seats, .int .i64 x.ranks, .int .i64 x.digits, .int .i64 x.ties, .int .i64 x.over, .int .i64 x.skip] 95)).alloc (.cells #[.string ⟨#[]⟩, .string ⟨#[]⟩, .slice none 0 0, .int .i64 0] 110)) := ((Below.refl _ _).alloc (Nat.le_refl _) _).alloc (by simp) _
  have hkx : Blk ((w.alloc (.cells #[.string x.name, .slice AX nX cX, .int .i64 x.method, .int .i64 x.seats, .int .i64 x.ranks, .int .i64 x.digits, .int .i64 x.ties, .int .i64 x.over, .int .i64 x.skip] 95)).alloc (.cells #[.string ⟨#[]⟩, .string ⟨#[]⟩, .slice none 0 0, .int .i64 0] 110)) w.heap.size 95 #[.string x.name, .slice AX nX cX, .int .i64 x.method, .int .i64 x.seats, .int .i64 x.ranks, .int .i64 x.digits, .int .i64 x.ties, .int .i64 x.over, .int .i64 x.skip] := (Blk.new _ _ _).alloc _
  have hkr : Blk ((w.alloc (.cells #[.string x.name, .slice AX nX cX, .int .i64 x.method, .int .i64 x.seats, .int .i64 x.ranks, .int .i64 x.digits, .int .i64 x.ties, .int .i64 x.over, .int .i64 x.skip] 95)).alloc (.cells #[.string ⟨#[]⟩, .string ⟨#[]⟩, .slice none 0 0, .int .i64 0] 110)) (w.heap.size + 1) 110 #[.string ⟨#[]⟩, .string ⟨#[]⟩, .slice none 0 0, .int .i64 0] := Blk.new' (by simp) _ _
  have hs1 : ((w.alloc (.cells #[.string x.name, .slice AX nX cX, .int .i64 x.method, .int .i64 x.seats, .int .i64 x.ranks, .int .i64 x.digits, .int .i64 x.ties, .int .i64 x.over, .int .i64 x.skip] 95)).alloc (.cells #[.string ⟨#[]⟩, .string ⟨#[]⟩, .slice none 0 0, .int .i64 0] 110)).heap.size = w.heap.size + 2 := by simp
  obtain ⟨w1, hw1⟩ : ∃ q, (w.alloc (.cells #[.string x.name, .slice AX nX cX, .int .i64 x.method, .int .i64 x.seats, .int .i64 x.ranks, .int .i64 x.digits, .int .i64 x.ties, .int .i64 x.over, .int .i64 x.skip] 95)).alloc (.cells #[.string ⟨#[]⟩, .string ⟨#[]⟩, .slice none 0 0, .int .i64 0] 110) = q := ⟨_, rfl⟩
  rw [hw1] at hb1 hkx hkr hs1
  have HW1 := Lib.hid hw1
  have HB1 := Lib.hid hb1
  have HS1 := Lib.hid hs1
  have HKX := Lib.hid hkx
  have HKR := Lib.hid hkr
  have HTAB := Lib.hid (htab.up hB hb1)
  have HTB := Lib.hid (Nat.le_trans hB hb1.size)
  have HRG := Lib.hid hok
  have HRX := Lib.hid (hrx.below hb1 hS)
  have HSX : Hid (∀ b, S b → b < w1.heap.size) := Lib.hid fun b h => Nat.lt_of_lt_of_le (hS b h) hb1.size
  have HNX : Hid (nX ≤ 1099511627776) := Lib.hid (by rw [← hrx.len]; exact Nat.le_trans hok.2.2.2.2.2.2.2 (by omega))
  clear hw1 hb1 hkx hkr htab hok hrx hs1
  go_enter Tryz.func70, Tryz.ntmps70
  go_upto_region 1 with (fail)
  rw [HW1.out]
  refine wp_region_grow 15 0 (fun i => match i with
    | 0 => ΦV (.pointer (some ⟨w.heap.size, 0, none⟩))
    | 1 => ΦV (.string x.name)
    | 2 => ΦV (.pointer (some ⟨w.heap.size, 2, none⟩))
    | 3 => ΦV (.int .i64 x.method)
    | 4 => ΦV (.string (choiceP kMethod x.method))
    | 5 => @ΦS FieldD _ w1 14 (choF kMethod x.method)
    | 6 => ΦV (.pointer (some ⟨w.heap.size, 3, none⟩))
    | 7 => ΦV (.int .i64 x.seats)
    | 8 => @ΦS FieldD _ w1 14 (numF kSeats x.seats)
    | 9 => ΦV (.pointer (some ⟨w.heap.size, 4, none⟩))
    | 10 => ΦV (.int .i64 x.ranks)
    | 11 => @ΦS FieldD _ w1 14 (numF kRanks x.ranks)
    | 12 => @ΦR FieldD _ w1 14 12 113 ([choF kMethod x.method, numF kSeats x.seats, numF kRanks x.ranks]) 3
    | 13 => (fun v col w => ∃ u, v = .agg #[.string kContest, .string x.name, u, .int .i64 0] ∧ ΦR w1 14 12 113 [choF kMethod x.method, numF kSeats x.seats, numF kRanks x.ranks] 3 u col w)
    | 14 => ΦB w1 14 110 #[.string ⟨#[]⟩, .string ⟨#[]⟩, .slice none 0 0, .int .i64 0]
    | _ => fun _ _ _ => False) (by kernel_rfl) (by kernel_rfl) (by kernel_rfl) (by kernel_rfl) ?_ ?_ ?_
  · intro i v c1 w1 c2 w2 h hb hc
    match i with
    | 0 => exact h
    | 1 => exact h
    | 2 => exact h
    | 3 => exact h
    | 4 => exact h
    | 5 => exact ΦS.mono h hb hc
    | 6 => exact h
    | 7 => exact h
    | 8 => exact ΦS.mono h hb hc
    | 9 => exact h
    | 10 => exact h
    | 11 => exact ΦS.mono h hb hc
    | 12 => exact ΦR.mono h hb hc
    | 13 => obtain ⟨u, e, hu⟩ := h; exact ⟨u, e, ΦR.mono hu hb hc⟩
    | 14 => exact ΦB.mono h hb hc
    | _ + 15 => exact h
  · intro Q0 i hi a1 col wc hout hbc hcol hdep
    have hWc := hbc.size
    match i, hi with
    | 0, _ =>
      have e1 : a1.tmps[1]? = some (.pointer (some ⟨w.heap.size, 0, none⟩)) := (hout.2 1 (by kernel_rfl)).trans rfl
      clear hdep
      refine gives_runs rfl rfl (.pointer (some ⟨w.heap.size, 0, none⟩)) ?_ (Below.refl _ _) rfl
      go_simp
    | 1, _ =>
      obtain ⟨v4, ev, pv4⟩ := hdep 0 (by kernel_rfl)
      have e4 := ev 4 rfl
      clear ev
      obtain rfl : v4 = _ := pv4
      clear hdep
      have ld0 : wc.cell? ⟨w.heap.size, 0, none⟩ = some (.string x.name) := (HKX.out.keep hbc).cell 0
      refine gives_runs rfl rfl (.string x.name) ?_ (Below.refl _ _) rfl
      go_simp
    | 2, _ =>
      have e1 : a1.tmps[1]? = some (.pointer (some ⟨w.heap.size, 0, none⟩)) := (hout.2 1 (by kernel_rfl)).trans rfl
      clear hdep
      refine gives_runs rfl rfl (.pointer (some ⟨w.heap.size, 2, none⟩)) ?_ (Below.refl _ _) rfl
      go_simp
    | 3, _ =>
      obtain ⟨v6, ev, pv6⟩ := hdep 2 (by kernel_rfl)
      have e6 := ev 6 rfl
      clear ev
      obtain rfl : v6 = _ := pv6
      clear hdep
      have ld0 : wc.cell? ⟨w.heap.size, 2, none⟩ = some (.int .i64 x.method) := (HKX.out.keep hbc).cell 2
      refine gives_runs rfl rfl (.int .i64 x.method) ?_ (Below.refl _ _) rfl
      go_simp
    | 4, _ =>
      obtain ⟨v7, ev, pv7⟩ := hdep 3 (by kernel_rfl)
      have e7 := ev 7 rfl
      clear ev
      obtain rfl : v7 = _ := pv7
      clear hdep
      refine gives_calls rfl rfl 103 #[.string kMethod, .int .i64 x.method] ?_ (choice_ok kMethod x.method wc HRG.out.1.2) (fun e w2 hr => ΦV.of_ret hr)
      go_simp
      try rfl
    | 5, _ =>
      obtain ⟨v8, ev, pv8⟩ := hdep 4 (by kernel_rfl)
      have e8 := ev 8 rfl
      clear ev
      obtain rfl : v8 = _ := pv8
      clear hdep
      refine gives_calls rfl rfl 72 #[.string kMethod, .string (choiceP kMethod x.method)] ?_ (textF_ok kMethod _ wc) (fun e w2 hr => ΦS.of_ret hr hWc (by decide))
      go_simp
      try rfl
    | 6, _ =>
      have e1 : a1.tmps[1]? = some (.pointer (some ⟨w.heap.size, 0, none⟩)) := (hout.2 1 (by kernel_rfl)).trans rfl
      clear hdep
      refine gives_runs rfl rfl (.pointer (some ⟨w.heap.size, 3, none⟩)) ?_ (Below.refl _ _) rfl
      go_simp
    | 7, _ =>
      obtain ⟨v10, ev, pv10⟩ := hdep 6 (by kernel_rfl)
      have e10 := ev 10 rfl
      clear ev
      obtain rfl : v10 = _ := pv10
      clear hdep
      have ld0 : wc.cell? ⟨w.heap.size, 3, none⟩ = some (.int .i64 x.seats) := (HKX.out.keep hbc).cell 3
      refine gives_runs rfl rfl (.int .i64 x.seats) ?_ (Below.refl _ _) rfl
      go_simp
    | 8, _ =>
      obtain ⟨v11, ev, pv11⟩ := hdep 7 (by kernel_rfl)
      have e11 := ev 11 rfl
      clear ev
      obtain rfl : v11 = _ := pv11
      clear hdep
      refine gives_calls rfl rfl 68 #[.string kSeats, .int .i64 x.seats] ?_ (fieldF_ok (HTAB.out.up HTB.out hbc) (Nat.le_trans HTB.out hWc) kSeats x.seats HRG.out.2.1.1 HRG.out.2.1.2) (fun e w2 hr => ΦS.of_ret hr hWc (by decide))
      go_simp
      try rfl
    | 9, _ =>
      have e1 : a1.tmps[1]? = some (.pointer (some ⟨w.heap.size, 0, none⟩)) := (hout.2 1 (by kernel_rfl)).trans rfl
      clear hdep
      refine gives_runs rfl rfl (.pointer (some ⟨w.heap.size, 4, none⟩)) ?_ (Below.refl _ _) rfl
      go_simp
    | 10, _ =>
      obtain ⟨v13, ev, pv13⟩ := hdep 9 (by kernel_rfl)
      have e13 := ev 13 rfl
      clear ev
      obtain rfl : v13 = _ := pv13
      clear hdep
      have ld0 : wc.cell? ⟨w.heap.size, 4, none⟩ = some (.int .i64 x.ranks) := (HKX.out.keep hbc).cell 4
      refine gives_runs rfl rfl (.int .i64 x.ranks) ?_ (Below.refl _ _) rfl
      go_simp
    | 11, _ =>
      obtain ⟨v14, ev, pv14⟩ := hdep 10 (by kernel_rfl)
      have e14 := ev 14 rfl
      clear ev
      obtain rfl : v14 = _ := pv14
      clear hdep
      refine gives_calls rfl rfl 68 #[.string kRanks, .int .i64 x.ranks] ?_ (fieldF_ok (HTAB.out.up HTB.out hbc) (Nat.le_trans HTB.out hWc) kRanks x.ranks HRG.out.2.2.1.1 HRG.out.2.2.1.2) (fun e w2 hr => ΦS.of_ret hr hWc (by decide))
      go_simp
      try rfl
    | 12, _ =>
      obtain ⟨v9, ev, pv9⟩ := hdep 5 (by kernel_rfl)
      have e9 := ev 9 rfl
      clear ev
      obtain ⟨cs9, rfl, A9, n9, c9, rfl, h9⟩ := pv9
      obtain ⟨v12, ev, pv12⟩ := hdep 8 (by kernel_rfl)
      have e12 := ev 12 rfl
      clear ev
      obtain ⟨cs12, rfl, A12, n12, c12, rfl, h12⟩ := pv12
      obtain ⟨v15, ev, pv15⟩ := hdep 11 (by kernel_rfl)
      have e15 := ev 15 rfl
      clear ev
      obtain ⟨cs15, rfl, A15, n15, c15, rfl, h15⟩ := pv15
      clear hdep
      have hf : Flat wc (RD w1 14 col wc) [.string kMethod, .slice A9 n9 c9, .int .i64 0, .string kSeats, .slice A12 n12 c12, .int .i64 0, .string kRanks, .slice A15 n15 c15, .int .i64 0] ([choF kMethod x.method, numF kSeats x.seats, numF kRanks x.ranks]) := Flat.cons (ds := [_, _, _]) ⟨A9, n9, c9, rfl, h9⟩ (Flat.cons (ds := [_, _, _]) ⟨A12, n12, c12, rfl, h12⟩ (Flat.cons (ds := [_, _, _]) ⟨A15, n15, c15, rfl, h15⟩ (Flat.nil)))
      refine gives_runs rfl rfl (.slice (some ⟨wc.heap.size, 0, none⟩) 3 3) (w' := wc.alloc (.cells #[.string kMethod, .slice A9 n9 c9, .int .i64 0, .string kSeats, .slice A12 n12 c12, .int .i64 0, .string kRanks, .slice A15 n15 c15, .int .i64 0] 113)) ?_ (below_alloc _ _) (ΦR.built (cs := [.string kMethod, .slice A9 n9 c9, .int .i64 0, .string kSeats, .slice A12 n12 c12, .int .i64 0, .string kRanks, .slice A15 n15 c15, .int .i64 0]) (t := 113) hf (fun b hb => hcol b hb.1 hb.2.1) rfl (by simp [Value.oneCell']) hWc)
      go_simp
      try rfl
    | 13, _ =>
      obtain ⟨v5, ev, pv5⟩ := hdep 1 (by kernel_rfl)
      have e5 := ev 5 rfl
      clear ev
      obtain rfl : v5 = _ := pv5
      obtain ⟨v16, ev, pv16⟩ := hdep 12 (by kernel_rfl)
      have e16 := ev 16 rfl
      clear ev
      have P16 := pv16
      obtain ⟨g16, cs16, rfl, hg16, hcg16, hk16, hf16, hn16, ho16⟩ := pv16
      have h16 := row_rs hg16 hcg16 (show 12 ≠ 14 by decide) hk16 hf16 hn16 (by decide)
      clear hdep
      refine gives_runs rfl rfl (.agg #[.string kContest, .string x.name, .slice (some ⟨g16, 0, none⟩) 3 3, .int .i64 0]) ?_ (Below.refl _ _) ⟨_, rfl, ΦR.mono P16 (Below.refl _ _) fun b hb => colr_old hb⟩
      go_simp
      try rfl
    | 14, _ =>
      clear hdep
      refine gives_runs rfl rfl (.pointer (some ⟨wc.heap.size, 0, none⟩)) (w' := wc.alloc (.cells #[.string ⟨#[]⟩, .string ⟨#[]⟩, .slice none 0 0, .int .i64 0] 110)) ?_ (below_alloc _ _) (ΦB.made hWc)
      go_simp
      try rfl
    | k + 15, hk => exact absurd hk (by omega)
  intro vs0 col wc hl0 hbc hΦ
  obtain ⟨v0, vs1, rfl, hl1⟩ := uncons hl0
  clear hl0
  obtain ⟨v1, vs2, rfl, hl2⟩ := uncons hl1
  clear hl1
  obtain ⟨v2, vs3, rfl, hl3⟩ := uncons hl2
  clear hl2
  obtain ⟨v3, vs4, rfl, hl4⟩ := uncons hl3
  clear hl3
  obtain ⟨v4, vs5, rfl, hl5⟩ := uncons hl4
  clear hl4
  obtain ⟨v5, vs6, rfl, hl6⟩ := uncons hl5
  clear hl5
  obtain ⟨v6, vs7, rfl, hl7⟩ := uncons hl6
  clear hl6
  obtain ⟨v7, vs8, rfl, hl8⟩ := uncons hl7
  clear hl7
  obtain ⟨v8, vs9, rfl, hl9⟩ := uncons hl8
  clear hl8
  obtain ⟨v9, vs10, rfl, hl10⟩ := uncons hl9
  clear hl9
  obtain ⟨v10, vs11, rfl, hl11⟩ := uncons hl10
  clear hl10
  obtain ⟨v11, vs12, rfl, hl12⟩ := uncons hl11
  clear hl11
  obtain ⟨v12, vs13, rfl, hl13⟩ := uncons hl12
  clear hl12
  obtain ⟨v13, vs14, rfl, hl14⟩ := uncons hl13
  clear hl13
  obtain ⟨v14, vs15, rfl, hl15⟩ := uncons hl14
  clear hl14
  obtain rfl := List.length_eq_zero_iff.1 hl15
  clear hl15
  have p0 := hΦ 0 _ rfl
  obtain rfl : v0 = _ := p0
  have p1 := hΦ 1 _ rfl
  obtain rfl : v1 = _ := p1
  have p2 := hΦ 2 _ rfl
  obtain rfl : v2 = _ := p2
  have p3 := hΦ 3 _ rfl
  obtain rfl : v3 = _ := p3
  have p4 := hΦ 4 _ rfl
  obtain rfl : v4 = _ := p4
  have p5 := hΦ 5 _ rfl
  obtain ⟨cs5, rfl, A5, n5, c5, rfl, h5⟩ := p5
  have p6 := hΦ 6 _ rfl
  obtain rfl : v6 = _ := p6
  have p7 := hΦ 7 _ rfl
  obtain rfl : v7 = _ := p7
  have p8 := hΦ 8 _ rfl
  obtain ⟨cs8, rfl, A8, n8, c8, rfl, h8⟩ := p8
  have p9 := hΦ 9 _ rfl
  obtain rfl : v9 = _ := p9
  have p10 := hΦ 10 _ rfl
  obtain rfl : v10 = _ := p10
  have p11 := hΦ 11 _ rfl
  obtain ⟨cs11, rfl, A11, n11, c11, rfl, h11⟩ := p11
  have p12 := hΦ 12 _ rfl
  obtain ⟨g12, cs12, rfl, hg12, hcg12, hk12, hf12, hn12, ho12⟩ := p12
  have p13 := hΦ 13 _ rfl
  obtain ⟨u13, rfl, g13, cs13, rfl, hg13, hcg13, hk13, hf13, hn13, ho13⟩ := p13
  have p14 := hΦ 14 _ rfl
  obtain ⟨g14, rfl, hg14, hcg14, hk14⟩ := p14
  clear hΦ
  simp only [List.take_succ_cons, List.take_zero, putL, tailW, Act.put, List.setIfInBounds_toArray, List.set_cons_zero, List.set_cons_succ]
  refine wpOp_abs rfl rfl fun K hK => ?_
  refine wp_store_row 110 _ _ rfl g14 #[.string kContest, .string x.name, .slice (some ⟨g13, 0, none⟩) 3 3, .int .i64 0] rfl rfl _ _ hk14 (by kernel_rfl) rfl (by simp [Value.oneCell']) (hK _ _ ?_)
  clear hK K
  have hst := fld_start hbc hg14 hcg14 hk14 (by decide) hg13 hcg13 hk13 hf13 hn13 (by decide) (kind := kContest) (name := x.name)
  obtain ⟨w2, hw2⟩ : ∃ q, wc.setRow g14 #[.string kContest, .string x.name, .slice (some ⟨g13, 0, none⟩) 3 3, .int .i64 0] = q := ⟨_, rfl⟩
  rw [hw2] at hst
  rw [hw2]
  have HST := Lib.hid hst
  have HKX2 := Lib.hid (HKX.out.keep hst.bel)
  have HTAB2 := Lib.hid (HTAB.out.up HTB.out hst.bel)
  have HTB2 := Lib.hid (Nat.le_trans HTB.out hst.bel.size)
  have HRX2 := Lib.hid (HRX.out.below hst.bel HSX.out)
  have hm2 : w2.cell? ⟨w.heap.size, 2, none⟩ = some (.int .i64 x.method) := HKX2.out.cell 2
  clear hst hw2 h5 h8 h11 hcg12 hg12 hk12 hf12 hn12 ho12 hg14 hcg14 hk14 hg13 hcg13 hk13 hf13 hn13 ho13 hbc
  have HSX2 : Hid (∀ b, S b → b < w2.heap.size) := Lib.hid fun b h => Nat.lt_of_lt_of_le (HSX.out b h) HST.out.bel.size
  by_cases hme : x.method = 2
  · have hmb : (x.method == 2) = true := by rw [beq_iff_eq]; exact hme
    have HME : Hid ((if x.method = 2 then [numF kDigits x.digits] else []) = [numF kDigits x.digits]) := Lib.hid (if_pos hme)
    have HLEN : Hid (([choF kMethod x.method, numF kSeats x.seats, numF kRanks x.ranks] : List FieldD).length = 3) := Lib.hid rfl
    clear hme
    go_wp2_with fail
    refine wp_region_grow 6 2 (fun i => match i with
      | 0 => ΦV (.pointer (some ⟨g14, 2, none⟩))
      | 1 => ΦV (.slice (some ⟨g13, 0, none⟩) 3 3)
      | 2 => ΦV (.pointer (some ⟨w.heap.size, 5, none⟩))
      | 3 => ΦV (.int .i64 x.digits)
      | 4 => @ΦS FieldD _ w2 99 (numF kDigits x.digits)
      | 5 => @ΦR FieldD _ w2 99 5 113 ([numF kDigits x.digits]) 1
      | _ => fun _ _ _ => False) (by kernel_rfl) (by kernel_rfl) (by kernel_rfl) (by kernel_rfl) ?_ ?_ ?_
    · intro i v c1 w1 c2 w2 h hb hc
      match i with
      | 0 => exact h
      | 1 => exact h
      | 2 => exact h
      | 3 => exact h
      | 4 => exact ΦS.mono h hb hc
      | 5 => exact ΦR.mono h hb hc
      | _ + 6 => exact h
    · intro Q0 i hi a1 col wc hout hbc hcol hdep
      have hWc := hbc.size
      match i, hi with
      | 0, _ =>
        have e3 : a1.tmps[3]? = some (.pointer (some ⟨g14, 0, none⟩)) := (hout.2 3 (by kernel_rfl)).trans rfl
        clear hdep
        refine gives_runs rfl rfl (.pointer (some ⟨g14, 2, none⟩)) ?_ (Below.refl _ _) rfl
        go_simp
      | 1, _ =>
        obtain ⟨v21, ev, pv21⟩ := hdep 0 (by kernel_rfl)
        have e21 := ev 21 rfl
        clear ev
        obtain rfl : v21 = _ := pv21
        clear hdep
        have ld0 : wc.cell? ⟨g14, 2, none⟩ = some (.slice (some ⟨g13, 0, none⟩) 3 3) := (HST.out.blk.keep hbc).cell 2
        refine gives_runs rfl rfl (.slice (some ⟨g13, 0, none⟩) 3 3) ?_ (Below.refl _ _) rfl
        go_simp
      | 2, _ =>
        have e1 : a1.tmps[1]? = some (.pointer (some ⟨w.heap.size, 0, none⟩)) := (hout.2 1 (by kernel_rfl)).trans rfl
        clear hdep
        refine gives_runs rfl rfl (.pointer (some ⟨w.heap.size, 5, none⟩)) ?_ (Below.refl _ _) rfl
        go_simp
      | 3, _ =>
        obtain ⟨v23, ev, pv23⟩ := hdep 2 (by kernel_rfl)
        have e23 := ev 23 rfl
        clear ev
        obtain rfl : v23 = _ := pv23
        clear hdep
        have ld0 : wc.cell? ⟨w.heap.size, 5, none⟩ = some (.int .i64 x.digits) := (HKX2.out.keep hbc).cell 5
        refine gives_runs rfl rfl (.int .i64 x.digits) ?_ (Below.refl _ _) rfl
        go_simp
      | 4, _ =>
        obtain ⟨v24, ev, pv24⟩ := hdep 3 (by kernel_rfl)
        have e24 := ev 24 rfl
        clear ev
        obtain rfl : v24 = _ := pv24
        clear hdep
        refine gives_calls rfl rfl 68 #[.string kDigits, .int .i64 x.digits] ?_ (fieldF_ok (HTAB2.out.up HTB2.out hbc) (Nat.le_trans HTB2.out hWc) kDigits x.digits HRG.out.2.2.2.1.1 HRG.out.2.2.2.1.2) (fun e w2 hr => ΦS.of_ret hr hWc (by decide))
        go_simp
        try rfl
      | 5, _ =>
        obtain ⟨v25, ev, pv25⟩ := hdep 4 (by kernel_rfl)
        have e25 := ev 25 rfl
        clear ev
        obtain ⟨cs25, rfl, A25, n25, c25, rfl, h25⟩ := pv25
        clear hdep
        have hf : Flat wc (RD w2 99 col wc) [.string kDigits, .slice A25 n25 c25, .int .i64 0] ([numF kDigits x.digits]) := Flat.cons (ds := [_, _, _]) ⟨A25, n25, c25, rfl, h25⟩ (Flat.nil)
        refine gives_runs rfl rfl (.slice (some ⟨wc.heap.size, 0, none⟩) 1 1) (w' := wc.alloc (.cells #[.string kDigits, .slice A25 n25 c25, .int .i64 0] 113)) ?_ (below_alloc _ _) (ΦR.built (cs := [.string kDigits, .slice A25 n25 c25, .int .i64 0]) (t := 113) hf (fun b hb => hcol b hb.1 hb.2.1) rfl (by simp [Value.oneCell']) hWc)
        go_simp
        try rfl
    intro vs0 col wc hl0 hbc hΦ
    obtain ⟨v0, vs1, rfl, hl1⟩ := uncons hl0
    clear hl0
    obtain ⟨v1, vs2, rfl, hl2⟩ := uncons hl1
    clear hl1
    obtain ⟨v2, vs3, rfl, hl3⟩ := uncons hl2
    clear hl2
    obtain ⟨v3, vs4, rfl, hl4⟩ := uncons hl3
    clear hl3
    obtain ⟨v4, vs5, rfl, hl5⟩ := uncons hl4
    clear hl4
    obtain ⟨v5, vs6, rfl, hl6⟩ := uncons hl5
    clear hl5
    obtain rfl := List.length_eq_zero_iff.1 hl6
    clear hl6
    have p0 := hΦ 0 _ rfl
    obtain rfl : v0 = _ := p0
    have p1 := hΦ 1 _ rfl
    obtain rfl : v1 = _ := p1
    have p2 := hΦ 2 _ rfl
    obtain rfl : v2 = _ := p2
    have p3 := hΦ 3 _ rfl
    obtain rfl : v3 = _ := p3
    have p4 := hΦ 4 _ rfl
    obtain ⟨cs4, rfl, A4, n4, c4, rfl, h4⟩ := p4
    have p5 := hΦ 5 _ rfl
    obtain ⟨g5, cs5, rfl, hg5, hcg5, hk5, hf5, hn5, ho5⟩ := p5
    clear hΦ
    simp only [List.take_succ_cons, List.take_zero, putL, tailW, Act.put, List.setIfInBounds_toArray, List.set_cons_zero, List.set_cons_succ]
    have hsg := (HST.out.grow hbc)
    refine wpOp_abs rfl rfl fun K hK => ?_
    refine wp_append_Own (α := FieldD) _ _ 108 rfl 48 Tryz.fldTy rfl hsg.own ⟨g5, 0, none⟩ 1 1 cs5 [numF kDigits x.digits] rfl (by rfl) (hf5.keep (fun b hb => hsg.apart_of HST.out hb.1.1 hb.1.2.1) (Keeps.refl _ _)) (row_cells hk5) ho5 (by rw [HLEN.out]; simp) (Nat.le_trans hsg.base (Nat.le_refl _)) fun v9 w9 q1 q2 q3 => hK _ _ ?_
    clear hK K
    obtain ⟨A8, n8, c8, rfl, hn9⟩ := q1.slice
    have HQ1 := Lib.hid q1
    have HQ2 := Lib.hid q2
    have HQ3 := Lib.hid q3
    have hkg := hsg.blk.grown q2 (fun e => hsg.ne e.symm)
    have y2 : w9.cell? ⟨g14, 2, none⟩ = some (.slice (some ⟨g13, 0, none⟩) 3 3) := hkg.cell 2
    have y3 : w9.frozen? ⟨g14, 2, none⟩ = false := hkg.frozen 2
    have HSG := Lib.hid hsg
    have HBC := Lib.hid hbc
    clear q1 q2 q3 hn9 hkg hsg hbc hg5 hcg5 hk5 hf5 hn5 ho5
    refine wpOp_runs (w' := w9) rfl rfl (.pointer (some ⟨g14, 2, none⟩)) ?_ ?_
    · go_simp
    try simp only [Act.put, List.getElem_toArray, List.getElem_cons_zero, List.getElem_cons_succ, List.setIfInBounds_toArray, List.set_cons_zero, List.set_cons_succ]
    refine wpOp_abs rfl rfl fun K hK => ?_
    go_simp
    refine hK _ _ ?_
    clear hK K
    have hst := HSG.out.next HQ1.out HQ2.out HQ3.out
    obtain ⟨w3, hw2⟩ : ∃ q, w9.setCell ⟨g14, 2, none⟩ (.slice A8 n8 c8) = q := ⟨_, rfl⟩
    rw [hw2] at hst
    rw [hw2]
    have HST3 := Lib.hid hst
    have hb23 := hst.bel
    clear hst hw2 y2 y3 h4
    have HKX3 := Lib.hid (HKX.out.keep hb23)
    have HTAB3 := Lib.hid (HTAB.out.up HTB.out hb23)
    have HTB3 := Lib.hid (Nat.le_trans HTB.out hb23.size)
    have HRX3 := Lib.hid (HRX.out.below hb23 HSX.out)
    have HSX2 : Hid (∀ b, S b → b < w3.heap.size) := Lib.hid fun b h => Nat.lt_of_lt_of_le (HSX.out b h) hb23.size
    have HLEN : Hid (([choF kMethod x.method, numF kSeats x.seats, numF kRanks x.ranks] ++ [numF kDigits x.digits] : List FieldD).length = 4) := Lib.hid rfl
    clear hb23 hm2
    go_wp2_with fail
    refine wp_region_grow 19 2 (fun i => match i with
      | 0 => ΦV (.pointer (some ⟨g14, 2, none⟩))
      | 1 => ΦV (.slice A8 n8 c8)
      | 2 => ΦV (.pointer (some ⟨w.heap.size, 6, none⟩))
      | 3 => ΦV (.int .i64 x.ties)
      | 4 => ΦV (.string (choiceP kTies x.ties))
      | 5 => @ΦS FieldD _ w3 99 (choF kTies x.ties)
      | 6 => ΦV (.pointer (some ⟨w.heap.size, 7, none⟩))
      | 7 => ΦV (.int .i64 x.over)
      | 8 => ΦV (.string (choiceP kOvervote x.over))
      | 9 => @ΦS FieldD _ w3 99 (choF kOvervote x.over)
      | 10 => ΦV (.pointer (some ⟨w.heap.size, 8, none⟩))
      | 11 => ΦV (.int .i64 x.skip)
      | 12 => ΦV (.string (choiceP kSkip x.skip))
      | 13 => @ΦS FieldD _ w3 99 (choF kSkip x.skip)
      | 14 => ΦV (.pointer (some ⟨w.heap.size, 1, none⟩))
      | 15 => ΦV (.slice AX nX cX)
      | 16 => @ΦL ByteArray _ w3 99 (x.cands)
      | 17 => @ΦS FieldD _ w3 99 ((⟨kCands, x.cands, 0⟩ : FieldD))
      | 18 => @ΦR FieldD _ w3 99 18 113 ([choF kTies x.ties, choF kOvervote x.over, choF kSkip x.skip, ⟨kCands, x.cands, 0⟩]) 4
      | _ => fun _ _ _ => False) (by kernel_rfl) (by kernel_rfl) (by kernel_rfl) (by kernel_rfl) ?_ ?_ ?_
    · intro i v c1 w1 c2 w2 h hb hc
      match i with
      | 0 => exact h
      | 1 => exact h
      | 2 => exact h
      | 3 => exact h
      | 4 => exact h
      | 5 => exact ΦS.mono h hb hc
      | 6 => exact h
      | 7 => exact h
      | 8 => exact h
      | 9 => exact ΦS.mono h hb hc
      | 10 => exact h
      | 11 => exact h
      | 12 => exact h
      | 13 => exact ΦS.mono h hb hc
      | 14 => exact h
      | 15 => exact h
      | 16 => exact ΦL.mono h hb hc
      | 17 => exact ΦS.mono h hb hc
      | 18 => exact ΦR.mono h hb hc
      | _ + 19 => exact h
    · intro Q0 i hi a1 col wc hout hbc hcol hdep
      have hWc := hbc.size
      match i, hi with
      | 0, _ =>
        have e3 : a1.tmps[3]? = some (.pointer (some ⟨g14, 0, none⟩)) := (hout.2 3 (by kernel_rfl)).trans rfl
        clear hdep
        refine gives_runs rfl rfl (.pointer (some ⟨g14, 2, none⟩)) ?_ (Below.refl _ _) rfl
        go_simp
      | 1, _ =>
        obtain ⟨v29, ev, pv29⟩ := hdep 0 (by kernel_rfl)
        have e29 := ev 29 rfl
        clear ev
        obtain rfl : v29 = _ := pv29
        clear hdep
        have ld0 : wc.cell? ⟨g14, 2, none⟩ = some (.slice A8 n8 c8) := (HST3.out.blk.keep hbc).cell 2
        refine gives_runs rfl rfl (.slice A8 n8 c8) ?_ (Below.refl _ _) rfl
        go_simp
      | 2, _ =>
        have e1 : a1.tmps[1]? = some (.pointer (some ⟨w.heap.size, 0, none⟩)) := (hout.2 1 (by kernel_rfl)).trans rfl
        clear hdep
        refine gives_runs rfl rfl (.pointer (some ⟨w.heap.size, 6, none⟩)) ?_ (Below.refl _ _) rfl
        go_simp
      | 3, _ =>
        obtain ⟨v31, ev, pv31⟩ := hdep 2 (by kernel_rfl)
        have e31 := ev 31 rfl
        clear ev
        obtain rfl : v31 = _ := pv31
        clear hdep
        have ld0 : wc.cell? ⟨w.heap.size, 6, none⟩ = some (.int .i64 x.ties) := (HKX3.out.keep hbc).cell 6
        refine gives_runs rfl rfl (.int .i64 x.ties) ?_ (Below.refl _ _) rfl
        go_simp
      | 4, _ =>
        obtain ⟨v32, ev, pv32⟩ := hdep 3 (by kernel_rfl)
        have e32 := ev 32 rfl
        clear ev
        obtain rfl : v32 = _ := pv32
        clear hdep
        refine gives_calls rfl rfl 103 #[.string kTies, .int .i64 x.ties] ?_ (choice_ok kTies x.ties wc HRG.out.2.2.2.2.1.2) (fun e w2 hr => ΦV.of_ret hr)
        go_simp
        try rfl
      | 5, _ =>
        obtain ⟨v33, ev, pv33⟩ := hdep 4 (by kernel_rfl)
        have e33 := ev 33 rfl
        clear ev
        obtain rfl : v33 = _ := pv33
        clear hdep
        refine gives_calls rfl rfl 72 #[.string kTies, .string (choiceP kTies x.ties)] ?_ (textF_ok kTies _ wc) (fun e w2 hr => ΦS.of_ret hr hWc (by decide))
        go_simp
        try rfl
      | 6, _ =>
        have e1 : a1.tmps[1]? = some (.pointer (some ⟨w.heap.size, 0, none⟩)) := (hout.2 1 (by kernel_rfl)).trans rfl
        clear hdep
        refine gives_runs rfl rfl (.pointer (some ⟨w.heap.size, 7, none⟩)) ?_ (Below.refl _ _) rfl
        go_simp
      | 7, _ =>
        obtain ⟨v35, ev, pv35⟩ := hdep 6 (by kernel_rfl)
        have e35 := ev 35 rfl
        clear ev
        obtain rfl : v35 = _ := pv35
        clear hdep
        have ld0 : wc.cell? ⟨w.heap.size, 7, none⟩ = some (.int .i64 x.over) := (HKX3.out.keep hbc).cell 7
        refine gives_runs rfl rfl (.int .i64 x.over) ?_ (Below.refl _ _) rfl
        go_simp
      | 8, _ =>
        obtain ⟨v36, ev, pv36⟩ := hdep 7 (by kernel_rfl)
        have e36 := ev 36 rfl
        clear ev
        obtain rfl : v36 = _ := pv36
        clear hdep
        refine gives_calls rfl rfl 103 #[.string kOvervote, .int .i64 x.over] ?_ (choice_ok kOvervote x.over wc HRG.out.2.2.2.2.2.1.2) (fun e w2 hr => ΦV.of_ret hr)
        go_simp
        try rfl
      | 9, _ =>
        obtain ⟨v37, ev, pv37⟩ := hdep 8 (by kernel_rfl)
        have e37 := ev 37 rfl
        clear ev
        obtain rfl : v37 = _ := pv37
        clear hdep
        refine gives_calls rfl rfl 72 #[.string kOvervote, .string (choiceP kOvervote x.over)] ?_ (textF_ok kOvervote _ wc) (fun e w2 hr => ΦS.of_ret hr hWc (by decide))
        go_simp
        try rfl
      | 10, _ =>
        have e1 : a1.tmps[1]? = some (.pointer (some ⟨w.heap.size, 0, none⟩)) := (hout.2 1 (by kernel_rfl)).trans rfl
        clear hdep
        refine gives_runs rfl rfl (.pointer (some ⟨w.heap.size, 8, none⟩)) ?_ (Below.refl _ _) rfl
        go_simp
      | 11, _ =>
        obtain ⟨v39, ev, pv39⟩ := hdep 10 (by kernel_rfl)
        have e39 := ev 39 rfl
        clear ev
        obtain rfl : v39 = _ := pv39
        clear hdep
        have ld0 : wc.cell? ⟨w.heap.size, 8, none⟩ = some (.int .i64 x.skip) := (HKX3.out.keep hbc).cell 8
        refine gives_runs rfl rfl (.int .i64 x.skip) ?_ (Below.refl _ _) rfl
        go_simp
      | 12, _ =>
        obtain ⟨v40, ev, pv40⟩ := hdep 11 (by kernel_rfl)
        have e40 := ev 40 rfl
        clear ev
        obtain rfl : v40 = _ := pv40
        clear hdep
        refine gives_calls rfl rfl 103 #[.string kSkip, .int .i64 x.skip] ?_ (choice_ok kSkip x.skip wc HRG.out.2.2.2.2.2.2.1.2) (fun e w2 hr => ΦV.of_ret hr)
        go_simp
        try rfl
      | 13, _ =>
        obtain ⟨v41, ev, pv41⟩ := hdep 12 (by kernel_rfl)
        have e41 := ev 41 rfl
        clear ev
        obtain rfl : v41 = _ := pv41
        clear hdep
        refine gives_calls rfl rfl 72 #[.string kSkip, .string (choiceP kSkip x.skip)] ?_ (textF_ok kSkip _ wc) (fun e w2 hr => ΦS.of_ret hr hWc (by decide))
        go_simp
        try rfl
      | 14, _ =>
        have e1 : a1.tmps[1]? = some (.pointer (some ⟨w.heap.size, 0, none⟩)) := (hout.2 1 (by kernel_rfl)).trans rfl
        clear hdep
        refine gives_runs rfl rfl (.pointer (some ⟨w.heap.size, 1, none⟩)) ?_ (Below.refl _ _) rfl
        go_simp
      | 15, _ =>
        obtain ⟨v43, ev, pv43⟩ := hdep 14 (by kernel_rfl)
        have e43 := ev 43 rfl
        clear ev
        obtain rfl : v43 = _ := pv43
        clear hdep
        have ld0 : wc.cell? ⟨w.heap.size, 1, none⟩ = some (.slice AX nX cX) := (HKX3.out.keep hbc).cell 1
        refine gives_runs rfl rfl (.slice AX nX cX) ?_ (Below.refl _ _) rfl
        go_simp
      | 16, _ =>
        obtain ⟨v44, ev, pv44⟩ := hdep 15 (by kernel_rfl)
        have e44 := ev 44 rfl
        clear ev
        obtain rfl : v44 = _ := pv44
        clear hdep
        refine gives_calls rfl rfl 69 #[.slice AX nX cX] ?_ (cloneS_ok (HRX3.out.below hbc HSX2.out) HNX.out) (fun e w2 hr => ΦL.of_clone hr hWc (by decide))
        go_simp
        try rfl
      | 17, _ =>
        obtain ⟨v45, ev, pv45⟩ := hdep 16 (by kernel_rfl)
        have e45 := ev 45 rfl
        clear ev
        obtain ⟨A45, n45, c45, rfl, h45⟩ := pv45
        clear hdep
        refine gives_runs rfl rfl (.agg #[.string kCands, .slice A45 n45 c45, .int .i64 0]) ?_ (Below.refl _ _) (ΦS.mono (x := (⟨kCands, x.cands, 0⟩ : FieldD)) (c1 := col) (w1 := wc) (⟨_, rfl, A45, n45, c45, rfl, h45⟩) (Below.refl _ _) fun b hb => colr_old hb)
        go_simp
        try rfl
      | 18, _ =>
        obtain ⟨v34, ev, pv34⟩ := hdep 5 (by kernel_rfl)
        have e34 := ev 34 rfl
        clear ev
        obtain ⟨cs34, rfl, A34, n34, c34, rfl, h34⟩ := pv34
        obtain ⟨v38, ev, pv38⟩ := hdep 9 (by kernel_rfl)
        have e38 := ev 38 rfl
        clear ev
        obtain ⟨cs38, rfl, A38, n38, c38, rfl, h38⟩ := pv38
        obtain ⟨v42, ev, pv42⟩ := hdep 13 (by kernel_rfl)
        have e42 := ev 42 rfl
        clear ev
        obtain ⟨cs42, rfl, A42, n42, c42, rfl, h42⟩ := pv42
        obtain ⟨v46, ev, pv46⟩ := hdep 17 (by kernel_rfl)
        have e46 := ev 46 rfl
        clear ev
        obtain ⟨cs46, rfl, A46, n46, c46, rfl, h46⟩ := pv46
        clear hdep
        have hf : Flat wc (RD w3 99 col wc) [.string kTies, .slice A34 n34 c34, .int .i64 0, .string kOvervote, .slice A38 n38 c38, .int .i64 0, .string kSkip, .slice A42 n42 c42, .int .i64 0, .string kCands, .slice A46 n46 c46, .int .i64 0] ([choF kTies x.ties, choF kOvervote x.over, choF kSkip x.skip, ⟨kCands, x.cands, 0⟩]) := Flat.cons (ds := [_, _, _]) ⟨A34, n34, c34, rfl, h34⟩ (Flat.cons (ds := [_, _, _]) ⟨A38, n38, c38, rfl, h38⟩ (Flat.cons (ds := [_, _, _]) ⟨A42, n42, c42, rfl, h42⟩ (Flat.cons (ds := [_, _, _]) ⟨A46, n46, c46, rfl, h46⟩ (Flat.nil))))
        refine gives_runs rfl rfl (.slice (some ⟨wc.heap.size, 0, none⟩) 4 4) (w' := wc.alloc (.cells #[.string kTies, .slice A34 n34 c34, .int .i64 0, .string kOvervote, .slice A38 n38 c38, .int .i64 0, .string kSkip, .slice A42 n42 c42, .int .i64 0, .string kCands, .slice A46 n46 c46, .int .i64 0] 113)) ?_ (below_alloc _ _) (ΦR.built (cs := [.string kTies, .slice A34 n34 c34, .int .i64 0, .string kOvervote, .slice A38 n38 c38, .int .i64 0, .string kSkip, .slice A42 n42 c42, .int .i64 0, .string kCands, .slice A46 n46 c46, .int .i64 0]) (t := 113) hf (fun b hb => hcol b hb.1 hb.2.1) rfl (by simp [Value.oneCell']) hWc)
        go_simp
        try rfl
      | k + 19, hk => exact absurd hk (by omega)
    intro vs0 col wc hl0 hbc hΦ
    obtain ⟨v0, vs1, rfl, hl1⟩ := uncons hl0
    clear hl0
    obtain ⟨v1, vs2, rfl, hl2⟩ := uncons hl1
    clear hl1
    obtain ⟨v2, vs3, rfl, hl3⟩ := uncons hl2
    clear hl2
    obtain ⟨v3, vs4, rfl, hl4⟩ := uncons hl3
    clear hl3
    obtain ⟨v4, vs5, rfl, hl5⟩ := uncons hl4
    clear hl4
    obtain ⟨v5, vs6, rfl, hl6⟩ := uncons hl5
    clear hl5
    obtain ⟨v6, vs7, rfl, hl7⟩ := uncons hl6
    clear hl6
    obtain ⟨v7, vs8, rfl, hl8⟩ := uncons hl7
    clear hl7
    obtain ⟨v8, vs9, rfl, hl9⟩ := uncons hl8
    clear hl8
    obtain ⟨v9, vs10, rfl, hl10⟩ := uncons hl9
    clear hl9
    obtain ⟨v10, vs11, rfl, hl11⟩ := uncons hl10
    clear hl10
    obtain ⟨v11, vs12, rfl, hl12⟩ := uncons hl11
    clear hl11
    obtain ⟨v12, vs13, rfl, hl13⟩ := uncons hl12
    clear hl12
    obtain ⟨v13, vs14, rfl, hl14⟩ := uncons hl13
    clear hl13
    obtain ⟨v14, vs15, rfl, hl15⟩ := uncons hl14
    clear hl14
    obtain ⟨v15, vs16, rfl, hl16⟩ := uncons hl15
    clear hl15
    obtain ⟨v16, vs17, rfl, hl17⟩ := uncons hl16
    clear hl16
    obtain ⟨v17, vs18, rfl, hl18⟩ := uncons hl17
    clear hl17
    obtain ⟨v18, vs19, rfl, hl19⟩ := uncons hl18
    clear hl18
    obtain rfl := List.length_eq_zero_iff.1 hl19
    clear hl19
    have p0 := hΦ 0 _ rfl
    obtain rfl : v0 = _ := p0
    have p1 := hΦ 1 _ rfl
    obtain rfl : v1 = _ := p1
    have p2 := hΦ 2 _ rfl
    obtain rfl : v2 = _ := p2
    have p3 := hΦ 3 _ rfl
    obtain rfl : v3 = _ := p3
    have p4 := hΦ 4 _ rfl
    obtain rfl : v4 = _ := p4
    have p5 := hΦ 5 _ rfl
    obtain ⟨cs5, rfl, A5, n5, c5, rfl, h5⟩ := p5
    have p6 := hΦ 6 _ rfl
    obtain rfl : v6 = _ := p6
    have p7 := hΦ 7 _ rfl
    obtain rfl : v7 = _ := p7
    have p8 := hΦ 8 _ rfl
    obtain rfl : v8 = _ := p8
    have p9 := hΦ 9 _ rfl
    obtain ⟨cs9, rfl, A9, n9, c9, rfl, h9⟩ := p9
    have p10 := hΦ 10 _ rfl
    obtain rfl : v10 = _ := p10
    have p11 := hΦ 11 _ rfl
    obtain rfl : v11 = _ := p11
    have p12 := hΦ 12 _ rfl
    obtain rfl : v12 = _ := p12
    have p13 := hΦ 13 _ rfl
    obtain ⟨cs13, rfl, A13, n13, c13, rfl, h13⟩ := p13
    have p14 := hΦ 14 _ rfl
    obtain rfl : v14 = _ := p14
    have p15 := hΦ 15 _ rfl
    obtain rfl : v15 = _ := p15
    have p16 := hΦ 16 _ rfl
    obtain ⟨A16, n16, c16, rfl, h16⟩ := p16
    have p17 := hΦ 17 _ rfl
    obtain ⟨cs17, rfl, A17, n17, c17, rfl, h17⟩ := p17
    have p18 := hΦ 18 _ rfl
    obtain ⟨g18, cs18, rfl, hg18, hcg18, hk18, hf18, hn18, ho18⟩ := p18
    clear hΦ
    simp only [List.take_succ_cons, List.take_zero, putL, tailW, Act.put, List.setIfInBounds_toArray, List.set_cons_zero, List.set_cons_succ]
    have hsg := (HST3.out.grow hbc)
    refine wpOp_abs rfl rfl fun K hK => ?_
    refine wp_append_Own (α := FieldD) _ _ 108 rfl 48 Tryz.fldTy rfl hsg.own ⟨g18, 0, none⟩ 4 4 cs18 [choF kTies x.ties, choF kOvervote x.over, choF kSkip x.skip, ⟨kCands, x.cands, 0⟩] rfl (by rfl) (hf18.keep (fun b hb => hsg.apart_of HST3.out hb.1.1 hb.1.2.1) (Keeps.refl _ _)) (row_cells hk18) ho18 (by rw [HLEN.out]; simp) (Nat.le_trans hsg.base (Nat.le_refl _)) fun v9 w9 q1 q2 q3 => hK _ _ ?_
    clear hK K
    obtain ⟨A9, n9, c9, rfl, hn9⟩ := q1.slice
    have HQ1 := Lib.hid q1
    have HQ2 := Lib.hid q2
    have HQ3 := Lib.hid q3
    have hkg := hsg.blk.grown q2 (fun e => hsg.ne e.symm)
    have y2 : w9.cell? ⟨g14, 2, none⟩ = some (.slice A8 n8 c8) := hkg.cell 2
    have y3 : w9.frozen? ⟨g14, 2, none⟩ = false := hkg.frozen 2
    have HSG := Lib.hid hsg
    have HBC := Lib.hid hbc
    clear q1 q2 q3 hn9 hkg hsg hbc hg18 hcg18 hk18 hf18 hn18 ho18
    refine wpOp_runs (w' := w9) rfl rfl (.pointer (some ⟨g14, 2, none⟩)) ?_ ?_
    · go_simp
    try simp only [Act.put, List.getElem_toArray, List.getElem_cons_zero, List.getElem_cons_succ, List.setIfInBounds_toArray, List.set_cons_zero, List.set_cons_succ]
    refine wpOp_abs rfl rfl fun K hK => ?_
    go_simp
    refine hK _ _ ?_
    clear hK K
    have hst := HSG.out.next HQ1.out HQ2.out HQ3.out
    obtain ⟨w4, hw2⟩ : ∃ q, w9.setCell ⟨g14, 2, none⟩ (.slice A9 n9 c9) = q := ⟨_, rfl⟩
    rw [hw2] at hst
    rw [hw2]
    have hbx := HB1.out.trans (hst.bel.mono HB1.out.size)
    have hkr4 := HKR.out.keep hst.bel
    have d0 : w4.cell? ⟨g14, 0, none⟩ = some (.string kContest) := hst.blk.cell 0
    have d1 : w4.cell? ⟨g14, 1, none⟩ = some (.string x.name) := hst.blk.cell 1
    have d2 : w4.cell? ⟨g14, 2, none⟩ = some (.slice A9 n9 c9) := hst.blk.cell 2
    have d3 : w4.cell? ⟨g14, 3, none⟩ = some (.int .i64 0) := hst.blk.cell 3
    have z0 : w4.cell? ⟨w.heap.size + 1, 0, none⟩ = some (.string ⟨#[]⟩) := hkr4.cell 0
    have z1 : w4.cell? ⟨w.heap.size + 1, 1, none⟩ = some (.string ⟨#[]⟩) := hkr4.cell 1
    have z2 : w4.cell? ⟨w.heap.size + 1, 2, none⟩ = some (.slice none 0 0) := hkr4.cell 2
    have z3 : w4.cell? ⟨w.heap.size + 1, 3, none⟩ = some (.int .i64 0) := hkr4.cell 3
    have zf0 : w4.frozen? ⟨w.heap.size + 1, 0, none⟩ = false := hkr4.frozen 0
    have zf1 : w4.frozen? ⟨w.heap.size + 1, 1, none⟩ = false := hkr4.frozen 1
    have zf2 : w4.frozen? ⟨w.heap.size + 1, 2, none⟩ = false := hkr4.frozen 2
    have zf3 : w4.frozen? ⟨w.heap.size + 1, 3, none⟩ = false := hkr4.frozen 3
    have HST4 := Lib.hid hst
    have HKR4 := Lib.hid hkr4
    have HBX := Lib.hid hbx
    clear hst hw2 y2 y3 hkr4 hbx h5 h9 h13 h16 h17
    go_wp2_with fail
    refine ret_struct (x := contestP x) (S := fun b => w1.heap.size ≤ b ∧ b < w4.heap.size) (cs := [.string kContest, .string x.name, .slice A9 n9 c9, .int .i64 0]) rfl rfl (Nat.le_succ _) HKR4.out rfl Tryz.underlying110 rfl (by kernel_rfl) ⟨_, _, _, rfl, ?_⟩ (fun b hb => ⟨⟨Nat.le_trans HB1.out.size hb.1, hb.2⟩, by have := HS1.out; have := hb.1; omega⟩) HBX.out rfl id
    have hrs := HST4.out.rs
    unfold contestP
    rw [HME.out]
    exact hrs
  · have hmb : (x.method == 2) = false := by rw [beq_eq_false_iff_ne]; exact hme
    have HME : Hid ((if x.method = 2 then [numF kDigits x.digits] else []) = ([] : List FieldD)) := Lib.hid (if_neg hme)
    have HLEN : Hid (([choF kMethod x.method, numF kSeats x.seats, numF kRanks x.ranks] : List FieldD).length = 3) := Lib.hid rfl
    clear hme
    go_wp2_with fail
    refine wp_region_grow 19 2 (fun i => match i with
      | 0 => ΦV (.pointer (some ⟨g14, 2, none⟩))
      | 1 => ΦV (.slice (some ⟨g13, 0, none⟩) 3 3)
      | 2 => ΦV (.pointer (some ⟨w.heap.size, 6, none⟩))
      | 3 => ΦV (.int .i64 x.ties)
      | 4 => ΦV (.string (choiceP kTies x.ties))
      | 5 => @ΦS FieldD _ w2 99 (choF kTies x.ties)
      | 6 => ΦV (.pointer (some ⟨w.heap.size, 7, none⟩))
      | 7 => ΦV (.int .i64 x.over)
      | 8 => ΦV (.string (choiceP kOvervote x.over))
      | 9 => @ΦS FieldD _ w2 99 (choF kOvervote x.over)
      | 10 => ΦV (.pointer (some ⟨w.heap.size, 8, none⟩))
      | 11 => ΦV (.int .i64 x.skip)
      | 12 => ΦV (.string (choiceP kSkip x.skip))
      | 13 => @ΦS FieldD _ w2 99 (choF kSkip x.skip)
      | 14 => ΦV (.pointer (some ⟨w.heap.size, 1, none⟩))
      | 15 => ΦV (.slice AX nX cX)
      | 16 => @ΦL ByteArray _ w2 99 (x.cands)
      | 17 => @ΦS FieldD _ w2 99 ((⟨kCands, x.cands, 0⟩ : FieldD))
      | 18 => @ΦR FieldD _ w2 99 18 113 ([choF kTies x.ties, choF kOvervote x.over, choF kSkip x.skip, ⟨kCands, x.cands, 0⟩]) 4
      | _ => fun _ _ _ => False) (by kernel_rfl) (by kernel_rfl) (by kernel_rfl) (by kernel_rfl) ?_ ?_ ?_
    · intro i v c1 w1 c2 w2 h hb hc
      match i with
      | 0 => exact h
      | 1 => exact h
      | 2 => exact h
      | 3 => exact h
      | 4 => exact h
      | 5 => exact ΦS.mono h hb hc
      | 6 => exact h
      | 7 => exact h
      | 8 => exact h
      | 9 => exact ΦS.mono h hb hc
      | 10 => exact h
      | 11 => exact h
      | 12 => exact h
      | 13 => exact ΦS.mono h hb hc
      | 14 => exact h
      | 15 => exact h
      | 16 => exact ΦL.mono h hb hc
      | 17 => exact ΦS.mono h hb hc
      | 18 => exact ΦR.mono h hb hc
      | _ + 19 => exact h
    · intro Q0 i hi a1 col wc hout hbc hcol hdep
      have hWc := hbc.size
      match i, hi with
      | 0, _ =>
        have e3 : a1.tmps[3]? = some (.pointer (some ⟨g14, 0, none⟩)) := (hout.2 3 (by kernel_rfl)).trans rfl
        clear hdep
        refine gives_runs rfl rfl (.pointer (some ⟨g14, 2, none⟩)) ?_ (Below.refl _ _) rfl
        go_simp
      | 1, _ =>
        obtain ⟨v29, ev, pv29⟩ := hdep 0 (by kernel_rfl)
        have e29 := ev 29 rfl
        clear ev
        obtain rfl : v29 = _ := pv29
        clear hdep
        have ld0 : wc.cell? ⟨g14, 2, none⟩ = some (.slice (some ⟨g13, 0, none⟩) 3 3) := (HST.out.blk.keep hbc).cell 2
        refine gives_runs rfl rfl (.slice (some ⟨g13, 0, none⟩) 3 3) ?_ (Below.refl _ _) rfl
        go_simp
      | 2, _ =>
        have e1 : a1.tmps[1]? = some (.pointer (some ⟨w.heap.size, 0, none⟩)) := (hout.2 1 (by kernel_rfl)).trans rfl
        clear hdep
        refine gives_runs rfl rfl (.pointer (some ⟨w.heap.size, 6, none⟩)) ?_ (Below.refl _ _) rfl
        go_simp
      | 3, _ =>
        obtain ⟨v31, ev, pv31⟩ := hdep 2 (by kernel_rfl)
        have e31 := ev 31 rfl
        clear ev
        obtain rfl : v31 = _ := pv31
        clear hdep
        have ld0 : wc.cell? ⟨w.heap.size, 6, none⟩ = some (.int .i64 x.ties) := (HKX2.out.keep hbc).cell 6
        refine gives_runs rfl rfl (.int .i64 x.ties) ?_ (Below.refl _ _) rfl
        go_simp
      | 4, _ =>
        obtain ⟨v32, ev, pv32⟩ := hdep 3 (by kernel_rfl)
        have e32 := ev 32 rfl
        clear ev
        obtain rfl : v32 = _ := pv32
        clear hdep
        refine gives_calls rfl rfl 103 #[.string kTies, .int .i64 x.ties] ?_ (choice_ok kTies x.ties wc HRG.out.2.2.2.2.1.2) (fun e w2 hr => ΦV.of_ret hr)
        go_simp
        try rfl
      | 5, _ =>
        obtain ⟨v33, ev, pv33⟩ := hdep 4 (by kernel_rfl)
        have e33 := ev 33 rfl
        clear ev
        obtain rfl : v33 = _ := pv33
        clear hdep
        refine gives_calls rfl rfl 72 #[.string kTies, .string (choiceP kTies x.ties)] ?_ (textF_ok kTies _ wc) (fun e w2 hr => ΦS.of_ret hr hWc (by decide))
        go_simp
        try rfl
      | 6, _ =>
        have e1 : a1.tmps[1]? = some (.pointer (some ⟨w.heap.size, 0, none⟩)) := (hout.2 1 (by kernel_rfl)).trans rfl
        clear hdep
        refine gives_runs rfl rfl (.pointer (some ⟨w.heap.size, 7, none⟩)) ?_ (Below.refl _ _) rfl
        go_simp
      | 7, _ =>
        obtain ⟨v35, ev, pv35⟩ := hdep 6 (by kernel_rfl)
        have e35 := ev 35 rfl
        clear ev
        obtain rfl : v35 = _ := pv35
        clear hdep
        have ld0 : wc.cell? ⟨w.heap.size, 7, none⟩ = some (.int .i64 x.over) := (HKX2.out.keep hbc).cell 7
        refine gives_runs rfl rfl (.int .i64 x.over) ?_ (Below.refl _ _) rfl
        go_simp
      | 8, _ =>
        obtain ⟨v36, ev, pv36⟩ := hdep 7 (by kernel_rfl)
        have e36 := ev 36 rfl
        clear ev
        obtain rfl : v36 = _ := pv36
        clear hdep
        refine gives_calls rfl rfl 103 #[.string kOvervote, .int .i64 x.over] ?_ (choice_ok kOvervote x.over wc HRG.out.2.2.2.2.2.1.2) (fun e w2 hr => ΦV.of_ret hr)
        go_simp
        try rfl
      | 9, _ =>
        obtain ⟨v37, ev, pv37⟩ := hdep 8 (by kernel_rfl)
        have e37 := ev 37 rfl
        clear ev
        obtain rfl : v37 = _ := pv37
        clear hdep
        refine gives_calls rfl rfl 72 #[.string kOvervote, .string (choiceP kOvervote x.over)] ?_ (textF_ok kOvervote _ wc) (fun e w2 hr => ΦS.of_ret hr hWc (by decide))
        go_simp
        try rfl
      | 10, _ =>
        have e1 : a1.tmps[1]? = some (.pointer (some ⟨w.heap.size, 0, none⟩)) := (hout.2 1 (by kernel_rfl)).trans rfl
        clear hdep
        refine gives_runs rfl rfl (.pointer (some ⟨w.heap.size, 8, none⟩)) ?_ (Below.refl _ _) rfl
        go_simp
      | 11, _ =>
        obtain ⟨v39, ev, pv39⟩ := hdep 10 (by kernel_rfl)
        have e39 := ev 39 rfl
        clear ev
        obtain rfl : v39 = _ := pv39
        clear hdep
        have ld0 : wc.cell? ⟨w.heap.size, 8, none⟩ = some (.int .i64 x.skip) := (HKX2.out.keep hbc).cell 8
        refine gives_runs rfl rfl (.int .i64 x.skip) ?_ (Below.refl _ _) rfl
        go_simp
      | 12, _ =>
        obtain ⟨v40, ev, pv40⟩ := hdep 11 (by kernel_rfl)
        have e40 := ev 40 rfl
        clear ev
        obtain rfl : v40 = _ := pv40
        clear hdep
        refine gives_calls rfl rfl 103 #[.string kSkip, .int .i64 x.skip] ?_ (choice_ok kSkip x.skip wc HRG.out.2.2.2.2.2.2.1.2) (fun e w2 hr => ΦV.of_ret hr)
        go_simp
        try rfl
      | 13, _ =>
        obtain ⟨v41, ev, pv41⟩ := hdep 12 (by kernel_rfl)
        have e41 := ev 41 rfl
        clear ev
        obtain rfl : v41 = _ := pv41
        clear hdep
        refine gives_calls rfl rfl 72 #[.string kSkip, .string (choiceP kSkip x.skip)] ?_ (textF_ok kSkip _ wc) (fun e w2 hr => ΦS.of_ret hr hWc (by decide))
        go_simp
        try rfl
      | 14, _ =>
        have e1 : a1.tmps[1]? = some (.pointer (some ⟨w.heap.size, 0, none⟩)) := (hout.2 1 (by kernel_rfl)).trans rfl
        clear hdep
        refine gives_runs rfl rfl (.pointer (some ⟨w.heap.size, 1, none⟩)) ?_ (Below.refl _ _) rfl
        go_simp
      | 15, _ =>
        obtain ⟨v43, ev, pv43⟩ := hdep 14 (by kernel_rfl)
        have e43 := ev 43 rfl
        clear ev
        obtain rfl : v43 = _ := pv43
        clear hdep
        have ld0 : wc.cell? ⟨w.heap.size, 1, none⟩ = some (.slice AX nX cX) := (HKX2.out.keep hbc).cell 1
        refine gives_runs rfl rfl (.slice AX nX cX) ?_ (Below.refl _ _) rfl
        go_simp
      | 16, _ =>
        obtain ⟨v44, ev, pv44⟩ := hdep 15 (by kernel_rfl)
        have e44 := ev 44 rfl
        clear ev
        obtain rfl : v44 = _ := pv44
        clear hdep
        refine gives_calls rfl rfl 69 #[.slice AX nX cX] ?_ (cloneS_ok (HRX2.out.below hbc HSX2.out) HNX.out) (fun e w2 hr => ΦL.of_clone hr hWc (by decide))
        go_simp
        try rfl
      | 17, _ =>
        obtain ⟨v45, ev, pv45⟩ := hdep 16 (by kernel_rfl)
        have e45 := ev 45 rfl
        clear ev
        obtain ⟨A45, n45, c45, rfl, h45⟩ := pv45
        clear hdep
        refine gives_runs rfl rfl (.agg #[.string kCands, .slice A45 n45 c45, .int .i64 0]) ?_ (Below.refl _ _) (ΦS.mono (x := (⟨kCands, x.cands, 0⟩ : FieldD)) (c1 := col) (w1 := wc) (⟨_, rfl, A45, n45, c45, rfl, h45⟩) (Below.refl _ _) fun b hb => colr_old hb)
        go_simp
        try rfl
      | 18, _ =>
        obtain ⟨v34, ev, pv34⟩ := hdep 5 (by kernel_rfl)
        have e34 := ev 34 rfl
        clear ev
        obtain ⟨cs34, rfl, A34, n34, c34, rfl, h34⟩ := pv34
        obtain ⟨v38, ev, pv38⟩ := hdep 9 (by kernel_rfl)
        have e38 := ev 38 rfl
        clear ev
        obtain ⟨cs38, rfl, A38, n38, c38, rfl, h38⟩ := pv38
        obtain ⟨v42, ev, pv42⟩ := hdep 13 (by kernel_rfl)
        have e42 := ev 42 rfl
        clear ev
        obtain ⟨cs42, rfl, A42, n42, c42, rfl, h42⟩ := pv42
        obtain ⟨v46, ev, pv46⟩ := hdep 17 (by kernel_rfl)
        have e46 := ev 46 rfl
        clear ev
        obtain ⟨cs46, rfl, A46, n46, c46, rfl, h46⟩ := pv46
        clear hdep
        have hf : Flat wc (RD w2 99 col wc) [.string kTies, .slice A34 n34 c34, .int .i64 0, .string kOvervote, .slice A38 n38 c38, .int .i64 0, .string kSkip, .slice A42 n42 c42, .int .i64 0, .string kCands, .slice A46 n46 c46, .int .i64 0] ([choF kTies x.ties, choF kOvervote x.over, choF kSkip x.skip, ⟨kCands, x.cands, 0⟩]) := Flat.cons (ds := [_, _, _]) ⟨A34, n34, c34, rfl, h34⟩ (Flat.cons (ds := [_, _, _]) ⟨A38, n38, c38, rfl, h38⟩ (Flat.cons (ds := [_, _, _]) ⟨A42, n42, c42, rfl, h42⟩ (Flat.cons (ds := [_, _, _]) ⟨A46, n46, c46, rfl, h46⟩ (Flat.nil))))
        refine gives_runs rfl rfl (.slice (some ⟨wc.heap.size, 0, none⟩) 4 4) (w' := wc.alloc (.cells #[.string kTies, .slice A34 n34 c34, .int .i64 0, .string kOvervote, .slice A38 n38 c38, .int .i64 0, .string kSkip, .slice A42 n42 c42, .int .i64 0, .string kCands, .slice A46 n46 c46, .int .i64 0] 113)) ?_ (below_alloc _ _) (ΦR.built (cs := [.string kTies, .slice A34 n34 c34, .int .i64 0, .string kOvervote, .slice A38 n38 c38, .int .i64 0, .string kSkip, .slice A42 n42 c42, .int .i64 0, .string kCands, .slice A46 n46 c46, .int .i64 0]) (t := 113) hf (fun b hb => hcol b hb.1 hb.2.1) rfl (by simp [Value.oneCell']) hWc)
        go_simp
        try rfl
      | k + 19, hk => exact absurd hk (by omega)
    intro vs0 col wc hl0 hbc hΦ
    obtain ⟨v0, vs1, rfl, hl1⟩ := uncons hl0
    clear hl0
    obtain ⟨v1, vs2, rfl, hl2⟩ := uncons hl1
    clear hl1
    obtain ⟨v2, vs3, rfl, hl3⟩ := uncons hl2
    clear hl2
    obtain ⟨v3, vs4, rfl, hl4⟩ := uncons hl3
    clear hl3
    obtain ⟨v4, vs5, rfl, hl5⟩ := uncons hl4
    clear hl4
    obtain ⟨v5, vs6, rfl, hl6⟩ := uncons hl5
    clear hl5
    obtain ⟨v6, vs7, rfl, hl7⟩ := uncons hl6
    clear hl6
    obtain ⟨v7, vs8, rfl, hl8⟩ := uncons hl7
    clear hl7
    obtain ⟨v8, vs9, rfl, hl9⟩ := uncons hl8
    clear hl8
    obtain ⟨v9, vs10, rfl, hl10⟩ := uncons hl9
    clear hl9
    obtain ⟨v10, vs11, rfl, hl11⟩ := uncons hl10
    clear hl10
    obtain ⟨v11, vs12, rfl, hl12⟩ := uncons hl11
    clear hl11
    obtain ⟨v12, vs13, rfl, hl13⟩ := uncons hl12
    clear hl12
    obtain ⟨v13, vs14, rfl, hl14⟩ := uncons hl13
    clear hl13
    obtain ⟨v14, vs15, rfl, hl15⟩ := uncons hl14
    clear hl14
    obtain ⟨v15, vs16, rfl, hl16⟩ := uncons hl15
    clear hl15
    obtain ⟨v16, vs17, rfl, hl17⟩ := uncons hl16
    clear hl16
    obtain ⟨v17, vs18, rfl, hl18⟩ := uncons hl17
    clear hl17
    obtain ⟨v18, vs19, rfl, hl19⟩ := uncons hl18
    clear hl18
    obtain rfl := List.length_eq_zero_iff.1 hl19
    clear hl19
    have p0 := hΦ 0 _ rfl
    obtain rfl : v0 = _ := p0
    have p1 := hΦ 1 _ rfl
    obtain rfl : v1 = _ := p1
    have p2 := hΦ 2 _ rfl
    obtain rfl : v2 = _ := p2
    have p3 := hΦ 3 _ rfl
    obtain rfl : v3 = _ := p3
    have p4 := hΦ 4 _ rfl
    obtain rfl : v4 = _ := p4
    have p5 := hΦ 5 _ rfl
    obtain ⟨cs5, rfl, A5, n5, c5, rfl, h5⟩ := p5
    have p6 := hΦ 6 _ rfl
    obtain rfl : v6 = _ := p6
    have p7 := hΦ 7 _ rfl
    obtain rfl : v7 = _ := p7
    have p8 := hΦ 8 _ rfl
    obtain rfl : v8 = _ := p8
    have p9 := hΦ 9 _ rfl
    obtain ⟨cs9, rfl, A9, n9, c9, rfl, h9⟩ := p9
    have p10 := hΦ 10 _ rfl
    obtain rfl : v10 = _ := p10
    have p11 := hΦ 11 _ rfl
    obtain rfl : v11 = _ := p11
    have p12 := hΦ 12 _ rfl
    obtain rfl : v12 = _ := p12
    have p13 := hΦ 13 _ rfl
    obtain ⟨cs13, rfl, A13, n13, c13, rfl, h13⟩ := p13
    have p14 := hΦ 14 _ rfl
    obtain rfl : v14 = _ := p14
    have p15 := hΦ 15 _ rfl
    obtain rfl : v15 = _ := p15
    have p16 := hΦ 16 _ rfl
    obtain ⟨A16, n16, c16, rfl, h16⟩ := p16
    have p17 := hΦ 17 _ rfl
    obtain ⟨cs17, rfl, A17, n17, c17, rfl, h17⟩ := p17
    have p18 := hΦ 18 _ rfl
    obtain ⟨g18, cs18, rfl, hg18, hcg18, hk18, hf18, hn18, ho18⟩ := p18
    clear hΦ
    simp only [List.take_succ_cons, List.take_zero, putL, tailW, Act.put, List.setIfInBounds_toArray, List.set_cons_zero, List.set_cons_succ]
    have hsg := (HST.out.grow hbc)
    refine wpOp_abs rfl rfl fun K hK => ?_
    refine wp_append_Own (α := FieldD) _ _ 108 rfl 48 Tryz.fldTy rfl hsg.own ⟨g18, 0, none⟩ 4 4 cs18 [choF kTies x.ties, choF kOvervote x.over, choF kSkip x.skip, ⟨kCands, x.cands, 0⟩] rfl (by rfl) (hf18.keep (fun b hb => hsg.apart_of HST.out hb.1.1 hb.1.2.1) (Keeps.refl _ _)) (row_cells hk18) ho18 (by rw [HLEN.out]; simp) (Nat.le_trans hsg.base (Nat.le_refl _)) fun v9 w9 q1 q2 q3 => hK _ _ ?_
    clear hK K
    obtain ⟨A9, n9, c9, rfl, hn9⟩ := q1.slice
    have HQ1 := Lib.hid q1
    have HQ2 := Lib.hid q2
    have HQ3 := Lib.hid q3
    have hkg := hsg.blk.grown q2 (fun e => hsg.ne e.symm)
    have y2 : w9.cell? ⟨g14, 2, none⟩ = some (.slice (some ⟨g13, 0, none⟩) 3 3) := hkg.cell 2
    have y3 : w9.frozen? ⟨g14, 2, none⟩ = false := hkg.frozen 2
    have HSG := Lib.hid hsg
    have HBC := Lib.hid hbc
    clear q1 q2 q3 hn9 hkg hsg hbc hg18 hcg18 hk18 hf18 hn18 ho18
    refine wpOp_runs (w' := w9) rfl rfl (.pointer (some ⟨g14, 2, none⟩)) ?_ ?_
    · go_simp
    try simp only [Act.put, List.getElem_toArray, List.getElem_cons_zero, List.getElem_cons_succ, List.setIfInBounds_toArray, List.set_cons_zero, List.set_cons_succ]
    refine wpOp_abs rfl rfl fun K hK => ?_
    go_simp
    refine hK _ _ ?_
    clear hK K
    have hst := HSG.out.next HQ1.out HQ2.out HQ3.out
    obtain ⟨w4, hw2⟩ : ∃ q, w9.setCell ⟨g14, 2, none⟩ (.slice A9 n9 c9) = q := ⟨_, rfl⟩
    rw [hw2] at hst
    rw [hw2]
    have hbx := HB1.out.trans (hst.bel.mono HB1.out.size)
    have hkr4 := HKR.out.keep hst.bel
    have d0 : w4.cell? ⟨g14, 0, none⟩ = some (.string kContest) := hst.blk.cell 0
    have d1 : w4.cell? ⟨g14, 1, none⟩ = some (.string x.name) := hst.blk.cell 1
    have d2 : w4.cell? ⟨g14, 2, none⟩ = some (.slice A9 n9 c9) := hst.blk.cell 2
    have d3 : w4.cell? ⟨g14, 3, none⟩ = some (.int .i64 0) := hst.blk.cell 3
    have z0 : w4.cell? ⟨w.heap.size + 1, 0, none⟩ = some (.string ⟨#[]⟩) := hkr4.cell 0
    have z1 : w4.cell? ⟨w.heap.size + 1, 1, none⟩ = some (.string ⟨#[]⟩) := hkr4.cell 1
    have z2 : w4.cell? ⟨w.heap.size + 1, 2, none⟩ = some (.slice none 0 0) := hkr4.cell 2
    have z3 : w4.cell? ⟨w.heap.size + 1, 3, none⟩ = some (.int .i64 0) := hkr4.cell 3
    have zf0 : w4.frozen? ⟨w.heap.size + 1, 0, none⟩ = false := hkr4.frozen 0
    have zf1 : w4.frozen? ⟨w.heap.size + 1, 1, none⟩ = false := hkr4.frozen 1
    have zf2 : w4.frozen? ⟨w.heap.size + 1, 2, none⟩ = false := hkr4.frozen 2
    have zf3 : w4.frozen? ⟨w.heap.size + 1, 3, none⟩ = false := hkr4.frozen 3
    have HST4 := Lib.hid hst
    have HKR4 := Lib.hid hkr4
    have HBX := Lib.hid hbx
    clear hst hw2 y2 y3 hkr4 hbx h5 h9 h13 h16 h17
    go_wp2_with fail
    refine ret_struct (x := contestP x) (S := fun b => w1.heap.size ≤ b ∧ b < w4.heap.size) (cs := [.string kContest, .string x.name, .slice A9 n9 c9, .int .i64 0]) rfl rfl (Nat.le_succ _) HKR4.out rfl Tryz.underlying110 rfl (by kernel_rfl) ⟨_, _, _, rfl, ?_⟩ (fun b hb => ⟨⟨Nat.le_trans HB1.out.size hb.1, hb.2⟩, by have := HS1.out; have := hb.1; omega⟩) HBX.out rfl id
    have hrs := HST4.out.rs
    unfold contestP
    rw [HME.out]
    exact hrs
end Go.Proofs.YtjlhbfbdcfajfaaGreatDoor
