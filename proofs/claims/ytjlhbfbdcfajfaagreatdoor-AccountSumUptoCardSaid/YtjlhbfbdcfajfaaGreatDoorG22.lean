/- Lnk5 Cmp1 -/
import Derived.Test.YtjlhbfbdcfajfaaGreatDoorG21
/- schema: builder.link, walked. -/
namespace Go.Proofs.YtjlhbfbdcfajfaaGreatDoor
open Go.RowKit Go.Maps Go.WideMaps

set_option maxRecDepth 20000 in
set_option maxHeartbeats 4000000 in
theorem link_ok {w : World} {B bb N : Nat} {τ : Nat → Tag} {s : BldD} (h : Bld w B bb N τ s) (hN : N < 274877906944) (hp : s.e.prec.length ≤ 274877906944) (hls : ∀ v ∈ s.vals, ∀ k, (v.s k).length ≤ 274877906944) :
    Calls Tryz.prog 67 #[.pointer (some ⟨bb, 0, none⟩)] w (RetLnk w B bb s (linkP s)) := by
  obtain ⟨⟨mn, f, vP, vC, vS, vN, vD, vV, rC, rS, rV, h⟩, hl⟩ := h
  obtain ⟨AP, nP, cP, rfl, hpr⟩ := h.dP
  obtain ⟨AC, nC, cC, rfl, hnC⟩ := h.oC.slice
  obtain ⟨AS, nS, cS, rfl, hnS⟩ := h.oS.slice
  obtain ⟨AV, nV, cV, rfl, hnV⟩ := h.oV.slice
  have hb1 : Below w.heap.size w (w.alloc (.cells #[.int .i64 0, .int .i64 0] 76)) := (Below.refl _ _).alloc (Nat.le_refl _) _
  have hk2 : Blk (w.alloc (.cells #[.int .i64 0, .int .i64 0] 76)) w.heap.size 76 #[.int .i64 0, .int .i64 0] := Blk.new _ _ _
  have hs1 : (w.alloc (.cells #[.int .i64 0, .int .i64 0] 76)).heap.size = w.heap.size + 1 := by simp
  obtain ⟨w1, hw1⟩ : ∃ x, w.alloc (.cells #[.int .i64 0, .int .i64 0] 76) = x := ⟨_, rfl⟩
  rw [hw1] at hb1 hk2 hs1
  have hbb := h.blk.keep hb1
  have c4 : w1.cell? ⟨bb, 4, none⟩ = some (.slice AP nP cP) := hbb.cell 4
  have hBw : B ≤ w.heap.size := Nat.le_of_lt (Nat.lt_of_le_of_lt h.hb h.blk.lt)
  have hlP := hpr.len
  rw [hlP] at hp
  obtain ⟨z, hz⟩ : ∃ z, linkP s = z := ⟨_, rfl⟩
  rw [hz]
  have hzz := hz.symm
  unfold linkP at hzz
  rw [hlP] at hzz
  obtain ⟨i0, hi0, hi1, hi2, hi3⟩ := Tryz.boolTy
  have HZ := Lib.hid hzz
  have HH := Lib.hid h
  have HL := Lib.hid hl
  have HW1 := Lib.hid hw1
  have HB1 := Lib.hid hb1
  have HK2 := Lib.hid hk2
  have HS1 := Lib.hid hs1
  have HPR := Lib.hid hpr
  have HLP := Lib.hid hlP
  have HNC := Lib.hid hnC
  have HNS := Lib.hid (show nS = s.e.styl.length by rw [hnS]; exact h.dS.1)
  have HNV := Lib.hid (show nV = s.vals.length by rw [hnV]; exact h.dV.1)
  have HLS := Lib.hid hls
  have HI0 := Lib.hid hi0
  have HI1 := Lib.hid hi1
  have HI2 := Lib.hid hi2
  have HI3 := Lib.hid hi3
  clear hz hzz h hl hw1 hb1 hk2 hs1 hbb hpr hlP hnC hnS hnV hls hi0 hi1 hi2 hi3
  go_enter Tryz.func67, Tryz.ntmps67
  go_upto_region 1 with (fail)
  rw [HW1.out]
  go_upto_region 2 with (refine wpList_make_Own (α := Bool) _ rfl _ _ _ rfl rfl (w.heap.size + 1) i0 (.bool false) Tryz.underlying119 HI0.out HI1.out HI2.out rfl .i64 .i64 (nP : Int) (nP : Int) nP rfl rfl rfl rfl (by rw [HI3.out]; omega) (by unfold maxLen; omega) (by rw [HS1.out]; exact Nat.le_refl _) false NoBlk (fun _ h => h.elim) (fun _ _ => rfl) ?_; intro w2 ho2 hg2; have HO2 := Lib.hid ho2; have HB2 := Lib.hid ((Below.refl w1.heap.size w1).grown hg2 (Nat.le_refl _) (fun k hk => by cases hk)); clear ho2 hg2)
  rw [HS1.out] at HO2
  rw [HS1.out]
  obtain ⟨gU, hgU⟩ : ∃ x, w.heap.size + 1 = x := ⟨_, rfl⟩
  have HGU := Lib.hid hgU
  have hO2 : Own w2 NoBlk (w.heap.size + 1) 4 (.slice (some ⟨gU, 0, none⟩) nP nP) (List.replicate nP false) := by rw [← hgU]; exact HO2.out
  rw [hgU]
  clear hgU HO2 c4
  have hb02 := below_more HB1.out HB2.out
  have hbb2 := HH.out.blk.keep hb02
  have c15 : w2.cell? ⟨bb, 15, none⟩ = some (.slice AV nV cV) := hbb2.cell 15
  have hnV : nV ≤ 274877906944 := by rw [HNV.out]; exact Nat.le_trans HH.out.lV (Nat.le_of_lt hN)
  have HST : Hid (LnkO w w2 B gU nP τ s (.slice AS nS cS) 0 (List.replicate nP false) rS []) := Lib.hid
    ⟨⟨hb02.mono hBw, Kept.of_below hb02, HK2.out.keep HB2.out, HH.out.oS.below hb02, hO2⟩, rfl, HH.out.dS.1, by simp, fun j x y hj => by omega, fun j x y _ hx hy => HH.out.dS.2 j x y hx hy⟩
  clear hO2 hb02 hbb2 HK2 HB2 HB1 HW1 HS1 HI0 HI1 HI2 HI3
  go_wp2_with fail
  go_loopw [25] (fun iv wr => ∃ (i : Nat) (used : List Bool) (rows : List (RawN 3)) (done : List StyleD), iv = .int .i64 i ∧ i ≤ nV ∧ z = linkGo s.e.prec s.e.cont (s.vals.drop i) (s.e.styl.drop i) used done ∧ LnkO w wr B gU nP τ s (.slice AS nS cS) i used rows done) (fun iv _ => nV - (intOf iv).toNat)
  case atStart => exact ⟨0, _, _, _, rfl, Nat.zero_le _, HZ.out, HST.out⟩
  case round =>
    clear HZ HST c15
    obtain ⟨i, used, rows, done, rfl, hi, hzi, ho⟩ := hrel
    have HZI := Lib.hid hzi
    have HO := Lib.hid ho
    have hkb := HH.out.blk.tag ho.W.kept (by rw [HH.out.tb]; simp [One])
    have c4 : wr.cell? ⟨bb, 4, none⟩ = some (.slice AP nP cP) := hkb.cell 4
    have c5 : wr.cell? ⟨bb, 5, none⟩ = some (.slice AC nC cC) := hkb.cell 5
    have c6 : wr.cell? ⟨bb, 6, none⟩ = some (.slice AS nS cS) := hkb.cell 6
    have HKB := Lib.hid hkb
    clear hzi ho hkb
    by_cases hlt : i < nV
    · have hlt2 : (i : Int) < (nV : Int) := by omega
      have hiv : i < s.vals.length := by rw [← HNV.out]; exact hlt
      have his : i < s.e.styl.length := by rw [← HL.out]; exact hiv
      have hir : i < rV.length := by rw [HH.out.dV.1]; exact hiv
      have hirw : i < rows.length := by rw [HO.out.ln]; exact his
      obtain ⟨v, hv⟩ : ∃ v, s.vals[i]? = some v := ⟨_, List.getElem?_eq_getElem hiv⟩
      obtain ⟨sy, hsy⟩ : ∃ v, s.e.styl[i]? = some v := ⟨_, List.getElem?_eq_getElem his⟩
      obtain ⟨xV, hxV⟩ : ∃ v, rV[i]? = some v := ⟨_, List.getElem?_eq_getElem hir⟩
      obtain ⟨xS, hxS⟩ : ∃ v, rows[i]? = some v := ⟨_, List.getElem?_eq_getElem hirw⟩
      have hvd := HH.out.dV.2 i xV v hxV hv
      obtain ⟨m1, m2, m3, M, fl, vNv, vDv, hcs, d1, d2, d3, hmn, hml, hls, hmln, hvn, hvd2⟩ := hvd
      obtain ⟨ANv, nNv, cNv, rfl, _⟩ := hvn
      obtain ⟨ADv, nDv, cDv, rfl, _⟩ := hvd2
      have hpl := HO.out.rest i xS sy (Nat.le_refl _) hxS hsy
      have hxSe : xS = styRow sy.name (.slice none 0 0) (.slice none 0 0) := by
        obtain ⟨cs, hl⟩ := xS
        have : cs = styleRaw sy := hpl.1
        subst this
        rfl
      have hoV : Own wr NoBlk B 168 (.slice AV nV cV) rV := HH.out.oV.tag HO.out.W.kept (fun g hg => by rw [HH.out.tV g hg]; simp [One])
      obtain ⟨gV, rfl⟩ := hoV.rawSome (by omega)
      obtain ⟨gS, rfl⟩ := HH.out.oS.rawSome (by rw [HNS.out]; omega)
      have hcV : ∀ (j : Nat) u, xV.cells[j]? = some u → wr.cell? ⟨gV, i * 7 + j, none⟩ = some u := fun j u hu => (hoV.rawCell hxV hu).1
      rw [hcs] at hcV
      have r0 : wr.cell? ⟨gV, i * 7, none⟩ = some (.map (some m1)) := hcV 0 _ rfl
      have r1 : wr.cell? ⟨gV, i * 7 + 1, none⟩ = some (.map (some m2)) := hcV 1 _ rfl
      have r2 : wr.cell? ⟨gV, i * 7 + 2, none⟩ = some (.map (some m3)) := hcV 2 _ rfl
      have r3 : wr.cell? ⟨gV, i * 7 + 3, none⟩ = some (.bool v.risk.neg) := hcV 3 _ rfl
      have r4 : wr.cell? ⟨gV, i * 7 + 4, none⟩ = some (.slice ANv nNv cNv) := hcV 4 _ rfl
      have r5 : wr.cell? ⟨gV, i * 7 + 5, none⟩ = some (.slice ADv nDv cDv) := hcV 5 _ rfl
      have r6 : wr.cell? ⟨gV, i * 7 + 6, none⟩ = some (.string v.seed) := hcV 6 _ rfl
      have hcapV : (i : Int) ≤ (cV : Int) := by have := hoV.rawLen; omega
      have hcapS : (i : Int) < (nS : Int) := by rw [HNS.out]; omega
      have hcapS2 : (i : Int) ≤ (cS : Int) := by have := HH.out.oS.rawLen; omega
      obtain ⟨AL, nL, cL, hfl, hrl⟩ := hls.at_ kPrecincts
      obtain ⟨AM, nM, cM, hfm, hrm⟩ := hls.at_ kContests
      have hzg : z = linkGo s.e.prec s.e.cont (v :: s.vals.drop (i + 1)) (sy :: s.e.styl.drop (i + 1)) used done := by rw [HZI.out, drop_cons' hv, drop_cons' hsy]
      have hlenL := HLS.out v (List.mem_of_getElem? hv) kPrecincts
      have hlenM := HLS.out v (List.mem_of_getElem? hv) kContests
      rw [hrl.len] at hlenL
      rw [hrm.len] at hlenM
      -- the box of the values
      have hb3 : Below wr.heap.size wr (wr.alloc (.cells #[.map (some m1), .map (some m2), .map (some m3), .bool v.risk.neg, (.slice ANv nNv cNv), (.slice ADv nDv cDv), .string v.seed] 168)) := (Below.refl _ _).alloc (Nat.le_refl _) _
      have hk5 : Blk (wr.alloc (.cells #[.map (some m1), .map (some m2), .map (some m3), .bool v.risk.neg, (.slice ANv nNv cNv), (.slice ADv nDv cDv), .string v.seed] 168)) wr.heap.size 168 #[.map (some m1), .map (some m2), .map (some m3), .bool v.risk.neg, (.slice ANv nNv cNv), (.slice ADv nDv cDv), .string v.seed] := Blk.new _ _ _
      have hs3 : (wr.alloc (.cells #[.map (some m1), .map (some m2), .map (some m3), .bool v.risk.neg, (.slice ANv nNv cNv), (.slice ADv nDv cDv), .string v.seed] 168)).heap.size = wr.heap.size + 1 := by simp
      obtain ⟨w3, hw3⟩ : ∃ q, wr.alloc (.cells #[.map (some m1), .map (some m2), .map (some m3), .bool v.risk.neg, (.slice ANv nNv cNv), (.slice ADv nDv cDv), .string v.seed] 168) = q := ⟨_, rfl⟩
      rw [hw3] at hb3 hk5 hs3
      have hW3 := HO.out.W.below hb3 hBw
      have hgU := HO.out.W.gU_lt
      have hI : LnkI w w3 B gU nP τ (.slice (some ⟨gS, 0, none⟩) nS cS) i rows done (wr.heap.size + 1) wr.heap.size #[.map (some m1), .map (some m2), .map (some m3), .bool v.risk.neg, (.slice ANv nNv cNv), (.slice ADv nDv cDv), .string v.seed] sy.name used (.slice none 0 0) (.slice none 0 0) [] [] :=
        { W := by
            have : rows.set i (styRow sy.name (.slice none 0 0) (.slice none 0 0)) = rows := by
              rw [← hxSe]
              obtain ⟨hh, he⟩ := List.getElem?_eq_some_iff.1 hxS
              rw [← he]
              exact List.set_getElem_self hh
            rw [this]
            exact hW3
          lu := HO.out.lu
          o1 := Own.nil _ _ _
          o2 := Own.nil _ _ _
          d := fun g hg => by cases hg
          fin := fun j x y hj hx hy => Rep.keep (HO.out.fin j x y hj hx hy) (fun b hb => ⟨hb.1, Nat.lt_succ_of_lt hb.2.1, hb.2.2⟩) ((Keeps.of_below hb3).sub fun b hb => hb.2.1)
          blk5 := hk5
          h5 := HO.out.W.blkF.lt
          h51 := Nat.lt_succ_self _
          hU := by omega
          g5U := by omega
          hb := by omega }
      have hkb3 := HKB.out.keep hb3
      have e6 : w3.cell? ⟨bb, 6, none⟩ = some (.slice (some ⟨gS, 0, none⟩) nS cS) := hkb3.cell 6
      have t1 : w3.cell? ⟨wr.heap.size, 1, none⟩ = some (.map (some m2)) := hk5.cell 1
      have hkept3 := hW3.kept
      have HM2 := Lib.hid (hml.tag hkept3 (by rw [d2.2.2]; simp [One]))
      have HI3 := Lib.hid hI
      have HFL := Lib.hid hfl
      have HFM := Lib.hid hfm
      have HRL := Lib.hid hrl
      have HRM := Lib.hid hrm
      have HML := Lib.hid hml
      have HMLN := Lib.hid hmln
      have HD2 := Lib.hid d2
      have HD3 := Lib.hid d3
      have HZG := Lib.hid hzg
      have HW3 := Lib.hid hw3
      have HS3 := Lib.hid hs3
      have HROWS := Lib.hid hirw
      have HSYN := Lib.hid hsy
      have HGU := Lib.hid hgU
      clear hmln hls hml hmn d1 d2 d3 hcs hpl hxSe hoV hcV hfl hfm hrl hrm hzg hb3 hk5 hs3 hw3 hW3 hI hkb3 hkept3 HZI hgU hxV hxS hv hsy hirw hir his hiv
      go_upto_region 5 with (fail)
      rw [HW3.out]
      clear r0 r1 r2 r3 r4 r5 r6 c4 c5 c6
      go_upto_region 7 with (at_lookup; refine wpList_lookup_hit rfl _ _ _ 22 rfl Tryz.underlying132 (.slice none 0 0) rfl rfl HM2.out kPrecincts rfl (by decide) _ HFL.out ?_)
      clear e6 t1
      obtain ⟨b1, hb1⟩ : ∃ x, wr.heap.size + 1 = x := ⟨_, rfl⟩
      obtain ⟨g5, hg5⟩ : ∃ x, wr.heap.size = x := ⟨_, rfl⟩
      rw [hb1, hg5] at HI3
      rw [hg5]
      have hwg5 : w.heap.size < g5 := HI3.out.h5
      have HB1 := Lib.hid hb1
      have HG5 := Lib.hid hg5
      clear hb1 hg5
      go_loopw [41] (fun iv wq => ∃ (k : Nat) (used1 : List Bool) (v1 : Value) (a1 : List Int), iv = .int .i64 k ∧ k ≤ nL ∧ linkPrec s.e.prec (v.l kPrecincts) (v.s kPrecincts) used [] = linkPrec s.e.prec (v.l kPrecincts) ((v.s kPrecincts).drop k) used1 a1 ∧ a1.length = k ∧ LnkI w wq B gU nP τ (.slice (some ⟨gS, 0, none⟩) nS cS) i rows done b1 g5 #[.map (some m1), .map (some m2), .map (some m3), .bool v.risk.neg, .slice ANv nNv cNv, .slice ADv nDv cDv, .string v.seed] sy.name used1 v1 (.slice none 0 0) a1 []) (fun iv _ => nL - (intOf iv).toNat)
      case atStart => exact ⟨0, used, _, [], rfl, Nat.zero_le _, rfl, rfl, HI3.out⟩
      case round =>
        clear HI3
        obtain ⟨k, used1, v1, a1, rfl, hk, hlk, hal, hI⟩ := hrel
        have hkept := hI.W.kept
        have hkb := HH.out.blk.tag hkept (by rw [HH.out.tb]; simp [One])
        have c4 : wr.cell? ⟨bb, 4, none⟩ = some (.slice AP nP cP) := hkb.cell 4
        have hdat : Keeps (Dat w B τ) w wr := hkept.keeps (by simp [One])
        have HRLq := Lib.hid (HRL.out.keep (fun _ h => h) hdat)
        have HPRq := Lib.hid (HPR.out.keep (fun _ h => h) hdat)
        have HMLq := Lib.hid (HML.out.tag hkept (by rw [HD2.out.2.2]; simp [One]))
        have HMLNq := Lib.hid (HMLN.out.tag hkept (by rw [HD3.out.2.2]; simp [One]))
        have hb5 := hI.blk5
        have t1 : wr.cell? ⟨g5, 1, none⟩ = some (.map (some m2)) := hb5.cell 1
        have t2 : wr.cell? ⟨g5, 2, none⟩ = some (.map (some m3)) := hb5.cell 2
        have hbF := hI.W.blkF
        have x0 : wr.cell? ⟨w.heap.size, 0, none⟩ = some (.int .i64 0) := hbF.cell 0
        have x1 : wr.cell? ⟨w.heap.size, 1, none⟩ = some (.int .i64 0) := hbF.cell 1
        have y0 : wr.frozen? ⟨w.heap.size, 0, none⟩ = false := hbF.frozen 0
        have y1 : wr.frozen? ⟨w.heap.size, 1, none⟩ = false := hbF.frozen 1
        have HLK := Lib.hid hlk
        have HAL := Lib.hid hal
        have HII := Lib.hid hI
        have HKBq := Lib.hid hkb
        have HBF := Lib.hid hbF
        clear hkept hkb hdat hb5 hbF hlk hal hI
        by_cases hlt3 : k < nL
        · have hlt4 : (k : Int) < (nL : Int) := by omega
          obtain ⟨bL, oL, x, rfl, _, hx, e1⟩ := HRLq.out.str_at hlt3
          have hcapL : (k : Int) ≤ (cL : Int) := by have := HRLq.out.cap; omega
          have hstep : linkPrec s.e.prec (v.l kPrecincts) ((v.s kPrecincts).drop k) used1 a1 = if Lib.idxOfS s.e.prec x < 0 then .error ⟨2, v.l kPrecincts⟩ else if used1.getD (Lib.idxOfS s.e.prec x).toNat false = true then .error ⟨3, v.l kPrecincts⟩ else linkPrec s.e.prec (v.l kPrecincts) ((v.s kPrecincts).drop (k + 1)) (used1.set (Lib.idxOfS s.e.prec x).toNat true) (a1 ++ [Lib.idxOfS s.e.prec x]) := by
            rw [drop_cons' hx]; rfl
          obtain ⟨J, hJ⟩ : ∃ J, Lib.idxOfS s.e.prec x = J := ⟨_, rfl⟩
          have hidx := idxS_ok HPRq.out x
          have hrange := idxOfS_range s.e.prec x
          rw [hJ] at hidx hstep hrange
          rw [HLP.out] at hrange
          have HST := Lib.hid hstep
          have HIDX := Lib.hid hidx
          clear hx hstep hidx hJ
          by_cases hneg : J < 0
          · have hzf : z = .error ⟨2, v.l kPrecincts⟩ := by
              rw [HZG.out]
              exact linkGo_prec (by rw [HLK.out, HST.out, if_pos hneg])
            have HZF := Lib.hid hzf
            have hnt : (J < 0) = True := eq_true hneg
            have hnt2 : decide (J < 0) = true := decide_eq_true hneg
            clear hzf hrange hneg
            go_wp2_with (first | (go_at_call 98; refine HIDX.out.mono ?_; rintro e w' ⟨rfl, rfl⟩) | (at_lookup; refine wpList_lookup_hit rfl _ _ _ 3 rfl Tryz.underlying166 (.int .i64 0) rfl rfl HMLNq.out kPrecincts rfl (by decide) _ (ints_at v.ln kPrecincts) ?_))
            refine ret_fault (no := 2) (line := v.l kPrecincts) rfl rfl HBF.out rfl rfl ?_
            exact fin_err HII.out.W.bel hBw 2 _ HZF.out
          obtain ⟨j, rfl, hj⟩ := hrange.resolve_left hneg
          have hjl : j < used1.length := by rw [HII.out.lu]; exact hj
          obtain ⟨b, hbu⟩ : ∃ b, used1[j]? = some b := ⟨_, List.getElem?_eq_getElem hjl⟩
          obtain ⟨gX, uX, heX, _, _, hrX, hcX, hfX⟩ := HII.out.W.usedO.get1 rfl hbu
          injection heX with heX
          injection heX with heX
          subst heX
          have hrX' : [uX] = [.bool b] := hrX
          injection hrX' with hrX'
          subst hrX'
          have hst2 := HST.out
          rw [if_neg hneg, Int.toNat_natCast, List.getD_eq_getElem?_getD, hbu, Option.getD_some] at hst2
          have HST2 := Lib.hid hst2
          have hnf : ((j : Int) < 0) = False := eq_false hneg
          have hnf2 : decide ((j : Int) < 0) = false := decide_eq_false hneg
          have hjP : (j : Int) ≤ (nP : Int) := by omega
          have hjP2 : (j : Int) < (nP : Int) := by omega
          clear hst2 HST hneg hbu hrange
          cases b
          case true =>
            have hzf : z = .error ⟨3, v.l kPrecincts⟩ := by
              rw [HZG.out]
              exact linkGo_prec (by rw [HLK.out, HST2.out, if_pos rfl])
            have HZF := Lib.hid hzf
            clear hzf
            go_wp2_with (first | (go_at_call 98; refine HIDX.out.mono ?_; rintro e w' ⟨rfl, rfl⟩) | (at_lookup; refine wpList_lookup_hit rfl _ _ _ 3 rfl Tryz.underlying166 (.int .i64 0) rfl rfl HMLNq.out kPrecincts rfl (by decide) _ (ints_at v.ln kPrecincts) ?_))
            refine ret_fault (no := 3) (line := v.l kPrecincts) rfl rfl HBF.out rfl rfl ?_
            exact fin_err HII.out.W.bel hBw 3 _ HZF.out
          case false =>
            have hst2 := HST2.out
            rw [if_neg (by simp)] at hst2
            have HST3 := Lib.hid hst2
            clear hst2
            have hgSw : gS < w.heap.size := (HH.out.oS.lt gS rfl).2
            have hgSB : B ≤ gS := (HH.out.oS.lt gS rfl).1
            have hgSt : τ gS = .ss := HH.out.tS gS rfl
            have hIm := HII.out.mark hBw (fun g hg => (HH.out.oS.lt g hg).2) j
            obtain ⟨A1, n1, c1, rfl, hn1⟩ := hIm.o1.slice
            have hrs := hIm.W.own.rawCell (i := i) (List.getElem?_set_self HROWS.out) (j := 1) (u := .slice A1 n1 c1) rfl
            obtain ⟨wm, hwm⟩ : ∃ x, wr.setCell ⟨gU, j, none⟩ (.bool true) = x := ⟨_, rfl⟩
            rw [hwm] at hIm hrs
            have s1 : wm.cell? ⟨gS, i * 3 + 1, none⟩ = some (.slice A1 n1 c1) := hrs.1
            have HIM := Lib.hid hIm
            have HWM := Lib.hid hwm
            have HSZm := Lib.hid (show w.heap.size < b1 ∧ b1 ≤ wm.heap.size from ⟨Nat.lt_trans hIm.h5 hIm.h51, hIm.hb⟩)
            have HO1m := Lib.hid hIm.o1
            have HBm := Lib.hid hIm.W.bel
            have HOWm := Lib.hid hIm.W.own
            clear hIm hwm hrs hn1
            go_upto_region 15 with (first | (go_at_call 98; refine HIDX.out.mono ?_; rintro e w' ⟨rfl, rfl⟩) | (at_lookup; refine wpList_lookup_hit rfl _ _ _ 3 rfl Tryz.underlying166 (.int .i64 0) rfl rfl HMLNq.out kPrecincts rfl (by decide) _ (ints_at v.ln kPrecincts) ?_))
            rw [HWM.out]
            clear c4 t1 t2 x0 x1 y0 y1 e1 hcX hfX
            go_wp2_with (at_builtin; refine wpList_append_gen (α := Int) (w0 := w) (B := B) (base := b1) rfl _ _ 84 rfl 8 Tryz.intTy rfl HO1m.out HBm.out (Nat.le_of_lt (Nat.lt_of_le_of_lt hBw HSZm.out.1)) HSZm.out.2 [.int .i64 (j : Int)] (j : Int) 1 rfl rfl 3 (by simp [Value.oneCell']) (by rw [HAL.out]; omega) ?_; intro v4 w4 hown4 hb4 hg4 hl4; have hra := rawAfter HOWm.out (List.getElem?_set_self HROWS.out) (j := 1) (u := .slice A1 n1 c1) rfl hg4 (fun e => by have := (HO1m.out.lt gS e).1; have := HSZm.out.1; omega); obtain ⟨A4, n4, c4, rfl, hn4⟩ := hown4.slice; have q1 : w4.cell? ⟨gS, i * 3 + 1, none⟩ = some (.slice A1 n1 c1) := hra.1; have q2 : w4.frozen? ⟨gS, i * 3 + 1, none⟩ = false := hra.2; have HO4 := Lib.hid hown4; have HG4 := Lib.hid hg4; have HL4 := Lib.hid hl4; clear hown4 hb4 hg4 hl4 hn4 hra)
            have hnew := HIM.out.app1 hBw rfl hgSw hgSt hgSB HROWS.out HO4.out HG4.out HL4.out
            go_roundw
            case rel => exact ⟨k + 1, used1.set j true, _, a1 ++ [(j : Int)], by go_num, by omega, by rw [HLK.out, HST3.out], by simp [HAL.out], hnew⟩
            case measure => simp [intOf]; omega
        · have hkn : k = nL := by omega
          have hpr : linkPrec s.e.prec (v.l kPrecincts) (v.s kPrecincts) used [] = .ok (used1, a1) := by
            rw [HLK.out, List.drop_eq_nil_of_le (by rw [HRL.out.len]; omega)]
            rfl
          have HPRE := Lib.hid hpr
          clear hpr hkn HLK HAL c4
          go_upto_region 18 with (at_lookup; refine wpList_lookup_hit rfl _ _ _ 22 rfl Tryz.underlying132 (.slice none 0 0) rfl rfl HMLq.out kContests rfl (by decide) _ HFM.out ?_)
          clear t1 t2 x0 x1 y0 y1
          have HIC := Lib.hid HII.out
          clear HKBq HMLq HMLNq HRLq HPRq HBF HII
          go_loopw [86] (fun iv wr => ∃ (k : Nat) (v2 : Value) (a2 : List Int), iv = .int .i64 k ∧ k ≤ nM ∧ linkCont s.e.cont (v.l kContests) (v.s kContests) [] = linkCont s.e.cont (v.l kContests) ((v.s kContests).drop k) a2 ∧ a2.length = k ∧ LnkI w wr B gU nP τ (.slice (some ⟨gS, 0, none⟩) nS cS) i rows done b1 g5 #[.map (some m1), .map (some m2), .map (some m3), .bool v.risk.neg, .slice ANv nNv cNv, .slice ADv nDv cDv, .string v.seed] sy.name used1 v1 v2 a1 a2) (fun iv _ => nM - (intOf iv).toNat)
          case atStart => exact ⟨0, _, [], rfl, Nat.zero_le _, rfl, rfl, HIC.out⟩
          case round =>
            clear HIC
            obtain ⟨k2, v2, a2, rfl, hk2, hlk, hal, hI⟩ := hrel
            have hkept := hI.W.kept
            have hdat : Keeps (Dat w B τ) w wr := hkept.keeps (by simp [One])
            have HRMq := Lib.hid (HRM.out.keep (fun _ h => h) hdat)
            have HLK := Lib.hid hlk
            have HAL := Lib.hid hal
            have HII := Lib.hid hI
            clear hkept hdat hlk hal hI
            by_cases hlt5 : k2 < nM
            · have hlt6 : (k2 : Int) < (nM : Int) := by omega
              obtain ⟨bM, oM, x, rfl, _, hx, e1⟩ := HRMq.out.str_at hlt5
              have hcapM : (k2 : Int) ≤ (cM : Int) := by have := HRMq.out.cap; omega
              have hstep : linkCont s.e.cont (v.l kContests) ((v.s kContests).drop k2) a2 = if idxContest x s.e.cont 0 < 0 then .error ⟨2, v.l kContests⟩ else linkCont s.e.cont (v.l kContests) ((v.s kContests).drop (k2 + 1)) (a2 ++ [idxContest x s.e.cont 0]) := by
                rw [drop_cons' hx]; rfl
              -- the box of the name
              have hb6 : Below wr.heap.size wr (wr.alloc (.cells #[.string x] 9)) := (Below.refl _ _).alloc (Nat.le_refl _) _
              have hk6 : Blk (wr.alloc (.cells #[.string x] 9)) wr.heap.size 9 #[.string x] := Blk.new _ _ _
              obtain ⟨w6, hw6⟩ : ∃ q, wr.alloc (.cells #[.string x] 9) = q := ⟨_, rfl⟩
              rw [hw6] at hb6 hk6
              have hI6 := HII.out.below hb6 hBw
              have hkept := hI6.W.kept
              have hdat : Keeps (Dat w B τ) w w6 := hkept.keeps (by simp [One])
              have hkb := HH.out.blk.tag hkept (by rw [HH.out.tb]; simp [One])
              have c5 : w6.cell? ⟨bb, 5, none⟩ = some (.slice AC nC cC) := hkb.cell 5
              have hC : RS w6 (fun b => b < w6.heap.size) AC nC cC s.e.cont :=
                RS.of_raw (HH.out.oC.tag hkept (fun g hg => by rw [HH.out.tC g hg]; simp [One])) rfl HH.out.dC.1 (fun j x y hx hy => Rep.keep (HH.out.dC.2 j x y hx hy) (fun b hb => Nat.lt_of_lt_of_le hb.2.1 hkept.size) hdat) (fun g hg => Nat.lt_of_lt_of_le (HH.out.oC.lt g hg).2 hkept.size)
              have hidx := idxC_ok hC (fun _ h => h) wr.heap.size x (hk6.cell 0)
              obtain ⟨J, hJ⟩ : ∃ J, idxContest x s.e.cont 0 = J := ⟨_, rfl⟩
              rw [hJ] at hidx hstep
              have HST := Lib.hid hstep
              have HIDX := Lib.hid hidx
              have HI6 := Lib.hid hI6
              have HW6 := Lib.hid hw6
              clear hx hstep hidx hJ hb6 hk6 hw6 hI6 hkept hdat hkb hC
              go_upto_region 20 with (fail)
              rw [HW6.out]
              go_upto_region 21 with (go_at_call 99; refine HIDX.out.mono ?_; rintro e w7 ⟨rfl, hb7⟩; have HI7 := Lib.hid (HI6.out.below hb7 hBw); clear hb7)
              have hb5 := HI7.out.blk5
              have t2 : w7.cell? ⟨g5, 2, none⟩ = some (.map (some m3)) := hb5.cell 2
              have hbF := HI7.out.W.blkF
              have x0 : w7.cell? ⟨w.heap.size, 0, none⟩ = some (.int .i64 0) := hbF.cell 0
              have x1 : w7.cell? ⟨w.heap.size, 1, none⟩ = some (.int .i64 0) := hbF.cell 1
              have y0 : w7.frozen? ⟨w.heap.size, 0, none⟩ = false := hbF.frozen 0
              have y1 : w7.frozen? ⟨w.heap.size, 1, none⟩ = false := hbF.frozen 1
              have HMLNq := Lib.hid (HMLN.out.tag HI7.out.W.kept (by rw [HD3.out.2.2]; simp [One]))
              have HBF := Lib.hid hbF
              clear hb5 hbF c5 e1
              by_cases hneg : J < 0
              · have hzf : z = .error ⟨2, v.l kContests⟩ := by
                  rw [HZG.out]
                  exact linkGo_cont HPRE.out (by rw [HLK.out, HST.out, if_pos hneg])
                have HZF := Lib.hid hzf
                have hnt : (J < 0) = True := eq_true hneg
                have hnt2 : decide (J < 0) = true := decide_eq_true hneg
                clear hzf hneg
                go_wp2_with (at_lookup; refine wpList_lookup_hit rfl _ _ _ 3 rfl Tryz.underlying166 (.int .i64 0) rfl rfl HMLNq.out kContests rfl (by decide) _ (ints_at v.ln kContests) ?_)
                refine ret_fault (no := 2) (line := v.l kContests) rfl rfl HBF.out rfl rfl ?_
                exact fin_err HI7.out.W.bel hBw 2 _ HZF.out
              have hst2 := HST.out
              rw [if_neg hneg] at hst2
              have HST3 := Lib.hid hst2
              have hnf : (J < 0) = False := eq_false hneg
              have hnf2 : decide (J < 0) = false := decide_eq_false hneg
              clear hst2 hneg HST x0 x1 y0 y1 t2 HBF HMLNq
              have hgSw : gS < w.heap.size := (HH.out.oS.lt gS rfl).2
              have hgSB : B ≤ gS := (HH.out.oS.lt gS rfl).1
              have hgSt : τ gS = .ss := HH.out.tS gS rfl
              have hI7 := HI7.out
              obtain ⟨A2, n2, c2, rfl, hn2⟩ := hI7.o2.slice
              have hrs := hI7.W.own.rawCell (i := i) (List.getElem?_set_self HROWS.out) (j := 2) (u := .slice A2 n2 c2) rfl
              have s1 : w7.cell? ⟨gS, i * 3 + 2, none⟩ = some (.slice A2 n2 c2) := hrs.1
              have HIM := Lib.hid hI7
              have HSZm := Lib.hid (show w.heap.size < b1 ∧ b1 ≤ w7.heap.size from ⟨Nat.lt_trans hI7.h5 hI7.h51, hI7.hb⟩)
              have HO2m := Lib.hid hI7.o2
              have HBm := Lib.hid hI7.W.bel
              have HOWm := Lib.hid hI7.W.own
              clear hI7 hrs hn2 HI7
              go_wp2_with (at_builtin; refine wpList_append_gen (α := Int) (w0 := w) (B := B) (base := b1) rfl _ _ 84 rfl 8 Tryz.intTy rfl HO2m.out HBm.out (Nat.le_of_lt (Nat.lt_of_le_of_lt hBw HSZm.out.1)) HSZm.out.2 [.int .i64 J] J 1 rfl rfl 3 (by simp [Value.oneCell']) (by rw [HAL.out]; omega) ?_; intro v4 w4 hown4 hb4 hg4 hl4; have hra := rawAfter HOWm.out (List.getElem?_set_self HROWS.out) (j := 2) (u := .slice A2 n2 c2) rfl hg4 (fun e => by have := (HO2m.out.lt gS e).1; have := HSZm.out.1; omega); obtain ⟨A4, n4, c4, rfl, hn4⟩ := hown4.slice; have q1 : w4.cell? ⟨gS, i * 3 + 2, none⟩ = some (.slice A2 n2 c2) := hra.1; have q2 : w4.frozen? ⟨gS, i * 3 + 2, none⟩ = false := hra.2; have HO4 := Lib.hid hown4; have HG4 := Lib.hid hg4; have HL4 := Lib.hid hl4; clear hown4 hb4 hg4 hl4 hn4 hra)
              have hnew := HIM.out.app2 hBw rfl hgSw hgSt hgSB HROWS.out HO4.out HG4.out HL4.out
              go_roundw
              case rel => exact ⟨k2 + 1, _, a2 ++ [J], by go_num, by omega, by rw [HLK.out, HST3.out], by simp [HAL.out], hnew⟩
              case measure => simp [intOf]; omega
            · have hkn : k2 = nM := by omega
              have hpr : linkCont s.e.cont (v.l kContests) (v.s kContests) [] = .ok a2 := by
                rw [HLK.out, List.drop_eq_nil_of_le (by rw [HRM.out.len]; omega)]
                rfl
              have hzn : z = linkGo s.e.prec s.e.cont (s.vals.drop (i + 1)) (s.e.styl.drop (i + 1)) used1 (done ++ [⟨sy.name, a1, a2⟩]) := by
                rw [HZG.out]
                exact linkGo_on HPRE.out hpr
              have HZN := Lib.hid hzn
              have hnext := HO.out.next HROWS.out HII.out
              clear hpr hzn hkn
              go_wp2_with fail
              go_roundw
              case rel => exact ⟨i + 1, used1, _, _, by go_num, by omega, HZN.out, hnext⟩
              case measure => simp [intOf]; omega
    · have hin : i = nV := by omega
      have hzf : z = if used.contains false then .error ⟨6, 0⟩ else .ok done := by
        rw [HZI.out, List.drop_eq_nil_of_le (by rw [← HNV.out]; omega)]
        rfl
      have HZF := Lib.hid hzf
      have hbF := HO.out.W.blkF
      have x0 : wr.cell? ⟨w.heap.size, 0, none⟩ = some (.int .i64 0) := hbF.cell 0
      have x1 : wr.cell? ⟨w.heap.size, 1, none⟩ = some (.int .i64 0) := hbF.cell 1
      have y0 : wr.frozen? ⟨w.heap.size, 0, none⟩ = false := hbF.frozen 0
      have y1 : wr.frozen? ⟨w.heap.size, 1, none⟩ = false := hbF.frozen 1
      have hhas := hasB_ok (HO.out.W.usedO.rs (S' := fun _ => True) (fun _ h => h.elim) (fun _ _ _ => trivial)) false
      obtain ⟨q, hq⟩ : ∃ q, used.contains false = q := ⟨_, rfl⟩
      rw [hq] at hhas hzf
      have HHAS := Lib.hid hhas
      have HZ2 := Lib.hid hzf
      have HBF := Lib.hid hbF
      have hist : i = s.e.styl.length := by rw [hin, HNV.out]; exact HL.out
      have HIST := Lib.hid hist
      clear hin hzf hbF hhas hq HZF hist c4 c5 c6
      cases q
      case true =>
        have hzf : z = .error ⟨6, 0⟩ := by rw [HZ2.out]; rfl
        have HZF := Lib.hid hzf
        clear hzf
        go_wp2_with (go_at_call 101; refine HHAS.out.mono ?_; rintro e w' ⟨rfl, rfl⟩)
        refine ret_fault (no := 6) (line := 0) rfl rfl HBF.out rfl rfl ?_
        exact fin_err HO.out.W.bel hBw 6 0 HZF.out
      case false =>
        have hzf : z = .ok done := by rw [HZ2.out]; rfl
        have HZF := Lib.hid hzf
        clear hzf
        go_wp2_with (go_at_call 101; refine HHAS.out.mono ?_; rintro e w' ⟨rfl, rfl⟩)
        refine ret_fault (no := 0) (line := 0) rfl rfl HBF.out rfl rfl ?_
        exact fin_ok HH.out HO.out HIST.out HZF.out
end Go.Proofs.YtjlhbfbdcfajfaaGreatDoor
/- schema: what Compile needs besides: bounds on what the builder holds, and results that are two structs. -/
namespace Go.Proofs.YtjlhbfbdcfajfaaGreatDoor
open Go.RowKit Go.Maps Go.WideMaps

/-- the lists of a block's values have at most M entries each -/
def LstOk (M : Nat) (v : Vals) : Prop := ∀ k xs, v.lst k = some xs → xs.length ≤ M
theorem LstOk.s {M : Nat} {v : Vals} (h : LstOk M v) (k : ByteArray) : (v.s k).length ≤ M := by
  unfold Vals.s
  cases hl : v.lst k with
  | none => exact Nat.zero_le _
  | some xs => exact h k xs hl
theorem oneP_lst (key s : ByteArray) (v : Vals) : (oneP key s v).2.lst = v.lst := by
  unfold oneP
  repeat' split
  all_goals first | rfl | (unfold Vals.withRisk; split <;> rfl)
theorem readP_lst {M : Nat} {kind : ByteArray} {f : FieldD} {v : Vals} (h : LstOk M v) (hf : f.vals.length ≤ M) : LstOk M (readP kind f v).2 := by
  unfold readP
  split
  · exact h
  split
  · exact h
  split
  · intro k xs hk
    have hk' : setF v.lst f.key f.vals k = some xs := hk
    unfold setF at hk'
    split at hk'
    · injection hk' with hk'; subst hk'; exact hf
    · exact h k xs hk'
  split
  · exact h
  · intro k xs hk
    rw [oneP_lst] at hk
    exact h k xs hk
theorem readsP_lst {M : Nat} {kind : ByteArray} : ∀ {fs : List FieldD} {v : Vals}, LstOk M v → (∀ f ∈ fs, f.vals.length ≤ M) → LstOk M (readsP kind fs v).2
  | [], v, h, _ => h
  | f :: l, v, h, hf => by
    unfold readsP
    split
    · exact readP_lst h (hf f (by simp))
    · exact readsP_lst (readP_lst h (hf f (by simp))) (fun g hg => hf g (by simp [hg]))
/-- what the builder holds has at most M entries each -/
def BldOk (M : Nat) (b : BldD) : Prop := b.e.prec.length ≤ M ∧ ∀ v ∈ b.vals, LstOk M v
theorem storeP_ok {M : Nat} {kind nm : ByteArray} {v : Vals} {b : BldD} (h : BldOk M b) (hv : LstOk M v) : BldOk M (storeP kind nm v b) := by
  unfold storeP
  split
  · exact h
  split
  · exact h
  split
  · exact ⟨hv.s _, h.2⟩
  split
  · exact h
  split
  · refine ⟨h.1, fun x hx => ?_⟩
    rcases List.mem_append.1 hx with hx | hx
    · exact h.2 x hx
    · simp at hx; subst hx; exact hv
  split
  · exact h
  split
  · exact h
  · exact h
theorem blockP_okB {M : Nat} {x : BlockD} {b : BldD} (h : BldOk M b) (hf : ∀ f ∈ x.fields, f.vals.length ≤ M) : BldOk M (blockP x b).2 := by
  have hz : LstOk M Vals.zero := fun k xs hk => by cases hk
  unfold blockP
  split
  · exact h
  split
  · exact h
  split
  · exact h
  · exact storeP_ok (b := b.named x.kind x.name) h (readsP_lst hz hf)

/-- results that are two structs -/
theorem results_two {P : Program} {fn : Func} {p q : Tmp} {ty uy : TypeId} (h : fn.results = #[.cell p ty, .cell q uy]) (tmps : Array Value) (w : World) (g1 g2 : Nat) (cs1 cs2 : Array Value) (d1 d2 : TypeDesc)
    (hp : tmps.getD p undef = .pointer (some ⟨g1, 0, none⟩)) (hq : tmps.getD q undef = .pointer (some ⟨g2, 0, none⟩)) (hk1 : Blk w g1 ty cs1) (hk2 : Blk w g2 uy cs2)
    (hu1 : P.underlying ty = some d1) (hd1 : (match d1 with | .struct _ | .array _ _ => true | _ => false) = true) (hi1 : (P.info? ty).map (·.size) = some cs1.size)
    (hu2 : P.underlying uy = some d2) (hd2 : (match d2 with | .struct _ | .array _ _ => true | _ => false) = true) (hi2 : (P.info? uy).map (·.size) = some cs2.size) :
    (results fn tmps).run P w = .ok (.tuple #[.agg cs1, .agg cs2]) w := by
  have hp' : tmps[p]?.getD undef = .pointer (some ⟨g1, 0, none⟩) := by simpa using hp
  have hq' : tmps[q]?.getD undef = .pointer (some ⟨g2, 0, none⟩) := by simpa using hq
  simp [results, h, hp', hq', asAddr, run_loadVar_row w g1 ty ty cs1 (0, 0) d1 hk1 hu1 hd1 hi1, run_loadVar_row w g2 uy uy cs2 (0, 0) d2 hk2 hu2 hd2 hi2]
def zeroE : Array Value := #[.string ⟨#[]⟩, .int .i64 0, .int .i64 0, .int .i64 0, .slice none 0 0, .slice none 0 0, .slice none 0 0, .int .i64 0, .int .i64 0, .bool false, .slice none 0 0, .slice none 0 0, .int .i64 0, .string ⟨#[]⟩]
/-- what Compile returns -/
def RetCmp (w : World) (x : ElectionD × Err) (e : Ending) (w' : World) : Prop := ∃ cs : List Value, e = .returned (.tuple #[.agg cs.toArray, .agg #[.int .i64 x.2.no, .int .i64 x.2.line]]) ∧ Rep.rep w' (Fresh w w') cs x.1 ∧ Below w.heap.size w w'
theorem ret_cmp0 {w wf : World} {p q : Tmp} {tmps : Array Value} {defers : List Deferred} {g1 g2 : Nat} {cs : List Value} {no line : Int} {x : ElectionD × Err} {fn : Func} (h : fn.results = #[.cell p 30, .cell q 76])
    (hp : tmps.getD p undef = .pointer (some ⟨g1, 0, none⟩)) (hq : tmps.getD q undef = .pointer (some ⟨g2, 0, none⟩)) (k1 : Blk wf g1 30 cs.toArray) (k2 : Blk wf g2 76 #[.int .i64 no, .int .i64 line]) (hlc : cs.length = 14)
    (hb : Below w.heap.size w wf) (hr : Rep.rep wf (Fresh w wf) cs x.1) (hx : x.2 = ⟨no, line⟩) (hdf : defers = []) :
    bodyPost Tryz.prog fn (RetCmp w x) Exit.ret { tmps := tmps, defers := defers } wf := by
  refine bodyPost_ret (results_two h _ _ g1 g2 _ _ _ _ hp hq k1 k2 Tryz.underlying30 rfl (by rw [List.size_toArray, hlc]; kernel_rfl) Tryz.underlying76 rfl (by kernel_rfl)) hdf ?_
  exact ⟨cs, by rw [hx], hr, hb⟩
/-- the two results are written: an election of whatever cells, and a fault -/
theorem set_two {w w2 : World} {g1 g2 : Nat} {cs1 cs2 : Array Value} {cs : List Value} {no line : Int} {x : ElectionD} {t u : TypeId}
    (hk1 : Blk w2 g1 t cs1) (hk2 : Blk w2 g2 u cs2) (hl1 : cs1.size = 14) (hl2 : cs2.size = 2) (hlc : cs.length = 14) (hne : g1 ≠ g2) (hg1 : w.heap.size ≤ g1) (hg2 : w.heap.size ≤ g2)
    (hb : Below w.heap.size w w2) {S : Nat → Prop} (hr : Rep.rep w2 S cs x) (hS : ∀ b, S b → Fresh w w2 b ∧ b ≠ g1 ∧ b ≠ g2) {wf : World} (hw : wf = setAll (setAll w2 g1 0 cs) g2 0 [.int .i64 no, .int .i64 line]) :
    Blk wf g1 t cs.toArray ∧ Blk wf g2 u #[.int .i64 no, .int .i64 line] ∧ Below w.heap.size w wf ∧ Rep.rep wf (Fresh w wf) cs x := by
  subst hw
  refine ⟨(hk1.setAll cs (by rw [hl1, hlc])).farAll hne _ _, (hk2.farAll (Ne.symm hne) cs 0).setAll [.int .i64 no, .int .i64 line] hl2, below_setAll (below_setAll hb hg1 _ _) hg2 _ _, ?_⟩
  refine Rep.keep hr (fun b hbb => ?_) (((Keeps.refl _ _).setAll (fun h => (hS g1 h).2.1 rfl) cs 0).setAll (fun h => (hS g2 h).2.2 rfl) _ 0)
  have := (hS b hbb).1
  exact ⟨this.1, by rw [size_setAll, size_setAll]; exact this.2⟩
theorem rep_zero (w : World) (S : Nat → Prop) : Rep.rep w S zeroE.toList ElectionD.zero := ⟨none, 0, 0, none, 0, 0, none, 0, 0, none, 0, 0, none, 0, 0, rfl, RS.nil _ _, RS.nil _ _, RS.nil _ _, RS.nil _ _, RS.nil _ _⟩
end Go.Proofs.YtjlhbfbdcfajfaaGreatDoor
