/- Nat10 Nat11 NatT Sl Sl2 -/
import Derived.Test.YtjlhbfbdcfajfaaGreatDoorG05
import Derived.Test.YtjlhbfbdcfajfaaGreatDoorG06
import Derived.Deep.LoopGhost
import Derived.Lib.TrimByte
import Derived.Test.YtjlhbfbdcfajfaaGreatDoorChecked
import Derived.Test.YtjlhbfbdcfajfaaGreatDoorG02
import Derived.Test.YtjlhbfbdcfajfaaGreatDoorG03
import Derived.Lib.OwnBridge
/- nat: Div. -/
namespace Go.Proofs.YtjlhbfbdcfajfaaGreatDoor
open Go.RowKit

/-- quotient and remainder, each in a row of its own; nothing of both at 0 -/
def RetDiv (w : World) (X V : Nat) (en : Ending) (w' : World) : Prop :=
  ∃ vq vr, en = .returned (.tuple #[vq, vr, .bool (decide (V ≠ 0))]) ∧ Own w' NoBlk w.heap.size 98 vq (lim (if V = 0 then 0 else X / V)) ∧ Own w' NoBlk w.heap.size 98 vr (lim (if V = 0 then 0 else X % V)) ∧ Below w.heap.size w w'

theorem RS.nil_of' {α : Type} [Rep α] {w : World} {S : Nat → Prop} {A : Option Addr} {c : Nat} {xs : List α} (h : RS w S A 0 c xs) : xs = [] := List.length_eq_zero_iff.1 h.len
theorem Own.shape {w : World} {base : Nat} {e : TypeId} {v : Value} {xs : List (BitVec 32)} (h : Own w NoBlk base e v xs) (hx : 0 < xs.length) : ∃ g c, v = .slice (some ⟨g, 0, none⟩) xs.length c ∧ base ≤ g ∧ g < w.heap.size := by
  obtain ⟨A, n, c, rfl, rfl⟩ := h.slice
  obtain ⟨g, u, rfl, hg, hg2, _⟩ := h.get1 rfl (List.getElem?_eq_getElem hx)
  exact ⟨g, c, rfl, hg, hg2⟩
theorem ret_t3 {a b : Value} {x y : Bool} (h : x = y) : Ending.returned (.tuple #[a, b, .bool x]) = .returned (.tuple #[a, b, .bool y]) := by rw [h]
theorem val_pos_of_lim {l : List (BitVec 32)} {n : Nat} (h : (trimL l).length = n) (hn : 0 < n) : val l ≠ 0 := by
  intro h0
  rw [trimL_nil_of h0] at h
  simp at h
  omega

set_option maxRecDepth 20000 in
set_option maxHeartbeats 2000000 in
theorem div_ok {S S2 : Nat → Prop} {A A2 : Option Addr} {n c n2 c2 : Nat} {xs ys : List (BitVec 32)} {w : World} (h : RS w S A n c xs) (h2 : RS w S2 A2 n2 c2 ys) (hS : ∀ b, S b → b < w.heap.size) (hS2 : ∀ b, S2 b → b < w.heap.size) (hn : n ≤ 536870912) (hn2 : n2 ≤ 536870912) :
    Calls Tryz.prog 136 #[.slice A n c, .slice A2 n2 c2] w (RetDiv w (val xs) (val ys)) := by
  have H := Lib.hid h
  have H2 := Lib.hid h2
  have HL := Lib.hid h.len
  have HL2 := Lib.hid h2.len
  have hvx := val_trimL xs
  have hvy := val_trimL ys
  clear h h2
  obtain ⟨X, hX⟩ : ∃ X, val xs = X := ⟨_, rfl⟩
  obtain ⟨V, hV⟩ : ∃ V, val ys = V := ⟨_, rfl⟩
  have hla := lim_val xs
  have hlb := lim_val ys
  rw [hX] at hvx hla
  rw [hV] at hvy hlb
  rw [hX, hV]
  clear hX hV
  obtain ⟨la, hla'⟩ : ∃ l, trimL xs = l := ⟨_, rfl⟩
  obtain ⟨lb, hlb'⟩ : ∃ l, trimL ys = l := ⟨_, rfl⟩
  rw [hla'] at hvx hla
  rw [hlb'] at hvy hlb
  have HVX := Lib.hid hvx
  have HVY := Lib.hid hvy
  have HLA := Lib.hid hla
  have HLB := Lib.hid hlb
  have HTA := Lib.hid hla'
  have HTB := Lib.hid hlb'
  clear hvx hvy hla hlb hla' hlb'
  go_enter Tryz.func136, Tryz.ntmps136
  go_wp2_with fail
  refine (trim_ok H.out).mono ?_
  rintro e w' ⟨A3, n3, c3, rfl, hr, rfl⟩
  have hl3 : n3 ≤ 536870912 := by have := trimL_length xs; have := hr.len; have := HL.out; omega
  have HR := Lib.hid hr
  clear hr
  go_wp2_with fail
  refine (trim_ok H2.out).mono ?_
  rintro e w' ⟨A4, n4, c4, rfl, hr, rfl⟩
  have hl4 : n4 ≤ 536870912 := by have := trimL_length ys; have := hr.len; have := HL2.out; omega
  have HR4 := Lib.hid hr
  clear hr
  rw [HTA.out] at HR
  rw [HTB.out] at HR4
  have HL3 := Lib.hid HR.out.len
  have HL4 := Lib.hid HR4.out.len
  clear H H2 HL HL2
  rcases Nat.eq_zero_or_pos n4 with h0 | h0
  · subst h0
    have hV0 : V = 0 := by rw [← HVY.out, RS.nil_of' HR4.out]; rfl
    have HV0 := Lib.hid hV0
    clear hV0
    go_wp2_with fail
    go_ret3
    refine ⟨_, _, ret_t3 (decide_eq_false (fun h => h HV0.out)).symm, ?_, ?_, Below.refl _ _⟩ <;> rw [if_pos HV0.out, lim_zero] <;> exact Own.nil _ _ _
  · have hV0 : V ≠ 0 := by
      intro h
      have h1 := HLB.out
      rw [h, lim_zero] at h1
      have := HL4.out
      rw [← h1] at this
      simp at this
      omega
    have HV0 := Lib.hid hV0
    have hb0 : ((n4 : Int) == 0) = false := by rw [beq_eq_false_iff_ne]; omega
    clear hV0
    go_wp2_with fail
    refine (cmp_ok HR.out HR4.out).mono ?_
    rintro e w' ⟨rfl, mm, rfl⟩
    have HR' := Lib.hid (HR.out.drewN mm)
    have HR4' := Lib.hid (HR4.out.drewN mm)
    obtain ⟨wd, hwd⟩ : ∃ x, w.drewN mm = x := ⟨_, rfl⟩
    have HB := Lib.hid (show Below w.heap.size w wd by rw [← hwd]; exact below_drewN (Below.refl _ _) mm)
    have HWS := Lib.hid (show wd.heap.size = w.heap.size by rw [← hwd]; rfl)
    rw [hwd] at HR' HR4'
    rw [hwd, HVX.out, HVY.out]
    clear hwd HR HR4
    rcases Nat.lt_or_ge X V with hc | hc
    · rw [cmpI_lt hc]
      have hq : X / V = 0 := Nat.div_eq_of_lt hc
      have hr : X % V = X := Nat.mod_eq_of_lt hc
      have HQ := Lib.hid hq
      have HRR := Lib.hid hr
      clear hq hr hc
      go_wp2_with fail
      refine (cloneL_ok HR'.out (by omega)).mono ?_
      rintro e w2 ⟨v, rfl, ho, hb⟩
      rw [HWS.out] at ho
      have HO := Lib.hid ho
      have HB2 := Lib.hid (below_more HB.out (show Below wd.heap.size wd w2 from hb))
      clear ho hb
      go_wp2_with fail
      go_ret3
      refine ⟨_, _, ret_t3 (decide_eq_true HV0.out).symm, ?_, ?_, HB2.out⟩
      · rw [if_neg HV0.out, HQ.out, lim_zero]; exact Own.nil _ _ _
      · rw [if_neg HV0.out, HRR.out, HLA.out]; exact HO.out
    · have hcc : decide (cmpI X V < 0) = false := by
        rcases Nat.lt_or_ge V X with h | h
        · rw [cmpI_gt h]; rfl
        · rw [Nat.le_antisymm h hc, cmpI_eq]; rfl
      have HC := Lib.hid hc
      obtain ⟨cc, hcc'⟩ : ∃ cc, cmpI X V = cc := ⟨_, rfl⟩
      rw [hcc'] at hcc
      rw [hcc']
      have hcf : (cc < 0) = False := by simpa using hcc
      clear hc hcc'
      by_cases h1 : n4 = 1
      · subst h1
        obtain ⟨b, o, y, rfl, _, hy, e1⟩ := HR4'.out.limb_at (k := 0) (by omega)
        rw [Nat.add_zero] at e1
        have hyV : y.toNat = V := by
          have hs := HVY.out
          have hl := HL4.out
          match lb, hl, hy with
          | [z], _, hy =>
            simp at hy
            subst hy
            simpa [val] using hs
        have hyl := y.isLt
        have hyw : IntKind.u64.wrap (y.toNat : Int) = (y.toNat : Int) := by rw [IntKind.wrap_u64]; omega
        obtain ⟨yn, hyn⟩ : ∃ yn, y.toNat = yn := ⟨_, rfl⟩
        rw [hyn] at hyV hyl hyw e1
        subst hyV
        clear hyn hy
        go_wp2_with fail
        refine (short_okN yn HR'.out (fun b hb => by rw [HWS.out]; exact hS b hb) (by omega) (by have := HV0.out; omega) hyl).mono ?_
        rintro e w2 ⟨s, qs, rfl, ho, hq, hql, hb⟩
        rw [HVX.out]
        rw [HVX.out] at hq
        obtain ⟨As, ns, cs, rfl, hns⟩ := ho.slice
        have HO := Lib.hid ho
        have HB2 := Lib.hid (below_more HB.out (show Below wd.heap.size wd w2 from hb))
        have HQ := Lib.hid hq
        have hnl : ns ≤ 1073741824 := by omega
        have hrl : X % yn < 18446744073709551616 := by have := Nat.mod_lt X (show 0 < yn by have := HV0.out; omega); omega
        clear ho hb hq hql hns
        go_wp2_with fail
        refine (norm_ok HO.out.rsAll (by omega)).mono ?_
        rintro e w3 ⟨v3, rfl, ho3, hb3⟩
        rw [HQ.out] at ho3
        have HO3 := Lib.hid ho3
        have HB3 := Lib.hid (below_more HB2.out hb3)
        clear ho3 hb3
        go_wp2_with fail
        refine (of_okN (X % yn) w3 hrl).mono ?_
        rintro e w4 ⟨v4, rfl, ho4, hb4⟩
        have HO4 := Lib.hid (ho4.base_le (Nat.le_trans HB3.out.size (Nat.le_refl _)))
        have HB4 := Lib.hid (below_more HB3.out hb4)
        have HO5 := Lib.hid ((HO3.out.below hb4).base_le (Nat.le_trans HB2.out.size (Nat.le_refl _)))
        clear ho4 hb4
        go_wp2_with fail
        go_ret3
        refine ⟨_, _, ret_t3 (decide_eq_true HV0.out).symm, ?_, ?_, HB4.out⟩
        · rw [if_neg HV0.out]; exact HO5.out
        · rw [if_neg HV0.out]; exact HO4.out
      · have hb1 : ((n4 : Int) == 1) = false := by rw [beq_eq_false_iff_ne]; omega
        obtain ⟨k, hk⟩ : ∃ k, n4 = k + 1 := ⟨n4 - 1, by omega⟩
        subst hk
        obtain ⟨b, o, y, rfl, _, hy, e1⟩ := HR4'.out.limb_at (k := k) (by omega)
        obtain ⟨t, ht⟩ : ∃ t, y.toNat = t := ⟨_, rfl⟩
        have htl : t < 4294967296 := by rw [← ht]; exact y.isLt
        have ht0 : 0 < t := by
          rcases Nat.eq_zero_or_pos t with h | h
          · exfalso
            have hlast : lb.getLast? = some y := by rw [List.getLast?_eq_getElem?, HL4.out]; simpa using hy
            have hlb2 : trimL lb = lb := by rw [← HLB.out, trimL_lim]
            rw [← hlb2] at hlast
            exact trimL_last hlast (bv_eq_zero.2 (by omega))
          · exact h
        have hgd : (lb.getD k 0#32).toNat = t := by rw [List.getD_eq_getElem?_getD, hy]; exact ht
        rw [ht] at e1
        obtain ⟨z1, z2, z3, z4⟩ := lz_spec ht0 htl
        obtain ⟨sh, hsh⟩ : ∃ sh, 32 - Lib.bitLen t = sh := ⟨_, rfl⟩
        rw [hsh] at z3 z4
        have hshi : 32 - (Lib.bitLen t : Int) = (sh : Int) := by omega
        have hshl : sh < 32 := by omega
        obtain ⟨w1, w2, w3⟩ := div_setup (s := sh) HL4.out HVY.out hgd z3 z4
        have hkl : (k : Int) + 1 - 1 = (k : Int) := by omega
        have hnn : k < n3 := by
          rcases Nat.lt_or_ge k n3 with h | h
          · exact h
          · exfalso
            have a1 := lim_length_mono HC.out
            rw [HLA.out, HLB.out, HL3.out, HL4.out] at a1
            omega
        have W1 := Lib.hid w1
        have W2 := Lib.hid w2
        have W3 := Lib.hid w3
        have HSHI := Lib.hid hshi
        clear hy ht hgd z1 z2 z3 z4 hsh w1 w2 w3 hshi
        have HLZ : Hid (Calls Tryz.prog 162 #[.int .u32 (t : Int)] wd (RetW wd (.int .i64 (sh : Int)))) := Lib.hid (by
          refine (Tryz.bits_LeadingZeros32 (t : Int) wd (by omega) (by omega)).mono fun e w' h => ⟨?_, h.2.symm⟩
          rw [h.1, Int.toNat_natCast, HSHI.out])
        go_wp2_with fail
        refine HLZ.out.mono ?_
        rintro e w' ⟨rfl, rfl⟩
        go_wp2_with fail
        refine (left_ok sh HR'.out (fun b hb => by rw [HWS.out]; exact hS b hb) (by omega) hshl).mono ?_
        rintro e w1 ⟨vu, us, rfl, hou, huv, hul, hb1⟩
        rw [HVX.out] at huv
        obtain ⟨gu, cu, rfl, hg1, hg2⟩ := hou.shape (by omega)
        rw [hul] at hou
        have HOU := Lib.hid hou
        have HUV := Lib.hid huv
        have HUL := Lib.hid hul
        have HB1 := Lib.hid (below_more HB.out hb1)
        have HRW := Lib.hid (HR4'.out.below hb1 (fun b hb => by rw [HWS.out]; exact hS2 b hb))
        clear hou huv hb1
        rw [hul]
        go_wp2_with fail
        have hs1 : w.heap.size ≤ w1.heap.size := HB1.out.size
        refine (left_ok sh HRW.out (fun b hb => Nat.lt_of_lt_of_le (hS2 b hb) hs1) (by omega) hshl).mono ?_
        rintro e w2 ⟨vv, vs, rfl, hov, hvv, hvl, hb2⟩
        rw [HVY.out] at hvv
        obtain ⟨Av, nv, cv, rfl, hnv⟩ := hov.slice
        rw [hvl] at hnv
        subst hnv
        have HRV := Lib.hid (hov.rs (S' := fun b => w1.heap.size ≤ b ∧ b < w2.heap.size) (fun _ h => h.elim) (fun _ h1 h2 => ⟨h1, h2⟩))
        have HVV := Lib.hid hvv
        have HB2 := Lib.hid (below_more HB1.out hb2)
        have HOU2 := Lib.hid (HOU.out.below hb2)
        have HBX := Lib.hid hb2
        clear hov hvv hb2 HOU
        go_wp2_with fail
        refine (trim_ok HRV.out).mono ?_
        rintro e w' ⟨A5, n5, c5, rfl, hr5, rfl⟩
        rw [← lim_val, HVV.out] at hr5
        have hn5 : n5 = k + 1 := by rw [← hr5.len]; exact W1.out
        subst hn5
        have HR5 := Lib.hid hr5
        clear hr5
        go_wp2_with fail
        refine (long_ok HOU2.out HR5.out (fun b hb => ⟨hb.2, fun e => by have := hb.1; omega⟩) (by omega) (by omega) (by omega) (by rw [Nat.add_sub_cancel]; exact W2.out)
          (div_top HUL.out HL3.out (by rw [HUV.out, HVX.out]) (by omega) (by omega) (by rw [val_lim]; exact W3.out))).mono ?_
        rintro e w3 ⟨sq, qs, rs, rfl, hoq, hqv, hql, hor, hrv, hrl, hb3⟩
        rw [val_lim, HUV.out, shl_div] at hqv
        rw [val_lim, HUV.out] at hrv
        obtain ⟨Aq, nq, cq, rfl, hnq⟩ := hoq.slice
        have hqb : nq ≤ 1073741825 := by omega
        clear hnq
        have HOQ := Lib.hid hoq
        have HOR := Lib.hid hor
        have HQV := Lib.hid hqv
        have HRV2 := Lib.hid hrv
        have HB3 : Hid (Below w.heap.size w w3) := Lib.hid (HB2.out.trans (by rw [← HWS.out]; exact hb3))
        have hs3 : w2.heap.size ≤ w3.heap.size := hb3.size
        have hs2 : w.heap.size ≤ w2.heap.size := HB2.out.size
        clear hoq hor hqv hrv hrl hb3
        go_wp2_with fail
        refine (norm_ok HOQ.out.rsAll (by omega)).mono ?_
        rintro e w4 ⟨v4, rfl, ho4, hb4⟩
        rw [HQV.out] at ho4
        have HO4 := Lib.hid ho4
        have HB4 := Lib.hid (below_more HB3.out hb4)
        have HOR4 := Lib.hid (HOR.out.below hb4)
        clear ho4 hb4
        go_wp2_with fail
        refine (right_ok sh HOR4.out.rsAll (fun b hb => hb) (by omega) hshl).mono ?_
        rintro e w5 ⟨v5, zs, rfl, ho5, hz5, hzl, hb5⟩
        rw [HRV2.out, shl_mod] at hz5
        obtain ⟨A6, n6, c6, rfl, hn6⟩ := ho5.slice
        have h6b : n6 ≤ 1073741825 := by omega
        clear hn6
        have HO5 := Lib.hid ho5
        have HZ5 := Lib.hid hz5
        have HB5 := Lib.hid (below_more HB4.out hb5)
        have HO45 := Lib.hid (HO4.out.below hb5)
        clear ho5 hz5 hb5 hzl
        go_wp2_with fail
        refine (norm_ok HO5.out.rsAll (by omega)).mono ?_
        rintro e w6 ⟨v6, rfl, ho6, hb6⟩
        rw [HZ5.out] at ho6
        have HO6 := Lib.hid (ho6.base_le HB5.out.size)
        have HO46 := Lib.hid ((HO45.out.below hb6).base_le HB3.out.size)
        have HB6 := Lib.hid (below_more HB5.out hb6)
        clear ho6 hb6
        go_wp2_with fail
        go_ret3
        refine ⟨v4, v6, ?_, ?_, ?_, HB6.out⟩
        · rw [decide_eq_true HV0.out]; rfl
        · rw [if_neg HV0.out]; exact HO46.out
        · rw [if_neg HV0.out]; exact HO6.out
end Go.Proofs.YtjlhbfbdcfajfaaGreatDoor
/- nat: Gcd, Bits. -/
namespace Go.Proofs.YtjlhbfbdcfajfaaGreatDoor
open Go.RowKit

/-- a limb sequence that is short enough -/
theorem lim_short {n k : Nat} (h : (lim n).length ≤ k) {m : Nat} (hm : m ≤ n) : (lim m).length ≤ k := Nat.le_trans (lim_length_mono hm) h

set_option maxRecDepth 20000 in
set_option maxHeartbeats 2000000 in
theorem gcd_ok {S S2 : Nat → Prop} {A A2 : Option Addr} {n c n2 c2 : Nat} {xs ys : List (BitVec 32)} {w : World} (h : RS w S A n c xs) (h2 : RS w S2 A2 n2 c2 ys) (_hS : ∀ b, S b → b < w.heap.size) (hS2 : ∀ b, S2 b → b < w.heap.size) (hn : n ≤ 536870912) (hn2 : n2 ≤ 536870912) :
    Calls Tryz.prog 135 #[.slice A n c, .slice A2 n2 c2] w (RetN w 98 (lim (Nat.gcd (val xs) (val ys)))) := by
  have H := Lib.hid h
  have H2 := Lib.hid h2
  obtain ⟨X, hX⟩ : ∃ X, val xs = X := ⟨_, rfl⟩
  obtain ⟨V, hV⟩ : ∃ V, val ys = V := ⟨_, rfl⟩
  have h3 : (lim X).length ≤ 536870912 := by rw [← hX, lim_val]; have := trimL_length xs; have := h.len; omega
  have h4 : (lim V).length ≤ 536870912 := by rw [← hV, lim_val]; have := trimL_length ys; have := h2.len; omega
  have HX := Lib.hid hX
  have HV := Lib.hid hV
  obtain ⟨G, hG⟩ : ∃ G, Nat.gcd (val xs) (val ys) = G := ⟨_, rfl⟩
  rw [hG]
  rw [hX, hV] at hG
  have HG := Lib.hid hG
  have HL1 := Lib.hid h3
  have HL2 := Lib.hid h4
  clear h h2 hX hV hG h3 h4
  go_enter Tryz.func135, Tryz.ntmps135
  go_wp2_with fail
  refine (norm_ok H.out (by omega)).mono ?_
  rintro e w1 ⟨v1, rfl, ho1, hb1⟩
  rw [HX.out] at ho1
  have HO1 := Lib.hid ho1
  have HB1 := Lib.hid hb1
  have HR2 := Lib.hid (H2.out.below hb1 hS2)
  clear ho1 hb1
  go_wp2_with fail
  refine (norm_ok HR2.out (by omega)).mono ?_
  rintro e w2 ⟨v2, rfl, ho2, hb2⟩
  rw [HV.out] at ho2
  have HO2 := Lib.hid (ho2.base_le HB1.out.size)
  have HO12 := Lib.hid (HO1.out.below hb2)
  have HB2 := Lib.hid (below_more HB1.out hb2)
  clear ho2 hb2
  go_wp2_with fail
  go_loopg [0, 1] V (fun k va vb wr => ∃ a, k ≤ V ∧ (lim a).length ≤ 536870912 ∧ Nat.gcd a k = G ∧ Own wr NoBlk w.heap.size 98 va (lim a) ∧ Own wr NoBlk w.heap.size 98 vb (lim k) ∧ Below w.heap.size w wr)
  case atStart => exact ⟨X, Nat.le_refl _, HL1.out, HG.out, HO12.out, HO2.out, HB2.out⟩
  case round =>
    clear HO1 HB1 HR2 HO2 HO12 HB2
    obtain ⟨a, hk, hla, hg, hoa, hob, hb⟩ := hrel
    obtain ⟨Aa, na, ca, rfl, hna⟩ := hoa.slice
    obtain ⟨Ab, nb, cb, rfl, hnb⟩ := hob.slice
    have hna2 : na ≤ 536870912 := by omega
    have hnb2 : nb ≤ 536870912 := by have := lim_short HL2.out hk; omega
    have HOA := Lib.hid hoa
    have HOB := Lib.hid hob
    have HB := Lib.hid hb
    have HGG := Lib.hid hg
    have HNB := Lib.hid hnb
    have HLA := Lib.hid hla
    clear hoa hob hb hg hna hnb hla
    rcases Nat.eq_zero_or_pos nb with h0 | h0
    · subst h0
      have hk0 : gk = 0 := lim_eq_nil.1 (List.length_eq_zero_iff.1 HNB.out.symm)
      have hga : a = G := by have := HGG.out; rw [hk0, Nat.gcd_zero_right] at this; exact this
      have HGA := Lib.hid hga
      clear hk0 hga
      go_wp2_with fail
      go_ret
      exact ⟨_, rfl, by rw [← HGA.out]; exact HOA.out, HB.out⟩
    · have hkp : 0 < gk := by
        rcases Nat.eq_zero_or_pos gk with h | h
        · exfalso
          have := HNB.out
          rw [h, lim_zero] at this
          simp at this
          omega
        · exact h
      go_wp2_with fail
      refine (div_ok HOA.out.rsAll HOB.out.rsAll (fun _ h => h) (fun _ h => h) (by omega) (by omega)).mono ?_
      rintro e w3 ⟨vq, vr, rfl, ho, hr, hb3⟩
      rw [val_lim, val_lim, if_neg (by omega)] at hr
      have HRR := Lib.hid (hr.base_le HB.out.size)
      have HOB3 := Lib.hid (HOB.out.below hb3)
      have HB3 := Lib.hid (below_more HB.out hb3)
      clear ho hr hb3
      go_wp2_with fail
      go_roundg (a % gk)
      case measure => exact Nat.mod_lt _ hkp
      case rel => exact ⟨gk, by have := Nat.mod_lt a hkp; omega, lim_short HL2.out hk, ((Nat.gcd_comm _ _).trans ((Nat.gcd_rec gk a).symm.trans (Nat.gcd_comm _ _))).trans HGG.out, HOB3.out, HRR.out, HB3.out⟩

/-- the least k with n less than 2^k -/
def bitsN (n : Nat) : Nat := if n = 0 then 0 else 32 * ((lim n).length - 1) + Lib.bitLen (((lim n).getD ((lim n).length - 1) 0#32).toNat)
theorem bitsN_zero {n : Nat} : bitsN n = 0 ↔ n = 0 := by
  unfold bitsN
  split
  · rename_i h; simp [h]
  · rename_i h
    have hl : lim n ≠ [] := fun e => h (lim_eq_nil.1 e)
    have hp : 0 < (lim n).length := List.length_pos_iff.2 hl
    have hlast : (trimL (lim n)).getLast? = some ((lim n).getD ((lim n).length - 1) 0#32) := by
      rw [trimL_lim, List.getLast?_eq_getElem?, List.getD_eq_getElem?_getD, List.getElem?_eq_getElem (by omega)]
      rfl
    have hne := trimL_last hlast
    have h0 : 0 < ((lim n).getD ((lim n).length - 1) 0#32).toNat := by
      rcases Nat.eq_zero_or_pos ((lim n).getD ((lim n).length - 1) 0#32).toNat with h | h
      · exact absurd (bv_eq_zero.2 h) hne
      · exact h
    have h1 := lz_spec h0 ((lim n).getD ((lim n).length - 1) 0#32).isLt
    constructor
    · intro e; omega
    · intro e; exact absurd e h

set_option maxHeartbeats 1000000 in
theorem bits_ok {S : Nat → Prop} {A : Option Addr} {n c : Nat} {xs : List (BitVec 32)} {w : World} (h : RS w S A n c xs) (hn : n ≤ 1073741824) :
    Calls Tryz.prog 133 #[.slice A n c] w (RetW w (.int .i64 (bitsN (val xs) : Nat))) := by
  have hl := lim_val xs
  have hlen := trimL_length xs
  have hxl := h.len
  have H := Lib.hid h
  obtain ⟨l, hl'⟩ : ∃ l, trimL xs = l := ⟨_, rfl⟩
  obtain ⟨X, hX⟩ : ∃ X, val xs = X := ⟨_, rfl⟩
  rw [hl'] at hl hlen
  rw [hX] at hl
  rw [hX]
  have HT := Lib.hid hl'
  have HL := Lib.hid hl
  clear h hl hl' hX
  go_enter Tryz.func133, Tryz.ntmps133
  go_wp2_with fail
  refine (trim_ok H.out).mono ?_
  rintro e w' ⟨A3, n3, c3, rfl, hr, rfl⟩
  rw [HT.out] at hr
  have hl3 := hr.len
  have hb3 : n3 ≤ 1073741824 := by omega
  have HR := Lib.hid hr
  have HL3 := Lib.hid hl3
  clear hr hl3 hlen hxl
  rcases Nat.eq_zero_or_pos n3 with h0 | h0
  · subst h0
    have hx0 : X = 0 := lim_eq_nil.1 (by rw [HL.out]; exact RS.nil_of' HR.out)
    subst hx0
    go_wp2_with fail
    go_ret
    exact ⟨rfl, rfl⟩
  · have hx0 : X ≠ 0 := by
      intro e
      have := HL3.out
      rw [← HL.out, e, lim_zero] at this
      simp at this
      omega
    obtain ⟨k, rfl⟩ : ∃ k, n3 = k + 1 := ⟨n3 - 1, by omega⟩
    obtain ⟨b, o, y, rfl, _, hy, e1⟩ := HR.out.limb_at (k := k) (by omega)
    have hb0 : ((k : Int) + 1 == 0) = false := by rw [beq_eq_false_iff_ne]; omega
    have hyl := y.isLt
    have hfin : bitsN X = 32 * k + Lib.bitLen y.toNat := by
      unfold bitsN
      rw [if_neg hx0, HL.out, HL3.out, List.getD_eq_getElem?_getD, Nat.add_sub_cancel, hy]
      rfl
    have hbl : Lib.bitLen y.toNat ≤ 32 := bitLen_le (by simpa using hyl) (by omega)
    have HF := Lib.hid hfin
    obtain ⟨z, hz⟩ : ∃ z, Lib.bitLen y.toNat = z := ⟨_, rfl⟩
    rw [hz] at hbl
    have HLZ : Hid (Calls Tryz.prog 157 #[.int .u32 (y.toNat : Int)] w (RetW w (.int .i64 (z : Int)))) := Lib.hid (by
      refine (Tryz.bits_Len32 (y.toNat : Int) w (by omega) (by omega)).mono fun e w' h => ⟨?_, h.2.symm⟩
      rw [h.1, Int.toNat_natCast, hz])
    have HZ := Lib.hid hz
    clear hy hfin hz hx0
    go_wp2_with fail
    refine HLZ.out.mono ?_
    rintro e w' ⟨rfl, rfl⟩
    go_wp2_with fail
    go_ret
    refine ⟨ret_of ?_, rfl⟩
    rw [HF.out, HZ.out]
    go_num
end Go.Proofs.YtjlhbfbdcfajfaaGreatDoor
/- nat: the plain laws of Text: decimal digits. -/
namespace Go.Proofs.YtjlhbfbdcfajfaaGreatDoor

/-- the digit n mod 10 -/
def dig (n : Nat) : UInt8 := UInt8.ofNat (48 + n % 10)
/-- decimal digits, the least significant first; none for 0 -/
def digs (n : Nat) : List UInt8 := if h : n = 0 then [] else dig n :: digs (n / 10)
  termination_by n
  decreasing_by omega
/-- k digits, the least significant first -/
def pad : Nat → Nat → List UInt8
  | 0, _ => []
  | k + 1, n => dig n :: pad k (n / 10)
/-- the decimal text of n -/
def decText (n : Nat) : List UInt8 := if n = 0 then [48] else (digs n).reverse

theorem pad_length (k n : Nat) : (pad k n).length = k := by
  induction k generalizing n with
  | zero => rfl
  | succ k ih => simp [pad, ih]
theorem pad_snoc (k n : Nat) : pad (k + 1) n = pad k n ++ [dig (n / 10 ^ k)] := by
  induction k generalizing n with
  | zero => simp [pad]
  | succ k ih =>
    rw [pad, ih, pad, List.cons_append, Nat.div_div_eq_div_mul, Nat.pow_succ']
theorem digs_zero : digs 0 = [] := by unfold digs; simp
theorem pad_digs (k n : Nat) (h : n < 10 ^ k) : pad k n = digs n ++ List.replicate (k - (digs n).length) 48 := by
  induction k generalizing n with
  | zero =>
    have : n = 0 := by simpa using h
    subst this
    simp [pad, digs_zero]
  | succ k ih =>
    by_cases hn : n = 0
    · subst hn
      rw [digs_zero, pad, ih 0 (Nat.pow_pos (by omega)), digs_zero]
      simp [dig, List.replicate_succ]
    · rw [pad, digs, dif_neg hn, ih (n / 10) (by rw [Nat.pow_succ'] at h; omega)]
      simp
theorem dig_ne {n : Nat} (h : n % 10 ≠ 0) : dig n ≠ 48 := by
  intro e
  have := congrArg UInt8.toNat e
  simp [dig] at this
  omega
/-- the most significant digit is not 0 -/
theorem digs_last {n : Nat} {c : UInt8} (h : (digs n).getLast? = some c) : c ≠ 48 := by
  induction n using Nat.strongRecOn with
  | ind n ih =>
    rw [digs] at h
    split at h
    · simp at h
    · rename_i hn
      rw [List.getLast?_cons] at h
      by_cases h10 : n / 10 = 0
      · rw [h10, digs_zero] at h
        simp at h
        subst h
        exact dig_ne (by omega)
      · have : digs (n / 10) ≠ [] := by rw [digs, dif_neg h10]; simp
        obtain ⟨z, hz⟩ : ∃ z, (digs (n / 10)).getLast? = some z := by
          cases hh : (digs (n / 10)).getLast? with
          | none => rw [List.getLast?_eq_none_iff] at hh; exact absurd hh this
          | some z => exact ⟨z, rfl⟩
        rw [hz] at h
        simp at h
        subst h
        exact ih (n / 10) (by omega) hz
theorem trimLeft_replicate (k : Nat) (l : List UInt8) (h : l.head? ≠ some 48) : Lib.trimLeftB (List.replicate k 48 ++ l) 48 = l := by
  induction k with
  | zero =>
    cases l with
    | nil => rfl
    | cons x l =>
      have hx : x ≠ 48 := fun e => h (by rw [e]; rfl)
      simp [Lib.trimLeftB, hx]
  | succ k ih =>
    rw [List.replicate_succ, List.cons_append]
    simp only [Lib.trimLeftB] at ih ⊢
    simpa using ih
theorem text_trim {k n : Nat} (h : n < 10 ^ k) : Lib.trimLeftB (pad k n).reverse 48 = (digs n).reverse := by
  rw [pad_digs k n h, List.reverse_append, List.reverse_replicate]
  apply trimLeft_replicate
  rw [List.head?_reverse]
  intro e
  exact digs_last e rfl
/-- a chunk's digits -/
theorem chunk_digit (X k i : Nat) (hi : i < 9) : dig (X / 10 ^ k % 1000000000 / 10 ^ i) = dig (X / 10 ^ (k + i)) := by
  have e : X / 10 ^ (k + i) = X / 10 ^ k / 10 ^ i := by rw [Nat.pow_add, Nat.div_div_eq_div_mul]
  rw [e]
  obtain ⟨Y, hY⟩ : ∃ Y, X / 10 ^ k = Y := ⟨_, rfl⟩
  rw [hY]
  unfold dig
  congr 2
  have h9 : 1000000000 = 10 ^ i * 10 ^ (9 - i) := by rw [← Nat.pow_add, show i + (9 - i) = 9 by omega]
  rw [h9, Nat.mod_mul_right_div_self]
  have h10 : 10 ∣ 10 ^ (9 - i) := ⟨10 ^ (8 - i), by rw [← Nat.pow_succ', show (8 - i).succ = 9 - i by omega]⟩
  exact Nat.mod_mod_of_dvd _ h10
/-- no more digits than 32/3 a limb -/
theorem digits_bound {X k n : Nat} (h : 10 ^ k ≤ X) (hX : X < 4294967296 ^ n) : 3 * k < 32 * n := by
  have h1 : (2 : Nat) ^ (3 * k) ≤ 10 ^ k := by rw [Nat.pow_mul]; exact Nat.pow_le_pow_left (by omega) k
  have h2 : 4294967296 ^ n = 2 ^ (32 * n) := by rw [Nat.pow_mul]
  rw [h2] at hX
  exact (Nat.pow_lt_pow_iff_right (a := 2) (by omega)).1 (by omega)
theorem digs_len {n : Nat} (h : n ≠ 0) : 10 ^ ((digs n).length - 1) ≤ n := by
  induction n using Nat.strongRecOn with
  | ind n ih =>
    rw [digs, dif_neg h]
    by_cases h10 : n / 10 = 0
    · rw [h10, digs_zero]; simp; omega
    · have h1 := ih (n / 10) (by omega) h10
      have hp : 0 < (digs (n / 10)).length := by rw [digs, dif_neg h10]; simp
      rw [List.length_cons, Nat.add_sub_cancel]
      obtain ⟨k, hk⟩ : ∃ k, (digs (n / 10)).length = k + 1 := ⟨_, (Nat.sub_add_cancel hp).symm⟩
      rw [hk, Nat.add_sub_cancel] at h1
      rw [hk, Nat.pow_succ']
      omega
theorem decText_len {n k : Nat} (h : (lim n).length ≤ k) : (decText n).length ≤ 11 * k + 2 := by
  unfold decText
  split
  · simp
  · rename_i hn
    have h1 := digs_len hn
    have h2 := val_lt (lim n)
    rw [val_lim] at h2
    have h3 := digits_bound h1 (Nat.lt_of_lt_of_le h2 (Nat.pow_le_pow_right (by omega) h))
    rw [List.length_reverse]
    omega
end Go.Proofs.YtjlhbfbdcfajfaaGreatDoor
/- The library's functions on slices of ints and strings, in this folder's words: no condition, nil slices too. -/
namespace Go.Proofs.YtjlhbfbdcfajfaaGreatDoor
open Go.RowKit

section
variable {S S2 : Nat → Prop} {A A2 : Option Addr} {n c n2 c2 : Nat} {w : World}
theorem RS.strCells {xs : List ByteArray} {b o : Nat} (h : RS w S (some ⟨b, o, none⟩) n c xs) : ∀ j, j < xs.length → w.cell? ⟨b, o + j, none⟩ = some (.string (xs.getD j ByteArray.empty)) := by
  intro j hj
  obtain ⟨b', o', x, e, _, hx, hc⟩ := h.str_at (k := j) (by rw [← h.len]; exact hj)
  injection e with e; injection e with e1 e2
  subst e1 e2
  rw [List.getD_eq_getElem?_getD, hx]
  exact hc
theorem RS.intCells {xs : List Int} {b o : Nat} (h : RS w S (some ⟨b, o, none⟩) n c xs) : ∀ j, j < xs.length → w.cell? ⟨b, o + j, none⟩ = some (.int .i64 (xs.getD j 0)) := by
  intro j hj
  obtain ⟨b', o', x, e, _, hx, hc⟩ := h.int_at (k := j) (by rw [← h.len]; exact hj)
  injection e with e; injection e with e1 e2
  subst e1 e2
  rw [List.getD_eq_getElem?_getD, hx]
  exact hc
theorem RS.some_of {α : Type} [Rep α] {xs : List α} (h : RS w S A n c xs) (hn : 0 < n) : ∃ b o, A = some ⟨b, o, none⟩ := by
  obtain ⟨_, _, _, h3⟩ := h
  obtain ⟨b, o, e, _⟩ := h3 hn
  exact ⟨b, o, e⟩
theorem RS.nil_of {α : Type} [Rep α] {xs : List α} (h : RS w S A 0 c xs) : xs = [] := List.length_eq_zero_iff.1 h.len

theorem idxS_ok {xs : List ByteArray} (h : RS w S A n c xs) (x : ByteArray) : Calls Tryz.prog 98 #[.slice A n c, .string x] w (RetW w (.int .i64 (Lib.idxOfS xs x))) := by
  rcases Nat.eq_zero_or_pos n with rfl | hn
  · rw [h.nil_of]
    exact (Tryz.slices_Index_string_empty A c x w).mono fun e w' h => ⟨h.1, h.2.symm⟩
  · obtain ⟨b, o, rfl⟩ := h.some_of hn
    have := Tryz.slices_Index_string b o n c xs x w (by rw [h.len]; exact Nat.le_refl _) h.max h.strCells
    rw [List.take_of_length_le (by rw [h.len]; exact Nat.le_refl _)] at this
    exact this.mono fun e w' h => ⟨h.1, h.2.symm⟩
theorem containsS_ok {xs : List ByteArray} (h : RS w S A n c xs) (x : ByteArray) : Calls Tryz.prog 121 #[.slice A n c, .string x] w (RetW w (.bool (Lib.containsS xs x))) := by
  rcases Nat.eq_zero_or_pos n with rfl | hn
  · rw [h.nil_of]
    exact (Tryz.slices_Contains_string_empty A c x w).mono fun e w' h => ⟨by rw [h.1]; rfl, h.2.symm⟩
  · obtain ⟨b, o, rfl⟩ := h.some_of hn
    have := Tryz.slices_Contains_string b o n c xs x w (by rw [h.len]; exact Nat.le_refl _) h.max h.strCells
    rw [List.take_of_length_le (by rw [h.len]; exact Nat.le_refl _)] at this
    exact this.mono fun e w' h => ⟨h.1, h.2.symm⟩
theorem equalS_ok {xs ys : List ByteArray} (h : RS w S A n c xs) (h2 : RS w S2 A2 n2 c2 ys) : Calls Tryz.prog 76 #[.slice A n c, .slice A2 n2 c2] w (RetQ w (.bool (decide (xs = ys)))) := by
  rcases Nat.eq_zero_or_pos n with rfl | hn
  · rw [h.nil_of]
    refine (Tryz.slices_Equal_string_empty A A2 c n2 c2 w h2.max).mono fun e w' q => ⟨?_, 0, q.2⟩
    rw [q.1]
    congr 2
    rw [decide_eq_decide, ← h2.len, List.length_eq_zero_iff]
    exact eq_comm
  · obtain ⟨b, o, rfl⟩ := h.some_of hn
    rcases Nat.eq_zero_or_pos n2 with rfl | hn2
    · have hne : xs ≠ [] := fun e => by have := h.len; rw [e] at this; simp at this; omega
      rw [h2.nil_of, decide_eq_false hne]
      go_enter Tryz.func76, Tryz.ntmps76
      have hd : ((n : Int) != ((0 : Nat) : Int)) = true := by simp; omega
      go_wp2_with fail
      go_ret
      exact ⟨rfl, 0, rfl⟩
    · obtain ⟨b2, o2, rfl⟩ := h2.some_of hn2
      have := Tryz.slices_Equal_string b o n c b2 o2 n2 c2 xs ys w (by rw [h.len]; exact Nat.le_refl _) (by rw [h2.len]; exact Nat.le_refl _) h.max h2.max h.strCells h2.strCells
      rw [List.take_of_length_le (by rw [h.len]; exact Nat.le_refl _), List.take_of_length_le (by rw [h2.len]; exact Nat.le_refl _)] at this
      exact this
theorem equalI_ok {xs ys : List Int} (h : RS w S A n c xs) (h2 : RS w S2 A2 n2 c2 ys) : Calls Tryz.prog 62 #[.slice A n c, .slice A2 n2 c2] w (RetQ w (.bool (decide (xs = ys)))) := by
  rcases Nat.eq_zero_or_pos n with rfl | hn
  · rw [h.nil_of]
    refine (Tryz.slices_Equal_int_empty A A2 c n2 c2 w h2.max).mono fun e w' q => ⟨?_, 0, q.2⟩
    rw [q.1]
    congr 2
    rw [decide_eq_decide, ← h2.len, List.length_eq_zero_iff]
    exact eq_comm
  · obtain ⟨b, o, rfl⟩ := h.some_of hn
    rcases Nat.eq_zero_or_pos n2 with rfl | hn2
    · have hne : xs ≠ [] := fun e => by have := h.len; rw [e] at this; simp at this; omega
      rw [h2.nil_of, decide_eq_false hne]
      go_enter Tryz.func62, Tryz.ntmps62
      have hd : ((n : Int) != ((0 : Nat) : Int)) = true := by simp; omega
      go_wp2_with fail
      go_ret
      exact ⟨rfl, 0, rfl⟩
    · obtain ⟨b2, o2, rfl⟩ := h2.some_of hn2
      have := Tryz.slices_Equal_int b o n c b2 o2 n2 c2 xs ys w (by rw [h.len]; exact Nat.le_refl _) (by rw [h2.len]; exact Nat.le_refl _) h.max h2.max h.intCells h2.intCells
      rw [List.take_of_length_le (by rw [h.len]; exact Nat.le_refl _), List.take_of_length_le (by rw [h2.len]; exact Nat.le_refl _)] at this
      refine this.mono fun e w' q => ⟨?_, q.2⟩
      rw [q.1]
      congr 2
      rw [Bool.eq_iff_iff, beq_iff_eq, decide_eq_true_iff]
theorem ownStr {w : World} {base : Nat} {v : Value} {xs : List ByteArray} (h : w.ownsRow base 9 1 v xs.length (xs.map Value.string)) : Own w NoBlk base 9 v xs :=
  ⟨_, h, Flat.strs xs, fun _ h => h.elim⟩
theorem ownInt {w : World} {base : Nat} {v : Value} {xs : List Int} (h : w.ownsRow base 3 1 v xs.length (xs.map (Value.int .i64))) : Own w NoBlk base 3 v xs :=
  ⟨_, h, Flat.ints xs, fun _ h => h.elim⟩
theorem cloneS_ok {xs : List ByteArray} (h : RS w S A n c xs) (hn : n ≤ 1099511627776) : Calls Tryz.prog 69 #[.slice A n c] w (RetN w 9 xs) := by
  rcases Nat.eq_zero_or_pos n with rfl | hn0
  · rw [h.nil_of]
    cases A with
    | none => exact (Tryz.slices_Clone_string_nil 0 c w).mono fun e w' q => ⟨_, q.1, Own.nil _ _ _, by rw [q.2]; exact Below.refl _ _⟩
    | some a => exact (Tryz.slices_Clone_string_zero a c w).mono fun e w' ⟨v, q1, q2, _, q4⟩ => ⟨v, q1, ownStr (xs := []) q2, q4⟩
  · obtain ⟨b, o, rfl⟩ := h.some_of hn0
    have := Tryz.slices_Clone_string b o n c xs w (by rw [h.len]; exact Nat.le_refl _) (by omega) h.strCells
    rw [List.take_of_length_le (by rw [h.len]; exact Nat.le_refl _)] at this
    refine this.mono fun e w' ⟨v, q1, q2, _, q4⟩ => ⟨v, q1, ownStr ?_, q4⟩
    rw [h.len]; exact q2
theorem cloneI_ok {xs : List Int} (h : RS w S A n c xs) (hn : n ≤ 1099511627776) : Calls Tryz.prog 63 #[.slice A n c] w (RetN w 3 xs) := by
  rcases Nat.eq_zero_or_pos n with rfl | hn0
  · rw [h.nil_of]
    cases A with
    | none => exact (Tryz.slices_Clone_int_nil 0 c w).mono fun e w' q => ⟨_, q.1, Own.nil _ _ _, by rw [q.2]; exact Below.refl _ _⟩
    | some a => exact (Tryz.slices_Clone_int_zero a c w).mono fun e w' ⟨v, q1, q2, _, q4⟩ => ⟨v, q1, ownInt (xs := []) q2, q4⟩
  · obtain ⟨b, o, rfl⟩ := h.some_of hn0
    have := Tryz.slices_Clone_int b o n c xs w (by rw [h.len]; exact Nat.le_refl _) (by omega) h.intCells
    rw [List.take_of_length_le (by rw [h.len]; exact Nat.le_refl _)] at this
    refine this.mono fun e w' ⟨v, q1, q2, _, q4⟩ => ⟨v, q1, ownInt ?_, q4⟩
    rw [h.len]; exact q2
end
end Go.Proofs.YtjlhbfbdcfajfaaGreatDoor
/- More of the library's functions on slices, in this folder's words: Reverse at bytes, Contains at bools, Equal at limbs. -/
namespace Go.Proofs.YtjlhbfbdcfajfaaGreatDoor
open Go.RowKit

/-- a byte as a value -/
def byt (x : UInt8) : Value := .int .u8 (x.toNat : Int)
theorem Flat.bytes_inv {w : World} {S : Nat → Prop} {cs : List Value} {xs : List UInt8} (h : Flat w S cs xs) : cs = xs.map byt := by
  induction h with
  | nil => rfl
  | @snoc cs ds xs x hf hr ih =>
    have hr' : ds = [.int .u8 (x.toNat : Int)] := hr
    rw [ih, hr', List.map_append]; rfl
theorem Own.bytes {w : World} {S : Nat → Prop} {base : Nat} {v : Value} {xs : List UInt8} (h : Own w S base 5 v xs) : w.ownsRow base 5 1 v xs.length (xs.map byt) := by
  obtain ⟨cs, h1, h2, _⟩ := h
  rw [← h2.bytes_inv]
  exact h1
theorem ownBytes {w : World} {base : Nat} {v : Value} {xs : List UInt8} (h : w.ownsRow base 5 1 v xs.length (xs.map byt)) : Own w NoBlk base 5 v xs :=
  ⟨_, h, Flat.bytes xs, fun _ h => h.elim⟩

theorem Own.rs8 {α : Type} [Rep α] {w : World} {base : Nat} {e : TypeId} {A : Option Addr} {n c : Nat} {xs : List α} (h : Own w NoBlk base e (.slice A n c) xs) : RS w (fun b => base ≤ b ∧ b < w.heap.size) A n c xs := h.rs (fun _ h => h.elim) (fun _ h1 h2 => ⟨h1, h2⟩)
theorem reverseB_ok {w : World} {base B : Nat} {w0 : World} {A : Option Addr} {n c : Nat} {xs : List UInt8} (h : Own w NoBlk base 5 (.slice A n c) xs) (hb : Below B w0 w) (hB : B ≤ base) (hn : n ≤ 9223372036854775807) :
    Calls Tryz.prog 131 #[.slice A n c] w fun e w' => e = .returned (.tuple #[]) ∧ Own w' NoBlk base 5 (.slice A n c) xs.reverse ∧ Below B w0 w' := by
  obtain ⟨A', n', c', hv, hn'⟩ := h.slice
  injection hv with _ hnn _
  subst hnn
  rcases Nat.eq_zero_or_pos n with h0 | h0
  · subst h0
    have hx : xs = [] := List.length_eq_zero_iff.1 hn'.symm
    subst hx
    refine (AnyE.slices_Reverse_empty Tryz.layRev A c w).mono fun e w' q => ⟨q.1, ?_, ?_⟩
    · rw [q.2]; exact h
    · rw [q.2]; exact hb
  · have hne : Value.slice A n c ≠ .slice none 0 0 := fun e => by injection e with _ e _; omega
    have hb' := h.bytes
    obtain ⟨g, cap, hv, hg, _, _, _, _, hH⟩ := Lib.holds_of_ownsRow hb' hne
    injection hv with e1 e2 e3
    subst e1 e3
    have := AnyE.slices_Reverse Tryz.layRev byt (fun _ => rfl) g 0 c xs w hH (by omega)
    rw [← hn'] at this
    refine this.mono ?_
    rintro e w' ⟨rfl, q, rfl⟩
    refine ⟨rfl, ?_, Lib.below_putRow hb (by omega)⟩
    rw [← hn'] at hb'
    have h2 := Lib.ownsRow_putRow (q := q) (k := n) (ys := xs.reverse) hb' (by simpa using hn'.symm) (Nat.le_refl _)
    rw [List.take_of_length_le (by simp; omega)] at h2
    refine ownBytes ?_
    rw [List.length_reverse, ← hn']
    exact h2

theorem RS.boolCells {S : Nat → Prop} {w : World} {n c : Nat} {xs : List Bool} {b o : Nat} (h : RS w S (some ⟨b, o, none⟩) n c xs) : ∀ j, j < xs.length → w.cell? ⟨b, o + j, none⟩ = some (.bool xs[j]!) := by
  intro j hj
  obtain ⟨b', o', x, cs, e, _, hx, hr, hc⟩ := h.at_ (k := j) (by rw [← h.len]; exact hj)
  injection e with e; injection e with e1 e2
  subst e1 e2
  have hr' : cs = [.bool x] := hr
  subst hr'
  have hx2 : xs[j]! = x := by
    rw [List.getElem!_eq_getElem?_getD, hx]; rfl
  rw [hx2]
  simpa [Rep.sz] using hc 0 _ rfl
theorem RS.limbCells {S : Nat → Prop} {w : World} {n c : Nat} {xs : List (BitVec 32)} {b o : Nat} (h : RS w S (some ⟨b, o, none⟩) n c xs) : ∀ j, j < (xs.map fun x => (x.toNat : Int)).length → w.cell? ⟨b, o + j, none⟩ = some (.int .u32 (xs.map fun x => (x.toNat : Int))[j]!) := by
  intro j hj
  rw [List.length_map] at hj
  obtain ⟨b', o', x, e, _, hx, hc⟩ := h.limb_at (k := j) (by rw [← h.len]; exact hj)
  injection e with e; injection e with e1 e2
  subst e1 e2
  have hx2 : (xs.map fun x => (x.toNat : Int))[j]! = (x.toNat : Int) := by
    rw [List.getElem!_eq_getElem?_getD, List.getElem?_map, hx]; rfl
  rw [hx2]
  exact hc
theorem hasB_ok {S : Nat → Prop} {w : World} {A : Option Addr} {n c : Nat} {xs : List Bool} (h : RS w S A n c xs) (x : Bool) : Calls Tryz.prog 101 #[.slice A n c, .bool x] w (RetW w (.bool (xs.contains x))) := by
  rcases Nat.eq_zero_or_pos n with rfl | hn
  · rw [h.nil_of]
    exact (AnyE.slices_Contains_empty Tryz.layHasB A c (.bool x) w).mono fun e w' h => ⟨by rw [h.1]; rfl, h.2.symm⟩
  · obtain ⟨b, o, rfl⟩ := h.some_of hn
    have := AnyE.slices_Contains Tryz.layHasB Value.bool _ (EqlAt.bool _ Tryz.underlying4) b o n c xs x w (by rw [h.len]; exact Nat.le_refl _) h.max h.boolCells
    rw [List.take_of_length_le (by rw [h.len]; exact Nat.le_refl _)] at this
    refine this.mono fun e w' q => ⟨?_, q.2.symm⟩
    rw [q.1, List.contains_eq_any_beq]
theorem allEq_iff {α : Type} [DecidableEq α] : ∀ (xs ys : List α), Lib.allEq (fun x y => x == y) xs ys = decide (xs = ys)
  | [], [] => by simp [Lib.allEq]
  | [], y :: ys => by simp [Lib.allEq]
  | x :: xs, [] => by simp [Lib.allEq]
  | x :: xs, y :: ys => by
    have := allEq_iff xs ys
    simp only [Lib.allEq] at this ⊢
    rw [this]
    by_cases h : x = y <;> by_cases h2 : xs = ys <;> simp [h, h2]
theorem limbs_inj : ∀ (xs ys : List (BitVec 32)), (xs.map fun x => (x.toNat : Int)) = (ys.map fun x => (x.toNat : Int)) ↔ xs = ys
  | [], [] => by simp
  | [], y :: ys => by simp
  | x :: xs, [] => by simp
  | x :: xs, y :: ys => by
    have h1 := limbs_inj xs ys
    have h2 : (x.toNat : Int) = y.toNat ↔ x = y := ⟨fun h => BitVec.eq_of_toNat_eq (by omega), fun h => by rw [h]⟩
    simp only [List.map_cons, List.cons.injEq, h1, h2]
theorem equalN_ok {S S2 : Nat → Prop} {w : World} {A A2 : Option Addr} {n c n2 c2 : Nat} {xs ys : List (BitVec 32)} (h : RS w S A n c xs) (h2 : RS w S2 A2 n2 c2 ys) : Calls Tryz.prog 75 #[.slice A n c, .slice A2 n2 c2] w (RetQ w (.bool (decide (xs = ys)))) := by
  by_cases hnn : n = n2
  · rcases Nat.eq_zero_or_pos n with h0 | h0
    · subst h0
      subst hnn
      have hx := h.nil_of
      have hy := h2.nil_of
      subst hx hy
      go_enter Tryz.func75, Tryz.ntmps75
      go_wp2_with fail
      refine wp_loop_rounds 1 ?_
      repeat any_goals (rw [rounds_succ]; go_wp2)
      go_ret
      exact ⟨rfl, 0, rfl⟩
    · obtain ⟨b, o, rfl⟩ := h.some_of h0
      obtain ⟨b2, o2, rfl⟩ := h2.some_of (by omega)
      have := AnyE.slices_Equal Tryz.layEqN (Value.int .u32) _ (NeqAt.int _ _ .u32) b o n c b2 o2 n2 c2 (xs.map fun x => (x.toNat : Int)) (ys.map fun x => (x.toNat : Int)) w (by rw [List.length_map, h.len]; exact Nat.le_refl _) (by rw [List.length_map, h2.len]; exact Nat.le_refl _) h.max h2.max h.limbCells h2.limbCells
      rw [List.take_of_length_le (by rw [List.length_map, h.len]; exact Nat.le_refl _), List.take_of_length_le (by rw [List.length_map, h2.len]; exact Nat.le_refl _), allEq_iff] at this
      refine this.mono fun e w' q => ⟨?_, q.2⟩
      rw [q.1]
      congr 2
      rw [decide_eq_decide]
      exact limbs_inj xs ys
  · have hne : xs ≠ ys := fun e => by have := h.len; have := h2.len; rw [e] at *; omega
    rw [decide_eq_false hne]
    have hd : ((n : Int) != (n2 : Int)) = true := by simp; omega
    have hm1 := h.max
    have hm2 := h2.max
    clear h h2 hne hnn
    go_enter Tryz.func75, Tryz.ntmps75
    go_wp2_with fail
    go_ret
    exact ⟨rfl, 0, rfl⟩
end Go.Proofs.YtjlhbfbdcfajfaaGreatDoor
