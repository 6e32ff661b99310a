/- NatM2 Nat2 Nat3 Nat4 NatM3 Nat5 -/
import Derived.Test.YtjlhbfbdcfajfaaGreatDoorG02
import Derived.Deep.DeepCutAuto
/- Natural numbers as lists of limbs: comparing, adding, subtracting; plain arithmetic. -/
namespace Go.Proofs.YtjlhbfbdcfajfaaGreatDoor

theorem lim_length_mono {a b : Nat} (h : a ≤ b) : (lim a).length ≤ (lim b).length := by
  have := val_lt (lim b)
  rw [val_lim] at this
  exact lim_length_le (by omega)
theorem lt_of_lim_length {a b : Nat} (h : (lim a).length < (lim b).length) : a < b := by
  rcases Nat.lt_or_ge a b with h1 | h1
  · exact h1
  · have := lim_length_mono h1; omega
theorem val_at {l : List (BitVec 32)} {k : Nat} {x : BitVec 32} (hx : l[k]? = some x) : val l = val (l.take k) + 4294967296 ^ k * (x.toNat + 4294967296 * val (l.drop (k + 1))) := by
  have hk : k < l.length := (List.getElem?_eq_some_iff.1 hx).1
  rw [val_take_drop l k (by omega)]
  congr 2
  obtain ⟨_, e⟩ := List.getElem?_eq_some_iff.1 hx
  rw [List.drop_eq_getElem_cons hk, e, val]
theorem val_lt_of_drop {l1 l2 : List (BitVec 32)} {k : Nat} {x y : BitVec 32} (hd : l1.drop (k + 1) = l2.drop (k + 1)) (hx : l1[k]? = some x) (hy : l2[k]? = some y) (h : x.toNat < y.toNat) : val l1 < val l2 := by
  rw [val_at hx, val_at hy, hd]
  have h1 := val_lt (l1.take k)
  have h2 : 4294967296 ^ (l1.take k).length ≤ 4294967296 ^ k := Nat.pow_le_pow_right (by omega) (by simp; omega)
  have h3 : 4294967296 ^ k * (x.toNat + 4294967296 * val (l2.drop (k + 1))) + 4294967296 ^ k ≤ 4294967296 ^ k * (y.toNat + 4294967296 * val (l2.drop (k + 1))) := by
    rw [← Nat.mul_succ]
    exact Nat.mul_le_mul_left _ (by omega)
  omega
theorem drop_eq_succ {l1 l2 : List (BitVec 32)} {k : Nat} {x : BitVec 32} (hd : l1.drop (k + 1) = l2.drop (k + 1)) (hx : l1[k]? = some x) (hy : l2[k]? = some x) : l1.drop k = l2.drop k := by
  obtain ⟨h1, e1⟩ := List.getElem?_eq_some_iff.1 hx
  obtain ⟨h2, e2⟩ := List.getElem?_eq_some_iff.1 hy
  rw [List.drop_eq_getElem_cons h1, List.drop_eq_getElem_cons h2, e1, e2, hd]
/-- the order of two numbers -/
def cmpI (a b : Nat) : Int := if a < b then -1 else if a = b then 0 else 1
theorem cmpI_lt {a b : Nat} (h : a < b) : cmpI a b = -1 := if_pos h
theorem cmpI_gt {a b : Nat} (h : b < a) : cmpI a b = 1 := by rw [cmpI, if_neg (by omega), if_neg (by omega)]
theorem cmpI_eq (a : Nat) : cmpI a a = 0 := by rw [cmpI, if_neg (by omega), if_pos rfl]

/-- a limb more, also beyond the end -/
theorem val_take_getD (l : List (BitVec 32)) (k : Nat) : val (l.take (k + 1)) = val (l.take k) + 4294967296 ^ k * (l.getD k 0#32).toNat := by
  rcases Nat.lt_or_ge k l.length with h | h
  · have hx : l[k]? = some (l.getD k 0#32) := by rw [List.getD_eq_getElem?_getD, List.getElem?_eq_getElem h]; rfl
    exact val_take_succ hx
  · rw [List.take_of_length_le (by omega), List.take_of_length_le h, List.getD_eq_getElem?_getD, List.getElem?_eq_none h]
    simp
theorem val_take_all (l : List (BitVec 32)) (k : Nat) (h : l.length ≤ k) : val (l.take k) = val l := by rw [List.take_of_length_le h]
theorem take_set_succ {l : List (BitVec 32)} {k : Nat} (x : BitVec 32) (h : k < l.length) : (l.set k x).take (k + 1) = l.take k ++ [x] := by
  rw [List.take_add_one, List.take_set, List.set_eq_of_length_le (by simp; omega)]
  simp [h]
theorem val_set_succ {l : List (BitVec 32)} {k : Nat} (x : BitVec 32) (h : k < l.length) : val ((l.set k x).take (k + 1)) = val (l.take k) + 4294967296 ^ k * x.toNat := by
  rw [take_set_succ x h, val_snoc, List.length_take, Nat.min_eq_left (by omega)]
theorem add_step {p c x y s a b v : Nat} (hs : x + y + c = s) (h : v + p * c = a + b) : (v + p * (s % 4294967296)) + p * 4294967296 * (s / 4294967296) = (a + p * x) + (b + p * y) := by
  have e : p * (s % 4294967296) + p * 4294967296 * (s / 4294967296) = p * s := by
    rw [Nat.mul_assoc, ← Nat.mul_add, Nat.mod_add_div]
  have e2 : p * s = p * x + p * y + p * c := by rw [← hs, Nat.mul_add, Nat.mul_add]
  omega
/-- what a subtraction leaves -/
theorem sub_step {p c x y s a b v : Nat} (hc : c ≤ 1) (hx : x < 4294967296) (hy : y < 4294967296) (hs : 4294967296 + x - y - c = s) (h : v + b = a + p * c) :
    (v + p * (s % 4294967296)) + (b + p * y) = (a + p * x) + p * 4294967296 * (1 - s / 4294967296) := by
  have h1 : s % 4294967296 + y + c = x + 4294967296 * (1 - s / 4294967296) := by omega
  have h2 : p * (s % 4294967296) + p * y + p * c = p * x + p * 4294967296 * (1 - s / 4294967296) := by
    rw [Nat.mul_assoc, ← Nat.mul_add, ← Nat.mul_add, ← Nat.mul_add, h1]
  omega
end Go.Proofs.YtjlhbfbdcfajfaaGreatDoor
/- nat: Of, Cmp. -/
namespace Go.Proofs.YtjlhbfbdcfajfaaGreatDoor
open Go.RowKit

theorem Own.rsAll {α : Type} [Rep α] {w : World} {base : Nat} {e : TypeId} {A : Option Addr} {n c : Nat} {xs : List α} (h : Own w NoBlk base e (.slice A n c) xs) : RS w (· < w.heap.size) A n c xs := h.rs (fun _ h => h.elim) (fun _ _ h => h)
theorem of_val (n : Nat) (h : n < 18446744073709551616) : val [BitVec.ofNat 32 n, BitVec.ofNat 32 (n / 4294967296)] = n := by
  simp only [val, BitVec.toNat_ofNat]; omega

theorem of_okN (n : Nat) (w : World) (h : n < 18446744073709551616) : Calls Tryz.prog 158 #[.int .u64 n] w (RetN w 98 (lim n)) := by
  have hv := of_val n h
  obtain ⟨x, hx⟩ : ∃ x, BitVec.ofNat 32 n = x := ⟨_, rfl⟩
  obtain ⟨y, hy⟩ : ∃ y, BitVec.ofNat 32 (n / 4294967296) = y := ⟨_, rfl⟩
  have h1 : IntKind.u32.wrap (n : Int) = (x.toNat : Int) := by rw [← hx, IntKind.wrap_u32, BitVec.toNat_ofNat]; omega
  have h2 : IntKind.u32.wrap ((n : Int) / 4294967296) = (y.toNat : Int) := by rw [← hy, IntKind.wrap_u32, BitVec.toNat_ofNat]; omega
  rw [hx, hy] at hv
  have HV := Lib.hid hv
  clear hv hx hy
  go_enter Tryz.func158, Tryz.ntmps158
  go_wp2_with fail
  have hb : Below w.heap.size w (w.alloc (.cells #[.int .u32 (x.toNat : Int), .int .u32 (y.toNat : Int)] 98)) := (Below.refl _ _).alloc (Nat.le_refl _) _
  have hr : RS (w.alloc (.cells #[.int .u32 (x.toNat : Int), .int .u32 (y.toNat : Int)] 98)) (fun _ => True) (some ⟨w.heap.size, 0, none⟩) 2 2 [x, y] :=
    RS.of_blk (t := 98) (cs := #[.int .u32 (x.toNat : Int), .int .u32 (y.toNat : Int)]) (Blk.new _ _ _) (Flat.limbs [x, y]) rfl (Nat.le_refl _) (by decide) trivial
  refine (norm_ok hr (by omega)).mono ?_
  rintro e w2 ⟨v, rfl, ho, hb2⟩
  rw [HV.out] at ho
  have HO := Lib.hid (ho.base_le (Nat.le_trans hb.size (Nat.le_refl _)))
  have HB := Lib.hid (below_more hb hb2)
  clear ho hb hb2 hr h1 h2
  go_wp2_with fail
  go_ret
  exact ⟨_, rfl, HO.out, HB.out⟩

set_option maxHeartbeats 1000000 in
theorem cmp_ok {S S2 : Nat → Prop} {A A2 : Option Addr} {n c n2 c2 : Nat} {xs ys : List (BitVec 32)} {w : World} (h : RS w S A n c xs) (h2 : RS w S2 A2 n2 c2 ys) :
    Calls Tryz.prog 160 #[.slice A n c, .slice A2 n2 c2] w (RetQ w (.int .i64 (cmpI (val xs) (val ys)))) := by
  have H := Lib.hid h
  have H2 := Lib.hid h2
  have hvx := val_trimL xs
  have hvy := val_trimL ys
  have hlx := lim_val xs
  have hly := lim_val ys
  have HVX := Lib.hid hvx
  have HVY := Lib.hid hvy
  have HLX := Lib.hid hlx
  have HLY := Lib.hid hly
  clear h h2 hvx hvy hlx hly
  go_enter Tryz.func160, Tryz.ntmps160
  go_wp2_with fail
  refine (trim_ok H.out).mono ?_
  rintro e w' ⟨A3, n3, c3, rfl, hr, rfl⟩
  have HR := Lib.hid hr
  clear hr
  go_wp2_with fail
  refine (trim_ok H2.out).mono ?_
  rintro e w' ⟨A4, n4, c4, rfl, hr, rfl⟩
  have HR4 := Lib.hid hr
  have hm3 := HR.out.max
  have hm4 := hr.max
  clear hr
  obtain ⟨l3, hl3⟩ : ∃ l, trimL xs = l := ⟨_, rfl⟩
  obtain ⟨l4, hl4⟩ : ∃ l, trimL ys = l := ⟨_, rfl⟩
  rw [hl3] at HR HVX HLX
  rw [hl4] at HR4 HVY HLY
  have HL3 := Lib.hid HR.out.len
  have HL4 := Lib.hid HR4.out.len
  clear hl3 hl4
  by_cases hlt : n3 = n4
  · subst hlt
    have hb : ((n3 : Int) != (n3 : Int)) = false := by simp
    go_wp2_with fail
    go_loopw [5, 27, 37] (fun v _ _ wr => ∃ (k m : Nat) (z : Int), k ≤ n3 ∧ v = .int .i64 z ∧ z + 1 = k ∧ l3.drop k = l4.drop k ∧ wr = w.drewN m) (fun v _ _ _ => (intOf v + 1).toNat)
    case atStart => exact ⟨n3, 0, (n3 : Int) - 1, Nat.le_refl _, rfl, by omega, by rw [List.drop_eq_nil_of_le (by rw [HL3.out]; exact Nat.le_refl _), List.drop_eq_nil_of_le (by rw [HL4.out]; exact Nat.le_refl _)], rfl⟩
    case round =>
      obtain ⟨k, m, z, hk, rfl, hz, hd, rfl⟩ := hrel
      have HD := Lib.hid hd
      clear hd
      rcases k with _ | k
      · obtain rfl : z = -1 := by omega
        have he : cmpI (val xs) (val ys) = 0 := by
          have h1 := HD.out
          rw [List.drop_zero, List.drop_zero] at h1
          rw [← HVX.out, ← HVY.out, h1, cmpI_eq]
        have HE := Lib.hid he
        clear he hz
        go_wp2_with fail
        go_ret
        exact ⟨ret_of (by rw [HE.out]; rfl), _, rfl⟩
      · obtain rfl : z = k := by omega
        obtain ⟨b, o, x, rfl, _, hx, e1⟩ := HR.out.limb_at (k := k) (by omega)
        obtain ⟨b2, o2, y, rfl, _, hy, e2⟩ := HR4.out.limb_at (k := k) (by omega)
        have hkn : (k : Int) < (n3 : Int) := by omega
        have HX := Lib.hid hx
        have HY := Lib.hid hy
        clear hx hy hz
        rcases Nat.lt_trichotomy x.toNat y.toNat with hc | hc | hc
        · have he : cmpI (val xs) (val ys) = -1 := by
            rw [← HVX.out, ← HVY.out]
            exact cmpI_lt (val_lt_of_drop HD.out HX.out HY.out hc)
          have HE := Lib.hid he
          have d1 : decide (x.toNat < y.toNat) = true := decide_eq_true (by omega)
          clear he hc
          go_wp2_with fail
          go_quiet (fail)
          go_wp2_with fail
          go_ret
          exact ⟨ret_of (by rw [HE.out]; rfl), _, World.drewN_drewN _ _ _⟩
        · have hxy : x = y := BitVec.eq_of_toNat_eq hc
          have hn := drop_eq_succ HD.out HX.out (by rw [hxy]; exact HY.out)
          have HN := Lib.hid hn
          have d1 : decide (x.toNat < y.toNat) = false := decide_eq_false (by omega)
          have d2 : decide (y.toNat < x.toNat) = false := decide_eq_false (by omega)
          clear hn hxy hc
          go_wp2_with fail
          go_quiet (fail)
          go_wp2_with fail
          go_quiet (fail)
          go_wp2_with fail
          go_roundw
          case rel => exact ⟨k, _, (k : Int) - 1, by omega, by go_num, by omega, HN.out, by first | rfl | (rw [World.drewN_drewN, World.drewN_drewN]) | (rw [World.drewN_drewN])⟩
          case measure => simp [intOf]
        · have he : cmpI (val xs) (val ys) = 1 := by
            rw [← HVX.out, ← HVY.out]
            exact cmpI_gt (val_lt_of_drop HD.out.symm HY.out HX.out hc)
          have HE := Lib.hid he
          have d1 : decide (x.toNat < y.toNat) = false := decide_eq_false (by omega)
          have d2 : decide (y.toNat < x.toNat) = true := decide_eq_true (by omega)
          clear he hc
          go_wp2_with fail
          go_quiet (fail)
          go_wp2_with fail
          go_quiet (fail)
          go_wp2_with fail
          go_ret
          exact ⟨ret_of (by rw [HE.out]; rfl), _, (congrArg (fun w => World.drewN w _) (World.drewN_drewN _ _ _)).trans (World.drewN_drewN _ _ _)⟩
  · have hb : ((n3 : Int) != (n4 : Int)) = true := by simp; omega
    by_cases h3 : n3 < n4
    · have he : cmpI (val xs) (val ys) = -1 := cmpI_lt (lt_of_lim_length (by rw [HLX.out, HLY.out, HL3.out, HL4.out]; exact h3))
      have HE := Lib.hid he
      clear he
      go_wp2_with fail
      go_ret
      exact ⟨ret_of (by rw [HE.out]; rfl), 0, rfl⟩
    · have he : cmpI (val xs) (val ys) = 1 := cmpI_gt (lt_of_lim_length (by rw [HLX.out, HLY.out, HL3.out, HL4.out]; omega))
      have HE := Lib.hid he
      clear he
      go_wp2_with fail
      go_ret
      exact ⟨ret_of (by rw [HE.out]; rfl), 0, rfl⟩
end Go.Proofs.YtjlhbfbdcfajfaaGreatDoor
/- nat: Add, Sub. -/
namespace Go.Proofs.YtjlhbfbdcfajfaaGreatDoor
open Go.RowKit

theorem Tryz.u32Info : (Tryz.prog.info? 98).map (fun i => (i.zero, i.size, i.bytes)) = some (some (.int .u32 0), 1, 4) := by kernel_rfl
theorem u32_of (s : Nat) : IntKind.u32.wrap (s : Int) = ((BitVec.ofNat 32 s).toNat : Int) := by rw [IntKind.wrap_u32, BitVec.toNat_ofNat]; omega
theorem ofNat_mod (s : Nat) : (BitVec.ofNat 32 s).toNat = s % 4294967296 := by rw [BitVec.toNat_ofNat]
theorem getD_lim_le {l : List (BitVec 32)} (k : Nat) : (l.getD k 0#32).toNat < 4294967296 := (l.getD k 0#32).isLt

set_option maxHeartbeats 1000000 in
theorem addL_ok {S S2 : Nat → Prop} {A A2 : Option Addr} {n c n2 c2 : Nat} {xs ys : List (BitVec 32)} {w : World} (h : RS w S A n c xs) (h2 : RS w S2 A2 n2 c2 ys) (hS : ∀ b, S b → b < w.heap.size) (hS2 : ∀ b, S2 b → b < w.heap.size) (hn : n ≤ 1073741824) (hn2 : n2 ≤ 1073741824) :
    Calls Tryz.prog 190 #[.slice A n c, .slice A2 n2 c2] w (RetN w 98 (lim (val xs + val ys))) := by
  obtain ⟨i0, hi, hz0, hz1, hz2⟩ := info_parts Tryz.u32Info
  have HI := Lib.hid hi
  have HZ0 := Lib.hid hz0
  have HZ1 := Lib.hid hz1
  have HZ2 := Lib.hid hz2
  have H := Lib.hid h
  have H2 := Lib.hid h2
  have HL := Lib.hid h.len
  have HL2 := Lib.hid h2.len
  have HVX := Lib.hid (val_trimL xs)
  have HVY := Lib.hid (val_trimL ys)
  clear h h2 hi hz0 hz1 hz2
  go_enter Tryz.func190, Tryz.ntmps190
  go_wp2_with fail
  refine (trim_ok H.out).mono ?_
  rintro e w' ⟨A3, n3, c3, rfl, hr, rfl⟩
  have hl3 : n3 ≤ 1073741824 := by have := trimL_length xs; have := hr.len; have := HL.out; omega
  have HR := Lib.hid hr
  clear hr
  go_wp2_with fail
  refine (trim_ok H2.out).mono ?_
  rintro e w' ⟨A4, n4, c4, rfl, hr, rfl⟩
  have hl4 : n4 ≤ 1073741824 := by have := trimL_length ys; have := hr.len; have := HL2.out; omega
  have HR4 := Lib.hid hr
  clear hr
  obtain ⟨la, hla⟩ : ∃ l, trimL xs = l := ⟨_, rfl⟩
  obtain ⟨lb, hlb⟩ : ∃ l, trimL ys = l := ⟨_, rfl⟩
  rw [hla] at HR HVX
  rw [hlb] at HR4 HVY
  have HL3 := Lib.hid HR.out.len
  have HL4 := Lib.hid HR4.out.len
  clear hla hlb
  go_upto_region 2 with (fail)
  go_cut [5] (fun v wx => ∃ m : Nat, v = .int .i64 m ∧ n3 ≤ m ∧ n4 ≤ m ∧ m ≤ 1073741824 ∧ w = wx)
  case first =>
    by_cases hc : (n3 : Int) < (n4 : Int)
    · go_wp2_with fail
      go_meet
      exact ⟨n4, rfl, by omega, by omega, by omega, rfl⟩
    · go_wp2_with fail
      go_meet
      exact ⟨n3, rfl, by omega, by omega, by omega, rfl⟩
  case rest =>
  obtain ⟨m, rfl, hm3, hm4, hm, rfl⟩ := hcut
  have hm1 : (m : Int) + 1 = ((m + 1 : Nat) : Int) := by omega
  obtain ⟨M, hM⟩ : ∃ M, m + 1 = M := ⟨_, rfl⟩
  rw [hM] at hm1
  have hMb : M ≤ 1073741825 := by omega
  have HM := Lib.hid hM
  clear hM
  go_wp2_with (refine wpList_make_Own (α := BitVec 32) _ rfl _ _ _ rfl rfl w.heap.size i0 (.int .u32 0) Tryz.underlying26 HI.out HZ0.out HZ1.out rfl .i64 .i64 (M : Int) (M : Int) M rfl rfl rfl rfl (by rw [HZ2.out]; omega) (by unfold maxLen; omega) (Nat.le_refl _) 0#32 NoBlk (fun _ h => h.elim) (fun _ _ => rfl) ?_
               intro w1 ho1 hg1
               have HO1 := Lib.hid ho1
               have HB1 := Lib.hid ((Below.refl w.heap.size w).grown hg1 (Nat.le_refl _) (fun k hk => by cases hk))
               clear ho1 hg1)
  obtain ⟨g, hg⟩ : ∃ g, w.heap.size = g := ⟨_, rfl⟩
  rw [hg] at HO1
  rw [hg]
  have HG := Lib.hid hg
  clear hg hm1
  go_loopw [7, 8, 9, 23] (fun cv _ _ i wr => ∃ (k cr : Nat) (zs : List (BitVec 32)), k ≤ m ∧ i = .int .i64 k ∧ cv = .int .u64 cr ∧ cr ≤ 1 ∧ zs.length = M ∧ val (zs.take k) + 4294967296 ^ k * cr = val (la.take k) + val (lb.take k) ∧ Own wr NoBlk g 98 (.slice (some ⟨g, 0, none⟩) M M) zs ∧ Below w.heap.size w wr)
    (fun _ _ _ i _ => m - (intOf i).toNat)
  case atStart => exact ⟨0, 0, List.replicate M 0#32, by omega, rfl, rfl, by omega, by simp, by simp [val], HO1.out, HB1.out⟩
  case round =>
    clear HO1 HB1
    obtain ⟨k, cr, zs, hk, rfl, rfl, hcr, hzl, hinv, ho, hb⟩ := hrel
    have HO1 := Lib.hid ho
    have HB1 := Lib.hid hb
    have HZL := Lib.hid hzl
    have HINV := Lib.hid hinv
    clear ho hb hzl hinv
    by_cases hlt : k < m
    · have hkM : (k : Int) < (M : Int) := by have := HM.out; omega
      have hx := HL3.out
      obtain ⟨g', u, hgg, _, _, hu, hcell, hfr⟩ := HO1.out.get1 rfl (show zs[k]? = some (zs.getD k 0#32) by rw [List.getD_eq_getElem?_getD, List.getElem?_eq_getElem (by rw [HZL.out]; have := HM.out; omega)]; rfl)
      injection hgg with hgg
      injection hgg with hgg
      subst hgg
      obtain ⟨x, hxx⟩ : ∃ x, (la.getD k 0#32).toNat = x := ⟨_, rfl⟩
      obtain ⟨y, hyy⟩ : ∃ y, (lb.getD k 0#32).toNat = y := ⟨_, rfl⟩
      have hxl : x < 4294967296 := by rw [← hxx]; exact getD_lim_le k
      have hyl : y < 4294967296 := by rw [← hyy]; exact getD_lim_le k
      have e1 := val_take_getD la k
      have e2 := val_take_getD lb k
      rw [hxx] at e1
      rw [hyy] at e2
      obtain ⟨s, hs⟩ : ∃ s, x + y + cr = s := ⟨_, rfl⟩
      have h3 := add_step hs HINV.out
      rw [← e1, ← e2] at h3
      have hs1 : (x : Int) + (y : Int) + (cr : Int) = (s : Int) := by omega
      have hsl : s < 8589934592 := by omega
      have hsw := u32_of s
      have hsd : (s : Int) / 4294967296 = ((s / 4294967296 : Nat) : Int) := rfl
      obtain ⟨z, hz⟩ : ∃ z, BitVec.ofNat 32 s = z := ⟨_, rfl⟩
      obtain ⟨cr', hcr'⟩ : ∃ cr', s / 4294967296 = cr' := ⟨_, rfl⟩
      have hzz := ofNat_mod s
      rw [hz] at hsw hzz
      rw [hcr'] at hsd h3
      rw [← hzz] at h3
      have hcl : cr' ≤ 1 := by omega
      have HXX := Lib.hid hxx
      have HYY := Lib.hid hyy
      have HH3 := Lib.hid h3
      clear hxx hyy e1 e2 hs h3 hz hcr' hzz hu hx
      go_wp2_with fail
      refine (limb_ok k (HR.out.below HB1.out hS)).mono ?_
      rintro e w' ⟨rfl, rfl⟩
      rw [HXX.out]
      go_wp2_with fail
      refine (limb_ok k (HR4.out.below HB1.out hS2)).mono ?_
      rintro e w' ⟨rfl, rfl⟩
      rw [HYY.out]
      go_wp2_with fail
      go_roundw
      case rel =>
        obtain ⟨q1, q2⟩ := HO1.out.stored (k := k) (u := .int .u32 (z.toNat : Int)) (x := z) rfl rfl
        refine ⟨k + 1, cr', zs.set k z, by omega, by go_num, rfl, hcl, by rw [List.length_set]; exact HZL.out, ?_, q1, HB1.out.setCell (by have := HG.out; simp; omega) _⟩
        rw [val_set_succ z (by rw [HZL.out]; have := HM.out; omega), Nat.pow_succ]
        exact HH3.out
      case measure => simp [intOf]; omega
    · have hkm : k = m := by omega
      subst hkm
      have hkM : (k : Int) < (M : Int) := by have := HM.out; omega
      obtain ⟨g', u, hgg, _, _, hu, hcell, hfr⟩ := HO1.out.get1 rfl (show zs[k]? = some (zs.getD k 0#32) by rw [List.getD_eq_getElem?_getD, List.getElem?_eq_getElem (by rw [HZL.out]; have := HM.out; omega)]; rfl)
      injection hgg with hgg
      injection hgg with hgg
      subst hgg
      have hsw := u32_of cr
      obtain ⟨z, hz⟩ : ∃ z, BitVec.ofNat 32 cr = z := ⟨_, rfl⟩
      have hzz := ofNat_mod cr
      rw [hz] at hsw hzz
      have hzc : z.toNat = cr := by omega
      obtain ⟨q1, q2⟩ := HO1.out.stored (k := k) (u := .int .u32 (z.toNat : Int)) (x := z) rfl rfl
      have hfin : val (zs.set k z) = val xs + val ys := by
        have h1 := val_set_succ z (l := zs) (k := k) (by rw [HZL.out]; have := HM.out; omega)
        rw [val_take_all _ _ (by rw [List.length_set, HZL.out]; have := HM.out; omega), hzc, HINV.out, val_take_all _ _ (by rw [HL3.out]; exact hm3), val_take_all _ _ (by rw [HL4.out]; exact hm4), HVX.out, HVY.out] at h1
        exact h1
      have hq := q1.rsAll
      have hqb : Below w.heap.size w (wr.setCell ⟨g, k, none⟩ (.int .u32 (z.toNat : Int))) := HB1.out.setCell (by have := HG.out; simp; omega) _
      have HFIN := Lib.hid hfin
      have HQ := Lib.hid hq
      have HQB := Lib.hid hqb
      clear hfin hq hqb q1 q2 hzc hzz hz hu hlt
      go_wp2_with fail
      refine (norm_ok HQ.out (by omega)).mono ?_
      rintro e w2 ⟨v, rfl, ho, hb⟩
      rw [HFIN.out] at ho
      have HO := Lib.hid (ho.base_le HQB.out.size)
      have HB := Lib.hid (below_more HQB.out hb)
      clear ho hb
      go_wp2_with fail
      go_ret
      exact ⟨_, rfl, HO.out, HB.out⟩
end Go.Proofs.YtjlhbfbdcfajfaaGreatDoor
/- nat: Sub. -/
namespace Go.Proofs.YtjlhbfbdcfajfaaGreatDoor
open Go.RowKit

/-- a row of the call's own, and a value beside it -/
def RetN2 {α : Type} [Rep α] (w : World) (e : TypeId) (xs : List α) (u : Value) (en : Ending) (w' : World) : Prop :=
  ∃ v', en = .returned (.tuple #[v', u]) ∧ Own w' NoBlk w.heap.size e v' xs ∧ Below w.heap.size w w'

set_option maxHeartbeats 1000000 in
theorem subL_no {S S2 : Nat → Prop} {A A2 : Option Addr} {n c n2 c2 : Nat} {xs ys : List (BitVec 32)} {w : World} (h : RS w S A n c xs) (h2 : RS w S2 A2 n2 c2 ys) (hlt : val xs < val ys) :
    Calls Tryz.prog 191 #[.slice A n c, .slice A2 n2 c2] w (RetN2 w 98 ([] : List (BitVec 32)) (.bool false)) := by
  have H := Lib.hid h
  have H2 := Lib.hid h2
  have HVX := Lib.hid (val_trimL xs)
  have HVY := Lib.hid (val_trimL ys)
  have HC := Lib.hid (cmpI_lt hlt)
  clear h h2 hlt
  go_enter Tryz.func191, Tryz.ntmps191
  go_wp2_with fail
  refine (trim_ok H.out).mono ?_
  rintro e w' ⟨A3, n3, c3, rfl, hr, rfl⟩
  have HR := Lib.hid hr
  clear hr
  go_wp2_with fail
  refine (trim_ok H2.out).mono ?_
  rintro e w' ⟨A4, n4, c4, rfl, hr, rfl⟩
  have HR4 := Lib.hid hr
  clear hr
  go_wp2_with fail
  refine (cmp_ok HR.out HR4.out).mono ?_
  rintro e w' ⟨rfl, m, rfl⟩
  rw [HVX.out, HVY.out, HC.out]
  go_wp2_with fail
  go_ret2
  exact ⟨_, rfl, Own.nil _ _ _, below_drewN (Below.refl _ _) _⟩

set_option maxHeartbeats 1000000 in
theorem subL_ok {S S2 : Nat → Prop} {A A2 : Option Addr} {n c n2 c2 : Nat} {xs ys : List (BitVec 32)} {w : World} (h : RS w S A n c xs) (h2 : RS w S2 A2 n2 c2 ys) (hS : ∀ b, S b → b < w.heap.size) (hS2 : ∀ b, S2 b → b < w.heap.size) (hn : n ≤ 1073741824) (hle : val ys ≤ val xs) :
    Calls Tryz.prog 191 #[.slice A n c, .slice A2 n2 c2] w (RetN2 w 98 (lim (val xs - val ys)) (.bool true)) := by
  obtain ⟨i0, hi, hz0, hz1, hz2⟩ := info_parts Tryz.u32Info
  have HI := Lib.hid hi
  have HZ0 := Lib.hid hz0
  have HZ1 := Lib.hid hz1
  have HZ2 := Lib.hid hz2
  have H := Lib.hid h
  have H2 := Lib.hid h2
  have HL := Lib.hid h.len
  have HVX := Lib.hid (val_trimL xs)
  have HVY := Lib.hid (val_trimL ys)
  have hlen : (trimL ys).length ≤ (trimL xs).length := by rw [← lim_val, ← lim_val]; exact lim_length_mono hle
  have hc : cmpI (val xs) (val ys) = 0 ∨ cmpI (val xs) (val ys) = 1 := by
    rcases Nat.lt_or_ge (val ys) (val xs) with h | h
    · exact .inr (cmpI_gt h)
    · exact .inl (by rw [Nat.le_antisymm hle h]; exact cmpI_eq _)
  have HLEN := Lib.hid hlen
  have HLE := Lib.hid hle
  clear h h2 hi hz0 hz1 hz2 hlen hle
  go_enter Tryz.func191, Tryz.ntmps191
  go_wp2_with fail
  refine (trim_ok H.out).mono ?_
  rintro e w' ⟨A3, n3, c3, rfl, hr, rfl⟩
  have hl3 : n3 ≤ 1073741824 := by have := trimL_length xs; have := hr.len; have := HL.out; omega
  have HR := Lib.hid hr
  clear hr
  go_wp2_with fail
  refine (trim_ok H2.out).mono ?_
  rintro e w' ⟨A4, n4, c4, rfl, hr, rfl⟩
  have HR4 := Lib.hid hr
  clear hr
  obtain ⟨la, hla⟩ : ∃ l, trimL xs = l := ⟨_, rfl⟩
  obtain ⟨lb, hlb⟩ : ∃ l, trimL ys = l := ⟨_, rfl⟩
  rw [hla] at HR HVX HLEN
  rw [hlb] at HR4 HVY HLEN
  have HL3 := Lib.hid HR.out.len
  have HL4 := Lib.hid HR4.out.len
  clear hla hlb
  have HCC := Lib.hid hc
  clear hc
  go_upto_region 2 with (fail)
  go_cut [17] (fun v wx => v = .bool false ∧ Below w.heap.size w wx)
  case first =>
    go_wp2_with fail
    refine (cmp_ok HR.out HR4.out).mono ?_
    rintro e w0 ⟨rfl, mm, rfl⟩
    rw [HVX.out, HVY.out]
    rcases HCC.out with hc | hc
    all_goals
      rw [hc]
      clear hc
      go_wp2_with fail
      go_meet
      exact ⟨rfl, below_drewN (Below.refl _ _) _⟩
  case rest =>
  obtain ⟨rfl, hb0⟩ := hcut
  obtain ⟨w0, rfl⟩ : ∃ w0 : World, w0 = wc := ⟨_, rfl⟩
  have HB0 := Lib.hid hb0
  have HR0 := Lib.hid (HR.out.below HB0.out hS)
  have HR40 := Lib.hid (HR4.out.below HB0.out hS2)
  have HS0 : Hid (∀ b, S b → b < w0.heap.size) := Lib.hid fun b hb => Nat.lt_of_lt_of_le (hS b hb) HB0.out.size
  have HS20 : Hid (∀ b, S2 b → b < w0.heap.size) := Lib.hid fun b hb => Nat.lt_of_lt_of_le (hS2 b hb) HB0.out.size
  clear hb0
  go_wp2_with (refine wpList_make_Own (α := BitVec 32) _ rfl _ _ _ rfl rfl w0.heap.size i0 (.int .u32 0) Tryz.underlying26 HI.out HZ0.out HZ1.out rfl .i64 .i64 (n3 : Int) (n3 : Int) n3 rfl rfl rfl rfl (by rw [HZ2.out]; omega) (by unfold maxLen; omega) (Nat.le_refl _) 0#32 NoBlk (fun _ h => h.elim) (fun _ _ => rfl) ?_
               intro w1 ho1 hg1
               have HO1 := Lib.hid ho1
               have HB1 := Lib.hid ((Below.refl w0.heap.size w0).grown hg1 (Nat.le_refl _) (fun k hk => by cases hk))
               clear ho1 hg1)
  obtain ⟨g, hg⟩ : ∃ g, w0.heap.size = g := ⟨_, rfl⟩
  rw [hg] at HO1
  rw [hg]
  have HG := Lib.hid hg
  clear hg
  go_loopw [7, 8, 9, 23] (fun bv _ _ i wr => ∃ (k br : Nat) (zs : List (BitVec 32)), k ≤ n3 ∧ i = .int .i64 k ∧ bv = .int .u64 br ∧ br ≤ 1 ∧ zs.length = n3 ∧ val (zs.take k) + val (lb.take k) = val (la.take k) + 4294967296 ^ k * br ∧ Own wr NoBlk g 98 (.slice (some ⟨g, 0, none⟩) n3 n3) zs ∧ Below w0.heap.size w0 wr)
    (fun _ _ _ i _ => n3 - (intOf i).toNat)
  case atStart => exact ⟨0, 0, List.replicate n3 0#32, by omega, rfl, rfl, by omega, by simp, by simp [val], HO1.out, HB1.out⟩
  case round =>
    clear HO1 HB1
    obtain ⟨k, br, zs, hk, rfl, rfl, hbr, hzl, hinv, ho, hb⟩ := hrel
    have HO1 := Lib.hid ho
    have HB1 := Lib.hid hb
    have HZL := Lib.hid hzl
    have HINV := Lib.hid hinv
    clear ho hb hzl hinv
    by_cases hlt : k < n3
    · have hkM : (k : Int) < (n3 : Int) := by omega
      obtain ⟨g', u, hgg, _, _, hu, hcell, hfr⟩ := HO1.out.get1 rfl (show zs[k]? = some (zs.getD k 0#32) by rw [List.getD_eq_getElem?_getD, List.getElem?_eq_getElem (by rw [HZL.out]; exact hlt)]; rfl)
      injection hgg with hgg
      injection hgg with hgg
      subst hgg
      obtain ⟨x, hxx⟩ : ∃ x, (la.getD k 0#32).toNat = x := ⟨_, rfl⟩
      obtain ⟨y, hyy⟩ : ∃ y, (lb.getD k 0#32).toNat = y := ⟨_, rfl⟩
      have hxl : x < 4294967296 := by rw [← hxx]; exact getD_lim_le k
      have hyl : y < 4294967296 := by rw [← hyy]; exact getD_lim_le k
      have e1 := val_take_getD la k
      have e2 := val_take_getD lb k
      rw [hxx] at e1
      rw [hyy] at e2
      obtain ⟨s, hs⟩ : ∃ s, 4294967296 + x - y - br = s := ⟨_, rfl⟩
      have h3 := sub_step hbr hxl hyl hs HINV.out
      rw [← e1, ← e2] at h3
      have hs1 : 4294967296 + (x : Int) - (y : Int) - (br : Int) = (s : Int) := by omega
      have hsl : s < 8589934592 := by omega
      have hsw := u32_of s
      have hsd : (s : Int) / 4294967296 = ((s / 4294967296 : Nat) : Int) := rfl
      obtain ⟨z, hz⟩ : ∃ z, BitVec.ofNat 32 s = z := ⟨_, rfl⟩
      obtain ⟨d, hd⟩ : ∃ d, s / 4294967296 = d := ⟨_, rfl⟩
      have hzz := ofNat_mod s
      rw [hz] at hsw hzz
      rw [hd] at hsd h3
      rw [← hzz] at h3
      have hdl : d ≤ 1 := by omega
      obtain ⟨br', hbr'⟩ : ∃ br', 1 - d = br' := ⟨_, rfl⟩
      rw [hbr'] at h3
      have hb1 : 1 - (d : Int) = (br' : Int) := by omega
      have hbl : br' ≤ 1 := by omega
      have HXX := Lib.hid hxx
      have HYY := Lib.hid hyy
      have HH3 := Lib.hid h3
      clear hxx hyy e1 e2 hs h3 hz hd hbr' hzz hu
      go_wp2_with fail
      refine (limb_ok k (HR0.out.below HB1.out HS0.out)).mono ?_
      rintro e w' ⟨rfl, rfl⟩
      rw [HXX.out]
      go_wp2_with fail
      refine (limb_ok k (HR40.out.below HB1.out HS20.out)).mono ?_
      rintro e w' ⟨rfl, rfl⟩
      rw [HYY.out]
      go_wp2_with fail
      go_roundw
      case rel =>
        obtain ⟨q1, q2⟩ := HO1.out.stored (k := k) (u := .int .u32 (z.toNat : Int)) (x := z) rfl rfl
        refine ⟨k + 1, br', zs.set k z, by omega, by go_num, rfl, hbl, by rw [List.length_set]; exact HZL.out, ?_, q1, HB1.out.setCell (by have := HG.out; simp; omega) _⟩
        rw [val_set_succ z (by rw [HZL.out]; exact hlt), Nat.pow_succ]
        exact HH3.out
      case measure => simp [intOf]; omega
    · have hkm : k = n3 := by omega
      subst hkm
      have hfin : val zs = val xs - val ys := by
        have h1 := HINV.out
        rw [val_take_all _ _ (by rw [HZL.out]; exact Nat.le_refl _), val_take_all la _ (by rw [HL3.out]; exact Nat.le_refl _), val_take_all lb _ (by have := HLEN.out; rw [HL3.out] at this; exact this), HVX.out, HVY.out] at h1
        have h2 := val_lt zs
        rw [HZL.out] at h2
        have h3 := HLE.out
        have hb0 : br = 0 := by
          rcases Nat.eq_zero_or_pos br with h | h
          · exact h
          · have : br = 1 := by omega
            rw [this, Nat.mul_one] at h1
            omega
        rw [hb0, Nat.mul_zero] at h1
        omega
      have HFIN := Lib.hid hfin
      clear hfin hlt
      go_wp2_with fail
      refine (norm_ok HO1.out.rsAll (by omega)).mono ?_
      rintro e w2 ⟨v, rfl, ho, hb⟩
      rw [HFIN.out] at ho
      have HBB := below_more HB0.out HB1.out
      have HO := Lib.hid (ho.base_le HBB.size)
      have HB := Lib.hid (below_more HBB hb)
      clear ho hb HBB
      go_wp2_with fail
      go_ret2
      exact ⟨_, rfl, HO.out, HB.out⟩
end Go.Proofs.YtjlhbfbdcfajfaaGreatDoor
/- Natural numbers as lists of limbs: multiplying; plain arithmetic. -/
namespace Go.Proofs.YtjlhbfbdcfajfaaGreatDoor

theorem mul_step {p pi pj c x y z s a q v B : Nat} (hp : p = pi * pj) (hs : x * y + z + c = s) (h : v + p * c = a + pi * (x * q)) :
    (v + p * (s % B)) + p * B * (s / B) = (a + p * z) + pi * (x * (q + pj * y)) := by
  have e : p * (s % B) + p * B * (s / B) = p * s := by
    rw [Nat.mul_assoc, ← Nat.mul_add, Nat.mod_add_div]
  have e2 : p * s = p * (x * y) + p * z + p * c := by rw [← hs, Nat.mul_add, Nat.mul_add]
  have e3 : pi * (x * (q + pj * y)) = pi * (x * q) + p * (x * y) := by rw [hp]; grind
  omega
theorem mul_bound {x y z c : Nat} (hx : x < 4294967296) (hy : y < 4294967296) (hz : z < 4294967296) (hc : c < 4294967296) : x * y ≤ 18446744065119617025 ∧ x * y + z + c < 18446744073709551616 := by
  have : x * y ≤ 4294967295 * 4294967295 := Nat.mul_le_mul (by omega) (by omega)
  omega
end Go.Proofs.YtjlhbfbdcfajfaaGreatDoor
/- nat: Mul. -/
namespace Go.Proofs.YtjlhbfbdcfajfaaGreatDoor
open Go.RowKit

theorem get_getD {l : List (BitVec 32)} {k : Nat} (h : k < l.length) : l[k]? = some (l.getD k 0#32) := by
  rw [List.getD_eq_getElem?_getD, List.getElem?_eq_getElem h]; rfl
theorem Own.limb {w : World} {base g n c : Nat} {e : TypeId} {xs : List (BitVec 32)} (h : Own w NoBlk base e (.slice (some ⟨g, 0, none⟩) n c) xs) {k : Nat} (hk : k < xs.length) : w.cell? ⟨g, k, none⟩ = some (.int .u32 ((xs.getD k 0#32).toNat : Int)) ∧ w.frozen? ⟨g, k, none⟩ = false := by
  obtain ⟨g', u, hgg, _, _, hu, hcell, hfr⟩ := h.get1 rfl (get_getD hk)
  injection hgg with hgg
  injection hgg with hgg
  subst hgg
  have hu' : [u] = [wrd (xs.getD k 0#32)] := hu
  injection hu' with hu'
  subst hu'
  exact ⟨hcell, hfr⟩
theorem Own.setLimb {w : World} {base g n c : Nat} {e : TypeId} {xs : List (BitVec 32)} (h : Own w NoBlk base e (.slice (some ⟨g, 0, none⟩) n c) xs) (k : Nat) (z : BitVec 32) : Own (w.setCell ⟨g, k, none⟩ (.int .u32 (z.toNat : Int))) NoBlk base e (.slice (some ⟨g, 0, none⟩) n c) (xs.set k z) :=
  (h.stored (k := k) (u := .int .u32 (z.toNat : Int)) (x := z) rfl rfl).1

set_option maxHeartbeats 2000000 in
theorem mulL_ok {S S2 : Nat → Prop} {A A2 : Option Addr} {n c n2 c2 : Nat} {xs ys : List (BitVec 32)} {w : World} (h : RS w S A n c xs) (h2 : RS w S2 A2 n2 c2 ys) (hS : ∀ b, S b → b < w.heap.size) (hS2 : ∀ b, S2 b → b < w.heap.size) (hn : n ≤ 1073741824) (hn2 : n2 ≤ 1073741824) :
    Calls Tryz.prog 167 #[.slice A n c, .slice A2 n2 c2] w (RetN w 98 (lim (val xs * val ys))) := by
  obtain ⟨i0, hi, hz0, hz1, hz2⟩ := info_parts Tryz.u32Info
  have HI := Lib.hid hi
  have HZ0 := Lib.hid hz0
  have HZ1 := Lib.hid hz1
  have HZ2 := Lib.hid hz2
  have H := Lib.hid h
  have H2 := Lib.hid h2
  have HL := Lib.hid h.len
  have HL2 := Lib.hid h2.len
  have HVX := Lib.hid (val_trimL xs)
  have HVY := Lib.hid (val_trimL ys)
  clear h h2 hi hz0 hz1 hz2
  go_enter Tryz.func167, Tryz.ntmps167
  go_wp2_with fail
  refine (trim_ok H.out).mono ?_
  rintro e w' ⟨A3, n3, c3, rfl, hr, rfl⟩
  have hl3 : n3 ≤ 1073741824 := by have := trimL_length xs; have := hr.len; have := HL.out; omega
  have HR := Lib.hid hr
  clear hr
  go_wp2_with fail
  refine (trim_ok H2.out).mono ?_
  rintro e w' ⟨A4, n4, c4, rfl, hr, rfl⟩
  have hl4 : n4 ≤ 1073741824 := by have := trimL_length ys; have := hr.len; have := HL2.out; omega
  have HR4 := Lib.hid hr
  clear hr
  obtain ⟨la, hla⟩ : ∃ l, trimL xs = l := ⟨_, rfl⟩
  obtain ⟨lb, hlb⟩ : ∃ l, trimL ys = l := ⟨_, rfl⟩
  rw [hla] at HR HVX
  rw [hlb] at HR4 HVY
  have HL3 := Lib.hid HR.out.len
  have HL4 := Lib.hid HR4.out.len
  clear hla hlb
  have hm1 : (n3 : Int) + (n4 : Int) = ((n3 + n4 : Nat) : Int) := by omega
  obtain ⟨M, hM⟩ : ∃ M, n3 + n4 = M := ⟨_, rfl⟩
  rw [hM] at hm1
  have hMb : M ≤ 2147483648 := by omega
  have HM := Lib.hid hM
  clear hM
  go_wp2_with (refine wpList_make_Own (α := BitVec 32) _ rfl _ _ _ rfl rfl w.heap.size i0 (.int .u32 0) Tryz.underlying26 HI.out HZ0.out HZ1.out rfl .i64 .i64 (M : Int) (M : Int) M rfl rfl rfl rfl (by rw [HZ2.out]; omega) (by unfold maxLen; omega) (Nat.le_refl _) 0#32 NoBlk (fun _ h => h.elim) (fun _ _ => rfl) ?_
               intro w1 ho1 hg1
               have HO1 := Lib.hid ho1
               have HB1 := Lib.hid ((Below.refl w.heap.size w).grown hg1 (Nat.le_refl _) (fun k hk => by cases hk))
               clear ho1 hg1)
  obtain ⟨g, hg⟩ : ∃ g, w.heap.size = g := ⟨_, rfl⟩
  rw [hg] at HO1
  rw [hg]
  have HG := Lib.hid hg
  clear hg hm1
  go_loopw [24] (fun i wr => ∃ (k : Nat) (zs : List (BitVec 32)), k ≤ n3 ∧ i = .int .i64 k ∧ zs.length = M ∧ val (zs.take (k + n4)) = val (la.take k) * val lb ∧ Own wr NoBlk g 98 (.slice (some ⟨g, 0, none⟩) M M) zs ∧ Below w.heap.size w wr)
    (fun i _ => n3 - (intOf i).toNat)
  case atStart => exact ⟨0, List.replicate M 0#32, by omega, rfl, by simp, by rw [List.take_replicate, val_replicate]; simp [val], HO1.out, HB1.out⟩
  case round =>
    clear HO1 HB1
    obtain ⟨k, zs, hk, rfl, hzl, hinv, ho, hb⟩ := hrel
    have HO1 := Lib.hid ho
    have HB1 := Lib.hid hb
    have HZL := Lib.hid hzl
    have HINV := Lib.hid hinv
    clear ho hb hzl hinv
    by_cases hlt : k < n3
    · have hk3 : (k : Int) < (n3 : Int) := by omega
      obtain ⟨b, o, x0, rfl, hSb, hx, e1⟩ := (HR.out.below HB1.out hS).limb_at hlt
      have hxg : (la.getD k 0#32).toNat = x0.toNat := by rw [List.getD_eq_getElem?_getD, hx]; rfl
      have hxl := x0.isLt
      have hxw : IntKind.u64.wrap (x0.toNat : Int) = (x0.toNat : Int) := by rw [IntKind.wrap_u64]; omega
      have HXG := Lib.hid hxg
      clear hxg hx
      go_wp2_with fail
      obtain ⟨wd, rfl⟩ : ∃ wd : World, wd = wr := ⟨_, rfl⟩
      go_loopw [8, 31] (fun cv j wr => ∃ (q cr : Nat) (ts : List (BitVec 32)), q ≤ n4 ∧ j = .int .i64 q ∧ cv = .int .u64 cr ∧ cr < 4294967296 ∧ ts.length = M ∧ ts.drop (k + q) = zs.drop (k + q) ∧ val (ts.take (k + q)) + 4294967296 ^ (k + q) * cr = val (zs.take (k + q)) + 4294967296 ^ k * (x0.toNat * val (lb.take q)) ∧ Own wr NoBlk g 98 (.slice (some ⟨g, 0, none⟩) M M) ts ∧ Below w.heap.size w wr)
        (fun _ j _ => n4 - (intOf j).toNat)
      case atStart => exact ⟨0, 0, zs, by omega, rfl, rfl, by omega, HZL.out, rfl, by simp [val], HO1.out, HB1.out⟩
      case round =>
        clear HO1 HB1
        obtain ⟨q, cr, ts, hq, rfl, rfl, hcr, htl, hdr, hinv2, ho, hb⟩ := hrel
        have HO2 := Lib.hid ho
        have HB2 := Lib.hid hb
        have HTL := Lib.hid htl
        have HDR := Lib.hid hdr
        have HINV2 := Lib.hid hinv2
        clear ho hb htl hdr hinv2
        by_cases hlt2 : q < n4
        · have hq4 : (q : Int) < (n4 : Int) := by omega
          obtain ⟨b2, o2, y0, rfl, hSb2, hy, e2⟩ := (HR4.out.below HB2.out hS2).limb_at hlt2
          have hyg : (lb.getD q 0#32).toNat = y0.toNat := by rw [List.getD_eq_getElem?_getD, hy]; rfl
          have hyl := y0.isLt
          have hyw : IntKind.u64.wrap (y0.toNat : Int) = (y0.toNat : Int) := by rw [IntKind.wrap_u64]; omega
          have hkqi : (k : Int) + (q : Int) = ((k + q : Nat) : Int) := by omega
          have hkqM : k + q < M := by have := HM.out; omega
          obtain ⟨hcell, hfr⟩ := HO2.out.limb (k := k + q) (by rw [HTL.out]; exact hkqM)
          have hzt : (zs.getD (k + q) 0#32) = ts.getD (k + q) 0#32 := by
            have h1 := congrArg (·[0]?) HDR.out
            simp only [List.getElem?_drop, Nat.add_zero] at h1
            rw [List.getD_eq_getElem?_getD, List.getD_eq_getElem?_getD, h1]
          have e3 := val_take_getD zs (k + q)
          have e4 := val_take_getD lb q
          rw [hyg] at e4
          rw [hzt] at e3
          obtain ⟨z0, hz0⟩ : ∃ z0, ts.getD (k + q) 0#32 = z0 := ⟨_, rfl⟩
          rw [hz0] at hcell e3
          have hzl0 := z0.isLt
          have hzw : IntKind.u64.wrap (z0.toNat : Int) = (z0.toNat : Int) := by rw [IntKind.wrap_u64]; omega
          obtain ⟨hb1, hb2⟩ := mul_bound hxl hyl hzl0 hcr
          obtain ⟨s, hs⟩ : ∃ s, x0.toNat * y0.toNat + z0.toNat + cr = s := ⟨_, rfl⟩
          have h3 := mul_step (B := 4294967296) (p := 4294967296 ^ (k + q)) (pi := 4294967296 ^ k) (pj := 4294967296 ^ q) (by rw [Nat.pow_add]) hs HINV2.out
          rw [← e3, ← e4] at h3
          obtain ⟨p, hp⟩ : ∃ p, x0.toNat * y0.toNat = p := ⟨_, rfl⟩
          have hpi : (x0.toNat : Int) * (y0.toNat : Int) = (p : Int) := by rw [← hp]; exact (Int.natCast_mul _ _).symm
          rw [hp] at hb1 hb2 hs
          have hs1 : (p : Int) + (z0.toNat : Int) + (cr : Int) = (s : Int) := by omega
          have hs2 : (p : Int) + (z0.toNat : Int) < 18446744073709551616 := by omega
          have hs3 : s < 18446744073709551616 := by omega
          have hsw := u32_of s
          have hsd : (s : Int) / 4294967296 = ((s / 4294967296 : Nat) : Int) := rfl
          obtain ⟨z, hz⟩ : ∃ z, BitVec.ofNat 32 s = z := ⟨_, rfl⟩
          obtain ⟨cr', hcr'⟩ : ∃ cr', s / 4294967296 = cr' := ⟨_, rfl⟩
          have hzz := ofNat_mod s
          rw [hz] at hsw hzz
          rw [hcr'] at hsd h3
          rw [← hzz] at h3
          have hcl : cr' < 4294967296 := by omega
          obtain ⟨r, hr⟩ : ∃ r, k + q = r := ⟨_, rfl⟩
          rw [hr] at hkqi hkqM hcell hfr
          have hrM : (r : Int) < (M : Int) := by omega
          have HH3 := Lib.hid h3
          have HRR := Lib.hid hr
          clear hyg e3 e4 hs hp hz hcr' hzz hz0 hzt hy h3 hr hb2
          go_wp2_with fail
          go_roundw
          case rel =>
            have hkr : k + (q + 1) = r + 1 := by have := HRR.out; omega
            refine ⟨q + 1, cr', ts.set r z, by omega, by go_num, rfl, hcl, by rw [List.length_set]; exact HTL.out, ?_, ?_, HO2.out.setLimb r z, HB2.out.setCell (by have := HG.out; simp; omega) _⟩
            · rw [hkr, List.drop_set_of_lt (by omega), ← HRR.out, ← List.drop_drop, HDR.out, List.drop_drop]
            · rw [hkr, val_set_succ z (by rw [HTL.out]; exact hkqM), ← HRR.out, Nat.pow_succ]
              exact HH3.out
          case measure => simp [intOf]; omega
        · have hqn : q = n4 := by omega
          have hkM : (k : Int) + (n4 : Int) = ((k + n4 : Nat) : Int) := by omega
          obtain ⟨r, hr⟩ : ∃ r, k + n4 = r := ⟨_, rfl⟩
          have hrM : r < M := by have := HM.out; omega
          obtain ⟨hcell, hfr⟩ := HO2.out.limb (k := r) (by rw [HTL.out]; exact hrM)
          have hri : (r : Int) < (M : Int) := by omega
          rw [hr] at hkM
          have hsw := u32_of cr
          obtain ⟨z, hz⟩ : ∃ z, BitVec.ofNat 32 cr = z := ⟨_, rfl⟩
          have hzz := ofNat_mod cr
          rw [hz] at hsw hzz
          have hzc : z.toNat = cr := by omega
          have hnew : val ((ts.set r z).take (r + 1)) = val (la.take (k + 1)) * val lb := by
            have h1 := HINV2.out
            rw [hqn, hr, val_take_all lb _ (by rw [HL4.out]; exact Nat.le_refl _)] at h1
            have h2 := HINV.out
            rw [hr] at h2
            rw [h2] at h1
            have h4 := val_take_getD la k
            rw [HXG.out] at h4
            rw [val_set_succ z (by rw [HTL.out]; exact hrM), hzc, h1, h4, Nat.add_mul, Nat.mul_assoc]
          have HNEW := Lib.hid hnew
          have HRR := Lib.hid hr
          clear hnew hqn hr hzc hzz hz hcr
          go_wp2_with fail
          go_roundw
          case rel =>
            refine ⟨k + 1, ts.set r z, by omega, by go_num, by rw [List.length_set]; exact HTL.out, ?_, HO2.out.setLimb r z, HB2.out.setCell (by have := HG.out; simp; omega) _⟩
            have hkr : k + 1 + n4 = r + 1 := by have := HRR.out; omega
            rw [hkr]
            exact HNEW.out
          case measure => simp [intOf]; omega
    · have hkn : k = n3 := by omega
      have hfin : val zs = val xs * val ys := by
        have h1 := HINV.out
        rw [hkn, val_take_all _ _ (by rw [HZL.out]; have := HM.out; omega), val_take_all la _ (by rw [HL3.out]; exact Nat.le_refl _), HVX.out, HVY.out] at h1
        exact h1
      have HFIN := Lib.hid hfin
      clear hfin hkn
      go_wp2_with fail
      refine (norm_ok HO1.out.rsAll (by omega)).mono ?_
      rintro e w2 ⟨v, rfl, ho, hb⟩
      rw [HFIN.out] at ho
      have HO := Lib.hid (ho.base_le HB1.out.size)
      have HB := Lib.hid (below_more HB1.out hb)
      clear ho hb
      go_wp2_with fail
      go_ret
      exact ⟨_, rfl, HO.out, HB.out⟩
end Go.Proofs.YtjlhbfbdcfajfaaGreatDoor
