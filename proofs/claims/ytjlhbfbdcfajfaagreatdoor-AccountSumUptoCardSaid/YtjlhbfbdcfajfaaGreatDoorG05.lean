/- NatL Nat9 NatV -/
import Derived.Test.YtjlhbfbdcfajfaaGreatDoorG04
import Derived.Test.YtjlhbfbdcfajfaaGreatDoorG03
import Derived.Lib.BitFns
/- nat: the plain laws of a long division's round: multiply and subtract, add back, the remainder's fall. -/
namespace Go.Proofs.YtjlhbfbdcfajfaaGreatDoor

/-- one limb of the multiply-and-subtract pass -/
theorem msub_step {q c b x y p s P v vx vy B : Nat} (hB : B = 4294967296) (hx : x < B) (hp : q * y + c = p) (hs : B + x - p % B - b = s) (hb : b ≤ 1) (h : v + q * vy = vx + P * (c + b)) :
    (v + P * (s % B)) + q * (vy + P * y) = (vx + P * x) + P * B * (p / B + (1 - s / B)) := by
  have hm := Nat.mod_lt p (show 0 < B by omega)
  have e1 : B * (p / B) + p % B = p := Nat.div_add_mod p B
  have e2 : B * (s / B) + s % B = s := Nat.div_add_mod s B
  have hd : s / B ≤ 1 := by
    have : s / B < 2 := Nat.div_lt_of_lt_mul (by omega)
    omega
  obtain ⟨m, h1⟩ : ∃ m, p % B = m := ⟨_, rfl⟩
  obtain ⟨c', h2⟩ : ∃ m, p / B = m := ⟨_, rfl⟩
  obtain ⟨t, h3⟩ : ∃ m, s % B = m := ⟨_, rfl⟩
  obtain ⟨d, h4⟩ : ∃ m, s / B = m := ⟨_, rfl⟩
  rw [h1, h2] at e1
  rw [h3, h4] at e2
  rw [h1] at hs hm
  rw [h4] at hd
  rw [h2, h3, h4]
  obtain ⟨g, hg⟩ : ∃ g, 1 - d = g := ⟨_, rfl⟩
  have e3 : B * d + B * g = B := by rw [← Nat.mul_add, ← hg, show d + (1 - d) = 1 by omega, Nat.mul_one]
  have core : t + q * y + c + b = x + B * (c' + g) := by
    rw [Nat.mul_add]
    omega
  rw [hg]
  have core2 : P * (t + q * y + c + b) = P * (x + B * (c' + g)) := by rw [core]
  grind

/-- behind the pass: the digit was right where nothing is borrowed, and one too great where something is -/
theorem msub_end {U V U' W q b : Nat} (hV : 0 < V) (hU' : U' < W) (hlo : U / V ≤ q) (hhi : q ≤ U / V + 1) (hb : b ≤ 1) (h : U' + q * V = U + W * (0 + b)) :
    (b = 0 → q = U / V ∧ U' = U % V) ∧ (0 < b → q = U / V + 1 ∧ U' + V = W + U % V) := by
  have e1 : V * (U / V) + U % V = U := Nat.div_add_mod U V
  have hm := Nat.mod_lt U hV
  obtain ⟨d, hd⟩ : ∃ d, U / V = d := ⟨_, rfl⟩
  obtain ⟨r, hr⟩ : ∃ d, U % V = d := ⟨_, rfl⟩
  rw [hd, hr] at e1
  rw [hr] at hm
  rw [hd] at hlo hhi
  rw [hd, hr]
  rw [Nat.zero_add] at h
  have ec : V * d = d * V := Nat.mul_comm _ _
  have es : (d + 1) * V = d * V + V := by rw [Nat.add_mul, Nat.one_mul]
  refine ⟨fun h0 => ?_, fun h0 => ?_⟩
  · subst h0
    rw [Nat.mul_zero] at h
    rcases Nat.lt_or_ge d q with hc | hc
    · have : q = d + 1 := by omega
      subst this
      omega
    · have : q = d := by omega
      subst this
      exact ⟨rfl, by omega⟩
  · have hb1 : b = 1 := by omega
    subst hb1
    rw [Nat.mul_one] at h
    rcases Nat.lt_or_ge d q with hc | hc
    · have : q = d + 1 := by omega
      subst this
      exact ⟨rfl, by omega⟩
    · have : q = d := by omega
      subst this
      omega

/-- behind the pass that adds back -/
theorem addback_end {U' U'' V W R c : Nat} (hU : U'' < W) (h : U'' + W * c = U' + V) (he : U' + V = W + R) (hc : c ≤ 1) : U'' = R := by
  rcases Nat.lt_or_ge 0 c with h0 | h0
  · have : c = 1 := by omega
    subst this
    omega
  · have : c = 0 := by omega
    subst this
    omega

theorem val_split3 (us : List (BitVec 32)) (j m : Nat) (h : j + m ≤ us.length) : val us = val (us.take j) + 4294967296 ^ j * (val ((us.drop j).take m) + 4294967296 ^ m * val (us.drop (j + m))) := by
  rw [val_take_drop us j (by omega), val_take_drop (us.drop j) m (by rw [List.length_drop]; omega), List.drop_drop]

theorem win_lt {us : List (BitVec 32)} {j n V : Nat} (hj : j + (n + 1) ≤ us.length) (hinv : val (us.drop (j + 1)) < V) : val ((us.drop j).take (n + 1)) < V * 4294967296 := by
  have e1 := val_drop_at (l := us) (k := j) (x := us[j]'(by omega)) (List.getElem?_eq_getElem (by omega))
  have hx := (us[j]'(by omega)).isLt
  have e2 := val_take_drop (us.drop j) (n + 1) (by rw [List.length_drop]; omega)
  omega

/-- a round of the division: the window's value falls to the remainder -/
theorem long_round {us us' : List (BitVec 32)} {j n V : Nat} (hj : j + (n + 1) ≤ us.length) (hV : V < 4294967296 ^ n) (hinv : val (us.drop (j + 1)) < V)
    (hlen : us'.length = us.length) (h1 : us'.take j = us.take j) (h2 : us'.drop (j + (n + 1)) = us.drop (j + (n + 1)))
    (hw : val ((us'.drop j).take (n + 1)) = val ((us.drop j).take (n + 1)) % V) :
    val ((us.drop j).take (n + 1)) < V * 4294967296 ∧ val (us'.drop j) < V ∧ val us = val us' + 4294967296 ^ j * (V * (val ((us.drop j).take (n + 1)) / V)) := by
  have e1 := val_drop_at (l := us) (k := j) (x := us[j]'(by omega)) (List.getElem?_eq_getElem (by omega))
  have hx := (us[j]'(by omega)).isLt
  have e2 := val_take_drop (us.drop j) (n + 1) (by rw [List.length_drop]; omega)
  have e3 := val_take_drop (us'.drop j) (n + 1) (by rw [List.length_drop]; omega)
  rw [List.drop_drop] at e2 e3
  rw [h2] at e3
  have e4 := val_split3 us j (n + 1) hj
  have e5 := val_split3 us' j (n + 1) (by omega)
  rw [h1, h2] at e5
  obtain ⟨U, hU⟩ : ∃ U, val ((us.drop j).take (n + 1)) = U := ⟨_, rfl⟩
  obtain ⟨R, hR⟩ : ∃ U, val (us.drop (j + (n + 1))) = U := ⟨_, rfl⟩
  rw [hU] at hw e2 e4
  rw [hR] at e2 e3 e4 e5
  rw [hw] at e3 e5
  rw [hU]
  have hlt : val (us.drop j) < V * 4294967296 := by omega
  have hVB : V * 4294967296 ≤ 4294967296 ^ (n + 1) := by rw [Nat.pow_succ]; exact Nat.mul_le_mul_right _ (by omega)
  have hR0 : R = 0 := by
    rcases Nat.eq_zero_or_pos R with h0 | h0
    · exact h0
    · have := Nat.mul_le_mul_left (4294967296 ^ (n + 1)) h0
      omega
  subst hR0
  rw [Nat.mul_zero] at e2 e3 e4 e5
  have hm := Nat.mod_lt U (show 0 < V by omega)
  have hdm : V * (U / V) + U % V = U := Nat.div_add_mod U V
  refine ⟨by omega, by omega, ?_⟩
  rw [e4, e5]
  obtain ⟨d, hd⟩ : ∃ d, U / V = d := ⟨_, rfl⟩
  obtain ⟨r, hr⟩ : ∃ d, U % V = d := ⟨_, rfl⟩
  rw [hd, hr] at hdm
  rw [hd, hr]
  rw [← hdm]
  grind

/-- a store into the window -/
theorem win_set {us us' : List (BitVec 32)} {j i : Nat} (z : BitVec 32) (hi : j + i < us'.length) (h1 : us'.take j = us.take j) (h2 : us'.drop (j + i) = us.drop (j + i)) :
    (us'.set (j + i) z).take j = us.take j ∧ (us'.set (j + i) z).drop (j + (i + 1)) = us.drop (j + (i + 1)) ∧
      val (((us'.set (j + i) z).drop j).take (i + 1)) = val ((us'.drop j).take i) + 4294967296 ^ i * z.toNat ∧ us'.getD (j + i) 0#32 = us.getD (j + i) 0#32 := by
  refine ⟨by rw [List.take_set_of_le (by omega), h1], ?_, ?_, ?_⟩
  · rw [List.drop_set_of_lt (by omega)]
    have h3 := congrArg (List.drop 1) h2
    rwa [List.drop_drop, List.drop_drop] at h3
  · rw [List.drop_set, if_neg (by omega), show j + i - j = i by omega]
    exact val_set_succ z (by rw [List.length_drop]; omega)
  · have : (us'.drop (j + i))[0]? = (us.drop (j + i))[0]? := by rw [h2]
    rw [List.getElem?_drop, List.getElem?_drop, Nat.add_zero] at this
    rw [List.getD_eq_getElem?_getD, List.getD_eq_getElem?_getD, this]
end Go.Proofs.YtjlhbfbdcfajfaaGreatDoor
/- nat: long. -/
namespace Go.Proofs.YtjlhbfbdcfajfaaGreatDoor
open Go.RowKit

/-- what the long division leaves: the digits in a new slice, the remainder in the dividend's block -/
def RetLong (w : World) (bs gu nu cu U V m : Nat) (e : Ending) (w' : World) : Prop :=
  ∃ (s : Value) (qs rs : List (BitVec 32)), e = .returned s ∧ Own w' NoBlk w.heap.size 98 s qs ∧ val qs = U / V ∧ qs.length = m ∧
    Own w' NoBlk bs 98 (.slice (some ⟨gu, 0, none⟩) nu cu) rs ∧ val rs = U % V ∧ rs.length = nu ∧ Below bs w w'

theorem and_low (p : Nat) (hp : p < 18446744073709551616) : bits .and .u64 (p : Int) 4294967295 = ((p % 4294967296 : Nat) : Int) := by
  have h := bits_and_u64_nat p 4294967295 hp (by omega)
  have e : p &&& 4294967295 = p % 4294967296 := Nat.and_two_pow_sub_one_eq_mod p 32
  rw [e] at h
  exact h

theorem long_outer {n V : Nat} {us ts xs qs : List (BitVec 32)} {j q : Nat} {z : BitVec 32} (hj : j + (n + 1) ≤ ts.length) (hV : V < 4294967296 ^ n) (hlow : val (ts.drop (j + 1)) < V) (hlen : xs.length = ts.length)
    (h1 : xs.take j = ts.take j) (h2 : xs.drop (j + (n + 1)) = ts.drop (j + (n + 1))) (hw : val ((xs.drop j).take (n + 1)) = val ((ts.drop j).take (n + 1)) % V) (hq : q = val ((ts.drop j).take (n + 1)) / V) (hz : z.toNat = q) (hjq : j < qs.length)
    (hinv : val us = val ts + V * (4294967296 ^ (j + 1) * val (qs.drop (j + 1)))) : val us = val xs + V * (4294967296 ^ j * val ((qs.set j z).drop j)) ∧ val (xs.drop j) < V := by
  obtain ⟨_, h3, h4⟩ := long_round hj hV hlow hlen h1 h2 hw
  refine ⟨?_, h3⟩
  rw [drop_set_self z hjq, val, hz, hinv, h4, ← hq, Nat.pow_succ]
  grind

set_option maxRecDepth 20000 in
set_option maxHeartbeats 4000000 in
theorem long_ok {S : Nat → Prop} {Av : Option Addr} {bs gu nu cu n cv : Nat} {us vs : List (BitVec 32)} {w : World} (hu : Own w NoBlk bs 98 (.slice (some ⟨gu, 0, none⟩) nu cu) us) (hv : RS w S Av n cv vs)
    (hS : ∀ b, S b → b < w.heap.size ∧ b ≠ gu) (hn : 2 ≤ n) (hnu : n < nu) (hmax : nu ≤ 1073741825) (hh : 2147483648 ≤ (vs.getD (n - 1) 0#32).toNat) (htop : val (us.drop (nu - n)) < val vs) :
    Calls Tryz.prog 164 #[.slice (some ⟨gu, 0, none⟩) nu cu, .slice Av n cv] w (RetLong w bs gu nu cu (val us) (val vs) (nu - n)) := by
  obtain ⟨i0, hi, hz0, hz1, hz2⟩ := info_parts Tryz.u32Info
  have HI := Lib.hid hi
  have HZ0 := Lib.hid hz0
  have HZ1 := Lib.hid hz1
  have HZ2 := Lib.hid hz2
  have HU := Lib.hid hu
  have HV := Lib.hid hv
  have HUL := Lib.hid hu.rsAll.len
  have HSS := Lib.hid hS
  have HH := Lib.hid hh
  have hglt : bs ≤ gu ∧ gu < w.heap.size := hu.lt gu rfl
  obtain ⟨m, hm⟩ : ∃ m, nu - n = m := ⟨_, rfl⟩
  rw [hm] at htop
  rw [hm]
  have HT := Lib.hid htop
  have hm1 : (nu : Int) - (n : Int) = (m : Int) := by omega
  have hmb : m ≤ 1073741825 := by omega
  have hm0 : 1 ≤ m := by omega
  have wm : IntKind.i64.wrap (m : Int) = (m : Int) := by rw [IntKind.wrap_i64]; omega
  obtain ⟨V, hV⟩ : ∃ V, val vs = V := ⟨_, rfl⟩
  rw [hV] at HT
  rw [hV]
  have HVV := Lib.hid hV
  clear hu hv hh htop hi hz0 hz1 hz2 hV hS
  go_enter Tryz.func164, Tryz.ntmps164
  go_wp2_with (refine wpList_make_Own (α := BitVec 32) _ rfl _ _ _ rfl rfl w.heap.size i0 (.int .u32 0) Tryz.underlying26 HI.out HZ0.out HZ1.out rfl .i64 .i64 (m : Int) (m : Int) m rfl rfl rfl rfl (by rw [HZ2.out]; omega) (by unfold maxLen; omega) (Nat.le_refl _) 0#32 NoBlk (fun _ h => h.elim) (fun _ _ => rfl) ?_
               intro w1 ho1 hg1
               have HO1 := Lib.hid ho1
               have HB1 := Lib.hid ((Below.refl w.heap.size w).grown hg1 (Nat.le_refl _) (fun k hk => by cases hk))
               clear ho1 hg1)
  obtain ⟨g, hg⟩ : ∃ g, w.heap.size = g := ⟨_, rfl⟩
  rw [hg] at HO1 hglt
  have HG := Lib.hid hg
  have HB2 : Hid (Below bs w w1) := Lib.hid (HB1.out.mono (by rw [hg]; omega))
  have HU1 := Lib.hid (HU.out.below HB1.out)
  have HK1 : Hid (Keeps S w w1) := Lib.hid ((Keeps.of_below HB1.out).sub fun b hb => (HSS.out b hb).1)
  clear hg
  go_loopw [7] (fun jv wr => ∃ (k : Nat) (z : Int) (ts qs : List (BitVec 32)), k ≤ m ∧ jv = .int .i64 z ∧ z + 1 = k ∧ ts.length = nu ∧ qs.length = m ∧ val us = val ts + V * (4294967296 ^ k * val (qs.drop k)) ∧ val (ts.drop k) < V ∧
      Own wr NoBlk bs 98 (.slice (some ⟨gu, 0, none⟩) nu cu) ts ∧ Own wr NoBlk g 98 (.slice (some ⟨g, 0, none⟩) m m) qs ∧ Keeps S w wr ∧ Below bs w wr)
    (fun jv _ => (intOf jv + 1).toNat)
  case atStart =>
    exact ⟨m, (m : Int) - 1, us, List.replicate m 0#32, Nat.le_refl _, rfl, by omega, HUL.out, by simp, by rw [List.drop_eq_nil_of_le (by simp)]; simp [val], HT.out, HU1.out, HO1.out, HK1.out, HB2.out⟩
  case round =>
    clear HO1 HB1 HB2 HU1 HK1 HU
    obtain ⟨k, z, ts, qs, hk, rfl, hz, htl, hql, hinv, hlow, hou, hoq, hkeep, hbel⟩ := hrel
    have HTL := Lib.hid htl
    have HQL := Lib.hid hql
    have HINV := Lib.hid hinv
    have HLOW := Lib.hid hlow
    have HOU := Lib.hid hou
    have HOQ := Lib.hid hoq
    have HK := Lib.hid hkeep
    have HB := Lib.hid hbel
    have HVR := Lib.hid (HV.out.keep (fun b hb => hb) hkeep)
    clear htl hql hinv hlow hou hoq hkeep hbel
    rcases k with _ | j
    · obtain rfl : z = -1 := by omega
      have hfin : val qs = val us / V ∧ val ts = val us % V := by
        have h1 := HINV.out
        have h2 := HLOW.out
        rw [List.drop_zero] at h1 h2
        rw [Nat.pow_zero, Nat.one_mul] at h1
        exact divmod_of (by rw [Nat.mul_comm, h1]; omega) h2
      have HF := Lib.hid hfin
      clear hfin hz
      go_wp2_with fail
      go_ret
      exact ⟨_, qs, ts, rfl, by rw [HG.out]; exact HOQ.out, HF.out.1, HQL.out, HOU.out, HF.out.2, HTL.out, HB.out⟩
    · obtain rfl : z = j := by omega
      have hjn : j + (n + 1) ≤ nu := by omega
      have hwl := win_lt (n := n) (by rw [HTL.out]; exact hjn) HLOW.out
      have HWL := Lib.hid hwl
      clear hwl hz
      go_wp2_with fail
      refine (guess_ok j HOU.out.rsAll HVR.out hn (by omega) (by omega) HH.out (by rw [HVV.out]; exact HWL.out)).mono ?_
      rintro e w' ⟨q, mm, rfl, hlo, hhi, hqB, rfl⟩
      rw [HVV.out] at hlo hhi
      have HLO := Lib.hid hlo
      have HHI := Lib.hid hhi
      have HOU2 := Lib.hid (HOU.out.drewN mm)
      have HOQ2 := Lib.hid (HOQ.out.drewN mm)
      have HK2 : Hid (Keeps S w (wr.drewN mm)) := Lib.hid HK.out
      have HB2 := Lib.hid (below_drewN HB.out mm)
      obtain ⟨wd, hwd⟩ : ∃ x, wr.drewN mm = x := ⟨_, rfl⟩
      rw [hwd] at HOU2 HOQ2 HK2 HB2
      rw [hwd]
      clear hlo hhi hwd HOU HOQ HK HB HVR
      obtain ⟨N, hN⟩ : ∃ N, n + 1 = N := ⟨_, rfl⟩
      have hN1 : (n : Int) + 1 = (N : Int) := by omega
      have wN : IntKind.i64.wrap (N : Int) = (N : Int) := by rw [IntKind.wrap_i64]; omega
      go_wp2_with fail
      go_loopw [9, 10, 38] (fun bv cv iv wr => ∃ (b c i : Nat) (xs : List (BitVec 32)), i ≤ N ∧ iv = .int .i64 i ∧ bv = .int .u64 b ∧ cv = .int .u64 c ∧ b ≤ 1 ∧ c < 4294967296 ∧ (n < i → c = 0) ∧ xs.length = nu ∧ xs.take j = ts.take j ∧ xs.drop (j + i) = ts.drop (j + i) ∧
          val ((xs.drop j).take i) + q * val (vs.take i) = val ((ts.drop j).take i) + 4294967296 ^ i * (c + b) ∧
          Own wr NoBlk bs 98 (.slice (some ⟨gu, 0, none⟩) nu cu) xs ∧ Own wr NoBlk g 98 (.slice (some ⟨g, 0, none⟩) m m) qs ∧ Keeps S w wr ∧ Below bs w wr)
        (fun _ _ iv _ => N - (intOf iv).toNat)
      case atStart => exact ⟨0, 0, 0, ts, Nat.zero_le _, rfl, rfl, rfl, Nat.zero_le _, by omega, by omega, HTL.out, rfl, rfl, by simp [val], HOU2.out, HOQ2.out, HK2.out, HB2.out⟩
      case round =>
        clear HOU2 HOQ2 HK2 HB2
        obtain ⟨b, c, i, xs, hi, rfl, rfl, rfl, hb, hc, hcn, hxl, hxt, hxd, hinv, hou, hoq, hkeep, hbel⟩ := hrel
        have HXL := Lib.hid hxl
        have HXT := Lib.hid hxt
        have HXD := Lib.hid hxd
        have HIV := Lib.hid hinv
        have HOU := Lib.hid hou
        have HOQ := Lib.hid hoq
        have HK := Lib.hid hkeep
        have HB := Lib.hid hbel
        have HCN := Lib.hid hcn
        have HVR : Hid (RS wr S Av n cv vs) := Lib.hid (HV.out.keep (fun b hb => hb) hkeep)
        clear hxl hxt hxd hinv hou hoq hkeep hbel hcn
        by_cases hlt : i < N
        · have hiN : (i : Int) < (N : Int) := by omega
          have hji : j + i < nu := by omega
          obtain ⟨y, hy⟩ : ∃ y, (vs.getD i 0#32).toNat = y := ⟨_, rfl⟩
          obtain ⟨x, hx⟩ : ∃ x, (xs.getD (j + i) 0#32).toNat = x := ⟨_, rfl⟩
          have hyl : y < 4294967296 := by rw [← hy]; exact (vs.getD i 0#32).isLt
          have hxl : x < 4294967296 := by rw [← hx]; exact (xs.getD (j + i) 0#32).isLt
          obtain ⟨hcell, hfr⟩ := HOU.out.limb (k := j + i) (by rw [HXL.out]; exact hji)
          rw [hx] at hcell
          obtain ⟨p0, hp0⟩ : ∃ p, q * y = p := ⟨_, rfl⟩
          have hp0l : p0 ≤ 4294967295 * 4294967295 := by rw [← hp0]; exact Nat.mul_le_mul (by omega) (by omega)
          have hp0i : (q : Int) * (y : Int) = (p0 : Int) := by rw [← hp0]; exact (Int.natCast_mul _ _).symm
          obtain ⟨p, hp⟩ : ∃ p, p0 + c = p := ⟨_, rfl⟩
          have hpi : (p0 : Int) + (c : Int) = (p : Int) := by omega
          have hpl : p < 18446744073709551616 := by omega
          have wp0 : IntKind.u64.wrap (p0 : Int) = (p0 : Int) := by rw [IntKind.wrap_u64]; omega
          have wp1 : IntKind.u64.wrap (p : Int) = (p : Int) := by rw [IntKind.wrap_u64]; omega
          obtain ⟨c', hc'⟩ : ∃ c', p / 4294967296 = c' := ⟨_, rfl⟩
          have hcd : (p : Int) / 4294967296 = (c' : Int) := by rw [← hc']; rfl
          have hc'l : c' < 4294967296 := by omega
          have hand := and_low p hpl
          obtain ⟨pm, hpm⟩ : ∃ z, p % 4294967296 = z := ⟨_, rfl⟩
          rw [hpm] at hand
          have hpml : pm < 4294967296 := by omega
          obtain ⟨s, hs⟩ : ∃ s, 4294967296 + x - pm - b = s := ⟨_, rfl⟩
          obtain ⟨s1, hs1⟩ : ∃ s, 4294967296 + x = s := ⟨_, rfl⟩
          obtain ⟨s2, hs2⟩ : ∃ s, s1 - pm = s := ⟨_, rfl⟩
          have hs1i : (4294967296 : Int) + (x : Int) = (s1 : Int) := by omega
          have hs2i : (s1 : Int) - (pm : Int) = (s2 : Int) := by omega
          have hsi : (s2 : Int) - (b : Int) = (s : Int) := by omega
          have ws1 : IntKind.u64.wrap (s1 : Int) = (s1 : Int) := by rw [IntKind.wrap_u64]; omega
          have ws2 : IntKind.u64.wrap (s2 : Int) = (s2 : Int) := by rw [IntKind.wrap_u64]; omega
          have ws : IntKind.u64.wrap (s : Int) = (s : Int) := by rw [IntKind.wrap_u64]; omega
          have wx : IntKind.u64.wrap (x : Int) = (x : Int) := by rw [IntKind.wrap_u64]; omega
          obtain ⟨d, hd⟩ : ∃ d, s / 4294967296 = d := ⟨_, rfl⟩
          have hsd : (s : Int) / 4294967296 = (d : Int) := by rw [← hd]; rfl
          have hd1 : d ≤ 1 := by omega
          obtain ⟨b', hb'⟩ : ∃ b', 1 - d = b' := ⟨_, rfl⟩
          have hbi : (1 : Int) - (d : Int) = (b' : Int) := by omega
          have wb : IntKind.u64.wrap (b' : Int) = (b' : Int) := by rw [IntKind.wrap_u64]; omega
          have hsw := u32_of s
          obtain ⟨t, ht⟩ : ∃ t, BitVec.ofNat 32 s = t := ⟨_, rfl⟩
          have htt := ofNat_mod s
          rw [ht] at hsw htt
          obtain ⟨k, hk'⟩ : ∃ k, j + i = k := ⟨_, rfl⟩
          have hki : (i : Int) + (j : Int) = (k : Int) := by omega
          have wk : IntKind.i64.wrap (k : Int) = (k : Int) := by rw [IntKind.wrap_i64]; omega
          have hkn : (k : Int) < (nu : Int) := by omega
          have hw := win_set t (by rw [HXL.out]; exact hji) HXT.out HXD.out
          have e1 := val_take_getD (ts.drop j) i
          have e2 := val_take_getD vs i
          have hst := msub_step (B := 4294967296) rfl hxl (show q * y + c = p by rw [hp0]; exact hp) (show 4294967296 + x - p % 4294967296 - b = s by rw [hpm]; exact hs) hb HIV.out
          have e3 : (ts.drop j).getD i 0#32 = ts.getD (j + i) 0#32 := by rw [List.getD_eq_getElem?_getD, List.getD_eq_getElem?_getD, List.getElem?_drop]
          rw [e3, ← hw.2.2.2, hx] at e1
          rw [hy] at e2
          rw [← e1, ← e2, hc', hd, hb', ← htt, ← hw.2.2.1, ← Nat.pow_succ] at hst
          have hcn' : n < i + 1 → c' = 0 := by
            intro h
            have hy0 : y = 0 := by
              rw [← hy, List.getD_eq_getElem?_getD, List.getElem?_eq_none (by rw [HV.out.len]; omega)]
              rfl
            rw [hy0, Nat.mul_zero] at hp0
            omega
          rw [hk'] at hw hst hcell hfr
          have HW1 := Lib.hid hw.1
          have HW2 := Lib.hid hw.2.1
          have HST := Lib.hid hst
          have HCN' := Lib.hid hcn'
          have HY := Lib.hid hy
          clear hw hst hcn' hy hx e1 e2 e3 hp0 hp hc' hpm hs hs1 hs2 hd hb' ht htt hk' HIV hN hm
          go_wp2_with fail
          refine (limb_ok i HVR.out).mono ?_
          rintro e w' ⟨rfl, rfl⟩
          rw [HY.out]
          go_wp2_with fail
          go_roundw
          case rel => exact ⟨b', c', i + 1, xs.set k t, by omega, by go_num, rfl, rfl, by omega, hc'l, HCN'.out, by rw [List.length_set]; exact HXL.out, HW1.out, HW2.out, HST.out, HOU.out.setLimb k t, HOQ.out.setCell (by simp [Value.ownBlock]; omega) (fun _ h => h.elim) _, HK.out.setCell (fun hb => (HSS.out _ hb).2 rfl) _, HB.out.setCell hglt.1 _⟩
          case measure => simp [intOf]; omega
        · have hiN : i = N := by omega
          have hc0 := HCN.out (by omega)
          have hiv := HIV.out
          rw [hc0] at hiv
          clear hc0
          rw [val_take_all vs i (by rw [HV.out.len]; omega), HVV.out] at hiv
          have hwl := val_lt ((xs.drop j).take i)
          have hll : ((xs.drop j).take i).length = i := by rw [List.length_take, List.length_drop, HXL.out]; omega
          rw [hll] at hwl
          have hVp : 0 < V := Nat.lt_of_le_of_lt (Nat.zero_le _) HLOW.out
          have hVn : V < 4294967296 ^ n := by rw [← HVV.out, ← HV.out.len]; exact val_lt vs
          rw [hiN, ← hN] at hiv hwl
          have hxd : xs.drop (j + (n + 1)) = ts.drop (j + (n + 1)) := by rw [hN, ← hiN]; exact HXD.out
          obtain ⟨h0, h1⟩ := msub_end hVp hwl HLO.out HHI.out hb hiv
          have hjm : (j : Int) < (m : Int) := by omega
          obtain ⟨hcell, hfr⟩ := HOQ.out.limb (k := j) (by rw [HQL.out]; omega)
          rw [← HG.out] at hcell hfr
          have hgl : w.heap.size ≠ gu := by have := HG.out; omega
          have HGU : Hid (gu < w.heap.size) := Lib.hid (by rw [HG.out]; exact hglt.2)
          rcases Nat.eq_zero_or_pos b with hb0 | hb0
          · obtain ⟨hq, hwin⟩ := h0 hb0
            have hbf : decide (0 < b) = false := decide_eq_false (by omega)
            have hbg : (0 < b) = False := eq_false (by omega)
            have hsw := u32_of q
            obtain ⟨zq, hzq⟩ : ∃ z, BitVec.ofNat 32 q = z := ⟨_, rfl⟩
            have hzz := ofNat_mod q
            rw [hzq] at hsw hzz
            have hzn : zq.toNat = q := by omega
            have hout := long_outer (us := us) (qs := qs) (by rw [HTL.out]; exact hjn) hVn HLOW.out (by rw [HXL.out, HTL.out]) HXT.out hxd hwin hq hzn (by rw [HQL.out]; omega) HINV.out
            have HOUT := Lib.hid hout
            have q1 : Own (wr.setCell ⟨w.heap.size, j, none⟩ (.int .u32 (zq.toNat : Int))) NoBlk bs 98 (.slice (some ⟨gu, 0, none⟩) nu cu) xs := HOU.out.setCell (by simp [Value.ownBlock]; omega) (fun _ h => h.elim) _
            have q2 : Own (wr.setCell ⟨w.heap.size, j, none⟩ (.int .u32 (zq.toNat : Int))) NoBlk g 98 (.slice (some ⟨g, 0, none⟩) m m) (qs.set j zq) := by rw [HG.out]; exact HOQ.out.setLimb j zq
            have q3 : Keeps S w (wr.setCell ⟨w.heap.size, j, none⟩ (.int .u32 (zq.toNat : Int))) := HK.out.setCell (fun hb => Nat.lt_irrefl _ (HSS.out _ hb).1) _
            have q4 : Below bs w (wr.setCell ⟨w.heap.size, j, none⟩ (.int .u32 (zq.toNat : Int))) := HB.out.setCell (by have := HG.out; simp; omega) _
            have Q1 := Lib.hid q1
            have Q2 := Lib.hid q2
            have Q3 := Lib.hid q3
            have Q4 := Lib.hid q4
            clear hout hq hwin h0 h1 hiv hwl hll hzq hzz hzn hN hxd hiN hb0 q1 q2 q3 q4
            have hiNf : ((i : Int) < (N : Int)) = False := eq_false (by omega)
            go_wp2_with fail
            go_roundw
            case rel => exact ⟨j, (j : Int) - 1, xs, qs.set j zq, by omega, by go_num, by omega, HXL.out, by rw [List.length_set]; exact HQL.out, HOUT.out.1, HOUT.out.2, Q1.out, Q2.out, Q3.out, Q4.out⟩
            case measure => simp [intOf]
          · obtain ⟨hq, hwin⟩ := h1 hb0
            have hb1 : b = 1 := by omega
            obtain ⟨q1, hq1⟩ : ∃ q1, q - 1 = q1 := ⟨_, rfl⟩
            have hq0 : 1 ≤ q := by rw [hq]; exact Nat.le_add_left _ _
            have hq1i : (q : Int) - 1 = (q1 : Int) := by omega
            have hq1q : q1 = val ((ts.drop j).take (n + 1)) / V := by rw [← hq1, hq]; rfl
            have wq1 : IntKind.u64.wrap (q1 : Int) = (q1 : Int) := by rw [IntKind.wrap_u64]; omega
            have hsw := u32_of q1
            obtain ⟨zq, hzq⟩ : ∃ z, BitVec.ofNat 32 q1 = z := ⟨_, rfl⟩
            have hzz := ofNat_mod q1
            rw [hzq] at hsw hzz
            have hzn : zq.toNat = q1 := by omega
            have hbg : (0 < b) = True := eq_true (by omega)
            have hbf : decide (0 < b) = true := decide_eq_true (by omega)
            have hiNf : ((i : Int) < (N : Int)) = False := eq_false (by omega)
            obtain ⟨U1, hU1⟩ : ∃ U1, val ((xs.drop j).take (n + 1)) = U1 := ⟨_, rfl⟩
            obtain ⟨RR, hRR⟩ : ∃ U1, val ((ts.drop j).take (n + 1)) % V = U1 := ⟨_, rfl⟩
            have HRR := Lib.hid hRR
            have HQ1 := Lib.hid hq1q
            have HZN := Lib.hid hzn
            have HXD2 := Lib.hid hxd
            have HWIN := Lib.hid hwin
            have HN := Lib.hid hN
            clear h0 h1 hiv hwl hll hzq hzz hzn hN hxd hiN hb0 hq hwin hU1 hRR hq1 hq1q hb1 HIV HXD
            go_wp2_with fail
            go_loopw [10, 80] (fun cv iv wr => ∃ (c i : Nat) (ys : List (BitVec 32)), i ≤ N ∧ iv = .int .i64 i ∧ cv = .int .u64 c ∧ c ≤ 1 ∧ ys.length = nu ∧ ys.take j = xs.take j ∧ ys.drop (j + i) = xs.drop (j + i) ∧
                val ((ys.drop j).take i) + 4294967296 ^ i * c = val ((xs.drop j).take i) + val (vs.take i) ∧
                Own wr NoBlk bs 98 (.slice (some ⟨gu, 0, none⟩) nu cu) ys ∧ Own wr NoBlk g 98 (.slice (some ⟨g, 0, none⟩) m m) qs ∧ Keeps S w wr ∧ Below bs w wr)
              (fun _ iv _ => N - (intOf iv).toNat)
            case atStart => exact ⟨0, 0, xs, Nat.zero_le _, rfl, rfl, Nat.zero_le _, HXL.out, rfl, rfl, by simp [val], HOU.out, HOQ.out, HK.out, HB.out⟩
            case round =>
              clear HOU HOQ HK HB HVR hi hlt hiNf hcell hfr hc hb hbg hbf
              obtain ⟨c, i, ys, hi, rfl, rfl, hc, hyl, hyt, hyd, hinv, hou, hoq, hkeep, hbel⟩ := hrel
              have HYL := Lib.hid hyl
              have HYT := Lib.hid hyt
              have HYD := Lib.hid hyd
              have HIV := Lib.hid hinv
              have HOU := Lib.hid hou
              have HOQ := Lib.hid hoq
              have HK := Lib.hid hkeep
              have HB := Lib.hid hbel
              have HVR : Hid (RS wr S Av n cv vs) := Lib.hid (HV.out.keep (fun b hb => hb) hkeep)
              clear hyl hyt hyd hinv hou hoq hkeep hbel
              by_cases hlt : i < N
              · have hiN : (i : Int) < (N : Int) := by omega
                have hji : j + i < nu := by have := HN.out; omega
                obtain ⟨y, hy⟩ : ∃ y, (vs.getD i 0#32).toNat = y := ⟨_, rfl⟩
                obtain ⟨x, hx⟩ : ∃ x, (ys.getD (j + i) 0#32).toNat = x := ⟨_, rfl⟩
                have hyl : y < 4294967296 := by rw [← hy]; exact (vs.getD i 0#32).isLt
                have hxl : x < 4294967296 := by rw [← hx]; exact (ys.getD (j + i) 0#32).isLt
                obtain ⟨hcell, hfr⟩ := HOU.out.limb (k := j + i) (by rw [HYL.out]; exact hji)
                rw [hx] at hcell
                obtain ⟨s, hs⟩ : ∃ s, x + y + c = s := ⟨_, rfl⟩
                obtain ⟨s1, hs1⟩ : ∃ s, x + y = s := ⟨_, rfl⟩
                have hs1i : (x : Int) + (y : Int) = (s1 : Int) := by omega
                have hsi : (s1 : Int) + (c : Int) = (s : Int) := by omega
                have ws1 : IntKind.u64.wrap (s1 : Int) = (s1 : Int) := by rw [IntKind.wrap_u64]; omega
                have ws : IntKind.u64.wrap (s : Int) = (s : Int) := by rw [IntKind.wrap_u64]; omega
                have wx : IntKind.u64.wrap (x : Int) = (x : Int) := by rw [IntKind.wrap_u64]; omega
                obtain ⟨d, hd⟩ : ∃ d, s / 4294967296 = d := ⟨_, rfl⟩
                have hsd : (s : Int) / 4294967296 = (d : Int) := by rw [← hd]; rfl
                have hd1 : d ≤ 1 := by omega
                have hsw' := u32_of s
                obtain ⟨t, ht⟩ : ∃ t, BitVec.ofNat 32 s = t := ⟨_, rfl⟩
                have htt := ofNat_mod s
                rw [ht] at hsw' htt
                obtain ⟨k, hk'⟩ : ∃ k, j + i = k := ⟨_, rfl⟩
                have hki : (i : Int) + (j : Int) = (k : Int) := by omega
                have wk : IntKind.i64.wrap (k : Int) = (k : Int) := by rw [IntKind.wrap_i64]; omega
                have hkn : (k : Int) < (nu : Int) := by omega
                have hw := win_set t (by rw [HYL.out]; exact hji) HYT.out HYD.out
                have e1 := val_take_getD (xs.drop j) i
                have e2 := val_take_getD vs i
                have hst := add_step hs HIV.out
                have e3 : (xs.drop j).getD i 0#32 = xs.getD (j + i) 0#32 := by rw [List.getD_eq_getElem?_getD, List.getD_eq_getElem?_getD, List.getElem?_drop]
                rw [e3, ← hw.2.2.2, hx] at e1
                rw [hy] at e2
                rw [← e1, ← e2, hd, ← htt, ← hw.2.2.1, ← Nat.pow_succ] at hst
                rw [hk'] at hw hst hcell hfr
                have HW1 := Lib.hid hw.1
                have HW2 := Lib.hid hw.2.1
                have HST := Lib.hid hst
                have HLIMB : Hid (∀ z, Calls Tryz.prog 189 #[.slice Av n cv, .int .i64 i] (wr.drewN z) (RetW (wr.drewN z) (.int .u64 (y : Int)))) := Lib.hid fun z => by
                  rw [← hy]; exact limb_ok i (HVR.out.drewN z)
                clear hw hst hy hx e1 e2 e3 hs hs1 hd ht htt hk' HIV hm hsw
                go_wp2_with fail
                go_quiet ((go_at_call 189; (with_reducible refine (HLIMB.out _).mono ?_); rintro e w' ⟨rfl, rfl⟩; exact ⟨rfl, _, rfl⟩))
                go_wp2_with fail
                go_roundw
                case rel => exact ⟨d, i + 1, ys.set k t, by omega, by go_num, rfl, hd1, by rw [List.length_set]; exact HYL.out, HW1.out, HW2.out, HST.out, (HOU.out.drewN _).setLimb k t, (HOQ.out.drewN _).setCell (by simp [Value.ownBlock]; omega) (fun _ h => h.elim) _, (HK.out.drewN _).setCell (fun hb => (HSS.out _ hb).2 rfl) _, (below_drewN HB.out _).setCell hglt.1 _⟩
                case measure => simp [intOf]; omega
              · have hiN : i = n + 1 := by have := HN.out; omega
                have hiv := HIV.out
                have hwl := val_lt ((ys.drop j).take i)
                have hll : ((ys.drop j).take i).length = i := by rw [List.length_take, List.length_drop, HYL.out]; omega
                rw [hll] at hwl
                rw [val_take_all vs i (by rw [HV.out.len]; omega), HVV.out] at hiv
                rw [hiN] at hiv hwl
                have hR := addback_end hwl hiv HWIN.out hc
                have hyd : ys.drop (j + (n + 1)) = ts.drop (j + (n + 1)) := by rw [← hiN, HYD.out, hiN]; exact HXD2.out
                have hout := long_outer (us := us) (qs := qs) (by rw [HTL.out]; exact hjn) hVn HLOW.out (by rw [HYL.out, HTL.out]) (HYT.out.trans HXT.out) hyd hR HQ1.out HZN.out (by rw [HQL.out]; omega) HINV.out
                have HOUT := Lib.hid hout
                obtain ⟨hcell, hfr⟩ := HOQ.out.limb (k := j) (by rw [HQL.out]; omega)
                rw [← HG.out] at hcell hfr
                have q1' : Own (wr.setCell ⟨w.heap.size, j, none⟩ (.int .u32 (zq.toNat : Int))) NoBlk bs 98 (.slice (some ⟨gu, 0, none⟩) nu cu) ys := HOU.out.setCell (by simp [Value.ownBlock]; omega) (fun _ h => h.elim) _
                have q2 : Own (wr.setCell ⟨w.heap.size, j, none⟩ (.int .u32 (zq.toNat : Int))) NoBlk g 98 (.slice (some ⟨g, 0, none⟩) m m) (qs.set j zq) := by rw [HG.out]; exact HOQ.out.setLimb j zq
                have q3 : Keeps S w (wr.setCell ⟨w.heap.size, j, none⟩ (.int .u32 (zq.toNat : Int))) := HK.out.setCell (fun hb => Nat.lt_irrefl _ (HSS.out _ hb).1) _
                have q4 : Below bs w (wr.setCell ⟨w.heap.size, j, none⟩ (.int .u32 (zq.toNat : Int))) := HB.out.setCell (by have := HG.out; simp; omega) _
                have Q1 := Lib.hid q1'
                have Q2 := Lib.hid q2
                have Q3 := Lib.hid q3
                have Q4 := Lib.hid q4
                have hiNf : ((i : Int) < (N : Int)) = False := eq_false (by omega)
                clear hout hR hyd hiv hwl hll hiN q1' q2 q3 q4 hlt
                go_wp2_with fail
                go_roundw
                case rel => exact ⟨j, (j : Int) - 1, ys, qs.set j zq, by omega, by go_num, by omega, HYL.out, by rw [List.length_set]; exact HQL.out, HOUT.out.1, HOUT.out.2, Q1.out, Q2.out, Q3.out, Q4.out⟩
                case measure => simp [intOf]
end Go.Proofs.YtjlhbfbdcfajfaaGreatDoor
/- nat: the plain laws of Div, Gcd and Bits: the shift that sets a divisor's highest bit. -/
namespace Go.Proofs.YtjlhbfbdcfajfaaGreatDoor

theorem bitLenAux_lt : ∀ (f x : Nat), x < 2 ^ f → x < 2 ^ Lib.bitLenAux f x ∧ Lib.bitLenAux f x ≤ f ∧ (0 < x → 2 ^ (Lib.bitLenAux f x) ≤ 2 * x ∧ 0 < Lib.bitLenAux f x)
  | 0, x, h => by
    have : x = 0 := by simpa using h
    subst this
    simp [Lib.bitLenAux]
  | f + 1, x, h => by
    unfold Lib.bitLenAux
    split
    · rename_i h0; subst h0; simp
    · rename_i h0
      obtain ⟨h1, h2, h3⟩ := bitLenAux_lt f (x / 2) (by rw [Nat.pow_succ] at h; omega)
      obtain ⟨k, hk⟩ : ∃ k, Lib.bitLenAux f (x / 2) = k := ⟨_, rfl⟩
      rw [hk] at h1 h2 h3 ⊢
      have e : 2 ^ (1 + k) = 2 * 2 ^ k := by rw [Nat.add_comm, Nat.pow_succ']
      refine ⟨by rw [e]; omega, by omega, fun _ => ⟨?_, by omega⟩⟩
      rw [e]
      rcases Nat.eq_zero_or_pos (x / 2) with hz | hz
      · have : k = 0 := by
          have hx : x / 2 = 0 := hz
          rw [hx] at hk
          cases f with
          | zero => simpa [Lib.bitLenAux] using hk.symm
          | succ f => simpa [Lib.bitLenAux] using hk.symm
        subst this
        omega
      · have := (h3 hz).1
        omega
theorem bitLen_le {x k : Nat} (hx : x < 2 ^ k) (hk : k ≤ 64) : Lib.bitLen x ≤ k := by
  obtain ⟨h1, h2, h3⟩ := bitLenAux_lt 64 x (Nat.lt_of_lt_of_le hx (Nat.pow_le_pow_right (by omega) hk))
  unfold Lib.bitLen
  rcases Nat.lt_or_ge k (Lib.bitLenAux 64 x) with hc | hc
  · exfalso
    rcases Nat.eq_zero_or_pos x with h0 | h0
    · subst h0; simp [Lib.bitLenAux] at hc
    · have h4 := (h3 h0).1
      have h5 : 2 ^ (k + 1) ≤ 2 ^ Lib.bitLenAux 64 x := Nat.pow_le_pow_right (by omega) hc
      rw [Nat.pow_succ] at h5
      omega
  · exact hc
/-- shifted by its leading zeros a limb has its highest bit set -/
theorem lz_spec {t : Nat} (h0 : 0 < t) (h : t < 4294967296) : Lib.bitLen t ≤ 32 ∧ 0 < Lib.bitLen t ∧ 2147483648 ≤ t * 2 ^ (32 - Lib.bitLen t) ∧ t * 2 ^ (32 - Lib.bitLen t) < 4294967296 := by
  have hle : Lib.bitLen t ≤ 32 := bitLen_le (by simpa using h) (by omega)
  obtain ⟨h1, h2, h3⟩ := bitLenAux_lt 64 t (by omega)
  have h4 := h3 h0
  change t < 2 ^ Lib.bitLen t at h1
  change 2 ^ Lib.bitLen t ≤ 2 * t ∧ 0 < Lib.bitLen t at h4
  obtain ⟨k, hk⟩ : ∃ k, Lib.bitLen t = k := ⟨_, rfl⟩
  rw [hk] at hle h1 h4 ⊢
  refine ⟨hle, h4.2, ?_, ?_⟩
  · have e : 2 ^ k * 2 ^ (32 - k) = 4294967296 := by rw [← Nat.pow_add, show k + (32 - k) = 32 by omega]
    have := Nat.mul_le_mul_right (2 ^ (32 - k)) h4.1
    rw [e, Nat.mul_assoc] at this
    omega
  · have e : 2 ^ k * 2 ^ (32 - k) = 4294967296 := by rw [← Nat.pow_add, show k + (32 - k) = 32 by omega]
    have := Nat.mul_lt_mul_of_pos_right h1 (Nat.two_pow_pos (32 - k))
    omega
theorem val_drop_div (us : List (BitVec 32)) (k : Nat) (hk : k ≤ us.length) : val (us.drop k) * 4294967296 ^ k ≤ val us := by
  have := val_take_drop us k hk
  rw [Nat.mul_comm] at this ⊢
  rw [this, Nat.mul_comm]
  exact Nat.le_add_left _ _
/-- what the long division asks of divisor and dividend -/
theorem div_setup {ys : List (BitVec 32)} {n t s V : Nat} (hl : ys.length = n + 1) (hV : val ys = V) (ht : (ys.getD n 0#32).toNat = t) (h1 : 2147483648 ≤ t * 2 ^ s) (h2 : t * 2 ^ s < 4294967296) :
    (lim (V * 2 ^ s)).length = n + 1 ∧ 2147483648 ≤ ((lim (V * 2 ^ s)).getD n 0#32).toNat ∧ 2147483648 * 4294967296 ^ n ≤ V * 2 ^ s := by
  have e1 := val_take_getD ys n
  rw [val_take_all ys (n + 1) (by omega), hV, ht] at e1
  have e2 := val_lt (ys.take n)
  rw [List.length_take, hl, Nat.min_eq_left (by omega)] at e2
  have hp := Nat.two_pow_pos s
  have hlo : 2147483648 * 4294967296 ^ n ≤ V * 2 ^ s := by
    rw [e1, Nat.add_mul, Nat.mul_assoc, Nat.mul_comm 2147483648]
    have := Nat.mul_le_mul_left (4294967296 ^ n) h1
    omega
  have hhi : V * 2 ^ s < 4294967296 ^ (n + 1) := by
    have h3 : V < 4294967296 ^ n * (t + 1) := by rw [Nat.mul_succ]; omega
    have h4 : V * 2 ^ s < 4294967296 ^ n * (t + 1) * 2 ^ s := Nat.mul_lt_mul_of_pos_right h3 hp
    have h5 : (t + 1) * 2 ^ s ≤ 4294967296 := by
      -- t * 2^s < 2^32 and both are multiples of 2^s
      rcases Nat.lt_or_ge 32 s with hs | hs
      · exfalso
        have ht0 : 0 < t := by
          rcases Nat.eq_zero_or_pos t with h | h
          · subst h; omega
          · exact h
        have : 2 ^ 33 ≤ 2 ^ s := Nat.pow_le_pow_right (by omega) hs
        have : 1 * 2 ^ s ≤ t * 2 ^ s := Nat.mul_le_mul_right _ ht0
        omega
      · have e : 4294967296 = 2 ^ (32 - s) * 2 ^ s := by rw [← Nat.pow_add, show 32 - s + s = 32 by omega]
        rw [e] at h2 ⊢
        exact Nat.mul_le_mul_right _ (Nat.lt_of_mul_lt_mul_right h2)
    have h6 : 4294967296 ^ n * (t + 1) * 2 ^ s ≤ 4294967296 ^ n * 4294967296 := by rw [Nat.mul_assoc]; exact Nat.mul_le_mul_left _ h5
    rw [Nat.pow_succ]
    omega
  have hlen : (lim (V * 2 ^ s)).length = n + 1 := by
    have a1 := lim_length_le hhi
    have a2 := lim_length_ge (n := V * 2 ^ s) (k := n) (by omega)
    omega
  refine ⟨hlen, ?_, hlo⟩
  have e3 := val_take_getD (lim (V * 2 ^ s)) n
  rw [val_take_all _ (n + 1) (by omega), val_lim] at e3
  have e4 := val_lt ((lim (V * 2 ^ s)).take n)
  rw [List.length_take, hlen, Nat.min_eq_left (by omega)] at e4
  obtain ⟨x, hx⟩ : ∃ x, ((lim (V * 2 ^ s)).getD n 0#32).toNat = x := ⟨_, rfl⟩
  rw [hx] at e3 ⊢
  rcases Nat.lt_or_ge x 2147483648 with hc | hc
  · exfalso
    have := Nat.mul_le_mul_left (4294967296 ^ n) (show x + 1 ≤ 2147483648 from hc)
    rw [Nat.mul_succ] at this
    have e5 : 4294967296 ^ n * 2147483648 = 2147483648 * 4294967296 ^ n := Nat.mul_comm _ _
    omega
  · exact hc
theorem div_top {us xs : List (BitVec 32)} {n m s V : Nat} (hul : us.length = m + 1) (hxl : xs.length = m) (hU : val us = val xs * 2 ^ s) (hs : s ≤ 31) (hnm : n < m + 1) (hlo : 2147483648 * 4294967296 ^ n ≤ V) : val (us.drop (m + 1 - (n + 1))) < V := by
  have h1 := val_drop_div us (m - n) (by omega)
  have h2 := val_lt xs
  rw [hxl] at h2
  have h3 : (2 : Nat) ^ s ≤ 2 ^ 31 := Nat.pow_le_pow_right (by omega) hs
  have h4 : val xs * 2 ^ s ≤ val xs * 2147483648 := Nat.mul_le_mul_left _ h3
  have h5 : val us < 4294967296 ^ m * 2147483648 := by
    have := Nat.mul_lt_mul_of_pos_right h2 (show 0 < 2147483648 by omega)
    omega
  have e : 4294967296 ^ m = 4294967296 ^ n * 4294967296 ^ (m - n) := by rw [← Nat.pow_add, show n + (m - n) = m by omega]
  have hh : m + 1 - (n + 1) = m - n := by omega
  rw [hh]
  rcases Nat.lt_or_ge (val (us.drop (m - n))) V with hc | hc
  · exact hc
  · exfalso
    have h6 : 2147483648 * 4294967296 ^ n * 4294967296 ^ (m - n) ≤ val (us.drop (m - n)) * 4294967296 ^ (m - n) := Nat.mul_le_mul_right _ (by omega)
    rw [Nat.mul_assoc, ← e] at h6
    omega
theorem shl_div (X V s : Nat) : X * 2 ^ s / (V * 2 ^ s) = X / V := Nat.mul_div_mul_right _ _ (Nat.two_pow_pos s)
theorem shl_mod (X V s : Nat) : X * 2 ^ s % (V * 2 ^ s) / 2 ^ s = X % V := by
  rw [Nat.mul_mod_mul_right, Nat.mul_div_cancel _ (Nat.two_pow_pos s)]
end Go.Proofs.YtjlhbfbdcfajfaaGreatDoor
