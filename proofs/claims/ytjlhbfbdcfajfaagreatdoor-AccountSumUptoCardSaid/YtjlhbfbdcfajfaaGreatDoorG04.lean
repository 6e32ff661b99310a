/- NatM4 Nat6 Nat7 NatD Nat8 -/
import Derived.Test.YtjlhbfbdcfajfaaGreatDoorG03
import Derived.Outline
/- Natural numbers as lists of limbs: dividing by one limb, shifting; plain arithmetic. -/
namespace Go.Proofs.YtjlhbfbdcfajfaaGreatDoor

theorem or_low32 (a x : Nat) (hx : x < 4294967296) : a * 4294967296 ||| x = a * 4294967296 + x := by
  have : a * 4294967296 = a <<< 32 := by rw [Nat.shiftLeft_eq]
  rw [this, Nat.shiftLeft_add_eq_or_of_lt (by simpa using hx)]
theorem val_drop_at {l : List (BitVec 32)} {k : Nat} {x : BitVec 32} (hx : l[k]? = some x) : val (l.drop k) = x.toNat + 4294967296 * val (l.drop (k + 1)) := by
  obtain ⟨hk, e⟩ := List.getElem?_eq_some_iff.1 hx
  rw [List.drop_eq_getElem_cons hk, e, val]
theorem drop_set_self {l : List (BitVec 32)} {k : Nat} (x : BitVec 32) (h : k < l.length) : (l.set k x).drop k = x :: l.drop (k + 1) := by
  rw [List.drop_eq_getElem_cons (by simpa using h), List.getElem_set_self, List.drop_set_of_lt (by omega)]
theorem short_step {a r d x Q V B : Nat} (hx : r * B + a = x) (h : Q * d + r = V) : (x / d + B * Q) * d + x % d = a + B * V := by
  have e := Nat.div_add_mod x d
  have e1 : (x / d + B * Q) * d = d * (x / d) + B * (Q * d) := by grind
  have e2 : B * V = B * (Q * d) + r * B := by rw [← h]; grind
  omega
theorem short_lt {a r d x : Nat} (hr : r < d) (ha : a < 4294967296) (hx : r * 4294967296 + a = x) : x / d < 4294967296 := by
  apply Nat.div_lt_of_lt_mul
  have : (r + 1) * 4294967296 ≤ d * 4294967296 := Nat.mul_le_mul_right _ (by omega)
  omega
theorem divmod_of {q d r v : Nat} (h : q * d + r = v) (hr : r < d) : q = v / d ∧ r = v % d := by
  subst h
  constructor
  · rw [Nat.mul_comm, Nat.mul_add_div (by omega), Nat.div_eq_of_lt hr]; rfl
  · rw [Nat.mul_comm, Nat.mul_add_mod, Nat.mod_eq_of_lt hr]
/-- a number below 2^s beside a multiple of 2^s -/
theorem or_mul (c a s : Nat) (hc : c < 2 ^ s) : c ||| a * 2 ^ s = c + a * 2 ^ s := by
  have : a * 2 ^ s = a <<< s := by rw [Nat.shiftLeft_eq]
  rw [this, Nat.or_comm, ← Nat.shiftLeft_add_eq_or_of_lt hc, Nat.add_comm]
theorem mul_mod_pow (x s : Nat) (hs : s ≤ 32) : x * 2 ^ s % 4294967296 = x % 2 ^ (32 - s) * 2 ^ s := by
  have e : 4294967296 = 2 ^ (32 - s) * 2 ^ s := by
    have : 32 - s + s = 32 := by omega
    rw [← Nat.pow_add, this]
  rw [e, Nat.mul_mod_mul_right]
/-- a limb moved up: what stays, beside what came in -/
theorem left_or {c x s : Nat} (hc : c < 2 ^ s) (hs : s ≤ 32) : c ||| x * 2 ^ s % 4294967296 = c + x * 2 ^ s % 4294967296 := by
  rw [mul_mod_pow x s hs]
  exact or_mul _ _ _ hc
theorem left_lt {x s : Nat} (hx : x < 4294967296) : x * 2 ^ s / 4294967296 < 2 ^ s := by
  apply Nat.div_lt_of_lt_mul
  have := Nat.two_pow_pos s
  exact Nat.mul_lt_mul_of_lt_of_le hx (Nat.le_refl _) this
theorem left_step {v p c x y A B : Nat} (h : v + p * c = A * y) : (v + p * (c + x * y % B)) + p * B * (x * y / B) = (A + p * x) * y := by
  have e : p * (x * y % B) + p * B * (x * y / B) = p * (x * y) := by
    rw [Nat.mul_assoc, ← Nat.mul_add, Nat.mod_add_div]
  rw [Nat.add_mul, ← h, Nat.mul_add, Nat.mul_assoc p x y]
  omega
theorem right_digit {x y r s : Nat} (hs : s ≤ 32) : ((x + 4294967296 * (y + 4294967296 * r)) / 2 ^ s) % 4294967296 = ((x + 4294967296 * y) / 2 ^ s) % 4294967296 := by
  have e : 4294967296 = 2 ^ s * 2 ^ (32 - s) := by
    have : s + (32 - s) = 32 := by omega
    rw [← Nat.pow_add, this]
  have h1 : x + 4294967296 * (y + 4294967296 * r) = (x + 4294967296 * y) + 2 ^ s * (2 ^ (32 - s) * r * 4294967296) := by
    have : 4294967296 * (4294967296 * r) = 2 ^ s * (2 ^ (32 - s) * r * 4294967296) := by
      conv => lhs; rw [← Nat.mul_assoc, Nat.mul_comm 4294967296 4294967296, Nat.mul_assoc]
      have : 4294967296 * r = 2 ^ s * (2 ^ (32 - s) * r) := by rw [← Nat.mul_assoc, ← e]
      rw [this]
      grind
    rw [Nat.mul_add, this]; omega
  rw [h1, Nat.add_mul_div_left _ _ (Nat.two_pow_pos s), Nat.add_mul_mod_self_right]
theorem mod_succ (Q k : Nat) : Q % 4294967296 ^ (k + 1) = Q % 4294967296 ^ k + 4294967296 ^ k * (Q / 4294967296 ^ k % 4294967296) := by
  rw [Nat.pow_succ, Nat.mod_mul]
theorem div_pow (l : List (BitVec 32)) (k : Nat) : val l / 4294967296 ^ k = val (l.drop k) := by
  rcases Nat.lt_or_ge k l.length with h | h
  · have h1 := val_take_drop l k (by omega)
    have h2 := val_lt (l.take k)
    have hl : (l.take k).length = k := by simp; omega
    rw [hl] at h2
    rw [h1, Nat.add_comm, Nat.mul_add_div (by omega), Nat.div_eq_of_lt h2]; rfl
  · rw [List.drop_eq_nil_of_le h]
    apply Nat.div_eq_of_lt
    exact Nat.lt_of_lt_of_le (val_lt l) (Nat.pow_le_pow_right (by omega) h)
theorem val_drop_getD (l : List (BitVec 32)) (k : Nat) : val (l.drop k) = (l.getD k 0#32).toNat + 4294967296 * val (l.drop (k + 1)) := by
  rcases Nat.lt_or_ge k l.length with h | h
  · have hx : l[k]? = some (l.getD k 0#32) := by rw [List.getD_eq_getElem?_getD, List.getElem?_eq_getElem h]; rfl
    exact val_drop_at hx
  · rw [List.drop_eq_nil_of_le h, List.drop_eq_nil_of_le (by omega), List.getD_eq_getElem?_getD, List.getElem?_eq_none h]
    simp [val]
/-- a digit of the number moved down -/
theorem right_step (l : List (BitVec 32)) (k s : Nat) (hs : s ≤ 32) : val l / 2 ^ s / 4294967296 ^ k % 4294967296 = (((l.getD k 0#32).toNat + 4294967296 * (l.getD (k + 1) 0#32).toNat) / 2 ^ s) % 4294967296 := by
  rw [Nat.div_div_eq_div_mul, Nat.mul_comm, ← Nat.div_div_eq_div_mul, div_pow, val_drop_getD, val_drop_getD l (k + 1), right_digit hs]
end Go.Proofs.YtjlhbfbdcfajfaaGreatDoor
/- nat: short. -/
namespace Go.Proofs.YtjlhbfbdcfajfaaGreatDoor
open Go.RowKit

/-- quotient and remainder by one limb -/
def RetShortDiv (w : World) (v n d : Nat) (en : Ending) (w' : World) : Prop :=
  ∃ (s : Value) (qs : List (BitVec 32)), en = .returned (.tuple #[s, .int .u64 ((v % d : Nat) : Int)]) ∧ Own w' NoBlk w.heap.size 98 s qs ∧ val qs = v / d ∧ qs.length = n ∧ Below w.heap.size w w'
theorem or64 (a x : Nat) (ha : a < 4294967296) (hx : x < 4294967296) : bits .or .u64 ((a : Int) * 4294967296) (x : Int) = ((a * 4294967296 + x : Nat) : Int) := by
  have e : (a : Int) * 4294967296 = ((a * 4294967296 : Nat) : Int) := by omega
  rw [e, u64_or_nat _ _ (by omega) (by omega), or_low32 _ _ hx]

set_option maxHeartbeats 1000000 in
theorem short_okN {S : Nat → Prop} {A : Option Addr} {n c : Nat} {xs : List (BitVec 32)} {w : World} (d : Nat) (h : RS w S A n c xs) (hS : ∀ b, S b → b < w.heap.size) (hn : n ≤ 1073741824) (hd : 0 < d) (hd2 : d < 4294967296) :
    Calls Tryz.prog 130 #[.slice A n c, .int .u64 d] w (RetShortDiv w (val xs) n d) := by
  obtain ⟨i0, hi, hz0, hz1, hz2⟩ := info_parts Tryz.u32Info
  have HI := Lib.hid hi
  have HZ0 := Lib.hid hz0
  have HZ1 := Lib.hid hz1
  have HZ2 := Lib.hid hz2
  have H := Lib.hid h
  have HL := Lib.hid h.len
  clear h hi hz0 hz1 hz2
  go_enter Tryz.func130, Tryz.ntmps130
  go_wp2_with (refine wpList_make_Own (α := BitVec 32) _ rfl _ _ _ rfl rfl w.heap.size i0 (.int .u32 0) Tryz.underlying26 HI.out HZ0.out HZ1.out rfl .i64 .i64 (n : Int) (n : Int) n rfl rfl rfl rfl (by rw [HZ2.out]; omega) (by unfold maxLen; omega) (Nat.le_refl _) 0#32 NoBlk (fun _ h => h.elim) (fun _ _ => rfl) ?_
               intro w1 ho1 hg1
               have HO1 := Lib.hid ho1
               have HB1 := Lib.hid ((Below.refl w.heap.size w).grown hg1 (Nat.le_refl _) (fun k hk => by cases hk))
               clear ho1 hg1)
  obtain ⟨g, hg⟩ : ∃ g, w.heap.size = g := ⟨_, rfl⟩
  rw [hg] at HO1
  rw [hg]
  have HG := Lib.hid hg
  clear hg
  go_loopw [7, 8] (fun rv i wr => ∃ (k r : Nat) (z : Int) (qs : List (BitVec 32)), k ≤ n ∧ i = .int .i64 z ∧ z + 1 = k ∧ rv = .int .u64 r ∧ r < d ∧ qs.length = n ∧ val (qs.drop k) * d + r = val (xs.drop k) ∧ Own wr NoBlk g 98 (.slice (some ⟨g, 0, none⟩) n n) qs ∧ Below w.heap.size w wr)
    (fun _ i _ => (intOf i + 1).toNat)
  case atStart => exact ⟨n, 0, (n : Int) - 1, List.replicate n 0#32, Nat.le_refl _, rfl, by omega, rfl, hd, by simp, by rw [List.drop_eq_nil_of_le (by simp), List.drop_eq_nil_of_le (by rw [HL.out]; exact Nat.le_refl _)]; simp [val], HO1.out, HB1.out⟩
  case round =>
    clear HO1 HB1
    obtain ⟨k, r, z, qs, hk, rfl, hz, rfl, hr, hql, hinv, ho, hb⟩ := hrel
    have HO1 := Lib.hid ho
    have HB1 := Lib.hid hb
    have HQL := Lib.hid hql
    have HINV := Lib.hid hinv
    clear ho hb hql hinv
    rcases k with _ | k
    · obtain rfl : z = -1 := by omega
      have hdm := divmod_of (HINV.out) hr
      rw [List.drop_zero, List.drop_zero] at hdm
      have HD := Lib.hid hdm
      clear hdm hz
      go_wp2_with fail
      go_ret2
      exact ⟨_, qs, by rw [← HD.out.2]; rfl, by rw [HG.out]; exact HO1.out, HD.out.1, HQL.out, HB1.out⟩
    · obtain rfl : z = k := by omega
      have hkn : (k : Int) < (n : Int) := by omega
      obtain ⟨b, o, a, rfl, _, hx, e1⟩ := (H.out.below HB1.out hS).limb_at (k := k) (by omega)
      have hal := a.isLt
      have hva := val_drop_at hx
      obtain ⟨hcell, hfr⟩ := HO1.out.limb (k := k) (by rw [HQL.out]; omega)
      obtain ⟨x, hxx⟩ : ∃ x, r * 4294967296 + a.toNat = x := ⟨_, rfl⟩
      have hs := short_step (B := 4294967296) hxx HINV.out
      rw [← hva] at hs
      have hql := short_lt hr hal hxx
      have hor := or64 r a.toNat (by omega) hal
      rw [hxx] at hor
      have hxb : x < 18446744073709551616 := by omega
      obtain ⟨q, hq⟩ : ∃ q, x / d = q := ⟨_, rfl⟩
      obtain ⟨r', hr'⟩ : ∃ r', x % d = r' := ⟨_, rfl⟩
      have hrl : r' < d := by rw [← hr']; exact Nat.mod_lt _ hd
      rw [hq] at hs hql
      rw [hr'] at hs
      have hqd : (x : Int).tdiv (d : Int) = (q : Int) := by rw [← hq]; rfl
      have hrd : (x : Int).tmod (d : Int) = (r' : Int) := by rw [← hr']; rfl
      have hqd2 : (x : Int) / (d : Int) = (q : Int) := by rw [← hq]; rfl
      have hrd2 : (x : Int) % (d : Int) = (r' : Int) := by rw [← hr']; rfl
      have haw : IntKind.u64.wrap (a.toNat : Int) = (a.toNat : Int) := by rw [IntKind.wrap_u64]; omega
      have hsw := u32_of q
      obtain ⟨zq, hzq⟩ : ∃ z, BitVec.ofNat 32 q = z := ⟨_, rfl⟩
      have hzz := ofNat_mod q
      rw [hzq] at hsw hzz
      have hzn : zq.toNat = q := by omega
      have hnew : val ((qs.set k zq).drop k) * d + r' = val (xs.drop k) := by
        rw [drop_set_self zq (by rw [HQL.out]; omega), val, hzn]; exact hs
      have hd0 : ((d : Int) == 0) = false := by rw [beq_eq_false_iff_ne]; omega
      have HNEW := Lib.hid hnew
      clear hs hx hva hxx hq hr' hzq hzz hzn hnew hz
      go_wp2_with fail
      go_roundw
      case rel => exact ⟨k, r', (k : Int) - 1, qs.set k zq, by omega, by go_num, by omega, rfl, hrl, by rw [List.length_set]; exact HQL.out, HNEW.out, HO1.out.setLimb k zq, HB1.out.setCell (by have := HG.out; simp; omega) _⟩
      case measure => simp [intOf]
end Go.Proofs.YtjlhbfbdcfajfaaGreatDoor
/- nat: left, right. -/
namespace Go.Proofs.YtjlhbfbdcfajfaaGreatDoor
open Go.RowKit

/-- a new row of n limbs that denotes v -/
def RetV2 (w : World) (v n : Nat) (en : Ending) (w' : World) : Prop :=
  ∃ (s : Value) (zs : List (BitVec 32)), en = .returned s ∧ Own w' NoBlk w.heap.size 98 s zs ∧ val zs = v ∧ zs.length = n ∧ Below w.heap.size w w'

theorem getD_zeros (M k : Nat) : (List.replicate M 0#32).getD k 0#32 = 0#32 := by
  rw [List.getD_eq_getElem?_getD, List.getElem?_replicate]
  split <;> rfl
theorem getD_set_self {l : List (BitVec 32)} {k : Nat} (z : BitVec 32) (h : k < l.length) : (l.set k z).getD k 0#32 = z := by
  rw [List.getD_eq_getElem?_getD, List.getElem?_set_self h]; rfl
theorem getD_set_next {l : List (BitVec 32)} {k : Nat} (z : BitVec 32) : (l.set k z).getD (k + 1) 0#32 = l.getD (k + 1) 0#32 := by
  rw [List.getD_eq_getElem?_getD, List.getD_eq_getElem?_getD, List.getElem?_set_ne (by omega)]
theorem take_set_next {l : List (BitVec 32)} {k : Nat} (z : BitVec 32) : (l.set (k + 1) z).take (k + 1) = l.take (k + 1) := by
  rw [List.take_set, List.set_eq_of_length_le (by simp; omega)]

set_option maxHeartbeats 1000000 in
theorem left_ok {S : Nat → Prop} {A : Option Addr} {n c : Nat} {xs : List (BitVec 32)} {w : World} (sh : Nat) (h : RS w S A n c xs) (hS : ∀ b, S b → b < w.heap.size) (hn : n ≤ 1073741824) (hs : sh < 32) :
    Calls Tryz.prog 163 #[.slice A n c, .int .i64 sh] w (RetV2 w (val xs * 2 ^ sh) (n + 1)) := by
  obtain ⟨i0, hi, hz0, hz1, hz2⟩ := info_parts Tryz.u32Info
  have HI := Lib.hid hi
  have HZ0 := Lib.hid hz0
  have HZ1 := Lib.hid hz1
  have HZ2 := Lib.hid hz2
  have H := Lib.hid h
  have HL := Lib.hid h.len
  clear h hi hz0 hz1 hz2
  have hm1 : (n : Int) + 1 = ((n + 1 : Nat) : Int) := by omega
  obtain ⟨M, hM⟩ : ∃ M, n + 1 = M := ⟨_, rfl⟩
  rw [hM] at hm1
  rw [hM]
  have hMb : M ≤ 1073741825 := by omega
  have HM := Lib.hid hM
  clear hM
  go_enter Tryz.func163, Tryz.ntmps163
  go_wp2_with (refine wpList_make_Own (α := BitVec 32) _ rfl _ _ _ rfl rfl w.heap.size i0 (.int .u32 0) Tryz.underlying26 HI.out HZ0.out HZ1.out rfl .i64 .i64 (M : Int) (M : Int) M rfl rfl rfl rfl (by rw [HZ2.out]; omega) (by unfold maxLen; omega) (Nat.le_refl _) 0#32 NoBlk (fun _ h => h.elim) (fun _ _ => rfl) ?_
               intro w1 ho1 hg1
               have HO1 := Lib.hid ho1
               have HB1 := Lib.hid ((Below.refl w.heap.size w).grown hg1 (Nat.le_refl _) (fun k hk => by cases hk))
               clear ho1 hg1)
  obtain ⟨g, hg⟩ : ∃ g, w.heap.size = g := ⟨_, rfl⟩
  rw [hg] at HO1
  rw [hg]
  have HG := Lib.hid hg
  clear hg hm1
  go_loopw [15] (fun i wr => ∃ (k : Nat) (zs : List (BitVec 32)), k ≤ n ∧ i = .int .i64 k ∧ zs.length = M ∧ (zs.getD k 0#32).toNat < 2 ^ sh ∧ val (zs.take k) + 4294967296 ^ k * (zs.getD k 0#32).toNat = val (xs.take k) * 2 ^ sh ∧ Own wr NoBlk g 98 (.slice (some ⟨g, 0, none⟩) M M) zs ∧ Below w.heap.size w wr)
    (fun i _ => n - (intOf i).toNat)
  case atStart =>
    have hp := Nat.two_pow_pos sh
    refine ⟨0, List.replicate M 0#32, by omega, rfl, by simp, ?_, ?_, HO1.out, HB1.out⟩
    · rw [getD_zeros]; exact hp
    · rw [getD_zeros]; simp [val]
  case round =>
    clear HO1 HB1
    obtain ⟨k, zs, hk, rfl, hzl, hcl, hinv, ho, hb⟩ := hrel
    have HO1 := Lib.hid ho
    have HB1 := Lib.hid hb
    have HZL := Lib.hid hzl
    have HINV := Lib.hid hinv
    have HCL := Lib.hid hcl
    clear ho hb hzl hinv hcl
    by_cases hlt : k < n
    · have hkn : (k : Int) < (n : Int) := by omega
      have hkM : (k : Int) < (M : Int) := by have := HM.out; omega
      have hkM2 : (k : Int) + 1 < (M : Int) := by have := HM.out; omega
      obtain ⟨b, o, x, rfl, _, hx, e1⟩ := (H.out.below HB1.out hS).limb_at hlt
      have hxl := x.isLt
      obtain ⟨hcell, hfr⟩ := HO1.out.limb (k := k) (by rw [HZL.out]; have := HM.out; omega)
      obtain ⟨c0, hc0⟩ : ∃ c0, zs.getD k 0#32 = c0 := ⟨_, rfl⟩
      rw [hc0] at hcell HINV HCL
      obtain ⟨v, hv⟩ : ∃ v, x.toNat * 2 ^ sh = v := ⟨_, rfl⟩
      have h2p : 2 ^ sh ≤ 2 ^ 31 := Nat.pow_le_pow_right (by omega) (by omega)
      have hvb : v < 18446744073709551616 := by
        have : x.toNat * 2 ^ sh ≤ 4294967295 * 2 ^ 31 := Nat.mul_le_mul (by omega) h2p
        omega
      have hvw : IntKind.u64.wrap ((x.toNat : Int) * 2 ^ sh) = (v : Int) := by
        have : (x.toNat : Int) * 2 ^ sh = (v : Int) := by rw [← hv, Int.natCast_mul, Int.natCast_pow]; rfl
        rw [this, IntKind.wrap_u64]; omega
      have hxw : IntKind.u64.wrap (x.toNat : Int) = (x.toNat : Int) := by rw [IntKind.wrap_u64]; omega
      have h1 := u32_of v
      obtain ⟨z1, hz1⟩ : ∃ z, BitVec.ofNat 32 v = z := ⟨_, rfl⟩
      have hz1n := ofNat_mod v
      rw [hz1] at h1 hz1n
      have hor := u32_or' c0 z1
      obtain ⟨z2, hz2⟩ : ∃ z, c0 ||| z1 = z := ⟨_, rfl⟩
      have hz2n : z2.toNat = c0.toNat + v % 4294967296 := by
        rw [← hz2, BitVec.toNat_or, hz1n, ← hv]
        exact left_or HCL.out (by omega)
      rw [hz2] at hor
      have hvd : (v : Int) / 4294967296 = ((v / 4294967296 : Nat) : Int) := rfl
      have h3 := u32_of (v / 4294967296)
      obtain ⟨z3, hz3⟩ : ∃ z, BitVec.ofNat 32 (v / 4294967296) = z := ⟨_, rfl⟩
      have hz3n := ofNat_mod (v / 4294967296)
      rw [hz3] at h3 hz3n
      have hl3 : v / 4294967296 < 2 ^ sh := by rw [← hv]; exact left_lt hxl
      have hz3m : z3.toNat = v / 4294967296 := by rw [hz3n, Nat.mod_eq_of_lt (by omega)]
      have hst := left_step (B := 4294967296) (x := x.toNat) HINV.out
      rw [hv] at hst
      have hva := val_take_succ hx
      have hkl : k < zs.length := by rw [HZL.out]; have := HM.out; omega
      have hkl1 : k + 1 < (zs.set k z2).length := by rw [List.length_set, HZL.out]; have := HM.out; omega
      have hnew : val (((zs.set k z2).set (k + 1) z3).take (k + 1)) + 4294967296 ^ (k + 1) * (((zs.set k z2).set (k + 1) z3).getD (k + 1) 0#32).toNat = val (xs.take (k + 1)) * 2 ^ sh := by
        rw [take_set_next, val_set_succ z2 hkl, getD_set_self z3 hkl1, hz2n, hz3m, hva, Nat.pow_succ]
        exact hst
      have hnl : (((zs.set k z2).set (k + 1) z3).getD (k + 1) 0#32).toNat < 2 ^ sh := by rw [getD_set_self z3 hkl1, hz3m]; exact hl3
      obtain ⟨vd, hvd2⟩ : ∃ vd, v / 4294967296 = vd := ⟨_, rfl⟩
      rw [hvd2] at hvd h3
      clear hvd2
      have hO2 := HO1.out.setLimb k z2
      obtain ⟨hcell1, hfr1⟩ := hO2.limb (k := k + 1) hkl1
      have hO3 := hO2.setLimb (k + 1) z3
      have HO3 := Lib.hid hO3
      have HNEW := Lib.hid hnew
      have HNL := Lib.hid hnl
      clear hv h2p hz1 hz1n hz2 hz2n hz3 hz3n hl3 hz3m hst hva hkl hnew hnl hO2 hO3 hx hc0
      go_wp2_with fail
      go_roundw
      case rel =>
        refine ⟨k + 1, _, by omega, by go_num, by rw [List.length_set, List.length_set]; exact HZL.out, HNL.out, HNEW.out, HO3.out, (HB1.out.setCell (by have := HG.out; simp; omega) _).setCell (by have := HG.out; simp; omega) _⟩
      case measure => simp [intOf]; omega
    · have hkn : k = n := by omega
      have hfin : val zs = val xs * 2 ^ sh := by
        have h1 := HINV.out
        rw [hkn, ← val_take_getD, val_take_all _ _ (by rw [HZL.out]; have := HM.out; omega), val_take_all xs _ (by rw [HL.out]; exact Nat.le_refl _)] at h1
        exact h1
      have HFIN := Lib.hid hfin
      clear hfin hkn
      go_wp2_with fail
      go_ret
      exact ⟨_, zs, rfl, by rw [HG.out]; exact HO1.out, HFIN.out, HZL.out, HB1.out⟩

theorem or64r (x y : Nat) (hx : x < 4294967296) (hy : y < 4294967296) : bits .or .u64 (x : Int) ((y : Int) * 4294967296) = ((x + 4294967296 * y : Nat) : Int) := by
  have e : (y : Int) * 4294967296 = ((y * 4294967296 : Nat) : Int) := by omega
  rw [e, u64_or_nat _ _ (by omega) (by omega), Nat.or_comm, or_low32 _ _ hx]
  congr 1; omega

set_option maxHeartbeats 1000000 in
theorem right_ok {S : Nat → Prop} {A : Option Addr} {n c : Nat} {xs : List (BitVec 32)} {w : World} (sh : Nat) (h : RS w S A n c xs) (hS : ∀ b, S b → b < w.heap.size) (hn : n ≤ 1073741824) (hs : sh < 32) :
    Calls Tryz.prog 165 #[.slice A n c, .int .i64 sh] w (RetV2 w (val xs / 2 ^ sh) n) := by
  obtain ⟨i0, hi, hz0, hz1, hz2⟩ := info_parts Tryz.u32Info
  have HI := Lib.hid hi
  have HZ0 := Lib.hid hz0
  have HZ1 := Lib.hid hz1
  have HZ2 := Lib.hid hz2
  have H := Lib.hid h
  have HL := Lib.hid h.len
  clear h hi hz0 hz1 hz2
  go_enter Tryz.func165, Tryz.ntmps165
  go_wp2_with (refine wpList_make_Own (α := BitVec 32) _ rfl _ _ _ rfl rfl w.heap.size i0 (.int .u32 0) Tryz.underlying26 HI.out HZ0.out HZ1.out rfl .i64 .i64 (n : Int) (n : Int) n rfl rfl rfl rfl (by rw [HZ2.out]; omega) (by unfold maxLen; omega) (Nat.le_refl _) 0#32 NoBlk (fun _ h => h.elim) (fun _ _ => rfl) ?_
               intro w1 ho1 hg1
               have HO1 := Lib.hid ho1
               have HB1 := Lib.hid ((Below.refl w.heap.size w).grown hg1 (Nat.le_refl _) (fun k hk => by cases hk))
               clear ho1 hg1)
  obtain ⟨g, hg⟩ : ∃ g, w.heap.size = g := ⟨_, rfl⟩
  rw [hg] at HO1
  rw [hg]
  have HG := Lib.hid hg
  clear hg
  go_loopw [6, 12] (fun _ i wr => ∃ (k : Nat) (zs : List (BitVec 32)), k ≤ n ∧ i = .int .i64 k ∧ zs.length = n ∧ val (zs.take k) = val xs / 2 ^ sh % 4294967296 ^ k ∧ Own wr NoBlk g 98 (.slice (some ⟨g, 0, none⟩) n n) zs ∧ Below w.heap.size w wr)
    (fun _ i _ => n - (intOf i).toNat)
  case atStart => exact ⟨0, List.replicate n 0#32, by omega, rfl, by simp, by simp [val, Nat.mod_one], HO1.out, HB1.out⟩
  case round =>
    clear HO1 HB1
    obtain ⟨k, zs, hk, rfl, hzl, hinv, ho, hb⟩ := hrel
    have HO1 := Lib.hid ho
    have HB1 := Lib.hid hb
    have HZL := Lib.hid hzl
    have HINV := Lib.hid hinv
    clear ho hb hzl hinv
    by_cases hlt : k < n
    · have hkn : (k : Int) < (n : Int) := by omega
      have hst := right_step xs k sh (by omega)
      obtain ⟨x, hx⟩ : ∃ x, (xs.getD k 0#32).toNat = x := ⟨_, rfl⟩
      obtain ⟨y, hy⟩ : ∃ y, (xs.getD (k + 1) 0#32).toNat = y := ⟨_, rfl⟩
      have hxl : x < 4294967296 := by rw [← hx]; exact getD_lim_le k
      have hyl : y < 4294967296 := by rw [← hy]; exact getD_lim_le (k + 1)
      rw [hx, hy] at hst
      have hor := or64r x y hxl hyl
      obtain ⟨s, hs2⟩ : ∃ s, x + 4294967296 * y = s := ⟨_, rfl⟩
      rw [hs2] at hor hst
      have hsb : s < 18446744073709551616 := by omega
      obtain ⟨t, ht⟩ : ∃ t, s / 2 ^ sh = t := ⟨_, rfl⟩
      have htd : (s : Int) / 2 ^ sh = (t : Int) := by rw [← ht, Int.natCast_ediv, Int.natCast_pow]; rfl
      rw [ht] at hst
      have h1 := u32_of t
      obtain ⟨z, hz⟩ : ∃ z, BitVec.ofNat 32 t = z := ⟨_, rfl⟩
      have hzn := ofNat_mod t
      rw [hz] at h1 hzn
      rw [← hzn] at hst
      obtain ⟨hcell, hfr⟩ := HO1.out.limb (k := k) (by rw [HZL.out]; exact hlt)
      have hnew : val ((zs.set k z).take (k + 1)) = val xs / 2 ^ sh % 4294967296 ^ (k + 1) := by
        rw [val_set_succ z (by rw [HZL.out]; exact hlt), HINV.out, mod_succ, hst]
      have hk1 : (k : Int) + 1 = ((k + 1 : Nat) : Int) := by omega
      obtain ⟨k1, hk1n⟩ : ∃ k1, k + 1 = k1 := ⟨_, rfl⟩
      rw [hk1n] at hk1 hy hnew
      have HX := Lib.hid hx
      have HY := Lib.hid hy
      have HNEW := Lib.hid hnew
      have HK1 := Lib.hid hk1n
      clear hst hx hy hs2 ht hz hzn hnew hk1n
      go_wp2_with fail
      refine (limb_ok k (H.out.below HB1.out hS)).mono ?_
      rintro e w' ⟨rfl, rfl⟩
      rw [HX.out]
      go_wp2_with fail
      refine (limb_ok k1 (H.out.below HB1.out hS)).mono ?_
      rintro e w' ⟨rfl, rfl⟩
      rw [HY.out]
      clear hk1
      go_wp2_with fail
      go_roundw
      case rel =>
        exact ⟨k + 1, zs.set k z, by omega, by go_num, by rw [List.length_set]; exact HZL.out, by rw [HK1.out]; exact HNEW.out, HO1.out.setLimb k z, HB1.out.setCell (by have := HG.out; simp; omega) _⟩
      case measure => simp [intOf]; omega
    · have hkn : k = n := by omega
      have hfin : val zs = val xs / 2 ^ sh := by
        have h1 := HINV.out
        rw [hkn, val_take_all _ _ (by rw [HZL.out]; exact Nat.le_refl _), Nat.mod_eq_of_lt] at h1
        · exact h1
        · have h2 := val_lt xs
          rw [HL.out] at h2
          exact Nat.lt_of_le_of_lt (Nat.div_le_self _ _) h2
      have HFIN := Lib.hid hfin
      clear hfin hkn
      go_wp2_with fail
      go_ret
      exact ⟨_, zs, rfl, by rw [HG.out]; exact HO1.out, HFIN.out, HZL.out, HB1.out⟩
end Go.Proofs.YtjlhbfbdcfajfaaGreatDoor
/- Dividing numbers of many limbs: the guess of a digit of the quotient; plain arithmetic. -/
namespace Go.Proofs.YtjlhbfbdcfajfaaGreatDoor

section
variable {P B U V T h v2 u2 ul vl q r : Nat}
theorem guess_first (hU : U = P * (T * B + u2) + ul) (hul : ul < P) (hu2 : u2 < B) (hV : V = P * (h * B + v2) + vl) (hh : 0 < h) : U / V ≤ T / h := by
  rw [Nat.le_div_iff_mul_le hh]
  rcases Nat.lt_or_ge T (U / V * h) with hc | hc
  · exfalso
    have h1 : U / V * V ≤ U := Nat.div_mul_le_self U V
    have h2 : (T + 1) * (P * B) ≤ U / V * h * (P * B) := Nat.mul_le_mul_right _ hc
    have h3 : U / V * h * (P * B) ≤ U / V * V := by
      rw [Nat.mul_assoc]
      apply Nat.mul_le_mul_left
      rw [hV]
      have : h * (P * B) = P * (h * B) := by grind
      rw [this, Nat.mul_add]; omega
    have h4 : U < (T + 1) * (P * B) := by
      have e : (T + 1) * (P * B) = P * (T * B) + P * B := by grind
      have e2 : P * (T * B + u2) = P * (T * B) + P * u2 := by grind
      have e3 : P * u2 + P ≤ P * B := by
        rw [← Nat.mul_succ]; exact Nat.mul_le_mul_left _ hu2
      omega
    omega
  · exact hc
theorem guess_big (hU : U = P * (T * B + u2) + ul) (hul : ul < P) (hV : V = P * (h * B + v2) + vl) (hq : q * h + r = T) (ht : r * B + u2 < q * v2) : U / V < q := by
  apply Nat.div_lt_of_lt_mul
  have h1 : P * (T * B + u2 + 1) ≤ P * (q * (h * B + v2)) := by
    apply Nat.mul_le_mul_left
    have e : q * (h * B + v2) = q * h * B + q * v2 := by grind
    have e2 : T * B = q * h * B + r * B := by rw [← hq, Nat.add_mul]
    omega
  have h2 : P * (q * (h * B + v2)) ≤ V * q := by
    have e : V * q = P * (q * (h * B + v2)) + vl * q := by rw [hV]; grind
    omega
  have e3 : P * (T * B + u2 + 1) = P * (T * B + u2) + P := by grind
  omega
theorem guess_done (hU : U = P * (T * B + u2) + ul) (hV : V = P * (h * B + v2) + vl) (hvl : vl < P) (hh : 0 < h) (hq : q * h + r = T) (hqB : q < B) (ht : q * v2 ≤ r * B + u2) : q ≤ U / V + 1 := by
  have h1 : q * V ≤ U + q * vl := by
    have e : q * V = P * (q * (h * B + v2)) + q * vl := by rw [hV]; grind
    have e2 : q * (h * B + v2) ≤ T * B + u2 := by
      have e3 : q * (h * B + v2) = q * h * B + q * v2 := by grind
      have e4 : T * B = q * h * B + r * B := by rw [← hq, Nat.add_mul]
      omega
    have := Nat.mul_le_mul_left P e2
    omega
  have h2 : q * vl < V := by
    have e : q * vl ≤ B * P := Nat.mul_le_mul (by omega) (by omega)
    have e2 : P * B ≤ P * (h * B + v2) := Nat.mul_le_mul_left _ (by have := Nat.le_mul_of_pos_left B hh; omega)
    have e3 : q * vl < B * P ∨ q * vl = B * P := by omega
    rcases e3 with e3 | e3
    · have : B * P = P * B := Nat.mul_comm _ _
      omega
    · have hP : 0 < P := by omega
      have : q * vl < B * P := Nat.mul_lt_mul_of_lt_of_le hqB (by omega) hP
      omega
  have hV0 : 0 < V := by omega
  rcases Nat.lt_or_ge (U / V + 1) q with hc | hc
  · exfalso
    have h3 : U < V * (U / V + 1) := by
      have := Nat.lt_mul_div_succ U hV0
      exact this
    have h4 : V * (U / V + 1) + V ≤ q * V := by
      have : (U / V + 1 + 1) * V ≤ q * V := Nat.mul_le_mul_right _ hc
      have e : (U / V + 1 + 1) * V = V * (U / V + 1) + V := by grind
      omega
    omega
  · exact hc
/-- a sum r that has grown past the base: the digit is small, and the test would let it by -/
theorem guess_over (hq : q * h + r = T) (hT : T < (h + 1) * B) (hr : B ≤ r) (hv2 : v2 < B) : q < B ∧ q * v2 ≤ r * B + u2 := by
  have h1 : q < B := by
    rcases Nat.lt_or_ge q B with hc | hc
    · exact hc
    · exfalso
      have : B * h ≤ q * h := Nat.mul_le_mul_right _ hc
      have e : (h + 1) * B = B * h + B := by grind
      omega
  refine ⟨h1, ?_⟩
  have e1 : q * v2 ≤ B * B := Nat.mul_le_mul (by omega) (by omega)
  have e2 : B * B ≤ r * B := Nat.mul_le_mul_right _ hr
  omega
/-- the top of a dividend that is less than the divisor times the base -/
theorem guess_top (hU : U = P * (T * B + u2) + ul) (hV : V = P * (h * B + v2) + vl) (hvl : vl < P) (hv2 : v2 < B) (hlt : U < V * B) : T < (h + 1) * B := by
  rcases Nat.lt_or_ge T ((h + 1) * B) with hc | hc
  · exact hc
  · exfalso
    have h1 : P * ((h + 1) * B * B) ≤ P * (T * B + u2) := Nat.mul_le_mul_left _ (by have := Nat.mul_le_mul_right B hc; omega)
    have h2 : V < P * ((h + 1) * B) := by
      have e : P * ((h + 1) * B) = P * (h * B) + P * B := by grind
      have e2 : P * (h * B + v2) = P * (h * B) + P * v2 := by grind
      have e3 : P * v2 + P ≤ P * B := by rw [← Nat.mul_succ]; exact Nat.mul_le_mul_left _ hv2
      omega
    have h3 : V * B ≤ P * ((h + 1) * B) * B := Nat.mul_le_mul_right _ (by omega)
    have e : P * ((h + 1) * B) * B = P * ((h + 1) * B * B) := by grind
    omega
end
end Go.Proofs.YtjlhbfbdcfajfaaGreatDoor
/- nat: guess. -/
namespace Go.Proofs.YtjlhbfbdcfajfaaGreatDoor
open Go.RowKit

/-- a digit that is right or one too great -/
def RetGuess (w : World) (U V : Nat) (e : Ending) (w' : World) : Prop := ∃ q m : Nat, e = .returned (.int .u64 q) ∧ U / V ≤ q ∧ q ≤ U / V + 1 ∧ q < 4294967296 ∧ w' = w.drewN m

/-- the top limbs of a dividend and of a divisor -/
theorem tops {us vs : List (BitVec 32)} {j n : Nat} (hn : 2 ≤ n) (hv : vs.length = n) (hu : j + n < us.length) :
    ∃ P ul vl, 0 < P ∧ ul < P ∧ vl < P ∧
      val ((us.drop j).take (n + 1)) = P * ((((us.getD (j + n) 0#32).toNat * 4294967296 + (us.getD (j + n - 1) 0#32).toNat)) * 4294967296 + (us.getD (j + n - 2) 0#32).toNat) + ul ∧
      val vs = P * ((vs.getD (n - 1) 0#32).toNat * 4294967296 + (vs.getD (n - 2) 0#32).toNat) + vl := by
  refine ⟨4294967296 ^ (n - 2), val ((us.drop j).take (n - 2)), val (vs.take (n - 2)), Nat.pow_pos (by omega), ?_, ?_, ?_, ?_⟩
  · have := val_lt ((us.drop j).take (n - 2))
    rw [List.length_take, List.length_drop, Nat.min_eq_left (by omega)] at this
    exact this
  · have := val_lt (vs.take (n - 2))
    rw [List.length_take, Nat.min_eq_left (by omega)] at this
    exact this
  · have hg : ∀ i, ((us.drop j).getD i 0#32) = us.getD (j + i) 0#32 := by
      intro i
      rw [List.getD_eq_getElem?_getD, List.getD_eq_getElem?_getD, List.getElem?_drop]
    have e1 := val_take_getD (us.drop j) n
    have e2 := val_take_getD (us.drop j) (n - 1)
    have e3 := val_take_getD (us.drop j) (n - 2)
    rw [hg] at e1 e2 e3
    have f1 : n - 1 + 1 = n := by omega
    have f2 : n - 2 + 1 = n - 1 := by omega
    have f3 : j + (n - 1) = j + n - 1 := by omega
    have f4 : j + (n - 2) = j + n - 2 := by omega
    rw [f1, f3] at e2
    rw [f2, f4] at e3
    have p1 : 4294967296 ^ n = 4294967296 ^ (n - 2) * 4294967296 * 4294967296 := by rw [← Nat.pow_succ, ← Nat.pow_succ]; congr 1; omega
    have p2 : 4294967296 ^ (n - 1) = 4294967296 ^ (n - 2) * 4294967296 := by rw [← Nat.pow_succ]; congr 1; omega
    rw [e1, e2, e3, p1, p2]
    grind
  · have e2 := val_take_getD vs (n - 1)
    have e3 := val_take_getD vs (n - 2)
    have f1 : n - 1 + 1 = n := by omega
    have f2 : n - 2 + 1 = n - 1 := by omega
    rw [f1, val_take_all vs n (by omega)] at e2
    rw [f2] at e3
    have p2 : 4294967296 ^ (n - 1) = 4294967296 ^ (n - 2) * 4294967296 := by rw [← Nat.pow_succ]; congr 1; omega
    rw [e2, e3, p2]
    grind
theorem RS.limbD {w : World} {S : Nat → Prop} {A : Option Addr} {n c : Nat} {xs : List (BitVec 32)} (h : RS w S A n c xs) {k : Nat} (hk : k < n) : ∃ b o, A = some ⟨b, o, none⟩ ∧ w.cell? ⟨b, o + k, none⟩ = some (.int .u32 ((xs.getD k 0#32).toNat : Int)) := by
  obtain ⟨b, o, x, rfl, _, hx, e⟩ := h.limb_at hk
  exact ⟨b, o, rfl, by rw [List.getD_eq_getElem?_getD, hx]; exact e⟩

set_option maxHeartbeats 2000000 in
theorem guess_ok {Su Sv : Nat → Prop} {Au Av : Option Addr} {nu cu n cv : Nat} {us vs : List (BitVec 32)} {w : World} (j : Nat) (hu : RS w Su Au nu cu us) (hv : RS w Sv Av n cv vs) (hn : 2 ≤ n) (hj : j + n < nu) (hnu : nu ≤ 2147483648)
    (hh : 2147483648 ≤ (vs.getD (n - 1) 0#32).toNat) (hlt : val ((us.drop j).take (n + 1)) < val vs * 4294967296) :
    Calls Tryz.prog 188 #[.slice Au nu cu, .slice Av n cv, .int .i64 j] w (RetGuess w (val ((us.drop j).take (n + 1))) (val vs)) := by
  obtain ⟨P, ul, vl, hP, hul, hvl, eU, eV⟩ := tops (us := us) (vs := vs) (j := j) hn hv.len (by rw [hu.len]; exact hj)
  obtain ⟨bu, ou, rfl, c1⟩ := hu.limbD (k := j + n) hj
  obtain ⟨bu', ou', hb', c2⟩ := hu.limbD (k := j + n - 1) (by omega)
  obtain ⟨rfl, rfl⟩ : bu = bu' ∧ ou = ou' := by injection hb' with hb'; injection hb' with h1 h2; exact ⟨h1, h2⟩
  obtain ⟨bu', ou', hb', c3⟩ := hu.limbD (k := j + n - 2) (by omega)
  obtain ⟨rfl, rfl⟩ : bu = bu' ∧ ou = ou' := by injection hb' with hb'; injection hb' with h1 h2; exact ⟨h1, h2⟩
  obtain ⟨bv, ov, rfl, c4⟩ := hv.limbD (k := n - 1) (by omega)
  obtain ⟨bv', ov', hb', c5⟩ := hv.limbD (k := n - 2) (by omega)
  obtain ⟨rfl, rfl⟩ : bv = bv' ∧ ov = ov' := by injection hb' with hb'; injection hb' with h1 h2; exact ⟨h1, h2⟩
  have l1 := getD_lim_le (l := us) (j + n)
  have l2 := getD_lim_le (l := us) (j + n - 1)
  have l3 := getD_lim_le (l := us) (j + n - 2)
  have l4 := getD_lim_le (l := vs) (n - 1)
  have l5 := getD_lim_le (l := vs) (n - 2)
  obtain ⟨U, hU⟩ : ∃ U, val ((us.drop j).take (n + 1)) = U := ⟨_, rfl⟩
  obtain ⟨V, hV⟩ : ∃ V, val vs = V := ⟨_, rfl⟩
  obtain ⟨u0, h0⟩ : ∃ u0, (us.getD (j + n) 0#32).toNat = u0 := ⟨_, rfl⟩
  obtain ⟨u1, h1⟩ : ∃ u1, (us.getD (j + n - 1) 0#32).toNat = u1 := ⟨_, rfl⟩
  obtain ⟨u2, h2⟩ : ∃ u2, (us.getD (j + n - 2) 0#32).toNat = u2 := ⟨_, rfl⟩
  obtain ⟨h, h3⟩ : ∃ h, (vs.getD (n - 1) 0#32).toNat = h := ⟨_, rfl⟩
  obtain ⟨v2, h4⟩ : ∃ v2, (vs.getD (n - 2) 0#32).toNat = v2 := ⟨_, rfl⟩
  rw [hU, hV] at hlt
  rw [hU, h0, h1, h2] at eU
  rw [hV, h3, h4] at eV
  rw [h0] at c1 l1
  rw [h1] at c2 l2
  rw [h2] at c3 l3
  rw [h3] at c4 l4 hh
  rw [h4] at c5 l5
  rw [hU, hV]
  obtain ⟨T, hT⟩ : ∃ T, u0 * 4294967296 + u1 = T := ⟨_, rfl⟩
  have hor := or64 u0 u1 l1 l2
  rw [hT] at hor eU
  have hTb : T < 18446744073709551616 := by omega
  have hTt := guess_top eU eV hvl l5 hlt
  have hfirst := guess_first eU hul l3 eV (by omega)
  have hcu := hu.cap
  have hcv := hv.cap
  have EU := Lib.hid eU
  have EV := Lib.hid eV
  have HTT := Lib.hid hTt
  have HUL := Lib.hid hul
  have HVL := Lib.hid hvl
  obtain ⟨a, ha⟩ : ∃ a, j + n = a := ⟨_, rfl⟩
  obtain ⟨b, hb⟩ : ∃ b, j + n - 1 = b := ⟨_, rfl⟩
  obtain ⟨c, hc⟩ : ∃ c, j + n - 2 = c := ⟨_, rfl⟩
  obtain ⟨d, hd⟩ : ∃ d, n - 1 = d := ⟨_, rfl⟩
  obtain ⟨f, hf⟩ : ∃ f, n - 2 = f := ⟨_, rfl⟩
  rw [ha] at c1
  rw [hb] at c2
  rw [hc] at c3
  rw [hd] at c4
  rw [hf] at c5
  have i1 : (j : Int) + (n : Int) = (a : Int) := by omega
  have i2 : (a : Int) - 1 = (b : Int) := by omega
  have i3 : (a : Int) - 2 = (c : Int) := by omega
  have i4 : (n : Int) - 1 = (d : Int) := by omega
  have i5 : (n : Int) - 2 = (f : Int) := by omega
  have k1 : (a : Int) < (nu : Int) := by omega
  have k2 : (b : Int) < (nu : Int) := by omega
  have k3 : (c : Int) < (nu : Int) := by omega
  have k4 : (d : Int) < (n : Int) := by omega
  have k5 : (f : Int) < (n : Int) := by omega
  have wa : IntKind.i64.wrap (a : Int) = (a : Int) := by rw [IntKind.wrap_i64]; omega
  have wb : IntKind.i64.wrap (b : Int) = (b : Int) := by rw [IntKind.wrap_i64]; omega
  have wc : IntKind.i64.wrap (c : Int) = (c : Int) := by rw [IntKind.wrap_i64]; omega
  have w0 : IntKind.u64.wrap (u0 : Int) = (u0 : Int) := by rw [IntKind.wrap_u64]; omega
  have w1 : IntKind.u64.wrap (u1 : Int) = (u1 : Int) := by rw [IntKind.wrap_u64]; omega
  have w2 : IntKind.u64.wrap (u2 : Int) = (u2 : Int) := by rw [IntKind.wrap_u64]; omega
  have w3 : IntKind.u64.wrap (h : Int) = (h : Int) := by rw [IntKind.wrap_u64]; omega
  have w4 : IntKind.u64.wrap (v2 : Int) = (v2 : Int) := by rw [IntKind.wrap_u64]; omega
  have w5 : IntKind.u64.wrap ((u0 : Int) * 4294967296) = (u0 : Int) * 4294967296 := by rw [IntKind.wrap_u64]; omega
  have hu0 : ((h : Int) == 0) = false := by rw [beq_eq_false_iff_ne]; omega
  obtain ⟨q0, hq0⟩ : ∃ q, T / h = q := ⟨_, rfl⟩
  obtain ⟨r0, hr0⟩ : ∃ r, T % h = r := ⟨_, rfl⟩
  have hqr : q0 * h + r0 = T := by rw [← hq0, ← hr0, Nat.mul_comm]; exact Nat.div_add_mod T h
  have hr0l : r0 < 4294967296 := by have := Nat.mod_lt T (show 0 < h by omega); omega
  have hq0l : q0 < 18446744073709551616 := by have := Nat.div_le_self T h; omega
  rw [hq0] at hfirst
  have hqd : (T : Int).tdiv (h : Int) = (q0 : Int) := by rw [← hq0]; rfl
  have hrd : (T : Int).tmod (h : Int) = (r0 : Int) := by rw [← hr0]; rfl
  have hqd2 : (T : Int) / (h : Int) = (q0 : Int) := by rw [← hq0]; rfl
  have hrd2 : (T : Int) % (h : Int) = (r0 : Int) := by rw [← hr0]; rfl
  have wq : IntKind.u64.wrap (q0 : Int) = (q0 : Int) := by rw [IntKind.wrap_u64]; omega
  have wr0 : IntKind.u64.wrap (r0 : Int) = (r0 : Int) := by rw [IntKind.wrap_u64]; omega
  have HFI := Lib.hid hfirst
  have HQR := Lib.hid hqr
  have HUB : Hid (U / V < 4294967296) := Lib.hid (Nat.div_lt_of_lt_mul hlt)
  clear eU eV hTt hul hvl hfirst ha hb hc hd hf h0 h1 h2 h3 h4 hU hV hT hlt hu hv hP hq0 hr0 hqr
  go_enter Tryz.func188, Tryz.ntmps188
  go_wp2_with fail
  go_quiet (fail)
  go_wp2_with fail
  go_quiet (fail)
  go_wp2_with fail
  go_loopw [10, 11] (fun qv rv wr => ∃ (q r m : Nat), qv = .int .u64 q ∧ rv = .int .u64 r ∧ q * h + r = T ∧ U / V ≤ q ∧ r < 4294967296 ∧ q < 18446744073709551616 ∧ wr = w.drewN m)
    (fun qv _ _ => (intOf qv).toNat)
  case atStart => exact ⟨q0, r0, _, rfl, rfl, HQR.out, HFI.out, hr0l, hq0l, World.drewN_drewN _ _ _⟩
  case round =>
    clear wq wr0 hqd hqd2 hrd hrd2 hor HQR HFI hr0l hq0l
    obtain ⟨q, r, m, rfl, rfl, hqr, hlo, hr, hq, rfl⟩ := hrel
    have HQR := Lib.hid hqr
    have HLO := Lib.hid hlo
    have wh : IntKind.u64.wrap ((r : Int) + (h : Int)) = (r : Int) + (h : Int) := by rw [IntKind.wrap_u64]; omega
    by_cases hB : 4294967296 ≤ q
    · have hB' : (4294967296 : Int) ≤ (q : Int) := by omega
      have wq1 : IntKind.u64.wrap ((q : Int) - 1) = (q : Int) - 1 := by rw [IntKind.wrap_u64]; omega
      have hq1 : 1 ≤ q := by omega
      have hqr' : (q - 1) * h + (r + h) = T := by
        have e : q = q - 1 + 1 := by omega
        rw [e, Nat.add_mul] at hqr
        omega
      have hlo' : U / V ≤ q - 1 := by have := HUB.out; omega
      have HQR' := Lib.hid hqr'
      have HLO' := Lib.hid hlo'
      obtain ⟨q', hq'⟩ : ∃ x, q - 1 = x := ⟨_, rfl⟩
      obtain ⟨r', hr'⟩ : ∃ x, r + h = x := ⟨_, rfl⟩
      rw [hq', hr'] at HQR'
      rw [hq'] at HLO'
      have iq : (q : Int) - 1 = (q' : Int) := by omega
      have ir : (r : Int) + (h : Int) = (r' : Int) := by omega
      rw [iq] at wq1
      rw [ir] at wh
      by_cases hR : 4294967296 ≤ r'
      · have hR' : (4294967296 : Int) ≤ (r' : Int) := by omega
        have hov := guess_over (u2 := u2) HQR'.out HTT.out hR l5
        have hdn := guess_done EU.out EV.out HVL.out (by omega) HQR'.out hov.1 hov.2
        have hfin : Hid (U / V ≤ q' ∧ q' ≤ U / V + 1 ∧ q' < 4294967296) := Lib.hid ⟨HLO'.out, hdn, hov.1⟩
        clear hqr hlo hqr' hlo' hov hdn hq' hr' hR hB
        go_wp2_with fail
        go_quiet (fail)
        go_wp2_with fail
        go_ret
        exact ⟨q', _, rfl, hfin.out.1, hfin.out.2.1, hfin.out.2.2, rfl⟩
      · have hR' : (r' : Int) < (4294967296 : Int) := by omega
        have hR2 : ¬ ((4294967296 : Int) ≤ (r' : Int)) := by omega
        have hR3 : decide ((4294967296 : Int) ≤ (r' : Int)) = false := decide_eq_false hR2
        have hrl : r' < 4294967296 := by omega
        have hql : q' < 18446744073709551616 := by omega
        have hqd : q' < q := by omega
        clear hqr hlo hqr' hlo' hB hq' hr' hR
        go_wp2_with fail
        go_quiet (fail)
        go_wp2_with fail
        go_roundw
        case rel => exact ⟨q', r', _, rfl, rfl, HQR'.out, HLO'.out, hrl, hql, rfl⟩
        case measure => simp [intOf]; omega
    · have hB' : (q : Int) < (4294967296 : Int) := by omega
      have hB2 : ¬ ((4294967296 : Int) ≤ (q : Int)) := by omega
      have hB3 : decide ((4294967296 : Int) ≤ (q : Int)) = false := decide_eq_false hB2
      obtain ⟨p, hp⟩ : ∃ p, q * v2 = p := ⟨_, rfl⟩
      obtain ⟨s, hs⟩ : ∃ s, r * 4294967296 + u2 = s := ⟨_, rfl⟩
      have hpl : p ≤ 4294967295 * 4294967295 := by rw [← hp]; exact Nat.mul_le_mul (by omega) (by omega)
      have ip : (q : Int) * (v2 : Int) = (p : Int) := by rw [← hp]; omega
      have wp' : IntKind.u64.wrap (p : Int) = (p : Int) := by rw [IntKind.wrap_u64]; omega
      have wr' : IntKind.u64.wrap ((r : Int) * 4294967296) = (r : Int) * 4294967296 := by rw [IntKind.wrap_u64]; omega
      have hor2 := or64 r u2 hr l3
      rw [hs] at hor2
      by_cases hps : s < p
      · have hbig := guess_big EU.out HUL.out EV.out hqr (by rw [hs, hp]; exact hps)
        have hps' : (s : Int) < (p : Int) := by omega
        have hq1 : 1 ≤ q := Nat.lt_of_le_of_lt (Nat.zero_le _) hbig
        have wq1 : IntKind.u64.wrap ((q : Int) - 1) = (q : Int) - 1 := by rw [IntKind.wrap_u64]; omega
        have hqr' : (q - 1) * h + (r + h) = T := by
          have e : q = q - 1 + 1 := by omega
          rw [e, Nat.add_mul] at hqr
          omega
        have hlo' : U / V ≤ q - 1 := Nat.le_sub_one_of_lt hbig
        have HQR' := Lib.hid hqr'
        have HLO' := Lib.hid hlo'
        obtain ⟨q', hq'⟩ : ∃ x, q - 1 = x := ⟨_, rfl⟩
        obtain ⟨r', hr'⟩ : ∃ x, r + h = x := ⟨_, rfl⟩
        rw [hq', hr'] at HQR'
        rw [hq'] at HLO'
        have iq : (q : Int) - 1 = (q' : Int) := by omega
        have ir : (r : Int) + (h : Int) = (r' : Int) := by omega
        rw [iq] at wq1
        rw [ir] at wh
        by_cases hR : 4294967296 ≤ r'
        · have hR' : (4294967296 : Int) ≤ (r' : Int) := by omega
          have hov := guess_over (u2 := u2) HQR'.out HTT.out hR l5
          have hdn := guess_done EU.out EV.out HVL.out (by omega) HQR'.out hov.1 hov.2
          have hfin : Hid (U / V ≤ q' ∧ q' ≤ U / V + 1 ∧ q' < 4294967296) := Lib.hid ⟨HLO'.out, hdn, hov.1⟩
          clear hqr hlo hqr' hlo' hov hdn hq' hr' hR hB hp hs hps hpl hbig
          go_wp2_with fail
          go_quiet (fail)
          go_wp2_with fail
          go_ret
          exact ⟨q', _, rfl, hfin.out.1, hfin.out.2.1, hfin.out.2.2, rfl⟩
        · have hR' : (r' : Int) < (4294967296 : Int) := by omega
          have hR2 : ¬ ((4294967296 : Int) ≤ (r' : Int)) := by omega
          have hR3 : decide ((4294967296 : Int) ≤ (r' : Int)) = false := decide_eq_false hR2
          have hrl : r' < 4294967296 := by omega
          have hql : q' < 18446744073709551616 := by omega
          have hqd : q' < q := by omega
          clear hqr hlo hqr' hlo' hB hq' hr' hR hp hs hps hpl hbig
          go_wp2_with fail
          go_quiet (fail)
          go_wp2_with fail
          go_roundw
          case rel => exact ⟨q', r', _, rfl, rfl, HQR'.out, HLO'.out, hrl, hql, rfl⟩
          case measure => simp [intOf]; omega
      · have hps' : (p : Int) ≤ (s : Int) := by omega
        have hps2 : ¬ ((s : Int) < (p : Int)) := by omega
        have hps3 : decide ((s : Int) < (p : Int)) = false := decide_eq_false hps2
        have hps4 : decide (s < p) = false := decide_eq_false hps
        have hdn := guess_done EU.out EV.out HVL.out (by omega) hqr (by omega) (by rw [hs, hp]; omega)
        have hfin : Hid (U / V ≤ q ∧ q ≤ U / V + 1 ∧ q < 4294967296) := Lib.hid ⟨hlo, hdn, by omega⟩
        clear hqr hlo hdn hB hp hs hps hpl
        go_wp2_with fail
        go_quiet (fail)
        go_wp2_with fail
        go_ret
        exact ⟨q, _, rfl, hfin.out.1, hfin.out.2.1, hfin.out.2.2, World.drewN_drewN _ _ _⟩
end Go.Proofs.YtjlhbfbdcfajfaaGreatDoor
