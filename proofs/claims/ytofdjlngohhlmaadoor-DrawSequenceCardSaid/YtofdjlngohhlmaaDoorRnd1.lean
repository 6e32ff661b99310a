/- Random words: the first bytes of a digest; a source and its next word, in the program and in the reference. -/
import Derived.Test.YtofdjlngohhlmaaDoorSha10
import Derived.Test.YtofdjlngohhlmaaDoorSha13
import Derived.Lib.ConvBytes
namespace Go.Proofs.YtofdjlngohhlmaaDoor
open Go.RowKit

/-- the bytes of a string -/
def bts (s : ByteArray) : List UInt8 := s.data.toList
theorem bts_length (s : ByteArray) : (bts s).length = s.size := by simp [bts]

theorem bytesWorld_below (w : World) (e : TypeId) (s : ByteArray) : Below w.heap.size w (Lib.bytesWorld w e s) := by
  refine ⟨?_, ?_, ?_, ?_, fun i hi => Lib.bytesWorld_at_old w e s i hi⟩
  · simp [Lib.bytesWorld, World.freeze]; rfl
  · simp [Lib.bytesWorld, World.freeze]
  · simp [Lib.bytesWorld, World.freeze]; rfl
  · rw [Lib.bytesWorld_size]; omega
theorem RS.bytesWorld (w : World) (e : TypeId) (s : ByteArray) (hs : s.size ≤ 9223372036854775807) {S : Nat → Prop} (hS : S w.heap.size) : RS (Lib.bytesWorld w e s) S (some ⟨w.heap.size, 0, none⟩) s.size (grownCap w s.size 0 e) (bts s) := by
  refine ⟨(bts_length s).symm, grownCap_ge _ _ _ _, grownCap_le_maxLen _ _ _ _ (by unfold maxLen; exact hs), fun _ => ⟨w.heap.size, 0, rfl, hS, fun i x hi => ?_⟩⟩
  have hlt := lt_of_get hi
  rw [bts_length] at hlt
  refine ⟨[.int .u8 (x.toNat : Int)], rfl, fun j u hj => ?_⟩
  rcases j with _ | j
  · simp at hj
    subst hj
    have h1 := Lib.bytesWorld_cell w e s i hlt
    have h2 : s.data.toList.getD i 0 = x := by
      rw [List.getD_eq_getElem?_getD]
      have : s.data.toList[i]? = some x := hi
      rw [this]; rfl
    rw [h2] at h1
    have : ((⟨w.heap.size, 0, none⟩ : Addr).add (i * Rep.sz UInt8)).add 0 = ⟨w.heap.size, i, none⟩ := by
      rw [add_of_add]
      unfold Addr.add
      simp only [Rep.sz]
      split
      · rename_i h; simp at h; rw [h]
      · simp
    rw [this]
    exact h1
  · simp at hj

/-- the number that the first k bytes make -/
def fstN (bs : List UInt8) : Nat → Nat
  | 0 => 0
  | k + 1 => fstN bs k * 256 + (bs.getD k 0).toNat
theorem fstN_lt (bs : List UInt8) (k : Nat) : fstN bs k < 256 ^ k := by
  induction k with
  | zero => simp [fstN]
  | succ k ih =>
    have := (bs.getD k 0).toNat_lt
    rw [fstN, Nat.pow_succ]
    omega
theorem or_low (a x : Nat) (hx : x < 256) : a * 256 ||| x = a * 256 + x := by
  have : a * 256 = a <<< 8 := by rw [Nat.shiftLeft_eq]
  rw [this, Nat.shiftLeft_add_eq_or_of_lt (by simpa using hx)]
theorem fst_step (bs : List UInt8) (k : Nat) (hk : k < 8) : bits .or .u64 (IntKind.u64.wrap ((fstN bs k : Int) * 256)) (IntKind.u64.wrap (((bs.getD k 0).toNat : Nat) : Int)) = (fstN bs (k + 1) : Int) := by
  have h0 := (bs.getD k 0).toNat_lt
  have h9 : IntKind.u64.wrap (((bs.getD k 0).toNat : Nat) : Int) = (((bs.getD k 0).toNat : Nat) : Int) := by rw [IntKind.wrap_u64]; omega
  rw [h9]
  have h1 := fstN_lt bs k
  have h2 : 256 ^ k ≤ 256 ^ 7 := Nat.pow_le_pow_right (by omega) (by omega)
  have h3 := (bs.getD k 0).toNat_lt
  have h4 : IntKind.u64.wrap ((fstN bs k : Int) * 256) = ((fstN bs k * 256 : Nat) : Int) := by rw [IntKind.wrap_u64]; omega
  rw [h4, u64_or_nat _ _ (by omega) (by omega), or_low _ _ (by omega), fstN]

/-- the N-th word -/
def wordF (seed : ByteArray) (N : Nat) : Nat := fstN (sha (joinF [bts seed, be N 8])) 8
theorem wordF_lt (seed : ByteArray) (N : Nat) : wordF seed N < 18446744073709551616 := fstN_lt _ 8

set_option maxRecDepth 100000 in
set_option maxHeartbeats 1000000 in
theorem first_ok (bs : List UInt8) (hl : bs.length = 32) (w : World) :
    Calls Tryd.prog 24 #[.agg (cells8 bs)] w (RetV w (.int .u64 (fstN bs 8))) := by
  have HL := Lib.hid hl
  clear hl
  go_enter Tryd.func24, Tryd.ntmps24
  go_upto_region 2 with (fail)
  refine name_world fun W hW => ?_
  have hB : Below w.heap.size w W := by rw [hW]; exact (Below.refl _ _).alloc (Nat.le_refl _) _
  have k0 : Blk W w.heap.size 48 (cells8 bs) := by rw [hW]; exact Blk.new' rfl _ _
  have HB := Lib.hid hB
  have K0 := Lib.hid k0
  clear hB k0 hW
  go_wp2_with fail
  go_loop [3, 8] (fun v i => ∃ k : Nat, k ≤ 8 ∧ i = .int .i64 k ∧ v = .int .u64 (fstN bs k)) (fun _ i => 8 - (intOf i).toNat)
  case atStart => exact ⟨0, by omega, rfl, rfl⟩
  case round =>
    obtain ⟨k, hk, rfl, rfl⟩ := hrel
    by_cases hlt : k < 8
    · have lk : (k : Int) < 8 := by omega
      have hx : bs[k]? = some (bs.getD k 0) := by
        have : k < bs.length := by rw [HL.out]; omega
        rw [List.getD_eq_getElem?_getD, List.getElem?_eq_getElem this]; rfl
      have e0 : W.cell? ⟨w.heap.size, k, none⟩ = some (.int .u8 (((bs.getD k 0).toNat : Nat) : Int)) := by
        rw [K0.out.cell k, cells8, List.getElem?_toArray, List.getElem?_map, hx]
        rfl
      obtain ⟨x, hxx⟩ : ∃ x, bs.getD k 0 = x := ⟨_, rfl⟩
      have hst := fst_step bs k hlt
      have hb := fstN_lt bs k
      rw [hxx] at e0 hst
      obtain ⟨z, hz⟩ : ∃ z, fstN bs k = z := ⟨_, rfl⟩
      obtain ⟨z', hz'⟩ : ∃ z', fstN bs (k + 1) = z' := ⟨_, rfl⟩
      rw [hz, hz'] at hst
      rw [hz]
      have HZ := Lib.hid hz'
      clear hx hxx hb hz hz'
      go_wp2_with fail
      go_round
      case rel => exact ⟨k + 1, by omega, by go_num, by rw [HZ.out]⟩
      case measure => simp [intOf]; omega
    · have hk8 : k = 8 := by omega
      subst hk8
      go_wp2_with fail
      go_ret
      exact ⟨rfl, HB.out⟩
end Go.Proofs.YtofdjlngohhlmaaDoor
