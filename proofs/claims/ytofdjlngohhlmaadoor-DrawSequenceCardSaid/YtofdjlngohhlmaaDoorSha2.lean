/- SHA-256: the words of a block, in both packages. -/
import Derived.Test.YtofdjlngohhlmaaDoorSha1
import Derived.Deep.WholeRow
import Derived.Laws.CopyOwn
import Derived.Deep.DeepCutAuto
import Derived.Test.YtofdjlngohhlmaaDoorDraw
namespace Go.Proofs.YtofdjlngohhlmaaDoor
open Go.RowKit

/-- n words in a row -/
def cells32 (n : Nat) (f : Nat → BitVec 32) : Array Value := ((List.range n).map fun k => wrd (f k)).toArray
theorem cells32_size (n : Nat) (f : Nat → BitVec 32) : (cells32 n f).size = n := by simp [cells32]
theorem cells32_get {n : Nat} (f : Nat → BitVec 32) {k : Nat} (hk : k < n) : (cells32 n f)[k]? = some (wrd (f k)) := by simp [cells32, hk]

theorem cells32_one (n : Nat) (f : Nat → BitVec 32) : (cells32 n f).all (·.oneCell') = true := by
  rw [Array.all_eq_true_iff_forall_mem]
  intro x hx
  simp only [cells32, List.mem_toArray, List.mem_map] at hx
  obtain ⟨j, _, rfl⟩ := hx
  rfl
theorem cells32_set {n : Nat} (f : Nat → BitVec 32) {k : Nat} (v : BitVec 32) : (cells32 n f).setIfInBounds k (wrd v) = cells32 n fun j => if j = k then v else f j := by
  apply Array.ext_getElem?
  intro j
  rcases Nat.lt_or_ge j n with hj | hj
  · rw [cells32_get _ hj]
    by_cases h : j = k
    · subst h
      rw [Array.getElem?_setIfInBounds_self_of_lt (by rw [cells32_size]; exact hj), if_pos rfl]
    · rw [Array.getElem?_setIfInBounds_ne (fun e => h e.symm), cells32_get _ hj, if_neg h]
  · rw [Array.getElem?_eq_none (by simp [cells32_size]; omega), Array.getElem?_eq_none (by simp [cells32_size]; omega)]

/-- a byte of a block as a word -/
def byt (bs : List UInt8) (k : Nat) : BitVec 32 := wide (bs.getD k 0)
/-- the words after i bytes -/
def part (bs : List UInt8) : Nat → Nat → BitVec 32
  | 0, _ => 0
  | i + 1, j => if j = i / 4 then part bs i j <<< 8 ||| byt bs i else part bs i j

def sig0 (x : BitVec 32) : BitVec 32 := rotr x 7 ^^^ rotr x 18 ^^^ x >>> 3
def sig1 (x : BitVec 32) : BitVec 32 := rotr x 17 ^^^ rotr x 19 ^^^ x >>> 10
theorem sig0_bits (x : BitVec 32) : bits .xor .u32 (bits .xor .u32 ((rotr x 7).toNat : Int) ((rotr x 18).toNat : Int)) ((x.toNat : Int) / (8 : Int)) = ((sig0 x).toNat : Int) := by
  rw [u32_shr3, u32_xor', u32_xor']; rfl
theorem sig1_bits (x : BitVec 32) : bits .xor .u32 (bits .xor .u32 ((rotr x 17).toNat : Int) ((rotr x 19).toNat : Int)) ((x.toNat : Int) / (1024 : Int)) = ((sig1 x).toNat : Int) := by
  rw [u32_shr10, u32_xor', u32_xor']; rfl
/-- the words of a block -/
def wd (bs : List UInt8) (t : Nat) : BitVec 32 :=
  if _h : t < 16 then byt bs (4 * t) <<< 24 ||| byt bs (4 * t + 1) <<< 16 ||| byt bs (4 * t + 2) <<< 8 ||| byt bs (4 * t + 3)
  else sig1 (wd bs (t - 2)) + wd bs (t - 7) + sig0 (wd bs (t - 15)) + wd bs (t - 16)
termination_by t
decreasing_by all_goals omega
/-- the words before t are there -/
def upto (bs : List UInt8) (t : Nat) (j : Nat) : BitVec 32 := if j < t then wd bs j else 0

theorem part_before (bs : List UInt8) (i j : Nat) (h : i ≤ 4 * j) : part bs i j = 0 := by
  induction i with
  | zero => rfl
  | succ i ih => simp only [part]; rw [if_neg (by omega), ih (by omega)]
theorem part_after (bs : List UInt8) (j : Nat) (d : Nat) : part bs (4 * j + 4 + d) j = part bs (4 * j + 4) j := by
  induction d with
  | zero => rfl
  | succ d ih => rw [← Nat.add_assoc]; simp only [part]; rw [if_neg (by omega)]; exact ih
theorem part_whole (bs : List UInt8) (j : Nat) (hj : j < 16) : part bs 64 j = wd bs j := by
  have h1 : part bs 64 j = part bs (4 * j + 4) j := by
    have := part_after bs j (60 - 4 * j)
    rw [show 4 * j + 4 + (60 - 4 * j) = 64 by omega] at this
    exact this
  rw [h1, wd, dif_pos hj]
  simp only [part]
  rw [if_pos (by omega), if_pos (by omega), if_pos (by omega), if_pos (by omega), part_before bs (4 * j) j (Nat.le_refl _)]
  simp [BitVec.shiftLeft_or_distrib, ← BitVec.shiftLeft_add]
theorem part_upto (bs : List UInt8) : cells32 64 (part bs 64) = cells32 64 (upto bs 16) := by
  unfold cells32
  congr 1
  apply List.map_congr_left
  intro j hj
  rw [List.mem_range] at hj
  unfold upto
  split
  · rw [part_whole bs j (by omega)]
  · rw [part_before bs 64 j (by omega)]
theorem upto_next (bs : List UInt8) (t : Nat) (v : BitVec 32) (hv : v = wd bs t) : cells32 64 (fun j => if j = t then v else upto bs t j) = cells32 64 (upto bs (t + 1)) := by
  congr 1
  funext j
  unfold upto
  split
  · rename_i h; subst h; rw [if_pos (by omega), hv]
  · rename_i h
    by_cases h1 : j < t
    · rw [if_pos h1, if_pos (by omega)]
    · rw [if_neg h1, if_neg (by omega)]

set_option maxRecDepth 100000 in
theorem schedule_ok {S : Nat → Prop} {A : Option Addr} {n c : Nat} {bs : List UInt8} {w : World} (h : RS w S A n c bs) (hS : ∀ b, S b → b < w.heap.size) (hn : 64 ≤ n) :
    Calls Tryd.prog 37 #[.slice A n c] w (RetV w (.agg (cells32 64 (upto bs 64)))) := by
  have H := Lib.hid h; clear h
  go_enter Tryd.func37, Tryd.ntmps37
  go_wp2
  refine name_world fun W hW => ?_
  have hB : Below w.heap.size w W := by rw [hW]; exact ((Below.refl _ _).alloc (Nat.le_refl _) _).alloc (by simp) _
  have k0 : Blk W w.heap.size 61 (cells32 64 fun _ => 0) := by rw [hW]; exact Blk.alloc (Blk.new' rfl _ _) _
  have k1 : Blk W (w.heap.size + 1) 61 (cells32 64 fun _ => 0) := by rw [hW]; exact Blk.new' (by simp) _ _
  have HB := Lib.hid hB
  have K0 := Lib.hid k0
  have K1 := Lib.hid k1
  clear hB k0 k1 hW
  go_loopw [8] (fun i wr => ∃ k : Nat, k ≤ 64 ∧ i = .int .i64 k ∧ Below w.heap.size w wr ∧ Blk wr w.heap.size 61 (cells32 64 fun _ => 0) ∧ Blk wr (w.heap.size + 1) 61 (cells32 64 (part bs k)))
    (fun i _ => 64 - (intOf i).toNat)
  case atStart => exact ⟨0, by omega, rfl, HB.out, K0.out, K1.out⟩
  case round =>
    obtain ⟨k, hk, rfl, hB, k0, k1⟩ := hrel
    have HB := Lib.hid hB
    have K0 := Lib.hid k0
    have K1 := Lib.hid k1
    clear hB k0 k1
    by_cases hlt : k < 64
    · obtain ⟨b, o, x, rfl, hSb, hx0, e0⟩ := H.out.byte_at (show k < n by omega)
      have e1 := (HB.out.cell (p := ⟨b, o + k, none⟩) (hS b hSb)).trans e0
      have hx := Lib.hid hx0; clear hx0 e0
      obtain ⟨q, hq⟩ : ∃ q, k / 4 = q := ⟨_, rfl⟩
      have hq16 : q < 64 := by omega
      have hq0 : (k : Int).tdiv 4 = (q : Int) := by rw [← hq]; rfl
      have e2 : wr.cell? ⟨w.heap.size + 1, q, none⟩ = some (wrd (part bs k q)) := (K1.out.cell q).trans (cells32_get _ hq16)
      have f2 : wr.frozen? ⟨w.heap.size + 1, q, none⟩ = false := K1.out.frozen q
      have hqw : IntKind.i64.wrap (q : Int) = (q : Int) := by rw [IntKind.wrap_i64]; omega
      have hqi : (q : Int) < 64 := by omega
      have hkn : k < n := by omega
      have HQ := Lib.hid hq; clear hq
      unfold wrd at e2
      go_wp2_with fail
      refine wp_region_seq (fun w' => w'.cell? ⟨w.heap.size + 1, q, none⟩ = some (.int .u32 ((part bs k q).toNat : Int)) ∧ w'.frozen? ⟨w.heap.size + 1, q, none⟩ = false ∧ w'.cell? ⟨b, o + k, none⟩ = some (.int .u8 (x.toNat : Int))) 14
        [(0, true), (1, true), (2, true), (3, true), (4, true), (5, true), (6, true), (7, true), (8, true), (9, true), (10, true), (11, true), (12, true), (13, true)]
        (by kernel_rfl) rfl (by kernel_rfl) (by kernel_rfl) (by kernel_rfl) (fun _ _ d _ _ h => by cases d <;> exact h) ⟨e2, f2, e1⟩ ?_
      iterate 14
        refine seqL_read (v := ?_) rfl rfl ?_ ?_
        rotate_left 1
        · intro w hS
          go_simp
          with_reducible rfl
        simp only [Act.put, List.getElem_toArray, List.getElem_cons_zero, List.getElem_cons_succ, List.setIfInBounds_toArray, List.set_cons_zero, List.set_cons_succ]
      refine seqL_last rfl fun K hK => ?_
      go_simp
      have hv : bits .or .u32 (IntKind.u32.wrap (((part bs k q).toNat : Int) * 256)) (IntKind.u32.wrap (x.toNat : Int)) = ((part bs k q <<< 8 ||| byt bs k).toNat : Int) := by
        rw [IntKind.wrap_u32, u32_shl8, byte_wide, u32_wrap', u32_or', byt, List.getD_eq_getElem?_getD, hx.out]
        rfl
      rw [hv]
      refine hK _ _ ?_
      clear hK K
      have hk1 : cells32 64 (fun j => if j = q then part bs k q <<< 8 ||| byt bs k else part bs k j) = cells32 64 (part bs (k + 1)) := by
        congr 1
        funext j
        simp only [part]
        rw [HQ.out]
        split
        · rename_i h; rw [h]
        · rfl
      go_wp2_with fail
      go_roundw
      case rel =>
        refine ⟨k + 1, by omega, by go_num, (HB.out.setCell (by simp) _).drew, (K0.out.far (by simp) _).drew, ?_⟩
        rw [← hk1, ← cells32_set]
        exact (K1.out.set_ q _).drew
      case measure => simp [intOf]; omega
    · have hk64 : k = 64 := by omega
      rw [hk64, part_upto] at K1
      clear hk64
      go_wp2_with fail
      clear hlt hk
      obtain ⟨wd0, rfl⟩ : ∃ w9 : World, w9 = wr := ⟨_, rfl⟩
      go_loopw [5] (fun i wr => ∃ k : Nat, 16 ≤ k ∧ k ≤ 64 ∧ i = .int .i64 k ∧ Below w.heap.size w wr ∧ Blk wr w.heap.size 61 (cells32 64 fun _ => 0) ∧ Blk wr (w.heap.size + 1) 61 (cells32 64 (upto bs k)))
        (fun i _ => 64 - (intOf i).toNat)
      case atStart => exact ⟨16, by omega, by omega, rfl, HB.out, K0.out, K1.out⟩
      case round =>
        clear HB K0 K1
        obtain ⟨k, hk0, hk, rfl, hB, k0, k1⟩ := hrel
        have HB := Lib.hid hB
        have K0 := Lib.hid k0
        have K1 := Lib.hid k1
        clear hB k0 k1
        by_cases hlt : k < 64
        · obtain ⟨k15, hk15⟩ : ∃ j, k - 15 = j := ⟨_, rfl⟩
          obtain ⟨k2, hk2⟩ : ∃ j, k - 2 = j := ⟨_, rfl⟩
          obtain ⟨k16, hk16⟩ : ∃ j, k - 16 = j := ⟨_, rfl⟩
          obtain ⟨k7, hk7⟩ : ∃ j, k - 7 = j := ⟨_, rfl⟩
          have q15 : (k : Int) - 15 = (k15 : Int) := by omega
          have q2 : (k : Int) - 2 = (k2 : Int) := by omega
          have q16 : (k : Int) - 16 = (k16 : Int) := by omega
          have q7 : (k : Int) - 7 = (k7 : Int) := by omega
          have l15 : (k15 : Int) < 64 := by omega
          have l2 : (k2 : Int) < 64 := by omega
          have l16 : (k16 : Int) < 64 := by omega
          have l7 : (k7 : Int) < 64 := by omega
          have lk : (k : Int) < 64 := by omega
          have e15 : wr.cell? ⟨w.heap.size + 1, k15, none⟩ = some (.int .u32 ((wd bs k15).toNat : Int)) := (K1.out.cell k15).trans ((cells32_get _ (by omega)).trans (by rw [upto, if_pos (by omega)]; rfl))
          have e2 : wr.cell? ⟨w.heap.size + 1, k2, none⟩ = some (.int .u32 ((wd bs k2).toNat : Int)) := (K1.out.cell k2).trans ((cells32_get _ (by omega)).trans (by rw [upto, if_pos (by omega)]; rfl))
          have e16 : wr.cell? ⟨w.heap.size + 1, k16, none⟩ = some (.int .u32 ((wd bs k16).toNat : Int)) := (K1.out.cell k16).trans ((cells32_get _ (by omega)).trans (by rw [upto, if_pos (by omega)]; rfl))
          have e7 : wr.cell? ⟨w.heap.size + 1, k7, none⟩ = some (.int .u32 ((wd bs k7).toNat : Int)) := (K1.out.cell k7).trans ((cells32_get _ (by omega)).trans (by rw [upto, if_pos (by omega)]; rfl))
          have fk : wr.frozen? ⟨w.heap.size + 1, k, none⟩ = false := K1.out.frozen k
          have hdef : wd bs k = sig1 (wd bs k2) + wd bs k7 + sig0 (wd bs k15) + wd bs k16 := by
            rw [wd, dif_neg (by omega), hk2, hk7, hk15, hk16]
          have HD := Lib.hid hdef
          have hw16 : IntKind.i64.wrap (k16 : Int) = (k16 : Int) := by rw [IntKind.wrap_i64]; omega
          have hw7 : IntKind.i64.wrap (k7 : Int) = (k7 : Int) := by rw [IntKind.wrap_i64]; omega
          clear hk15 hk2 hk16 hk7 hdef
          go_wp2_with fail
          go_quiet (fail)
          have s0 := sig0_bits (wd bs k15)
          have s1 := sig1_bits (wd bs k2)
          go_wp2_with fail
          refine (rotl7 _ _).mono ?_
          rintro e w1 ⟨rfl, rfl⟩
          go_wp2_with fail
          refine (rotl18 _ _).mono ?_
          rintro e w1 ⟨rfl, rfl⟩
          go_wp2_with fail
          refine (rotl17 _ _).mono ?_
          rintro e w1 ⟨rfl, rfl⟩
          go_wp2_with fail
          refine (rotl19 _ _).mono ?_
          rintro e w1 ⟨rfl, rfl⟩
          go_wp2_with fail
          refine wp_region_seq (fun w' => w'.cell? ⟨w.heap.size + 1, k16, none⟩ = some (.int .u32 ((wd bs k16).toNat : Int)) ∧ w'.cell? ⟨w.heap.size + 1, k7, none⟩ = some (.int .u32 ((wd bs k7).toNat : Int)) ∧ w'.frozen? ⟨w.heap.size + 1, k, none⟩ = false) 15
            [(0, true), (1, true), (2, true), (3, true), (4, true), (5, true), (6, true), (7, true), (8, true), (9, true), (10, true), (11, true), (12, true), (13, true), (14, true)]
            (by kernel_rfl) rfl (by kernel_rfl) (by kernel_rfl) (by kernel_rfl) (fun _ _ d _ _ h => by cases d <;> exact h) ⟨e16, e7, fk⟩ ?_
          clear e15 e2 e16 e7 fk s0 s1
          iterate 15
            refine seqL_read (v := ?_) rfl rfl ?_ ?_
            rotate_left 1
            · intro w hS
              go_simp
              with_reducible rfl
            simp only [Act.put, List.getElem_toArray, List.getElem_cons_zero, List.getElem_cons_succ, List.setIfInBounds_toArray, List.set_cons_zero, List.set_cons_succ]
          refine seqL_last rfl fun K hK => ?_
          have hfk : ((wr.drewN nq).drew).frozen? ⟨w.heap.size + 1, k, none⟩ = false := K1.out.frozen k
          obtain ⟨wx, hwx⟩ : ∃ wx, (wr.drewN nq).drew = wx := ⟨_, rfl⟩
          have HBx : Hid (Below w.heap.size w wx) := Lib.hid (by rw [← hwx]; exact (below_drewN HB.out nq).drew)
          have K0x : Hid (Blk wx w.heap.size 61 (cells32 64 fun _ => 0)) := Lib.hid (by rw [← hwx]; exact (K0.out.drewN nq).drew)
          have K1x : Hid (Blk wx (w.heap.size + 1) 61 (cells32 64 (upto bs k))) := Lib.hid (by rw [← hwx]; exact (K1.out.drewN nq).drew)
          have ek : wx.cell? ⟨w.heap.size + 1, k, none⟩ = some (wrd (upto bs k k)) := (K1x.out.cell k).trans (cells32_get _ hlt)
          rw [hwx] at hfk ⊢
          clear hwx
          go_simp
          have hv : IntKind.u32.wrap (IntKind.u32.wrap (IntKind.u32.wrap (((wd bs k16).toNat : Int) + ((sig0 (wd bs k15)).toNat : Int)) + ((wd bs k7).toNat : Int)) + ((sig1 (wd bs k2)).toNat : Int)) = ((wd bs k).toNat : Int) := by
            rw [u32_add', u32_add', u32_add', HD.out]
            congr 2
            ac_rfl
          rw [hv]
          refine hK _ _ ?_
          clear hK K
          go_wp2_with fail
          go_roundw
          case rel =>
            refine ⟨k + 1, by omega, by omega, by go_num, HBx.out.setCell (by simp) _, K0x.out.far (by simp) _, ?_⟩
            rw [← upto_next bs k _ rfl, ← cells32_set]
            exact K1x.out.set_ k _
          case measure => simp [intOf]; omega
        · have hk64 : k = 64 := by omega
          rw [hk64] at K1
          clear hk64
          go_upto_region 14 with (fail)
          refine wp_region_list ?_
          refine wpList_load_row rfl _ _ rfl (w.heap.size + 1) rfl _ (cells32 64 (upto bs 64)) (0, 0) _ K1.out Tryd.underlying61 rfl (by rw [cells32_size]; kernel_rfl) ?_
          refine wpList_store_row rfl _ _ _ rfl w.heap.size (cells32 64 (upto bs 64)) rfl rfl _ (cells32 64 fun _ => 0) K0.out (by rw [cells32_size]; kernel_rfl) (by rw [cells32_size, cells32_size]) (cells32_one _ _) ?_
          refine wpList_nil ?_
          have hb9 : Below w.heap.size w (wr.setRow w.heap.size (cells32 64 (upto bs 64))) := below_setRow HB.out (Nat.le_refl _) _
          have k9 : Blk (wr.setRow w.heap.size (cells32 64 (upto bs 64))) w.heap.size 61 (cells32 64 (upto bs 64)) := setRow_heap _ _ _ _ _ _ K0.out
          obtain ⟨w9, hw9⟩ : ∃ w9, wr.setRow w.heap.size (cells32 64 (upto bs 64)) = w9 := ⟨_, rfl⟩
          rw [hw9] at hb9 k9 ⊢
          clear hw9
          have HB9 := Lib.hid hb9
          have K9 := Lib.hid k9
          clear hb9 k9
          simp only [Act.put]
          go_wp2_with fail
          refine bodyPost_ret (results_cell_row rfl _ _ w.heap.size _ _ _ _ rfl K9.out Tryd.underlying61 rfl (by rw [cells32_size]; kernel_rfl)) rfl ?_
          exact ⟨rfl, HB9.out⟩
end Go.Proofs.YtofdjlngohhlmaaDoor
