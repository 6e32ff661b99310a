/- SHA-256: a block is mixed into the state. -/
import Derived.Test.YtofdjlngohhlmaaDoorSha3
namespace Go.Proofs.YtofdjlngohhlmaaDoor
open Go.RowKit

def bsum6 (x : BitVec 32) : BitVec 32 := rotr x 6 ^^^ rotr x 11 ^^^ rotr x 25
def bsum2 (x : BitVec 32) : BitVec 32 := rotr x 2 ^^^ rotr x 13 ^^^ rotr x 22
def chs (x y z : BitVec 32) : BitVec 32 := x &&& y ^^^ ~~~x &&& z
def maj (x y z : BitVec 32) : BitVec 32 := x &&& y ^^^ x &&& z ^^^ y &&& z
theorem bsum6_bits (x : BitVec 32) : bits .xor .u32 (bits .xor .u32 ((rotr x 6).toNat : Int) ((rotr x 11).toNat : Int)) ((rotr x 25).toNat : Int) = ((bsum6 x).toNat : Int) := by
  rw [u32_xor', u32_xor']; rfl
theorem bsum2_bits (x : BitVec 32) : bits .xor .u32 (bits .xor .u32 ((rotr x 2).toNat : Int) ((rotr x 13).toNat : Int)) ((rotr x 22).toNat : Int) = ((bsum2 x).toNat : Int) := by
  rw [u32_xor', u32_xor']; rfl
theorem chs_bits (x y z : BitVec 32) : bits .xor .u32 (bits .and .u32 (x.toNat : Int) (y.toNat : Int)) (bits .and .u32 (bits .xor .u32 4294967295 (x.toNat : Int)) (z.toNat : Int)) = ((chs x y z).toNat : Int) := by
  rw [u32_not', u32_and', u32_and', u32_xor']; rfl
theorem maj_bits (x y z : BitVec 32) : bits .xor .u32 (bits .xor .u32 (bits .and .u32 (x.toNat : Int) (y.toNat : Int)) (bits .and .u32 (x.toNat : Int) (z.toNat : Int))) (bits .and .u32 (y.toNat : Int) (z.toNat : Int)) = ((maj x y z).toNat : Int) := by
  rw [u32_and', u32_and', u32_and', u32_xor', u32_xor']; rfl

theorem wpList_runs {P : Program} {ops : Array Oper} {rest : List Oper} {o : Oper} {a : Act} {w w' : World} {Q : Exit → Act → World → Prop} (hg : o.guard = none) (v : Value)
    (hrun : (execOp a.eval o).run P w = .ok (.value v) w') (h : wpList P ops Q rest (a.put o.dst v) w') : wpList P ops Q (o :: rest) a w :=
  wpList_plain hg fun K hK => by
    unfold Oper.wp
    rw [hrun, Oper.upon_value]
    exact hK _ _ h

theorem wpList_reads {P : Program} {ops : Array Oper} {rest : List Oper} {o : Oper} {a : Act} {w : World} {v : Value} {Q : Exit → Act → World → Prop} (hg : o.guard = none)
    (hrun : (execOp a.eval o).run P w = .ok (.value v) w) (h : wpList P ops Q rest (a.put o.dst v) w) : wpList P ops Q (o :: rest) a w := wpList_runs hg v hrun h

/-- the constants -/
def kon : List (BitVec 32) := [1116352408, 1899447441, 3049323471, 3921009573, 961987163, 1508970993, 2453635748, 2870763221, 3624381080, 310598401, 607225278, 1426881987, 1925078388, 2162078206, 2614888103, 3248222580, 3835390401, 4022224774, 264347078, 604807628, 770255983, 1249150122, 1555081692, 1996064986, 2554220882, 2821834349, 2952996808, 3210313671, 3336571891, 3584528711, 113926993, 338241895, 666307205, 773529912, 1294757372, 1396182291, 1695183700, 1986661051, 2177026350, 2456956037, 2730485921, 2820302411, 3259730800, 3345764771, 3516065817, 3600352804, 4094571909, 275423344, 430227734, 506948616, 659060556, 883997877, 958139571, 1322822218, 1537002063, 1747873779, 1955562222, 2024104815, 2227730452, 2361852424, 2428436474, 2756734187, 3204031479, 3329325298]
def kn (t : Nat) : BitVec 32 := kon.getD t 0
/-- the table of the constants lies in block g -/
def Tab (w : World) (g : Nat) : Prop := g < w.heap.size ∧ ∀ t, t < 64 → w.cell? ⟨g, t, none⟩ = some (wrd (kn t))
theorem Tab.below {w w' : World} {g B : Nat} (h : Tab w g) (hb : Below B w w') (hg : g < B) : Tab w' g :=
  ⟨Nat.lt_of_lt_of_le h.1 hb.size, fun t ht => (hb.cell (p := ⟨g, t, none⟩) hg).trans (h.2 t ht)⟩

def one (bs : List UInt8) (s : Nat → BitVec 32) (t : Nat) : BitVec 32 := s 7 + bsum6 (s 4) + chs (s 4) (s 5) (s 6) + kn t + wd bs t
def two (s : Nat → BitVec 32) : BitVec 32 := bsum2 (s 0) + maj (s 0) (s 1) (s 2)
def stp (bs : List UInt8) (s : Nat → BitVec 32) (t : Nat) : Nat → BitVec 32
  | 0 => one bs s t + two s
  | 1 => s 0
  | 2 => s 1
  | 3 => s 2
  | 4 => s 3 + one bs s t
  | 5 => s 4
  | 6 => s 5
  | 7 => s 6
  | _ => 0
def rnds (bs : List UInt8) (h : Nat → BitVec 32) : Nat → Nat → BitVec 32
  | 0 => h
  | t + 1 => stp bs (rnds bs h t) t
/-- the state behind a block -/
def mixF (h : Nat → BitVec 32) (bs : List UInt8) (j : Nat) : BitVec 32 := h j + rnds bs h 64 j

set_option maxRecDepth 100000 in
set_option maxHeartbeats 1000000 in
theorem mix_ok {S : Nat → Prop} {A : Option Addr} {n c : Nat} {bs : List UInt8} {w : World} (st : Nat → BitVec 32) (h : RS w S A n c bs) (hS : ∀ b, S b → b < w.heap.size) (hn : 64 ≤ n) (hT : Tab w 1) :
    Calls Tryd.prog 32 #[.agg (cells32 8 st), .slice A n c] w (RetV w (.agg (cells32 8 (mixF st bs)))) := by
  have H := Lib.hid h; clear h
  have HT := Lib.hid hT; clear hT
  go_enter Tryd.func32, Tryd.ntmps32
  go_upto_region 1 with (fail)
  refine name_world fun W hW => ?_
  have hB : Below w.heap.size w W := by rw [hW]; exact ((Below.refl _ _).alloc (Nat.le_refl _) _).alloc (by simp) _
  have hz : #[Value.int .u32 0, .int .u32 0, .int .u32 0, .int .u32 0, .int .u32 0, .int .u32 0, .int .u32 0, .int .u32 0] = cells32 8 (fun _ => 0) := rfl
  have k0 : Blk W w.heap.size 57 (cells32 8 st) := by rw [hW]; exact Blk.alloc (Blk.new' rfl _ _) _
  have k1 : Blk W (w.heap.size + 1) 57 (cells32 8 fun _ => 0) := by rw [hW, ← hz]; exact Blk.new' (by simp) _ _
  have hzW : W.heap.size = w.heap.size + 2 := by rw [hW]; simp
  have HB := Lib.hid hB
  have K0 := Lib.hid k0
  have K1 := Lib.hid k1
  have HZ := Lib.hid hzW
  clear hB k0 k1 hW hz hzW
  go_wp2_with fail
  refine (schedule_ok (H.out.below HB.out hS) (fun b hb => by have := hS b hb; have := HZ.out; omega) hn).mono ?_
  rintro e w1 ⟨rfl, hb1⟩
  have HB1 := Lib.hid (below_more HB.out (hb1.mono (Nat.le_refl _)))
  have K01 := Lib.hid (K0.out.keep hb1)
  have K11 := Lib.hid (K1.out.keep hb1)
  have HZ1 := Lib.hid hb1.size
  clear HB K0 K1 hb1
  rename_i K hK
  refine hK _ _ ?_
  clear hK
  refine wpList_runs (w' := w1.alloc (.cells (cells32 64 fun _ => 0) 61)) rfl (.pointer (some ⟨w1.heap.size, 0, none⟩)) ?_ ?_
  · go_simp
    rfl
  refine wpList_store_row rfl _ _ _ rfl w1.heap.size (cells32 64 (upto bs 64)) rfl rfl _ (cells32 64 fun _ => 0) (Blk.new _ _ _) (by rw [cells32_size]; kernel_rfl) (by rw [cells32_size, cells32_size]) (cells32_one _ _) ?_
  refine wpList_nil ?_
  have k2 : Blk ((w1.alloc (.cells (cells32 64 fun _ => 0) 61)).setRow w1.heap.size (cells32 64 (upto bs 64))) w1.heap.size 61 (cells32 64 (upto bs 64)) := setRow_heap _ _ _ _ _ _ (Blk.new _ _ _)
  rw [World.setRow_alloc_new] at k2 ⊢
  obtain ⟨g2, hg2⟩ : ∃ g2, w1.heap.size = g2 := ⟨_, rfl⟩
  rw [hg2] at k2 ⊢
  have hl2 : w.heap.size + 1 < g2 := by have := HZ.out; have := HZ1.out; omega
  obtain ⟨W2, hW2⟩ : ∃ W2, w1.alloc (.cells (cells32 64 (upto bs 64)) 61) = W2 := ⟨_, rfl⟩
  have HB2 : Hid (Below w.heap.size w W2) := Lib.hid (by rw [← hW2]; exact HB1.out.alloc (by omega) _)
  have K02 : Hid (Blk W2 w.heap.size 57 (cells32 8 st)) := Lib.hid (by rw [← hW2]; exact K01.out.alloc _)
  have K12 : Hid (Blk W2 (w.heap.size + 1) 57 (cells32 8 fun _ => 0)) := Lib.hid (by rw [← hW2]; exact K11.out.alloc _)
  have hz2 : W2.heap.size = g2 + 1 := by rw [← hW2]; simp [hg2]
  rw [hW2] at k2 ⊢
  have K22 := Lib.hid k2
  clear hW2 k2 HB1 K01 K11 HZ HZ1 hg2
  simp only [Act.put, List.setIfInBounds_toArray, List.set_cons_zero, List.set_cons_succ]
  go_upto_region 2 with (fail)
  refine wp_region_list ?_
  refine wpList_load_row rfl _ _ rfl w.heap.size rfl _ (cells32 8 st) (0, 0) _ K02.out Tryd.underlying57 rfl (by rw [cells32_size]; kernel_rfl) ?_
  refine wpList_runs (w' := W2.alloc (.cells (cells32 8 fun _ => 0) 57)) rfl (.pointer (some ⟨g2 + 1, 0, none⟩)) ?_ ?_
  · rw [← hz2]
    go_simp
    rfl
  refine wpList_store_row rfl _ _ _ rfl (g2 + 1) (cells32 8 st) rfl rfl _ (cells32 8 fun _ => 0) (Blk.new' hz2 _ _) (by rw [cells32_size]; kernel_rfl) (by rw [cells32_size, cells32_size]) (cells32_one _ _) ?_
  refine wpList_nil ?_
  rw [← hz2, World.setRow_alloc_new, hz2]
  obtain ⟨g3, hg3⟩ : ∃ g3, g2 + 1 = g3 := ⟨_, rfl⟩
  have hl3 : g2 < g3 := by omega
  rw [hg3] at hz2 ⊢
  obtain ⟨W3, hW3⟩ : ∃ W3, W2.alloc (.cells (cells32 8 st) 57) = W3 := ⟨_, rfl⟩
  have HB3 : Hid (Below w.heap.size w W3) := Lib.hid (by rw [← hW3]; exact HB2.out.alloc (by omega) _)
  have K03 : Hid (Blk W3 w.heap.size 57 (cells32 8 st)) := Lib.hid (by rw [← hW3]; exact K02.out.alloc _)
  have K13 : Hid (Blk W3 (w.heap.size + 1) 57 (cells32 8 fun _ => 0)) := Lib.hid (by rw [← hW3]; exact K12.out.alloc _)
  have K23 : Hid (Blk W3 g2 61 (cells32 64 (upto bs 64))) := Lib.hid (by rw [← hW3]; exact K22.out.alloc _)
  have K33 : Hid (Blk W3 g3 57 (cells32 8 (rnds bs st 0))) := Lib.hid (by rw [← hW3]; exact Blk.new' hz2 _ _)
  rw [hW3]
  clear hW3 hz2 hg3 HB2 K02 K12 K22
  simp only [Act.put, List.setIfInBounds_toArray, List.set_cons_zero, List.set_cons_succ]
  go_wp2_with fail
  go_loopw [17] (fun i wr => ∃ k : Nat, k ≤ 64 ∧ i = .int .i64 k ∧ Below w.heap.size w wr ∧ Blk wr w.heap.size 57 (cells32 8 st) ∧ Blk wr (w.heap.size + 1) 57 (cells32 8 fun _ => 0) ∧ Blk wr g2 61 (cells32 64 (upto bs 64)) ∧ Blk wr g3 57 (cells32 8 (rnds bs st k)))
    (fun i _ => 64 - (intOf i).toNat)
  case atStart => exact ⟨0, by omega, rfl, HB3.out, K03.out, K13.out, K23.out, K33.out⟩
  case round =>
    clear HB3 K03 K13 K23 K33
    obtain ⟨k, hk, rfl, hB, k0, k1, k2, k3⟩ := hrel
    have HB := Lib.hid hB
    have K0 := Lib.hid k0
    have K1 := Lib.hid k1
    have K2 := Lib.hid k2
    have K3 := Lib.hid k3
    clear hB k0 k1 k2 k3
    by_cases hlt : k < 64
    · have lk : (k : Int) < 64 := by omega
      obtain ⟨sk, hsk⟩ : ∃ sk, rnds bs st k = sk := ⟨_, rfl⟩
      have HSK := Lib.hid hsk
      rw [hsk] at K3
      clear hsk
      have t1 := (HT.out.below HB.out HT.out.1).2 k hlt
      unfold wrd at t1
      have ew : wr.cell? ⟨g2, k, none⟩ = some (.int .u32 ((wd bs k).toNat : Int)) := (K2.out.cell k).trans ((cells32_get _ hlt).trans (by rw [upto, if_pos hlt]; rfl))
      have e0 : wr.cell? ⟨g3, 0, none⟩ = some (.int .u32 ((sk 0).toNat : Int)) := (K3.out.cell 0).trans (cells32_get _ (by omega))
      have e1 : wr.cell? ⟨g3, 1, none⟩ = some (.int .u32 ((sk 1).toNat : Int)) := (K3.out.cell 1).trans (cells32_get _ (by omega))
      have e2 : wr.cell? ⟨g3, 2, none⟩ = some (.int .u32 ((sk 2).toNat : Int)) := (K3.out.cell 2).trans (cells32_get _ (by omega))
      have e3 : wr.cell? ⟨g3, 3, none⟩ = some (.int .u32 ((sk 3).toNat : Int)) := (K3.out.cell 3).trans (cells32_get _ (by omega))
      have e4 : wr.cell? ⟨g3, 4, none⟩ = some (.int .u32 ((sk 4).toNat : Int)) := (K3.out.cell 4).trans (cells32_get _ (by omega))
      have e5 : wr.cell? ⟨g3, 5, none⟩ = some (.int .u32 ((sk 5).toNat : Int)) := (K3.out.cell 5).trans (cells32_get _ (by omega))
      have e6 : wr.cell? ⟨g3, 6, none⟩ = some (.int .u32 ((sk 6).toNat : Int)) := (K3.out.cell 6).trans (cells32_get _ (by omega))
      have e7 : wr.cell? ⟨g3, 7, none⟩ = some (.int .u32 ((sk 7).toNat : Int)) := (K3.out.cell 7).trans (cells32_get _ (by omega))
      have b6 := bsum6_bits (sk 4)
      have b2 := bsum2_bits (sk 0)
      have bc : bits .xor .u32 (bits .and .u32 ((sk 4).toNat : Int) ((sk 5).toNat : Int)) (bits .and .u32 (bits .xor .u32 (if IntKind.u32.signed = true then -1 else IntKind.u32.max) ((sk 4).toNat : Int)) ((sk 6).toNat : Int)) = ((chs (sk 4) (sk 5) (sk 6)).toNat : Int) := chs_bits (sk 4) (sk 5) (sk 6)
      have bo : IntKind.u32.wrap (IntKind.u32.wrap (IntKind.u32.wrap (IntKind.u32.wrap (((sk 7).toNat : Int) + ((bsum6 (sk 4)).toNat : Int)) + ((chs (sk 4) (sk 5) (sk 6)).toNat : Int)) + ((kn k).toNat : Int)) + ((wd bs k).toNat : Int)) = ((one bs sk k).toNat : Int) := by rw [u32_add', u32_add', u32_add', u32_add']; rfl
      have bt : IntKind.u32.wrap (((bsum2 (sk 0)).toNat : Int) + ((maj (sk 0) (sk 1) (sk 2)).toNat : Int)) = ((two sk).toNat : Int) := by rw [u32_add']; rfl
      have bm := maj_bits (sk 0) (sk 1) (sk 2)
      have ba := u32_add' (one bs sk k) (two sk)
      have be := u32_add' (sk 3) (one bs sk k)
      obtain ⟨oo, hoo⟩ : ∃ x, one bs sk k = x := ⟨_, rfl⟩
      obtain ⟨aa, haa⟩ : ∃ x, one bs sk k + two sk = x := ⟨_, rfl⟩
      obtain ⟨ee, hee⟩ : ∃ x, sk 3 + one bs sk k = x := ⟨_, rfl⟩
      rw [haa] at ba
      rw [hee] at be
      have HAA := Lib.hid haa
      have HEE := Lib.hid hee
      rw [hoo] at ba be bo
      clear haa hee hoo
      go_upto_region 6 with (fail)
      refine wp_region_seq (fun w' => w'.cell? ⟨g3, 4, none⟩ = some (.int .u32 ((sk 4).toNat : Int))) 11
        [(0, true), (1, true), (3, true), (4, true), (7, true), (8, true), (2, false), (5, false), (6, true), (9, false), (10, true)]
        (by kernel_rfl) rfl (by kernel_rfl) (by kernel_rfl) (by kernel_rfl) (fun _ _ d _ _ h => by cases d <;> exact h) e4 ?_
      iterate 6
        refine seqL_read (v := ?_) rfl rfl ?_ ?_
        rotate_left 1
        · intro w hS
          go_simp
          with_reducible rfl
        simp only [Act.put, List.getElem_toArray, List.getElem_cons_zero, List.getElem_cons_succ, List.setIfInBounds_toArray, List.set_cons_zero, List.set_cons_succ]
      refine seqL_do rfl fun K hK => ?_
      go_simp
      refine (rotl6 _ _).mono ?_
      rintro e w9 ⟨rfl, rfl⟩
      refine hK _ _ e4 ?_
      clear hK K
      try simp only [Act.put, List.getElem_toArray, List.getElem_cons_zero, List.getElem_cons_succ, List.setIfInBounds_toArray, List.set_cons_zero, List.set_cons_succ]
      refine seqL_do rfl fun K hK => ?_
      go_simp
      refine (rotl11 _ _).mono ?_
      rintro e w9 ⟨rfl, rfl⟩
      refine hK _ _ e4 ?_
      clear hK K
      try simp only [Act.put, List.getElem_toArray, List.getElem_cons_zero, List.getElem_cons_succ, List.setIfInBounds_toArray, List.set_cons_zero, List.set_cons_succ]
      iterate 1
        refine seqL_read (v := ?_) rfl rfl ?_ ?_
        rotate_left 1
        · intro w hS
          go_simp
          with_reducible rfl
        simp only [Act.put, List.getElem_toArray, List.getElem_cons_zero, List.getElem_cons_succ, List.setIfInBounds_toArray, List.set_cons_zero, List.set_cons_succ]
      refine seqL_do rfl fun K hK => ?_
      go_simp
      refine (rotl25 _ _).mono ?_
      rintro e w9 ⟨rfl, rfl⟩
      refine hK _ _ e4 ?_
      clear hK K
      try simp only [Act.put, List.getElem_toArray, List.getElem_cons_zero, List.getElem_cons_succ, List.setIfInBounds_toArray, List.set_cons_zero, List.set_cons_succ]
      iterate 1
        refine seqL_read (v := ?_) rfl rfl ?_ ?_
        rotate_left 1
        · intro w hS
          go_simp
          with_reducible rfl
        simp only [Act.put, List.getElem_toArray, List.getElem_cons_zero, List.getElem_cons_succ, List.setIfInBounds_toArray, List.set_cons_zero, List.set_cons_succ]
      refine seqL_last rfl fun K hK => ?_
      go_simp
      refine hK _ _ ?_
      clear hK K
      go_upto_region 8 with (fail)
      refine wp_region_seq (fun w' => w'.cell? ⟨g3, 7, none⟩ = some (.int .u32 ((sk 7).toNat : Int)) ∧ w'.cell? ⟨1, k, none⟩ = some (.int .u32 ((kn k).toNat : Int)) ∧ w'.cell? ⟨g2, k, none⟩ = some (.int .u32 ((wd bs k).toNat : Int))) 14
        [(0, true), (1, true), (2, true), (3, true), (4, true), (5, true), (6, true), (7, true), (8, true), (9, true), (10, true), (11, true), (12, true), (13, true)]
        (by kernel_rfl) rfl (by kernel_rfl) (by kernel_rfl) (by kernel_rfl) (fun _ _ d _ _ h => by cases d <;> exact h) ⟨e7, t1, ew⟩ ?_
      iterate 14
        refine seqL_read (v := ?_) rfl rfl ?_ ?_
        rotate_left 1
        · intro w hS
          go_simp
          with_reducible rfl
        simp only [Act.put, List.getElem_toArray, List.getElem_cons_zero, List.getElem_cons_succ, List.setIfInBounds_toArray, List.set_cons_zero, List.set_cons_succ]
      refine seqL_last rfl fun K hK => ?_
      go_simp
      refine hK _ _ ?_
      clear hK K
      go_upto_region 9 with (fail)
      refine wp_region_seq (fun w' => w'.cell? ⟨g3, 0, none⟩ = some (.int .u32 ((sk 0).toNat : Int))) 11
        [(0, true), (1, true), (3, true), (4, true), (7, true), (8, true), (2, false), (5, false), (6, true), (9, false), (10, true)]
        (by kernel_rfl) rfl (by kernel_rfl) (by kernel_rfl) (by kernel_rfl) (fun _ _ d _ _ h => by cases d <;> exact h) e0 ?_
      iterate 6
        refine seqL_read (v := ?_) rfl rfl ?_ ?_
        rotate_left 1
        · intro w hS
          go_simp
          with_reducible rfl
        simp only [Act.put, List.getElem_toArray, List.getElem_cons_zero, List.getElem_cons_succ, List.setIfInBounds_toArray, List.set_cons_zero, List.set_cons_succ]
      refine seqL_do rfl fun K hK => ?_
      go_simp
      refine (rotl2 _ _).mono ?_
      rintro e w9 ⟨rfl, rfl⟩
      refine hK _ _ e0 ?_
      clear hK K
      try simp only [Act.put, List.getElem_toArray, List.getElem_cons_zero, List.getElem_cons_succ, List.setIfInBounds_toArray, List.set_cons_zero, List.set_cons_succ]
      refine seqL_do rfl fun K hK => ?_
      go_simp
      refine (rotl13 _ _).mono ?_
      rintro e w9 ⟨rfl, rfl⟩
      refine hK _ _ e0 ?_
      clear hK K
      try simp only [Act.put, List.getElem_toArray, List.getElem_cons_zero, List.getElem_cons_succ, List.setIfInBounds_toArray, List.set_cons_zero, List.set_cons_succ]
      iterate 1
        refine seqL_read (v := ?_) rfl rfl ?_ ?_
        rotate_left 1
        · intro w hS
          go_simp
          with_reducible rfl
        simp only [Act.put, List.getElem_toArray, List.getElem_cons_zero, List.getElem_cons_succ, List.setIfInBounds_toArray, List.set_cons_zero, List.set_cons_succ]
      refine seqL_do rfl fun K hK => ?_
      go_simp
      refine (rotl22 _ _).mono ?_
      rintro e w9 ⟨rfl, rfl⟩
      refine hK _ _ e0 ?_
      clear hK K
      try simp only [Act.put, List.getElem_toArray, List.getElem_cons_zero, List.getElem_cons_succ, List.setIfInBounds_toArray, List.set_cons_zero, List.set_cons_succ]
      iterate 1
        refine seqL_read (v := ?_) rfl rfl ?_ ?_
        rotate_left 1
        · intro w hS
          go_simp
          with_reducible rfl
        simp only [Act.put, List.getElem_toArray, List.getElem_cons_zero, List.getElem_cons_succ, List.setIfInBounds_toArray, List.set_cons_zero, List.set_cons_succ]
      refine seqL_last rfl fun K hK => ?_
      go_simp
      refine hK _ _ ?_
      clear hK K
      go_upto_region 11 with (fail)
      refine wp_region_list ?_
      iterate 20
        refine wpList_reads (v := ?_) rfl ?_ ?_
        rotate_left 1
        · go_simp
          with_reducible rfl
        simp only [Act.put, List.setIfInBounds_toArray, List.set_cons_zero, List.set_cons_succ]
      refine wpList_store_row rfl _ _ _ rfl g3 (cells32 8 (stp bs sk k)) rfl ?_ _ (cells32 8 sk) K3.out (by rw [cells32_size]; kernel_rfl) (by rw [cells32_size, cells32_size]) (cells32_one _ _) ?_
      · show Value.agg #[.int .u32 (aa.toNat : Int), .int .u32 ((sk 0).toNat : Int), .int .u32 ((sk 1).toNat : Int), .int .u32 ((sk 2).toNat : Int), .int .u32 (ee.toNat : Int), .int .u32 ((sk 4).toNat : Int), .int .u32 ((sk 5).toNat : Int), .int .u32 ((sk 6).toNat : Int)] = _
        rw [← HAA.out, ← HEE.out]
        rfl
      refine wpList_nil ?_
      have HB9 : Hid (Below w.heap.size w (wr.drew.drew.drew.setRow g3 (cells32 8 (stp bs sk k)))) := Lib.hid (below_setRow (HB.out.drew.drew.drew) (by omega) _)
      have K09 : Hid (Blk (wr.drew.drew.drew.setRow g3 (cells32 8 (stp bs sk k))) w.heap.size 57 (cells32 8 st)) := Lib.hid ((setRow_other _ _ _ _ (by omega)).trans K0.out)
      have K19 : Hid (Blk (wr.drew.drew.drew.setRow g3 (cells32 8 (stp bs sk k))) (w.heap.size + 1) 57 (cells32 8 fun _ => 0)) := Lib.hid ((setRow_other _ _ _ _ (by omega)).trans K1.out)
      have K29 : Hid (Blk (wr.drew.drew.drew.setRow g3 (cells32 8 (stp bs sk k))) g2 61 (cells32 64 (upto bs 64))) := Lib.hid ((setRow_other _ _ _ _ (by omega)).trans K2.out)
      have K39 : Hid (Blk (wr.drew.drew.drew.setRow g3 (cells32 8 (stp bs sk k))) g3 57 (cells32 8 (stp bs sk k))) := Lib.hid (setRow_heap _ _ _ _ _ _ K3.out)
      obtain ⟨w9, hw9⟩ : ∃ w9, wr.drew.drew.drew.setRow g3 (cells32 8 (stp bs sk k)) = w9 := ⟨_, rfl⟩
      rw [hw9] at HB9 K09 K19 K29 K39
      rw [hw9]
      clear hw9 e0 e1 e2 e3 e4 e5 e6 e7 ew t1 b6 b2 bc bo bt bm ba be
      simp only [Act.put]
      go_wp2_with fail
      go_roundw
      case rel => exact ⟨k + 1, by omega, by go_num, HB9.out, K09.out, K19.out, K29.out, by rw [rnds, HSK.out]; exact K39.out⟩
      case measure => simp [intOf]; omega
    · have hk64 : k = 64 := by omega
      rw [hk64] at K3
      clear hk64
      go_wp2_with fail
      clear hlt hk
      obtain ⟨sk, hsk⟩ : ∃ sk, rnds bs st 64 = sk := ⟨_, rfl⟩
      have hmx : mixF st bs = fun j => st j + sk j := by funext j; rw [mixF, hsk]
      have HM := Lib.hid hmx
      rw [hsk] at K3
      clear hsk hmx
      obtain ⟨wd0, rfl⟩ : ∃ w9 : World, w9 = wr := ⟨_, rfl⟩
      go_loopw [108] (fun i wr => ∃ k : Nat, k ≤ 8 ∧ i = .int .i64 k ∧ Below w.heap.size w wr ∧ Blk wr w.heap.size 57 (cells32 8 fun j => if j < k then st j + sk j else st j) ∧ Blk wr (w.heap.size + 1) 57 (cells32 8 fun _ => 0) ∧ Blk wr g3 57 (cells32 8 sk))
        (fun i _ => 8 - (intOf i).toNat)
      case atStart => exact ⟨0, by omega, rfl, HB.out, K0.out, K1.out, K3.out⟩
      case round =>
        clear HB K0 K1 K2 K3
        obtain ⟨k, hk, rfl, hB, k0, k1, k3⟩ := hrel
        have HB := Lib.hid hB
        have K0 := Lib.hid k0
        have K1 := Lib.hid k1
        have K3 := Lib.hid k3
        clear hB k0 k1 k3
        by_cases hlt : k < 8
        · have lk : (k : Int) < 8 := by omega
          have e0 : wr.cell? ⟨w.heap.size, k, none⟩ = some (.int .u32 ((st k).toNat : Int)) := (K0.out.cell k).trans ((cells32_get _ hlt).trans (by rw [if_neg (by omega)]; rfl))
          have f0 : wr.frozen? ⟨w.heap.size, k, none⟩ = false := K0.out.frozen k
          have e3 : wr.cell? ⟨g3, k, none⟩ = some (.int .u32 ((sk k).toNat : Int)) := (K3.out.cell k).trans (cells32_get _ hlt)
          have bs1 := u32_add' (st k) (sk k)
          have hnext : cells32 8 (fun j => if j = k then st k + sk k else if j < k then st j + sk j else st j) = cells32 8 (fun j => if j < k + 1 then st j + sk j else st j) := by
            congr 1
            funext j
            by_cases h1 : j = k
            · subst h1; rw [if_pos rfl, if_pos (by omega)]
            · rw [if_neg h1]
              by_cases h2 : j < k
              · rw [if_pos h2, if_pos (by omega)]
              · rw [if_neg h2, if_neg (by omega)]
          have HN := Lib.hid hnext
          clear hnext
          go_upto_region 16 with (fail)
          refine wp_region_seq (fun w' => w'.cell? ⟨w.heap.size, k, none⟩ = some (.int .u32 ((st k).toNat : Int)) ∧ w'.frozen? ⟨w.heap.size, k, none⟩ = false ∧ w'.cell? ⟨g3, k, none⟩ = some (.int .u32 ((sk k).toNat : Int))) 8
            [(0, true), (1, true), (2, true), (3, true), (4, true), (5, true), (6, true), (7, true)]
            (by kernel_rfl) rfl (by kernel_rfl) (by kernel_rfl) (by kernel_rfl) (fun _ _ d _ _ h => by cases d <;> exact h) ⟨e0, f0, e3⟩ ?_
          iterate 8
            refine seqL_read (v := ?_) rfl rfl ?_ ?_
            rotate_left 1
            · intro w hS
              go_simp
              with_reducible rfl
            simp only [Act.put, List.getElem_toArray, List.getElem_cons_zero, List.getElem_cons_succ, List.setIfInBounds_toArray, List.set_cons_zero, List.set_cons_succ]
          refine seqL_last rfl fun K hK => ?_
          go_simp
          refine hK _ _ ?_
          clear hK K
          go_wp2_with fail
          go_roundw
          case rel =>
            refine ⟨k + 1, by omega, by go_num, (HB.out.setCell (by simp) _).drew, ?_, (K1.out.far (by simp) _).drew, (K3.out.far (show g3 ≠ w.heap.size by omega) _).drew⟩
            rw [← HN.out, ← cells32_set]
            exact (K0.out.set_ k _).drew
          case measure => simp [intOf]; omega
        · have hk8 : k = 8 := by omega
          have hfin : cells32 8 (fun j => if j < k then st j + sk j else st j) = cells32 8 (mixF st bs) := by
            rw [HM.out, hk8]
            refine congrArg List.toArray (List.map_congr_left fun j hj => ?_)
            rw [List.mem_range] at hj
            show wrd (if j < 8 then st j + sk j else st j) = wrd (st j + sk j)
            rw [if_pos hj]
          rw [hfin] at K0
          clear hk8 hfin
          go_upto_region 18 with (fail)
          refine wp_region_list ?_
          refine wpList_load_row rfl _ _ rfl w.heap.size rfl _ (cells32 8 (mixF st bs)) (0, 0) _ K0.out Tryd.underlying57 rfl (by rw [cells32_size]; kernel_rfl) ?_
          refine wpList_store_row rfl _ _ _ rfl (w.heap.size + 1) (cells32 8 (mixF st bs)) rfl rfl _ (cells32 8 fun _ => 0) K1.out (by rw [cells32_size]; kernel_rfl) (by rw [cells32_size, cells32_size]) (cells32_one _ _) ?_
          refine wpList_nil ?_
          have hb9 : Below w.heap.size w (wr.setRow (w.heap.size + 1) (cells32 8 (mixF st bs))) := below_setRow HB.out (by omega) _
          have k9 : Blk (wr.setRow (w.heap.size + 1) (cells32 8 (mixF st bs))) (w.heap.size + 1) 57 (cells32 8 (mixF st bs)) := setRow_heap _ _ _ _ _ _ K1.out
          obtain ⟨w9, hw9⟩ : ∃ w9, wr.setRow (w.heap.size + 1) (cells32 8 (mixF st bs)) = w9 := ⟨_, rfl⟩
          rw [hw9] at hb9 k9 ⊢
          clear hw9
          have HB9 := Lib.hid hb9
          have K9 := Lib.hid k9
          clear hb9 k9
          simp only [Act.put]
          go_wp2_with fail
          refine bodyPost_ret (results_cell_row rfl _ _ (w.heap.size + 1) _ _ _ _ rfl K9.out Tryd.underlying57 rfl (by rw [cells32_size]; kernel_rfl)) rfl ?_
          exact ⟨rfl, HB9.out⟩
end Go.Proofs.YtofdjlngohhlmaaDoor
