/- Smp2 Acc4 Acc5 Open -/
import Derived.Test.YtjlhbfbdcfajfaaGreatDoorG29
import Derived.Test.YtjlhbfbdcfajfaaGreatDoorG30
import Derived.Test.YtjlhbfbdcfajfaaGreatDoorG24
import Derived.Test.YtjlhbfbdcfajfaaGreatDoorG01
import Derived.ProofKit
import Derived.Deep.Slices
import Derived.Deep.Fields
import Derived.ChangeSame
/- account: electionlaw10.Sample walked. -/
namespace Go.Proofs.YtjlhbfbdcfajfaaGreatDoor
open Go.RowKit

theorem below_allocs {n : Nat} : ∀ (os : List Obj) (w : World), n ≤ w.heap.size → Below n w (os.foldl World.alloc w)
  | [], w, _ => Below.refl _ _
  | o :: os, w, h => ((Below.refl _ _).alloc h _).trans (below_allocs os (w.alloc o) (by simp; omega))
/-- a block of a row of new ones -/
theorem blk_allocs : ∀ (os : List Obj) (w : World) (i : Nat) {t : TypeId} {cs : Array Value}, os[i]? = some (.cells cs t) → Blk (os.foldl World.alloc w) (w.heap.size + i) t cs
  | [], _, _, _, _, h => by simp at h
  | o :: os, w, 0, t, cs, h => by
    obtain rfl : o = .cells cs t := by simpa using h
    exact (Blk.new w t cs).keep (below_allocs os _ (Nat.le_refl _))
  | o :: os, w, i + 1, t, cs, h => by
    have := blk_allocs os (w.alloc o) i (by simpa using h)
    have e : (w.alloc o).heap.size + i = w.heap.size + (i + 1) := by simp; omega
    rwa [e] at this
/-- the objects of the sample -/
def smpObjs (g : Nat) (T0 T1 T2 T3 T4 T5 T6 T7 T8 : TypeId) : List Obj :=
  [.cells #[.string ⟨#[]⟩, .int .i64 2, .int .i64 20, .int .i64 50, .slice (some ⟨g + 1, 0, none⟩) 2 2, .slice (some ⟨g + 3, 0, none⟩) 1 1, .slice (some ⟨g + 6, 0, none⟩) 1 1, .int .i64 1, .int .i64 4, .bool false, .slice (some ⟨g + 7, 0, none⟩) 1 1, .slice (some ⟨g + 8, 0, none⟩) 1 1, .int .i64 2, .string ⟨#[]⟩] T0,
   .cells #[.string ⟨#[97]⟩, .string ⟨#[98]⟩] T1, .cells #[.string ⟨#[120]⟩, .string ⟨#[121]⟩, .string ⟨#[122]⟩] T2,
   .cells #[.string ⟨#[109]⟩, .slice (some ⟨g + 2, 0, none⟩) 3 3, .int .i64 1, .int .i64 1, .int .i64 3, .int .i64 0, .int .i64 3, .int .i64 1, .int .i64 1] T3,
   .cells #[.int .i64 0, .int .i64 1] T4, .cells #[.int .i64 0] T5, .cells #[.string ⟨#[115]⟩, .slice (some ⟨g + 4, 0, none⟩) 2 2, .slice (some ⟨g + 5, 0, none⟩) 1 1] T6, .cells #[.int .u32 1] T7, .cells #[.int .u32 20] T8]
theorem smp_rep {w W : World} {T0 T1 T2 T3 T4 T5 T6 T7 T8 : TypeId} (hW : (smpObjs w.heap.size T0 T1 T2 T3 T4 T5 T6 T7 T8).foldl World.alloc w = W) :
    Rep.rep W (Fresh w W) [.string ⟨#[]⟩, .int .i64 2, .int .i64 20, .int .i64 50, .slice (some ⟨w.heap.size + 1, 0, none⟩) 2 2, .slice (some ⟨w.heap.size + 3, 0, none⟩) 1 1, .slice (some ⟨w.heap.size + 6, 0, none⟩) 1 1, .int .i64 1, .int .i64 4, .bool false, .slice (some ⟨w.heap.size + 7, 0, none⟩) 1 1, .slice (some ⟨w.heap.size + 8, 0, none⟩) 1 1, .int .i64 2, .string ⟨#[]⟩] sampleE := by
  have hb : ∀ (i : Nat) {t : TypeId} {cs : Array Value}, (smpObjs w.heap.size T0 T1 T2 T3 T4 T5 T6 T7 T8)[i]? = some (.cells cs t) → Blk W (w.heap.size + i) t cs := fun i t cs h => hW ▸ blk_allocs _ w i h
  have hf : ∀ {g : Nat} {t : TypeId} {cs : Array Value}, w.heap.size ≤ g → Blk W g t cs → Fresh w W g := fun h hk => ⟨h, hk.lt⟩
  have b1 := hb 1 rfl
  have b2 := hb 2 rfl
  have b3 := hb 3 rfl
  have b4 := hb 4 rfl
  have b5 := hb 5 rfl
  have b6 := hb 6 rfl
  have b7 := hb 7 rfl
  have b8 := hb 8 rfl
  have m : ∀ k : Nat, k ≤ 3 → k ≤ maxLen := fun k h => by unfold maxLen; omega
  have r1 : RS W (Fresh w W) (some ⟨w.heap.size + 1, 0, none⟩) 2 2 [(⟨#[97]⟩ : ByteArray), ⟨#[98]⟩] := RS.of_blk b1 (Flat.cons (ds := [_]) rfl (Flat.cons (ds := [_]) rfl Flat.nil)) rfl (Nat.le_refl _) (m 2 (by omega)) (hf (by omega) b1)
  have r2 : RS W (Fresh w W) (some ⟨w.heap.size + 2, 0, none⟩) 3 3 [(⟨#[120]⟩ : ByteArray), ⟨#[121]⟩, ⟨#[122]⟩] := RS.of_blk b2 (Flat.cons (ds := [_]) rfl (Flat.cons (ds := [_]) rfl (Flat.cons (ds := [_]) rfl Flat.nil))) rfl (Nat.le_refl _) (m 3 (by omega)) (hf (by omega) b2)
  have r4 : RS W (Fresh w W) (some ⟨w.heap.size + 4, 0, none⟩) 2 2 [(0 : Int), 1] := RS.of_blk b4 (Flat.cons (ds := [_]) rfl (Flat.cons (ds := [_]) rfl Flat.nil)) rfl (Nat.le_refl _) (m 2 (by omega)) (hf (by omega) b4)
  have r5 : RS W (Fresh w W) (some ⟨w.heap.size + 5, 0, none⟩) 1 1 [(0 : Int)] := RS.of_blk b5 (Flat.cons (ds := [_]) rfl Flat.nil) rfl (Nat.le_refl _) (m 1 (by omega)) (hf (by omega) b5)
  have r7 : RS W (Fresh w W) (some ⟨w.heap.size + 7, 0, none⟩) 1 1 [1#32] := RS.of_blk b7 (Flat.cons (ds := [_]) rfl Flat.nil) rfl (Nat.le_refl _) (m 1 (by omega)) (hf (by omega) b7)
  have r8 : RS W (Fresh w W) (some ⟨w.heap.size + 8, 0, none⟩) 1 1 [20#32] := RS.of_blk b8 (Flat.cons (ds := [_]) rfl Flat.nil) rfl (Nat.le_refl _) (m 1 (by omega)) (hf (by omega) b8)
  have r3 : RS W (Fresh w W) (some ⟨w.heap.size + 3, 0, none⟩) 1 1 sampleE.cont := RS.of_blk b3 (Flat.cons (ds := [_, _, _, _, _, _, _, _, _]) ⟨_, _, _, rfl, r2⟩ Flat.nil) rfl (Nat.le_refl _) (m 1 (by omega)) (hf (by omega) b3)
  have r6 : RS W (Fresh w W) (some ⟨w.heap.size + 6, 0, none⟩) 1 1 sampleE.styl := RS.of_blk b6 (Flat.cons (ds := [_, _, _]) ⟨_, _, _, _, _, _, rfl, r4, r5⟩ Flat.nil) rfl (Nat.le_refl _) (m 1 (by omega)) (hf (by omega) b6)
  exact ⟨_, _, _, _, _, _, _, _, _, _, _, _, _, _, _, rfl, r1, r3, r6, r7, r8⟩

set_option maxRecDepth 20000 in
set_option maxHeartbeats 8000000 in
theorem sample_ok {w : World} : Calls Tryz.prog 27 #[] w (RetSV w sampleE) := by
  go_enter Tryz.func27, Tryz.ntmps27
  go_wp2_with fail
  refine bodyPost_ret (results_cell_row rfl _ _ w.heap.size _ _ (0, 0) _ rfl (blk_allocs (smpObjs w.heap.size _ _ _ _ _ _ _ _ _) w 0 rfl) Tryz.underlying30 rfl (by kernel_rfl)) rfl ?_
  exact ⟨_, rfl, ⟨_, rfl, smp_rep rfl⟩, below_allocs (smpObjs w.heap.size _ _ _ _ _ _ _ _ _) w (Nat.le_refl _)⟩
end Go.Proofs.YtjlhbfbdcfajfaaGreatDoor
/- account: electionlaw20.Awake. PRINTED by wip/gen/acc4.py -/
namespace Go.Proofs.YtjlhbfbdcfajfaaGreatDoor
open Go.RowKit

def wakeA : List AccountD := [⟨0, 10, 1, 8⟩, ⟨1, 0, 0, 0⟩]
def zeroR : RecD := ⟨0, .slice none 0 0, false⟩
def wakeG : List GapD := [⟨0, 8, 7, 1, 0, true⟩, ⟨1, 0, 0, 0, 0, false⟩]
theorem wake_recon : reconP sampleE wakeA (List.replicate 7 zeroR) = (wakeG, 0) := by kernel_rfl
theorem wake_phant : phantP wakeG = 1 := by kernel_rfl
theorem sample_elecOk : ElecOk sampleE where
  dots := ⟨by decide, by decide⟩
  blank := ⟨by decide, by decide⟩
  marked := ⟨by decide, by decide⟩
  scan := ⟨by decide, by decide⟩
  batch := ⟨by decide, by decide⟩
  cell := ⟨by decide, by decide⟩
  conts := by intro x hx; obtain rfl := List.mem_singleton.1 hx; unfold ContOk I64; simp
  styls := by intro x hx; obtain rfl := List.mem_singleton.1 hx; simp
  lc := by simp [sampleE]
  ls := by simp [sampleE]
  lp := by simp [sampleE]
  short := by simp [sampleE, Raw.short]
theorem sample_sane : ElecSane sampleE where
  title := sane_small (by simp [sampleE, ByteArray.size])
  seed := sane_small (by simp [sampleE, ByteArray.size])
  prec := by intro s hs; simp only [sampleE, List.mem_cons, List.not_mem_nil, or_false] at hs; rcases hs with rfl | rfl <;> exact sane_small (by simp [ByteArray.size])
  cont := by
    intro x hx
    obtain rfl := List.mem_singleton.1 hx
    refine ⟨sane_small (by simp [ByteArray.size]), fun s hs => ?_⟩
    simp only [List.mem_cons, List.not_mem_nil, or_false] at hs
    rcases hs with rfl | rfl | rfl <;> exact sane_small (by simp [ByteArray.size])
  styl := by intro x hx; obtain rfl := List.mem_singleton.1 hx; exact sane_small (by simp [ByteArray.size])
  len := by simp [sampleE]
theorem Tryz.recInfo : ∃ i, Tryz.prog.info? 42 = some i ∧ i.zero = some (.agg #[.int .i64 0, .slice none 0 0, .bool false]) ∧ i.size = 3 ∧ i.bytes = 40 := info_parts (by kernel_rfl)
theorem own7 {w : World} {base : Nat} {v : Value} (h : w.ownsRow base 42 3 v 7 (madeCells (Value.agg #[.int .i64 0, .slice none 0 0, .bool false]).cells (7 * 3)).toList) : Own w NoBlk base 42 v (List.replicate 7 zeroR) := by
  have e : (madeCells (Value.agg #[.int .i64 0, .slice none 0 0, .bool false]).cells (7 * 3)).toList = [.int .i64 0, .slice none 0 0, .bool false, .int .i64 0, .slice none 0 0, .bool false, .int .i64 0, .slice none 0 0, .bool false, .int .i64 0, .slice none 0 0, .bool false, .int .i64 0, .slice none 0 0, .bool false, .int .i64 0, .slice none 0 0, .bool false, .int .i64 0, .slice none 0 0, .bool false] := by kernel_rfl
  rw [e] at h
  have r : ∀ {ds : List Value} {xs : List RecD}, Flat w NoBlk ds xs → Flat w NoBlk ([.int .i64 0, .slice none 0 0, .bool false] ++ ds) (zeroR :: xs) := fun h => Flat.cons ⟨none, 0, 0, rfl, rfl⟩ h
  exact ⟨_, h, r (r (r (r (r (r (r .nil)))))), fun b hb => hb.elim⟩
def ΦRec (W : World) (k : Nat) (x : List GapD × Int) (v : Value) (col : Nat → Nat) (w : World) : Prop := ∃ A n c, v = .tuple #[.slice A n c, .int .i64 x.2] ∧ RS w (RD W k col w) A n c x.1
theorem ΦRec.mono {W w1 w2 : World} {k : Nat} {c1 c2 : Nat → Nat} {v : Value} {x : List GapD × Int} (h : ΦRec W k x v c1 w1) (hb : Below w1.heap.size w1 w2) (hc : ∀ b, b < w1.heap.size → c2 b = c1 b) : ΦRec W k x v c2 w2 := by
  obtain ⟨A, n, c, e, h⟩ := h
  exact ⟨A, n, c, e, h.keep (RD.mono hb.size hc) ((Keeps.of_below hb).sub fun b hb => hb.2.1)⟩
theorem ΦRec.of_ret {W w w' : World} {k i : Nat} {col : Nat → Nat} {x : List GapD × Int} {e : Ending} (h : RetRec w x e w') (hW : W.heap.size ≤ w.heap.size) (hi : i ≠ k) : ∃ v, e = .returned v ∧ Below w.heap.size w w' ∧ ΦRec W k x v (colr col w i) w' := by
  obtain ⟨A, n, c, rfl, hs, hb⟩ := h
  exact ⟨_, rfl, hb, A, n, c, rfl, hs.sub fun b hb => ⟨Nat.le_trans hW hb.1, hb.2, by rw [colr_new hb.1]; exact hi⟩⟩

set_option maxRecDepth 20000 in
set_option maxHeartbeats 8000000 in
theorem awake20_ok {B : Nat} {w : World} (htab : Tab B w) (hB : B ≤ w.heap.size) : Calls Tryz.prog 10 #[] w (RetV w (.bool true)) := by
  obtain ⟨i0, hi0, hi1, hi2, hi3⟩ := Tryz.recInfo
  have HI0 := Lib.hid hi0
  have HI1 := Lib.hid hi1
  have HI2 := Lib.hid hi2
  have HI3 := Lib.hid hi3
  have HTAB := Lib.hid htab
  have HWB := Lib.hid hB
  clear hi0 hi1 hi2 hi3 htab hB
  go_enter Tryz.func10, Tryz.ntmps10
  go_upto_region 1 with (fail)
  go_wp2_with fail
  refine sample_ok.mono ?_
  rintro en w1 ⟨v, rfl, ⟨cs, rfl, AP, AnP, AcP, AC, AnC, AcC, AS, AnS, AcS, AN, AnN, AcN, AD, AnD, AcD, rfl, hrP, hrC, hrS, hrN, hrD⟩, hb⟩
  have hfs : ∀ b, Fresh w w1 b → b < w1.heap.size := fun b h => h.2
  have hb1 : Below w1.heap.size w1 (w1.alloc (.cells #[.string sampleE.title, .int .i64 sampleE.dots, .int .i64 sampleE.blank, .int .i64 sampleE.marked, .slice AP AnP AcP, .slice AC AnC AcC, .slice AS AnS AcS, .int .i64 sampleE.scan, .int .i64 sampleE.batch, .bool sampleE.risk.neg, .slice AN AnN AcN, .slice AD AnD AcD, .int .i64 sampleE.cell, .string sampleE.seed] 30)) := (Below.refl _ _).alloc (Nat.le_refl _) _
  have hk1 : Blk (w1.alloc (.cells #[.string sampleE.title, .int .i64 sampleE.dots, .int .i64 sampleE.blank, .int .i64 sampleE.marked, .slice AP AnP AcP, .slice AC AnC AcC, .slice AS AnS AcS, .int .i64 sampleE.scan, .int .i64 sampleE.batch, .bool sampleE.risk.neg, .slice AN AnN AcN, .slice AD AnD AcD, .int .i64 sampleE.cell, .string sampleE.seed] 30)) w1.heap.size 30 #[.string sampleE.title, .int .i64 sampleE.dots, .int .i64 sampleE.blank, .int .i64 sampleE.marked, .slice AP AnP AcP, .slice AC AnC AcC, .slice AS AnS AcS, .int .i64 sampleE.scan, .int .i64 sampleE.batch, .bool sampleE.risk.neg, .slice AN AnN AcN, .slice AD AnD AcD, .int .i64 sampleE.cell, .string sampleE.seed] := Blk.new _ _ _
  obtain ⟨W0, hW0⟩ : ∃ q, w1.alloc (.cells #[.string sampleE.title, .int .i64 sampleE.dots, .int .i64 sampleE.blank, .int .i64 sampleE.marked, .slice AP AnP AcP, .slice AC AnC AcC, .slice AS AnS AcS, .int .i64 sampleE.scan, .int .i64 sampleE.batch, .bool sampleE.risk.neg, .slice AN AnN AcN, .slice AD AnD AcD, .int .i64 sampleE.cell, .string sampleE.seed] 30) = q := ⟨_, rfl⟩
  rw [hW0] at hb1 hk1
  have HB1 := Lib.hid (hb.trans (hb1.mono hb.size))
  have HRP := Lib.hid (hrP.below hb1 hfs)
  have HRC := Lib.hid (hrC.below hb1 hfs)
  have HRS := Lib.hid (hrS.below hb1 hfs)
  have HRN := Lib.hid (hrN.below hb1 hfs)
  have HRD := Lib.hid (hrD.below hb1 hfs)
  have HW1 := Lib.hid hW0
  have HFS : Hid (∀ b, Fresh w w1 b → b < W0.heap.size) := Lib.hid fun b h => Nat.lt_of_lt_of_le h.2 hb1.size
  obtain ⟨gE, hgE⟩ : ∃ q, w1.heap.size = q := ⟨_, rfl⟩
  rw [hgE] at hk1
  have HBE := Lib.hid hk1
  have HGE := Lib.hid hgE
  clear hb1 hk1 hrP hrC hrS hrN hrD hfs hb hgE hW0
  unfold elecCells
  go_upto_region 2 with (fail)
  rw [HW1.out, HGE.out]
  refine wp_region_grow 10 0 (fun i => match i with
    | 0 => ΦV (.agg #[.string sampleE.title, .int .i64 sampleE.dots, .int .i64 sampleE.blank, .int .i64 sampleE.marked, .slice AP AnP AcP, .slice AC AnC AcC, .slice AS AnS AcS, .int .i64 sampleE.scan, .int .i64 sampleE.batch, .bool sampleE.risk.neg, .slice AN AnN AcN, .slice AD AnD AcD, .int .i64 sampleE.cell, .string sampleE.seed])
    | 1 => ΦV (.agg #[.int .i64 0, .int .i64 10, .int .i64 1, .int .i64 8])
    | 2 => ΦV (.agg #[.int .i64 1, .int .i64 0, .int .i64 0, .int .i64 0])
    | 3 => @ΦL AccountD _ W0 99 (wakeA)
    | 4 => @ΦL RecD _ W0 99 (List.replicate 7 zeroR)
    | 5 => ΦRec W0 99 (wakeG, 0)
    | 6 => ΦRec W0 99 (wakeG, 0)
    | 7 => ΦL W0 99 wakeG
    | 8 => ΦV (.int .i64 0)
    | 9 => ΦL W0 99 wakeG
    | _ => fun _ _ _ => False) (by kernel_rfl) (by kernel_rfl) (by kernel_rfl) (by kernel_rfl) ?_ ?_ ?_
  · intro i v c1 w1 c2 w2 h hb hc
    match i with
    | 0 => exact h
    | 1 => exact h
    | 2 => exact h
    | 3 => exact ΦL.mono h hb hc
    | 4 => exact ΦL.mono h hb hc
    | 5 => exact ΦRec.mono h hb hc
    | 6 => exact ΦRec.mono h hb hc
    | 7 => exact ΦL.mono h hb hc
    | 8 => exact h
    | 9 => exact ΦL.mono h hb hc
    | _ + 10 => exact h
  · intro Q0 i hi a1 col wc hout hbc hcol hdep
    have hWc := hbc.size
    match i, hi with
    | 0, _ =>
      have e1 : a1.tmps[1]? = some (.pointer (some ⟨gE, 0, none⟩)) := (hout.2 1 (by kernel_rfl)).trans rfl
      clear hdep
      have ld0 : wc.cell? ⟨gE, 0, none⟩ = some (.string sampleE.title) := (HBE.out.keep hbc).cell 0
      have ld1 : wc.cell? ⟨gE, 1, none⟩ = some (.int .i64 sampleE.dots) := (HBE.out.keep hbc).cell 1
      have ld2 : wc.cell? ⟨gE, 2, none⟩ = some (.int .i64 sampleE.blank) := (HBE.out.keep hbc).cell 2
      have ld3 : wc.cell? ⟨gE, 3, none⟩ = some (.int .i64 sampleE.marked) := (HBE.out.keep hbc).cell 3
      have ld4 : wc.cell? ⟨gE, 4, none⟩ = some (.slice AP AnP AcP) := (HBE.out.keep hbc).cell 4
      have ld5 : wc.cell? ⟨gE, 5, none⟩ = some (.slice AC AnC AcC) := (HBE.out.keep hbc).cell 5
      have ld6 : wc.cell? ⟨gE, 6, none⟩ = some (.slice AS AnS AcS) := (HBE.out.keep hbc).cell 6
      have ld7 : wc.cell? ⟨gE, 7, none⟩ = some (.int .i64 sampleE.scan) := (HBE.out.keep hbc).cell 7
      have ld8 : wc.cell? ⟨gE, 8, none⟩ = some (.int .i64 sampleE.batch) := (HBE.out.keep hbc).cell 8
      have ld9 : wc.cell? ⟨gE, 9, none⟩ = some (.bool sampleE.risk.neg) := (HBE.out.keep hbc).cell 9
      have ld10 : wc.cell? ⟨gE, 10, none⟩ = some (.slice AN AnN AcN) := (HBE.out.keep hbc).cell 10
      have ld11 : wc.cell? ⟨gE, 11, none⟩ = some (.slice AD AnD AcD) := (HBE.out.keep hbc).cell 11
      have ld12 : wc.cell? ⟨gE, 12, none⟩ = some (.int .i64 sampleE.cell) := (HBE.out.keep hbc).cell 12
      have ld13 : wc.cell? ⟨gE, 13, none⟩ = some (.string sampleE.seed) := (HBE.out.keep hbc).cell 13
      refine gives_runs rfl rfl (.agg #[.string sampleE.title, .int .i64 sampleE.dots, .int .i64 sampleE.blank, .int .i64 sampleE.marked, .slice AP AnP AcP, .slice AC AnC AcC, .slice AS AnS AcS, .int .i64 sampleE.scan, .int .i64 sampleE.batch, .bool sampleE.risk.neg, .slice AN AnN AcN, .slice AD AnD AcD, .int .i64 sampleE.cell, .string sampleE.seed]) ?_ (Below.refl _ _) rfl
      go_simp
    | 1, _ =>
      clear hdep
      refine gives_runs rfl rfl (.agg #[.int .i64 0, .int .i64 10, .int .i64 1, .int .i64 8]) ?_ (Below.refl _ _) rfl
      go_simp
    | 2, _ =>
      clear hdep
      refine gives_runs rfl rfl (.agg #[.int .i64 1, .int .i64 0, .int .i64 0, .int .i64 0]) ?_ (Below.refl _ _) rfl
      go_simp
    | 3, _ =>
      obtain ⟨v7, ev, pv7⟩ := hdep 1 (by kernel_rfl)
      have e7 := ev 7 rfl
      clear ev
      obtain rfl : v7 = _ := pv7
      obtain ⟨v8, ev, pv8⟩ := hdep 2 (by kernel_rfl)
      have e8 := ev 8 rfl
      clear ev
      obtain rfl : v8 = _ := pv8
      clear hdep
      have hf : Flat wc (RD W0 99 col wc) [.int .i64 0, .int .i64 10, .int .i64 1, .int .i64 8, .int .i64 1, .int .i64 0, .int .i64 0, .int .i64 0] (wakeA) := Flat.cons (ds := [_, _, _, _]) rfl (Flat.cons (ds := [_, _, _, _]) rfl Flat.nil)
      refine gives_runs rfl rfl (.slice (some ⟨wc.heap.size, 0, none⟩) 2 2) (w' := wc.alloc (.cells #[.int .i64 0, .int .i64 10, .int .i64 1, .int .i64 8, .int .i64 1, .int .i64 0, .int .i64 0, .int .i64 0] 73)) ?_ (below_alloc _ _) (ΦL.built (cs := [.int .i64 0, .int .i64 10, .int .i64 1, .int .i64 8, .int .i64 1, .int .i64 0, .int .i64 0, .int .i64 0]) (t := 73) hf rfl (by decide) hWc (by decide))
      go_simp
      try rfl
    | 4, _ =>
      clear hdep
      obtain ⟨w2, hrun, r1, r2⟩ := run_make_full (P := Tryz.prog) wc wc.heap.size 35 42 i0 (.agg #[.int .i64 0, .slice none 0 0, .bool false]) 3 Tryz.underlying35 HI0.out HI1.out HI2.out .i64 .i64 7 (by rw [HI3.out]; omega) (by unfold maxLen; omega) (Nat.le_refl _)
      have hb2 := (Below.refl wc.heap.size wc).grown r2 (Nat.le_refl _) (fun k hk => by cases hk)
      refine gives_runs rfl rfl _ (by have h7 : a1.eval (.const (.int .i64 7)) = .int .i64 7 := rfl; have hr := hrun; simp at hr; simp [execOp, h7, hr, Result.andThen]) hb2 ⟨_, _, _, rfl, (own7 r1).rs (fun _ h => h.elim) fun g h1 h2 => ⟨Nat.le_trans hWc h1, h2, by rw [colr_new h1]; decide⟩⟩
    | 5, _ =>
      obtain ⟨v6, ev, pv6⟩ := hdep 0 (by kernel_rfl)
      have e6 := ev 6 rfl
      clear ev
      obtain rfl : v6 = _ := pv6
      obtain ⟨v9, ev, pv9⟩ := hdep 3 (by kernel_rfl)
      have e9 := ev 9 rfl
      clear ev
      obtain ⟨A9, n9, c9, rfl, h9⟩ := pv9
      obtain ⟨v10, ev, pv10⟩ := hdep 4 (by kernel_rfl)
      have e10 := ev 10 rfl
      clear ev
      obtain ⟨A10, n10, c10, rfl, h10⟩ := pv10
      clear hdep
      refine gives_calls rfl rfl 14 #[.agg #[.string sampleE.title, .int .i64 sampleE.dots, .int .i64 sampleE.blank, .int .i64 sampleE.marked, .slice AP AnP AcP, .slice AC AnC AcC, .slice AS AnS AcS, .int .i64 sampleE.scan, .int .i64 sampleE.batch, .bool sampleE.risk.neg, .slice AN AnN AcN, .slice AD AnD AcD, .int .i64 sampleE.cell, .string sampleE.seed], .slice A9 n9 c9, .slice A10 n10 c10] ?_ (recon_ok (S := Fresh w w1) (HTAB.out.up HWB.out (HB1.out.trans (hbc.mono HB1.out.size))) (Nat.le_trans HWB.out (Nat.le_trans HB1.out.size hWc)) (e := sampleE) ⟨_, rfl, AP, AnP, AcP, AC, AnC, AcC, AS, AnS, AcS, AN, AnN, AcN, AD, AnD, AcD, rfl, HRP.out.below hbc HFS.out, HRC.out.below hbc HFS.out, HRS.out.below hbc HFS.out, HRN.out.below hbc HFS.out, HRD.out.below hbc HFS.out⟩ (fun b hb => Nat.lt_of_lt_of_le (HFS.out b hb) hWc) sample_elecOk sample_sane h9 (fun b hb => hb.2.1) h10 (fun b hb => hb.2.1)) (fun e w2 hr => ΦRec.of_ret (by rw [wake_recon] at hr; exact hr) hWc (by decide))
      go_simp
      try rfl
    | 6, _ =>
      obtain ⟨v11, ev, pv11⟩ := hdep 5 (by kernel_rfl)
      have e11 := ev 11 rfl
      clear ev
      obtain ⟨A11, n11, c11, rfl, h11⟩ := pv11
      clear hdep
      refine gives_runs rfl rfl (.tuple #[.slice A11 n11 c11, .int .i64 0]) ?_ (Below.refl _ _) (ΦRec.mono (c1 := col) (w1 := wc) ⟨_, _, _, rfl, h11⟩ (Below.refl _ _) fun b hb => colr_old hb)
      go_simp
    | 7, _ =>
      obtain ⟨v5, ev, pv5⟩ := hdep 6 (by kernel_rfl)
      have e5 := ev 5 rfl
      clear ev
      obtain ⟨A5, n5, c5, rfl, h5⟩ := pv5
      clear hdep
      refine gives_runs rfl rfl (.slice A5 n5 c5) ?_ (Below.refl _ _) (ΦL.mono (c1 := col) (w1 := wc) ⟨_, _, _, rfl, h5⟩ (Below.refl _ _) fun b hb => colr_old hb)
      go_simp
    | 8, _ =>
      obtain ⟨v5, ev, pv5⟩ := hdep 6 (by kernel_rfl)
      have e5 := ev 5 rfl
      clear ev
      obtain ⟨A5, n5, c5, rfl, h5⟩ := pv5
      clear hdep
      refine gives_runs rfl rfl (.int .i64 0) ?_ (Below.refl _ _) rfl
      go_simp
    | 9, _ =>
      obtain ⟨v12, ev, pv12⟩ := hdep 7 (by kernel_rfl)
      have e12 := ev 12 rfl
      clear ev
      obtain ⟨A12, n12, c12, rfl, h12⟩ := pv12
      clear hdep
      refine gives_runs rfl rfl (.slice A12 n12 c12) ?_ (Below.refl _ _) (ΦL.mono (c1 := col) (w1 := wc) ⟨_, _, _, rfl, h12⟩ (Below.refl _ _) fun b hb => colr_old hb)
      go_simp
  intro vs0 col wc hl0 hbc hΦ
  obtain ⟨v0, vs1, rfl, hl1⟩ := uncons hl0
  clear hl0
  obtain ⟨v1, vs2, rfl, hl2⟩ := uncons hl1
  clear hl1
  obtain ⟨v2, vs3, rfl, hl3⟩ := uncons hl2
  clear hl2
  obtain ⟨v3, vs4, rfl, hl4⟩ := uncons hl3
  clear hl3
  obtain ⟨v4, vs5, rfl, hl5⟩ := uncons hl4
  clear hl4
  obtain ⟨v5, vs6, rfl, hl6⟩ := uncons hl5
  clear hl5
  obtain ⟨v6, vs7, rfl, hl7⟩ := uncons hl6
  clear hl6
  obtain ⟨v7, vs8, rfl, hl8⟩ := uncons hl7
  clear hl7
  obtain ⟨v8, vs9, rfl, hl9⟩ := uncons hl8
  clear hl8
  obtain ⟨v9, vs10, rfl, hl10⟩ := uncons hl9
  clear hl9
  obtain rfl := List.length_eq_zero_iff.1 hl10
  clear hl10
  have p0 := hΦ 0 _ rfl
  obtain rfl : v0 = _ := p0
  have p1 := hΦ 1 _ rfl
  obtain rfl : v1 = _ := p1
  have p2 := hΦ 2 _ rfl
  obtain rfl : v2 = _ := p2
  have p3 := hΦ 3 _ rfl
  obtain ⟨A3, n3, c3, rfl, h3⟩ := p3
  have p4 := hΦ 4 _ rfl
  obtain ⟨A4, n4, c4, rfl, h4⟩ := p4
  have p5 := hΦ 5 _ rfl
  obtain ⟨A5, n5, c5, rfl, h5⟩ := p5
  have p6 := hΦ 6 _ rfl
  obtain ⟨A6, n6, c6, rfl, h6⟩ := p6
  have p7 := hΦ 7 _ rfl
  obtain ⟨A7, n7, c7, rfl, h7⟩ := p7
  have p8 := hΦ 8 _ rfl
  obtain rfl : v8 = _ := p8
  have p9 := hΦ 9 _ rfl
  obtain ⟨A9, n9, c9, rfl, h9⟩ := p9
  clear hΦ
  simp only [List.take_succ_cons, List.take_zero, putL, tailW, Act.put, List.setIfInBounds_toArray, List.set_cons_zero, List.set_cons_succ]
  have HG := Lib.hid h9
  have HBC := Lib.hid hbc
  have hl2 : n9 = 2 := h9.len.symm
  subst hl2
  obtain ⟨b, o, x, cs, rfl, hSb, hx, hrx, hld⟩ := h9.load_at (fun b h => h.2.1) (k := 0) (by omega)
  have hla := hld wc (Below.refl _ _)
  have hxx : (⟨0, 8, 7, 1, 0, true⟩ : GapD) = x := by injection hx
  subst hxx
  obtain rfl : cs = [.int .i64 0, .int .i64 8, .int .i64 7, .int .i64 1, .int .i64 0, .bool true] := hrx
  have r0 : wc.cell? ⟨b, o, none⟩ = some (.int .i64 0) := by have := hla.1 _ rfl; simpa using this
  have r1 : wc.cell? ⟨b, o + 1, none⟩ = some (.int .i64 8) := by have := hla.2 1 _ rfl; simpa using this
  have r2 : wc.cell? ⟨b, o + 2, none⟩ = some (.int .i64 7) := by have := hla.2 2 _ rfl; simpa using this
  have r3 : wc.cell? ⟨b, o + 3, none⟩ = some (.int .i64 1) := by have := hla.2 3 _ rfl; simpa using this
  have r4 : wc.cell? ⟨b, o + 4, none⟩ = some (.int .i64 0) := by have := hla.2 4 _ rfl; simpa using this
  have r5 : wc.cell? ⟨b, o + 5, none⟩ = some (.bool true) := by have := hla.2 5 _ rfl; simpa using this
  have hcc : 2 ≤ c9 := h9.cap.1
  clear hla hld hx hSb h3 h4 h5 h6 h7 h9 hbc
  refine wpOp_runs (w' := wc) rfl rfl (.int .i64 0) ?_ ?_
  · go_simp
  simp only [Act.put, List.getElem_toArray, List.getElem_cons_zero, List.getElem_cons_succ, List.setIfInBounds_toArray, List.set_cons_zero, List.set_cons_succ]
  go_wp2_with fail
  refine (phant_ok HG.out (fun b h => h.2.1)).mono ?_
  rintro en w3 ⟨rfl, hb3⟩
  have HB3 := Lib.hid hb3
  clear hb3
  rw [wake_phant]
  go_wp2_with fail
  go_ret
  exact ⟨rfl, below_more HB1.out (below_more HBC.out HB3.out)⟩
end Go.Proofs.YtjlhbfbdcfajfaaGreatDoor
/- account: the law AccountMany walked. -/
namespace Go.Proofs.YtjlhbfbdcfajfaaGreatDoor
open Go.RowKit

set_option maxRecDepth 20000 in
set_option maxHeartbeats 8000000 in
theorem lawAccountMany_any {B : Nat} {w : World} (htab : Tab B w) (hB : B ≤ w.heap.size) {S : Nat → Prop} {A : Option Addr} {n c : Nat} {xs : List GapD} (h : RS w S A n c xs) (hS : ∀ b, S b → b < w.heap.size) : Calls Tryz.prog 6 #[.slice A n c] w (RetV w (.bool true)) := by
  have hm1 := h.max
  obtain ⟨m, hm, hm0⟩ : ∃ m : Nat, min (n : Int) 20 = (m : Int) ∧ m = min n 20 := ⟨min n 20, by omega, rfl⟩
  have hc := h.cap
  have hmn : m ≤ n := by omega
  have hmc : m ≤ c := by omega
  have HT := Lib.hid (h.take hmn)
  have HTAB := Lib.hid htab
  have HWB := Lib.hid hB
  obtain ⟨z, hz⟩ : ∃ z, phantP (xs.take m) = z := ⟨_, rfl⟩
  have hzz := hz.symm
  have HZ := Lib.hid hzz
  have HL1 := Lib.hid (h.take hmn).len
  clear h htab hB hm0
  go_enter Tryz.func6, Tryz.ntmps6
  go_wp2_with fail
  refine (phant_ok HT.out hS).mono ?_
  rintro en w2 ⟨rfl, hb2⟩
  rw [hz]
  have HB2 := Lib.hid hb2
  clear hb2 hz hzz
  go_wp2_with fail
  go_loopw [4, 16] (fun nv iv wr => ∃ (k : Nat) (q : Int), iv = .int .i64 k ∧ k ≤ m ∧ nv = .int .i64 q ∧ 0 ≤ q ∧ q ≤ 400 ∧ z = ((xs.take m).drop k).foldl phStep q ∧ Below w.heap.size w wr) (fun _ iv _ => m - (intOf iv).toNat)
  case atStart => exact ⟨0, 0, rfl, Nat.zero_le _, rfl, by omega, by omega, HZ.out, HB2.out⟩
  case round =>
    clear HZ HB2
    obtain ⟨k, q, rfl, hk, rfl, hm0, hm4, hzk, hb⟩ := hrel
    have HZK := Lib.hid hzk
    have HB := Lib.hid hb
    have HR := Lib.hid (HT.out.below hb hS)
    clear hzk hb
    by_cases hlt : k < m
    · have hlt2 : (k : Int) < (m : Int) := by omega
      obtain ⟨b, o, x, cs, rfl, hSb, hx, hr, hld⟩ := HR.out.load_at (fun b h => Nat.lt_of_lt_of_le (hS b h) HB.out.size) hlt
      have hkc : (k : Int) ≤ (c : Int) := by have := HR.out.cap; omega
      have hz1 : z = ((xs.take m).drop (k + 1)).foldl phStep (phStep q x) := by rw [HZK.out, drop_cons' hx]; rfl
      have hrg := phStep_range x ⟨hm0, hm4⟩
      have hcs : cs = [.int .i64 x.prec, .int .i64 x.papers, .int .i64 x.recs, .int .i64 x.missing, .int .i64 x.extra, .bool x.unbal] := hr
      subst hcs
      have hla := hld wr (Below.refl _ _)
      have r0 : wr.cell? ⟨b, o + k * 6, none⟩ = some (.int .i64 x.prec) := hla.1 _ rfl
      have r1 : wr.cell? ⟨b, o + k * 6 + 1, none⟩ = some (.int .i64 x.papers) := hla.2 1 _ rfl
      have r2 : wr.cell? ⟨b, o + k * 6 + 2, none⟩ = some (.int .i64 x.recs) := hla.2 2 _ rfl
      have r3 : wr.cell? ⟨b, o + k * 6 + 3, none⟩ = some (.int .i64 x.missing) := hla.2 3 _ rfl
      have r4 : wr.cell? ⟨b, o + k * 6 + 4, none⟩ = some (.int .i64 x.extra) := hla.2 4 _ rfl
      have r5 : wr.cell? ⟨b, o + k * 6 + 5, none⟩ = some (.bool x.unbal) := hla.2 5 _ rfl
      have hb1 : Below wr.heap.size wr (wr.alloc (.cells #[.int .i64 x.prec, .int .i64 x.papers, .int .i64 x.recs, .int .i64 x.missing, .int .i64 x.extra, .bool x.unbal] 45)) := (Below.refl _ _).alloc (Nat.le_refl _) _
      have hk1 : Blk (wr.alloc (.cells #[.int .i64 x.prec, .int .i64 x.papers, .int .i64 x.recs, .int .i64 x.missing, .int .i64 x.extra, .bool x.unbal] 45)) wr.heap.size 45 #[.int .i64 x.prec, .int .i64 x.papers, .int .i64 x.recs, .int .i64 x.missing, .int .i64 x.extra, .bool x.unbal] := Blk.new _ _ _
      obtain ⟨w1, hw1⟩ : ∃ q, wr.alloc (.cells #[.int .i64 x.prec, .int .i64 x.papers, .int .i64 x.recs, .int .i64 x.missing, .int .i64 x.extra, .bool x.unbal] 45) = q := ⟨_, rfl⟩
      rw [hw1] at hb1 hk1
      have p3 : w1.cell? ⟨wr.heap.size, 3, none⟩ = some (.int .i64 x.missing) := hk1.cell 3
      obtain ⟨y, hy⟩ : ∃ y, min x.missing 400 = y := ⟨_, rfl⟩
      obtain ⟨u, hu⟩ : ∃ u, max 0 y = u := ⟨_, rfl⟩
      obtain ⟨s, hs⟩ : ∃ s, phStep q x = s := ⟨_, rfl⟩
      have hs2 : min 400 (q + u) = s := by rw [← hs, ← hu, ← hy]; unfold phStep; omega
      have hwr : IntKind.i64.wrap (q + u) = q + u := by rw [IntKind.wrap_i64] <;> omega
      rw [hs] at hz1 hrg
      have HZ1 := Lib.hid hz1
      have HB1 := Lib.hid (below_more HB.out hb1)
      have HW1 := Lib.hid hw1
      obtain ⟨hs0, hs4⟩ := hrg
      clear hla hld hx hr hz1 hb1 hk1 hw1 hs
      go_upto_region 7 with (fail)
      rw [HW1.out]
      clear r0 r1 r2 r3 r4 r5
      go_wp2_with fail
      refine ⟨⟨k + 1, s, by go_num, by omega, by first | rfl | rw [hs2], hs0, hs4, HZ1.out, HB1.out⟩, ?_⟩
      simp [intOf]
      omega
    · have hkn : k = m := by omega
      have hzf : z = q := by
        rw [HZK.out, List.drop_eq_nil_of_le (by rw [HL1.out]; omega)]
        rfl
      subst hzf
      clear hkn
      go_wp2_with fail
      refine (awake20_ok (HTAB.out.up HWB.out HB.out) (Nat.le_trans HWB.out HB.out.size)).mono ?_
      rintro en w3 ⟨rfl, hb3⟩
      have HB3 := Lib.hid (below_more HB.out hb3)
      clear hb3
      go_wp2_with fail
      go_ret
      exact ⟨rfl, HB3.out⟩
end Go.Proofs.YtjlhbfbdcfajfaaGreatDoor
/- What comes in: an argument that reads as data of a Go type reads as Lean data. -/
namespace Go.Proofs.YtjlhbfbdcfajfaaGreatDoor
open Go.RowKit Go.ChangeShapes Go.WideShapes Go.Deep

/-- numbers that fit, lengths that fit -/
class Fits (α : Type) where
  fits : α → Prop
instance : Fits Int := ⟨fun x => -9223372036854775808 ≤ x ∧ x ≤ 9223372036854775807⟩
instance : Fits Bool := ⟨fun _ => True⟩
instance : Fits UInt8 := ⟨fun _ => True⟩
instance : Fits ByteArray := ⟨fun s => s.size ≤ 9223372036854775807⟩
instance {α : Type} [Fits α] : Fits (List α) := ⟨fun l => l.length ≤ 9223372036854775807 ∧ ∀ x ∈ l, Fits.fits x⟩

/-- cells of type t that read as data read as an α -/
def Opens (P : Program) (t : TypeId) (α : Type) [Rep α] [Fits α] : Prop :=
  ∀ (H : Type) (enc : TypeId × Value → H) (w : World) (base : Nat) (spare : Nat → Bool) (held : Bool) (fuel : Nat) (cs : List Value) (x : DataW H × List MemPlace),
    DataW.trod enc P w base spare held fuel t cs = some x → ∃ a : α, Rep.rep w (fun b => b < w.heap.size) cs a ∧ Fits.fits a

theorem opens_int {P : Program} {t : TypeId} (ht : P.underlying t = some (.int .i64)) : Opens P t Int := by
  intro H enc w base spare held fuel cs x h
  obtain ⟨n, rfl, _, hw⟩ := DataW.trod_int ht h
  have hw' : -9223372036854775808 ≤ n ∧ n ≤ 9223372036854775807 := by simpa [Lit.wf, IntKind.min, IntKind.max, IntKind.signed, IntKind.bits] using hw
  exact ⟨n, rfl, hw'⟩
theorem opens_bool {P : Program} {t : TypeId} (ht : P.underlying t = some .bool) : Opens P t Bool := by
  intro H enc w base spare held fuel cs x h
  obtain ⟨n, rfl, _⟩ := DataW.trod_bool ht h
  exact ⟨n, rfl, trivial⟩
theorem opens_string {P : Program} {t : TypeId} (ht : P.underlying t = some .string) : Opens P t ByteArray := by
  intro H enc w base spare held fuel cs x h
  obtain ⟨s, rfl, _, hs⟩ := DataW.trod_string ht h
  exact ⟨s, rfl, by unfold maxLen at hs; exact hs⟩
theorem opens_byte {P : Program} {t : TypeId} (ht : P.underlying t = some (.int .u8)) : Opens P t UInt8 := by
  intro H enc w base spare held fuel cs x h
  obtain ⟨n, rfl, _, hw⟩ := DataW.trod_int ht h
  have hb : 0 ≤ n ∧ n ≤ 255 := by simpa [Lit.wf, IntKind.min, IntKind.max, IntKind.signed, IntKind.bits] using hw
  refine ⟨UInt8.ofNat n.toNat, ?_, trivial⟩
  show [Value.int .u8 n] = [Value.int .u8 ((UInt8.ofNat n.toNat).toNat : Int)]
  rw [UInt8.toNat_ofNat']
  congr 2
  omega

/-- a list of data, one for each place -/
theorem exists_list {α : Type} (n : Nat) (p : Nat → α → Prop) (h : ∀ i, i < n → ∃ a, p i a) : ∃ l : List α, l.length = n ∧ ∀ i a, l[i]? = some a → p i a := by
  induction n with
  | zero => exact ⟨[], rfl, fun i a hi => by simp at hi⟩
  | succ n ih =>
    obtain ⟨l, hl, hp⟩ := ih (fun i hi => h i (by omega))
    obtain ⟨a, ha⟩ := h n (by omega)
    refine ⟨l ++ [a], by simp [hl], fun i b hi => ?_⟩
    rw [List.getElem?_append] at hi
    split at hi
    · exact hp i b hi
    · have : i = n := by
        rcases Nat.lt_or_ge (i - l.length) 1 with h | h
        · omega
        · rw [List.getElem?_eq_none (by simpa using h)] at hi; cases hi
      subst this
      rw [hl, Nat.sub_self] at hi
      simp at hi
      subst hi
      exact ha

theorem opens_slice {P : Program} {t e : TypeId} {α : Type} [Rep α] [Fits α] (ht : P.underlying t = some (.slice e)) (hsz : P.cellsOf e = Rep.sz α) (hp : 0 < Rep.sz α) (he : Opens P e α) : Opens P t (List α) := by
  intro H enc w base spare held fuel cs x h
  rcases open_slice ht h with ⟨rfl, _⟩ | ⟨a, len, cap, m, n, D, Pl, rfl, _, hl, hm, hmm, _, hi⟩
  · exact ⟨[], ⟨none, 0, 0, rfl, RS.nil _ _⟩, Nat.zero_le _, fun x hx => by simp at hx⟩
  · have hlm : len ≤ m := by rw [hmm]; split <;> omega
    obtain ⟨l, hlen, hl2⟩ := exists_list (α := α) len (fun i x => ∃ cs, Rep.rep w (fun b => b < w.heap.size) cs x ∧ CellsAt w (a.add (i * Rep.sz α)) cs ∧ Fits.fits x) (fun i hil => by
      obtain ⟨cs', hc, ht'⟩ := hi i (by omega)
      obtain ⟨x, hx, hf⟩ := he H enc w base spare held n cs' _ ht'
      rw [hsz] at hc
      obtain ⟨_, hcl, hat⟩ := World.cells?_some hc
      refine ⟨x, cs', hx, fun j u hj => ?_, hf⟩
      have hjl : j < Rep.sz α := by
        have := lt_of_get hj
        omega
      rw [hat j hjl]
      exact hj)
    refine ⟨l, ⟨some a, len, cap, rfl, hlen.symm, hl, hm, fun hn => ?_⟩, by unfold maxLen at hm; omega, fun x hx => ?_⟩
    · obtain ⟨x0, hx0⟩ : ∃ x0, l[0]? = some x0 := ⟨l[0]'(by omega), List.getElem?_eq_getElem (by omega)⟩
      obtain ⟨cs0, hr0, hc0, _⟩ := hl2 0 x0 hx0
      have hlen0 := Rep.len hr0
      obtain ⟨u, hu⟩ : ∃ u, cs0[0]? = some u := ⟨cs0[0]'(by omega), List.getElem?_eq_getElem (by omega)⟩
      have hcell := hc0 0 u hu
      have hcell' : w.cell? a = some u := by simpa [Addr.add] using hcell
      have hs := spot_none hcell'
      have hb := World.block_lt_of_cell? w _ hcell'
      obtain ⟨b, o, s⟩ := a
      simp at hs
      subst hs
      exact ⟨b, o, rfl, hb, fun i x hx => by obtain ⟨cs, h1, h2, _⟩ := hl2 i x hx; exact ⟨cs, h1, h2⟩⟩
    · obtain ⟨i, hil, rfl⟩ := List.getElem_of_mem hx
      obtain ⟨cs, _, _, hf⟩ := hl2 i _ (List.getElem?_eq_getElem hil)
      exact hf

/-- a struct whose fields take one cell each: field by field -/
theorem trod_fields {P : Program} {t : TypeId} {fs : Array Field} {H : Type} {enc : TypeId × Value → H} {w : World} {base : Nat} {spare : Nat → Bool} {held : Bool} {fuel : Nat} {cs : List Value} {x : DataW H × List MemPlace}
    (ht : P.underlying t = some (.struct fs)) (hone : oneCellFields P fs = true) (h : DataW.trod enc P w base spare held fuel t cs = some x) :
    cs.length = P.cellsOf t ∧ ∀ (j : Nat) (f : Field) (v : Value), fs[j]? = some f → cs[j]? = some v → ∃ n y, DataW.trod enc P w base spare held n f.type [v] = some y := by
  obtain ⟨xs, n, _, _, hlen, hxl, hf⟩ := DataW.trod_struct ht h
  refine ⟨hlen, fun j f v hj hv => ?_⟩
  obtain ⟨ho, hk⟩ := hone_of hone j f hj
  have h1 := hf j f hj
  rw [ho, hk] at h1
  have hjl := lt_of_get hv
  have e : (cs.drop j).take 1 = [v] := by
    rw [drop_cons hv]; rfl
  rw [e] at h1
  have hjf : j < xs.length := by rw [hxl]; exact (Array.getElem?_eq_some_iff.1 hj).1
  rw [List.getElem?_eq_getElem hjf] at h1
  exact ⟨n, _, h1⟩
end Go.Proofs.YtjlhbfbdcfajfaaGreatDoor
