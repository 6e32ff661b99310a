/- Sto4 Sto5 -/
import Derived.Test.YtjlhbfbdcfajfaaGreatDoorG18
/- schema: builder.store, the branch of the style. PRINTED by wip/gen/sto4.py -/
namespace Go.Proofs.YtjlhbfbdcfajfaaGreatDoor
open Go.RowKit Go.Maps Go.WideMaps

theorem Tryz.stylTy : SliceTy Tryz.prog 24 97 3 64 := SliceTy.mk' (z := .agg #[.string ⟨#[]⟩, .slice none 0 0, .slice none 0 0]) Tryz.underlying24 (by kernel_rfl) rfl (by omega)
theorem Tryz.valsTy : SliceTy Tryz.prog 133 168 7 96 := SliceTy.mk' (z := .agg #[.map none, .map none, .map none, .bool false, .slice none 0 0, .slice none 0 0, .string ⟨#[]⟩]) Tryz.underlying133 (by kernel_rfl) rfl (by omega)
theorem sl1 {α : Type} [Rep α] {w : World} {S : Nat → Prop} {v : Value} {xs : List α} (h : SlIs w S v xs) : v.oneCell' = true := by
  obtain ⟨A, n, c, rfl, _⟩ := h
  rfl
theorem vals_one {m1 m2 m3 : Option Nat} {r : Bool} {a b : Value} {s : ByteArray} (ha : a.oneCell' = true) (hb : b.oneCell' = true) : ∀ u ∈ [Value.map m1, Value.map m2, Value.map m3, .bool r, a, b, .string s], u.oneCell' = true := by
  intro u hu
  simp only [List.mem_cons, List.not_mem_nil, or_false] at hu
  rcases hu with rfl | rfl | rfl | rfl | rfl | rfl | rfl <;> first | rfl | exact ha | exact hb
/-- what the regions read -/
structure StyS (bb g4 g5 : Nat) (vS vV : Value) (nm : ByteArray) (cs : Array Value) (w : World) : Prop where
  c6 : w.cell? ⟨bb, 6, none⟩ = some vS
  c15 : w.cell? ⟨bb, 15, none⟩ = some vV
  c4 : w.cell? ⟨g4, 1, none⟩ = some (.string nm)
  c5 : Blk w g5 168 cs
/-- behind an append to a row of the builder's and the store of the row -/
theorem own_behind {w w0 w2 : World} {B bb i : Nat} {τ : Nat → Tag} {t : Tag} {e ty : TypeId} {α : Type} [Rep α] {v v2 : Value} {xs ys : List α} {o : Obj} (ho : Own w0 NoBlk B e v xs) (ht : ∀ g, v.ownBlock = some g → τ g = t) (hbb : τ bb = .bb) (hne : t ≠ .bb) (hlt : bb < w0.heap.size) (h0 : w0.heap.size ≤ w.heap.size)
    (hat : v2.ownBlock = v.ownBlock ∨ v2.ownBlock = some (w.heap.size + 1)) (hg : (w.alloc o).grownBy w2 v.ownBlock) (h2 : Own w2 NoBlk B e v2 ys) (hE0 : Below w0.heap.size w0 (w.alloc o)) (u : Value) (_ : ty = ty) :
    Kept w0 (w2.setCell ⟨bb, i, none⟩ u) τ (Two t .bb) ∧ Ext w0 τ (setTag τ w0.heap.size t) ∧ Own (w2.setCell ⟨bb, i, none⟩ u) NoBlk B e v2 ys ∧ (∀ g, v2.ownBlock = some g → setTag τ w0.heap.size t g = t) ∧ (some bb ≠ v.ownBlock) := by
  have hE : Ext w0 τ (setTag τ w0.heap.size t) := Ext.set _ _ _
  have hnb : some bb ≠ v.ownBlock := fun h => by
    have := ht bb h.symm
    rw [hbb] at this
    exact hne this.symm
  have hk : Kept (w.alloc o) w2 (setTag τ w0.heap.size t) (Two t .bb) := Kept.of_grown hg fun g h _ => .inl ((hE g (ho.lt g h).2).trans (ht g h))
  refine ⟨((Kept.of_below hE0).trans hE hk).trans hE (Kept.of_set (T := Two t .bb) (τ := setTag τ w0.heap.size t) w2 (p := ⟨bb, i, none⟩) (.inr ((hE bb hlt).trans hbb)) u), hE, ?_, fun g hg => ?_, hnb⟩
  · refine h2.setCell (p := ⟨bb, i, none⟩) (fun e => ?_) (fun b hb => hb.elim) _
    rcases hat with h | h
    · rw [h] at e; exact hnb e.symm
    · rw [h] at e
      injection e with e
      have h1 : w.heap.size + 1 = bb := e
      omega
  · rcases hat with h | h
    · rw [h] at hg
      exact (hE g (ho.lt g hg).2).trans (ht g hg)
    · rw [h] at hg
      injection hg with hg
      exact setTag_ge _ _ (by omega)

set_option maxRecDepth 20000 in
set_option maxHeartbeats 2000000 in
theorem store_style {w : World} {B bb mn N : Nat} {τ : Nat → Tag} {f : ByteArray → Option Value} {vP vC vS vN vD vV : Value} {rC : List (RawN 9)} {rS : List (RawN 3)} {rV : List (RawN 7)} {s : BldD} (h : BldIn w B bb mn N τ f vP vC vS vN vD vV rC rS rV s) (hl : s.vals.length = s.e.styl.length)
    (nm : ByteArray) (AF : Option Addr) (nF cF : Nat) (line : Int) {cs : List Value} {v : Vals} (hv : ValD w B τ cs v) (hN : N < 1099511627776) :
    Calls Tryz.prog 97 #[.pointer (some ⟨bb, 0, none⟩), .agg #[.string kStyle, .string nm, .slice AF nF cF, .int .i64 line], .agg cs.toArray] w (RetSto w B bb (N + 1) τ (storeP kStyle nm v s)) := by
  have hvd0 := hv
  obtain ⟨m1, m2, m3, M, fl, vNv, vDv, rfl, d1, d2, d3, hn, hli, hls, hln, hvn, hvd⟩ := hv
  have hbx : Below w.heap.size w ((w.alloc (.cells #[.string kStyle, .string nm, .slice AF nF cF, .int .i64 line] 110)).alloc (.cells #[.map (some m1), .map (some m2), .map (some m3), .bool v.risk.neg, vNv, vDv, .string v.seed] 168)) := ((Below.refl _ _).alloc (Nat.le_refl _) _).alloc (by simp) _
  have hk4 : Blk ((w.alloc (.cells #[.string kStyle, .string nm, .slice AF nF cF, .int .i64 line] 110)).alloc (.cells #[.map (some m1), .map (some m2), .map (some m3), .bool v.risk.neg, vNv, vDv, .string v.seed] 168)) w.heap.size 110 #[.string kStyle, .string nm, .slice AF nF cF, .int .i64 line] := (Blk.new _ _ _).alloc _
  have hk5 : Blk ((w.alloc (.cells #[.string kStyle, .string nm, .slice AF nF cF, .int .i64 line] 110)).alloc (.cells #[.map (some m1), .map (some m2), .map (some m3), .bool v.risk.neg, vNv, vDv, .string v.seed] 168)) (w.heap.size + 1) 168 #[.map (some m1), .map (some m2), .map (some m3), .bool v.risk.neg, vNv, vDv, .string v.seed] := Blk.new' (by simp) _ _
  have hsz1 : ((w.alloc (.cells #[.string kStyle, .string nm, .slice AF nF cF, .int .i64 line] 110)).alloc (.cells #[.map (some m1), .map (some m2), .map (some m3), .bool v.risk.neg, vNv, vDv, .string v.seed] 168)).heap.size = w.heap.size + 2 := by simp
  obtain ⟨w1, hw1⟩ : ∃ x, (w.alloc (.cells #[.string kStyle, .string nm, .slice AF nF cF, .int .i64 line] 110)).alloc (.cells #[.map (some m1), .map (some m2), .map (some m3), .bool v.risk.neg, vNv, vDv, .string v.seed] 168) = x := ⟨_, rfl⟩
  rw [hw1] at hbx hk4 hk5 hsz1
  have hlt : bb < w.heap.size := h.blk.lt
  have hBw : B ≤ w.heap.size := Nat.le_of_lt (Nat.lt_of_le_of_lt h.hb hlt)
  have hBb : B ≤ bb := h.hb
  have hkb : Blk w1 bb 135 (bbCells s mn vP vC vS vN vD vV) := h.blk.keep hbx
  have e0 : w1.cell? ⟨w.heap.size, 0, none⟩ = some (.string ⟨#[115, 116, 121, 108, 101]⟩) := hk4.cell 0
  have e1 : w1.cell? ⟨w.heap.size, 1, none⟩ = some (.string nm) := hk4.cell 1
  have v0 : w1.cell? ⟨w.heap.size + 1, 0, none⟩ = some (.map (some m1)) := hk5.cell 0
  have v1 : w1.cell? ⟨w.heap.size + 1, 1, none⟩ = some (.map (some m2)) := hk5.cell 1
  have z6 : w1.cell? ⟨bb, 6, none⟩ = some (vS) := hkb.cell 6
  have y6 : w1.frozen? ⟨bb, 6, none⟩ = false := hkb.frozen 6
  have z15 : w1.cell? ⟨bb, 15, none⟩ = some (vV) := hkb.cell 15
  have y15 : w1.frozen? ⟨bb, 15, none⟩ = false := hkb.frozen 15
  have HN := Lib.hid (hn.keep hbx)
  have HLI := Lib.hid (hli.keep hbx)
  have HLS := Lib.hid hls
  have HVD := Lib.hid hvd0
  have HW1 := Lib.hid hw1
  have HKB := Lib.hid hkb
  have HK4 := Lib.hid hk4
  have HK5 := Lib.hid hk5
  have HBX := Lib.hid hbx
  have HH := Lib.hid h
  have HL := Lib.hid hl
  have HVNv := Lib.hid hvn
  have HVDv := Lib.hid hvd
  have HSZ1 := Lib.hid hsz1
  have hbb1 : bb ≠ w.heap.size := by omega
  have hbb2 : bb ≠ w.heap.size + 1 := by omega
  clear hn hw1 hkb hbx h hl hk4 hk5 d1 d2 d3 hli hls hln hvn hvd hvd0 hsz1 
  show Calls _ _ #[.pointer (some ⟨bb, 0, none⟩), .agg #[.string ⟨#[115, 116, 121, 108, 101]⟩, .string nm, .slice AF nF cF, .int .i64 line], .agg #[.map (some m1), .map (some m2), .map (some m3), .bool v.risk.neg, vNv, vDv, .string v.seed]] w _
  unfold kStyle at HW1
  go_enter Tryz.func97, Tryz.ntmps97
  go_upto_region 1 with (fail)
  rw [HW1.out]
  go_wp2_with fail
  have HOWN := Lib.hid (HH.out.oS.below HBX.out)
  have HLC := Lib.hid (show rS.length < 1099511627776 from Nat.lt_of_le_of_lt (by rw [HH.out.dS.1]; exact HH.out.lS) hN)
  refine wp_region_seqT (StyS bb w.heap.size (w.heap.size + 1) vS vV nm #[.map (some m1), .map (some m2), .map (some m3), .bool v.risk.neg, vNv, vDv, .string v.seed]) 14 [(0, true), (1, true), (2, true), (3, true), (4, true), (5, true), (6, true), (7, true), (8, true), (9, false), (10, false), (11, true), (12, true), (13, true)]
    (by kernel_rfl) rfl (by kernel_rfl) (by kernel_rfl) (by kernel_rfl) (fun _ _ d _ _ h => by cases d <;> exact h) ⟨z6, z15, e1, HK5.out.drew⟩ ?_
  iterate 9
    refine seqL_read (v := ?_) rfl rfl ?_ ?_
    rotate_left 1
    · intro w hS
      have c6 := hS.c6
      have c15 := hS.c15
      have c4 := hS.c4
      have v0' := hS.c5.cell 0
      have v1' := hS.c5.cell 1
      have v2' := hS.c5.cell 2
      have v3' := hS.c5.cell 3
      have v4' := hS.c5.cell 4
      have v5' := hS.c5.cell 5
      have v6' := hS.c5.cell 6
      simp only [List.getElem?_toArray, List.getElem?_cons_zero, List.getElem?_cons_succ] at v0' v1' v2' v3' v4' v5' v6'
      clear hS
      go_simp
      with_reducible rfl
    simp only [Act.put, List.getElem_toArray, List.getElem_cons_zero, List.getElem_cons_succ, List.setIfInBounds_toArray, List.set_cons_zero, List.set_cons_succ]

  refine seqL_do rfl fun K hK => ?_
  go_simp
  refine hK _ _ ⟨by go_keep, by go_keep, by go_keep, HK5.out.alloc _⟩ ?_
  clear hK K
  try simp only [Act.put, List.getElem_toArray, List.getElem_cons_zero, List.getElem_cons_succ, List.setIfInBounds_toArray, List.set_cons_zero, List.set_cons_succ]
  refine seqL_do rfl fun K hK => ?_
  refine step_append_gen (α := RawN 3) (w0 := w) (B := B) (base := B) (wr := w1) (by rfl) _ _ 24 (by rfl) 64 Tryz.stylTy (by rfl) HOWN.out (HBX.out.mono hBw) (Nat.le_refl _) (Nat.le_trans hBw HBX.out.size) [.string nm, .slice none 0 0, .slice none 0 0] ⟨[.string nm, .slice none 0 0, .slice none 0 0], rfl⟩ 1 (by rfl) rfl 97 (by simp [Value.oneCell']) (by have := HLC.out; omega) ?_
  intro v9 w2 hown2 hbel2 hgrow hat
  obtain ⟨A9, n9, c9, rfl, hn9⟩ := hown2.slice
  clear hn9
  obtain ⟨hk3, hE, ho3, ht3, hnb⟩ := own_behind (i := 6) (ty := 0) HH.out.oS HH.out.tS HH.out.tb (by simp) hlt HBX.out.size hat hgrow hown2 (HBX.out.alloc HBX.out.size _) (.slice A9 n9 c9) rfl
  have hkb2 : Blk w2 bb 135 (bbCells s mn vP vC vS vN vD vV) := (HKB.out.alloc _).grown hgrow hnb
  have hk42 := ((HK4.out.alloc (.cells #[.string nm, .slice none 0 0, .slice none 0 0] 97)).grown hgrow (fun h => by have := (HH.out.oS.lt _ h.symm).2; omega))
  have hk52 := ((HK5.out.alloc (.cells #[.string nm, .slice none 0 0, .slice none 0 0] 97)).grown hgrow (fun h => by have := (HH.out.oS.lt _ h.symm).2; omega))
  have g6 : w2.cell? ⟨bb, 6, none⟩ = some vS := hkb2.cell 6
  have f6 : w2.frozen? ⟨bb, 6, none⟩ = false := hkb2.frozen 6
  refine hK _ _ ⟨g6, hkb2.cell 15, hk42.cell 1, hk52⟩ ?_
  clear hK K
  have h3 := HH.out.addS (y := (⟨nm, [], []⟩ : StyleD)) hk3 hE (hkb2.set_ 6 _) ho3 ht3 ⟨rfl, rfl, rfl⟩
  have hk53 := hk52.far (p := ⟨bb, 6, none⟩) (by exact Ne.symm hbb2) (.slice A9 n9 c9)
  have hk43 := hk42.far (p := ⟨bb, 6, none⟩) (by exact Ne.symm hbb1) (.slice A9 n9 c9)
  have hb3 := hbel2.setCell (p := ⟨bb, 6, none⟩) hBb (.slice A9 n9 c9)
  have hs3 : w1.heap.size ≤ w2.heap.size := by have := hgrow.size; simp at this; omega
  have hcc : Kept w (w2.setCell ⟨bb, 6, none⟩ (.slice A9 n9 c9)) τ (fun t => t ≠ .data ∧ t ≠ .tmp) := hk3.weak fun t h => by rcases h with h | h <;> rw [h] <;> simp
  obtain ⟨w3, hw3⟩ : ∃ x, w2.setCell ⟨bb, 6, none⟩ (.slice A9 n9 c9) = x := ⟨_, rfl⟩
  have hsz3 : w2.heap.size = w3.heap.size := by rw [← hw3]; simp
  rw [hw3] at h3 hk53 hk43 hb3 hk3 hcc
  have HW3 := Lib.hid hw3
  have H3 := Lib.hid h3
  have HK53 := Lib.hid hk53
  have HK43 := Lib.hid hk43
  have HB3 := Lib.hid hb3
  have HCC := Lib.hid hcc
  have HE := Lib.hid hE
  have HS3 := Lib.hid (show w1.heap.size ≤ w3.heap.size by omega)
  clear hown2 hbel2 hgrow hat hkb2 hk42 hk52 h3 hk53 hk43 hb3 hk3 hcc hE ho3 ht3 hnb hw3 hs3 hsz3
  try simp only [Act.put, List.getElem_toArray, List.getElem_cons_zero, List.getElem_cons_succ, List.setIfInBounds_toArray, List.set_cons_zero, List.set_cons_succ]
  iterate 3
    refine seqL_read (v := ?_) rfl rfl ?_ ?_
    rotate_left 1
    · intro w hS
      have c6 := hS.c6
      have c15 := hS.c15
      have c4 := hS.c4
      have v0' := hS.c5.cell 0
      have v1' := hS.c5.cell 1
      have v2' := hS.c5.cell 2
      have v3' := hS.c5.cell 3
      have v4' := hS.c5.cell 4
      have v5' := hS.c5.cell 5
      have v6' := hS.c5.cell 6
      simp only [List.getElem?_toArray, List.getElem?_cons_zero, List.getElem?_cons_succ] at v0' v1' v2' v3' v4' v5' v6'
      clear hS
      go_simp
      with_reducible rfl
    simp only [Act.put, List.getElem_toArray, List.getElem_cons_zero, List.getElem_cons_succ, List.setIfInBounds_toArray, List.set_cons_zero, List.set_cons_succ]
  refine seqL_last_go rfl rfl fun K hK => ?_
  go_simp
  rw [HW3.out]
  refine hK _ _ ?_
  clear hK K
  clear g6 f6 z6 z15 y6 y15 e0 e1 v0 v1
  obtain ⟨τ1, hτ1⟩ : ∃ x, setTag τ w.heap.size .ss = x := ⟨_, rfl⟩
  have h3 := H3.out
  have hE := HE.out
  rw [hτ1] at h3 hE
  have H31 := Lib.hid h3
  have HE1 := Lib.hid hE
  have HT4 : Hid (τ1 w.heap.size ≠ .vs) := Lib.hid (by rw [← hτ1, setTag_ge _ _ (Nat.le_refl _)]; simp)
  have HT5 : Hid (τ1 (w.heap.size + 1) ≠ .vs) := Lib.hid (by rw [← hτ1, setTag_ge _ _ (Nat.le_succ _)]; simp)
  clear h3 hE H3 HE hτ1
  have hlt3 : bb < w3.heap.size := H31.out.blk.lt
  have z15 : w3.cell? ⟨bb, 15, none⟩ = some vV := H31.out.blk.cell 15
  have y15 : w3.frozen? ⟨bb, 15, none⟩ = false := H31.out.blk.frozen 15
  have z6 : w3.cell? ⟨bb, 6, none⟩ = some (.slice A9 n9 c9) := H31.out.blk.cell 6
  have HOWN3 := Lib.hid H31.out.oV
  have hlw : w.heap.size + 1 < w3.heap.size := HK53.out.lt
  have HLC3 := Lib.hid (show rV.length < 1099511627776 from by rw [HH.out.dV.1]; exact Nat.lt_of_le_of_lt HH.out.lV hN)
  go_wp2_with fail
  refine wp_region_seqT (StyS bb w.heap.size (w.heap.size + 1) (.slice A9 n9 c9) vV nm #[.map (some m1), .map (some m2), .map (some m3), .bool v.risk.neg, vNv, vDv, .string v.seed]) 10 [(0, true), (1, true), (2, true), (3, true), (4, true), (5, true), (6, false), (7, false), (8, true), (9, true)]
    (by kernel_rfl) rfl (by kernel_rfl) (by kernel_rfl) (by kernel_rfl) (fun _ _ d _ _ h => by cases d <;> exact h) ⟨z6, z15, HK43.out.cell 1, HK53.out.drew⟩ ?_
  iterate 6
    refine seqL_read (v := ?_) rfl rfl ?_ ?_
    rotate_left 1
    · intro w hS
      have c6 := hS.c6
      have c15 := hS.c15
      have c4 := hS.c4
      have v0' := hS.c5.cell 0
      have v1' := hS.c5.cell 1
      have v2' := hS.c5.cell 2
      have v3' := hS.c5.cell 3
      have v4' := hS.c5.cell 4
      have v5' := hS.c5.cell 5
      have v6' := hS.c5.cell 6
      simp only [List.getElem?_toArray, List.getElem?_cons_zero, List.getElem?_cons_succ] at v0' v1' v2' v3' v4' v5' v6'
      clear hS
      go_simp
      with_reducible rfl
    simp only [Act.put, List.getElem_toArray, List.getElem_cons_zero, List.getElem_cons_succ, List.setIfInBounds_toArray, List.set_cons_zero, List.set_cons_succ]

  refine seqL_do rfl fun K hK => ?_
  go_simp
  refine hK _ _ ⟨by go_keep, by go_keep, (HK43.out.alloc _).cell 1, HK53.out.alloc _⟩ ?_
  clear hK K
  try simp only [Act.put, List.getElem_toArray, List.getElem_cons_zero, List.getElem_cons_succ, List.setIfInBounds_toArray, List.set_cons_zero, List.set_cons_succ]
  refine seqL_do rfl fun K hK => ?_
  refine step_append_gen (α := RawN 7) (w0 := w) (B := B) (base := B) (wr := w3) (by rfl) _ _ 133 (by rfl) 96 Tryz.valsTy (by rfl) HOWN3.out HB3.out (Nat.le_refl _) (Nat.le_trans hBw (Nat.le_of_lt (Nat.lt_of_lt_of_le (Nat.lt_succ_self _) (Nat.le_of_lt hlw)))) [.map (some m1), .map (some m2), .map (some m3), .bool v.risk.neg, vNv, vDv, .string v.seed] ⟨[.map (some m1), .map (some m2), .map (some m3), .bool v.risk.neg, vNv, vDv, .string v.seed], rfl⟩ 1 (by rfl) rfl 168 (vals_one (sl1 HVNv.out) (sl1 HVDv.out)) (by have := HLC3.out; omega) ?_
  intro v9 w4 hown4 hbel4 hgrow hat
  obtain ⟨A8, n8, c8, rfl, hn8⟩ := hown4.slice
  clear hn8
  obtain ⟨hk5, hE5, ho5, ht5, hnb⟩ := own_behind (i := 15) (ty := 0) H31.out.oV H31.out.tV H31.out.tb (by simp) hlt3 (Nat.le_refl _) hat hgrow hown4 ((Below.refl _ _).alloc (Nat.le_refl _) _) (.slice A8 n8 c8) rfl
  have hkb4 := (H31.out.blk.alloc (.cells #[.map (some m1), .map (some m2), .map (some m3), .bool v.risk.neg, vNv, vDv, .string v.seed] 168)).grown hgrow hnb
  have hk44 := ((HK43.out.alloc (.cells #[.map (some m1), .map (some m2), .map (some m3), .bool v.risk.neg, vNv, vDv, .string v.seed] 168)).grown hgrow (fun h => by
    have h1 := H31.out.tV _ h.symm
    exact absurd h1 (HT4.out)))
  have hk54 := ((HK53.out.alloc (.cells #[.map (some m1), .map (some m2), .map (some m3), .bool v.risk.neg, vNv, vDv, .string v.seed] 168)).grown hgrow (fun h => by
    have h1 := H31.out.tV _ h.symm
    exact absurd h1 (HT5.out)))
  have g6 : w4.cell? ⟨bb, 6, none⟩ = some (.slice A9 n9 c9) := hkb4.cell 6
  have g15 : w4.cell? ⟨bb, 15, none⟩ = some vV := hkb4.cell 15
  have f15 : w4.frozen? ⟨bb, 15, none⟩ = false := hkb4.frozen 15
  refine hK _ _ ⟨g6, g15, hk44.cell 1, hk54⟩ ?_
  clear hK K
  have HKB4 := Lib.hid hkb4
  have HK5b := Lib.hid hk5
  have HE5 := Lib.hid hE5
  have HO5 := Lib.hid ho5
  have HT5b := Lib.hid ht5
  have HB4 := Lib.hid hbel4
  clear hown4 hbel4 hgrow hat hkb4 hk44 hk54 hk5 hE5 ho5 ht5 hnb
  try simp only [Act.put, List.getElem_toArray, List.getElem_cons_zero, List.getElem_cons_succ, List.setIfInBounds_toArray, List.set_cons_zero, List.set_cons_succ]
  iterate 2
    refine seqL_read (v := ?_) rfl rfl ?_ ?_
    rotate_left 1
    · intro w hS
      have c6 := hS.c6
      have c15 := hS.c15
      have c4 := hS.c4
      have v0' := hS.c5.cell 0
      have v1' := hS.c5.cell 1
      have v2' := hS.c5.cell 2
      have v3' := hS.c5.cell 3
      have v4' := hS.c5.cell 4
      have v5' := hS.c5.cell 5
      have v6' := hS.c5.cell 6
      simp only [List.getElem?_toArray, List.getElem?_cons_zero, List.getElem?_cons_succ] at v0' v1' v2' v3' v4' v5' v6'
      clear hS
      go_simp
      with_reducible rfl
    simp only [Act.put, List.getElem_toArray, List.getElem_cons_zero, List.getElem_cons_succ, List.setIfInBounds_toArray, List.set_cons_zero, List.set_cons_succ]
  refine seqL_last_go rfl rfl fun K hK => ?_
  go_simp
  refine hK _ _ ?_
  clear hK K
  go_wp2_with fail
  go_end0
  have hv3 : ValD w3 B τ1 [.map (some m1), .map (some m2), .map (some m3), .bool v.risk.neg, vNv, vDv, .string v.seed] v := HVD.out.tag HCC.out (by simp) HE1.out
  have h5 := H31.out.addV (v' := .slice A8 n8 c8) (r := (⟨[.map (some m1), .map (some m2), .map (some m3), .bool v.risk.neg, vNv, vDv, .string v.seed], rfl⟩ : RawN 7)) (y := v) HK5b.out HE5.out (HKB4.out.set_ 15 _) HO5.out HT5b.out hv3 (Nat.lt_succ_of_le HH.out.lV)
  refine ⟨rfl, _, HE1.out.trans (Nat.le_of_lt (Nat.lt_trans (Nat.lt_succ_self _) hlw)) HE5.out, ⟨⟨mn, f, vP, vC, .slice A9 n9 c9, vN, vD,   .slice A8 n8 c8, rC, rS ++ [⟨[.string nm, .slice none 0 0, .slice none 0 0], rfl⟩], rV ++ [⟨[.map (some m1), .map (some m2), .map (some m3), .bool v.risk.neg, vNv, vDv, .string v.seed], rfl⟩], h5⟩, ?_⟩, HB4.out.setCell (p := ⟨bb, 15, none⟩) hBb _, HCC.out.trans HE1.out (HK5b.out.weak fun t h => by rcases h with h | h <;> rw [h] <;> simp)⟩
  show (s.vals ++ [v]).length = (s.e.styl ++ [(⟨nm, [], []⟩ : StyleD)]).length
  rw [List.length_append, List.length_append, HL.out]
  rfl
end Go.Proofs.YtjlhbfbdcfajfaaGreatDoor
/- schema: builder.store, whole. -/
namespace Go.Proofs.YtjlhbfbdcfajfaaGreatDoor
open Go.RowKit Go.Maps Go.WideMaps

theorem keysP_kinds {k : ByteArray} (h : keysP k ≠ []) : k = kScan ∨ k = kScanners ∨ k = kPrecincts ∨ k = kContest ∨ k = kStyle ∨ k = kAudit ∨ k = kPrivacy := by
  unfold keysP at h
  split at h
  · rename_i h1; exact .inl h1
  split at h
  · rename_i h1; exact .inr (.inl h1)
  split at h
  · rename_i h1; exact .inr (.inr (.inl h1))
  split at h
  · rename_i h1; exact .inr (.inr (.inr (.inl h1)))
  split at h
  · rename_i h1; exact .inr (.inr (.inr (.inr (.inl h1))))
  split at h
  · rename_i h1; exact .inr (.inr (.inr (.inr (.inr (.inl h1)))))
  split at h
  · rename_i h1; exact .inr (.inr (.inr (.inr (.inr (.inr h1)))))
  · exact absurd rfl h
theorem store_ok {w : World} {B bb N : Nat} {τ : Nat → Tag} {s : BldD} (h : Bld w B bb N τ s) {kind : ByteArray} (hk : keysP kind ≠ []) (nm : ByteArray) (AF : Option Addr) (nF cF : Nat) (line : Int) {cs : List Value} {v : Vals} (hv : ValD w B τ cs v) (hN : N < 1099511627776) :
    Calls Tryz.prog 97 #[.pointer (some ⟨bb, 0, none⟩), .agg #[.string kind, .string nm, .slice AF nF cF, .int .i64 line], .agg cs.toArray] w (RetSto w B bb (N + 1) τ (storeP kind nm v s)) := by
  obtain ⟨⟨mn, f, vP, vC, vS, vN, vD, vV, rC, rS, rV, h⟩, hl⟩ := h
  rcases keysP_kinds hk with rfl | rfl | rfl | rfl | rfl | rfl | rfl
  · exact store_scan h hl nm AF nF cF line hv hN
  · exact store_scanners h hl nm AF nF cF line hv hN
  · exact store_precincts h hl nm AF nF cF line hv hN
  · exact store_contest h hl nm AF nF cF line hv hN
  · exact store_style h hl nm AF nF cF line hv hN
  · exact store_audit h hl nm AF nF cF line hv hN
  · exact store_privacy h hl nm AF nF cF line hv hN
end Go.Proofs.YtjlhbfbdcfajfaaGreatDoor
