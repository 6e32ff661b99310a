/- Blk1 Lnk1 -/
import Derived.Test.YtjlhbfbdcfajfaaGreatDoorG19
import Derived.Carry
/- schema: builder.block. -/
namespace Go.Proofs.YtjlhbfbdcfajfaaGreatDoor
open Go.RowKit Go.Maps Go.WideMaps

/-- the call returns a fault; the builder is as s says -/
def RetBlk (w : World) (B bb N : Nat) (τ : Nat → Tag) (x : Err × BldD) (e : Ending) (w' : World) : Prop := e = .returned (.agg #[.int .i64 x.1.no, .int .i64 x.1.line]) ∧ ∃ τ', Ext w τ τ' ∧ Bld w' B bb N τ' x.2 ∧ BK w w' B τ
theorem ret_fault {fn : Func} {p : Tmp} {w2 : World} {tmps : Array Value} {defers : List Deferred} {g : Nat} {cs0 : Array Value} {no line : Int} {R : Ending → World → Prop}
    (h : fn.results = #[.cell p 76]) (hp : tmps.getD p undef = .pointer (some ⟨g, 0, none⟩)) (hk : Blk w2 g 76 cs0) (hl : cs0.size = 2) (hdf : defers = [])
    (hR : R (.returned (.agg #[.int .i64 no, .int .i64 line])) (setAll w2 g 0 [.int .i64 no, .int .i64 line])) :
    bodyPost Tryz.prog fn R Exit.ret { tmps := tmps, defers := defers } (setAll w2 g 0 [.int .i64 no, .int .i64 line]) :=
  bodyPost_ret (results_cell_row h _ _ g 76 #[.int .i64 no, .int .i64 line] (0, 0) _ hp (hk.setAll [.int .i64 no, .int .i64 line] hl) Tryz.underlying76 rfl (by kernel_rfl)) hdf hR
/-- the fields of a block are of a size that a machine can hold -/
def FieldOk (f : FieldD) : Prop := Sane f.key ∧ (∀ s ∈ f.vals, Sane s) ∧ f.vals.length ≤ 1099511627776
/-- what a row of names says -/
theorem BldIn.row {w : World} {B bb mn N : Nat} {τ : Nat → Tag} {f : ByteArray → Option Value} {vP vC vS vN vD vV : Value} {rC : List (RawN 9)} {rS : List (RawN 3)} {rV : List (RawN 7)} {s : BldD} (h : BldIn w B bb mn N τ f vP vC vS vN vD vV rC rS rV s) (k : ByteArray) :
    ∃ A n c, (f k).getD (.slice none 0 0) = .slice A n c ∧ Own w NoBlk B 9 (.slice A n c) (s.of k) ∧ ∀ g, (Value.slice A n c).ownBlock = some g → τ g = .nm k := by
  have := h.nms k
  unfold BldD.of
  cases hn : s.names k with
  | none =>
    rw [hn] at this
    exact ⟨none, 0, 0, by rw [show f k = none from this]; rfl, Own.nil _ _ _, fun g hg => by cases hg⟩
  | some xs =>
    rw [hn] at this
    obtain ⟨v, e, ho, ht⟩ := this
    obtain ⟨A, n, c, rfl, hn⟩ := ho.slice
    exact ⟨A, n, c, by rw [e]; rfl, ho, ht⟩
/-- a row of the builder's that has grown, behind the change of a map in another block -/
theorem own_map {w w3 w4 : World} {B mn : Nat} {τ : Nat → Tag} {t : Tag} {e : TypeId} {α : Type} [Rep α] {v v2 : Value} {xs ys : List α} (ho : Own w NoBlk B e v xs) (ht : ∀ g, v.ownBlock = some g → τ g = t) (hm : τ mn = .mn) (hne : t ≠ .mn) (hlt : mn < w.heap.size)
    (hat : v2.ownBlock = v.ownBlock ∨ v2.ownBlock = some (w.heap.size + 1)) (h2 : Own w3 NoBlk B e v2 ys) (hg : w3.grownBy w4 (some mn)) :
    Own w4 NoBlk B e v2 ys ∧ ∀ g, v2.ownBlock = some g → setTag τ w.heap.size t g = t := by
  refine ⟨h2.keep hg (.inr fun e => ?_) (fun b hb => hb.elim), fun g hg => ?_⟩
  · rcases hat with h | h
    · rw [h] at e
      have := ht mn e
      rw [hm] at this
      exact hne this.symm
    · rw [h] at e
      injection e with e
      omega
  · rcases hat with h | h
    · rw [h] at hg
      exact (if_pos (ho.lt g hg).2).trans (ht g hg)
    · rw [h] at hg
      injection hg with hg
      exact setTag_ge _ _ (by omega)
theorem BK.trans {w w1 w2 : World} {B : Nat} {τ τ1 : Nat → Tag} (h : BK w w1 B τ) (hE : Ext w τ τ1) (k : BK w1 w2 B τ1) : BK w w2 B τ := ⟨h.1.trans k.1, h.2.trans hE k.2⟩
theorem BK.of_below {w w1 : World} {B : Nat} {τ : Nat → Tag} (h : Below w.heap.size w w1) (hB : B ≤ w.heap.size) : BK w w1 B τ := ⟨h.mono hB, Kept.of_below h⟩
theorem valsAt_new (w : World) : ValsAt ((((w.alloc (.map #[] 0)).alloc (.map #[] 0)).alloc (.map #[] 0)).alloc (.cells #[.map (some w.heap.size), .map (some (w.heap.size + 1)), .map (some (w.heap.size + 1 + 1)), .bool false, .slice none 0 0, .slice none 0 0, .string ⟨#[]⟩] 168)) w.heap.size (w.heap.size + 1 + 1 + 1) 0 Vals.zero := by
  have m1 := ((MapIs.made w).alloc (.map #[] 0)).alloc (.map #[] 0)
  have m2 := (MapIs.made (w.alloc (.map #[] 0))).alloc (.map #[] 0)
  have m3 := MapIs.made ((w.alloc (.map #[] 0)).alloc (.map #[] 0))
  have e1 : (w.alloc (.map #[] 0)).heap.size = w.heap.size + 1 := by simp
  have e2 : ((w.alloc (.map #[] 0)).alloc (.map #[] 0)).heap.size = w.heap.size + 1 + 1 := by simp
  rw [e1] at m2
  rw [e2] at m3
  refine ⟨w.heap.size, w.heap.size + 1, w.heap.size + 1 + 1, fun _ => none, none, 0, 0, none, 0, 0, ?_⟩
  exact { hg := by omega, h1 := by omega, h2 := by omega, h3 := by omega, d1 := by omega, d2 := by omega, d3 := by omega, d4 := by omega, d5 := by omega, d6 := by omega,
          blk := Blk.new' (by simp) _ _, num := m1.alloc _, lst := m2.alloc _, lsts := fun _ => rfl, ln := m3.alloc _, rn := RS.nil _ _, rd := RS.nil _ _ }
/-- the values that a block has read, for store -/
theorem ValsAt.out {w : World} {B B0 g N : Nat} {τ : Nat → Tag} {v : Vals} (h : ValsAt w B0 g N v) (hB : B ≤ B0) (ht : ∀ b, B0 ≤ b → τ b = .data) : ∃ m1 m2 m3 A n c A2 n2 c2, Blk w g 168 #[.map (some m1), .map (some m2), .map (some m3), .bool v.risk.neg, .slice A n c, .slice A2 n2 c2, .string v.seed] ∧
    ValD w B τ [.map (some m1), .map (some m2), .map (some m3), .bool v.risk.neg, .slice A n c, .slice A2 n2 c2, .string v.seed] v := by
  obtain ⟨m1, m2, m3, f, A, n, c, A2, n2, c2, h⟩ := h
  have hd : ∀ b, Data w B0 g m1 m2 m3 b → Dat w B τ b := fun b hb => ⟨Nat.le_trans hB hb.1, hb.2.1, ht b hb.1⟩
  exact ⟨m1, m2, m3, A, n, c, A2, n2, c2, h.blk, m1, m2, m3, N, f, _, _, rfl, ⟨Nat.le_trans hB h.h1, h.num.lt, ht _ h.h1⟩, ⟨Nat.le_trans hB h.h2, h.lst.lt, ht _ h.h2⟩, ⟨Nat.le_trans hB h.h3, h.ln.lt, ht _ h.h3⟩,
    h.num, h.lst, h.lsts.keep hd (Keeps.refl _ _), h.ln, ⟨_, _, _, rfl, h.rn.sub hd⟩, ⟨_, _, _, rfl, h.rd.sub hd⟩⟩
theorem kept_setAll {τ : Nat → Tag} {T : Tag → Prop} {g : Nat} (h : T (τ g)) : ∀ (l : List Value) (i : Nat) (w : World), Kept w (setAll w g i l) τ T := by
  intro l
  induction l with
  | nil => intro i w; exact ⟨Nat.le_refl _, fun _ _ _ => rfl⟩
  | cons v l ih => intro i w; exact (Kept.of_set w (p := ⟨g, i, none⟩) h v).trans (Ext.refl _ _) (ih (i + 1) _)
/-- the result cell is written last -/
theorem fin_blk {w wX : World} {B bb M N : Nat} {τ τX : Nat → Tag} {s' : BldD} (hB : Bld wX B bb M τX s') (hE : Ext w τ τX) (hk : BK w wX B τ) (ht : τX (w.heap.size + 1) = .tmp) (hBw : B ≤ w.heap.size) (hN : M ≤ N) (no line : Int) :
    RetBlk w B bb N τ (⟨no, line⟩, s') (.returned (.agg #[.int .i64 no, .int .i64 line])) (setAll wX (w.heap.size + 1) 0 [.int .i64 no, .int .i64 line]) := by
  refine ⟨rfl, τX, hE, hB.tag (T := One .tmp) (kept_setAll ht _ _ _) (fun t h => h) (Ext.refl _ _) hN, below_setAll hk.1 (Nat.le_trans hBw (Nat.le_succ _)) _ _, ?_⟩
  refine ⟨by rw [size_setAll]; exact hk.2.size, fun b hb hT => ?_⟩
  have h1 := hk.2.block b hb hT
  rw [← h1]
  exact (below_setAll (B := w.heap.size) (Below.refl w.heap.size wX) (Nat.le_succ _) [.int .i64 no, .int .i64 line] 0).block b hb
/-- what the drawn region reads -/
structure NamS (bb g3 mn N : Nat) (f : ByteArray → Option Value) (kind nm : ByteArray) (w : World) : Prop where
  c14 : w.cell? ⟨bb, 14, none⟩ = some (.map (some mn))
  k0 : w.cell? ⟨g3, 0, none⟩ = some (.string kind)
  k1 : w.cell? ⟨g3, 1, none⟩ = some (.string nm)
  hM : MapIs w mn N f

set_option maxRecDepth 20000 in
set_option maxHeartbeats 4000000 in
theorem block_ok {w : World} {B bb N : Nat} {τ : Nat → Tag} {s : BldD} (h : Bld w B bb N τ s) (hN : N < 274877906944) (kind nm : ByteArray) (line : Int) {S : Nat → Prop} {AF : Option Addr} {nF cF : Nat} {fs : List FieldD}
    (hF : RS w S AF nF cF fs) (hS : ∀ b, S b → b < B) (hkd : Sane kind) (hnm : Sane nm) (hfs : ∀ f ∈ fs, FieldOk f) (hnF : nF ≤ 274877906944) :
    Calls Tryz.prog 65 #[.pointer (some ⟨bb, 0, none⟩), .agg #[.string kind, .string nm, .slice AF nF cF, .int .i64 line]] w (RetBlk w B bb (N + 2) τ (blockP ⟨kind, nm, fs, line⟩ s)) := by
  have hkm : kind.size ≤ maxLen := Nat.le_trans hkd (by unfold maxLen; omega)
  obtain ⟨⟨mn, f, vP, vC, vS, vN, vD, vV, rC, rS, rV, h⟩, hl⟩ := h
  have hbx : Below w.heap.size w ((w.alloc (.cells #[.string kind, .string nm, .slice AF nF cF, .int .i64 line] 110)).alloc (.cells #[.int .i64 0, .int .i64 0] 76)) := ((Below.refl _ _).alloc (Nat.le_refl _) _).alloc (by simp) _
  have hk3 : Blk ((w.alloc (.cells #[.string kind, .string nm, .slice AF nF cF, .int .i64 line] 110)).alloc (.cells #[.int .i64 0, .int .i64 0] 76)) w.heap.size 110 #[.string kind, .string nm, .slice AF nF cF, .int .i64 line] := (Blk.new _ _ _).alloc _
  have hk4 : Blk ((w.alloc (.cells #[.string kind, .string nm, .slice AF nF cF, .int .i64 line] 110)).alloc (.cells #[.int .i64 0, .int .i64 0] 76)) (w.heap.size + 1) 76 #[.int .i64 0, .int .i64 0] := Blk.new' (by simp) _ _
  have hsz1 : ((w.alloc (.cells #[.string kind, .string nm, .slice AF nF cF, .int .i64 line] 110)).alloc (.cells #[.int .i64 0, .int .i64 0] 76)).heap.size = w.heap.size + 2 := by simp
  obtain ⟨w1, hw1⟩ : ∃ x, (w.alloc (.cells #[.string kind, .string nm, .slice AF nF cF, .int .i64 line] 110)).alloc (.cells #[.int .i64 0, .int .i64 0] 76) = x := ⟨_, rfl⟩
  rw [hw1] at hbx hk3 hk4 hsz1
  have hlt : bb < w.heap.size := h.blk.lt
  have hBb : B ≤ bb := h.hb
  have hBw : B ≤ w.heap.size := Nat.le_of_lt (Nat.lt_of_le_of_lt hBb hlt)
  have e0 : w1.cell? ⟨w.heap.size, 0, none⟩ = some (.string kind) := hk3.cell 0
  have e1 : w1.cell? ⟨w.heap.size, 1, none⟩ = some (.string nm) := hk3.cell 1
  have e2 : w1.cell? ⟨w.heap.size, 2, none⟩ = some (.slice AF nF cF) := hk3.cell 2
  have e3 : w1.cell? ⟨w.heap.size, 3, none⟩ = some (.int .i64 line) := hk3.cell 3
  have h1 := h.keep hbx (Ext.set w τ .tmp)
  obtain ⟨A0, n0, c0, hf0, ho0, ht0⟩ := h1.row kind
  have hhead : Calls Tryz.prog 94 #[.pointer (some ⟨bb, 0, none⟩), .agg #[.string kind, .string nm, .slice AF nF cF, .int .i64 line]] w1 (RetV w1 (.int .i64 (headP kind nm (s.of kind)))) :=
    head_ok (h1.blk.lt) (h1.blk.cell 14) h1.map kind nm hkd hnm hf0 (S := fun b => B ≤ b ∧ b < w1.heap.size) (ho0.rs (fun _ h => h.elim) fun g a b => ⟨a, b⟩) (fun b hb => hb.2) _ line ⟨AF, nF, cF, rfl⟩
  obtain ⟨z, hz⟩ : ∃ z, headP kind nm (s.of kind) = z := ⟨_, rfl⟩
  rw [hz] at hhead
  obtain ⟨r, hr⟩ : ∃ r, blockP ⟨kind, nm, fs, line⟩ s = r := ⟨_, rfl⟩
  have hrr := hr.symm
  unfold blockP at hrr
  simp only [hz] at hrr
  rw [hr]
  have hkeys : z = 0 → keysP kind ≠ [] := fun h0 hk => by
    rw [← hz] at h0
    unfold headP at h0
    rw [if_pos hk] at h0
    cases h0
  have HR := Lib.hid hrr
  have HKEYS := Lib.hid hkeys
  have HHEAD := Lib.hid hhead
  have HW1 := Lib.hid hw1
  have HBX := Lib.hid hbx
  have HK3 := Lib.hid hk3
  have HK4 := Lib.hid hk4
  have HSZ1 := Lib.hid hsz1
  have HH := Lib.hid h
  have HL := Lib.hid hl
  have H1 := Lib.hid h1
  have HF0 := Lib.hid hf0
  have HO0 := Lib.hid ho0
  have HT0 := Lib.hid ht0
  have HFF := Lib.hid hF
  have HFS := Lib.hid hfs
  clear hr hrr hz hkeys hhead hw1 hbx hk3 hk4 hsz1 h hl h1 hf0 ho0 ht0 hF hfs
  go_enter Tryz.func65, Tryz.ntmps65
  go_upto_region 1 with (fail)
  rw [HW1.out]
  go_wp2_with fail
  refine HHEAD.out.mono ?_
  rintro e w2 ⟨rfl, hb2⟩
  have hk32 := HK3.out.keep hb2
  have hk42 := HK4.out.keep hb2
  have hb02 := below_more HBX.out hb2
  have f0 : w2.cell? ⟨w.heap.size, 0, none⟩ = some (.string kind) := hk32.cell 0
  have f1 : w2.cell? ⟨w.heap.size, 1, none⟩ = some (.string nm) := hk32.cell 1
  have f2 : w2.cell? ⟨w.heap.size, 2, none⟩ = some (.slice AF nF cF) := hk32.cell 2
  have f3 : w2.cell? ⟨w.heap.size, 3, none⟩ = some (.int .i64 line) := hk32.cell 3
  have x0 : w2.cell? ⟨w.heap.size + 1, 0, none⟩ = some (.int .i64 0) := hk42.cell 0
  have x1 : w2.cell? ⟨w.heap.size + 1, 1, none⟩ = some (.int .i64 0) := hk42.cell 1
  have y0 : w2.frozen? ⟨w.heap.size + 1, 0, none⟩ = false := hk42.frozen 0
  have y1 : w2.frozen? ⟨w.heap.size + 1, 1, none⟩ = false := hk42.frozen 1
  have HK32 := Lib.hid hk32
  have HK42 := Lib.hid hk42
  have HB2 := Lib.hid hb02
  have HB12 := Lib.hid hb2
  clear hk32 hk42 hb02 hb2 e0 e1 e2 e3
  by_cases hz0 : z = 0
  case neg =>
    have hrf : r = (⟨z, line⟩, s) := by rw [HR.out, if_pos hz0]
    have HRF := Lib.hid hrf
    have hzb : (z != 0) = true := by rw [bne_iff_ne]; exact hz0
    have hzb2 : (z == 0) = false := by rw [beq_eq_false_iff_ne]; exact hz0
    clear hrf hz0
    go_wp2_with fail
    refine ret_fault (no := z) (line := line) rfl rfl HK42.out rfl rfl ?_
    rw [HRF.out]
    exact fin_blk ⟨⟨mn, f, vP, vC, vS, vN, vD, vV, rC, rS, rV, HH.out.keep HB2.out (Ext.set _ _ _)⟩, HL.out⟩ (Ext.set w τ .tmp) ⟨HB2.out.mono hBw, Kept.of_below HB2.out⟩ (setTag_ge _ _ (Nat.le_succ _)) hBw (by omega) z line
  have hr1 := HR.out
  rw [if_neg (by rw [hz0]; simp)] at hr1
  have HR1 := Lib.hid hr1
  have HKK := Lib.hid (HKEYS.out hz0)
  subst hz0
  clear hr1 HR HKEYS HHEAD
  have h2 := H1.out.keep HB12.out (Ext.refl _ _)
  have g14 : w2.cell? ⟨bb, 14, none⟩ = some (.map (some mn)) := h2.blk.cell 14
  have HLC := Lib.hid (show (s.of kind).length < 1099511627776 from Nat.lt_of_le_of_lt (h2.lens kind) (by omega))
  have H2 := Lib.hid h2
  have HO2 := Lib.hid (HO0.out.below HB12.out)
  have HS2 := Lib.hid (show w.heap.size + 2 ≤ w2.heap.size by rw [← HSZ1.out]; exact HB12.out.size)
  clear h2
  go_wp2_with fail
  refine wp_region_seqT (NamS bb w.heap.size mn N f kind nm) 17 [(0, true), (1, true), (2, true), (3, true), (4, true), (5, true), (6, true), (7, true), (8, true), (9, true), (10, true), (11, true), (12, true), (13, true), (14, true), (15, false), (16, false)]
    (by kernel_rfl) rfl (by kernel_rfl) (by kernel_rfl) (by kernel_rfl) (fun _ _ d _ _ h => by cases d <;> exact h) ⟨g14, f0, f1, H2.out.map.drew⟩ ?_
  iterate 12
    refine seqL_read (v := ?_) rfl rfl ?_ ?_
    rotate_left 1
    · intro w hS
      have c14 := hS.c14
      have k0 := hS.k0
      have k1 := hS.k1
      clear hS
      go_simp
      with_reducible rfl
    simp only [Act.put, List.getElem_toArray, List.getElem_cons_zero, List.getElem_cons_succ, List.setIfInBounds_toArray, List.set_cons_zero, List.set_cons_succ]
  refine seqL_read (v := .slice A0 n0 c0) rfl rfl (fun w hS => run_look rfl Tryz.underlying132 (z := .slice none 0 0) rfl rfl hS.hM kind rfl hkm HF0.out) ?_
  simp only [Act.put, List.getElem_toArray, List.getElem_cons_zero, List.getElem_cons_succ, List.setIfInBounds_toArray, List.set_cons_zero, List.set_cons_succ]
  iterate 2
    refine seqL_read (v := ?_) rfl rfl ?_ ?_
    rotate_left 1
    · intro w hS
      have k1 := hS.k1
      clear hS
      go_simp
      with_reducible rfl
    simp only [Act.put, List.getElem_toArray, List.getElem_cons_zero, List.getElem_cons_succ, List.setIfInBounds_toArray, List.set_cons_zero, List.set_cons_succ]
  refine seqL_do rfl fun K hK => ?_
  go_simp
  refine hK _ _ ⟨by go_keep, by go_keep, by go_keep, H2.out.map.alloc _⟩ ?_
  clear hK K
  try simp only [Act.put, List.getElem_toArray, List.getElem_cons_zero, List.getElem_cons_succ, List.setIfInBounds_toArray, List.set_cons_zero, List.set_cons_succ]
  refine seqL_do rfl fun K hK => ?_
  refine step_append_gen (α := ByteArray) (w0 := w) (B := B) (base := B) (wr := w2) (by rfl) _ _ 22 (by rfl) 16 Tryz.strsTy (by rfl) HO2.out (HB2.out.mono hBw) (Nat.le_refl _) (Nat.le_trans hBw HB2.out.size) [.string nm] nm 1 (by rfl) rfl 9 (by simp [Value.oneCell']) (by have := HLC.out; omega) ?_
  intro v9 w3 hown3 hbel3 hgrow hat
  obtain ⟨A9, n9, c9, rfl, hn9⟩ := hown3.slice
  clear hn9
  have htag : ∀ g, (Value.slice A0 n0 c0).ownBlock = some g → setTag τ w.heap.size .tmp g = .nm kind := HT0.out
  have hks : Kept (w2.alloc (.cells #[.string nm] 9)) w3 (setTag τ w.heap.size .tmp) (One (.nm kind)) := Kept.of_grown hgrow fun g h _ => htag g h
  have hkb3 := (H2.out.blk.alloc (.cells #[.string nm] 9)).tag hks (by rw [H2.out.tb]; simp [One])
  have hm3 := (H2.out.map.alloc (.cells #[.string nm] 9)).tag hks (by rw [H2.out.tm]; simp [One])
  have hk33 := (HK32.out.alloc (.cells #[.string nm] 9)).tag hks (by rw [setTag_ge _ _ (Nat.le_refl _)]; simp [One])
  have hk43 := (HK42.out.alloc (.cells #[.string nm] 9)).tag hks (by rw [setTag_ge _ _ (Nat.le_succ _)]; simp [One])
  refine hK _ _ ⟨hkb3.cell 14, hk33.cell 0, hk33.cell 1, hm3⟩ ?_
  clear hK K
  have HO3 := Lib.hid hown3
  have HBE3 := Lib.hid hbel3
  have HAT := Lib.hid hat
  have HKS := Lib.hid hks
  have HM3 := Lib.hid hm3
  have HK33 := Lib.hid hk33
  have HK43 := Lib.hid hk43
  have HTG := Lib.hid htag
  have HS3 := Lib.hid (show w2.heap.size + 1 ≤ w3.heap.size by have := hgrow.size; simp at this; omega)
  clear hown3 hbel3 hgrow hat hks hkb3 hm3 hk33 hk43 htag
  try simp only [Act.put, List.getElem_toArray, List.getElem_cons_zero, List.getElem_cons_succ, List.setIfInBounds_toArray, List.set_cons_zero, List.set_cons_succ]
  refine seqL_last_go rfl rfl fun K hK => ?_
  refine wp_store_map _ _ _ 132 22 rfl Tryz.underlying132 rfl HM3.out (by unfold maxLen; omega) kind (.slice A9 n9 c9) rfl rfl hkm ?_
  intro w4 hm4 hgr4
  have hk24 : Kept w2 w4 (setTag τ w.heap.size .tmp) (Two (.nm kind) .mn) := ((Kept.of_below ((Below.refl _ _).alloc (Nat.le_refl _) _)).trans (Ext.refl _ _) (HKS.out.weak fun t h => .inl h)).trans (Ext.refl _ _) (Kept.of_grown hgr4 fun g h _ => by injection h with h; subst h; exact .inr H2.out.tm)
  obtain ⟨ho4, ht4⟩ := own_map HO2.out HTG.out H2.out.tm (by simp) H2.out.map.lt HAT.out HO3.out hgr4
  have h4 := H2.out.addN kind nm hk24 (Ext.set _ _ _) hm4 ho4 ht4
  have hE4 : Ext w τ (setTag (setTag τ w.heap.size .tmp) w2.heap.size (.nm kind)) := (Ext.set w τ .tmp).trans HB2.out.size (Ext.set _ _ _)
  have hbk4 : BK w w4 B τ := ⟨HBE3.out.grown hgr4 (Nat.le_trans hBw (Nat.le_trans HB2.out.size (Nat.le_of_lt HS3.out))) (fun k hk => by injection hk with hk; subst hk; exact H2.out.hm),
    (Kept.of_below HB2.out).trans (Ext.set w τ .tmp) (hk24.weak fun t h => by rcases h with h | h <;> rw [h] <;> simp)⟩
  have ht5 : setTag (setTag τ w.heap.size .tmp) w2.heap.size (.nm kind) (w.heap.size + 1) = .tmp := by
    rw [show setTag (setTag τ w.heap.size .tmp) w2.heap.size (.nm kind) (w.heap.size + 1) = setTag τ w.heap.size .tmp (w.heap.size + 1) from if_pos (by have := HS2.out; omega)]
    exact setTag_ge _ _ (Nat.le_succ _)
  have hk34 := HK33.out.grown hgr4 (fun h => by injection h with h; have := H2.out.tm; rw [← h, setTag_ge _ _ (Nat.le_refl _)] at this; cases this)
  have hk44 := HK43.out.grown hgr4 (fun h => by injection h with h; have := H2.out.tm; rw [← h, setTag_ge _ _ (Nat.le_succ _)] at this; cases this)
  have hs4 : w.heap.size + 2 ≤ w4.heap.size := by have := HS2.out; have := HS3.out; have := hgr4.size; omega
  obtain ⟨τ2, hτ2⟩ : ∃ x, setTag (setTag τ w.heap.size .tmp) w2.heap.size (.nm kind) = x := ⟨_, rfl⟩
  obtain ⟨f4, hf4⟩ : ∃ x, upd f kind (.slice A9 n9 c9) = x := ⟨_, rfl⟩
  rw [hτ2] at h4 hE4 ht5
  rw [hf4] at h4
  have hbl4 : Bld w4 B bb (N + 1) τ2 (s.named kind nm) := ⟨⟨mn, f4, vP, vC, vS, vN, vD, vV, rC, rS, rV, h4⟩, HL.out⟩
  have H4 := Lib.hid hbl4
  have HE4 := Lib.hid hE4
  have HBK4 := Lib.hid hbk4
  have HT5 := Lib.hid ht5
  have HK34 := Lib.hid hk34
  have HK44 := Lib.hid hk44
  have HS4 := Lib.hid hs4
  refine hK _ _ ?_
  clear hK K
  clear hτ2 hf4 h4 hE4 hbk4 ht5 hk34 hk44 hs4 hbl4 hk24 ho4 ht4 hm4 hgr4 HKS HM3 HK33 HK43 HTG HS3 HO3 HBE3 HAT H2 HO2 HS2 HLC HF0 HO0 HT0 HW1 HK32 HK42 HB12 HK3 HK4 H1 HSZ1 HBX g14 f0 f1 f2 f3 x0 x1 y0 y1 HH HL
  have hmk := fun (t : TypeId) (w : World) => run_makeMap (P := Tryz.prog) t w
  go_upto_region 6 with (fail)
  have hv5 := valsAt_new w4
  have hb5 : Below w4.heap.size w4 ((((w4.alloc (.map #[] 0)).alloc (.map #[] 0)).alloc (.map #[] 0)).alloc (.cells #[.map (some w4.heap.size), .map (some (w4.heap.size + 1)), .map (some (w4.heap.size + 1 + 1)), .bool false, .slice none 0 0, .slice none 0 0, .string ⟨#[]⟩] 168)) :=
    ((((Below.refl _ _).alloc (Nat.le_refl _) _).alloc (by simp) _).alloc (by simp; omega) _).alloc (by simp; omega) _
  obtain ⟨w5, hw5⟩ : ∃ x, (((w4.alloc (.map #[] 0)).alloc (.map #[] 0)).alloc (.map #[] 0)).alloc (.cells #[.map (some w4.heap.size), .map (some (w4.heap.size + 1)), .map (some (w4.heap.size + 1 + 1)), .bool false, .slice none 0 0, .slice none 0 0, .string ⟨#[]⟩] 168) = x := ⟨_, rfl⟩
  rw [hw5] at hv5 hb5 ⊢
  obtain ⟨g, hg⟩ : ∃ x, w4.heap.size + 1 + 1 + 1 = x := ⟨_, rfl⟩
  rw [hg] at hv5 ⊢
  have HG := Lib.hid hg
  have HV5 := Lib.hid hv5
  have HB5 := Lib.hid hb5
  have hk35 := HK34.out.keep hb5
  have q0 : w5.cell? ⟨w.heap.size, 0, none⟩ = some (.string kind) := hk35.cell 0
  have q2 : w5.cell? ⟨w.heap.size, 2, none⟩ = some (.slice AF nF cF) := hk35.cell 2
  have HLF := Lib.hid HFF.out.len
  have hnm := HFF.out.max
  clear hv5 hb5 hw5 hk35 hmk hg
  go_wp2_with fail
  go_loopw [44] (fun iv wr => ∃ (k : Nat) (v : Vals), iv = .int .i64 k ∧ k ≤ nF ∧ readsP kind fs Vals.zero = readsP kind (fs.drop k) v ∧ ValsAt wr w4.heap.size g (2 * k) v ∧ Below w4.heap.size w4 wr) (fun iv _ => nF - (intOf iv).toNat)
  case atStart => exact ⟨0, _, rfl, Nat.zero_le _, rfl, HV5.out, HB5.out⟩
  case round =>
    clear HV5 HB5 q0 q2
    obtain ⟨k, v, rfl, hk, hrd, hva, hb⟩ := hrel
    have HRD := Lib.hid hrd
    have HVA := Lib.hid hva
    have HB := Lib.hid hb
    have hbk : Below B w wr := HBK4.out.1.trans (hb.mono (Nat.le_trans hBw (Nat.le_trans (Nat.le_add_right _ 2) HS4.out)))
    have HFR := Lib.hid (HFF.out.below hbk hS)
    have HBK := Lib.hid hbk
    have hk3r := HK34.out.keep hb
    have hk4r := HK44.out.keep hb
    have HK3r := Lib.hid hk3r
    have HK4r := Lib.hid hk4r
    have q0 : wr.cell? ⟨w.heap.size, 0, none⟩ = some (.string kind) := hk3r.cell 0
    have q1 : wr.cell? ⟨w.heap.size, 1, none⟩ = some (.string nm) := hk3r.cell 1
    have q2 : wr.cell? ⟨w.heap.size, 2, none⟩ = some (.slice AF nF cF) := hk3r.cell 2
    have q3 : wr.cell? ⟨w.heap.size, 3, none⟩ = some (.int .i64 line) := hk3r.cell 3
    have hgr : g < wr.heap.size := by
      obtain ⟨m1, m2, m3, ff, A, n, c, A2, n2, c2, hh⟩ := hva
      exact hh.blk.lt
    clear hrd hva hb hbk hk3r hk4r
    by_cases hlt : k < nF
    · have hlt2 : (k : Int) < (nF : Int) := by omega
      obtain ⟨b, o, x, cs, rfl, hSb, hx, hrx, hld⟩ := HFR.out.load_at (fun b h => Nat.lt_of_lt_of_le (hS b h) (Nat.le_trans hBw (Nat.le_trans (Nat.le_add_right _ 2) (Nat.le_trans HS4.out HB.out.size)))) hlt
      obtain ⟨A3, n3, c3, rfl, hrx⟩ := hrx
      have hla := hld wr (Below.refl _ _)
      have r0 : wr.cell? ⟨b, o + k * 3, none⟩ = some (.string x.key) := hla.1 _ rfl
      have r1 : wr.cell? ⟨b, o + k * 3 + 1, none⟩ = some (.slice A3 n3 c3) := hla.2 1 _ rfl
      have r2 : wr.cell? ⟨b, o + k * 3 + 2, none⟩ = some (.int .i64 x.line) := hla.2 2 _ rfl
      have hkc : (k : Int) ≤ (cF : Int) := by have := HFR.out.cap; omega
      have hfx := HFS.out x (List.mem_of_getElem? hx)
      have hrk : readsP kind fs Vals.zero = if (readP kind x v).1 ≠ 0 then (⟨(readP kind x v).1, x.line⟩, (readP kind x v).2) else readsP kind (fs.drop (k + 1)) (readP kind x v).2 := by
        rw [HRD.out, drop_cons' hx]; rfl
      have hb6 : Below wr.heap.size wr (wr.alloc (.cells #[.string x.key, .slice A3 n3 c3, .int .i64 x.line] 113)) := (Below.refl _ _).alloc (Nat.le_refl _) _
      have hk8 : Blk (wr.alloc (.cells #[.string x.key, .slice A3 n3 c3, .int .i64 x.line] 113)) wr.heap.size 113 #[.string x.key, .slice A3 n3 c3, .int .i64 x.line] := Blk.new _ _ _
      obtain ⟨w6, hw6⟩ : ∃ q, wr.alloc (.cells #[.string x.key, .slice A3 n3 c3, .int .i64 x.line] 113) = q := ⟨_, rfl⟩
      rw [hw6] at hb6 hk8
      have hk36 := HK3r.out.keep hb6
      have s0 : w6.cell? ⟨w.heap.size, 0, none⟩ = some (.string kind) := hk36.cell 0
      have t0 : w6.cell? ⟨wr.heap.size, 0, none⟩ = some (.string x.key) := hk8.cell 0
      have t1 : w6.cell? ⟨wr.heap.size, 1, none⟩ = some (.slice A3 n3 c3) := hk8.cell 1
      have t2 : w6.cell? ⟨wr.heap.size, 2, none⟩ = some (.int .i64 x.line) := hk8.cell 2
      have hBwr : B ≤ wr.heap.size := Nat.le_trans hBw (Nat.le_trans (Nat.le_add_right _ 2) (Nat.le_trans HS4.out HB.out.size))
      have hcall := read_ok (HVA.out.keep hb6) (Nat.le_trans HB.out.size hb6.size) (by omega) kind x.key hfx.1 (hrx.below hb6 (fun b h => Nat.lt_of_lt_of_le (hS b h) hBwr)) (fun b h => Nat.lt_of_lt_of_le (hS b h) (Nat.le_trans hBw (Nat.le_trans (Nat.le_add_right _ 2) HS4.out))) hfx.2.1 (by rw [← hrx.len]; exact hfx.2.2) x.line
      obtain ⟨er, v2, hrp⟩ : ∃ er v2, readP kind x v = (er, v2) := ⟨_, _, rfl⟩
      rw [show (⟨x.key, x.vals, x.line⟩ : FieldD) = x from rfl, hrp] at hcall
      rw [hrp] at hrk
      simp only at hcall hrk
      have HCALL := Lib.hid hcall
      have HRK := Lib.hid hrk
      have HW6 := Lib.hid hw6
      have HB6 := Lib.hid hb6
      have HK8 := Lib.hid hk8
      have hgn : wr.heap.size ≠ g := by omega
      clear hla hld hx hrx hfx hrk hcall hb6 hk8 hw6 hk36 hrp HVA HRD
      go_upto_region 9 with (fail)
      rw [HW6.out]
      go_wp2_with fail
      refine HCALL.out.mono ?_
      rintro e w7 ⟨rfl, hv7, hbc7⟩
      have hb7 : Below w4.heap.size w4 w7 := (HB.out.trans (HB6.out.mono HB.out.size)).trans hbc7.1
      have hk87 := hbc7.2 _ _ _ hgn HK8.out
      have u2 : w7.cell? ⟨wr.heap.size, 2, none⟩ = some (.int .i64 x.line) := hk87.cell 2
      have hk47 := HK44.out.keep hb7
      have x0 : w7.cell? ⟨w.heap.size + 1, 0, none⟩ = some (.int .i64 0) := hk47.cell 0
      have x1 : w7.cell? ⟨w.heap.size + 1, 1, none⟩ = some (.int .i64 0) := hk47.cell 1
      have y0 : w7.frozen? ⟨w.heap.size + 1, 0, none⟩ = false := hk47.frozen 0
      have y1 : w7.frozen? ⟨w.heap.size + 1, 1, none⟩ = false := hk47.frozen 1
      have HV7 := Lib.hid hv7
      have HB7 := Lib.hid hb7
      have HK47 := Lib.hid hk47
      clear hv7 hbc7 hb7 hk87 hk47 q0 q1 q2 q3 r0 r1 r2 s0 t0 t1 t2
      by_cases her : er = 0
      case neg =>
        have hne : (er != 0) = true := by rw [bne_iff_ne]; exact her
        have hne2 : (er == 0) = false := by rw [beq_eq_false_iff_ne]; exact her
        have hrf : r = (⟨er, x.line⟩, s.named kind nm) := by
          rw [HR1.out, HRK.out, if_pos her]
          exact if_pos her
        have HRF := Lib.hid hrf
        clear hrf her
        go_wp2_with fail
        refine ret_fault (no := er) (line := x.line) rfl rfl HK47.out rfl rfl ?_
        rw [HRF.out]
        exact fin_blk (H4.out.keep HB7.out (Ext.refl _ _)) HE4.out (HBK4.out.trans HE4.out (BK.of_below HB7.out (Nat.le_trans hBw (Nat.le_trans (Nat.le_add_right _ 2) HS4.out)))) HT5.out hBw (by omega) er x.line
      subst her
      have hrk2 := HRK.out
      rw [if_neg (by simp)] at hrk2
      have HRK2 := Lib.hid hrk2
      clear hrk2
      go_wp2_with fail
      go_roundw
      case rel => exact ⟨k + 1, v2, by go_num, by omega, HRK2.out, by have := HV7.out; rwa [show 2 * k + 2 = 2 * (k + 1) by omega] at this, HB7.out⟩
      case measure => simp [intOf]; omega
    · have hkn : k = nF := by omega
      have hrd2 : readsP kind fs Vals.zero = (⟨0, 0⟩, v) := by
        rw [HRD.out, List.drop_eq_nil_of_le (by rw [HLF.out]; omega)]
        rfl
      have hr2 := HR1.out
      rw [hrd2] at hr2
      simp only [ne_eq, not_true_eq_false, if_false] at hr2
      have hcall := complete_ok HVA.out kind line
      obtain ⟨⟨no, ln⟩, hq⟩ : ∃ q, completeP kind line v = q := ⟨_, rfl⟩
      rw [hq] at hcall hr2
      simp only at hr2
      have HR2 := Lib.hid hr2
      have HCALL := Lib.hid hcall
      clear hrd2 hr2 hcall hq hkn HRD HR1
      go_wp2_with fail
      refine HCALL.out.mono ?_
      rintro e w8 ⟨v8, rfl, ⟨cs, rfl, hcs⟩, hb8⟩
      have hcs' : cs = [.int .i64 no, .int .i64 ln] := hcs
      subst hcs'
      have hb9 : Below wr.heap.size wr (w8.alloc (.cells #[.int .i64 no, .int .i64 ln] 76)) := hb8.alloc hb8.size _
      have hk10 : Blk (w8.alloc (.cells #[.int .i64 no, .int .i64 ln] 76)) w8.heap.size 76 #[.int .i64 no, .int .i64 ln] := Blk.new _ _ _
      obtain ⟨w9, hw9⟩ : ∃ q, w8.alloc (.cells #[.int .i64 no, .int .i64 ln] 76) = q := ⟨_, rfl⟩
      rw [hw9] at hb9 hk10
      have hb49 : Below w4.heap.size w4 w9 := HB.out.trans (hb9.mono HB.out.size)
      have hk39 := HK3r.out.keep hb9
      have hk49 := HK4r.out.keep hb9
      have s0 : w9.cell? ⟨w.heap.size, 0, none⟩ = some (.string kind) := hk39.cell 0
      have s1 : w9.cell? ⟨w.heap.size, 1, none⟩ = some (.string nm) := hk39.cell 1
      have s2 : w9.cell? ⟨w.heap.size, 2, none⟩ = some (.slice AF nF cF) := hk39.cell 2
      have s3 : w9.cell? ⟨w.heap.size, 3, none⟩ = some (.int .i64 line) := hk39.cell 3
      have t0 : w9.cell? ⟨w8.heap.size, 0, none⟩ = some (.int .i64 no) := hk10.cell 0
      have t1 : w9.cell? ⟨w8.heap.size, 1, none⟩ = some (.int .i64 ln) := hk10.cell 1
      have x0 : w9.cell? ⟨w.heap.size + 1, 0, none⟩ = some (.int .i64 0) := hk49.cell 0
      have x1 : w9.cell? ⟨w.heap.size + 1, 1, none⟩ = some (.int .i64 0) := hk49.cell 1
      have y0 : w9.frozen? ⟨w.heap.size + 1, 0, none⟩ = false := hk49.frozen 0
      have y1 : w9.frozen? ⟨w.heap.size + 1, 1, none⟩ = false := hk49.frozen 1
      have hva9 := HVA.out.keep hb9
      obtain ⟨m1, m2, m3, A5, n5, c5, A6, n6, c6, hkg, hvd⟩ := hva9.out (B := B) (τ := setTag τ2 w4.heap.size .data) (Nat.le_trans hBw (Nat.le_trans (Nat.le_add_right _ 2) HS4.out)) (fun b hb => setTag_ge _ _ hb)
      have v0 : w9.cell? ⟨g, 0, none⟩ = some (.map (some m1)) := hkg.cell 0
      have v1 : w9.cell? ⟨g, 1, none⟩ = some (.map (some m2)) := hkg.cell 1
      have v2 : w9.cell? ⟨g, 2, none⟩ = some (.map (some m3)) := hkg.cell 2
      have v3 : w9.cell? ⟨g, 3, none⟩ = some (.bool v.risk.neg) := hkg.cell 3
      have v4 : w9.cell? ⟨g, 4, none⟩ = some (.slice A5 n5 c5) := hkg.cell 4
      have v5 : w9.cell? ⟨g, 5, none⟩ = some (.slice A6 n6 c6) := hkg.cell 5
      have v6 : w9.cell? ⟨g, 6, none⟩ = some (.string v.seed) := hkg.cell 6
      have hbl9 := H4.out.keep hb49 (Ext.set w4 τ2 .data)
      have HST := Lib.hid (store_ok hbl9 HKK.out nm AF nF cF line hvd (by omega))
      have HW9 := Lib.hid hw9
      have HB49 := Lib.hid hb49
      have HK49 := Lib.hid hk49
      clear hcs hb8 hb9 hk10 hw9 hb49 hk39 hk49 hva9 hkg hvd hbl9 q0 q1 q2 q3 HVA
      go_upto_region 14 with (fail)
      rw [HW9.out]
      by_cases hno : no = 0
      case neg =>
        have hne : (no != 0) = true := by rw [bne_iff_ne]; exact hno
        have hne2 : (no == 0) = false := by rw [beq_eq_false_iff_ne]; exact hno
        have hrf : r = (⟨no, ln⟩, s.named kind nm) := by
          rw [HR2.out]
          exact if_pos hno
        have HRF := Lib.hid hrf
        clear hrf hno
        go_wp2_with fail
        refine ret_fault (no := no) (line := ln) rfl rfl HK49.out rfl rfl ?_
        rw [HRF.out]
        exact fin_blk (H4.out.keep HB49.out (Ext.refl _ _)) HE4.out (HBK4.out.trans HE4.out (BK.of_below HB49.out (Nat.le_trans hBw (Nat.le_trans (Nat.le_add_right _ 2) HS4.out)))) HT5.out hBw (by omega) no ln
      subst hno
      have hrf : r = (⟨0, 0⟩, storeP kind nm v (s.named kind nm)) := by
        rw [HR2.out]
        exact if_neg (by simp)
      have HRF := Lib.hid hrf
      clear hrf
      go_wp2_with fail
      refine HST.out.mono ?_
      rintro e w10 ⟨rfl, τ4, hE10, hbl10, hbk10⟩
      have htm : setTag τ2 w4.heap.size .data (w.heap.size + 1) = .tmp := (if_pos (by have := HS4.out; omega)).trans HT5.out
      have hlt9 : w.heap.size + 1 < w9.heap.size := HK49.out.lt
      have hk4x := HK49.out.tag hbk10.2 (by rw [htm]; simp)
      have z0 : w10.cell? ⟨w.heap.size + 1, 0, none⟩ = some (.int .i64 0) := hk4x.cell 0
      have z1 : w10.cell? ⟨w.heap.size + 1, 1, none⟩ = some (.int .i64 0) := hk4x.cell 1
      have a0 : w10.frozen? ⟨w.heap.size + 1, 0, none⟩ = false := hk4x.frozen 0
      have a1 : w10.frozen? ⟨w.heap.size + 1, 1, none⟩ = false := hk4x.frozen 1
      have hE49 : Ext w τ (setTag τ2 w4.heap.size .data) := HE4.out.trans HBK4.out.2.size (Ext.set _ _ _)
      have HE10 := Lib.hid (hE49.trans (Nat.le_trans HBK4.out.2.size HB49.out.size) hE10)
      have HBL10 := Lib.hid hbl10
      have HBK10 := Lib.hid ((HBK4.out.trans HE4.out (BK.of_below HB49.out (Nat.le_trans hBw (Nat.le_trans (Nat.le_add_right _ 2) HS4.out)))).trans hE49 hbk10)
      have HTX := Lib.hid ((hE10 _ hlt9).trans htm)
      have HK4X := Lib.hid hk4x
      clear hE10 hbl10 hbk10 htm hk4x hE49
      go_wp2_with fail
      refine ret_fault (no := 0) (line := 0) rfl rfl HK4X.out rfl rfl ?_
      rw [HRF.out]
      exact fin_blk HBL10.out HE10.out HBK10.out HTX.out hBw (by omega) 0 0
end Go.Proofs.YtjlhbfbdcfajfaaGreatDoor
/- schema: the closure of builder.link, and slices.IndexFunc with it. -/
namespace Go.Proofs.YtjlhbfbdcfajfaaGreatDoor
open Go.RowKit

set_option maxRecDepth 20000 in
theorem nameIs_ok {w : World} {S : Nat → Prop} {v : Value} {x : ContestD} (h : SV w S v x) (p : Nat) (nm : ByteArray) (hp : w.cell? ⟨p, 0, none⟩ = some (.string nm)) :
    Calls Tryz.prog 100 #[v, .pointer (some ⟨p, 0, none⟩)] w (RetV w (.bool (decide (x.name = nm)))) := by
  obtain ⟨cs, rfl, A, n, c, rfl, _⟩ := h
  have hb1 : Below w.heap.size w (w.alloc (.cells #[.string x.name, .slice A n c, .int .i64 x.method, .int .i64 x.seats, .int .i64 x.ranks, .int .i64 x.digits, .int .i64 x.ties, .int .i64 x.over, .int .i64 x.skip] 95)) := (Below.refl _ _).alloc (Nat.le_refl _) _
  have hk1 : Blk (w.alloc (.cells #[.string x.name, .slice A n c, .int .i64 x.method, .int .i64 x.seats, .int .i64 x.ranks, .int .i64 x.digits, .int .i64 x.ties, .int .i64 x.over, .int .i64 x.skip] 95)) w.heap.size 95 #[.string x.name, .slice A n c, .int .i64 x.method, .int .i64 x.seats, .int .i64 x.ranks, .int .i64 x.digits, .int .i64 x.ties, .int .i64 x.over, .int .i64 x.skip] := Blk.new _ _ _
  obtain ⟨w1, hw1⟩ : ∃ q, w.alloc (.cells #[.string x.name, .slice A n c, .int .i64 x.method, .int .i64 x.seats, .int .i64 x.ranks, .int .i64 x.digits, .int .i64 x.ties, .int .i64 x.over, .int .i64 x.skip] 95) = q := ⟨_, rfl⟩
  rw [hw1] at hb1 hk1
  have c0 : w1.cell? ⟨w.heap.size, 0, none⟩ = some (.string x.name) := hk1.cell 0
  have cp : w1.cell? ⟨p, 0, none⟩ = some (.string nm) := (hb1.cell (World.block_lt_of_cell? w _ hp)).trans hp
  have HW1 := Lib.hid hw1
  have HB1 := Lib.hid hb1
  clear hw1 hb1 hk1 hp
  go_enter Tryz.func100, Tryz.ntmps100
  by_cases hn : x.name = nm
  · have heq : (x.name.toList == nm.toList) = true := by rw [hn]; simp
    rw [decide_eq_true hn]
    clear hn
    go_upto_region 1 with (fail)
    rw [HW1.out]
    go_wp2_with fail
    go_ret
    exact ⟨rfl, HB1.out⟩
  · have heq : (x.name.toList == nm.toList) = false := (Lib.bytes_beq_false_iff _ _).2 hn
    rw [decide_eq_false hn]
    clear hn
    go_upto_region 1 with (fail)
    rw [HW1.out]
    go_wp2_with fail
    go_ret
    exact ⟨rfl, HB1.out⟩

set_option maxRecDepth 20000 in
set_option maxHeartbeats 2000000 in
theorem idxC_ok {w : World} {S : Nat → Prop} {A : Option Addr} {n c : Nat} {xs : List ContestD} (h : RS w S A n c xs) (hS : ∀ b, S b → b < w.heap.size) (p : Nat) (nm : ByteArray) (hp : w.cell? ⟨p, 0, none⟩ = some (.string nm)) :
    Calls Tryz.prog 99 #[.slice A n c, .func (.func 100) #[] #[.pointer (some ⟨p, 0, none⟩)]] w (RetV w (.int .i64 (idxContest nm xs 0))) := by
  obtain ⟨z, hz⟩ : ∃ z, idxContest nm xs 0 = z := ⟨_, rfl⟩
  rw [hz]
  have hzz := hz.symm
  have hm1 := h.max
  have H1 := Lib.hid h
  have HZ := Lib.hid hzz
  have HL1 := Lib.hid h.len
  have HP := Lib.hid hp
  clear h hz hzz hp
  go_enter Tryz.func99, Tryz.ntmps99
  go_wp2_with fail
  go_loopw [8] (fun iv wr => ∃ k : Nat, iv = .int .i64 k ∧ k ≤ n ∧ z = idxContest nm (xs.drop k) k ∧ Below w.heap.size w wr) (fun iv _ => n - (intOf iv).toNat)
  case atStart => exact ⟨0, rfl, Nat.zero_le _, by simpa using HZ.out, Below.refl _ _⟩
  case round =>
    clear HZ
    obtain ⟨k, rfl, hk, hzk, hb⟩ := hrel
    have HZK := Lib.hid hzk
    have HB := Lib.hid hb
    have HR := Lib.hid (H1.out.below hb hS)
    clear hzk hb
    by_cases hlt : k < n
    · have hlt2 : (k : Int) < (n : Int) := by omega
      obtain ⟨b, o, x, cs, rfl, hSb, hx, hr, hld⟩ := HR.out.load_at (fun b h => Nat.lt_of_lt_of_le (hS b h) HB.out.size) hlt
      have hkc : (k : Int) ≤ (c : Int) := by have := HR.out.cap; omega
      have hz1 : z = if x.name = nm then (k : Int) else idxContest nm (xs.drop (k + 1)) (k + 1) := by rw [HZK.out, drop_cons' hx]; rfl
      have HZ1 := Lib.hid hz1
      obtain ⟨A3, n3, c3, rfl, x1⟩ := hr
      have hla := hld wr (Below.refl _ _)
      have r0 : wr.cell? ⟨b, o + k * 9, none⟩ = some (.string x.name) := hla.1 _ rfl
      have r1 : wr.cell? ⟨b, o + k * 9 + 1, none⟩ = some (.slice A3 n3 c3) := hla.2 1 _ rfl
      have r2 : wr.cell? ⟨b, o + k * 9 + 2, none⟩ = some (.int .i64 x.method) := hla.2 2 _ rfl
      have r3 : wr.cell? ⟨b, o + k * 9 + 3, none⟩ = some (.int .i64 x.seats) := hla.2 3 _ rfl
      have r4 : wr.cell? ⟨b, o + k * 9 + 4, none⟩ = some (.int .i64 x.ranks) := hla.2 4 _ rfl
      have r5 : wr.cell? ⟨b, o + k * 9 + 5, none⟩ = some (.int .i64 x.digits) := hla.2 5 _ rfl
      have r6 : wr.cell? ⟨b, o + k * 9 + 6, none⟩ = some (.int .i64 x.ties) := hla.2 6 _ rfl
      have r7 : wr.cell? ⟨b, o + k * 9 + 7, none⟩ = some (.int .i64 x.over) := hla.2 7 _ rfl
      have r8 : wr.cell? ⟨b, o + k * 9 + 8, none⟩ = some (.int .i64 x.skip) := hla.2 8 _ rfl
      have hpr : wr.cell? ⟨p, 0, none⟩ = some (.string nm) := (HB.out.cell (World.block_lt_of_cell? w _ HP.out)).trans HP.out
      have HC := Lib.hid (nameIs_ok (w := wr) (S := S) (x := x) ⟨_, rfl, A3, n3, c3, rfl, x1⟩ p nm hpr)
      clear hla hld hx hz1 x1 hpr
      go_wp2_with fail
      refine HC.out.mono ?_
      rintro e w3 ⟨rfl, hb3⟩
      have HB3 := Lib.hid (below_more HB.out hb3)
      clear hb3
      by_cases hn : x.name = nm
      · rw [decide_eq_true hn]
        have hzf : z = (k : Int) := by rw [HZ1.out, if_pos hn]
        have HZF := Lib.hid hzf
        clear hzf hn
        go_wp2_with fail
        go_ret
        exact ⟨by rw [HZF.out]; rfl, HB3.out⟩
      · rw [decide_eq_false hn]
        have hzf : z = idxContest nm (xs.drop (k + 1)) (k + 1) := by rw [HZ1.out, if_neg hn]
        have HZF := Lib.hid hzf
        clear hzf hn
        go_wp2_with fail
        go_roundw
        case rel => exact ⟨k + 1, by go_num, by omega, HZF.out, HB3.out⟩
        case measure => simp [intOf]; omega
    · have hkn : k = n := by omega
      have hzf : z = -1 := by
        rw [HZK.out, List.drop_eq_nil_of_le (by rw [HL1.out]; omega)]
        rfl
      have HZF := Lib.hid hzf
      clear hzf hkn
      go_wp2_with fail
      go_ret
      exact ⟨by rw [HZF.out]; rfl, HB.out⟩
end Go.Proofs.YtjlhbfbdcfajfaaGreatDoor
