/- Sto2 Draw3 Sto3 -/
import Derived.Test.YtjlhbfbdcfajfaaGreatDoorG17
import Derived.Test.YtjlhbfbdcfajfaaGreatDoorG02
/- schema: builder.store, the branch of the audit. PRINTED by wip/gen/sto2.py -/
namespace Go.Proofs.YtjlhbfbdcfajfaaGreatDoor
open Go.RowKit Go.Maps Go.WideMaps

set_option maxRecDepth 20000 in
set_option maxHeartbeats 2000000 in
theorem store_audit {w : World} {B bb mn N : Nat} {τ : Nat → Tag} {f : ByteArray → Option Value} {vP vC vS vN vD vV : Value} {rC : List (RawN 9)} {rS : List (RawN 3)} {rV : List (RawN 7)} {s : BldD} (h : BldIn w B bb mn N τ f vP vC vS vN vD vV rC rS rV s) (hl : s.vals.length = s.e.styl.length)
    (nm : ByteArray) (AF : Option Addr) (nF cF : Nat) (line : Int) {cs : List Value} {v : Vals} (hv : ValD w B τ cs v) (_hN : N < 1099511627776) :
    Calls Tryz.prog 97 #[.pointer (some ⟨bb, 0, none⟩), .agg #[.string kAudit, .string nm, .slice AF nF cF, .int .i64 line], .agg cs.toArray] w (RetSto w B bb (N + 1) τ (storeP kAudit nm v s)) := by
  have hvd0 := hv
  obtain ⟨m1, m2, m3, M, fl, vNv, vDv, rfl, d1, d2, d3, hn, hli, hls, hln, hvn, hvd⟩ := hv
  have hbx : Below w.heap.size w ((w.alloc (.cells #[.string kAudit, .string nm, .slice AF nF cF, .int .i64 line] 110)).alloc (.cells #[.map (some m1), .map (some m2), .map (some m3), .bool v.risk.neg, vNv, vDv, .string v.seed] 168)) := ((Below.refl _ _).alloc (Nat.le_refl _) _).alloc (by simp) _
  have hk4 : Blk ((w.alloc (.cells #[.string kAudit, .string nm, .slice AF nF cF, .int .i64 line] 110)).alloc (.cells #[.map (some m1), .map (some m2), .map (some m3), .bool v.risk.neg, vNv, vDv, .string v.seed] 168)) w.heap.size 110 #[.string kAudit, .string nm, .slice AF nF cF, .int .i64 line] := (Blk.new _ _ _).alloc _
  have hk5 : Blk ((w.alloc (.cells #[.string kAudit, .string nm, .slice AF nF cF, .int .i64 line] 110)).alloc (.cells #[.map (some m1), .map (some m2), .map (some m3), .bool v.risk.neg, vNv, vDv, .string v.seed] 168)) (w.heap.size + 1) 168 #[.map (some m1), .map (some m2), .map (some m3), .bool v.risk.neg, vNv, vDv, .string v.seed] := Blk.new' (by simp) _ _
  have hsz1 : ((w.alloc (.cells #[.string kAudit, .string nm, .slice AF nF cF, .int .i64 line] 110)).alloc (.cells #[.map (some m1), .map (some m2), .map (some m3), .bool v.risk.neg, vNv, vDv, .string v.seed] 168)).heap.size = w.heap.size + 2 := by simp
  obtain ⟨w1, hw1⟩ : ∃ x, (w.alloc (.cells #[.string kAudit, .string nm, .slice AF nF cF, .int .i64 line] 110)).alloc (.cells #[.map (some m1), .map (some m2), .map (some m3), .bool v.risk.neg, vNv, vDv, .string v.seed] 168) = x := ⟨_, rfl⟩
  rw [hw1] at hbx hk4 hk5 hsz1
  have hlt : bb < w.heap.size := h.blk.lt
  have hBw : B ≤ w.heap.size := Nat.le_of_lt (Nat.lt_of_le_of_lt h.hb hlt)
  have hBb : B ≤ bb := h.hb
  have hkb : Blk w1 bb 135 (bbCells s mn vP vC vS vN vD vV) := h.blk.keep hbx
  have e0 : w1.cell? ⟨w.heap.size, 0, none⟩ = some (.string ⟨#[97, 117, 100, 105, 116]⟩) := hk4.cell 0
  have e1 : w1.cell? ⟨w.heap.size, 1, none⟩ = some (.string nm) := hk4.cell 1
  have v0 : w1.cell? ⟨w.heap.size + 1, 0, none⟩ = some (.map (some m1)) := hk5.cell 0
  have v1 : w1.cell? ⟨w.heap.size + 1, 1, none⟩ = some (.map (some m2)) := hk5.cell 1
  have z9 : w1.cell? ⟨bb, 9, none⟩ = some (.bool s.e.risk.neg) := hkb.cell 9
  have y9 : w1.frozen? ⟨bb, 9, none⟩ = false := hkb.frozen 9
  have z10 : w1.cell? ⟨bb, 10, none⟩ = some (vN) := hkb.cell 10
  have y10 : w1.frozen? ⟨bb, 10, none⟩ = false := hkb.frozen 10
  have z11 : w1.cell? ⟨bb, 11, none⟩ = some (vD) := hkb.cell 11
  have y11 : w1.frozen? ⟨bb, 11, none⟩ = false := hkb.frozen 11
  have z13 : w1.cell? ⟨bb, 13, none⟩ = some (.string s.e.seed) := hkb.cell 13
  have y13 : w1.frozen? ⟨bb, 13, none⟩ = false := hkb.frozen 13
  have HN := Lib.hid (hn.keep hbx)
  have HLI := Lib.hid (hli.keep hbx)
  have HLS := Lib.hid hls
  have HVD := Lib.hid hvd0
  have HW1 := Lib.hid hw1
  have HKB := Lib.hid hkb
  have HK4 := Lib.hid hk4
  have HK5 := Lib.hid hk5
  have HBX := Lib.hid hbx
  have HH := Lib.hid h
  have HL := Lib.hid hl
  have HSZ1 := Lib.hid hsz1
  obtain ⟨AN, nN, cN, rfl, hrn⟩ := hvn
  obtain ⟨AD, nD, cD, rfl, hrd⟩ := hvd
  have v3 : w1.cell? ⟨w.heap.size + 1, 3, none⟩ = some (.bool v.risk.neg) := hk5.cell 3
  have v4 : w1.cell? ⟨w.heap.size + 1, 4, none⟩ = some (.slice AN nN cN) := hk5.cell 4
  have v5 : w1.cell? ⟨w.heap.size + 1, 5, none⟩ = some (.slice AD nD cD) := hk5.cell 5
  have v6 : w1.cell? ⟨w.heap.size + 1, 6, none⟩ = some (.string v.seed) := hk5.cell 6
  have HRN := Lib.hid hrn
  have HRD := Lib.hid hrd
  have h1s : bb ≠ w.heap.size + 1 := by omega
  clear hn hw1 hkb hbx h hl hk4 hk5 d1 d2 d3 hli hls hln hvd0 hsz1 hrn hrd
  show Calls _ _ #[.pointer (some ⟨bb, 0, none⟩), .agg #[.string ⟨#[97, 117, 100, 105, 116]⟩, .string nm, .slice AF nF cF, .int .i64 line], .agg #[.map (some m1), .map (some m2), .map (some m3), .bool v.risk.neg, .slice AN nN cN, .slice AD nD cD, .string v.seed]] w _
  unfold kAudit at HW1
  go_enter Tryz.func97, Tryz.ntmps97
  go_upto_region 1 with (fail)
  rw [HW1.out]
  go_wp2_with fail
  go_region
  go_end0
  have hbd : Below w.heap.size w w1 := HBX.out
  have hw3 : Kept w1 ((((w1.setCell ⟨bb, 9, none⟩ (.bool v.risk.neg)).setCell ⟨bb, 10, none⟩ (.slice AN nN cN)).setCell ⟨bb, 11, none⟩ (.slice AD nD cD)).setCell ⟨bb, 13, none⟩ (.string v.seed)) τ (One .bb) :=
    (((Kept.of_set (T := One .bb) (τ := τ) _ (p := ⟨bb, 9, none⟩) (show One .bb (τ bb) from HH.out.tb) _).trans (Ext.refl _ _) (Kept.of_set (τ := τ) _ (p := ⟨bb, 10, none⟩) (show One .bb (τ bb) from HH.out.tb) _)).trans (Ext.refl _ _) (Kept.of_set (τ := τ) _ (p := ⟨bb, 11, none⟩) (show One .bb (τ bb) from HH.out.tb) _)).trans (Ext.refl _ _) (Kept.of_set (τ := τ) _ (p := ⟨bb, 13, none⟩) (show One .bb (τ bb) from HH.out.tb) _)
  have h1 := HH.out.keep hbd (Ext.refl w τ)
  have hd := Dat.mono (B := B) (τ := τ) hbd.size (Ext.refl _ _)
  have hkk : Keeps (Dat w B τ) w w1 := (Kept.of_below (T := NoTag) (τ := τ) hbd).keeps (by simp [NoTag])
  refine ⟨rfl, τ, Ext.refl _ _, ⟨⟨mn, f, vP, vC, vS, .slice AN nN cN, .slice AD nD cD, vV, rC, rS, rV, ?_⟩, HL.out⟩, (((((hbd.mono hBw).setCell (p := ⟨bb, 9, none⟩) hBb _).setCell (p := ⟨bb, 10, none⟩) hBb _).setCell (p := ⟨bb, 11, none⟩) hBb _).setCell (p := ⟨bb, 13, none⟩) hBb _).drew, ((Kept.of_below hbd).trans (Ext.refl _ _) (hw3.weak fun t h => by rw [show t = .bb from h]; simp)).trans (Ext.refl _ _) (Kept.of_below (Below.refl _ _).drew)⟩
  exact (h1.setE (e' := { s.e with risk := v.risk, seed := v.seed }) hw3 (Ext.refl _ _) ((((HKB.out.set_ 9 _).set_ 10 _).set_ 11 _).set_ 13 _) rfl rfl h1.dP ⟨_, _, _, rfl, HRN.out.keep hd hkk⟩ ⟨_, _, _, rfl, HRD.out.keep hd hkk⟩).tag (T := NoTag) (Kept.of_below (Below.refl _ _).drew) (fun _ h => h.elim) (Ext.refl _ _) (Nat.le_succ _)

end Go.Proofs.YtjlhbfbdcfajfaaGreatDoor
/- A region that draws its order, walked in one order: as XDraw, where the last operation waits for all others directly or through others. -/
namespace Go.Proofs.YtjlhbfbdcfajfaaGreatDoor
open Go

/-- operation k waits for operation i, directly or through others -/
def reach (ops : Array Oper) (i : Nat) : Nat → Nat → Bool
  | 0, _ => false
  | f + 1, k => match ops[k]? with | none => false | some o => o.after.any fun e => Region.binds .any e && (e.on == i || reach ops i f e.on)
def lastOkT (n : Nat) (ops : Array Oper) : Bool :=
  ops.size == n + 1 &&
  (List.range n).all (fun i => reach ops i 6 n) &&
  (List.range (n + 1)).all (fun i => ((ops[i]?).map fun o => (o.after.all fun e => !Region.binds .any e || e.on < i) && (match o.guard with | some (j, _) => decide (j < n) | none => true)).getD false)
/-- what is listed has come up behind all that it waits for -/
def Cl (ops : Array Oper) (listed : Array Bool) : Prop := ∀ j x, ops[j]? = some x → listed.getD j false = true → ∀ e ∈ x.after, Region.binds .any e = true → listed.getD e.on false = true
theorem Cl.reach {ops : Array Oper} {listed : Array Bool} (h : Cl ops listed) {i : Nat} : ∀ (f k : Nat), (∀ x, ops[k]? = some x → ∀ e ∈ x.after, Region.binds .any e = true → listed.getD e.on false = true) → reach ops i f k = true → listed.getD i false = true := by
  intro f
  induction f with
  | zero => intro k _ hr; cases hr
  | succ f ih =>
    intro k hk hr
    unfold Go.Proofs.YtjlhbfbdcfajfaaGreatDoor.reach at hr
    cases hx : ops[k]? with
    | none => rw [hx] at hr; cases hr
    | some x =>
      rw [hx] at hr
      simp only [Array.any_eq_true, Bool.and_eq_true, Bool.or_eq_true, beq_iff_eq] at hr
      obtain ⟨q, hq, hb, hr⟩ := hr
      have he : x.after[q] ∈ x.after := Array.getElem_mem hq
      generalize x.after[q] = e at he hb hr
      have h1 := hk x hx e he hb
      rcases hr with hr | hr
      · rw [← hr]; exact h1
      · exact ih e.on (fun y hy => h e.on y hy h1) hr

theorem Cl.take {ops : Array Oper} {listed : Array Bool} (h : Cl ops listed) {i : Nat} (hi : i ∈ Region.ready .any ops listed) : Cl ops (listed.setIfInBounds i true) := by
  intro j x hx hl e he hb
  obtain ⟨_, y, hy, hya⟩ := mem_ready.1 hi
  by_cases hj : i = j
  · subst hj
    rw [hy] at hx
    injection hx with hx
    subst hx
    exact getD_set_true (i := i) (hya e he hb)
  · rw [getD_set_ne false hj] at hl
    exact getD_set_true (i := i) (h j x hx hl e he hb)
section
variable {P : Program} {ops : Array Oper} {Q : Exit → Act → World → Prop} {n : Nat} {o : Oper}

theorem lastOk_sizeT (h : lastOkT n ops = true) : ops.size = n + 1 := by
  simp only [lastOkT, Bool.and_eq_true, beq_iff_eq] at h
  exact h.1.1
theorem lastOk_waitsT (h : lastOkT n ops = true) {i : Nat} (hi : i < n) : reach ops i 6 n = true := by
  simp only [lastOkT, Bool.and_eq_true] at h
  exact List.all_eq_true.1 h.1.2 i (List.mem_range.2 hi)
theorem lastOk_eachT (h : lastOkT n ops = true) {i : Nat} {x : Oper} (hx : ops[i]? = some x) : (∀ e ∈ x.after, Region.binds .any e = true → e.on < i) ∧ ∀ j b, x.guard = some (j, b) → j < n := by
  have hi : i < n + 1 := by rw [← lastOk_sizeT h]; exact (Array.getElem?_eq_some_iff.1 hx).1
  simp only [lastOkT, Bool.and_eq_true] at h
  have := List.all_eq_true.1 h.2 i (List.mem_range.2 hi)
  rw [hx] at this
  simp only [Option.map_some, Option.getD_some, Bool.and_eq_true, Array.all_eq_true_iff_forall_mem, Bool.or_eq_true, Bool.not_eq_true', decide_eq_true_eq] at this
  refine ⟨fun e he hb => (this.1 e he).resolve_left (by simp [hb]), fun j b hg => ?_⟩
  have h2 := this.2
  rw [hg] at h2
  simpa using h2

theorem wanted_idleT (h : lastOkT n ops = true) {i : Nat} {x y : Oper} (hx : ops[i]? = some x) (tmps : Array Value) : Region.wanted x (yielded (ops.setIfInBounds n y) tmps) = Region.wanted x (yielded ops tmps) := by
  unfold Region.wanted
  cases hg : x.guard with
  | none => rfl
  | some g =>
    obtain ⟨j, b⟩ := g
    have := (lastOk_eachT h hx).2 j b hg
    simp only []
    rw [yielded_idle tmps (by omega)]

/-- the last operation is put off -/
theorem wpAny_lastT (h : lastOkT n ops = true) (ho : ops[n]? = some o) : ∀ (fuel : Nat) (listed : Array Bool) (a : Act) (w : World), listed.size = n + 1 → listed.getD n true = false → Cl ops listed →
    wpAny P .any (ops.setIfInBounds n (idle n o)) (Behind P ops n Q) fuel listed a w → wpAny P .any ops Q fuel listed a w := by
  have hlt : n < ops.size := (Array.getElem?_eq_some_iff.1 ho).1
  have hnext : ∀ (listed : Array Bool), listed.size = n + 1 → listed.getD n true = false → Region.ready .any ops listed ≠ [] := by
    intro listed hs hn
    have : ∀ m, m ≤ n → (∀ j, j < m → listed.getD j false = true) ∨ ∃ i, i ∈ Region.ready .any ops listed := by
      intro m
      induction m with
      | zero => intro _; exact .inl (fun j hj => by omega)
      | succ m ih =>
        intro hm
        rcases ih (by omega) with h1 | h1
        · by_cases hl : listed.getD m true = false
          · right
            refine ⟨m, mem_ready.2 ⟨hl, ops[m]'(by omega), Array.getElem?_eq_getElem (by omega), fun e he hb => h1 _ ?_⟩⟩
            exact (lastOk_eachT h (Array.getElem?_eq_getElem (by omega))).1 e he hb
          · left
            intro j hj
            rcases (show j < m ∨ j = m by omega) with h2 | rfl
            · exact h1 j h2
            · have : j < listed.size := by omega
              simpa [this] using hl
        · exact .inr h1
    rcases this n (Nat.le_refl _) with h1 | ⟨i, hi⟩
    · have : n ∈ Region.ready .any ops listed := mem_ready.2 ⟨hn, o, ho, fun e he hb => h1 _ ((lastOk_eachT h ho).1 e he hb)⟩
      intro h2; rw [h2] at this; cases this
    · intro h2; rw [h2] at hi; cases hi
  have hready : ∀ listed, Region.ready .any (ops.setIfInBounds n (idle n o)) listed = [] ↔ Region.ready .any ops listed = [] := by
    intro listed
    constructor
    · intro h1
      apply List.eq_nil_iff_forall_not_mem.2
      intro j hj
      have := (ready_idle ho listed j).2 hj
      rw [h1] at this; cases this
    · intro h1
      apply List.eq_nil_iff_forall_not_mem.2
      intro j hj
      have := (ready_idle ho listed j).1 hj
      rw [h1] at this; cases this
  intro fuel
  induction fuel with
  | zero =>
    intro listed a w hs hn _ hw
    exact absurd ((hready listed).1 hw.1) (hnext listed hs hn)
  | succ fuel ih =>
    intro listed a w hs hn hcl hw
    refine ⟨fun h0 => absurd h0 (hnext listed hs hn), fun i hi => ?_⟩
    have h1 := hw.2 i ((ready_idle ho listed i).2 hi)
    by_cases hin : n = i
    · subst hin
      unfold wpOp at h1
      rw [Array.getElem?_setIfInBounds_self_of_lt hlt] at h1
      have hnw : Region.wanted (idle n o) (yielded (ops.setIfInBounds n (idle n o)) a.tmps) = false := by
        have : yielded (ops.setIfInBounds n (idle n o)) a.tmps n = none := by
          unfold yielded
          rw [Array.getElem?_setIfInBounds_self_of_lt hlt]
          rfl
        unfold Region.wanted
        show (yielded (ops.setIfInBounds n (idle n o)) a.tmps n == some true) = false
        rw [this]
        rfl
      simp only [hnw, Bool.false_eq_true, if_false] at h1
      have hall : Region.ready .any ops (listed.setIfInBounds n true) = [] := by
        apply List.eq_nil_iff_forall_not_mem.2
        intro j hj
        obtain ⟨h2, x, hx, _⟩ := mem_ready.1 hj
        have hjn : j < n + 1 := by rw [← lastOk_sizeT h]; exact (Array.getElem?_eq_some_iff.1 hx).1
        rcases (show j < n ∨ j = n by omega) with h3 | rfl
        · obtain ⟨_, y, hy, hya⟩ := mem_ready.1 hi
          have h4 := hcl.reach 6 n (fun x hx e he hb => by rw [hy] at hx; injection hx with hx; subst hx; exact hya e he hb) (lastOk_waitsT h h3)
          have h5 := getD_set_true (i := n) h4
          have hjs : j < (listed.setIfInBounds n true).size := by simp; omega
          rw [Array.getD_eq_getD_getElem?, Array.getElem?_eq_getElem hjs] at h2 h5
          simp only [Option.getD_some] at h2 h5
          rw [h2] at h5
          cases h5
        · rw [Array.getD_eq_getD_getElem?, Array.getElem?_setIfInBounds_self_of_lt (by omega)] at h2
          cases h2
      have hq : Behind P ops n Q .normal a w := by
        have hall' := (hready _).2 hall
        cases fuel with
        | zero => exact h1.2
        | succ fuel => exact h1.1 hall'
      exact wpOp_mono (fun a' w' hQ => wpAny_done hall hQ fuel) hq
    · have hns : (listed.setIfInBounds i true).getD n true = false := by rw [getD_set_ne true (Ne.symm hin)]; exact hn
      have h2 : wpOp P (ops.setIfInBounds n (idle n o)) (Behind P ops n Q) i (wpAny P .any ops Q fuel (listed.setIfInBounds i true)) a w :=
        wpOp_mono (fun a' w' hh => ih _ a' w' (by simpa using hs) hns (hcl.take hi) hh) h1
      unfold wpOp at h2 ⊢
      rw [Array.getElem?_setIfInBounds_ne hin] at h2
      cases hx : ops[i]? with
      | none => rw [hx] at h2; exact h2
      | some x =>
        rw [hx] at h2
        simp only [] at h2 ⊢
        rw [wanted_idleT h hx] at h2
        split
        · rename_i hwt
          rw [if_pos hwt] at h2
          rcases h2 with h2 | h2
          · exact .inl (upon_behind h2)
          · exact .inr h2
        · rename_i hwt
          rw [if_neg hwt] at h2
          exact h2

theorem wpAnyH_of_seqLT {S : World → Prop} (h : lastOkT n ops = true) (ho : ops[n]? = some o) (hsel : Region.noSelect (ops.setIfInBounds n (idle n o)) = true)
    (hQ : ∀ c a d v w, Q (.panic c) (Act.put a d v) w → Q (.panic c) a w) :
    ∀ (l : List (Nat × Bool)) (fuel : Nat) (listed : Array Bool) (a : Act) (w : World), l.length < fuel → orderOk (ops.setIfInBounds n (idle n o)) n l listed = true → S w →
      seqL P ops Q S n l a w → wpAnyH P .any (ops.setIfInBounds n (idle n o)) (Behind P ops n Q) S fuel listed a w := by
  have hlt : n < ops.size := (Array.getElem?_eq_some_iff.1 ho).1
  intro l
  induction l with
  | nil =>
    intro fuel listed a w hf hok hS hs
    obtain ⟨fuel, rfl⟩ : ∃ f, fuel = f + 1 := ⟨fuel - 1, by simp at hf; omega⟩
    have hr : Region.ready .any (ops.setIfInBounds n (idle n o)) listed = [n] := by simpa [orderOk] using hok
    refine wpAnyH_all hr (by simp) fun i hi => ?_
    simp at hi
    subst hi
    unfold wpOp
    rw [Array.getElem?_setIfInBounds_self_of_lt hlt]
    have hnw : Region.wanted (idle i o) (yielded (ops.setIfInBounds i (idle i o)) a.tmps) = false := by
      have : yielded (ops.setIfInBounds i (idle i o)) a.tmps i = none := by
        unfold yielded
        rw [Array.getElem?_setIfInBounds_self_of_lt hlt]
        rfl
      unfold Region.wanted
      show (yielded (ops.setIfInBounds i (idle i o)) a.tmps i == some true) = false
      rw [this]
      rfl
    simp only [hnw, Bool.false_eq_true, if_false]
    refine ⟨hS, wpAnyH_done ?_ hs fuel⟩
    apply List.eq_nil_iff_forall_not_mem.2
    intro j hj
    obtain ⟨h1, x, hx, hall⟩ := mem_ready.1 hj
    by_cases hji : j = i
    · subst hji
      have h0 : j ∈ Region.ready .any (ops.setIfInBounds j (idle j o)) listed := by rw [hr]; simp
      have h2 := (mem_ready.1 h0).1
      have hjs : j < listed.size := by
        rcases Nat.lt_or_ge j listed.size with h' | h'
        · exact h'
        · rw [Array.getD_eq_getD_getElem?, Array.getElem?_eq_none h'] at h2; cases h2
      rw [Array.getD_eq_getD_getElem?, Array.getElem?_setIfInBounds_self_of_lt hjs] at h1
      cases h1
    · rw [getD_set_ne true (Ne.symm hji)] at h1
      -- j waits for nothing that is unlisted but i; i is the last: nobody waits for it
      have hx' : ops[j]? = some x := by rw [Array.getElem?_setIfInBounds_ne (Ne.symm hji)] at hx; exact hx
      have hjn : j < i + 1 := by rw [← lastOk_sizeT h]; exact (Array.getElem?_eq_some_iff.1 hx').1
      have hj2 : j ∈ Region.ready .any (ops.setIfInBounds i (idle i o)) listed := by
        refine mem_ready.2 ⟨h1, x, hx, fun e he hb => ?_⟩
        have h3 := hall e he hb
        have h4 := (lastOk_eachT h hx').1 e he hb
        rw [getD_set_ne false (by omega)] at h3
        exact h3
      rw [hr] at hj2
      simp at hj2
      exact hji hj2
  | cons p l ih =>
    obtain ⟨i, r⟩ := p
    intro fuel listed a w hf hok hS hs
    obtain ⟨fuel, rfl⟩ : ∃ f, fuel = f + 1 := ⟨fuel - 1, by simp at hf; omega⟩
    simp only [orderOk, Bool.and_eq_true, bne_iff_ne] at hok
    obtain ⟨⟨hin, hstep⟩, hrest⟩ := hok
    simp only [seqL] at hs
    cases hx : ops[i]? with
    | none => rw [hx] at hs; exact hs.elim
    | some x =>
      rw [hx] at hs
      have hx' : (ops.setIfInBounds n (idle n o))[i]? = some x := by rw [Array.getElem?_setIfInBounds_ne (Ne.symm hin)]; exact hx
      cases r with
      | true =>
        simp only [if_true, Bool.and_eq_true] at hstep hs
        obtain ⟨v, hy, hs⟩ := hs
        refine wpAnyH_take hx' hsel hstep.2 hstep.1 (fun c a w hq => hQ c a x.dst v w hq) ?_ hS (ih fuel _ _ _ (by simp at hf; omega) hrest hS hs)
        unfold YieldsIf at hy ⊢
        rw [wanted_idleT h hx]
        exact hy
      | false =>
        simp only [Bool.false_eq_true, if_false, beq_iff_eq] at hstep hs
        refine wpAnyH_all hstep (by simp) fun j hj => ?_
        simp at hj
        subst hj
        unfold wpOp at hs ⊢
        rw [hx] at hs
        rw [hx']
        simp only [] at hs ⊢
        rw [wanted_idleT h hx]
        split
        · rename_i hwt
          rw [if_pos hwt] at hs
          rcases hs with hs | hs
          · refine .inl (Oper.wp_mono (K := fun a' w' => S w' ∧ seqL P ops Q S n l a' w') (fun a' w' hh => ⟨hh.1, ih fuel _ a' w' (by simp at hf; omega) hrest hh.1 hh.2⟩) ?_)
            exact behind_upon hs
          · exact .inr hs
        · rename_i hwt
          rw [if_neg hwt] at hs
          exact ⟨hs.1, ih fuel _ _ _ (by simp at hf; omega) hrest hs.1 hs.2⟩

/-- THE LAW -/
theorem wp_region_seqT {id : Nat} {a : Act} {w : World} (S : World → Prop) (n : Nat) (l : List (Nat × Bool)) (hm : P.follows .mixedOrders = true) (ho : ops[n]? = some o) (h : lastOkT n ops = true)
    (hsel : Region.noSelect (ops.setIfInBounds n (idle n o)) = true) (hl : (orderOk (ops.setIfInBounds n (idle n o)) n l (Array.replicate (n + 1) false) && l.length == n) = true)
    (hQ : ∀ c a d v w, Q (.panic c) (Act.put a d v) w → Q (.panic c) a w) (hS : S w.drew) (hs : seqL P ops Q S n l a w.drew) : (Code.region id ops true).wp P Q a w := by
  simp only [Bool.and_eq_true, beq_iff_eq] at hl
  refine wp_region_any hm ?_
  rw [lastOk_sizeT h]
  exact wpAny_lastT h ho _ _ _ _ (by simp) (by simp) (fun j x _ hl => by simp only [Array.getD_eq_getD_getElem?, Array.getElem?_replicate] at hl; split at hl <;> cases hl) (wpAny_of_held _ _ _ _ (wpAnyH_of_seqLT h ho hsel hQ l _ _ _ _ (by omega) hl.1 hS hs))

/- the steps -/
end
end Go.Proofs.YtjlhbfbdcfajfaaGreatDoor
/- schema: builder.store, the branch of the contest. PRINTED by wip/gen/sto3.py -/
namespace Go.Proofs.YtjlhbfbdcfajfaaGreatDoor
open Go.RowKit Go.Maps Go.WideMaps

theorem Tryz.contTy : SliceTy Tryz.prog 23 95 9 96 := SliceTy.mk' (z := .agg #[.string ⟨#[]⟩, .slice none 0 0, .int .i64 0, .int .i64 0, .int .i64 0, .int .i64 0, .int .i64 0, .int .i64 0, .int .i64 0]) Tryz.underlying23 (by kernel_rfl) rfl (by omega)
/-- 'm[s]' as a read -/
theorem run_look {w : World} {b n : Nat} {f : ByteArray → Option Value} {o : Oper} {a : Act} {m x : Operand} {t e : TypeId} (hop : o.op = Op.lookup t m x false) (ht : Tryz.prog.underlying t = some (.map 9 e)) {z : Value} (hz : (zeroValue e).run Tryz.prog w = .ok z w)
    (hm : a.eval m = .map (some b)) (h : MapIs w b n f) (s : ByteArray) (hx : a.eval x = .string s) (hs : s.size ≤ maxLen) {u : Value} (hu : (f s).getD z = u) : (execOp a.eval o).run Tryz.prog w = .ok (.value u) w := by
  obtain ⟨D, h1, _, _, h3⟩ := h
  obtain ⟨v, ps, hrun, hv⟩ := h1.lookup strKeyed ht hz (zd := .held z) (zp := []) rfl (keyS_of s hs)
  rw [h3] at hv
  have hv' : v = (f s).getD z := held_inj hv
  subst hv'
  simp [execOp, hop, hm, hx, hrun, hu]
/-- what the region reads -/
structure ContS (bb g4 g5 m1 m2 M : Nat) (vC : Value) (nm : ByteArray) (v : Vals) (fl : ByteArray → Option Value) (w : World) : Prop where
  c5 : w.cell? ⟨bb, 5, none⟩ = some vC
  c4 : w.cell? ⟨g4, 1, none⟩ = some (.string nm)
  cm : w.cell? ⟨g5, 1, none⟩ = some (.map (some m2))
  hN : MapIs w m1 M (ints v.num)
  hL : MapIs w m2 M fl
theorem Own.grownTag {w w' : World} {B : Nat} {e : TypeId} {α : Type} [Rep α] {v : Value} {xs : List α} {τ : Nat → Tag} {T : Tag → Prop} (_ : Own w NoBlk B e v xs) (ht : ∀ g, v.ownBlock = some g → T (τ g)) (hg : w.grownBy w' v.ownBlock) : Kept w w' τ T :=
  Kept.of_grown hg fun g h _ => ht g h

set_option maxRecDepth 20000 in
set_option maxHeartbeats 2000000 in
theorem store_contest {w : World} {B bb mn N : Nat} {τ : Nat → Tag} {f : ByteArray → Option Value} {vP vC vS vN vD vV : Value} {rC : List (RawN 9)} {rS : List (RawN 3)} {rV : List (RawN 7)} {s : BldD} (h : BldIn w B bb mn N τ f vP vC vS vN vD vV rC rS rV s) (hl : s.vals.length = s.e.styl.length)
    (nm : ByteArray) (AF : Option Addr) (nF cF : Nat) (line : Int) {cs : List Value} {v : Vals} (hv : ValD w B τ cs v) (hN : N < 1099511627776) :
    Calls Tryz.prog 97 #[.pointer (some ⟨bb, 0, none⟩), .agg #[.string kContest, .string nm, .slice AF nF cF, .int .i64 line], .agg cs.toArray] w (RetSto w B bb (N + 1) τ (storeP kContest nm v s)) := by
  have hvd0 := hv
  obtain ⟨m1, m2, m3, M, fl, vNv, vDv, rfl, d1, d2, d3, hn, hli, hls, hln, hvn, hvd⟩ := hv
  have hbx : Below w.heap.size w ((w.alloc (.cells #[.string kContest, .string nm, .slice AF nF cF, .int .i64 line] 110)).alloc (.cells #[.map (some m1), .map (some m2), .map (some m3), .bool v.risk.neg, vNv, vDv, .string v.seed] 168)) := ((Below.refl _ _).alloc (Nat.le_refl _) _).alloc (by simp) _
  have hk4 : Blk ((w.alloc (.cells #[.string kContest, .string nm, .slice AF nF cF, .int .i64 line] 110)).alloc (.cells #[.map (some m1), .map (some m2), .map (some m3), .bool v.risk.neg, vNv, vDv, .string v.seed] 168)) w.heap.size 110 #[.string kContest, .string nm, .slice AF nF cF, .int .i64 line] := (Blk.new _ _ _).alloc _
  have hk5 : Blk ((w.alloc (.cells #[.string kContest, .string nm, .slice AF nF cF, .int .i64 line] 110)).alloc (.cells #[.map (some m1), .map (some m2), .map (some m3), .bool v.risk.neg, vNv, vDv, .string v.seed] 168)) (w.heap.size + 1) 168 #[.map (some m1), .map (some m2), .map (some m3), .bool v.risk.neg, vNv, vDv, .string v.seed] := Blk.new' (by simp) _ _
  have hsz1 : ((w.alloc (.cells #[.string kContest, .string nm, .slice AF nF cF, .int .i64 line] 110)).alloc (.cells #[.map (some m1), .map (some m2), .map (some m3), .bool v.risk.neg, vNv, vDv, .string v.seed] 168)).heap.size = w.heap.size + 2 := by simp
  obtain ⟨w1, hw1⟩ : ∃ x, (w.alloc (.cells #[.string kContest, .string nm, .slice AF nF cF, .int .i64 line] 110)).alloc (.cells #[.map (some m1), .map (some m2), .map (some m3), .bool v.risk.neg, vNv, vDv, .string v.seed] 168) = x := ⟨_, rfl⟩
  rw [hw1] at hbx hk4 hk5 hsz1
  have hlt : bb < w.heap.size := h.blk.lt
  have hBw : B ≤ w.heap.size := Nat.le_of_lt (Nat.lt_of_le_of_lt h.hb hlt)
  have hBb : B ≤ bb := h.hb
  have hkb : Blk w1 bb 135 (bbCells s mn vP vC vS vN vD vV) := h.blk.keep hbx
  have e0 : w1.cell? ⟨w.heap.size, 0, none⟩ = some (.string ⟨#[99, 111, 110, 116, 101, 115, 116]⟩) := hk4.cell 0
  have e1 : w1.cell? ⟨w.heap.size, 1, none⟩ = some (.string nm) := hk4.cell 1
  have v0 : w1.cell? ⟨w.heap.size + 1, 0, none⟩ = some (.map (some m1)) := hk5.cell 0
  have v1 : w1.cell? ⟨w.heap.size + 1, 1, none⟩ = some (.map (some m2)) := hk5.cell 1
  have z5 : w1.cell? ⟨bb, 5, none⟩ = some (vC) := hkb.cell 5
  have y5 : w1.frozen? ⟨bb, 5, none⟩ = false := hkb.frozen 5
  have HN := Lib.hid (hn.keep hbx)
  have HLI := Lib.hid (hli.keep hbx)
  have HLS := Lib.hid hls
  have HVD := Lib.hid hvd0
  have HW1 := Lib.hid hw1
  have HKB := Lib.hid hkb
  have HK4 := Lib.hid hk4
  have HK5 := Lib.hid hk5
  have HBX := Lib.hid hbx
  have HH := Lib.hid h
  have HL := Lib.hid hl
  have HVNv := Lib.hid hvn
  have HVDv := Lib.hid hvd
  have HSZ1 := Lib.hid hsz1
  obtain ⟨AL, nL, cL, hfl, hrl⟩ := hls.at_ kCands
  have HFL := Lib.hid hfl
  have HRL := Lib.hid hrl
  have hbb1 : bb ≠ w.heap.size := by omega
  have hbb2 : bb ≠ w.heap.size + 1 := by omega
  have HD1 := Lib.hid d1
  have HD2 := Lib.hid d2
  clear hn hw1 hkb hbx h hl hk4 hk5 d1 d2 d3 hli hls hln hvn hvd hvd0 hsz1 hfl hrl
  show Calls _ _ #[.pointer (some ⟨bb, 0, none⟩), .agg #[.string ⟨#[99, 111, 110, 116, 101, 115, 116]⟩, .string nm, .slice AF nF cF, .int .i64 line], .agg #[.map (some m1), .map (some m2), .map (some m3), .bool v.risk.neg, vNv, vDv, .string v.seed]] w _
  unfold kContest at HW1
  go_enter Tryz.func97, Tryz.ntmps97
  go_upto_region 1 with (fail)
  rw [HW1.out]
  go_wp2_with fail
  have HOWN := Lib.hid (HH.out.oC.below HBX.out)
  have HRX : Hid (Rep.rep w (Dat w B τ) [.string nm, .slice AL nL cL, .int .i64 (v.n kMethod), .int .i64 (v.n kSeats), .int .i64 (v.n kRanks), .int .i64 (v.n kDigits), .int .i64 (v.n kTies), .int .i64 (v.n kOvervote), .int .i64 (v.n kSkip)] (contestOf nm v)) := Lib.hid ⟨_, _, _, rfl, HRL.out⟩
  have HLC := Lib.hid (show rC.length < 1099511627776 from Nat.lt_of_le_of_lt (by rw [HH.out.dC.1]; exact HH.out.lC) hN)
  refine wp_region_seqT (ContS bb w.heap.size (w.heap.size + 1) m1 m2 M vC nm v fl) 31 [(0, true), (1, true), (2, true), (3, true), (4, true), (5, true), (6, true), (7, true), (8, true), (9, true), (10, true), (11, true), (12, true), (13, true), (14, true), (15, true), (16, true), (17, true), (18, true), (19, true), (20, true), (21, true), (22, true), (23, true), (24, true), (25, true), (26, false), (27, false), (28, true), (29, true), (30, true)]
    (by kernel_rfl) rfl (by kernel_rfl) (by kernel_rfl) (by kernel_rfl) (fun _ _ d _ _ h => by cases d <;> exact h) ⟨z5, e1, v1, HN.out.drew, HLI.out.drew⟩ ?_
  iterate 10
    refine seqL_read (v := ?_) rfl rfl ?_ ?_
    rotate_left 1
    · intro w hS
      have c5 := hS.c5
      have c4 := hS.c4
      have cm := hS.cm
      clear hS
      go_simp
      with_reducible rfl
    simp only [Act.put, List.getElem_toArray, List.getElem_cons_zero, List.getElem_cons_succ, List.setIfInBounds_toArray, List.set_cons_zero, List.set_cons_succ]
  refine seqL_read (v := .slice AL nL cL) rfl rfl (fun w hS => run_look rfl Tryz.underlying132 (z := .slice none 0 0) rfl rfl hS.hL kCands rfl (by decide) HFL.out) ?_
  simp only [Act.put, List.getElem_toArray, List.getElem_cons_zero, List.getElem_cons_succ, List.setIfInBounds_toArray, List.set_cons_zero, List.set_cons_succ]
  iterate 1
    refine seqL_read (v := ?_) rfl rfl ?_ ?_
    rotate_left 1
    · intro w hS
      have c5 := hS.c5
      have c4 := hS.c4
      have cm := hS.cm
      clear hS
      go_simp
      with_reducible rfl
    simp only [Act.put, List.getElem_toArray, List.getElem_cons_zero, List.getElem_cons_succ, List.setIfInBounds_toArray, List.set_cons_zero, List.set_cons_succ]
  refine seqL_read (v := .int .i64 (v.n kMethod)) rfl rfl (fun w hS => run_look rfl Tryz.underlying166 rfl rfl hS.hN kMethod rfl (by decide) (ints_n v kMethod)) ?_
  simp only [Act.put, List.getElem_toArray, List.getElem_cons_zero, List.getElem_cons_succ, List.setIfInBounds_toArray, List.set_cons_zero, List.set_cons_succ]
  iterate 1
    refine seqL_read (v := ?_) rfl rfl ?_ ?_
    rotate_left 1
    · intro w hS
      have c5 := hS.c5
      have c4 := hS.c4
      have cm := hS.cm
      clear hS
      go_simp
      with_reducible rfl
    simp only [Act.put, List.getElem_toArray, List.getElem_cons_zero, List.getElem_cons_succ, List.setIfInBounds_toArray, List.set_cons_zero, List.set_cons_succ]
  refine seqL_read (v := .int .i64 (v.n kSeats)) rfl rfl (fun w hS => run_look rfl Tryz.underlying166 rfl rfl hS.hN kSeats rfl (by decide) (ints_n v kSeats)) ?_
  simp only [Act.put, List.getElem_toArray, List.getElem_cons_zero, List.getElem_cons_succ, List.setIfInBounds_toArray, List.set_cons_zero, List.set_cons_succ]
  iterate 1
    refine seqL_read (v := ?_) rfl rfl ?_ ?_
    rotate_left 1
    · intro w hS
      have c5 := hS.c5
      have c4 := hS.c4
      have cm := hS.cm
      clear hS
      go_simp
      with_reducible rfl
    simp only [Act.put, List.getElem_toArray, List.getElem_cons_zero, List.getElem_cons_succ, List.setIfInBounds_toArray, List.set_cons_zero, List.set_cons_succ]
  refine seqL_read (v := .int .i64 (v.n kRanks)) rfl rfl (fun w hS => run_look rfl Tryz.underlying166 rfl rfl hS.hN kRanks rfl (by decide) (ints_n v kRanks)) ?_
  simp only [Act.put, List.getElem_toArray, List.getElem_cons_zero, List.getElem_cons_succ, List.setIfInBounds_toArray, List.set_cons_zero, List.set_cons_succ]
  iterate 1
    refine seqL_read (v := ?_) rfl rfl ?_ ?_
    rotate_left 1
    · intro w hS
      have c5 := hS.c5
      have c4 := hS.c4
      have cm := hS.cm
      clear hS
      go_simp
      with_reducible rfl
    simp only [Act.put, List.getElem_toArray, List.getElem_cons_zero, List.getElem_cons_succ, List.setIfInBounds_toArray, List.set_cons_zero, List.set_cons_succ]
  refine seqL_read (v := .int .i64 (v.n kDigits)) rfl rfl (fun w hS => run_look rfl Tryz.underlying166 rfl rfl hS.hN kDigits rfl (by decide) (ints_n v kDigits)) ?_
  simp only [Act.put, List.getElem_toArray, List.getElem_cons_zero, List.getElem_cons_succ, List.setIfInBounds_toArray, List.set_cons_zero, List.set_cons_succ]
  iterate 1
    refine seqL_read (v := ?_) rfl rfl ?_ ?_
    rotate_left 1
    · intro w hS
      have c5 := hS.c5
      have c4 := hS.c4
      have cm := hS.cm
      clear hS
      go_simp
      with_reducible rfl
    simp only [Act.put, List.getElem_toArray, List.getElem_cons_zero, List.getElem_cons_succ, List.setIfInBounds_toArray, List.set_cons_zero, List.set_cons_succ]
  refine seqL_read (v := .int .i64 (v.n kTies)) rfl rfl (fun w hS => run_look rfl Tryz.underlying166 rfl rfl hS.hN kTies rfl (by decide) (ints_n v kTies)) ?_
  simp only [Act.put, List.getElem_toArray, List.getElem_cons_zero, List.getElem_cons_succ, List.setIfInBounds_toArray, List.set_cons_zero, List.set_cons_succ]
  iterate 1
    refine seqL_read (v := ?_) rfl rfl ?_ ?_
    rotate_left 1
    · intro w hS
      have c5 := hS.c5
      have c4 := hS.c4
      have cm := hS.cm
      clear hS
      go_simp
      with_reducible rfl
    simp only [Act.put, List.getElem_toArray, List.getElem_cons_zero, List.getElem_cons_succ, List.setIfInBounds_toArray, List.set_cons_zero, List.set_cons_succ]
  refine seqL_read (v := .int .i64 (v.n kOvervote)) rfl rfl (fun w hS => run_look rfl Tryz.underlying166 rfl rfl hS.hN kOvervote rfl (by decide) (ints_n v kOvervote)) ?_
  simp only [Act.put, List.getElem_toArray, List.getElem_cons_zero, List.getElem_cons_succ, List.setIfInBounds_toArray, List.set_cons_zero, List.set_cons_succ]
  iterate 1
    refine seqL_read (v := ?_) rfl rfl ?_ ?_
    rotate_left 1
    · intro w hS
      have c5 := hS.c5
      have c4 := hS.c4
      have cm := hS.cm
      clear hS
      go_simp
      with_reducible rfl
    simp only [Act.put, List.getElem_toArray, List.getElem_cons_zero, List.getElem_cons_succ, List.setIfInBounds_toArray, List.set_cons_zero, List.set_cons_succ]
  refine seqL_read (v := .int .i64 (v.n kSkip)) rfl rfl (fun w hS => run_look rfl Tryz.underlying166 rfl rfl hS.hN kSkip rfl (by decide) (ints_n v kSkip)) ?_
  simp only [Act.put, List.getElem_toArray, List.getElem_cons_zero, List.getElem_cons_succ, List.setIfInBounds_toArray, List.set_cons_zero, List.set_cons_succ]
  iterate 1
    refine seqL_read (v := ?_) rfl rfl ?_ ?_
    rotate_left 1
    · intro w hS
      have c5 := hS.c5
      have c4 := hS.c4
      have cm := hS.cm
      clear hS
      go_simp
      with_reducible rfl
    simp only [Act.put, List.getElem_toArray, List.getElem_cons_zero, List.getElem_cons_succ, List.setIfInBounds_toArray, List.set_cons_zero, List.set_cons_succ]
  refine seqL_do rfl fun K hK => ?_
  go_simp
  refine hK _ _ ⟨by go_keep, by go_keep, by go_keep, HN.out.drew.alloc _, HLI.out.drew.alloc _⟩ ?_
  clear hK K
  try simp only [Act.put, List.getElem_toArray, List.getElem_cons_zero, List.getElem_cons_succ, List.setIfInBounds_toArray, List.set_cons_zero, List.set_cons_succ]
  refine seqL_do rfl fun K hK => ?_
  refine step_append_gen (α := RawN 9) (w0 := w) (B := B) (base := B) (wr := w1) (by rfl) _ _ 23 (by rfl) 96 Tryz.contTy (by rfl) HOWN.out (HBX.out.mono hBw) (Nat.le_refl _) (Nat.le_trans hBw HBX.out.size) [.string nm, .slice AL nL cL, .int .i64 (v.n kMethod), .int .i64 (v.n kSeats), .int .i64 (v.n kRanks), .int .i64 (v.n kDigits), .int .i64 (v.n kTies), .int .i64 (v.n kOvervote), .int .i64 (v.n kSkip)] ⟨[.string nm, .slice AL nL cL, .int .i64 (v.n kMethod), .int .i64 (v.n kSeats), .int .i64 (v.n kRanks), .int .i64 (v.n kDigits), .int .i64 (v.n kTies), .int .i64 (v.n kOvervote), .int .i64 (v.n kSkip)], rfl⟩ 1 (by rfl) rfl 95 (by simp [Value.oneCell']) (by have := HLC.out; omega) ?_
  intro v9 w2 hown2 hbel2 hgrow hat
  obtain ⟨A9, n9, c9, rfl, hn9⟩ := hown2.slice
  clear hn9
  have hks : Kept (w1.alloc (.cells #[.string nm, .slice AL nL cL, .int .i64 (v.n kMethod), .int .i64 (v.n kSeats), .int .i64 (v.n kRanks), .int .i64 (v.n kDigits), .int .i64 (v.n kTies), .int .i64 (v.n kOvervote), .int .i64 (v.n kSkip)] 95)) w2 τ (One .cs) := Kept.of_grown hgrow (fun g h _ => HH.out.tC g h)
  have hkb2 : Blk w2 bb 135 (bbCells s mn vP vC vS vN vD vV) := (HKB.out.alloc _).tag hks (by rw [HH.out.tb]; simp [One])
  have hk42 := ((HK4.out.alloc (.cells #[.string nm, .slice AL nL cL, .int .i64 (v.n kMethod), .int .i64 (v.n kSeats), .int .i64 (v.n kRanks), .int .i64 (v.n kDigits), .int .i64 (v.n kTies), .int .i64 (v.n kOvervote), .int .i64 (v.n kSkip)] 95)).grown hgrow (fun h => by have := (HH.out.oC.lt _ h.symm).2; omega))
  have hk52 := ((HK5.out.alloc (.cells #[.string nm, .slice AL nL cL, .int .i64 (v.n kMethod), .int .i64 (v.n kSeats), .int .i64 (v.n kRanks), .int .i64 (v.n kDigits), .int .i64 (v.n kTies), .int .i64 (v.n kOvervote), .int .i64 (v.n kSkip)] 95)).grown hgrow (fun h => by have := (HH.out.oC.lt _ h.symm).2; omega))
  have g5 : w2.cell? ⟨bb, 5, none⟩ = some vC := hkb2.cell 5
  have f5 : w2.frozen? ⟨bb, 5, none⟩ = false := hkb2.frozen 5
  refine hK _ _ ⟨g5, hk42.cell 1, hk52.cell 1, (HN.out.alloc _).tag hks (by rw [HD1.out.2.2]; simp [One]), (HLI.out.alloc _).tag hks (by rw [HD2.out.2.2]; simp [One])⟩ ?_
  clear hK K
  have HO2 := Lib.hid hown2
  have HBE2 := Lib.hid hbel2
  have HAT := Lib.hid hat
  have HKS := Lib.hid hks
  have HKB2 := Lib.hid hkb2
  clear hown2 hbel2 hgrow hat hks hkb2 hk42 hk52
  try simp only [Act.put, List.getElem_toArray, List.getElem_cons_zero, List.getElem_cons_succ, List.setIfInBounds_toArray, List.set_cons_zero, List.set_cons_succ]
  iterate 3
    refine seqL_read (v := ?_) rfl rfl ?_ ?_
    rotate_left 1
    · intro w hS
      go_simp
      with_reducible rfl
    simp only [Act.put, List.getElem_toArray, List.getElem_cons_zero, List.getElem_cons_succ, List.setIfInBounds_toArray, List.set_cons_zero, List.set_cons_succ]
  refine seqL_last_go rfl rfl fun K hK => ?_
  go_simp
  refine hK _ _ ?_
  clear hK K
  go_wp2_with fail
  go_end0
  have hbd : Below w.heap.size w (w1.alloc (.cells #[.string nm, .slice AL nL cL, .int .i64 (v.n kMethod), .int .i64 (v.n kSeats), .int .i64 (v.n kRanks), .int .i64 (v.n kDigits), .int .i64 (v.n kTies), .int .i64 (v.n kOvervote), .int .i64 (v.n kSkip)] 95)) := HBX.out.alloc HBX.out.size _
  have hE : Ext w τ (setTag τ w.heap.size .cs) := Ext.set _ _ _
  have hb' : setTag τ w.heap.size .cs bb = .bb := (hE bb hlt).trans HH.out.tb
  have hk2 : Kept w w2 τ (Two .cs .bb) := (Kept.of_below hbd).trans (Ext.refl _ _) (HKS.out.weak fun t h => .inl h)
  have hk3 : Kept w (w2.setCell ⟨bb, 5, none⟩ (.slice A9 n9 c9 : Value)) τ (Two .cs .bb) := hk2.trans hE (Kept.of_set (T := Two .cs .bb) (τ := setTag τ w.heap.size .cs) w2 (p := ⟨bb, 5, none⟩) (.inr hb') (.slice A9 n9 c9 : Value))
  have ho3 : Own (w2.setCell ⟨bb, 5, none⟩ (.slice A9 n9 c9 : Value)) NoBlk B 95 (.slice A9 n9 c9 : Value) (rC ++ [⟨[.string nm, .slice AL nL cL, .int .i64 (v.n kMethod), .int .i64 (v.n kSeats), .int .i64 (v.n kRanks), .int .i64 (v.n kDigits), .int .i64 (v.n kTies), .int .i64 (v.n kOvervote), .int .i64 (v.n kSkip)], rfl⟩]) := HO2.out.setCell (p := ⟨bb, 5, none⟩) (fun e => by
    rcases HAT.out with h | h
    · rw [h] at e
      have := HH.out.tC bb e
      rw [HH.out.tb] at this
      cases this
    · rw [h] at e
      injection e with e
      have h0 : w.heap.size ≤ w1.heap.size := HBX.out.size
      have h1 : w1.heap.size + 1 = bb := e
      omega) (fun b hb => hb.elim) _
  have ht3 : ∀ g, (Value.slice A9 n9 c9).ownBlock = some g → setTag τ w.heap.size .cs g = .cs := fun g hg => by
    rcases HAT.out with h | h
    · rw [h] at hg
      exact (hE g (HH.out.oC.lt g hg).2).trans (HH.out.tC g hg)
    · rw [h] at hg
      injection hg with hg
      have h0 : w.heap.size ≤ w1.heap.size := HBX.out.size
      have h1 : w1.heap.size + 1 = g := hg
      exact setTag_ge _ _ (by omega)
  refine ⟨rfl, _, hE, ⟨⟨mn, f, vP, (.slice A9 n9 c9 : Value), vS, vN, vD, vV, rC ++ [⟨[.string nm, .slice AL nL cL, .int .i64 (v.n kMethod), .int .i64 (v.n kSeats), .int .i64 (v.n kRanks), .int .i64 (v.n kDigits), .int .i64 (v.n kTies), .int .i64 (v.n kOvervote), .int .i64 (v.n kSkip)], rfl⟩], rS, rV, ?_⟩, HL.out⟩, HBE2.out.setCell (p := ⟨bb, 5, none⟩) hBb _, hk3.weak fun t h => by rcases h with h | h <;> rw [h] <;> simp⟩
  exact HH.out.addC hk3 hE (HKB2.out.set_ 5 _) ho3 ht3 HRX.out
end Go.Proofs.YtjlhbfbdcfajfaaGreatDoor
