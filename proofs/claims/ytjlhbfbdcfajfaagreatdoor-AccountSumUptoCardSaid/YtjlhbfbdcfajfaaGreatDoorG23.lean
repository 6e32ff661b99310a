/- Cmp2 -/
import Derived.Test.YtjlhbfbdcfajfaaGreatDoorG22
import Derived.Laws.CopyOwn
/- schema: Compile. PRINTED by wip/gen/cmp2.py -/
namespace Go.Proofs.YtjlhbfbdcfajfaaGreatDoor
open Go.RowKit Go.Maps Go.WideMaps

/-- a source of a size that a machine can hold -/
def BlockOk (x : BlockD) : Prop := Sane x.kind ∧ Sane x.name ∧ x.fields.length ≤ 274877906944 ∧ ∀ f ∈ x.fields, FieldOk f ∧ f.vals.length ≤ 274877906944
def SrcOk (s : SourceD) : Prop := Sane s.title ∧ s.blocks.length ≤ 68719476736 ∧ ∀ x ∈ s.blocks, BlockOk x
theorem linkPrec_err {prec : List ByteArray} {line : Int} {e : Err} : ∀ {l : List ByteArray} {used : List Bool} {acc : List Int}, linkPrec prec line l used acc = .error e → e.no ≠ 0
  | [], used, acc, h => by cases h
  | s :: l, used, acc, h => by
    unfold linkPrec at h
    split at h
    · injection h with h; subst h; simp
    split at h
    · injection h with h; subst h; simp
    · exact linkPrec_err h
theorem linkCont_err {cont : List ContestD} {line : Int} {e : Err} : ∀ {l : List ByteArray} {acc : List Int}, linkCont cont line l acc = .error e → e.no ≠ 0
  | [], acc, h => by cases h
  | s :: l, acc, h => by
    unfold linkCont at h
    split at h
    · injection h with h; subst h; simp
    · exact linkCont_err h
theorem linkGo_err {prec : List ByteArray} {cont : List ContestD} {e : Err} : ∀ {vs : List Vals} {ss : List StyleD} {used : List Bool} {done : List StyleD}, linkGo prec cont vs ss used done = .error e → e.no ≠ 0
  | v :: vs, s :: ss, used, done, h => by
    rw [linkGo] at h
    split at h
    · rename_i h1; injection h with h; subst h; exact linkPrec_err h1
    · split at h
      · rename_i h1; injection h with h; subst h; exact linkCont_err h1
      · exact linkGo_err h
  | [], ss, used, done, h => by
    rw [linkGo] at h
    · split at h
      · injection h with h; subst h; simp
      · cases h
    · simp
  | v :: vs, [], used, done, h => by
    rw [linkGo] at h
    · split at h
      · injection h with h; subst h; simp
      · cases h
    · simp

theorem step_store_row {P : Program} {ops : Array Oper} {o : Oper} {a : Act} {w : World} {K : Act → World → Prop} {Q : Exit → Act → World → Prop} {E : Prop} (hgd : o.guard = none) (ty : TypeId) (x y : Operand) (ho : o.op = .store ty x y)
    (g : Nat) (cells : Array Value) (hx : a.eval x = .pointer (some ⟨g, 0, none⟩)) (hy : a.eval y = .agg cells)
    (t : TypeId) (old : Array Value) (hg : w.heap[g]? = some (.cells old t (0, 0))) (hi : (P.info? ty).map (·.size) = some cells.size)
    (hold : old.size = cells.size) (h1 : cells.all (·.oneCell') = true)
    (h : K (a.put o.dst undef) (w.setRow g cells)) : if Region.wanted o (yielded ops a.tmps) = true then Oper.wp P o a w K Q else E := by
  have hw : Region.wanted o (yielded ops a.tmps) = true := by simp [Region.wanted, hgd]
  rw [if_pos hw]
  exact wp_store_row ty x y ho g cells hx hy t old hg hi hold h1 h
theorem set_twoR {w w2 : World} {g1 g2 : Nat} {cs1 cs2 : Array Value} {cs : List Value} {no line : Int} {x : ElectionD} {t u : TypeId}
    (hk1 : Blk w2 g1 t cs1) (hk2 : Blk w2 g2 u cs2) (hne : g1 ≠ g2) (hg1 : w.heap.size ≤ g1) (hg2 : w.heap.size ≤ g2)
    (hb : Below w.heap.size w w2) (hr : ∀ (w' : World) (S : Nat → Prop), Rep.rep w' S cs x) {wf : World} (hw : wf = (w2.setRow g1 cs.toArray).setRow g2 #[.int .i64 no, .int .i64 line]) :
    Blk wf g1 t cs.toArray ∧ Blk wf g2 u #[.int .i64 no, .int .i64 line] ∧ Below w.heap.size w wf ∧ Rep.rep wf (Fresh w wf) cs x := by
  subst hw
  exact ⟨(setRow_other _ _ _ _ hne).trans (setRow_heap _ _ _ _ _ _ hk1), setRow_heap _ _ _ _ _ _ ((setRow_other _ _ _ _ (Ne.symm hne)).trans hk2), below_setRow (below_setRow hb hg1 _) hg2 _, hr _ _⟩
def startTag (n b : Nat) : Tag := if b = n then .mn else if b = n + 1 then .bb else .data
theorem bld_start (w : World) (t : ByteArray) : Bld ((w.alloc (.map #[] 0)).alloc (.cells #[.string t, .int .i64 0, .int .i64 0, .int .i64 0, .slice none 0 0, .slice none 0 0, .slice none 0 0, .int .i64 0, .int .i64 0, .bool false, .slice none 0 0, .slice none 0 0, .int .i64 0, .string ⟨#[]⟩, .map (some w.heap.size), .slice none 0 0] 135)) w.heap.size (w.heap.size + 1) 0 (startTag w.heap.size) (BldD.start t) := by
  refine ⟨⟨w.heap.size, fun _ => none, .slice none 0 0, .slice none 0 0, .slice none 0 0, .slice none 0 0, .slice none 0 0, .slice none 0 0, [], [], [], ?_⟩, rfl⟩
  exact {
    hb := by omega
    hm := Nat.le_refl _
    tb := by simp [startTag]
    tm := by simp [startTag]
    blk := Blk.new' (by simp) _ _
    map := (MapIs.made w).alloc _
    nms := fun k => rfl
    lens := fun k => Nat.le_refl _
    oC := Own.nil _ _ _
    tC := fun g hg => by cases hg
    dC := ⟨rfl, fun i x y hx _ => by simp at hx⟩
    oS := Own.nil _ _ _
    tS := fun g hg => by cases hg
    dS := ⟨rfl, fun i x y hx _ => by simp at hx⟩
    oV := Own.nil _ _ _
    tV := fun g hg => by cases hg
    dV := ⟨rfl, fun i x y hx _ => by simp at hx⟩
    lC := Nat.le_refl _
    lS := Nat.le_refl _
    lV := Nat.le_refl _
    dP := ⟨_, _, _, rfl, RS.nil _ _⟩
    dN := ⟨_, _, _, rfl, RS.nil _ _⟩
    dD := ⟨_, _, _, rfl, RS.nil _ _⟩ }
theorem kinds_small : ∀ k ∈ kindsP, k.size ≤ maxLen := by
  have : ∀ k ∈ kindsP, k.size ≤ 100 := by decide
  intro k hk
  exact Nat.le_trans (this k hk) (by unfold maxLen; omega)

set_option maxRecDepth 20000 in
set_option maxHeartbeats 8000000 in
theorem compile_ok {w : World} {S : Nat → Prop} {A : Option Addr} {n c : Nat} {s : SourceD} (hr : RS w S A n c s.blocks) (hS : ∀ b, S b → b < w.heap.size) (hok : SrcOk s) :
    Calls Tryz.prog 41 #[.agg #[.string s.title, .slice A n c]] w (RetCmp w (compileP s)) := by
  have hb1 : Below w.heap.size w (((w.alloc (.cells #[.string s.title, .slice A n c] 81)).alloc (.cells #[.string ⟨#[]⟩, .int .i64 0, .int .i64 0, .int .i64 0, .slice none 0 0, .slice none 0 0, .slice none 0 0, .int .i64 0, .int .i64 0, .bool false, .slice none 0 0, .slice none 0 0, .int .i64 0, .string ⟨#[]⟩] 30)).alloc (.cells #[.int .i64 0, .int .i64 0] 76)) := (((Below.refl _ _).alloc (Nat.le_refl _) _).alloc (by simp) _).alloc (by simp; omega) _
  have hk1 : Blk (((w.alloc (.cells #[.string s.title, .slice A n c] 81)).alloc (.cells #[.string ⟨#[]⟩, .int .i64 0, .int .i64 0, .int .i64 0, .slice none 0 0, .slice none 0 0, .slice none 0 0, .int .i64 0, .int .i64 0, .bool false, .slice none 0 0, .slice none 0 0, .int .i64 0, .string ⟨#[]⟩] 30)).alloc (.cells #[.int .i64 0, .int .i64 0] 76)) w.heap.size 81 #[.string s.title, .slice A n c] := ((Blk.new _ _ _).alloc _).alloc _
  have hk2 : Blk (((w.alloc (.cells #[.string s.title, .slice A n c] 81)).alloc (.cells #[.string ⟨#[]⟩, .int .i64 0, .int .i64 0, .int .i64 0, .slice none 0 0, .slice none 0 0, .slice none 0 0, .int .i64 0, .int .i64 0, .bool false, .slice none 0 0, .slice none 0 0, .int .i64 0, .string ⟨#[]⟩] 30)).alloc (.cells #[.int .i64 0, .int .i64 0] 76)) (w.heap.size + 1) 30 #[.string ⟨#[]⟩, .int .i64 0, .int .i64 0, .int .i64 0, .slice none 0 0, .slice none 0 0, .slice none 0 0, .int .i64 0, .int .i64 0, .bool false, .slice none 0 0, .slice none 0 0, .int .i64 0, .string ⟨#[]⟩] := (Blk.new' (by simp) _ _).alloc _
  have hk3 : Blk (((w.alloc (.cells #[.string s.title, .slice A n c] 81)).alloc (.cells #[.string ⟨#[]⟩, .int .i64 0, .int .i64 0, .int .i64 0, .slice none 0 0, .slice none 0 0, .slice none 0 0, .int .i64 0, .int .i64 0, .bool false, .slice none 0 0, .slice none 0 0, .int .i64 0, .string ⟨#[]⟩] 30)).alloc (.cells #[.int .i64 0, .int .i64 0] 76)) (w.heap.size + 1 + 1) 76 #[.int .i64 0, .int .i64 0] := Blk.new' (by simp) _ _
  have hs1 : (((w.alloc (.cells #[.string s.title, .slice A n c] 81)).alloc (.cells #[.string ⟨#[]⟩, .int .i64 0, .int .i64 0, .int .i64 0, .slice none 0 0, .slice none 0 0, .slice none 0 0, .int .i64 0, .int .i64 0, .bool false, .slice none 0 0, .slice none 0 0, .int .i64 0, .string ⟨#[]⟩] 30)).alloc (.cells #[.int .i64 0, .int .i64 0] 76)).heap.size = w.heap.size + 3 := by simp
  obtain ⟨w1, hw1⟩ : ∃ x, (((w.alloc (.cells #[.string s.title, .slice A n c] 81)).alloc (.cells #[.string ⟨#[]⟩, .int .i64 0, .int .i64 0, .int .i64 0, .slice none 0 0, .slice none 0 0, .slice none 0 0, .int .i64 0, .int .i64 0, .bool false, .slice none 0 0, .slice none 0 0, .int .i64 0, .string ⟨#[]⟩] 30)).alloc (.cells #[.int .i64 0, .int .i64 0] 76)) = x := ⟨_, rfl⟩
  rw [hw1] at hb1 hk1 hk2 hk3 hs1
  have d0 : w1.cell? ⟨w.heap.size, 0, none⟩ = some (.string s.title) := hk1.cell 0
  obtain ⟨z, hz⟩ : ∃ z, compileP s = z := ⟨_, rfl⟩
  have hzz := hz.symm
  unfold compileP at hzz
  rw [hz]
  obtain ⟨pb, hpb⟩ : ∃ q, printP s.title 0 60 = q := ⟨_, rfl⟩
  have hprint := print_ok s.title 0 60 w1 hok.1
  rw [hpb] at hprint hzz
  have HPRT := Lib.hid hprint
  have HZ := Lib.hid hzz
  have HW1 := Lib.hid hw1
  have HB1 := Lib.hid hb1
  have HK1 := Lib.hid hk1
  have HK2 := Lib.hid hk2
  have HK3 := Lib.hid hk3
  have HS1 := Lib.hid hs1
  have HR := Lib.hid hr
  have HLN := Lib.hid hr.len
  have HOK := Lib.hid hok
  have hmx := hr.max
  clear hpb hprint hzz hz hw1 hb1 hk1 hk2 hk3 hs1 hr hok
  go_enter Tryz.func41, Tryz.ntmps41
  go_upto_region 1 with (fail)
  rw [HW1.out]
  go_wp2_with fail
  refine HPRT.out.mono ?_
  rintro e w2 ⟨rfl, hb2⟩
  have hb02 := below_more HB1.out hb2
  have HK1b := Lib.hid (HK1.out.keep hb2)
  have HK2b := Lib.hid (HK2.out.keep hb2)
  have HK3b := Lib.hid (HK3.out.keep hb2)
  have HB2 := Lib.hid hb02
  have hs2 : w.heap.size + 1 + 1 < w2.heap.size := HK3b.out.lt
  clear hb2 hb02 d0 HK1 HK2 HK3 HB1 HPRT HW1 HS1
  cases pb
  case false =>
    have hzf : z = (ElectionD.zero, ⟨8, 0⟩) := by rw [HZ.out]; rfl
    have HZF := Lib.hid hzf
    clear hzf HZ
    have p0 : w2.cell? ⟨w.heap.size + 1, 0, none⟩ = some (.string ⟨#[]⟩) := HK2b.out.cell 0
    have f0 : w2.frozen? ⟨w.heap.size + 1, 0, none⟩ = false := HK2b.out.frozen 0
    have p1 : w2.cell? ⟨w.heap.size + 1, 1, none⟩ = some (.int .i64 0) := HK2b.out.cell 1
    have f1 : w2.frozen? ⟨w.heap.size + 1, 1, none⟩ = false := HK2b.out.frozen 1
    have p2 : w2.cell? ⟨w.heap.size + 1, 2, none⟩ = some (.int .i64 0) := HK2b.out.cell 2
    have f2 : w2.frozen? ⟨w.heap.size + 1, 2, none⟩ = false := HK2b.out.frozen 2
    have p3 : w2.cell? ⟨w.heap.size + 1, 3, none⟩ = some (.int .i64 0) := HK2b.out.cell 3
    have f3 : w2.frozen? ⟨w.heap.size + 1, 3, none⟩ = false := HK2b.out.frozen 3
    have p4 : w2.cell? ⟨w.heap.size + 1, 4, none⟩ = some (.slice none 0 0) := HK2b.out.cell 4
    have f4 : w2.frozen? ⟨w.heap.size + 1, 4, none⟩ = false := HK2b.out.frozen 4
    have p5 : w2.cell? ⟨w.heap.size + 1, 5, none⟩ = some (.slice none 0 0) := HK2b.out.cell 5
    have f5 : w2.frozen? ⟨w.heap.size + 1, 5, none⟩ = false := HK2b.out.frozen 5
    have p6 : w2.cell? ⟨w.heap.size + 1, 6, none⟩ = some (.slice none 0 0) := HK2b.out.cell 6
    have f6 : w2.frozen? ⟨w.heap.size + 1, 6, none⟩ = false := HK2b.out.frozen 6
    have p7 : w2.cell? ⟨w.heap.size + 1, 7, none⟩ = some (.int .i64 0) := HK2b.out.cell 7
    have f7 : w2.frozen? ⟨w.heap.size + 1, 7, none⟩ = false := HK2b.out.frozen 7
    have p8 : w2.cell? ⟨w.heap.size + 1, 8, none⟩ = some (.int .i64 0) := HK2b.out.cell 8
    have f8 : w2.frozen? ⟨w.heap.size + 1, 8, none⟩ = false := HK2b.out.frozen 8
    have p9 : w2.cell? ⟨w.heap.size + 1, 9, none⟩ = some (.bool false) := HK2b.out.cell 9
    have f9 : w2.frozen? ⟨w.heap.size + 1, 9, none⟩ = false := HK2b.out.frozen 9
    have p10 : w2.cell? ⟨w.heap.size + 1, 10, none⟩ = some (.slice none 0 0) := HK2b.out.cell 10
    have f10 : w2.frozen? ⟨w.heap.size + 1, 10, none⟩ = false := HK2b.out.frozen 10
    have p11 : w2.cell? ⟨w.heap.size + 1, 11, none⟩ = some (.slice none 0 0) := HK2b.out.cell 11
    have f11 : w2.frozen? ⟨w.heap.size + 1, 11, none⟩ = false := HK2b.out.frozen 11
    have p12 : w2.cell? ⟨w.heap.size + 1, 12, none⟩ = some (.int .i64 0) := HK2b.out.cell 12
    have f12 : w2.frozen? ⟨w.heap.size + 1, 12, none⟩ = false := HK2b.out.frozen 12
    have p13 : w2.cell? ⟨w.heap.size + 1, 13, none⟩ = some (.string ⟨#[]⟩) := HK2b.out.cell 13
    have f13 : w2.frozen? ⟨w.heap.size + 1, 13, none⟩ = false := HK2b.out.frozen 13
    have q0 : w2.cell? ⟨w.heap.size + 1 + 1, 0, none⟩ = some (.int .i64 0) := HK3b.out.cell 0
    have g0 : w2.frozen? ⟨w.heap.size + 1 + 1, 0, none⟩ = false := HK3b.out.frozen 0
    have q1 : w2.cell? ⟨w.heap.size + 1 + 1, 1, none⟩ = some (.int .i64 0) := HK3b.out.cell 1
    have g1 : w2.frozen? ⟨w.heap.size + 1 + 1, 1, none⟩ = false := HK3b.out.frozen 1
    go_wp2_with fail
    obtain ⟨k1, k2, kb, kr⟩ := set_two (w := w) (cs := zeroE.toList) (no := 8) (line := 0) HK2b.out HK3b.out rfl rfl rfl (by omega) (by omega) (by omega) HB2.out (rep_zero w2 (fun _ => False)) (fun _ h => h.elim) rfl
    exact ret_cmp0 rfl rfl rfl k1 k2 rfl kb (by rw [HZF.out]; exact kr) (by rw [HZF.out]) rfl
  case true =>
  have hz1 := HZ.out
  rw [if_neg (by simp)] at hz1
  have HZ1 := Lib.hid hz1
  clear hz1 HZ
  have d0 : w2.cell? ⟨w.heap.size, 0, none⟩ = some (.string s.title) := HK1b.out.cell 0
  have d1 : w2.cell? ⟨w.heap.size, 1, none⟩ = some (.slice A n c) := HK1b.out.cell 1
  have hmk := fun (t : TypeId) (w : World) => run_makeMap (P := Tryz.prog) t w
  go_upto_region 4 with (fail)
  have hbl3 := bld_start w2 s.title
  have hb3 : Below w2.heap.size w2 ((w2.alloc (.map #[] 0)).alloc (.cells #[.string s.title, .int .i64 0, .int .i64 0, .int .i64 0, .slice none 0 0, .slice none 0 0, .slice none 0 0, .int .i64 0, .int .i64 0, .bool false, .slice none 0 0, .slice none 0 0, .int .i64 0, .string ⟨#[]⟩, .map (some w2.heap.size), .slice none 0 0] 135)) := ((Below.refl _ _).alloc (Nat.le_refl _) _).alloc (by simp) _
  obtain ⟨w3, hw3⟩ : ∃ x, (w2.alloc (.map #[] 0)).alloc (.cells #[.string s.title, .int .i64 0, .int .i64 0, .int .i64 0, .slice none 0 0, .slice none 0 0, .slice none 0 0, .int .i64 0, .int .i64 0, .bool false, .slice none 0 0, .slice none 0 0, .int .i64 0, .string ⟨#[]⟩, .map (some w2.heap.size), .slice none 0 0] 135) = x := ⟨_, rfl⟩
  rw [hw3] at hbl3 hb3
  rw [hw3]
  obtain ⟨bb, hbb⟩ : ∃ x, w2.heap.size + 1 = x := ⟨_, rfl⟩
  rw [hbb] at hbl3
  rw [hbb]
  have HBB := Lib.hid hbb
  have d3 : w3.cell? ⟨w.heap.size, 1, none⟩ = some (.slice A n c) := (HK1b.out.keep hb3).cell 1
  have HBL3 := Lib.hid hbl3
  have HB3 := Lib.hid hb3
  have hnB : n ≤ 68719476736 := by rw [← HLN.out]; exact HOK.out.2.1
  clear hbl3 hb3 hw3 hmk d0 d1 hbb
  go_wp2_with fail
  go_loopw [26] (fun iv wr => ∃ (k : Nat) (b : BldD) (τ : Nat → Tag), iv = .int .i64 k ∧ k ≤ n ∧ blocksP s.blocks (BldD.start s.title) = blocksP (s.blocks.drop k) b ∧ BldOk 274877906944 b ∧ Bld wr w2.heap.size bb (2 * k) τ b ∧ Below w2.heap.size w2 wr) (fun iv _ => n - (intOf iv).toNat)
  case atStart => exact ⟨0, _, _, rfl, Nat.zero_le _, rfl, ⟨Nat.zero_le _, fun v hv => by cases hv⟩, HBL3.out, HB3.out⟩
  case round =>
    clear HBL3 HB3 d3
    obtain ⟨k, b, τ, rfl, hk, hbp, hbo, hbl, hb⟩ := hrel
    have HBP := Lib.hid hbp
    have HBO := Lib.hid hbo
    have HBL := Lib.hid hbl
    have HB := Lib.hid hb
    have hSw : ∀ b, S b → b < wr.heap.size := fun b h => Nat.lt_of_lt_of_le (hS b h) (Nat.le_trans HB2.out.size hb.size)
    have hbw : Below w.heap.size w wr := below_more HB2.out hb
    have HRw := Lib.hid (HR.out.below hbw hS)
    have HBW := Lib.hid hbw
    clear hbp hbo hbl hb hbw
    by_cases hlt : k < n
    · have hlt2 : (k : Int) < (n : Int) := by omega
      obtain ⟨ba, o, x, cs, rfl, hSb, hx, hrx, hld⟩ := HRw.out.load_at hSw hlt
      obtain ⟨A3, n3, c3, rfl, hrf⟩ := hrx
      have hla := hld wr (Below.refl _ _)
      have r0 : wr.cell? ⟨ba, o + k * 4, none⟩ = some (.string x.kind) := hla.1 _ rfl
      have r1 : wr.cell? ⟨ba, o + k * 4 + 1, none⟩ = some (.string x.name) := hla.2 1 _ rfl
      have r2 : wr.cell? ⟨ba, o + k * 4 + 2, none⟩ = some (.slice A3 n3 c3) := hla.2 2 _ rfl
      have r3 : wr.cell? ⟨ba, o + k * 4 + 3, none⟩ = some (.int .i64 x.line) := hla.2 3 _ rfl
      have hkc : (k : Int) ≤ (c : Int) := by have := HRw.out.cap; omega
      have hxo := HOK.out.2.2 x (List.mem_of_getElem? hx)
      have hbk : blocksP s.blocks (BldD.start s.title) = if (blockP x b).1.no ≠ 0 then blockP x b else blocksP (s.blocks.drop (k + 1)) (blockP x b).2 := by rw [HBP.out, drop_cons' hx]; rfl
      have hb6 : Below wr.heap.size wr (wr.alloc (.cells #[.string x.kind, .string x.name, .slice A3 n3 c3, .int .i64 x.line] 110)) := (Below.refl _ _).alloc (Nat.le_refl _) _
      have hk6 : Blk (wr.alloc (.cells #[.string x.kind, .string x.name, .slice A3 n3 c3, .int .i64 x.line] 110)) wr.heap.size 110 #[.string x.kind, .string x.name, .slice A3 n3 c3, .int .i64 x.line] := Blk.new _ _ _
      obtain ⟨w6, hw6⟩ : ∃ q, wr.alloc (.cells #[.string x.kind, .string x.name, .slice A3 n3 c3, .int .i64 x.line] 110) = q := ⟨_, rfl⟩
      rw [hw6] at hb6 hk6
      have s0 : w6.cell? ⟨wr.heap.size, 0, none⟩ = some (.string x.kind) := hk6.cell 0
      have s1 : w6.cell? ⟨wr.heap.size, 1, none⟩ = some (.string x.name) := hk6.cell 1
      have s2 : w6.cell? ⟨wr.heap.size, 2, none⟩ = some (.slice A3 n3 c3) := hk6.cell 2
      have s3 : w6.cell? ⟨wr.heap.size, 3, none⟩ = some (.int .i64 x.line) := hk6.cell 3
      have hcall := block_ok (HBL.out.keep hb6 (Ext.refl _ _)) (by omega) x.kind x.name x.line (hrf.below hb6 hSw) (fun b h => Nat.lt_of_lt_of_le (hS b h) HB2.out.size) hxo.1 hxo.2.1 (fun f hf => (hxo.2.2.2 f hf).1) (by rw [← hrf.len]; exact hxo.2.2.1)
      have hbo2 := blockP_okB (x := x) HBO.out (fun f hf => (hxo.2.2.2 f hf).2)
      obtain ⟨⟨no, ln⟩, b2, hbq⟩ : ∃ er b2, blockP x b = (er, b2) := ⟨_, _, rfl⟩
      rw [show (⟨x.kind, x.name, x.fields, x.line⟩ : BlockD) = x from rfl, hbq] at hcall
      rw [hbq] at hbk hbo2
      simp only at hbk hbo2
      have HCALL := Lib.hid hcall
      have HBK := Lib.hid hbk
      have HBO2 := Lib.hid hbo2
      have HW6 := Lib.hid hw6
      have HB6 := Lib.hid (HB.out.trans (hb6.mono HB.out.size))
      clear hla hld hx hrf hxo hbk hcall hb6 hk6 hw6 hbq hbo2
      go_upto_region 7 with (fail)
      rw [HW6.out]
      go_wp2_with fail
      refine HCALL.out.mono ?_
      rintro e w7 ⟨rfl, τ2, hE7, hbl7, hbk7⟩
      have hb7 : Below w2.heap.size w2 w7 := HB6.out.trans hbk7.1
      have hb8 : Below w2.heap.size w2 (w7.alloc (.cells #[.int .i64 no, .int .i64 ln] 76)) := hb7.alloc hb7.size _
      have hk7 : Blk (w7.alloc (.cells #[.int .i64 no, .int .i64 ln] 76)) w7.heap.size 76 #[.int .i64 no, .int .i64 ln] := Blk.new _ _ _
      have hbl8 := hbl7.keep ((Below.refl _ _).alloc (Nat.le_refl _) (.cells #[.int .i64 no, .int .i64 ln] 76)) (Ext.refl w7 τ2)
      obtain ⟨w8, hw8⟩ : ∃ q, w7.alloc (.cells #[.int .i64 no, .int .i64 ln] 76) = q := ⟨_, rfl⟩
      rw [hw8] at hb8 hk7 hbl8
      have t0 : w8.cell? ⟨w7.heap.size, 0, none⟩ = some (.int .i64 no) := hk7.cell 0
      have t1 : w8.cell? ⟨w7.heap.size, 1, none⟩ = some (.int .i64 ln) := hk7.cell 1
      have hk28 := HK2b.out.keep hb8
      have hk38 := HK3b.out.keep hb8
      have HK28 := Lib.hid hk28
      have HK38 := Lib.hid hk38
      have HB8 := Lib.hid hb8
      have HBL8 := Lib.hid hbl8
      have HW8 := Lib.hid hw8
      have h71 : w7.heap.size ≠ w.heap.size + 1 := by have := hb7.size; omega
      have h72 : w7.heap.size ≠ w.heap.size + 1 + 1 := by have := hb7.size; omega
      clear hE7 hbl7 hbk7 hb7 hb8 hk7 hbl8 hw8 hk28 hk38 r0 r1 r2 r3 s0 s1 s2 s3
      go_upto_region 8 with (fail)
      rw [HW8.out]
      by_cases hno : no = 0
      case neg =>
        have hne : (no != 0) = true := by rw [bne_iff_ne]; exact hno
        have hne2 : (no == 0) = false := by rw [beq_eq_false_iff_ne]; exact hno
        have hzf : z = (ElectionD.zero, ⟨no, ln⟩) := by
          rw [HZ1.out, HBK.out]
          simp only [if_pos hno]
          try rw [if_pos (by exact hno)]
        have HZF := Lib.hid hzf
        clear hzf hno
        go_wp2_with fail
        have HBX := Lib.hid (below_more HB2.out HB8.out)
        refine wp_region_seqT (fun w' => w'.cell? ⟨w7.heap.size, 0, none⟩ = some (.int .i64 no) ∧ w'.cell? ⟨w7.heap.size, 1, none⟩ = some (.int .i64 ln)) 3 [(0, true), (1, true), (2, false)]
          (by kernel_rfl) rfl (by kernel_rfl) (by kernel_rfl) (by kernel_rfl) (fun _ _ d _ _ h => by cases d <;> exact h) ⟨t0, t1⟩ ?_
        iterate 2
          refine seqL_read (v := ?_) rfl rfl ?_ ?_
          rotate_left 1
          · intro w hS
            obtain ⟨u0, u1⟩ := hS
            go_simp
            with_reducible rfl
          simp only [Act.put, List.getElem_toArray, List.getElem_cons_zero, List.getElem_cons_succ, List.setIfInBounds_toArray, List.set_cons_zero, List.set_cons_succ]
        refine seqL_do rfl fun K hK => ?_
        refine step_store_row rfl 30 _ _ rfl (w.heap.size + 1) zeroE rfl rfl 30 _ HK28.out.drew (by kernel_rfl) rfl (by kernel_rfl) ?_
        refine hK _ _ ⟨(cell_setRow_other _ _ _ _ h71).trans t0, (cell_setRow_other _ _ _ _ h71).trans t1⟩ ?_
        clear hK K
        try simp only [Act.put, List.getElem_toArray, List.getElem_cons_zero, List.getElem_cons_succ]
        refine seqL_last_go rfl rfl fun K hK => ?_
        refine wp_store_row 76 _ _ rfl (w.heap.size + 1 + 1) #[.int .i64 no, .int .i64 ln] rfl rfl 76 _ ((setRow_other _ _ _ _ (by omega)).trans HK38.out) (by kernel_rfl) rfl (by simp [Value.oneCell']) ?_
        refine hK _ _ ?_
        clear hK K
        go_wp2_with fail
        obtain ⟨k1, k2, kb, kr⟩ := set_twoR (w := w) (w2 := w8.drew) (cs := zeroE.toList) (no := no) (line := ln) HK28.out.drew HK38.out.drew (by omega) (by omega) (by omega) HBX.out.drew rep_zero rfl
        exact ret_cmp0 rfl rfl rfl k1 k2 rfl kb (by rw [HZF.out]; exact kr) (by rw [HZF.out]) rfl
      subst hno
      have hbk2 := HBK.out
      rw [if_neg (by simp)] at hbk2
      have HBK2 := Lib.hid hbk2
      clear hbk2
      go_wp2_with fail
      go_roundw
      case rel => exact ⟨k + 1, b2, τ2, by go_num, by omega, HBK2.out, HBO2.out, by have := HBL8.out; rwa [show 2 * k + 2 = 2 * (k + 1) by omega] at this, HB8.out⟩
      case measure => simp [intOf]; omega
    · have hkn : k = n := by omega
      have hbp2 : blocksP s.blocks (BldD.start s.title) = (⟨0, 0⟩, b) := by
        rw [HBP.out, List.drop_eq_nil_of_le (by rw [HLN.out]; omega)]
        rfl
      have hz2 := HZ1.out
      rw [hbp2] at hz2
      simp only [ne_eq, not_true_eq_false, if_false] at hz2
      have HZ2 := Lib.hid hz2
      clear hbp2 hz2 hkn HBP HZ1
      go_wp2_with fail
      refine (kinds_ok wr).mono ?_
      rintro e w9 ⟨A3, n3, c3, rfl, hr3, _, hb9⟩
      have HR3 := Lib.hid hr3
      have hm3 := hr3.max
      have hb29 : Below w2.heap.size w2 w9 := HB.out.trans (hb9.mono HB.out.size)
      have hbl9 := HBL.out.keep hb9 (Ext.refl _ _)
      have HBL9 := Lib.hid hbl9
      obtain ⟨⟨mn, ff, vP, vC, vS, vN, vD, vV, rC, rS, rV, hin⟩, hll⟩ := hbl9
      have m14 : w9.cell? ⟨bb, 14, none⟩ = some (.map (some mn)) := hin.blk.cell 14
      have HIN := Lib.hid hin
      have HLL := Lib.hid hll
      have HB29 := Lib.hid hb29
      have HK29 := Lib.hid (HK2b.out.keep hb29)
      have HK39 := Lib.hid (HK3b.out.keep hb29)
      obtain ⟨anyK, hany⟩ : ∃ q, (kindsP.any fun k => decide (b.of k = [])) = q := ⟨_, rfl⟩
      have hz3 := HZ2.out
      rw [hany] at hz3
      have HZ3 := Lib.hid hz3
      have HANY := Lib.hid hany
      clear hr3 hb9 hb29 hin hll hany hz3 HZ2 HBL
      go_wp2_with fail
      go_loopw [41] (fun iv wr => ∃ k : Nat, iv = .int .i64 k ∧ k ≤ n3 ∧ anyK = ((kindsP.drop k).any fun k => decide (b.of k = [])) ∧ wr = w9) (fun iv _ => n3 - (intOf iv).toNat)
      case atStart => exact ⟨0, rfl, Nat.zero_le _, HANY.out.symm, rfl⟩
      case round =>
        obtain ⟨k3, rfl, hk3, hak, rfl⟩ := hrel
        have HAK := Lib.hid hak
        clear hak HANY
        by_cases hlt3 : k3 < n3
        · have hlt4 : (k3 : Int) < (n3 : Int) := by omega
          obtain ⟨ba, o, x, rfl, _, hx, e1⟩ := HR3.out.str_at hlt3
          have hcap3 : (k3 : Int) ≤ (c3 : Int) := by have := HR3.out.cap; omega
          obtain ⟨A0, n0, c0, hf0, ho0, _⟩ := HIN.out.row x
          have hn0 : n0 = (b.of x).length := by
            obtain ⟨A', n', c', hv, hn⟩ := ho0.slice
            injection hv with _ h2 _
            rw [h2]; exact hn
          have HF0 := Lib.hid hf0
          have hxs : x.size ≤ maxLen := kinds_small x (List.mem_of_getElem? hx)
          have hak2 : anyK = (decide (b.of x = []) || ((kindsP.drop (k3 + 1)).any fun k => decide (b.of k = []))) := by rw [HAK.out, drop_cons' hx]; rfl
          have HAK2 := Lib.hid hak2
          have HN0 := Lib.hid hn0
          clear hf0 ho0 hx hak2 hn0 HAK
          by_cases h0 : n0 = 0
          · have hbx : b.of x = [] := List.length_eq_zero_iff.1 (by rw [← HN0.out]; exact h0)
            have hany : anyK = true := by rw [HAK2.out, decide_eq_true hbx]; rfl
            have hzf : z = (ElectionD.zero, ⟨6, 0⟩) := by rw [HZ3.out, if_pos hany]
            have HZF := Lib.hid hzf
            subst h0
            clear hbx hany hzf
            have p0 : wr.cell? ⟨w.heap.size + 1, 0, none⟩ = some (.string ⟨#[]⟩) := HK29.out.cell 0
            have f0 : wr.frozen? ⟨w.heap.size + 1, 0, none⟩ = false := HK29.out.frozen 0
            have p1 : wr.cell? ⟨w.heap.size + 1, 1, none⟩ = some (.int .i64 0) := HK29.out.cell 1
            have f1 : wr.frozen? ⟨w.heap.size + 1, 1, none⟩ = false := HK29.out.frozen 1
            have p2 : wr.cell? ⟨w.heap.size + 1, 2, none⟩ = some (.int .i64 0) := HK29.out.cell 2
            have f2 : wr.frozen? ⟨w.heap.size + 1, 2, none⟩ = false := HK29.out.frozen 2
            have p3 : wr.cell? ⟨w.heap.size + 1, 3, none⟩ = some (.int .i64 0) := HK29.out.cell 3
            have f3 : wr.frozen? ⟨w.heap.size + 1, 3, none⟩ = false := HK29.out.frozen 3
            have p4 : wr.cell? ⟨w.heap.size + 1, 4, none⟩ = some (.slice none 0 0) := HK29.out.cell 4
            have f4 : wr.frozen? ⟨w.heap.size + 1, 4, none⟩ = false := HK29.out.frozen 4
            have p5 : wr.cell? ⟨w.heap.size + 1, 5, none⟩ = some (.slice none 0 0) := HK29.out.cell 5
            have f5 : wr.frozen? ⟨w.heap.size + 1, 5, none⟩ = false := HK29.out.frozen 5
            have p6 : wr.cell? ⟨w.heap.size + 1, 6, none⟩ = some (.slice none 0 0) := HK29.out.cell 6
            have f6 : wr.frozen? ⟨w.heap.size + 1, 6, none⟩ = false := HK29.out.frozen 6
            have p7 : wr.cell? ⟨w.heap.size + 1, 7, none⟩ = some (.int .i64 0) := HK29.out.cell 7
            have f7 : wr.frozen? ⟨w.heap.size + 1, 7, none⟩ = false := HK29.out.frozen 7
            have p8 : wr.cell? ⟨w.heap.size + 1, 8, none⟩ = some (.int .i64 0) := HK29.out.cell 8
            have f8 : wr.frozen? ⟨w.heap.size + 1, 8, none⟩ = false := HK29.out.frozen 8
            have p9 : wr.cell? ⟨w.heap.size + 1, 9, none⟩ = some (.bool false) := HK29.out.cell 9
            have f9 : wr.frozen? ⟨w.heap.size + 1, 9, none⟩ = false := HK29.out.frozen 9
            have p10 : wr.cell? ⟨w.heap.size + 1, 10, none⟩ = some (.slice none 0 0) := HK29.out.cell 10
            have f10 : wr.frozen? ⟨w.heap.size + 1, 10, none⟩ = false := HK29.out.frozen 10
            have p11 : wr.cell? ⟨w.heap.size + 1, 11, none⟩ = some (.slice none 0 0) := HK29.out.cell 11
            have f11 : wr.frozen? ⟨w.heap.size + 1, 11, none⟩ = false := HK29.out.frozen 11
            have p12 : wr.cell? ⟨w.heap.size + 1, 12, none⟩ = some (.int .i64 0) := HK29.out.cell 12
            have f12 : wr.frozen? ⟨w.heap.size + 1, 12, none⟩ = false := HK29.out.frozen 12
            have p13 : wr.cell? ⟨w.heap.size + 1, 13, none⟩ = some (.string ⟨#[]⟩) := HK29.out.cell 13
            have f13 : wr.frozen? ⟨w.heap.size + 1, 13, none⟩ = false := HK29.out.frozen 13
            have q0 : wr.cell? ⟨w.heap.size + 1 + 1, 0, none⟩ = some (.int .i64 0) := HK39.out.cell 0
            have g0 : wr.frozen? ⟨w.heap.size + 1 + 1, 0, none⟩ = false := HK39.out.frozen 0
            have q1 : wr.cell? ⟨w.heap.size + 1 + 1, 1, none⟩ = some (.int .i64 0) := HK39.out.cell 1
            have g1 : wr.frozen? ⟨w.heap.size + 1 + 1, 1, none⟩ = false := HK39.out.frozen 1
            go_wp2_with (at_lookup; refine wpList_lookup_hit rfl _ _ _ 22 rfl Tryz.underlying132 (.slice none 0 0) rfl rfl HIN.out.map x rfl hxs _ HF0.out ?_)
            obtain ⟨k1, k2, kb, kr⟩ := set_two (w := w) (cs := zeroE.toList) (no := 6) (line := 0) HK29.out HK39.out rfl rfl rfl (by omega) (by omega) (by omega) (below_more HB2.out HB29.out) (rep_zero _ (fun _ => False)) (fun _ h => h.elim) rfl
            exact ret_cmp0 rfl rfl rfl k1 k2 rfl kb (by rw [HZF.out]; exact kr) (by rw [HZF.out]) rfl
          · have hne0 : ((n0 : Int) == 0) = false := by rw [beq_eq_false_iff_ne]; omega
            have hne1 : (n0 == 0) = false := by rw [beq_eq_false_iff_ne]; exact h0
            have hbx : b.of x ≠ [] := fun e => h0 (by rw [HN0.out, e]; rfl)
            have hak3 : anyK = ((kindsP.drop (k3 + 1)).any fun k => decide (b.of k = [])) := by rw [HAK2.out, decide_eq_false hbx, Bool.false_or]
            have HAK3 := Lib.hid hak3
            clear hbx hak3 h0
            go_wp2_with (at_lookup; refine wpList_lookup_hit rfl _ _ _ 22 rfl Tryz.underlying132 (.slice none 0 0) rfl rfl HIN.out.map x rfl hxs _ HF0.out ?_)
            go_roundw
            case rel => exact ⟨k3 + 1, by go_num, by omega, HAK3.out, by first | rfl | trivial⟩
            case measure => simp [intOf]; omega
        · have hany : anyK = false := by
            rw [HAK.out, List.drop_eq_nil_of_le (by rw [HR3.out.len]; omega)]
            rfl
          have hz4 := HZ3.out
          rw [hany] at hz4
          simp only [Bool.false_eq_true, if_false] at hz4
          have hlink := link_ok HBL9.out (by omega) HBO.out.1 (fun v hv k => (HBO.out.2 v hv).s k)
          obtain ⟨lp, hlp⟩ : ∃ q, linkP b = q := ⟨_, rfl⟩
          rw [hlp] at hlink hz4
          have HLINK := Lib.hid hlink
          have HZ4 := Lib.hid hz4
          have HLPE := Lib.hid hlp
          clear hany hz4 hlink hlp HZ3 HAK m14
          go_wp2_with fail
          refine HLINK.out.mono ?_
          rintro e w10 ⟨hb10, hres⟩
          have hb2x : Below w2.heap.size w2 w10 := HB29.out.trans hb10
          cases lp
          case error r =>
            have hres' : e = .returned (.agg #[.int .i64 r.no, .int .i64 r.line]) := hres
            subst hres'
            have hb8 : Below w2.heap.size w2 (w10.alloc (.cells #[.int .i64 r.no, .int .i64 r.line] 76)) := hb2x.alloc hb2x.size _
            have hk7 : Blk (w10.alloc (.cells #[.int .i64 r.no, .int .i64 r.line] 76)) w10.heap.size 76 #[.int .i64 r.no, .int .i64 r.line] := Blk.new _ _ _
            obtain ⟨w11, hw11⟩ : ∃ q, w10.alloc (.cells #[.int .i64 r.no, .int .i64 r.line] 76) = q := ⟨_, rfl⟩
            rw [hw11] at hb8 hk7
            have t0 : w11.cell? ⟨w10.heap.size, 0, none⟩ = some (.int .i64 r.no) := hk7.cell 0
            have t1 : w11.cell? ⟨w10.heap.size, 1, none⟩ = some (.int .i64 r.line) := hk7.cell 1
            have HK2y := Lib.hid (HK2b.out.keep hb8)
            have HK3y := Lib.hid (HK3b.out.keep hb8)
            have HBX := Lib.hid (below_more HB2.out hb8)
            have HW11 := Lib.hid hw11
            have h101 : w10.heap.size ≠ w.heap.size + 1 := by have := hb2x.size; omega
            have h102 : w10.heap.size ≠ w.heap.size + 1 + 1 := by have := hb2x.size; omega
            have hrno := linkGo_err (show linkGo _ _ _ _ _ _ = _ from HLPE.out)
            have hne : (r.no != 0) = true := by rw [bne_iff_ne]; exact hrno
            have hne2 : (r.no == 0) = false := by rw [beq_eq_false_iff_ne]; exact hrno
            have hzf : z = (ElectionD.zero, ⟨r.no, r.line⟩) := HZ4.out
            have HZF := Lib.hid hzf
            clear hb8 hk7 hw11 hrno hzf hres hb10 hb2x
            go_upto_region 18 with (fail)
            rw [HW11.out]
            go_wp2_with fail
            refine wp_region_seqT (fun w' => w'.cell? ⟨w10.heap.size, 0, none⟩ = some (.int .i64 r.no) ∧ w'.cell? ⟨w10.heap.size, 1, none⟩ = some (.int .i64 r.line)) 3 [(0, true), (1, true), (2, false)]
              (by kernel_rfl) rfl (by kernel_rfl) (by kernel_rfl) (by kernel_rfl) (fun _ _ d _ _ h => by cases d <;> exact h) ⟨t0, t1⟩ ?_
            iterate 2
              refine seqL_read (v := ?_) rfl rfl ?_ ?_
              rotate_left 1
              · intro w hS
                obtain ⟨u0, u1⟩ := hS
                go_simp
                with_reducible rfl
              simp only [Act.put, List.getElem_toArray, List.getElem_cons_zero, List.getElem_cons_succ, List.setIfInBounds_toArray, List.set_cons_zero, List.set_cons_succ]
            refine seqL_do rfl fun K hK => ?_
            refine step_store_row rfl 30 _ _ rfl (w.heap.size + 1) zeroE rfl rfl 30 _ HK2y.out.drew (by kernel_rfl) rfl (by kernel_rfl) ?_
            refine hK _ _ ⟨(cell_setRow_other _ _ _ _ h101).trans t0, (cell_setRow_other _ _ _ _ h101).trans t1⟩ ?_
            clear hK K
            try simp only [Act.put, List.getElem_toArray, List.getElem_cons_zero, List.getElem_cons_succ]
            refine seqL_last_go rfl rfl fun K hK => ?_
            refine wp_store_row 76 _ _ rfl (w.heap.size + 1 + 1) #[.int .i64 r.no, .int .i64 r.line] rfl rfl 76 _ ((setRow_other _ _ _ _ (by omega)).trans HK3y.out) (by kernel_rfl) rfl (by simp [Value.oneCell']) ?_
            refine hK _ _ ?_
            clear hK K
            go_wp2_with fail
            obtain ⟨k1, k2, kb, kr⟩ := set_twoR (w := w) (w2 := w11.drew) (cs := zeroE.toList) (no := r.no) (line := r.line) HK2y.out.drew HK3y.out.drew (by omega) (by omega) (by omega) HBX.out.drew rep_zero rfl
            exact ret_cmp0 rfl rfl rfl k1 k2 rfl kb (by rw [HZF.out]; exact kr) (by rw [HZF.out]) rfl
          case ok l =>
            obtain ⟨rfl, cs, hrep, hcell⟩ := hres
            obtain ⟨F1, o1, e1, F2, o2, e2, F3, o3, e3, F4, o4, e4, F5, o5, e5, rfl, g1r, g2r, g3r, g4r, g5r⟩ := hrep
            have hb8 : Below w2.heap.size w2 (w10.alloc (.cells #[.int .i64 0, .int .i64 0] 76)) := hb2x.alloc hb2x.size _
            have hb18 : Below w10.heap.size w10 (w10.alloc (.cells #[.int .i64 0, .int .i64 0] 76)) := (Below.refl _ _).alloc (Nat.le_refl _) _
            have hk7 : Blk (w10.alloc (.cells #[.int .i64 0, .int .i64 0] 76)) w10.heap.size 76 #[.int .i64 0, .int .i64 0] := Blk.new _ _ _
            obtain ⟨w11, hw11⟩ : ∃ q, w10.alloc (.cells #[.int .i64 0, .int .i64 0] 76) = q := ⟨_, rfl⟩
            rw [hw11] at hb8 hk7 hb18
            have hcc : ∀ (i : Nat) u, (elecCells { b.e with styl := l } (.slice F1 o1 e1) (.slice F2 o2 e2) (.slice F3 o3 e3) (.slice F4 o4 e4) (.slice F5 o5 e5))[i]? = some u → w11.cell? ⟨bb, i, none⟩ = some u := fun i u hu => (hb18.cell (World.block_lt_of_cell? w10 _ (hcell i u hu))).trans (hcell i u hu)
            have t0 : w11.cell? ⟨w10.heap.size, 0, none⟩ = some (.int .i64 0) := hk7.cell 0
            have t1 : w11.cell? ⟨w10.heap.size, 1, none⟩ = some (.int .i64 0) := hk7.cell 1
            have m0 : w11.cell? ⟨bb, 0, none⟩ = some (.string b.e.title) := hcc 0 _ rfl
            have m1 : w11.cell? ⟨bb, 1, none⟩ = some (.int .i64 b.e.dots) := hcc 1 _ rfl
            have m2 : w11.cell? ⟨bb, 2, none⟩ = some (.int .i64 b.e.blank) := hcc 2 _ rfl
            have m3 : w11.cell? ⟨bb, 3, none⟩ = some (.int .i64 b.e.marked) := hcc 3 _ rfl
            have m4 : w11.cell? ⟨bb, 4, none⟩ = some (.slice F1 o1 e1) := hcc 4 _ rfl
            have m5 : w11.cell? ⟨bb, 5, none⟩ = some (.slice F2 o2 e2) := hcc 5 _ rfl
            have m6 : w11.cell? ⟨bb, 6, none⟩ = some (.slice F3 o3 e3) := hcc 6 _ rfl
            have m7 : w11.cell? ⟨bb, 7, none⟩ = some (.int .i64 b.e.scan) := hcc 7 _ rfl
            have m8 : w11.cell? ⟨bb, 8, none⟩ = some (.int .i64 b.e.batch) := hcc 8 _ rfl
            have m9 : w11.cell? ⟨bb, 9, none⟩ = some (.bool b.e.risk.neg) := hcc 9 _ rfl
            have m10 : w11.cell? ⟨bb, 10, none⟩ = some (.slice F4 o4 e4) := hcc 10 _ rfl
            have m11 : w11.cell? ⟨bb, 11, none⟩ = some (.slice F5 o5 e5) := hcc 11 _ rfl
            have m12 : w11.cell? ⟨bb, 12, none⟩ = some (.int .i64 b.e.cell) := hcc 12 _ rfl
            have m13 : w11.cell? ⟨bb, 13, none⟩ = some (.string b.e.seed) := hcc 13 _ rfl
            have HK2y := Lib.hid (HK2b.out.keep hb8)
            have HK3y := Lib.hid (HK3b.out.keep hb8)
            have HBX := Lib.hid (below_more HB2.out hb8)
            have HW11 := Lib.hid hw11
            have hrep11 : Rep.rep w11 (fun g => w2.heap.size ≤ g ∧ g < w10.heap.size) (elecCells { b.e with styl := l } (.slice F1 o1 e1) (.slice F2 o2 e2) (.slice F3 o3 e3) (.slice F4 o4 e4) (.slice F5 o5 e5)) ({ b.e with styl := l } : ElectionD) :=
              Rep.keep (x := ({ b.e with styl := l } : ElectionD)) ⟨F1, o1, e1, F2, o2, e2, F3, o3, e3, F4, o4, e4, F5, o5, e5, rfl, g1r, g2r, g3r, g4r, g5r⟩ (fun _ h => h) ((Keeps.of_below hb18).sub fun _ h => h.2)
            have HREP := Lib.hid hrep11
            have HS10 := Lib.hid hb18.size
            have hzf : z = (({ b.e with styl := l } : ElectionD), ⟨0, 0⟩) := HZ4.out
            have HZF := Lib.hid hzf
            have HBS := Lib.hid hb2x.size
            clear hb8 hk7 hw11 hzf hb10 hb2x hb18 hcc hcell g1r g2r g3r g4r g5r hrep11
            have p0 : w11.cell? ⟨w.heap.size + 1, 0, none⟩ = some (.string ⟨#[]⟩) := HK2y.out.cell 0
            have f0 : w11.frozen? ⟨w.heap.size + 1, 0, none⟩ = false := HK2y.out.frozen 0
            have p1 : w11.cell? ⟨w.heap.size + 1, 1, none⟩ = some (.int .i64 0) := HK2y.out.cell 1
            have f1 : w11.frozen? ⟨w.heap.size + 1, 1, none⟩ = false := HK2y.out.frozen 1
            have p2 : w11.cell? ⟨w.heap.size + 1, 2, none⟩ = some (.int .i64 0) := HK2y.out.cell 2
            have f2 : w11.frozen? ⟨w.heap.size + 1, 2, none⟩ = false := HK2y.out.frozen 2
            have p3 : w11.cell? ⟨w.heap.size + 1, 3, none⟩ = some (.int .i64 0) := HK2y.out.cell 3
            have f3 : w11.frozen? ⟨w.heap.size + 1, 3, none⟩ = false := HK2y.out.frozen 3
            have p4 : w11.cell? ⟨w.heap.size + 1, 4, none⟩ = some (.slice none 0 0) := HK2y.out.cell 4
            have f4 : w11.frozen? ⟨w.heap.size + 1, 4, none⟩ = false := HK2y.out.frozen 4
            have p5 : w11.cell? ⟨w.heap.size + 1, 5, none⟩ = some (.slice none 0 0) := HK2y.out.cell 5
            have f5 : w11.frozen? ⟨w.heap.size + 1, 5, none⟩ = false := HK2y.out.frozen 5
            have p6 : w11.cell? ⟨w.heap.size + 1, 6, none⟩ = some (.slice none 0 0) := HK2y.out.cell 6
            have f6 : w11.frozen? ⟨w.heap.size + 1, 6, none⟩ = false := HK2y.out.frozen 6
            have p7 : w11.cell? ⟨w.heap.size + 1, 7, none⟩ = some (.int .i64 0) := HK2y.out.cell 7
            have f7 : w11.frozen? ⟨w.heap.size + 1, 7, none⟩ = false := HK2y.out.frozen 7
            have p8 : w11.cell? ⟨w.heap.size + 1, 8, none⟩ = some (.int .i64 0) := HK2y.out.cell 8
            have f8 : w11.frozen? ⟨w.heap.size + 1, 8, none⟩ = false := HK2y.out.frozen 8
            have p9 : w11.cell? ⟨w.heap.size + 1, 9, none⟩ = some (.bool false) := HK2y.out.cell 9
            have f9 : w11.frozen? ⟨w.heap.size + 1, 9, none⟩ = false := HK2y.out.frozen 9
            have p10 : w11.cell? ⟨w.heap.size + 1, 10, none⟩ = some (.slice none 0 0) := HK2y.out.cell 10
            have f10 : w11.frozen? ⟨w.heap.size + 1, 10, none⟩ = false := HK2y.out.frozen 10
            have p11 : w11.cell? ⟨w.heap.size + 1, 11, none⟩ = some (.slice none 0 0) := HK2y.out.cell 11
            have f11 : w11.frozen? ⟨w.heap.size + 1, 11, none⟩ = false := HK2y.out.frozen 11
            have p12 : w11.cell? ⟨w.heap.size + 1, 12, none⟩ = some (.int .i64 0) := HK2y.out.cell 12
            have f12 : w11.frozen? ⟨w.heap.size + 1, 12, none⟩ = false := HK2y.out.frozen 12
            have p13 : w11.cell? ⟨w.heap.size + 1, 13, none⟩ = some (.string ⟨#[]⟩) := HK2y.out.cell 13
            have f13 : w11.frozen? ⟨w.heap.size + 1, 13, none⟩ = false := HK2y.out.frozen 13
            have q0 : w11.cell? ⟨w.heap.size + 1 + 1, 0, none⟩ = some (.int .i64 0) := HK3y.out.cell 0
            have g0 : w11.frozen? ⟨w.heap.size + 1 + 1, 0, none⟩ = false := HK3y.out.frozen 0
            have q1 : w11.cell? ⟨w.heap.size + 1 + 1, 1, none⟩ = some (.int .i64 0) := HK3y.out.cell 1
            have g1 : w11.frozen? ⟨w.heap.size + 1 + 1, 1, none⟩ = false := HK3y.out.frozen 1
            go_upto_region 18 with (fail)
            rw [HW11.out]
            go_wp2_with fail
            obtain ⟨k1, k2, kb, kr⟩ := set_two (w := w) (w2 := w11) (no := 0) (line := 0) HK2y.out HK3y.out rfl rfl rfl (by omega) (by omega) (by omega) HBX.out HREP.out (fun g hg => ⟨⟨by have := hg.1; omega, Nat.lt_of_lt_of_le hg.2 HS10.out⟩, by have := hg.1; omega, by have := hg.1; omega⟩) rfl
            exact ret_cmp0 rfl rfl rfl k1 k2 rfl kb (by rw [HZF.out]; exact kr) (by rw [HZF.out]) rfl
end Go.Proofs.YtjlhbfbdcfajfaaGreatDoor
