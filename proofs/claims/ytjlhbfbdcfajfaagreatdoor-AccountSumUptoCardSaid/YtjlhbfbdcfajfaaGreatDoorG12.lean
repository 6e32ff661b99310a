/- Map Val Sch4 -/
import Derived.Test.YtjlhbfbdcfajfaaGreatDoorChecked
import Derived.Test.YtjlhbfbdcfajfaaGreatDoorG02
import Derived.Test.YtjlhbfbdcfajfaaGreatDoorG08
import Derived.Maps.OwnSet
import Derived.Maps.OwnOps
import Derived.Test.YtjlhbfbdcfajfaaGreatDoorG11
/- Maps with string keys that the call has made, whatever their elements: such a map is told by a Lean function from strings to values. -/
namespace Go.Proofs.YtjlhbfbdcfajfaaGreatDoor
open Go.RowKit Go.Maps Go.WideMaps

/-- an element is taken as it stands -/
def anyElem (v : Value) : Option (DataW Value × List MemPlace) := some (.held v, [])
/-- a string as a key -/
def keyS (s : ByteArray) : Lit := .string s.data.toList
theorem keyS_of (s : ByteArray) (hs : s.size ≤ maxLen) : keyOf Tryz.prog 9 (.string s) = some (keyS s) := keyOf_string_mk Tryz.underlying9 hs
theorem keyS_inj {s t : ByteArray} (h : keyS s = keyS t) : s = t := by
  unfold keyS at h
  injection h with h
  exact ByteArray.ext (Array.toList_inj.1 h)
theorem strKeyed : Keyed Tryz.prog 9 := string_keyed Tryz.underlying9

/-- block b is a map of at most n entries that holds f s at the key s -/
def MapIs (w : World) (b n : Nat) (f : ByteArray → Option Value) : Prop :=
  ∃ D : DataW Value, w.ownsMap Tryz.prog 9 anyElem b n D ∧ IsMap D ∧ (∀ s, has D (keyS s) = (f s).isSome) ∧ ∀ s z, D.atKey (keyS s) (.held z) = .held ((f s).getD z)
/-- with one entry more, or another -/
def upd (f : ByteArray → Option Value) (s : ByteArray) (v : Value) : ByteArray → Option Value := fun t => if t = s then some v else f t

section
variable {w w' : World} {b n : Nat} {f : ByteArray → Option Value}
theorem MapIs.lt (h : MapIs w b n f) : b < w.heap.size := by
  obtain ⟨D, h, _⟩ := h
  exact h.lt
theorem MapIs.made (w : World) : MapIs (w.alloc (.map #[] 0)) w.heap.size 0 (fun _ => none) :=
  ⟨.map [], World.ownsMap_made w _ _ _, isMap_empty, fun _ => rfl, fun _ _ => rfl⟩
theorem MapIs.kept {row : Option Nat} (h : MapIs w b n f) (hg : w.grownBy w' row) (hne : some b ≠ row) : MapIs w' b n f := by
  obtain ⟨D, h1, h2⟩ := h
  exact ⟨D, h1.kept hg hne, h2⟩
theorem MapIs.alloc (h : MapIs w b n f) (o : Obj) : MapIs (w.alloc o) b n f := h.kept (World.grownBy_alloc w o none) (by simp)
theorem MapIs.below {B : Nat} (h : MapIs w b n f) (hb : Below B w w') (hB : b < B) : MapIs w' b n f := by
  obtain ⟨D, ⟨es, clock, h0, h1⟩, h2⟩ := h
  exact ⟨D, ⟨es, clock, (hb.block b hB).trans h0, h1⟩, h2⟩
theorem MapIs.keep (h : MapIs w b n f) (hb : Below w.heap.size w w') : MapIs w' b n f := h.below hb h.lt
theorem MapIs.setCell (h : MapIs w b n f) {a : Addr} (ha : b ≠ a.block) (u : Value) : MapIs (w.setCell a u) b n f := by
  obtain ⟨D, h1, h2⟩ := h
  exact ⟨D, h1.setCell ha u, h2⟩
theorem MapIs.mono (h : MapIs w b n f) {m : Nat} (hm : n ≤ m) : MapIs w b m f := by
  obtain ⟨D, h1, h2⟩ := h
  exact ⟨D, h1.mono hm, h2⟩
theorem keyLit (s : ByteArray) : WideAt.IsKeyLit (keyS s) := trivial
theorem held_inj {v u : Value} {ps : List MemPlace} (h : anyElem v = some (.held u, ps)) : v = u := by
  simp only [anyElem, Option.some.injEq, Prod.mk.injEq, DataW.held.injEq] at h
  exact h.1
end

/-- 'm[s]' -/
theorem wpList_lookup_map {w : World} {b n : Nat} {f : ByteArray → Option Value} {ops : Array Oper} {rest : List Oper} {o : Oper} {a : Act} {Q : Exit → Act → World → Prop} (hg : o.guard = none) (m x : Operand) (t e : TypeId) (hop : o.op = Op.lookup t m x false)
    (ht : Tryz.prog.underlying t = some (.map 9 e)) (z : Value) (hz : (zeroValue e).run Tryz.prog w = .ok z w) (hm : a.eval m = .map (some b)) (h : MapIs w b n f) (s : ByteArray) (hx : a.eval x = .string s) (hs : s.size ≤ maxLen)
    (hK : wpList Tryz.prog ops Q rest (a.put o.dst ((f s).getD z)) w) : wpList Tryz.prog ops Q (o :: rest) a w := by
  obtain ⟨D, h1, _, _, h3⟩ := h
  obtain ⟨v, ps, hrun, hv⟩ := h1.lookup strKeyed ht hz (zd := .held z) (zp := []) rfl (keyS_of s hs)
  rw [h3] at hv
  have hv' : v = (f s).getD z := held_inj hv
  subst hv'
  refine wpList_plain hg fun K' hK' => ?_
  unfold Oper.wp
  simp [execOp, hop, hm, hx, hrun, Result.andThen]
  exact hK' _ _ hK
/-- 'v, ok := m[s]' -/
theorem wpList_lookup_map_ok {w : World} {b n : Nat} {f : ByteArray → Option Value} {ops : Array Oper} {rest : List Oper} {o : Oper} {a : Act} {Q : Exit → Act → World → Prop} (hg : o.guard = none) (m x : Operand) (t e : TypeId) (hop : o.op = Op.lookup t m x true)
    (ht : Tryz.prog.underlying t = some (.map 9 e)) (z : Value) (hz : (zeroValue e).run Tryz.prog w = .ok z w) (hm : a.eval m = .map (some b)) (h : MapIs w b n f) (s : ByteArray) (hx : a.eval x = .string s) (hs : s.size ≤ maxLen)
    (hK : wpList Tryz.prog ops Q rest (a.put o.dst (.tuple #[(f s).getD z, .bool (f s).isSome])) w) : wpList Tryz.prog ops Q (o :: rest) a w := by
  obtain ⟨D, h1, _, h2, h3⟩ := h
  refine wpList_lookup_own_ok w hg m x t hop 9 e strKeyed ht anyElem hz (.held z) [] rfl b n D hm h1 (.string s) (keyS s) hx (keyS_of s hs) fun v ps hv => ?_
  rw [h3] at hv
  have hv' : v = (f s).getD z := held_inj hv
  subst hv'
  rw [h2]
  exact hK
/-- 'm[s] = v' -/
theorem wpList_store_map {w : World} {b n : Nat} {f : ByteArray → Option Value} {ops : Array Oper} {rest : List Oper} {o : Oper} {a : Act} {Q : Exit → Act → World → Prop} (hg : o.guard = none) (m x v : Operand) (t e : TypeId) (hop : o.op = Op.mapUpdate t m x v)
    (ht : Tryz.prog.underlying t = some (.map 9 e)) (hm : a.eval m = .map (some b)) (h : MapIs w b n f) (hn : n < maxLen) (s : ByteArray) (u : Value) (hx : a.eval x = .string s) (hv : a.eval v = u) (hs : s.size ≤ maxLen)
    (hK : ∀ w', MapIs w' b (n + 1) (upd f s u) → w.grownBy w' (some b) → wpList Tryz.prog ops Q rest (a.put o.dst undef) w') : wpList Tryz.prog ops Q (o :: rest) a w := by
  obtain ⟨D, h1, h0, h2, h3⟩ := h
  refine wpList_mapUpdate_own w hg m x v t hop 9 e strKeyed ht anyElem b n D hm h1 hn (.string s) u (keyS s) hx hv (keyS_of s hs) (.held u) [] rfl fun w' hw hgr => hK w' ⟨_, hw, h0.put _ _, fun r => ?_, fun r z => ?_⟩ hgr
  · by_cases hr : r = s
    · subst hr
      rw [has_put_same h0 (keyLit r)]
      simp [upd]
    · rw [has_put_other (fun e => hr (keyS_inj e)), h2]
      simp [upd, hr]
  · by_cases hr : r = s
    · subst hr
      rw [atKey_put_same h0 (keyLit r)]
      simp [upd]
    · rw [atKey_put_other (fun e => hr (keyS_inj e)), h3]
      simp [upd, hr]
/-- the same, as one operation -/
theorem wp_store_map {w : World} {b n : Nat} {f : ByteArray → Option Value} {o : Oper} {a : Act} {K : Act → World → Prop} {Q : Exit → Act → World → Prop} (m x v : Operand) (t e : TypeId) (hop : o.op = Op.mapUpdate t m x v)
    (ht : Tryz.prog.underlying t = some (.map 9 e)) (hm : a.eval m = .map (some b)) (h : MapIs w b n f) (hn : n < maxLen) (s : ByteArray) (u : Value) (hx : a.eval x = .string s) (hv : a.eval v = u) (hs : s.size ≤ maxLen)
    (hK : ∀ w', MapIs w' b (n + 1) (upd f s u) → w.grownBy w' (some b) → K (a.put o.dst undef) w') : o.wp Tryz.prog a w K Q := by
  obtain ⟨D, h1, h0, h2, h3⟩ := h
  obtain ⟨w', hrun, r1, r2⟩ := h1.update (key := .string s) (val := u) strKeyed ht hn (keyS_of s hs) (d := .held u) (ps := []) rfl
  unfold Oper.wp
  simp [execOp, hop, hm, hx, hv, hrun, Result.andThen]
  refine hK w' ⟨_, r1, h0.put _ _, fun r => ?_, fun r z => ?_⟩ r2
  · by_cases hr : r = s
    · subst hr
      rw [has_put_same h0 (keyLit r)]
      simp [upd]
    · rw [has_put_other (fun e => hr (keyS_inj e)), h2]
      simp [upd, hr]
  · by_cases hr : r = s
    · subst hr
      rw [atKey_put_same h0 (keyLit r)]
      simp [upd]
    · rw [atKey_put_other (fun e => hr (keyS_inj e)), h3]
      simp [upd, hr]
end Go.Proofs.YtjlhbfbdcfajfaaGreatDoor
/- schema: the values of a block's fields, in memory: a block g that leads to three maps. -/
namespace Go.Proofs.YtjlhbfbdcfajfaaGreatDoor
open Go.RowKit

/-- the values of a block's fields -/
structure Vals where
  num : ByteArray → Option Int
  lst : ByteArray → Option (List ByteArray)
  ln : ByteArray → Option Int
  risk : Raw
  seed : ByteArray
def Vals.zero : Vals := ⟨fun _ => none, fun _ => none, fun _ => none, ⟨false, [], []⟩, ⟨#[]⟩⟩
def setF {α : Type} (f : ByteArray → Option α) (k : ByteArray) (x : α) : ByteArray → Option α := fun t => if t = k then some x else f t

/-- the blocks from B on that are none of four -/
def Data (w : World) (B g m1 m2 m3 : Nat) (b : Nat) : Prop := B ≤ b ∧ b < w.heap.size ∧ b ≠ g ∧ b ≠ m1 ∧ b ≠ m2 ∧ b ≠ m3
/-- a map of ints -/
def ints (f : ByteArray → Option Int) : ByteArray → Option Value := fun s => (f s).map (Value.int .i64)
/-- a map of lists of strings: its slices lie in S -/
def Lists (w : World) (S : Nat → Prop) (f : ByteArray → Option Value) (l : ByteArray → Option (List ByteArray)) : Prop :=
  ∀ s, match l s with | none => f s = none | some xs => ∃ A n c, f s = some (.slice A n c) ∧ RS w S A n c xs
theorem Lists.keep {w w' : World} {S S' : Nat → Prop} {f : ByteArray → Option Value} {l : ByteArray → Option (List ByteArray)} (h : Lists w S f l) (hS : ∀ b, S b → S' b) (hk : Keeps S w w') : Lists w' S' f l := by
  intro s
  have := h s
  cases hl : l s with
  | none => rw [hl] at this; exact this
  | some xs =>
    rw [hl] at this
    obtain ⟨A, n, c, e, hr⟩ := this
    exact ⟨A, n, c, e, hr.keep hS hk⟩
theorem ints_set (f : ByteArray → Option Int) (k : ByteArray) (x : Int) : upd (ints f) k (.int .i64 x) = ints (setF f k x) := by
  funext t
  unfold upd ints setF
  split <;> rfl
theorem Lists.set {w : World} {S : Nat → Prop} {f : ByteArray → Option Value} {l : ByteArray → Option (List ByteArray)} (h : Lists w S f l) {A : Option Addr} {n c : Nat} {xs : List ByteArray} (hr : RS w S A n c xs) (k : ByteArray) :
    Lists w S (upd f k (.slice A n c)) (setF l k xs) := by
  intro s
  unfold upd setF
  by_cases hs : s = k
  · rw [if_pos hs, if_pos hs]; exact ⟨A, n, c, rfl, hr⟩
  · rw [if_neg hs, if_neg hs]; exact h s

/-- the parts of a values struct in block g -/
structure ValIn (w : World) (B g N m1 m2 m3 : Nat) (f : ByteArray → Option Value) (A : Option Addr) (n c : Nat) (A2 : Option Addr) (n2 c2 : Nat) (v : Vals) : Prop where
  hg : B ≤ g
  h1 : B ≤ m1
  h2 : B ≤ m2
  h3 : B ≤ m3
  d1 : g ≠ m1
  d2 : g ≠ m2
  d3 : g ≠ m3
  d4 : m1 ≠ m2
  d5 : m1 ≠ m3
  d6 : m2 ≠ m3
  blk : Blk w g 168 #[.map (some m1), .map (some m2), .map (some m3), .bool v.risk.neg, .slice A n c, .slice A2 n2 c2, .string v.seed]
  num : MapIs w m1 N (ints v.num)
  lst : MapIs w m2 N f
  lsts : Lists w (Data w B g m1 m2 m3) f v.lst
  ln : MapIs w m3 N (ints v.ln)
  rn : RS w (Data w B g m1 m2 m3) A n c v.risk.num
  rd : RS w (Data w B g m1 m2 m3) A2 n2 c2 v.risk.den
/-- block g holds the values v; its maps have at most N entries each; all lies from block B on -/
def ValsAt (w : World) (B g N : Nat) (v : Vals) : Prop := ∃ m1 m2 m3 f A n c A2 n2 c2, ValIn w B g N m1 m2 m3 f A n c A2 n2 c2 v

theorem Data.mono {w w' : World} {B g m1 m2 m3 : Nat} (h : w.heap.size ≤ w'.heap.size) : ∀ b, Data w B g m1 m2 m3 b → Data w' B g m1 m2 m3 b := fun _ hb => ⟨hb.1, Nat.lt_of_lt_of_le hb.2.1 h, hb.2.2⟩

section
variable {w w' : World} {B g N m1 m2 m3 : Nat} {f : ByteArray → Option Value} {A A2 : Option Addr} {n c n2 c2 : Nat} {v : Vals}
theorem ValIn.keep (h : ValIn w B g N m1 m2 m3 f A n c A2 n2 c2 v) (hb : Below w.heap.size w w') : ValIn w' B g N m1 m2 m3 f A n c A2 n2 c2 v :=
  have hk : Keeps (Data w B g m1 m2 m3) w w' := (Keeps.of_below hb).sub fun _b hb => hb.2.1
  { h with blk := h.blk.keep hb, num := h.num.keep hb, lst := h.lst.keep hb, lsts := h.lsts.keep (Data.mono hb.size) hk, ln := h.ln.keep hb, rn := h.rn.keep (Data.mono hb.size) hk, rd := h.rd.keep (Data.mono hb.size) hk }
theorem ValsAt.keep (h : ValsAt w B g N v) (hb : Below w.heap.size w w') : ValsAt w' B g N v := by
  obtain ⟨m1, m2, m3, f, A, n, c, A2, n2, c2, h⟩ := h
  exact ⟨m1, m2, m3, f, A, n, c, A2, n2, c2, h.keep hb⟩
/-- behind a store into the map m1 -/
theorem ValIn.setNum (h : ValIn w B g N m1 m2 m3 f A n c A2 n2 c2 v) (k : ByteArray) (x : Int) (hm : MapIs w' m1 (N + 1) (upd (ints v.num) k (.int .i64 x))) (hgr : w.grownBy w' (some m1)) : ValIn w' B g (N + 1) m1 m2 m3 f A n c A2 n2 c2 { v with num := setF v.num k x } :=
  have hk : Keeps (Data w B g m1 m2 m3) w w' := (Keeps.grown hgr).sub fun b hb => ⟨hb.2.1, fun e => hb.2.2.2.1 (by injection e)⟩
  { h with blk := h.blk.grown hgr (fun e => h.d1 (by injection e)), num := by rw [← ints_set]; exact hm, lst := (h.lst.kept hgr (fun e => h.d4 (by injection e with e; exact e.symm))).mono (Nat.le_succ _), lsts := h.lsts.keep (Data.mono hgr.size) hk,
           ln := (h.ln.kept hgr (fun e => h.d5 (by injection e with e; exact e.symm))).mono (Nat.le_succ _), rn := h.rn.keep (Data.mono hgr.size) hk, rd := h.rd.keep (Data.mono hgr.size) hk }
theorem ValIn.setLn (h : ValIn w B g N m1 m2 m3 f A n c A2 n2 c2 v) (k : ByteArray) (x : Int) (hm : MapIs w' m3 (N + 1) (upd (ints v.ln) k (.int .i64 x))) (hgr : w.grownBy w' (some m3)) : ValIn w' B g (N + 1) m1 m2 m3 f A n c A2 n2 c2 { v with ln := setF v.ln k x } :=
  have hk : Keeps (Data w B g m1 m2 m3) w w' := (Keeps.grown hgr).sub fun b hb => ⟨hb.2.1, fun e => hb.2.2.2.2.2 (by injection e)⟩
  { h with blk := h.blk.grown hgr (fun e => h.d3 (by injection e)), num := (h.num.kept hgr (fun e => h.d5 (by injection e))).mono (Nat.le_succ _), lst := (h.lst.kept hgr (fun e => h.d6 (by injection e))).mono (Nat.le_succ _), lsts := h.lsts.keep (Data.mono hgr.size) hk,
           ln := by rw [← ints_set]; exact hm, rn := h.rn.keep (Data.mono hgr.size) hk, rd := h.rd.keep (Data.mono hgr.size) hk }
theorem ValIn.setLst (h : ValIn w B g N m1 m2 m3 f A n c A2 n2 c2 v) (k : ByteArray) {A3 : Option Addr} {n3 c3 : Nat} {xs : List ByteArray} (hr : RS w (Data w B g m1 m2 m3) A3 n3 c3 xs) (hm : MapIs w' m2 (N + 1) (upd f k (.slice A3 n3 c3))) (hgr : w.grownBy w' (some m2)) :
    ValIn w' B g (N + 1) m1 m2 m3 (upd f k (.slice A3 n3 c3)) A n c A2 n2 c2 { v with lst := setF v.lst k xs } :=
  have hk : Keeps (Data w B g m1 m2 m3) w w' := (Keeps.grown hgr).sub fun b hb => ⟨hb.2.1, fun e => hb.2.2.2.2.1 (by injection e)⟩
  { h with blk := h.blk.grown hgr (fun e => h.d2 (by injection e)), num := (h.num.kept hgr (fun e => h.d4 (by injection e))).mono (Nat.le_succ _), lst := hm, lsts := (h.lsts.set hr k).keep (Data.mono hgr.size) hk,
           ln := (h.ln.kept hgr (fun e => h.d6 (by injection e with e; exact e.symm))).mono (Nat.le_succ _), rn := h.rn.keep (Data.mono hgr.size) hk, rd := h.rd.keep (Data.mono hgr.size) hk }
theorem ValIn.setSeed (h : ValIn w B g N m1 m2 m3 f A n c A2 n2 c2 v) (s : ByteArray) : ValIn (w.setCell ⟨g, 6, none⟩ (.string s)) B g N m1 m2 m3 f A n c A2 n2 c2 { v with seed := s } :=
  have hk : Keeps (Data w B g m1 m2 m3) w (w.setCell ⟨g, 6, none⟩ (.string s)) := (Keeps.refl _ _).setCell (fun h => h.2.2.1 rfl) _
  have hd : ∀ b, Data w B g m1 m2 m3 b → Data (w.setCell ⟨g, 6, none⟩ (.string s)) B g m1 m2 m3 b := Data.mono (by simp)
  { h with blk := h.blk.set_ 6 _, num := h.num.setCell (fun e => h.d1 e.symm) _, lst := h.lst.setCell (fun e => h.d2 e.symm) _, lsts := h.lsts.keep hd hk, ln := h.ln.setCell (fun e => h.d3 e.symm) _, rn := h.rn.keep hd hk, rd := h.rd.keep hd hk }
theorem ValIn.setRisk (h : ValIn w B g N m1 m2 m3 f A n c A2 n2 c2 v) {A3 A4 : Option Addr} {n3 c3 n4 c4 : Nat} (r : Raw) (hn : RS w (Data w B g m1 m2 m3) A3 n3 c3 r.num) (hd' : RS w (Data w B g m1 m2 m3) A4 n4 c4 r.den) :
    ValIn (((w.setCell ⟨g, 3, none⟩ (.bool r.neg)).setCell ⟨g, 4, none⟩ (.slice A3 n3 c3)).setCell ⟨g, 5, none⟩ (.slice A4 n4 c4)) B g N m1 m2 m3 f A3 n3 c3 A4 n4 c4 { v with risk := r } :=
  have hk : Keeps (Data w B g m1 m2 m3) w (((w.setCell ⟨g, 3, none⟩ (.bool r.neg)).setCell ⟨g, 4, none⟩ (.slice A3 n3 c3)).setCell ⟨g, 5, none⟩ (.slice A4 n4 c4)) := (((Keeps.refl _ _).setCell (fun h => h.2.2.1 rfl) _).setCell (fun h => h.2.2.1 rfl) _).setCell (fun h => h.2.2.1 rfl) _
  have hd : ∀ b, Data w B g m1 m2 m3 b → Data (((w.setCell ⟨g, 3, none⟩ (.bool r.neg)).setCell ⟨g, 4, none⟩ (.slice A3 n3 c3)).setCell ⟨g, 5, none⟩ (.slice A4 n4 c4)) B g m1 m2 m3 b := Data.mono (by simp)
  { h with blk := ((h.blk.set_ 3 _).set_ 4 _).set_ 5 _, num := ((h.num.setCell (fun e => h.d1 e.symm) _).setCell (fun e => h.d1 e.symm) _).setCell (fun e => h.d1 e.symm) _, lst := ((h.lst.setCell (fun e => h.d2 e.symm) _).setCell (fun e => h.d2 e.symm) _).setCell (fun e => h.d2 e.symm) _, lsts := h.lsts.keep hd hk,
           ln := ((h.ln.setCell (fun e => h.d3 e.symm) _).setCell (fun e => h.d3 e.symm) _).setCell (fun e => h.d3 e.symm) _, rn := hn.keep hd hk, rd := hd'.keep hd hk }
end
end Go.Proofs.YtjlhbfbdcfajfaaGreatDoor
/- schema: readRisk. -/
namespace Go.Proofs.YtjlhbfbdcfajfaaGreatDoor
open Go.RowKit

theorem digitVal_lt {x : UInt8} {d : Nat} (h : Lib.digitVal x = some d) : d < 10 := by
  unfold Lib.digitVal at h
  split at h
  · injection h with h; omega
  · cases h
theorem decFrom_lt : ∀ (l : List UInt8) (acc n : Nat), Lib.decFrom acc l = some n → n < (acc + 1) * 10 ^ l.length
  | [], acc, n, h => by simp [Lib.decFrom] at h; subst h; simp
  | x :: l, acc, n, h => by
    unfold Lib.decFrom at h
    split at h
    · rename_i d hd
      have h1 := decFrom_lt l _ _ h
      have h2 := digitVal_lt hd
      rw [List.length_cons, Nat.pow_succ', ← Nat.mul_assoc]
      exact Nat.lt_of_lt_of_le h1 (Nat.mul_le_mul_right _ (by omega))
    · cases h
theorem numP_range (l : List UInt8) : 0 ≤ (numP l).1 ∧ (numP l).1 ≤ 999999 := by
  unfold numP
  split
  · rename_i h
    obtain ⟨h0, h1, h2⟩ := isNum_spec h
    obtain ⟨n, hn⟩ := decFrom_all l 0 h2
    have h3 := decFrom_lt l 0 n hn
    have h4 : (10 : Nat) ^ l.length ≤ 10 ^ 6 := Nat.pow_le_pow_right (by omega) h1
    have h5 : Lib.decNat l = some n := by unfold Lib.decNat; rw [if_neg (by simpa using h0)]; exact hn
    rw [h5]
    simp
    omega
  · simp

def fracQ (a b : Int) : Q := mkQ (decide (a < 0) != decide (b < 0)) a.natAbs b.natAbs
/-- the order of two new Ratios -/
def cmpF (a b : Q) : Int := cmpQ a.raw.q b.raw.flip.q
/-- what readRisk reads: the error, and the risk limit if there is none -/
def riskP (l : List UInt8) : Int × Option Raw :=
  if ((numP (cutA l)).2 && (numP (cutB l)).2) = false then (5, none)
  else if (numP (cutB l)).1 = 0 ∨ cmpF (fracQ (numP (cutA l)).1 (numP (cutB l)).1) (fracQ 1 1000) < 0 ∨ 0 < cmpF (fracQ (numP (cutA l)).1 (numP (cutB l)).1) (fracQ 1 2) then (4, none)
  else (0, some (fracQ (numP (cutA l)).1 (numP (cutB l)).1).raw)
def Vals.withRisk (v : Vals) (r : Option Raw) : Vals := match r with | none => v | some r => { v with risk := r }
/-- blocks of cells other than g are kept -/
def CK (g : Nat) (w w' : World) : Prop := ∀ b t cs, b ≠ g → Blk w b t cs → Blk w' b t cs
/-- all below block B is kept, and all blocks of cells but g -/
def BC (B g : Nat) (w w' : World) : Prop := Below B w w' ∧ CK g w w'
theorem bc_of {B g : Nat} {w w' : World} (h : Below w.heap.size w w') (hB : B ≤ w.heap.size) : BC B g w w' := ⟨h.mono hB, fun _ _ _ _ hb => hb.keep h⟩
theorem BC.trans {B g : Nat} {w w1 w2 : World} (h : BC B g w w1) (k : BC B g w1 w2) : BC B g w w2 := ⟨h.1.trans k.1, fun b t cs hg hb => k.2 b t cs hg (h.2 b t cs hg hb)⟩
theorem BC.drew {B g : Nat} {w w1 : World} (h : BC B g w w1) : BC B g w w1.drew := ⟨h.1.drew, fun b t cs hg hb => h.2 b t cs hg hb⟩
theorem BC.set {B g : Nat} {w w1 : World} (h : BC B g w w1) (hB : B ≤ g) (i : Nat) (u : Value) : BC B g w (w1.setCell ⟨g, i, none⟩ u) := ⟨h.1.setCell (p := ⟨g, i, none⟩) hB u, fun b t cs hg hb => (h.2 b t cs hg hb).far (p := ⟨g, i, none⟩) hg u⟩
theorem bc_grown {B g m n : Nat} {f : ByteArray → Option Value} {w0 w w' : World} (h : BC B g w0 w) (hm : MapIs w m n f) (hg : w.grownBy w' (some m)) (hB : B ≤ m) (hs : B ≤ w.heap.size) : BC B g w0 w' :=
  ⟨h.1.grown hg hs (fun k hk => by injection hk with hk; omega), fun b t cs hbg hb => (h.2 b t cs hbg hb).grown hg (fun e => by
    injection e with e
    subst e
    obtain ⟨D, ⟨es, clock, h0, _⟩, _⟩ := hm
    have h1 := h.2 b t cs hbg hb
    unfold Blk at h1
    rw [h0] at h1
    cases h1)⟩
/-- the call returns an error number and leaves these values in block g -/
def RetVals (w : World) (B g N : Nat) (er : Int) (v : Vals) (e : Ending) (w' : World) : Prop := e = .returned (.int .i64 er) ∧ ValsAt w' B g N v ∧ BC B g w w'
theorem mkQ_short (neg : Bool) (X Y : Nat) (hx : X < 18446744073709551616) (hy : Y < 18446744073709551616) : (mkQ neg X Y).raw.short 2 := by
  unfold mkQ
  split
  · exact ⟨by simp [Q.raw, lim_zero], by simp [Q.raw, one_lim]⟩
  · exact ⟨lim64 (Nat.lt_of_le_of_lt (Nat.div_le_self _ _) hx), lim64 (Nat.lt_of_le_of_lt (Nat.div_le_self _ _) hy)⟩

set_option maxRecDepth 20000 in
set_option maxHeartbeats 2000000 in
theorem readRisk_ok {w : World} {B g N : Nat} {v : Vals} (h : ValsAt w B g N v) (hB : B ≤ w.heap.size) (s : ByteArray) (hs : Sane s) :
    Calls Tryz.prog 149 #[.pointer (some ⟨g, 0, none⟩), .string s] w (RetVals w B g N (riskP s.data.toList).1 (v.withRisk (riskP s.data.toList).2)) := by
  have hs' : s.size ≤ 9223372036854775807 := Nat.le_trans hs (by omega)
  have hcut := cut_ok s w hs'
  have hna := fun w => num_ok ⟨(cutA s.data.toList).toArray⟩ w (Nat.le_trans (cutA_size s) hs')
  have hnb := fun w => num_ok ⟨(cutB s.data.toList).toArray⟩ w (Nat.le_trans (cutB_size s) hs')
  obtain ⟨p, hp⟩ : ∃ p, riskP s.data.toList = p := ⟨_, rfl⟩
  have hpp : riskP s.data.toList = riskP s.data.toList := rfl
  unfold riskP at hpp
  rw [← riskP] at hpp
  obtain ⟨a, hea⟩ : ∃ a : ByteArray, ⟨(cutA s.data.toList).toArray⟩ = a := ⟨_, rfl⟩
  obtain ⟨b, heb⟩ : ∃ a : ByteArray, ⟨(cutB s.data.toList).toArray⟩ = a := ⟨_, rfl⟩
  obtain ⟨c, hec⟩ : ∃ a, cutF s.data.toList = a := ⟨_, rfl⟩
  have hla : cutA s.data.toList = a.data.toList := by rw [← hea]
  have hlb : cutB s.data.toList = b.data.toList := by rw [← heb]
  rw [hea, heb, hec] at hcut
  rw [hea] at hna
  rw [heb] at hnb
  have hra := numP_range a.data.toList
  have hrb := numP_range b.data.toList
  have hpq : p = riskP s.data.toList := hp.symm
  unfold riskP at hpq
  rw [hla, hlb] at hpq
  obtain ⟨⟨x, xb⟩, hx⟩ : ∃ x, numP a.data.toList = x := ⟨_, rfl⟩
  obtain ⟨⟨y, yb⟩, hy⟩ : ∃ x, numP b.data.toList = x := ⟨_, rfl⟩
  rw [hx] at hna hra hpq
  rw [hy] at hnb hrb hpq
  simp only at hna hnb hra hrb hpq
  rw [hp]
  have HCUT := Lib.hid hcut
  have HNA := Lib.hid hna
  have HNB := Lib.hid hnb
  have HP := Lib.hid hpq
  have HV := Lib.hid h
  obtain ⟨hx0, hx1⟩ := hra
  obtain ⟨hy0, hy1⟩ := hrb
  clear hcut hna hnb hpq hp hpp hea heb hec hla hlb hx hy h hs'
  go_enter Tryz.func149, Tryz.ntmps149
  go_wp2_with fail
  refine HCUT.out.mono ?_
  rintro e w1 ⟨rfl, m, rfl⟩
  go_wp2_with fail
  refine (HNA.out _).mono ?_
  rintro e w2 ⟨rfl, hb2⟩
  have B2 := Lib.hid (show Below w.heap.size w w2 from (below_drewN (Below.refl _ _) m).trans hb2)
  clear hb2
  go_wp2_with fail
  refine (HNB.out _).mono ?_
  rintro e w3 ⟨rfl, hb3⟩
  have B3 := Lib.hid (below_more B2.out hb3)
  clear hb3
  cases xb with
  | false =>
    have hpf : p = (5, none) := by rw [HP.out]; rfl
    have HPF := Lib.hid hpf
    clear hpf
    go_wp2_with fail
    go_ret
    rw [HPF.out]
    exact ⟨rfl, HV.out.keep B3.out, bc_of B3.out hB⟩
  | true =>
    cases yb with
    | false =>
      have hpf : p = (5, none) := by rw [HP.out]; rfl
      have HPF := Lib.hid hpf
      clear hpf
      go_wp2_with fail
      go_ret
      rw [HPF.out]
      exact ⟨rfl, HV.out.keep B3.out, bc_of B3.out hB⟩
    | true =>
      have hp1 := HP.out
      rw [if_neg (by simp)] at hp1
      have HP1 := Lib.hid hp1
      clear hp1
      go_wp2_with fail
      refine (frac_ok x y w3 (by omega) (by omega) (by omega) (by omega)).mono ?_
      rintro e w4 ⟨v4, rfl, ⟨cs, rfl, hr4⟩, hb4⟩
      obtain ⟨q, hq⟩ : ∃ q, fracQ x y = q := ⟨_, rfl⟩
      rw [show mkQ (decide (x < 0) != decide (y < 0)) x.natAbs y.natAbs = q from hq] at hr4
      have hqs : q.raw.short 2 := by rw [← hq]; exact mkQ_short _ _ _ (by omega) (by omega)
      have hp1 := HP1.out
      rw [hq] at hp1
      have HP2 := Lib.hid hp1
      have HQS := Lib.hid hqs
      obtain ⟨A5, n5, c5, A6, n6, c6, rfl, h5, h6⟩ := hr4
      have B4 := Lib.hid (below_more B3.out hb4)
      have H5 := Lib.hid h5
      have H6 := Lib.hid h6
      have S34 := Lib.hid hb4.size
      clear hb4 h5 h6 hp1 hqs hq HP1 HP
      have hW : Below w4.heap.size w4 (w4.alloc (.cells #[.bool q.neg, .slice A5 n5 c5, .slice A6 n6 c6] 28)) := (Below.refl _ _).alloc (Nat.le_refl _) _
      have hK : Blk (w4.alloc (.cells #[.bool q.neg, .slice A5 n5 c5, .slice A6 n6 c6] 28)) w4.heap.size 28 #[.bool q.neg, .slice A5 n5 c5, .slice A6 n6 c6] := Blk.new _ _ _
      obtain ⟨W, hWW⟩ : ∃ x, w4.alloc (.cells #[.bool q.neg, .slice A5 n5 c5, .slice A6 n6 c6] 28) = x := ⟨_, rfl⟩
      rw [hWW] at hW hK
      have HWW := Lib.hid hWW
      have HBW := Lib.hid (below_more B4.out hW)
      have HSW := Lib.hid hW.size
      have HK := Lib.hid hK
      have hR5 : ∀ w', Up W w' → RS w' (Fresh w3 w4) A5 n5 c5 (lim q.n) := fun w' hu => (H5.out.below hW (fun _ h => h.2)).below hu.out (fun _ h => Nat.lt_of_lt_of_le h.2 HSW.out)
      have hR6 : ∀ w', Up W w' → RS w' (Fresh w3 w4) A6 n6 c6 (lim q.d) := fun w' hu => (H6.out.below hW (fun _ h => h.2)).below hu.out (fun _ h => Nat.lt_of_lt_of_le h.2 HSW.out)
      have hF1 : ∀ w', Calls Tryz.prog 178 #[.int .i64 1, .int .i64 1000] w' (RetSV w' (fracQ 1 1000)) := fun w' => frac_ok 1 1000 w' (by omega) (by omega) (by omega) (by omega)
      have hF2 : ∀ w', Calls Tryz.prog 178 #[.int .i64 1, .int .i64 2] w' (RetSV w' (fracQ 1 2)) := fun w' => frac_ok 1 2 w' (by omega) (by omega) (by omega) (by omega)
      have hC : ∀ (w' : World) (S' : Nat → Prop) (v' : Value) (r : Q), Up W w' → SV w' S' v' r → (∀ b, S' b → b < w'.heap.size) → r.raw.short 2 → Calls Tryz.prog 81 #[.agg #[.bool q.neg, .slice A5 n5 c5, .slice A6 n6 c6], v'] w' (RetV w' (.int .i64 (cmpF q r))) := fun w' S' v' r hu hv hS hr =>
        cmpR_ok (ra := q.raw) (rb := r.raw) ⟨_, rfl, A5, n5, c5, A6, n6, c6, rfl, hR5 w' hu, hR6 w' hu⟩ hv.raw (fun b h => Nat.lt_of_lt_of_le h.2 (Nat.le_trans HSW.out hu.out.size)) hS ⟨Nat.le_trans HQS.out.1 (by omega), Nat.le_trans HQS.out.2 (by omega)⟩ ⟨Nat.le_trans hr.1 (by omega), Nat.le_trans hr.2 (by omega)⟩
      have hH : ∀ w', Up W w' → Up W w' ∧ w'.cell? ⟨w4.heap.size, 0, none⟩ = some (.bool q.neg) ∧ w'.cell? ⟨w4.heap.size, 1, none⟩ = some (.slice A5 n5 c5) ∧ w'.cell? ⟨w4.heap.size, 2, none⟩ = some (.slice A6 n6 c6) :=
        fun w' hu => ⟨hu, (HK.out.keep hu).cell 0, (HK.out.keep hu).cell 1, (HK.out.keep hu).cell 2⟩
      have HR5 := Lib.hid hR5
      have HR6 := Lib.hid hR6
      have HM1 : Hid ((fracQ 1 1000).raw.short 2) := Lib.hid (mkQ_short _ _ _ (by decide) (by decide))
      have HM2 : Hid ((fracQ 1 2).raw.short 2) := Lib.hid (mkQ_short _ _ _ (by decide) (by decide))
      have HF1 := Lib.hid hF1
      have HF2 := Lib.hid hF2
      have HC := Lib.hid hC
      have HH := Lib.hid hH
      clear hW hK hWW hR5 hR6 hF1 hF2 hC hH
      go_upto_region 7 with (fail)
      rw [HWW.out]
      obtain ⟨l1, hl1⟩ : ∃ z, cmpF q (fracQ 1 1000) = z := ⟨_, rfl⟩
      obtain ⟨l2, hl2⟩ : ∃ z, cmpF q (fracQ 1 2) = z := ⟨_, rfl⟩
      have hp2 := HP2.out
      rw [hl1, hl2] at hp2
      have HP3 := Lib.hid hp2
      have HL1 := Lib.hid hl1
      have HL2 := Lib.hid hl2
      have hC1 : ∀ (w' : World) (S' : Nat → Prop) (v' : Value), Up W w' → SV w' S' v' (fracQ 1 1000) → (∀ b, S' b → b < w'.heap.size) → Calls Tryz.prog 81 #[.agg #[.bool q.neg, .slice A5 n5 c5, .slice A6 n6 c6], v'] w' (RetV w' (.int .i64 l1)) := fun w' S' v' hu hv hS => by
        have := HC.out w' S' v' _ hu hv hS HM1.out
        rwa [hl1] at this
      have HC1 := Lib.hid hC1
      clear hp2 hl1 hl2 HP2 hC1
      obtain ⟨_, t0, t1, t2⟩ := HH.out W (Below.refl _ _)
      by_cases hy00 : y = 0
      · have hpf : p = (4, none) := by rw [HP3.out, if_pos (.inl hy00)]
        have HPF := Lib.hid hpf
        subst hy00
        clear hpf
        go_quiet (fail)
        go_wp2_with fail
        go_ret
        rw [HPF.out]
        exact ⟨rfl, HV.out.keep (below_drewN HBW.out _), bc_of (below_drewN HBW.out _) hB⟩
      · have hyb : ((y : Int) == 0) = false := by rw [beq_eq_false_iff_ne]; exact hy00
        by_cases h1 : l1 < 0
        · have d1 : (l1 < 0) = True := eq_true h1
          have d1' : decide (l1 < 0) = true := decide_eq_true h1
          have hpf : p = (4, none) := by rw [HP3.out, if_pos (.inr (.inl h1))]
          have HPF := Lib.hid hpf
          clear hpf hy00 h1
          go_region_with (first
              | (go_at_call 178
                 (with_reducible refine (HF1.out _).mono ?_)
                 rintro e w6 ⟨v6, rfl, hv6, hb6⟩
                 obtain ⟨S6, hv6', hS6⟩ : ∃ S6 : Nat → Prop, SV w6 S6 v6 (fracQ 1 1000) ∧ ∀ b, S6 b → b < w6.heap.size := ⟨_, hv6, fun b h => h.2⟩
                 obtain ⟨A7, n7, c7, A8, n8, c8, rfl, _, _⟩ := hv6'.raw.raw_cases
                 have hu6 : Up W w6 := ⟨hb6.os, hb6.tape, hb6.output, hb6.size, hb6.block⟩
                 obtain ⟨_, q0, q1, q2⟩ := HH.out _ hu6
                 have HU6 := Lib.hid hu6
                 have HC6 := Lib.hid (HC1.out w6 S6 _ hu6 hv6' hS6)
                 have HC7 := Lib.hid (HC1.out w6.drew S6 _ hu6.drew hv6'.drew hS6)
                 have HC8 := Lib.hid (HC1.out w6.drew.drew S6 _ hu6.drew.drew hv6'.drew.drew hS6)
                 clear hv6 hv6' hS6 hb6 hu6)
              | (go_at_call 81
                 (with_reducible first | refine HC6.out.mono ?_ | refine HC7.out.mono ?_ | refine HC8.out.mono ?_)
                 rintro e w7 ⟨rfl, hb7⟩
                 have HU7 : Hid (Up W w7) := Lib.hid (HU6.out.more ⟨hb7.os, hb7.tape, hb7.output, hb7.size, hb7.block⟩)
                 clear hb7))
          all_goals
            go_wp2_with fail
            go_ret
            rw [HPF.out]
            exact ⟨rfl, HV.out.keep (HBW.out.trans (HU7.out.mono HBW.out.size)), bc_of (HBW.out.trans (HU7.out.mono HBW.out.size)) hB⟩
        · have d1 : (l1 < 0) = False := eq_false h1
          have d1' : decide (l1 < 0) = false := decide_eq_false h1
          by_cases h2 : 0 < l2
          · have d2 : (0 < l2) = True := eq_true h2
            have d2' : decide (0 < l2) = true := decide_eq_true h2
            have hpf : p = (4, none) := by rw [HP3.out, if_pos (.inr (.inr h2))]
            have HPF := Lib.hid hpf
            clear hpf hy00 h1 h2
            go_region_held3 (fun w' => Up W w' ∧ w'.cell? ⟨w4.heap.size, 0, none⟩ = some (.bool q.neg) ∧ w'.cell? ⟨w4.heap.size, 1, none⟩ = some (.slice A5 n5 c5) ∧ w'.cell? ⟨w4.heap.size, 2, none⟩ = some (.slice A6 n6 c6))
            (first | assumption | exact HH.out _ (Up.start W) | exact HH.out _ (Up.more (‹Up W _ ∧ _›).1 ‹Below _ _ _›))
            (first
              | (go_at_call 178
                 (with_reducible refine (HF1.out _).mono ?_)
                 rintro e w6 ⟨v6, rfl, hv6, hb6⟩
                 obtain ⟨S6, hv6', hS6⟩ : ∃ S6 : Nat → Prop, SV w6 S6 v6 (fracQ 1 1000) ∧ ∀ b, S6 b → b < w6.heap.size := ⟨_, hv6, fun b h => h.2⟩
                 obtain ⟨A7, n7, c7, A8, n8, c8, rfl, _, _⟩ := hv6'.raw.raw_cases
                 have HV6 := Lib.hid hv6'
                 have HS6 := Lib.hid hS6
                 clear hv6 hv6' hS6)
              | (go_at_call 178
                 (with_reducible refine (HF2.out _).mono ?_)
                 rintro e w8 ⟨v8, rfl, hv8, hb8⟩
                 obtain ⟨S8, hv8', hS8⟩ : ∃ S6 : Nat → Prop, SV w8 S6 v8 (fracQ 1 2) ∧ ∀ b, S6 b → b < w8.heap.size := ⟨_, hv8, fun b h => h.2⟩
                 obtain ⟨A9, n9, c9, A0, n0, c0, rfl, _, _⟩ := hv8'.raw.raw_cases
                 have HV8 := Lib.hid hv8'
                 have HS8 := Lib.hid hS8
                 clear hv8 hv8' hS8)
              | (go_at_call 81
                 (with_reducible refine (HC.out _ _ _ _ (‹Up W _ ∧ _›).1 HV6.out HS6.out HM1.out).mono ?_)
                 rintro e w7 ⟨rfl, hb7⟩
                 rw [HL1.out])
              | (go_at_call 81
                 (with_reducible refine (HC.out _ _ _ _ (‹Up W _ ∧ _›).1 HV8.out HS8.out HM2.out).mono ?_)
                 rintro e w9 ⟨rfl, hb9⟩
                 rw [HL2.out]))
            all_goals
              go_wp2_with fail
              go_ret
              rw [HPF.out]
              have hu9 := (‹Up W w9 ∧ _›).1
              exact ⟨rfl, HV.out.keep (HBW.out.trans (hu9.mono HBW.out.size)), bc_of (HBW.out.trans (hu9.mono HBW.out.size)) hB⟩
          · have d2 : (0 < l2) = False := eq_false h2
            have d2' : decide (0 < l2) = false := decide_eq_false h2
            have hpf : p = (0, some q.raw) := by rw [HP3.out, if_neg (by rintro (h | h | h) <;> contradiction)]
            have HPF := Lib.hid hpf
            clear hpf hy00 h1 h2
            go_region_held3 (fun w' => Up W w' ∧ w'.cell? ⟨w4.heap.size, 0, none⟩ = some (.bool q.neg) ∧ w'.cell? ⟨w4.heap.size, 1, none⟩ = some (.slice A5 n5 c5) ∧ w'.cell? ⟨w4.heap.size, 2, none⟩ = some (.slice A6 n6 c6))
            (first | assumption | exact HH.out _ (Up.start W) | exact HH.out _ (Up.more (‹Up W _ ∧ _›).1 ‹Below _ _ _›))
            (first
              | (go_at_call 178
                 (with_reducible refine (HF1.out _).mono ?_)
                 rintro e w6 ⟨v6, rfl, hv6, hb6⟩
                 obtain ⟨S6, hv6', hS6⟩ : ∃ S6 : Nat → Prop, SV w6 S6 v6 (fracQ 1 1000) ∧ ∀ b, S6 b → b < w6.heap.size := ⟨_, hv6, fun b h => h.2⟩
                 obtain ⟨A7, n7, c7, A8, n8, c8, rfl, _, _⟩ := hv6'.raw.raw_cases
                 have HV6 := Lib.hid hv6'
                 have HS6 := Lib.hid hS6
                 clear hv6 hv6' hS6)
              | (go_at_call 178
                 (with_reducible refine (HF2.out _).mono ?_)
                 rintro e w8 ⟨v8, rfl, hv8, hb8⟩
                 obtain ⟨S8, hv8', hS8⟩ : ∃ S6 : Nat → Prop, SV w8 S6 v8 (fracQ 1 2) ∧ ∀ b, S6 b → b < w8.heap.size := ⟨_, hv8, fun b h => h.2⟩
                 obtain ⟨A9, n9, c9, A0, n0, c0, rfl, _, _⟩ := hv8'.raw.raw_cases
                 have HV8 := Lib.hid hv8'
                 have HS8 := Lib.hid hS8
                 clear hv8 hv8' hS8)
              | (go_at_call 81
                 (with_reducible refine (HC.out _ _ _ _ (‹Up W _ ∧ _›).1 HV6.out HS6.out HM1.out).mono ?_)
                 rintro e w7 ⟨rfl, hb7⟩
                 rw [HL1.out])
              | (go_at_call 81
                 (with_reducible refine (HC.out _ _ _ _ (‹Up W _ ∧ _›).1 HV8.out HS8.out HM2.out).mono ?_)
                 rintro e w9 ⟨rfl, hb9⟩
                 rw [HL2.out]))
            all_goals
              have hu9 := (‹Up W w9 ∧ _›).1
              have hb9' : Below w.heap.size w w9 := HBW.out.trans (hu9.mono HBW.out.size)
              obtain ⟨_, t0, t1, t2⟩ := HH.out _ hu9
              obtain ⟨m1, m2, m3, f, A1, n1, c1, A2, n2, c2, hin⟩ := HV.out
              have hin9 := hin.keep hb9'
              have hgl := hin.blk.lt
              have hl1 := hin.num.lt
              have hl2 := hin.lst.lt
              have hl3 := hin.ln.lt
              have s23 := B3.out.size
              have hD : ∀ b, Fresh w3 w4 b → Data w9 B g m1 m2 m3 b := fun b hb => by
                have h1 := hb.1
                have h2 := hb.2
                have h3 := HSW.out
                have h4 := hu9.size
                exact ⟨by omega, by omega, by omega, by omega, by omega, by omega⟩
              have hset := hin9.setRisk q.raw ((HR5.out w9 hu9).sub hD) ((HR6.out w9 hu9).sub hD)
              have k3 := hin9.blk.cell 3
              have k4 := hin9.blk.cell 4
              have k5 := hin9.blk.cell 5
              have f3 := hin9.blk.frozen 3
              have f4 := hin9.blk.frozen 4
              have f5 := hin9.blk.frozen 5
              have hBg := hin.hg
              have HSET := Lib.hid hset
              have HB9 := Lib.hid hb9'
              have k3' : w9.cell? ⟨g, 3, none⟩ = some (.bool v.risk.neg) := k3
              have k4' : w9.cell? ⟨g, 4, none⟩ = some (.slice A1 n1 c1) := k4
              have k5' : w9.cell? ⟨g, 5, none⟩ = some (.slice A2 n2 c2) := k5
              clear hin hin9 hset hD hl1 hl2 hl3 hgl s23 hb9' hu9 k3 k4 k5
              go_wp2_with fail
              go_ret
              rw [HPF.out]
              exact ⟨rfl, ⟨m1, m2, m3, f, A5, n5, c5, A6, n6, c6, HSET.out⟩, (((bc_of HB9.out hB).set hBg 3 _).set hBg 4 _).set hBg 5 _⟩
end Go.Proofs.YtjlhbfbdcfajfaaGreatDoor
