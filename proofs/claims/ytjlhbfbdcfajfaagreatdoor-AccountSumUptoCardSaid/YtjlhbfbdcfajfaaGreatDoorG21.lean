/- Lnk2 Lnk3 Lnk4 -/
import Derived.Test.YtjlhbfbdcfajfaaGreatDoorG20
/- schema: the memory of builder.link. -/
namespace Go.Proofs.YtjlhbfbdcfajfaaGreatDoor
open Go.RowKit Go.Maps Go.WideMaps

/-- memory has grown, and all blocks of which X does not hold are as they were -/
structure Chg (w w' : World) (X : Nat → Prop) : Prop where
  size : w.heap.size ≤ w'.heap.size
  block : ∀ b, b < w.heap.size → ¬ X b → w'.heap[b]? = w.heap[b]?
section
variable {w w' : World} {X : Nat → Prop}
theorem Chg.of_below (h : Below w.heap.size w w') : Chg w w' X := ⟨h.size, fun b hb _ => h.block b hb⟩
theorem Chg.of_grown {row : Option Nat} (h : w.grownBy w' row) (hX : ∀ b, row = some b → X b) : Chg w w' X := ⟨h.size, fun b hb hx => h.block b hb fun e => hx (hX b e.symm)⟩
theorem Chg.of_set (w : World) {p : Addr} (h : X p.block) (u : Value) : Chg w (w.setCell p u) X := ⟨by simp, fun b hb hx => (grownBy_setCell w p u).block b hb fun e => by injection e with e; subst e; exact hx h⟩
theorem Chg.trans {w1 : World} (h : Chg w w1 X) (k : Chg w1 w' X) : Chg w w' X := ⟨Nat.le_trans h.size k.size, fun b hb hx => (k.block b (Nat.lt_of_lt_of_le hb h.size) hx).trans (h.block b hb hx)⟩
theorem Blk.chg {g : Nat} {t : TypeId} {cs : Array Value} (h : Blk w g t cs) (k : Chg w w' X) (hx : ¬ X g) : Blk w' g t cs := (k.block g h.lt hx).trans h
theorem Own.chg {B : Nat} {α : Type} [Rep α] {e : TypeId} {v : Value} {xs : List α} (h : Own w NoBlk B e v xs) (k : Chg w w' X) (hg : ∀ g, v.ownBlock = some g → ¬ X g) : Own w' NoBlk B e v xs := by
  have hlt := h.lt
  obtain ⟨cs, ⟨h0, h1⟩, h2, h3⟩ := h
  refine ⟨cs, ⟨h0, ?_⟩, h2.keep (fun _ h => h) (fun p hp => hp.elim), fun b hb => hb.elim⟩
  rcases h1 with h1 | ⟨g, cap, cur, hv, hbase, hh, hr⟩
  · exact .inl h1
  · exact .inr ⟨g, cap, cur, hv, hbase, (k.block g (hlt g (by rw [hv]; rfl)).2 (hg g (by rw [hv]; rfl))).trans hh, hr⟩
theorem Chg.keeps (h : Chg w w' X) {S : Nat → Prop} (hS : ∀ b, S b → b < w.heap.size ∧ ¬ X b) : Keeps S w w' := fun p hp => World.cell?_of_block (h.block p.block (hS _ hp).1 (hS _ hp).2)
theorem Kept.chg {w0 : World} {τ : Nat → Tag} {T : Tag → Prop} (h : Kept w0 w τ T) (k : Chg w w' X) (hX : ∀ b, b < w0.heap.size → X b → T (τ b)) : Kept w0 w' τ T :=
  ⟨Nat.le_trans h.size k.size, fun b hb ht => (k.block b (Nat.lt_of_lt_of_le hb h.size) (fun hx => ht (hX b hb hx))).trans (h.block b hb ht)⟩
end
/-- raw rows, flat -/
theorem Flat.raw {k : Nat} {w : World} {S : Nat → Prop} {cs : List Value} {xs : List (RawN k)} (h : Flat w S cs xs) : cs = (xs.map (·.cells)).flatten := by
  induction h with
  | nil => rfl
  | @snoc cs ds xs x _ hr ih =>
    have : ds = x.cells := hr
    rw [List.map_append, List.flatten_append, ← ih, this]
    simp
theorem flat_raw {k : Nat} {w : World} {S : Nat → Prop} (xs : List (RawN k)) : Flat w S (xs.map (·.cells)).flatten xs := by
  have : ∀ l : List (RawN k), Flat w S (l.reverse.map (·.cells)).flatten l.reverse := by
    intro l
    induction l with
    | nil => exact .nil
    | cons x l ih =>
      rw [List.reverse_cons, List.map_append, List.flatten_append]
      have := Flat.snoc ih (show Rep.rep w S x.cells x from rfl)
      simpa using this
  simpa using this xs.reverse
theorem flatten_set {k : Nat} : ∀ (xs : List (RawN k)) (i j : Nat) (u : Value) (x : RawN k), xs[i]? = some x → j < k → (hl : (x.cells.set j u).length = k) →
    ((xs.map (·.cells)).flatten).set (i * k + j) u = ((xs.set i ⟨x.cells.set j u, hl⟩).map (·.cells)).flatten
  | [], i, j, u, x, h, _, _ => by simp at h
  | y :: xs, 0, j, u, x, h, hj, hl => by
    simp only [List.getElem?_cons_zero, Option.some.injEq] at h
    subst h
    simp only [List.map_cons, List.flatten_cons, Nat.zero_mul, Nat.zero_add, List.set_cons_zero]
    rw [List.set_append_left _ _ (by rw [y.len]; exact hj)]
  | y :: xs, i + 1, j, u, x, h, hj, hl => by
    simp only [List.getElem?_cons_succ] at h
    simp only [List.map_cons, List.flatten_cons, List.set_cons_succ]
    rw [List.set_append_right _ _ (by rw [y.len, Nat.succ_mul]; omega), ← flatten_set xs i j u x h hj hl, y.len]
    congr 2
    rw [Nat.succ_mul]
    omega
theorem Own.rawSome {k : Nat} {w : World} {B : Nat} {e : TypeId} {A : Option Addr} {n c : Nat} {xs : List (RawN k)} (h : Own w NoBlk B e (.slice A n c) xs) (hn : 0 < n) : ∃ g, A = some ⟨g, 0, none⟩ := by
  obtain ⟨cs, ⟨h0, h1⟩, _⟩ := h
  rcases h1 with ⟨h1, _⟩ | ⟨g, cap, cur, hv, _⟩
  · injection h1 with _ h2; omega
  · injection hv with h2; exact ⟨g, h2⟩
theorem Own.rawLen {k : Nat} {w : World} {B : Nat} {e : TypeId} {A : Option Addr} {n c : Nat} {xs : List (RawN k)} (h : Own w NoBlk B e (.slice A n c) xs) : xs.length = n ∧ n ≤ c ∧ c ≤ maxLen := by
  have hr := h.rs (S' := fun _ => True) (fun _ h => h.elim) (fun _ _ _ => trivial)
  exact ⟨hr.len, hr.2.1, hr.2.2.1⟩
theorem Own.rawCell {k : Nat} {w : World} {B : Nat} {e : TypeId} {g n c : Nat} {xs : List (RawN k)} (h : Own w NoBlk B e (.slice (some ⟨g, 0, none⟩) n c) xs) {i : Nat} {x : RawN k} (hx : xs[i]? = some x) {j : Nat} {u : Value} (hu : x.cells[j]? = some u) :
    w.cell? ⟨g, i * k + j, none⟩ = some u ∧ w.frozen? ⟨g, i * k + j, none⟩ = false := by
  have hl := h.rawLen
  have hi : i < n := by rw [← hl.1]; exact lt_of_get hx
  have hr := h.rs (S' := fun _ => True) (fun _ h => h.elim) (fun _ _ _ => trivial)
  obtain ⟨b, o, y, cs, he, _, hy, hrep, hc⟩ := hr.at_ hi
  injection he with he
  injection he with h1 h2
  subst h1 h2
  rw [hx] at hy
  injection hy with hy
  subst hy
  have hcs : cs = x.cells := hrep
  subst hcs
  have h3 := hc j u hu
  rw [Nat.zero_add] at h3
  refine ⟨h3, ?_⟩
  obtain ⟨cs, ⟨h0, h1⟩, _⟩ := h
  rcases h1 with ⟨h1, _⟩ | ⟨g', cap, cur, hv, _, hh, _⟩
  · injection h1 with h1; cases h1
  · injection hv with hv
    injection hv with hv
    injection hv with hv
    subst hv
    simp [World.frozen?, hh]
/-- a cell of an element is stored -/
theorem Own.rawSet {k : Nat} {w : World} {B : Nat} {e : TypeId} {g n c : Nat} {xs : List (RawN k)} (h : Own w NoBlk B e (.slice (some ⟨g, 0, none⟩) n c) xs) {i j : Nat} {x : RawN k} (hx : xs[i]? = some x) (hj : j < k) (u : Value) (hl : (x.cells.set j u).length = k) :
    Own (w.setCell ⟨g, i * k + j, none⟩ u) NoBlk B e (.slice (some ⟨g, 0, none⟩) n c) (xs.set i ⟨x.cells.set j u, hl⟩) := by
  obtain ⟨cs, h1, h2, h3⟩ := h
  have hcs := h2.raw
  obtain ⟨hn, _⟩ := (show Own w NoBlk B e (.slice (some ⟨g, 0, none⟩) n c) xs from ⟨cs, h1, h2, h3⟩).rawLen
  rw [show Rep.sz (RawN k) = k from rfl, hn] at h1
  have q1 := (h1.stored (i * k + j) u).1
  refine ⟨cs.set (i * k + j) u, by rw [List.length_set, show Rep.sz (RawN k) = k from rfl, hn]; exact q1, ?_, fun b hb => hb.elim⟩
  rw [hcs, flatten_set xs i j u x hx hj hl]
  exact flat_raw _
end Go.Proofs.YtjlhbfbdcfajfaaGreatDoor
/- schema: the states of builder.link. PRINTED by wip/gen/lnk3.py -/
namespace Go.Proofs.YtjlhbfbdcfajfaaGreatDoor
open Go.RowKit Go.Maps Go.WideMaps

/-- what holds all through link -/
structure LnkW (w wr : World) (B gU nU : Nat) (τ : Nat → Tag) (vS : Value) (used : List Bool) (rows : List (RawN 3)) : Prop where
  bel : Below B w wr
  kept : Kept w wr τ (One .ss)
  blkF : Blk wr w.heap.size 76 #[.int .i64 0, .int .i64 0]
  own : Own wr NoBlk B 97 vS rows
  usedO : Own wr NoBlk (w.heap.size + 1) 4 (.slice (some ⟨gU, 0, none⟩) nU nU) used
/-- the blocks of the styles that are done -/
def DoneB (w : World) (gU b1 b : Nat) : Prop := w.heap.size < b ∧ b < b1 ∧ b ≠ gU
def styRow (nm : ByteArray) (v1 v2 : Value) : RawN 3 := ⟨[.string nm, v1, v2], rfl⟩
/-- between two styles -/
structure LnkO (w wr : World) (B gU nU : Nat) (τ : Nat → Tag) (s : BldD) (vS : Value) (i : Nat) (used : List Bool) (rows : List (RawN 3)) (done : List StyleD) : Prop where
  W : LnkW w wr B gU nU τ vS used rows
  dn : done.length = i
  ln : rows.length = s.e.styl.length
  lu : used.length = nU
  fin : ∀ (j : Nat) x y, j < i → rows[j]? = some x → done[j]? = some y → Rep.rep wr (DoneB w gU wr.heap.size) x.cells y
  rest : ∀ (j : Nat) x y, i ≤ j → rows[j]? = some x → s.e.styl[j]? = some y → PlainStyle x y
/-- within a style -/
structure LnkI (w wr : World) (B gU nU : Nat) (τ : Nat → Tag) (vS : Value) (i : Nat) (rows0 : List (RawN 3)) (done : List StyleD) (b1 g5 : Nat) (cs5 : Array Value) (nm : ByteArray) (used : List Bool) (v1 v2 : Value) (a1 a2 : List Int) : Prop where
  W : LnkW w wr B gU nU τ vS used (rows0.set i (styRow nm v1 v2))
  lu : used.length = nU
  o1 : Own wr NoBlk b1 3 v1 a1
  o2 : Own wr NoBlk b1 3 v2 a2
  d : ∀ g, v1.ownBlock = some g → v2.ownBlock ≠ some g
  fin : ∀ (j : Nat) x y, j < i → rows0[j]? = some x → done[j]? = some y → Rep.rep wr (DoneB w gU b1) x.cells y
  blk5 : Blk wr g5 168 cs5
  h5 : w.heap.size < g5
  h51 : g5 < b1
  hU : gU < b1
  g5U : g5 ≠ gU
  hb : b1 ≤ wr.heap.size
section
variable {w wr w' : World} {B gU nU : Nat} {τ : Nat → Tag} {vS : Value} {used : List Bool} {rows rows0 : List (RawN 3)} {done : List StyleD} {i b1 g5 : Nat} {cs5 : Array Value} {nm : ByteArray} {v1 v2 : Value} {a1 a2 : List Int}
theorem LnkW.gU_lt (h : LnkW w wr B gU nU τ vS used rows) : w.heap.size < gU ∧ gU < wr.heap.size := ⟨(h.usedO.lt gU rfl).1, (h.usedO.lt gU rfl).2⟩
theorem LnkW.below (h : LnkW w wr B gU nU τ vS used rows) (hb : Below wr.heap.size wr w') (hB : B ≤ w.heap.size) : LnkW w w' B gU nU τ vS used rows :=
  ⟨h.bel.trans (hb.mono (Nat.le_trans hB h.bel.size)), h.kept.chg (X := fun _ => False) (Chg.of_below hb) (fun _ _ h => h.elim), h.blkF.keep hb, h.own.below hb, h.usedO.below hb⟩
theorem LnkI.below (h : LnkI w wr B gU nU τ vS i rows0 done b1 g5 cs5 nm used v1 v2 a1 a2) (hb : Below wr.heap.size wr w') (hB : B ≤ w.heap.size) : LnkI w w' B gU nU τ vS i rows0 done b1 g5 cs5 nm used v1 v2 a1 a2 :=
  { h with W := h.W.below hb hB, o1 := h.o1.below hb, o2 := h.o2.below hb, fin := fun j x y hj hx hy => Rep.keep (h.fin j x y hj hx hy) (fun _ h => h) ((Keeps.of_below hb).sub fun _ hbb => Nat.lt_of_lt_of_le hbb.2.1 h.hb), blk5 := h.blk5.keep hb, hb := Nat.le_trans h.hb hb.size }
/-- a precinct is marked as used -/
theorem LnkI.mark (h : LnkI w wr B gU nU τ vS i rows0 done b1 g5 cs5 nm used v1 v2 a1 a2) (hB : B ≤ w.heap.size) (hvS : ∀ g, vS.ownBlock = some g → g < w.heap.size) (k : Nat) : LnkI w (wr.setCell ⟨gU, k, none⟩ (.bool true)) B gU nU τ vS i rows0 done b1 g5 cs5 nm (used.set k true) v1 v2 a1 a2 := by
  have hu := h.W.gU_lt
  have kc : Chg wr (wr.setCell ⟨gU, k, none⟩ (.bool true)) (· = gU) := Chg.of_set (X := (· = gU)) wr (p := ⟨gU, k, none⟩) rfl _
  have hs : (wr.setCell ⟨gU, k, none⟩ (.bool true)).heap.size = wr.heap.size := by simp
  exact { h with
    lu := by rw [List.length_set]; exact h.lu
    W := ⟨h.W.bel.setCell (p := ⟨gU, k, none⟩) (Nat.le_trans hB (Nat.le_of_lt hu.1)) _, h.W.kept.chg kc (fun b hb hx => by subst hx; omega), h.W.blkF.chg kc (by omega), h.W.own.chg kc (fun g hg e => by have := hvS g hg; omega),
      (h.W.usedO.stored (k := k) (u := .bool true) (x := true) rfl rfl).1⟩
    o1 := h.o1.chg kc (fun g hg e => by have := (h.o1.lt g hg).1; have := h.hU; omega)
    o2 := h.o2.chg kc (fun g hg e => by have := (h.o2.lt g hg).1; have := h.hU; omega)
    fin := fun j x y hj hx hy => Rep.keep (h.fin j x y hj hx hy) (fun _ h => h) (kc.keeps fun b hbb => ⟨Nat.lt_of_lt_of_le hbb.2.1 h.hb, hbb.2.2⟩)
    blk5 := by
      by_cases e : g5 = gU
      · exfalso; have := h.g5U; exact this e
      · exact h.blk5.chg kc e
    hb := by rw [hs]; exact h.hb }

/-- a precinct more -/
theorem LnkI.app1 (h : LnkI w wr B gU nU τ vS i rows0 done b1 g5 cs5 nm used v1 v2 a1 a2) (hB : B ≤ w.heap.size) {gS nS cS : Nat} (hS : vS = .slice (some ⟨gS, 0, none⟩) nS cS) (hgS : gS < w.heap.size) (htS : τ gS = .ss) (hBS : B ≤ gS) (hi : i < rows0.length) {x : Int} {v' : Value} {w2 : World} {o : Obj}
    (o' : Own w2 NoBlk b1 3 v' (a1 ++ [x])) (hg : (wr.alloc o).grownBy w2 v1.ownBlock) (hat : v'.ownBlock = v1.ownBlock ∨ v'.ownBlock = some (wr.heap.size + 1)) :
    LnkI w (w2.setCell ⟨gS, i * 3 + 1, none⟩ v') B gU nU τ vS i rows0 done b1 g5 cs5 nm used v' v2 (a1 ++ [x]) a2 := by
  have hu := h.W.gU_lt
  have hb0 : w.heap.size < b1 := Nat.lt_trans h.h5 h.h51
  have k2 : Chg wr w2 (fun b => some b = v1.ownBlock) := (Chg.of_below ((Below.refl _ _).alloc (Nat.le_refl _) o)).trans (Chg.of_grown hg fun b e => e.symm)
  have k3 : Chg wr (w2.setCell ⟨gS, i * 3 + 1, none⟩ v') (fun b => some b = v1.ownBlock ∨ b = gS) := ⟨by simp; exact k2.size, fun b hb hx => ((grownBy_setCell w2 ⟨gS, i * 3 + 1, none⟩ v').block b (Nat.lt_of_lt_of_le hb k2.size) (fun e => hx (.inr (by injection e)))).trans (k2.block b hb fun e => hx (.inl e))⟩
  have hrow : ∀ b, some b = v1.ownBlock → b1 ≤ b := fun b e => (h.o1.lt b e.symm).1
  have hx3 : ∀ b, b < b1 → b ≠ gS → ¬ (some b = v1.ownBlock ∨ b = gS) := fun b hb hne hx => by
    rcases hx with hx | hx
    · have := hrow b hx; omega
    · exact hne hx
  have hnew : ∀ g, v'.ownBlock = some g → b1 ≤ g := fun g hg => (o'.lt g hg).1
  have hs2 : wr.heap.size ≤ w2.heap.size := k2.size
  have hbel : Below B w (w2.setCell ⟨gS, i * 3 + 1, none⟩ v') :=
    ((h.W.bel.alloc (Nat.le_trans hB h.W.bel.size) o).grown hg (Nat.le_trans (Nat.le_trans hB h.W.bel.size) (by simp)) (fun k hk => by have := hrow k hk.symm; omega)).setCell (p := ⟨gS, i * 3 + 1, none⟩) hBS _
  have hown2 : Own w2 NoBlk B 97 (.slice (some ⟨gS, 0, none⟩) nS cS) (rows0.set i (styRow nm v1 v2)) := by
    have := h.W.own.chg k2 (fun g hg e => by
      have h1 := hrow g e
      rw [hS] at hg
      injection hg with hg
      have : gS = g := hg
      omega)
    rwa [hS] at this
  have hget : (rows0.set i (styRow nm v1 v2))[i]? = some (styRow nm v1 v2) := by rw [List.getElem?_set_self hi]
  have hown3 : Own (w2.setCell ⟨gS, i * 3 + 1, none⟩ v') NoBlk B 97 vS (rows0.set i (styRow nm v' v2)) := by
    have := hown2.rawSet hget (j := 1) (by omega) v' rfl
    rw [List.set_set] at this
    rw [hS]
    exact this
  exact { h with
    W := ⟨hbel, h.W.kept.chg k3 (fun b hb hx => by
        rcases hx with hx | hx
        · have := hrow b hx; omega
        · subst hx; exact htS), h.W.blkF.chg k3 (hx3 _ hb0 (by omega)), hown3, h.W.usedO.chg k3 (fun g hg => by
        injection hg with hg
        have hgg : gU = g := hg
        subst hgg
        exact hx3 _ h.hU (by omega))⟩
    o1 := o'.setCell (p := ⟨gS, i * 3 + 1, none⟩) (fun e => by have := hnew gS e; omega) (fun b hb => hb.elim) _
    o2 := h.o2.chg k3 (fun g hg hx => by
      rcases hx with hx | hx
      · exact h.d g hx.symm hg
      · have := (h.o2.lt g hg).1; omega)
    d := fun g hg1 hg2 => by
      rcases hat with e | e
      · rw [e] at hg1; exact h.d g hg1 hg2
      · rw [e] at hg1; injection hg1 with hg1; have := (h.o2.lt g hg2).2; omega
    fin := fun j x y hj hx hy => Rep.keep (h.fin j x y hj hx hy) (fun _ h => h) (k3.keeps fun b hbb => ⟨Nat.lt_of_lt_of_le hbb.2.1 h.hb, hx3 b hbb.2.1 (by have := hbb.1; omega)⟩)
    blk5 := h.blk5.chg k3 (hx3 _ h.h51 (by have := h.h5; omega))
    hb := by simp; exact Nat.le_trans h.hb hs2 }

/-- a contest more -/
theorem LnkI.app2 (h : LnkI w wr B gU nU τ vS i rows0 done b1 g5 cs5 nm used v1 v2 a1 a2) (hB : B ≤ w.heap.size) {gS nS cS : Nat} (hS : vS = .slice (some ⟨gS, 0, none⟩) nS cS) (hgS : gS < w.heap.size) (htS : τ gS = .ss) (hBS : B ≤ gS) (hi : i < rows0.length) {x : Int} {v' : Value} {w2 : World} {o : Obj}
    (o' : Own w2 NoBlk b1 3 v' (a2 ++ [x])) (hg : (wr.alloc o).grownBy w2 v2.ownBlock) (hat : v'.ownBlock = v2.ownBlock ∨ v'.ownBlock = some (wr.heap.size + 1)) :
    LnkI w (w2.setCell ⟨gS, i * 3 + 2, none⟩ v') B gU nU τ vS i rows0 done b1 g5 cs5 nm used v1 v' a1 (a2 ++ [x]) := by
  have hu := h.W.gU_lt
  have hb0 : w.heap.size < b1 := Nat.lt_trans h.h5 h.h51
  have k2 : Chg wr w2 (fun b => some b = v2.ownBlock) := (Chg.of_below ((Below.refl _ _).alloc (Nat.le_refl _) o)).trans (Chg.of_grown hg fun b e => e.symm)
  have k3 : Chg wr (w2.setCell ⟨gS, i * 3 + 2, none⟩ v') (fun b => some b = v2.ownBlock ∨ b = gS) := ⟨by simp; exact k2.size, fun b hb hx => ((grownBy_setCell w2 ⟨gS, i * 3 + 2, none⟩ v').block b (Nat.lt_of_lt_of_le hb k2.size) (fun e => hx (.inr (by injection e)))).trans (k2.block b hb fun e => hx (.inl e))⟩
  have hrow : ∀ b, some b = v2.ownBlock → b1 ≤ b := fun b e => (h.o2.lt b e.symm).1
  have hx3 : ∀ b, b < b1 → b ≠ gS → ¬ (some b = v2.ownBlock ∨ b = gS) := fun b hb hne hx => by
    rcases hx with hx | hx
    · have := hrow b hx; omega
    · exact hne hx
  have hnew : ∀ g, v'.ownBlock = some g → b1 ≤ g := fun g hg => (o'.lt g hg).1
  have hs2 : wr.heap.size ≤ w2.heap.size := k2.size
  have hbel : Below B w (w2.setCell ⟨gS, i * 3 + 2, none⟩ v') :=
    ((h.W.bel.alloc (Nat.le_trans hB h.W.bel.size) o).grown hg (Nat.le_trans (Nat.le_trans hB h.W.bel.size) (by simp)) (fun k hk => by have := hrow k hk.symm; omega)).setCell (p := ⟨gS, i * 3 + 2, none⟩) hBS _
  have hown2 : Own w2 NoBlk B 97 (.slice (some ⟨gS, 0, none⟩) nS cS) (rows0.set i (styRow nm v1 v2)) := by
    have := h.W.own.chg k2 (fun g hg e => by
      have h1 := hrow g e
      rw [hS] at hg
      injection hg with hg
      have : gS = g := hg
      omega)
    rwa [hS] at this
  have hget : (rows0.set i (styRow nm v1 v2))[i]? = some (styRow nm v1 v2) := by rw [List.getElem?_set_self hi]
  have hown3 : Own (w2.setCell ⟨gS, i * 3 + 2, none⟩ v') NoBlk B 97 vS (rows0.set i (styRow nm v1 v')) := by
    have := hown2.rawSet hget (j := 2) (by omega) v' rfl
    rw [List.set_set] at this
    rw [hS]
    exact this
  exact { h with
    W := ⟨hbel, h.W.kept.chg k3 (fun b hb hx => by
        rcases hx with hx | hx
        · have := hrow b hx; omega
        · subst hx; exact htS), h.W.blkF.chg k3 (hx3 _ hb0 (by omega)), hown3, h.W.usedO.chg k3 (fun g hg => by
        injection hg with hg
        have hgg : gU = g := hg
        subst hgg
        exact hx3 _ h.hU (by omega))⟩
    o2 := o'.setCell (p := ⟨gS, i * 3 + 2, none⟩) (fun e => by have := hnew gS e; omega) (fun b hb => hb.elim) _
    o1 := h.o1.chg k3 (fun g hg hx => by
      rcases hx with hx | hx
      · exact h.d g hg hx.symm
      · have := (h.o1.lt g hg).1; omega)
    d := fun g hg1 hg2 => by
      rcases hat with e | e
      · rw [e] at hg2; exact h.d g hg1 hg2
      · rw [e] at hg2; injection hg2 with hg2; have := (h.o1.lt g hg1).2; omega
    fin := fun j x y hj hx hy => Rep.keep (h.fin j x y hj hx hy) (fun _ h => h) (k3.keeps fun b hbb => ⟨Nat.lt_of_lt_of_le hbb.2.1 h.hb, hx3 b hbb.2.1 (by have := hbb.1; omega)⟩)
    blk5 := h.blk5.chg k3 (hx3 _ h.h51 (by have := h.h5; omega))
    hb := by simp; exact Nat.le_trans h.hb hs2 }

end
end Go.Proofs.YtjlhbfbdcfajfaaGreatDoor
/- schema: builder.link. -/
namespace Go.Proofs.YtjlhbfbdcfajfaaGreatDoor
open Go.RowKit Go.Maps Go.WideMaps

/-- what link leaves -/
def RetLnk (w : World) (B bb : Nat) (s : BldD) (x : Except Err (List StyleD)) (e : Ending) (w' : World) : Prop :=
  Below B w w' ∧ match x with
  | .error r => e = .returned (.agg #[.int .i64 r.no, .int .i64 r.line])
  | .ok l => e = .returned (.agg #[.int .i64 0, .int .i64 0]) ∧ ∃ cs, Rep.rep w' (fun b => B ≤ b ∧ b < w'.heap.size) cs { s.e with styl := l } ∧ ∀ (i : Nat) u, cs[i]? = some u → w'.cell? ⟨bb, i, none⟩ = some u
theorem idxOfS_range (xs : List ByteArray) (x : ByteArray) : Lib.idxOfS xs x < 0 ∨ ∃ k : Nat, Lib.idxOfS xs x = (k : Int) ∧ k < xs.length := by
  unfold Lib.idxOfS
  have : ∀ (zs : List ByteArray) (i : Nat), Lib.idxFromS zs x i < 0 ∨ ∃ k : Nat, Lib.idxFromS zs x i = (k : Int) ∧ k < i + zs.length := by
    intro zs
    induction zs with
    | nil => intro i; left; simp [Lib.idxFromS]
    | cons y zs ih =>
      intro i
      unfold Lib.idxFromS
      split
      · exact .inr ⟨i, rfl, by simp⟩
      · rcases ih (i + 1) with h | ⟨k, h1, h2⟩
        · exact .inl h
        · exact .inr ⟨k, h1, by simp; omega⟩
  simpa using this xs 0
theorem Tryz.boolTy : ∃ i, Tryz.prog.info? 4 = some i ∧ i.zero = some (.bool false) ∧ i.size = 1 ∧ i.bytes = 1 := info_parts (by kernel_rfl)

/-- raw rows, read as data -/
theorem RS.of_raw {α : Type} [Rep α] {k : Nat} {w : World} {B : Nat} {S : Nat → Prop} {e : TypeId} {A : Option Addr} {n c : Nat} {xs : List (RawN k)} {ys : List α} (h : Own w NoBlk B e (.slice A n c) xs) (hk : Rep.sz α = k) (hl : xs.length = ys.length)
    (hr : ∀ (i : Nat) x y, xs[i]? = some x → ys[i]? = some y → Rep.rep w S x.cells y) (hS : ∀ g, (Value.slice A n c).ownBlock = some g → S g) : RS w S A n c ys := by
  have hrs : RS w S A n c xs := by
    obtain ⟨A', n', c', hv, hn⟩ := h.slice
    injection hv with _ hn' _
    subst hn'
    obtain ⟨cs, h1, h2, h3⟩ := h
    subst hn
    exact RS.of_own h1 (h2.keep (fun _ h => h.elim) (Keeps.refl _ _)) rfl hS
  obtain ⟨h1, h2, h3, h4⟩ := hrs
  refine ⟨h1.trans hl, h2, h3, fun hn => ?_⟩
  obtain ⟨b, o, e, hb, he⟩ := h4 hn
  refine ⟨b, o, e, hb, fun i y hy => ?_⟩
  have hi : i < xs.length := by rw [hl]; exact lt_of_get hy
  obtain ⟨cs, hc1, hc2⟩ := he i xs[i] (List.getElem?_eq_getElem hi)
  have hcs : cs = xs[i].cells := hc1
  subst hcs
  exact ⟨_, hr i xs[i] y (List.getElem?_eq_getElem hi) hy, by rw [hk]; exact hc2⟩
theorem linkGo_prec {prec : List ByteArray} {cont : List ContestD} {v : Vals} {vs : List Vals} {x : StyleD} {ss : List StyleD} {used : List Bool} {done : List StyleD} {e : Err} (h : linkPrec prec (v.l kPrecincts) (v.s kPrecincts) used [] = .error e) : linkGo prec cont (v :: vs) (x :: ss) used done = .error e := by
  rw [linkGo, h]
theorem linkGo_cont {prec : List ByteArray} {cont : List ContestD} {v : Vals} {vs : List Vals} {x : StyleD} {ss : List StyleD} {used used2 : List Bool} {done : List StyleD} {ps : List Int} {e : Err} (h : linkPrec prec (v.l kPrecincts) (v.s kPrecincts) used [] = .ok (used2, ps)) (h2 : linkCont cont (v.l kContests) (v.s kContests) [] = .error e) : linkGo prec cont (v :: vs) (x :: ss) used done = .error e := by
  rw [linkGo, h]; simp only []; rw [h2]
theorem linkGo_on {prec : List ByteArray} {cont : List ContestD} {v : Vals} {vs : List Vals} {x : StyleD} {ss : List StyleD} {used used2 : List Bool} {done : List StyleD} {ps cs : List Int} (h : linkPrec prec (v.l kPrecincts) (v.s kPrecincts) used [] = .ok (used2, ps)) (h2 : linkCont cont (v.l kContests) (v.s kContests) [] = .ok cs) :
    linkGo prec cont (v :: vs) (x :: ss) used done = linkGo prec cont vs ss used2 (done ++ [⟨x.name, ps, cs⟩]) := by
  rw [linkGo, h]; simp only []; rw [h2]
theorem rawAfter {k : Nat} {w w2 : World} {B : Nat} {e : TypeId} {g n c : Nat} {xs : List (RawN k)} (h : Own w NoBlk B e (.slice (some ⟨g, 0, none⟩) n c) xs) {i : Nat} {x : RawN k} (hx : xs[i]? = some x) {j : Nat} {u : Value} (hu : x.cells[j]? = some u) {o : Obj} {row : Option Nat} (hg : (w.alloc o).grownBy w2 row) (hne : row ≠ some g) :
    w2.cell? ⟨g, i * k + j, none⟩ = some u ∧ w2.frozen? ⟨g, i * k + j, none⟩ = false :=
  ((h.alloc o).keep hg (.inr fun e => hne e.symm) (fun _b hb => hb.elim)).rawCell hx hu
theorem Tryz.intTy : SliceTy Tryz.prog 84 3 1 8 := SliceTy.mk' (z := .int .i64 0) Tryz.underlying84 (by kernel_rfl) rfl (by omega)
theorem linkPrec_nil (prec : List ByteArray) (line : Int) (used : List Bool) (acc : List Int) : linkPrec prec line [] used acc = .ok (used, acc) := rfl
theorem linkCont_nil (cont : List ContestD) (line : Int) (acc : List Int) : linkCont cont line [] acc = .ok acc := rfl
/-- a style is done -/
theorem LnkO.next {w wr0 wr : World} {B gU nU : Nat} {τ : Nat → Tag} {s : BldD} {vS : Value} {used used1 : List Bool} {rows : List (RawN 3)} {done : List StyleD} {i b1 g5 : Nat} {cs5 : Array Value} {sy : StyleD} {v1 v2 : Value} {a1 a2 : List Int}
    (h0 : LnkO w wr0 B gU nU τ s vS i used rows done) (hi : i < rows.length) (h : LnkI w wr B gU nU τ vS i rows done b1 g5 cs5 sy.name used1 v1 v2 a1 a2) : LnkO w wr B gU nU τ s vS (i + 1) used1 (rows.set i (styRow sy.name v1 v2)) (done ++ [⟨sy.name, a1, a2⟩]) := by
  have hS : ∀ g, b1 ≤ g → g < wr.heap.size → DoneB w gU wr.heap.size g := fun g h1 h2 => ⟨by have := h.h5; have := h.h51; omega, h2, by have := h.hU; omega⟩
  refine ⟨h.W, by simp [h0.dn], by rw [List.length_set]; exact h0.ln, h.lu, fun j x y hj hx hy => ?_, fun j x y hj hx hy => ?_⟩
  · by_cases e : j = i
    · subst e
      rw [List.getElem?_set_self hi] at hx
      injection hx with hx
      subst hx
      rw [List.getElem?_append_right (by rw [h0.dn]; exact Nat.le_refl _), h0.dn, Nat.sub_self] at hy
      injection hy with hy
      subst hy
      obtain ⟨A1, n1, c1, rfl, _⟩ := h.o1.slice
      obtain ⟨A2, n2, c2, rfl, _⟩ := h.o2.slice
      exact ⟨A1, n1, c1, A2, n2, c2, rfl, h.o1.rs (fun _ h => h.elim) hS, h.o2.rs (fun _ h => h.elim) hS⟩
    · rw [List.getElem?_set_ne (Ne.symm e)] at hx
      rw [List.getElem?_append_left (by rw [h0.dn]; omega)] at hy
      exact Rep.keep (h.fin j x y (by omega) hx hy) (fun b hb => ⟨hb.1, Nat.lt_of_lt_of_le hb.2.1 h.hb, hb.2.2⟩) (Keeps.refl _ _)
  · rw [List.getElem?_set_ne (by omega)] at hx
    exact h0.rest j x y (by omega) hx hy
/-- what is left when all is linked -/
theorem fin_ok {w wr : World} {B bb mn N gU nU nC cC nS cS : Nat} {AC AS : Option Addr} {τ : Nat → Tag} {f : ByteArray → Option Value} {vP vN vD vV : Value} {rC : List (RawN 9)} {rS rows : List (RawN 3)} {rV : List (RawN 7)} {s : BldD} {used : List Bool} {done : List StyleD} {i : Nat} {z : Except Err (List StyleD)}
    (h : BldIn w B bb mn N τ f vP (.slice AC nC cC) (.slice AS nS cS) vN vD vV rC rS rV s) (ho : LnkO w wr B gU nU τ s (.slice AS nS cS) i used rows done) (hi : i = s.e.styl.length) (hz : z = .ok done) :
    RetLnk w B bb s z (.returned (.agg #[.int .i64 0, .int .i64 0])) (setAll wr w.heap.size 0 [.int .i64 0, .int .i64 0]) := by
  subst hz
  have hBw : B ≤ w.heap.size := Nat.le_of_lt (Nat.lt_of_le_of_lt h.hb h.blk.lt)
  have hk := ho.W.kept
  obtain ⟨w', hw'⟩ : ∃ x, setAll wr w.heap.size 0 [.int .i64 0, .int .i64 0] = x := ⟨_, rfl⟩
  have hs : w'.heap.size = wr.heap.size := by rw [← hw']; exact size_setAll _ _ _
  have hW : Keeps (fun b => B ≤ b ∧ b < wr.heap.size ∧ b ≠ w.heap.size) wr w' := by rw [← hw']; exact (Keeps.refl _ _).setAll (fun h => h.2.2 rfl) _ _
  have hbel : Below B w w' := by rw [← hw']; exact below_setAll ho.W.bel hBw _ _
  have hbb : Blk w' bb 135 (elecCells s.e vP (.slice AC nC cC) (.slice AS nS cS) vN vD ++ [.map (some mn), vV]).toArray := by
    rw [← hw']
    exact (h.blk.tag hk (by rw [h.tb]; simp [One])).farAll (Nat.ne_of_lt h.blk.lt) _ _
  rw [hw']
  have hkk : Keeps (Dat w B τ) w wr := hk.keeps (by simp [One])
  have hD : ∀ b, Dat w B τ b → B ≤ b ∧ b < wr.heap.size ∧ b ≠ w.heap.size := fun b hb => ⟨hb.1, Nat.lt_of_lt_of_le hb.2.1 hk.size, Nat.ne_of_lt hb.2.1⟩
  have hE : ∀ b, (B ≤ b ∧ b < wr.heap.size ∧ b ≠ w.heap.size) → B ≤ b ∧ b < w'.heap.size := fun b hb => ⟨hb.1, by rw [hs]; exact hb.2.1⟩
  refine ⟨hbel, rfl, elecCells s.e vP (.slice AC nC cC) (.slice AS nS cS) vN vD, ?_, fun j u hu => ?_⟩
  · obtain ⟨AP, nP, cP, rfl, hp⟩ := h.dP
    obtain ⟨AN, nN, cN, rfl, hn⟩ := h.dN
    obtain ⟨AD, nD, cD, rfl, hd⟩ := h.dD
    have hC : RS wr (fun b => B ≤ b ∧ b < wr.heap.size ∧ b ≠ w.heap.size) AC nC cC s.e.cont :=
      RS.of_raw (h.oC.tag hk (fun g hg => by rw [h.tC g hg]; simp [One])) rfl h.dC.1 (fun j x y hx hy => Rep.keep (h.dC.2 j x y hx hy) hD hkk) (fun g hg => by
        have := h.oC.lt g hg
        exact ⟨this.1, Nat.lt_of_lt_of_le this.2 hk.size, Nat.ne_of_lt this.2⟩)
    have hS : RS wr (fun b => B ≤ b ∧ b < wr.heap.size ∧ b ≠ w.heap.size) AS nS cS done :=
      RS.of_raw ho.W.own rfl (by rw [ho.ln, ho.dn, hi]) (fun j x y hx hy => Rep.keep (ho.fin j x y (by rw [← ho.dn]; exact lt_of_get hy) hx hy) (fun b hb => ⟨by have := hb.1; omega, hb.2.1, by have := hb.1; omega⟩) (Keeps.refl _ _)) (fun g hg => by
        have := h.oS.lt g hg
        exact ⟨this.1, Nat.lt_of_lt_of_le this.2 hk.size, Nat.ne_of_lt this.2⟩)
    exact ⟨_, _, _, _, _, _, _, _, _, _, _, _, _, _, _, rfl, (hp.keep hD hkk).keep hE hW, hC.keep hE hW, hS.keep hE hW, (hn.keep hD hkk).keep hE hW, (hd.keep hD hkk).keep hE hW⟩
  · rw [hbb.cell j]
    rw [List.getElem?_toArray, List.getElem?_append_left (lt_of_get hu)]
    exact hu
/-- a fault is returned -/
theorem fin_err {w wr : World} {B bb : Nat} {s : BldD} {z : Except Err (List StyleD)} (hB : Below B w wr) (hBw : B ≤ w.heap.size) (no line : Int) (hz : z = .error ⟨no, line⟩) : RetLnk w B bb s z (.returned (.agg #[.int .i64 no, .int .i64 line])) (setAll wr w.heap.size 0 [.int .i64 no, .int .i64 line]) := by
  subst hz
  exact ⟨below_setAll hB hBw _ _, rfl⟩
end Go.Proofs.YtjlhbfbdcfajfaaGreatDoor
