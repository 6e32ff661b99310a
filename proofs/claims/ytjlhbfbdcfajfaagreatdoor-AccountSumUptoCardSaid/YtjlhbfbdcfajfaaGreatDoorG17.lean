/- Bld Sto1 -/
import Derived.Test.YtjlhbfbdcfajfaaGreatDoorG16
/- schema: the builder in memory. Every block from B on bears a tag that says whose it is; what the builder holds lies in blocks of its own and in blocks of data. -/
namespace Go.Proofs.YtjlhbfbdcfajfaaGreatDoor
open Go.RowKit Go.Maps Go.WideMaps

inductive Tag where
  | data | tmp | bb | mn | cs | ss | vs | nm (k : ByteArray)
/-- the blocks from B on that hold data -/
def Dat (w : World) (B : Nat) (τ : Nat → Tag) (b : Nat) : Prop := B ≤ b ∧ b < w.heap.size ∧ τ b = .data
/-- the tags of the blocks that lie in w are the same -/
def Ext (w : World) (τ τ' : Nat → Tag) : Prop := ∀ b, b < w.heap.size → τ' b = τ b
/-- memory has grown, and all blocks but those with a tag of T are as they were -/
structure Kept (w w' : World) (τ : Nat → Tag) (T : Tag → Prop) : Prop where
  size : w.heap.size ≤ w'.heap.size
  block : ∀ b, b < w.heap.size → ¬ T (τ b) → w'.heap[b]? = w.heap[b]?
/-- raw cells -/
structure RawN (k : Nat) where
  cells : List Value
  len : cells.length = k
instance (k : Nat) : Rep (RawN k) where
  sz := k
  rep _ _ cs x := cs = x.cells
  len h := by rw [h]; exact RawN.len _
  keep h _ _ := h
/-- two lists, element by element -/
def Pair {α β : Type} (R : α → β → Prop) (xs : List α) (ys : List β) : Prop := xs.length = ys.length ∧ ∀ (i : Nat) x y, xs[i]? = some x → ys[i]? = some y → R x y
theorem Pair.mono {α β : Type} {R R' : α → β → Prop} {xs : List α} {ys : List β} (h : Pair R xs ys) (hR : ∀ x y, R x y → R' x y) : Pair R' xs ys := ⟨h.1, fun i x y hx hy => hR x y (h.2 i x y hx hy)⟩
theorem Pair.snoc {α β : Type} {R : α → β → Prop} {xs : List α} {ys : List β} {x : α} {y : β} (h : Pair R xs ys) (hr : R x y) : Pair R (xs ++ [x]) (ys ++ [y]) := by
  refine ⟨by simp [h.1], fun i a b ha hb => ?_⟩
  rw [List.getElem?_append] at ha hb
  rw [← h.1] at hb
  split at ha
  · rename_i hi
    rw [if_pos hi] at hb
    exact h.2 i a b ha hb
  · rename_i hi
    rw [if_neg hi] at hb
    obtain ⟨h0, e⟩ := List.getElem?_eq_some_iff.1 ha
    obtain ⟨h1, e1⟩ := List.getElem?_eq_some_iff.1 hb
    simp only [List.length_cons, List.length_nil, Nat.zero_add] at h0 h1
    simp only [List.getElem_singleton] at e e1
    subst e e1
    exact hr

def NoTag : Tag → Prop := fun _ => False
def One (t : Tag) : Tag → Prop := fun x => x = t
def Two (t u : Tag) : Tag → Prop := fun x => x = t ∨ x = u
/-- the blocks from n on bear the tag t -/
def setTag (τ : Nat → Tag) (n : Nat) (t : Tag) : Nat → Tag := fun b => if b < n then τ b else t

section
variable {w w' : World} {B : Nat} {τ τ' : Nat → Tag} {T : Tag → Prop}
theorem Dat.mono (hs : w.heap.size ≤ w'.heap.size) (hE : Ext w τ τ') : ∀ b, Dat w B τ b → Dat w' B τ' b := fun b hb => ⟨hb.1, Nat.lt_of_lt_of_le hb.2.1 hs, (hE b hb.2.1).trans hb.2.2⟩
theorem Ext.refl (w : World) (τ : Nat → Tag) : Ext w τ τ := fun _ _ => rfl
theorem Ext.set (w : World) (τ : Nat → Tag) (t : Tag) : Ext w τ (setTag τ w.heap.size t) := fun _ hb => if_pos hb
theorem setTag_ge (τ : Nat → Tag) {n b : Nat} (t : Tag) (h : n ≤ b) : setTag τ n t b = t := if_neg (by omega)
theorem Ext.trans {w1 : World} {τ1 : Nat → Tag} (h : Ext w τ τ1) (hs : w.heap.size ≤ w1.heap.size) (k : Ext w1 τ1 τ') : Ext w τ τ' := fun b hb => (k b (Nat.lt_of_lt_of_le hb hs)).trans (h b hb)
theorem Kept.of_below (h : Below w.heap.size w w') : Kept w w' τ T := ⟨h.size, fun b hb _ => h.block b hb⟩
theorem Kept.of_grown {row : Option Nat} (h : w.grownBy w' row) (hr : ∀ g, row = some g → g < w.heap.size → T (τ g)) : Kept w w' τ T :=
  ⟨h.size, fun b hb ht => h.block b hb fun e => ht (hr b e.symm hb)⟩
theorem Kept.of_set (w : World) {p : Addr} (h : T (τ p.block)) (u : Value) : Kept w (w.setCell p u) τ T :=
  ⟨by simp, fun b _ ht => (grownBy_setCell w p u).block b (by assumption) fun e => by injection e with e; subst e; exact ht h⟩
theorem Kept.trans {w1 : World} {τ1 : Nat → Tag} (h : Kept w w1 τ T) (hE : Ext w τ τ1) (k : Kept w1 w' τ1 T) : Kept w w' τ T :=
  ⟨Nat.le_trans h.size k.size, fun b hb ht => (k.block b (Nat.lt_of_lt_of_le hb h.size) (by rw [hE b hb]; exact ht)).trans (h.block b hb ht)⟩
theorem Kept.weak {T' : Tag → Prop} (h : Kept w w' τ T) (hT : ∀ t, T t → T' t) : Kept w w' τ T' := ⟨h.size, fun b hb ht => h.block b hb fun h => ht (hT _ h)⟩
theorem Kept.keeps (h : Kept w w' τ T) (ht : ¬ T .data) : Keeps (Dat w B τ) w w' := fun p hp => World.cell?_of_block (h.block p.block hp.2.1 (by rw [hp.2.2]; exact ht))
theorem Blk.tag {g : Nat} {ty : TypeId} {cs : Array Value} (h : Blk w g ty cs) (hk : Kept w w' τ T) (hg : ¬ T (τ g)) : Blk w' g ty cs := (hk.block g h.lt hg).trans h
theorem MapIs.tag {m n : Nat} {f : ByteArray → Option Value} (h : MapIs w m n f) (hk : Kept w w' τ T) (hg : ¬ T (τ m)) : MapIs w' m n f := by
  have hlt := h.lt
  obtain ⟨D, ⟨es, clock, h0, h1⟩, h2⟩ := h
  exact ⟨D, ⟨es, clock, (hk.block m hlt hg).trans h0, h1⟩, h2⟩
theorem Own.tag {α : Type} [Rep α] {e : TypeId} {v : Value} {xs : List α} (h : Own w NoBlk B e v xs) (hk : Kept w w' τ T) (hg : ∀ g, v.ownBlock = some g → ¬ T (τ g)) : Own w' NoBlk B e v xs := by
  have hlt := h.lt
  obtain ⟨cs, ⟨h0, h1⟩, h2, h3⟩ := h
  refine ⟨cs, ⟨h0, ?_⟩, h2.keep (fun _ h => h) (fun p hp => hp.elim), fun b hb => hb.elim⟩
  rcases h1 with h1 | ⟨g, cap, cur, hv, hbase, hh, hr⟩
  · exact .inl h1
  · refine .inr ⟨g, cap, cur, hv, hbase, (hk.block g (hlt g (by rw [hv]; rfl)).2 (hg g (by rw [hv]; rfl))).trans hh, hr⟩
end

/-- a slice that is given as a value -/
def SlIs {α : Type} [Rep α] (w : World) (S : Nat → Prop) (v : Value) (xs : List α) : Prop := ∃ A n c, v = .slice A n c ∧ RS w S A n c xs
theorem SlIs.keep {α : Type} [Rep α] {w w' : World} {S S' : Nat → Prop} {v : Value} {xs : List α} (h : SlIs w S v xs) (hS : ∀ b, S b → S' b) (hk : Keeps S w w') : SlIs w' S' v xs := by
  obtain ⟨A, n, c, e, h⟩ := h
  exact ⟨A, n, c, e, h.keep hS hk⟩
/-- the values of a block, as seven cells; its maps and lists are data -/
def ValD (w : World) (B : Nat) (τ : Nat → Tag) (cs : List Value) (v : Vals) : Prop :=
  ∃ m1 m2 m3 N f vN vD, cs = [.map (some m1), .map (some m2), .map (some m3), .bool v.risk.neg, vN, vD, .string v.seed] ∧ Dat w B τ m1 ∧ Dat w B τ m2 ∧ Dat w B τ m3
    ∧ MapIs w m1 N (ints v.num) ∧ MapIs w m2 N f ∧ Lists w (Dat w B τ) f v.lst ∧ MapIs w m3 N (ints v.ln) ∧ SlIs w (Dat w B τ) vN v.risk.num ∧ SlIs w (Dat w B τ) vD v.risk.den
theorem ValD.tag {w w' : World} {B : Nat} {τ τ' : Nat → Tag} {T : Tag → Prop} {cs : List Value} {v : Vals} (h : ValD w B τ cs v) (hk : Kept w w' τ T) (ht : ¬ T .data) (hE : Ext w τ τ') : ValD w' B τ' cs v := by
  obtain ⟨m1, m2, m3, N, f, vN, vD, e, d1, d2, d3, h1, h2, h3, h4, h5, h6⟩ := h
  have hd := Dat.mono (B := B) hk.size hE
  have hkk : Keeps (Dat w B τ) w w' := hk.keeps ht
  exact ⟨m1, m2, m3, N, f, vN, vD, e, hd _ d1, hd _ d2, hd _ d3, h1.tag hk (by rw [d1.2.2]; exact ht), h2.tag hk (by rw [d2.2.2]; exact ht), h3.keep hd hkk, h4.tag hk (by rw [d3.2.2]; exact ht), h5.keep hd hkk, h6.keep hd hkk⟩

/-- the names of the blocks of each kind: a map whose rows the builder owns -/
def NamesIn (w : World) (B : Nat) (τ : Nat → Tag) (f : ByteArray → Option Value) (names : ByteArray → Option (List ByteArray)) : Prop :=
  ∀ k, match names k with | none => f k = none | some xs => ∃ v, f k = some v ∧ Own w NoBlk B 9 v xs ∧ ∀ g, v.ownBlock = some g → τ g = .nm k
/-- a style whose places are not linked -/
def styleRaw (s : StyleD) : List Value := [.string s.name, .slice none 0 0, .slice none 0 0]
def PlainStyle (x : RawN 3) (y : StyleD) : Prop := x.cells = styleRaw y ∧ y.prec = [] ∧ y.cont = []
/-- the builder: N bounds what it holds -/
structure BldIn (w : World) (B bb mn N : Nat) (τ : Nat → Tag) (f : ByteArray → Option Value) (vP vC vS vN vD vV : Value) (rC : List (RawN 9)) (rS : List (RawN 3)) (rV : List (RawN 7)) (s : BldD) : Prop where
  hb : B ≤ bb
  hm : B ≤ mn
  tb : τ bb = .bb
  tm : τ mn = .mn
  blk : Blk w bb 135 (elecCells s.e vP vC vS vN vD ++ [.map (some mn), vV]).toArray
  map : MapIs w mn N f
  nms : NamesIn w B τ f s.names
  lens : ∀ k, (s.of k).length ≤ N
  oC : Own w NoBlk B 95 vC rC
  tC : ∀ g, vC.ownBlock = some g → τ g = .cs
  dC : Pair (fun x y => Rep.rep w (Dat w B τ) x.cells y) rC s.e.cont
  oS : Own w NoBlk B 97 vS rS
  tS : ∀ g, vS.ownBlock = some g → τ g = .ss
  dS : Pair PlainStyle rS s.e.styl
  oV : Own w NoBlk B 168 vV rV
  tV : ∀ g, vV.ownBlock = some g → τ g = .vs
  dV : Pair (fun x y => ValD w B τ x.cells y) rV s.vals
  lC : s.e.cont.length ≤ N
  lS : s.e.styl.length ≤ N
  lV : s.vals.length ≤ N
  dP : SlIs w (Dat w B τ) vP s.e.prec
  dN : SlIs w (Dat w B τ) vN s.e.risk.num
  dD : SlIs w (Dat w B τ) vD s.e.risk.den
def Bld (w : World) (B bb N : Nat) (τ : Nat → Tag) (s : BldD) : Prop := (∃ mn f vP vC vS vN vD vV rC rS rV, BldIn w B bb mn N τ f vP vC vS vN vD vV rC rS rV s) ∧ s.vals.length = s.e.styl.length

section
variable {w w' : World} {B bb mn N : Nat} {τ τ' : Nat → Tag} {f : ByteArray → Option Value} {vP vC vS vN vD vV : Value} {rC : List (RawN 9)} {rS : List (RawN 3)} {rV : List (RawN 7)} {s : BldD} {T : Tag → Prop}
theorem NamesIn.tag {names : ByteArray → Option (List ByteArray)} (h : NamesIn w B τ f names) (hk : Kept w w' τ T) (hE : Ext w τ τ') (ht : ∀ k, ¬ T (.nm k)) : NamesIn w' B τ' f names := by
  intro k
  have := h k
  cases hn : names k with
  | none => rw [hn] at this; exact this
  | some xs =>
    rw [hn] at this
    obtain ⟨v, e, ho, hg⟩ := this
    exact ⟨v, e, ho.tag hk (fun g h => by rw [hg g h]; exact ht k), fun g h => by rw [hE g (ho.lt g h).2]; exact hg g h⟩
theorem BldIn.tag (h : BldIn w B bb mn N τ f vP vC vS vN vD vV rC rS rV s) (hk : Kept w w' τ T) (hT : ∀ t, T t → t = .tmp) (hE : Ext w τ τ') {M : Nat} (hM : N ≤ M) : BldIn w' B bb mn M τ' f vP vC vS vN vD vV rC rS rV s :=
  have hd := Dat.mono (B := B) hk.size hE
  have hkk : Keeps (Dat w B τ) w w' := hk.keeps (fun h => by cases hT _ h)
  { h with
    tb := (hE bb h.blk.lt).trans h.tb
    tm := (hE mn h.map.lt).trans h.tm
    blk := h.blk.tag hk (by rw [h.tb]; exact fun h => by cases hT _ h)
    map := (h.map.tag hk (by rw [h.tm]; exact fun h => by cases hT _ h)).mono hM
    nms := h.nms.tag hk hE (fun k h => by cases hT _ h)
    lens := fun k => Nat.le_trans (h.lens k) hM
    lC := Nat.le_trans h.lC hM
    lS := Nat.le_trans h.lS hM
    lV := Nat.le_trans h.lV hM
    oC := h.oC.tag hk (fun g hg => by rw [h.tC g hg]; exact fun h => by cases hT _ h)
    tC := fun g hg => (hE g (h.oC.lt g hg).2).trans (h.tC g hg)
    dC := h.dC.mono fun x y hr => Rep.keep hr hd hkk
    oS := h.oS.tag hk (fun g hg => by rw [h.tS g hg]; exact fun h => by cases hT _ h)
    tS := fun g hg => (hE g (h.oS.lt g hg).2).trans (h.tS g hg)
    oV := h.oV.tag hk (fun g hg => by rw [h.tV g hg]; exact fun h => by cases hT _ h)
    tV := fun g hg => (hE g (h.oV.lt g hg).2).trans (h.tV g hg)
    dV := h.dV.mono fun x y hr => hr.tag hk (fun h => by cases hT _ h) hE
    dP := h.dP.keep hd hkk
    dN := h.dN.keep hd hkk
    dD := h.dD.keep hd hkk }
theorem BldIn.keep (h : BldIn w B bb mn N τ f vP vC vS vN vD vV rC rS rV s) (hb : Below w.heap.size w w') (hE : Ext w τ τ') : BldIn w' B bb mn N τ' f vP vC vS vN vD vV rC rS rV s := h.tag (T := NoTag) (Kept.of_below hb) (fun _ h => h.elim) hE (Nat.le_refl _)
theorem Bld.tag (h : Bld w B bb N τ s) (hk : Kept w w' τ T) (hT : ∀ t, T t → t = .tmp) (hE : Ext w τ τ') {M : Nat} (hM : N ≤ M) : Bld w' B bb M τ' s := by
  obtain ⟨⟨mn, f, vP, vC, vS, vN, vD, vV, rC, rS, rV, h⟩, hl⟩ := h
  exact ⟨⟨mn, f, vP, vC, vS, vN, vD, vV, rC, rS, rV, h.tag hk hT hE hM⟩, hl⟩
theorem Bld.keep (h : Bld w B bb N τ s) (hb : Below w.heap.size w w') (hE : Ext w τ τ') : Bld w' B bb N τ' s := by
  obtain ⟨⟨mn, f, vP, vC, vS, vN, vD, vV, rC, rS, rV, h⟩, hl⟩ := h
  exact ⟨⟨mn, f, vP, vC, vS, vN, vD, vV, rC, rS, rV, h.keep hb hE⟩, hl⟩
/-- the election's own cells are written anew -/
theorem BldIn.setE (h : BldIn w B bb mn N τ f vP vC vS vN vD vV rC rS rV s) (hk : Kept w w' τ (One .bb)) (hE : Ext w τ τ') {e' : ElectionD} {vP' vN' vD' : Value}
    (blk' : Blk w' bb 135 (elecCells e' vP' vC vS vN' vD' ++ [.map (some mn), vV]).toArray) (hc : e'.cont = s.e.cont) (hs : e'.styl = s.e.styl)
    (dP' : SlIs w (Dat w B τ) vP' e'.prec) (dN' : SlIs w (Dat w B τ) vN' e'.risk.num) (dD' : SlIs w (Dat w B τ) vD' e'.risk.den) : BldIn w' B bb mn N τ' f vP' vC vS vN' vD' vV rC rS rV { s with e := e' } :=
  have hd := Dat.mono (B := B) hk.size hE
  have hkk : Keeps (Dat w B τ) w w' := hk.keeps (by simp [One])
  { h with
    tb := (hE bb h.blk.lt).trans h.tb
    tm := (hE mn h.map.lt).trans h.tm
    blk := blk'
    map := h.map.tag hk (by rw [h.tm]; simp [One])
    nms := h.nms.tag hk hE (by simp [One])
    oC := h.oC.tag hk (fun g hg => by rw [h.tC g hg]; simp [One])
    tC := fun g hg => (hE g (h.oC.lt g hg).2).trans (h.tC g hg)
    dC := by
      show Pair _ rC e'.cont
      rw [hc]
      exact h.dC.mono fun x y hr => Rep.keep hr hd hkk
    lC := by show e'.cont.length ≤ N; rw [hc]; exact h.lC
    lS := by show e'.styl.length ≤ N; rw [hs]; exact h.lS
    oS := h.oS.tag hk (fun g hg => by rw [h.tS g hg]; simp [One])
    tS := fun g hg => (hE g (h.oS.lt g hg).2).trans (h.tS g hg)
    dS := by show Pair PlainStyle rS e'.styl; rw [hs]; exact h.dS
    oV := h.oV.tag hk (fun g hg => by rw [h.tV g hg]; simp [One])
    tV := fun g hg => (hE g (h.oV.lt g hg).2).trans (h.tV g hg)
    dV := h.dV.mono fun x y hr => hr.tag hk (by simp [One]) hE
    dP := dP'.keep hd hkk
    dN := dN'.keep hd hkk
    dD := dD'.keep hd hkk }
/-- a contest more -/
theorem BldIn.addC (h : BldIn w B bb mn N τ f vP vC vS vN vD vV rC rS rV s) (hk : Kept w w' τ (Two .cs .bb)) (hE : Ext w τ τ') {v' : Value} {r : RawN 9} {y : ContestD}
    (blk' : Blk w' bb 135 (elecCells s.e vP v' vS vN vD ++ [.map (some mn), vV]).toArray) (ho : Own w' NoBlk B 95 v' (rC ++ [r])) (ht : ∀ g, v'.ownBlock = some g → τ' g = .cs)
    (hr : Rep.rep w (Dat w B τ) r.cells y) : BldIn w' B bb mn (N + 1) τ' f vP v' vS vN vD vV (rC ++ [r]) rS rV { s with e := { s.e with cont := s.e.cont ++ [y] } } :=
  have hd := Dat.mono (B := B) hk.size hE
  have hkk : Keeps (Dat w B τ) w w' := hk.keeps (by simp [Two])
  { h with
    tb := (hE bb h.blk.lt).trans h.tb
    tm := (hE mn h.map.lt).trans h.tm
    blk := blk'
    map := (h.map.tag hk (by rw [h.tm]; simp [Two])).mono (Nat.le_succ _)
    nms := h.nms.tag hk hE (by simp [Two])
    lens := fun k => Nat.le_trans (h.lens k) (Nat.le_succ _)
    oC := ho
    tC := ht
    dC := (h.dC.mono fun x y hr => Rep.keep hr hd hkk).snoc (Rep.keep hr hd hkk)
    lC := by show (s.e.cont ++ [y]).length ≤ N + 1; rw [List.length_append]; exact Nat.succ_le_succ h.lC
    lS := Nat.le_trans h.lS (Nat.le_succ _)
    lV := Nat.le_trans h.lV (Nat.le_succ _)
    oS := h.oS.tag hk (fun g hg => by rw [h.tS g hg]; simp [Two])
    tS := fun g hg => (hE g (h.oS.lt g hg).2).trans (h.tS g hg)
    oV := h.oV.tag hk (fun g hg => by rw [h.tV g hg]; simp [Two])
    tV := fun g hg => (hE g (h.oV.lt g hg).2).trans (h.tV g hg)
    dV := h.dV.mono fun x y hr => hr.tag hk (by simp [Two]) hE
    dP := h.dP.keep hd hkk
    dN := h.dN.keep hd hkk
    dD := h.dD.keep hd hkk }
/-- a style more -/
theorem BldIn.addS (h : BldIn w B bb mn N τ f vP vC vS vN vD vV rC rS rV s) (hk : Kept w w' τ (Two .ss .bb)) (hE : Ext w τ τ') {v' : Value} {r : RawN 3} {y : StyleD}
    (blk' : Blk w' bb 135 (elecCells s.e vP vC v' vN vD ++ [.map (some mn), vV]).toArray) (ho : Own w' NoBlk B 97 v' (rS ++ [r])) (ht : ∀ g, v'.ownBlock = some g → τ' g = .ss)
    (hr : PlainStyle r y) : BldIn w' B bb mn (N + 1) τ' f vP vC v' vN vD vV rC (rS ++ [r]) rV { s with e := { s.e with styl := s.e.styl ++ [y] } } :=
  have hd := Dat.mono (B := B) hk.size hE
  have hkk : Keeps (Dat w B τ) w w' := hk.keeps (by simp [Two])
  { h with
    tb := (hE bb h.blk.lt).trans h.tb
    tm := (hE mn h.map.lt).trans h.tm
    blk := blk'
    map := (h.map.tag hk (by rw [h.tm]; simp [Two])).mono (Nat.le_succ _)
    nms := h.nms.tag hk hE (by simp [Two])
    lens := fun k => Nat.le_trans (h.lens k) (Nat.le_succ _)
    oC := h.oC.tag hk (fun g hg => by rw [h.tC g hg]; simp [Two])
    tC := fun g hg => (hE g (h.oC.lt g hg).2).trans (h.tC g hg)
    dC := h.dC.mono fun x y hr => Rep.keep hr hd hkk
    lC := Nat.le_trans h.lC (Nat.le_succ _)
    lS := by show (s.e.styl ++ [y]).length ≤ N + 1; rw [List.length_append]; exact Nat.succ_le_succ h.lS
    lV := Nat.le_trans h.lV (Nat.le_succ _)
    oS := ho
    tS := ht
    dS := h.dS.snoc hr
    oV := h.oV.tag hk (fun g hg => by rw [h.tV g hg]; simp [Two])
    tV := fun g hg => (hE g (h.oV.lt g hg).2).trans (h.tV g hg)
    dV := h.dV.mono fun x y hr => hr.tag hk (by simp [Two]) hE
    dP := h.dP.keep hd hkk
    dN := h.dN.keep hd hkk
    dD := h.dD.keep hd hkk }
/-- the values of a style more -/
theorem BldIn.addV (h : BldIn w B bb mn N τ f vP vC vS vN vD vV rC rS rV s) (hk : Kept w w' τ (Two .vs .bb)) (hE : Ext w τ τ') {v' : Value} {r : RawN 7} {y : Vals}
    (blk' : Blk w' bb 135 (elecCells s.e vP vC vS vN vD ++ [.map (some mn), v']).toArray) (ho : Own w' NoBlk B 168 v' (rV ++ [r])) (ht : ∀ g, v'.ownBlock = some g → τ' g = .vs)
    (hr : ValD w B τ r.cells y) (hlv : s.vals.length < N) : BldIn w' B bb mn N τ' f vP vC vS vN vD v' rC rS (rV ++ [r]) { s with vals := s.vals ++ [y] } :=
  have hd := Dat.mono (B := B) hk.size hE
  have hkk : Keeps (Dat w B τ) w w' := hk.keeps (by simp [Two])
  { h with
    tb := (hE bb h.blk.lt).trans h.tb
    tm := (hE mn h.map.lt).trans h.tm
    blk := blk'
    map := h.map.tag hk (by rw [h.tm]; simp [Two])
    nms := h.nms.tag hk hE (by simp [Two])
    oC := h.oC.tag hk (fun g hg => by rw [h.tC g hg]; simp [Two])
    tC := fun g hg => (hE g (h.oC.lt g hg).2).trans (h.tC g hg)
    dC := h.dC.mono fun x y hr => Rep.keep hr hd hkk
    lV := by show (s.vals ++ [y]).length ≤ N; rw [List.length_append]; exact hlv
    oS := h.oS.tag hk (fun g hg => by rw [h.tS g hg]; simp [Two])
    tS := fun g hg => (hE g (h.oS.lt g hg).2).trans (h.tS g hg)
    oV := ho
    tV := ht
    dV := (h.dV.mono fun x y hr => hr.tag hk (by simp [Two]) hE).snoc (hr.tag hk (by simp [Two]) hE)
    dP := h.dP.keep hd hkk
    dN := h.dN.keep hd hkk
    dD := h.dD.keep hd hkk }
/-- a name more -/
theorem BldIn.addN (h : BldIn w B bb mn N τ f vP vC vS vN vD vV rC rS rV s) (kind nm : ByteArray) (hk : Kept w w' τ (Two (.nm kind) .mn)) (hE : Ext w τ τ') {v' : Value}
    (hm : MapIs w' mn (N + 1) (upd f kind v')) (ho : Own w' NoBlk B 9 v' (s.of kind ++ [nm])) (ht : ∀ g, v'.ownBlock = some g → τ' g = .nm kind) : BldIn w' B bb mn (N + 1) τ' (upd f kind v') vP vC vS vN vD vV rC rS rV (s.named kind nm) :=
  have hd := Dat.mono (B := B) hk.size hE
  have hkk : Keeps (Dat w B τ) w w' := hk.keeps (by simp [Two])
  { h with
    tb := (hE bb h.blk.lt).trans h.tb
    tm := (hE mn h.map.lt).trans h.tm
    blk := h.blk.tag hk (by rw [h.tb]; simp [Two])
    map := hm
    nms := by
      intro k
      have := h.nms k
      show match setF s.names kind (s.of kind ++ [nm]) k with | none => _ | some xs => _
      unfold setF upd
      by_cases hkk : k = kind
      · rw [if_pos hkk, if_pos hkk]
        subst hkk
        exact ⟨v', rfl, ho, ht⟩
      · rw [if_neg hkk, if_neg hkk]
        cases hn : s.names k with
        | none => rw [hn] at this; exact this
        | some xs =>
          rw [hn] at this
          obtain ⟨v, e, ho, hg⟩ := this
          refine ⟨v, e, ho.tag hk (fun g h => ?_), fun g h => by rw [hE g (ho.lt g h).2]; exact hg g h⟩
          rw [hg g h]
          rintro (h | h)
          · injection h with h; exact hkk h
          · cases h
    lens := by
      intro k
      show ((setF s.names kind (s.of kind ++ [nm]) k).getD []).length ≤ N + 1
      unfold setF
      split
      · have := h.lens kind
        simp
        omega
      · exact Nat.le_trans (h.lens k) (Nat.le_succ _)
    oC := h.oC.tag hk (fun g hg => by rw [h.tC g hg]; simp [Two])
    tC := fun g hg => (hE g (h.oC.lt g hg).2).trans (h.tC g hg)
    dC := h.dC.mono fun x y hr => Rep.keep hr hd hkk
    lC := Nat.le_trans h.lC (Nat.le_succ _)
    lS := Nat.le_trans h.lS (Nat.le_succ _)
    lV := Nat.le_trans h.lV (Nat.le_succ _)
    oS := h.oS.tag hk (fun g hg => by rw [h.tS g hg]; simp [Two])
    tS := fun g hg => (hE g (h.oS.lt g hg).2).trans (h.tS g hg)
    oV := h.oV.tag hk (fun g hg => by rw [h.tV g hg]; simp [Two])
    tV := fun g hg => (hE g (h.oV.lt g hg).2).trans (h.tV g hg)
    dV := h.dV.mono fun x y hr => hr.tag hk (by simp [Two]) hE
    dP := h.dP.keep hd hkk
    dN := h.dN.keep hd hkk
    dD := h.dD.keep hd hkk }
end
/-- what lies below B, all data and the callers' own cells are as they were -/
def BK (w w' : World) (B : Nat) (τ : Nat → Tag) : Prop := Below B w w' ∧ Kept w w' τ (fun t => t ≠ .data ∧ t ≠ .tmp)
end Go.Proofs.YtjlhbfbdcfajfaaGreatDoor
/- schema: builder.store, the branches that store numbers and lists. PRINTED by wip/gen/sto.py -/
namespace Go.Proofs.YtjlhbfbdcfajfaaGreatDoor
open Go.RowKit Go.Maps Go.WideMaps

/-- the call has no result; the builder is as s says -/
def RetSto (w : World) (B bb N : Nat) (τ : Nat → Tag) (s : BldD) (e : Ending) (w' : World) : Prop := e = .returned (.tuple #[]) ∧ ∃ τ', Ext w τ τ' ∧ Bld w' B bb N τ' s ∧ BK w w' B τ
abbrev bbCells (s : BldD) (mn : Nat) (vP vC vS vN vD vV : Value) : Array Value := #[.string s.e.title, .int .i64 s.e.dots, .int .i64 s.e.blank, .int .i64 s.e.marked, vP, vC, vS, .int .i64 s.e.scan, .int .i64 s.e.batch, .bool s.e.risk.neg, vN, vD, .int .i64 s.e.cell, .string s.e.seed, .map (some mn), vV]
theorem ints_n (v : Vals) (k : ByteArray) : ((ints v.num) k).getD (.int .i64 0) = .int .i64 (v.n k) := ints_at v.num k
theorem Lists.at_ {w : World} {S : Nat → Prop} {f : ByteArray → Option Value} {v : Vals} (h : Lists w S f v.lst) (k : ByteArray) : ∃ A n c, (f k).getD (.slice none 0 0) = .slice A n c ∧ RS w S A n c (v.s k) := by
  have := h k
  unfold Vals.s
  cases hl : v.lst k with
  | none => rw [hl] at this; exact ⟨none, 0, 0, by rw [this]; rfl, RS.nil _ _⟩
  | some xs =>
    rw [hl] at this
    obtain ⟨A, n, c, e, hr⟩ := this
    exact ⟨A, n, c, by rw [e]; rfl, hr⟩

set_option maxRecDepth 20000 in
set_option maxHeartbeats 2000000 in
theorem store_scan {w : World} {B bb mn N : Nat} {τ : Nat → Tag} {f : ByteArray → Option Value} {vP vC vS vN vD vV : Value} {rC : List (RawN 9)} {rS : List (RawN 3)} {rV : List (RawN 7)} {s : BldD} (h : BldIn w B bb mn N τ f vP vC vS vN vD vV rC rS rV s) (hl : s.vals.length = s.e.styl.length)
    (nm : ByteArray) (AF : Option Addr) (nF cF : Nat) (line : Int) {cs : List Value} {v : Vals} (hv : ValD w B τ cs v) (_hN : N < 1099511627776) :
    Calls Tryz.prog 97 #[.pointer (some ⟨bb, 0, none⟩), .agg #[.string kScan, .string nm, .slice AF nF cF, .int .i64 line], .agg cs.toArray] w (RetSto w B bb (N + 1) τ (storeP kScan nm v s)) := by
  have hvd0 := hv
  obtain ⟨m1, m2, m3, M, fl, vNv, vDv, rfl, d1, d2, d3, hn, hli, hls, hln, hvn, hvd⟩ := hv
  have hbx : Below w.heap.size w ((w.alloc (.cells #[.string kScan, .string nm, .slice AF nF cF, .int .i64 line] 110)).alloc (.cells #[.map (some m1), .map (some m2), .map (some m3), .bool v.risk.neg, vNv, vDv, .string v.seed] 168)) := ((Below.refl _ _).alloc (Nat.le_refl _) _).alloc (by simp) _
  have hk4 : Blk ((w.alloc (.cells #[.string kScan, .string nm, .slice AF nF cF, .int .i64 line] 110)).alloc (.cells #[.map (some m1), .map (some m2), .map (some m3), .bool v.risk.neg, vNv, vDv, .string v.seed] 168)) w.heap.size 110 #[.string kScan, .string nm, .slice AF nF cF, .int .i64 line] := (Blk.new _ _ _).alloc _
  have hk5 : Blk ((w.alloc (.cells #[.string kScan, .string nm, .slice AF nF cF, .int .i64 line] 110)).alloc (.cells #[.map (some m1), .map (some m2), .map (some m3), .bool v.risk.neg, vNv, vDv, .string v.seed] 168)) (w.heap.size + 1) 168 #[.map (some m1), .map (some m2), .map (some m3), .bool v.risk.neg, vNv, vDv, .string v.seed] := Blk.new' (by simp) _ _
  have hsz1 : ((w.alloc (.cells #[.string kScan, .string nm, .slice AF nF cF, .int .i64 line] 110)).alloc (.cells #[.map (some m1), .map (some m2), .map (some m3), .bool v.risk.neg, vNv, vDv, .string v.seed] 168)).heap.size = w.heap.size + 2 := by simp
  obtain ⟨w1, hw1⟩ : ∃ x, (w.alloc (.cells #[.string kScan, .string nm, .slice AF nF cF, .int .i64 line] 110)).alloc (.cells #[.map (some m1), .map (some m2), .map (some m3), .bool v.risk.neg, vNv, vDv, .string v.seed] 168) = x := ⟨_, rfl⟩
  rw [hw1] at hbx hk4 hk5 hsz1
  have hlt : bb < w.heap.size := h.blk.lt
  have hBw : B ≤ w.heap.size := Nat.le_of_lt (Nat.lt_of_le_of_lt h.hb hlt)
  have hBb : B ≤ bb := h.hb
  have hkb : Blk w1 bb 135 (bbCells s mn vP vC vS vN vD vV) := h.blk.keep hbx
  have e0 : w1.cell? ⟨w.heap.size, 0, none⟩ = some (.string ⟨#[115, 99, 97, 110]⟩) := hk4.cell 0
  have e1 : w1.cell? ⟨w.heap.size, 1, none⟩ = some (.string nm) := hk4.cell 1
  have v0 : w1.cell? ⟨w.heap.size + 1, 0, none⟩ = some (.map (some m1)) := hk5.cell 0
  have v1 : w1.cell? ⟨w.heap.size + 1, 1, none⟩ = some (.map (some m2)) := hk5.cell 1
  have z1 : w1.cell? ⟨bb, 1, none⟩ = some (.int .i64 s.e.dots) := hkb.cell 1
  have y1 : w1.frozen? ⟨bb, 1, none⟩ = false := hkb.frozen 1
  have z2 : w1.cell? ⟨bb, 2, none⟩ = some (.int .i64 s.e.blank) := hkb.cell 2
  have y2 : w1.frozen? ⟨bb, 2, none⟩ = false := hkb.frozen 2
  have z3 : w1.cell? ⟨bb, 3, none⟩ = some (.int .i64 s.e.marked) := hkb.cell 3
  have y3 : w1.frozen? ⟨bb, 3, none⟩ = false := hkb.frozen 3
  have HN := Lib.hid (hn.keep hbx)
  have HLI := Lib.hid (hli.keep hbx)
  have HLS := Lib.hid hls
  have HVD := Lib.hid hvd0
  have HW1 := Lib.hid hw1
  have HKB := Lib.hid hkb
  have HK4 := Lib.hid hk4
  have HK5 := Lib.hid hk5
  have HBX := Lib.hid hbx
  have HH := Lib.hid h
  have HL := Lib.hid hl
  have HVNv := Lib.hid hvn
  have HVDv := Lib.hid hvd
  have HSZ1 := Lib.hid hsz1
  clear hn hw1 hkb hbx h hl hk4 hk5 d1 d2 d3 hli hls hln hvn hvd hvd0 hsz1 
  show Calls _ _ #[.pointer (some ⟨bb, 0, none⟩), .agg #[.string ⟨#[115, 99, 97, 110]⟩, .string nm, .slice AF nF cF, .int .i64 line], .agg #[.map (some m1), .map (some m2), .map (some m3), .bool v.risk.neg, vNv, vDv, .string v.seed]] w _
  unfold kScan at HW1
  go_enter Tryz.func97, Tryz.ntmps97
  go_upto_region 1 with (fail)
  rw [HW1.out]
  go_wp2_with (first | (at_lookup; refine wpList_lookup_hit rfl _ _ _ 3 rfl Tryz.underlying166 (.int .i64 0) rfl rfl HN.out kDots rfl (by decide) _ (ints_n v kDots) ?_) | (at_lookup; refine wpList_lookup_hit rfl _ _ _ 3 rfl Tryz.underlying166 (.int .i64 0) rfl rfl HN.out kBlank rfl (by decide) _ (ints_n v kBlank) ?_) | (at_lookup; refine wpList_lookup_hit rfl _ _ _ 3 rfl Tryz.underlying166 (.int .i64 0) rfl rfl HN.out kMarked rfl (by decide) _ (ints_n v kMarked) ?_))
  go_end0
  have hw3 : Kept w1 (((w1.setCell ⟨bb, 1, none⟩ (.int .i64 (v.n kDots))).setCell ⟨bb, 2, none⟩ (.int .i64 (v.n kBlank))).setCell ⟨bb, 3, none⟩ (.int .i64 (v.n kMarked))) τ (One .bb) := ((Kept.of_set (T := One .bb) (τ := τ) _ (p := ⟨bb, 1, none⟩) (show One .bb (τ bb) from HH.out.tb) (.int .i64 (v.n kDots))).trans (Ext.refl _ _) (Kept.of_set (T := One .bb) (τ := τ) _ (p := ⟨bb, 2, none⟩) (show One .bb (τ bb) from HH.out.tb) (.int .i64 (v.n kBlank)))).trans (Ext.refl _ _) (Kept.of_set (T := One .bb) (τ := τ) _ (p := ⟨bb, 3, none⟩) (show One .bb (τ bb) from HH.out.tb) (.int .i64 (v.n kMarked)))
  have h1 := HH.out.keep HBX.out (Ext.refl w τ)
  refine ⟨rfl, τ, Ext.refl _ _, ⟨⟨mn, f, vP, vC, vS, vN, vD, vV, rC, rS, rV, ?_⟩, HL.out⟩, ((((HBX.out.mono hBw).setCell (p := ⟨bb, 1, none⟩) hBb _).setCell (p := ⟨bb, 2, none⟩) hBb _).setCell (p := ⟨bb, 3, none⟩) hBb _), (Kept.of_below HBX.out).trans (Ext.refl _ _) (hw3.weak fun t h => by rw [show t = .bb from h]; simp)⟩
  exact (h1.setE (e' := { s.e with dots := v.n kDots, blank := v.n kBlank, marked := v.n kMarked }) hw3 (Ext.refl _ _) (((HKB.out.set_ 1 _).set_ 2 _).set_ 3 _) rfl rfl h1.dP h1.dN h1.dD).tag (T := NoTag) (Kept.of_below (Below.refl _ _)) (fun _ h => h.elim) (Ext.refl _ _) (Nat.le_succ _)

set_option maxRecDepth 20000 in
set_option maxHeartbeats 2000000 in
theorem store_scanners {w : World} {B bb mn N : Nat} {τ : Nat → Tag} {f : ByteArray → Option Value} {vP vC vS vN vD vV : Value} {rC : List (RawN 9)} {rS : List (RawN 3)} {rV : List (RawN 7)} {s : BldD} (h : BldIn w B bb mn N τ f vP vC vS vN vD vV rC rS rV s) (hl : s.vals.length = s.e.styl.length)
    (nm : ByteArray) (AF : Option Addr) (nF cF : Nat) (line : Int) {cs : List Value} {v : Vals} (hv : ValD w B τ cs v) (_hN : N < 1099511627776) :
    Calls Tryz.prog 97 #[.pointer (some ⟨bb, 0, none⟩), .agg #[.string kScanners, .string nm, .slice AF nF cF, .int .i64 line], .agg cs.toArray] w (RetSto w B bb (N + 1) τ (storeP kScanners nm v s)) := by
  have hvd0 := hv
  obtain ⟨m1, m2, m3, M, fl, vNv, vDv, rfl, d1, d2, d3, hn, hli, hls, hln, hvn, hvd⟩ := hv
  have hbx : Below w.heap.size w ((w.alloc (.cells #[.string kScanners, .string nm, .slice AF nF cF, .int .i64 line] 110)).alloc (.cells #[.map (some m1), .map (some m2), .map (some m3), .bool v.risk.neg, vNv, vDv, .string v.seed] 168)) := ((Below.refl _ _).alloc (Nat.le_refl _) _).alloc (by simp) _
  have hk4 : Blk ((w.alloc (.cells #[.string kScanners, .string nm, .slice AF nF cF, .int .i64 line] 110)).alloc (.cells #[.map (some m1), .map (some m2), .map (some m3), .bool v.risk.neg, vNv, vDv, .string v.seed] 168)) w.heap.size 110 #[.string kScanners, .string nm, .slice AF nF cF, .int .i64 line] := (Blk.new _ _ _).alloc _
  have hk5 : Blk ((w.alloc (.cells #[.string kScanners, .string nm, .slice AF nF cF, .int .i64 line] 110)).alloc (.cells #[.map (some m1), .map (some m2), .map (some m3), .bool v.risk.neg, vNv, vDv, .string v.seed] 168)) (w.heap.size + 1) 168 #[.map (some m1), .map (some m2), .map (some m3), .bool v.risk.neg, vNv, vDv, .string v.seed] := Blk.new' (by simp) _ _
  have hsz1 : ((w.alloc (.cells #[.string kScanners, .string nm, .slice AF nF cF, .int .i64 line] 110)).alloc (.cells #[.map (some m1), .map (some m2), .map (some m3), .bool v.risk.neg, vNv, vDv, .string v.seed] 168)).heap.size = w.heap.size + 2 := by simp
  obtain ⟨w1, hw1⟩ : ∃ x, (w.alloc (.cells #[.string kScanners, .string nm, .slice AF nF cF, .int .i64 line] 110)).alloc (.cells #[.map (some m1), .map (some m2), .map (some m3), .bool v.risk.neg, vNv, vDv, .string v.seed] 168) = x := ⟨_, rfl⟩
  rw [hw1] at hbx hk4 hk5 hsz1
  have hlt : bb < w.heap.size := h.blk.lt
  have hBw : B ≤ w.heap.size := Nat.le_of_lt (Nat.lt_of_le_of_lt h.hb hlt)
  have hBb : B ≤ bb := h.hb
  have hkb : Blk w1 bb 135 (bbCells s mn vP vC vS vN vD vV) := h.blk.keep hbx
  have e0 : w1.cell? ⟨w.heap.size, 0, none⟩ = some (.string ⟨#[115, 99, 97, 110, 110, 101, 114, 115]⟩) := hk4.cell 0
  have e1 : w1.cell? ⟨w.heap.size, 1, none⟩ = some (.string nm) := hk4.cell 1
  have v0 : w1.cell? ⟨w.heap.size + 1, 0, none⟩ = some (.map (some m1)) := hk5.cell 0
  have v1 : w1.cell? ⟨w.heap.size + 1, 1, none⟩ = some (.map (some m2)) := hk5.cell 1
  have z7 : w1.cell? ⟨bb, 7, none⟩ = some (.int .i64 s.e.scan) := hkb.cell 7
  have y7 : w1.frozen? ⟨bb, 7, none⟩ = false := hkb.frozen 7
  have z8 : w1.cell? ⟨bb, 8, none⟩ = some (.int .i64 s.e.batch) := hkb.cell 8
  have y8 : w1.frozen? ⟨bb, 8, none⟩ = false := hkb.frozen 8
  have HN := Lib.hid (hn.keep hbx)
  have HLI := Lib.hid (hli.keep hbx)
  have HLS := Lib.hid hls
  have HVD := Lib.hid hvd0
  have HW1 := Lib.hid hw1
  have HKB := Lib.hid hkb
  have HK4 := Lib.hid hk4
  have HK5 := Lib.hid hk5
  have HBX := Lib.hid hbx
  have HH := Lib.hid h
  have HL := Lib.hid hl
  have HVNv := Lib.hid hvn
  have HVDv := Lib.hid hvd
  have HSZ1 := Lib.hid hsz1
  clear hn hw1 hkb hbx h hl hk4 hk5 d1 d2 d3 hli hls hln hvn hvd hvd0 hsz1 
  show Calls _ _ #[.pointer (some ⟨bb, 0, none⟩), .agg #[.string ⟨#[115, 99, 97, 110, 110, 101, 114, 115]⟩, .string nm, .slice AF nF cF, .int .i64 line], .agg #[.map (some m1), .map (some m2), .map (some m3), .bool v.risk.neg, vNv, vDv, .string v.seed]] w _
  unfold kScanners at HW1
  go_enter Tryz.func97, Tryz.ntmps97
  go_upto_region 1 with (fail)
  rw [HW1.out]
  go_wp2_with (first | (at_lookup; refine wpList_lookup_hit rfl _ _ _ 3 rfl Tryz.underlying166 (.int .i64 0) rfl rfl HN.out kCount rfl (by decide) _ (ints_n v kCount) ?_) | (at_lookup; refine wpList_lookup_hit rfl _ _ _ 3 rfl Tryz.underlying166 (.int .i64 0) rfl rfl HN.out kBatch rfl (by decide) _ (ints_n v kBatch) ?_))
  go_end0
  have hw3 : Kept w1 ((w1.setCell ⟨bb, 7, none⟩ (.int .i64 (v.n kCount))).setCell ⟨bb, 8, none⟩ (.int .i64 (v.n kBatch))) τ (One .bb) := (Kept.of_set (T := One .bb) (τ := τ) _ (p := ⟨bb, 7, none⟩) (show One .bb (τ bb) from HH.out.tb) (.int .i64 (v.n kCount))).trans (Ext.refl _ _) (Kept.of_set (T := One .bb) (τ := τ) _ (p := ⟨bb, 8, none⟩) (show One .bb (τ bb) from HH.out.tb) (.int .i64 (v.n kBatch)))
  have h1 := HH.out.keep HBX.out (Ext.refl w τ)
  refine ⟨rfl, τ, Ext.refl _ _, ⟨⟨mn, f, vP, vC, vS, vN, vD, vV, rC, rS, rV, ?_⟩, HL.out⟩, (((HBX.out.mono hBw).setCell (p := ⟨bb, 7, none⟩) hBb _).setCell (p := ⟨bb, 8, none⟩) hBb _), (Kept.of_below HBX.out).trans (Ext.refl _ _) (hw3.weak fun t h => by rw [show t = .bb from h]; simp)⟩
  exact (h1.setE (e' := { s.e with scan := v.n kCount, batch := v.n kBatch }) hw3 (Ext.refl _ _) ((HKB.out.set_ 7 _).set_ 8 _) rfl rfl h1.dP h1.dN h1.dD).tag (T := NoTag) (Kept.of_below (Below.refl _ _)) (fun _ h => h.elim) (Ext.refl _ _) (Nat.le_succ _)

set_option maxRecDepth 20000 in
set_option maxHeartbeats 2000000 in
theorem store_precincts {w : World} {B bb mn N : Nat} {τ : Nat → Tag} {f : ByteArray → Option Value} {vP vC vS vN vD vV : Value} {rC : List (RawN 9)} {rS : List (RawN 3)} {rV : List (RawN 7)} {s : BldD} (h : BldIn w B bb mn N τ f vP vC vS vN vD vV rC rS rV s) (hl : s.vals.length = s.e.styl.length)
    (nm : ByteArray) (AF : Option Addr) (nF cF : Nat) (line : Int) {cs : List Value} {v : Vals} (hv : ValD w B τ cs v) (_hN : N < 1099511627776) :
    Calls Tryz.prog 97 #[.pointer (some ⟨bb, 0, none⟩), .agg #[.string kPrecincts, .string nm, .slice AF nF cF, .int .i64 line], .agg cs.toArray] w (RetSto w B bb (N + 1) τ (storeP kPrecincts nm v s)) := by
  have hvd0 := hv
  obtain ⟨m1, m2, m3, M, fl, vNv, vDv, rfl, d1, d2, d3, hn, hli, hls, hln, hvn, hvd⟩ := hv
  have hbx : Below w.heap.size w ((w.alloc (.cells #[.string kPrecincts, .string nm, .slice AF nF cF, .int .i64 line] 110)).alloc (.cells #[.map (some m1), .map (some m2), .map (some m3), .bool v.risk.neg, vNv, vDv, .string v.seed] 168)) := ((Below.refl _ _).alloc (Nat.le_refl _) _).alloc (by simp) _
  have hk4 : Blk ((w.alloc (.cells #[.string kPrecincts, .string nm, .slice AF nF cF, .int .i64 line] 110)).alloc (.cells #[.map (some m1), .map (some m2), .map (some m3), .bool v.risk.neg, vNv, vDv, .string v.seed] 168)) w.heap.size 110 #[.string kPrecincts, .string nm, .slice AF nF cF, .int .i64 line] := (Blk.new _ _ _).alloc _
  have hk5 : Blk ((w.alloc (.cells #[.string kPrecincts, .string nm, .slice AF nF cF, .int .i64 line] 110)).alloc (.cells #[.map (some m1), .map (some m2), .map (some m3), .bool v.risk.neg, vNv, vDv, .string v.seed] 168)) (w.heap.size + 1) 168 #[.map (some m1), .map (some m2), .map (some m3), .bool v.risk.neg, vNv, vDv, .string v.seed] := Blk.new' (by simp) _ _
  have hsz1 : ((w.alloc (.cells #[.string kPrecincts, .string nm, .slice AF nF cF, .int .i64 line] 110)).alloc (.cells #[.map (some m1), .map (some m2), .map (some m3), .bool v.risk.neg, vNv, vDv, .string v.seed] 168)).heap.size = w.heap.size + 2 := by simp
  obtain ⟨w1, hw1⟩ : ∃ x, (w.alloc (.cells #[.string kPrecincts, .string nm, .slice AF nF cF, .int .i64 line] 110)).alloc (.cells #[.map (some m1), .map (some m2), .map (some m3), .bool v.risk.neg, vNv, vDv, .string v.seed] 168) = x := ⟨_, rfl⟩
  rw [hw1] at hbx hk4 hk5 hsz1
  have hlt : bb < w.heap.size := h.blk.lt
  have hBw : B ≤ w.heap.size := Nat.le_of_lt (Nat.lt_of_le_of_lt h.hb hlt)
  have hBb : B ≤ bb := h.hb
  have hkb : Blk w1 bb 135 (bbCells s mn vP vC vS vN vD vV) := h.blk.keep hbx
  have e0 : w1.cell? ⟨w.heap.size, 0, none⟩ = some (.string ⟨#[112, 114, 101, 99, 105, 110, 99, 116, 115]⟩) := hk4.cell 0
  have e1 : w1.cell? ⟨w.heap.size, 1, none⟩ = some (.string nm) := hk4.cell 1
  have v0 : w1.cell? ⟨w.heap.size + 1, 0, none⟩ = some (.map (some m1)) := hk5.cell 0
  have v1 : w1.cell? ⟨w.heap.size + 1, 1, none⟩ = some (.map (some m2)) := hk5.cell 1
  have z4 : w1.cell? ⟨bb, 4, none⟩ = some (vP) := hkb.cell 4
  have y4 : w1.frozen? ⟨bb, 4, none⟩ = false := hkb.frozen 4
  have HN := Lib.hid (hn.keep hbx)
  have HLI := Lib.hid (hli.keep hbx)
  have HLS := Lib.hid hls
  have HVD := Lib.hid hvd0
  have HW1 := Lib.hid hw1
  have HKB := Lib.hid hkb
  have HK4 := Lib.hid hk4
  have HK5 := Lib.hid hk5
  have HBX := Lib.hid hbx
  have HH := Lib.hid h
  have HL := Lib.hid hl
  have HVNv := Lib.hid hvn
  have HVDv := Lib.hid hvd
  have HSZ1 := Lib.hid hsz1
  obtain ⟨AL, nL, cL, hfl, hrl⟩ := hls.at_ kNames
  have HFL := Lib.hid hfl
  have HRL := Lib.hid hrl
  clear hn hw1 hkb hbx h hl hk4 hk5 d1 d2 d3 hli hls hln hvn hvd hvd0 hsz1 hfl hrl
  show Calls _ _ #[.pointer (some ⟨bb, 0, none⟩), .agg #[.string ⟨#[112, 114, 101, 99, 105, 110, 99, 116, 115]⟩, .string nm, .slice AF nF cF, .int .i64 line], .agg #[.map (some m1), .map (some m2), .map (some m3), .bool v.risk.neg, vNv, vDv, .string v.seed]] w _
  unfold kPrecincts at HW1
  go_enter Tryz.func97, Tryz.ntmps97
  go_upto_region 1 with (fail)
  rw [HW1.out]
  go_wp2_with (at_lookup; refine wpList_lookup_hit rfl _ _ _ 22 rfl Tryz.underlying132 (.slice none 0 0) rfl rfl HLI.out kNames rfl (by decide) _ HFL.out ?_)
  go_end0
  have hw3 : Kept w1 (w1.setCell ⟨bb, 4, none⟩ (.slice AL nL cL)) τ (One .bb) := Kept.of_set (T := One .bb) (τ := τ) _ (p := ⟨bb, 4, none⟩) (show One .bb (τ bb) from HH.out.tb) _
  have h1 := HH.out.keep HBX.out (Ext.refl w τ)
  have hp : SlIs w1 (Dat w1 B τ) (.slice AL nL cL) (v.s kNames) := ⟨_, _, _, rfl, HRL.out.keep (Dat.mono HBX.out.size (Ext.refl _ _)) ((Kept.of_below (T := NoTag) (τ := τ) HBX.out).keeps (by simp [NoTag]))⟩
  refine ⟨rfl, τ, Ext.refl _ _, ⟨⟨mn, f, .slice AL nL cL, vC, vS, vN, vD, vV, rC, rS, rV, ?_⟩, HL.out⟩, (HBX.out.mono hBw).setCell (p := ⟨bb, 4, none⟩) hBb _, (Kept.of_below HBX.out).trans (Ext.refl _ _) (hw3.weak fun t h => by rw [show t = .bb from h]; simp)⟩
  exact (h1.setE (e' := { s.e with prec := v.s kNames }) hw3 (Ext.refl _ _) (HKB.out.set_ 4 _) rfl rfl hp h1.dN h1.dD).tag (T := NoTag) (Kept.of_below (Below.refl _ _)) (fun _ h => h.elim) (Ext.refl _ _) (Nat.le_succ _)

set_option maxRecDepth 20000 in
set_option maxHeartbeats 2000000 in
theorem store_privacy {w : World} {B bb mn N : Nat} {τ : Nat → Tag} {f : ByteArray → Option Value} {vP vC vS vN vD vV : Value} {rC : List (RawN 9)} {rS : List (RawN 3)} {rV : List (RawN 7)} {s : BldD} (h : BldIn w B bb mn N τ f vP vC vS vN vD vV rC rS rV s) (hl : s.vals.length = s.e.styl.length)
    (nm : ByteArray) (AF : Option Addr) (nF cF : Nat) (line : Int) {cs : List Value} {v : Vals} (hv : ValD w B τ cs v) (_hN : N < 1099511627776) :
    Calls Tryz.prog 97 #[.pointer (some ⟨bb, 0, none⟩), .agg #[.string kPrivacy, .string nm, .slice AF nF cF, .int .i64 line], .agg cs.toArray] w (RetSto w B bb (N + 1) τ (storeP kPrivacy nm v s)) := by
  have hvd0 := hv
  obtain ⟨m1, m2, m3, M, fl, vNv, vDv, rfl, d1, d2, d3, hn, hli, hls, hln, hvn, hvd⟩ := hv
  have hbx : Below w.heap.size w ((w.alloc (.cells #[.string kPrivacy, .string nm, .slice AF nF cF, .int .i64 line] 110)).alloc (.cells #[.map (some m1), .map (some m2), .map (some m3), .bool v.risk.neg, vNv, vDv, .string v.seed] 168)) := ((Below.refl _ _).alloc (Nat.le_refl _) _).alloc (by simp) _
  have hk4 : Blk ((w.alloc (.cells #[.string kPrivacy, .string nm, .slice AF nF cF, .int .i64 line] 110)).alloc (.cells #[.map (some m1), .map (some m2), .map (some m3), .bool v.risk.neg, vNv, vDv, .string v.seed] 168)) w.heap.size 110 #[.string kPrivacy, .string nm, .slice AF nF cF, .int .i64 line] := (Blk.new _ _ _).alloc _
  have hk5 : Blk ((w.alloc (.cells #[.string kPrivacy, .string nm, .slice AF nF cF, .int .i64 line] 110)).alloc (.cells #[.map (some m1), .map (some m2), .map (some m3), .bool v.risk.neg, vNv, vDv, .string v.seed] 168)) (w.heap.size + 1) 168 #[.map (some m1), .map (some m2), .map (some m3), .bool v.risk.neg, vNv, vDv, .string v.seed] := Blk.new' (by simp) _ _
  have hsz1 : ((w.alloc (.cells #[.string kPrivacy, .string nm, .slice AF nF cF, .int .i64 line] 110)).alloc (.cells #[.map (some m1), .map (some m2), .map (some m3), .bool v.risk.neg, vNv, vDv, .string v.seed] 168)).heap.size = w.heap.size + 2 := by simp
  obtain ⟨w1, hw1⟩ : ∃ x, (w.alloc (.cells #[.string kPrivacy, .string nm, .slice AF nF cF, .int .i64 line] 110)).alloc (.cells #[.map (some m1), .map (some m2), .map (some m3), .bool v.risk.neg, vNv, vDv, .string v.seed] 168) = x := ⟨_, rfl⟩
  rw [hw1] at hbx hk4 hk5 hsz1
  have hlt : bb < w.heap.size := h.blk.lt
  have hBw : B ≤ w.heap.size := Nat.le_of_lt (Nat.lt_of_le_of_lt h.hb hlt)
  have hBb : B ≤ bb := h.hb
  have hkb : Blk w1 bb 135 (bbCells s mn vP vC vS vN vD vV) := h.blk.keep hbx
  have e0 : w1.cell? ⟨w.heap.size, 0, none⟩ = some (.string ⟨#[112, 114, 105, 118, 97, 99, 121]⟩) := hk4.cell 0
  have e1 : w1.cell? ⟨w.heap.size, 1, none⟩ = some (.string nm) := hk4.cell 1
  have v0 : w1.cell? ⟨w.heap.size + 1, 0, none⟩ = some (.map (some m1)) := hk5.cell 0
  have v1 : w1.cell? ⟨w.heap.size + 1, 1, none⟩ = some (.map (some m2)) := hk5.cell 1
  have z12 : w1.cell? ⟨bb, 12, none⟩ = some (.int .i64 s.e.cell) := hkb.cell 12
  have y12 : w1.frozen? ⟨bb, 12, none⟩ = false := hkb.frozen 12
  have HN := Lib.hid (hn.keep hbx)
  have HLI := Lib.hid (hli.keep hbx)
  have HLS := Lib.hid hls
  have HVD := Lib.hid hvd0
  have HW1 := Lib.hid hw1
  have HKB := Lib.hid hkb
  have HK4 := Lib.hid hk4
  have HK5 := Lib.hid hk5
  have HBX := Lib.hid hbx
  have HH := Lib.hid h
  have HL := Lib.hid hl
  have HVNv := Lib.hid hvn
  have HVDv := Lib.hid hvd
  have HSZ1 := Lib.hid hsz1
  clear hn hw1 hkb hbx h hl hk4 hk5 d1 d2 d3 hli hls hln hvn hvd hvd0 hsz1 
  show Calls _ _ #[.pointer (some ⟨bb, 0, none⟩), .agg #[.string ⟨#[112, 114, 105, 118, 97, 99, 121]⟩, .string nm, .slice AF nF cF, .int .i64 line], .agg #[.map (some m1), .map (some m2), .map (some m3), .bool v.risk.neg, vNv, vDv, .string v.seed]] w _
  unfold kPrivacy at HW1
  go_enter Tryz.func97, Tryz.ntmps97
  go_upto_region 1 with (fail)
  rw [HW1.out]
  go_wp2_with (first | (at_lookup; refine wpList_lookup_hit rfl _ _ _ 3 rfl Tryz.underlying166 (.int .i64 0) rfl rfl HN.out kCell rfl (by decide) _ (ints_n v kCell) ?_))
  go_end0
  have hw3 : Kept w1 (w1.setCell ⟨bb, 12, none⟩ (.int .i64 (v.n kCell))) τ (One .bb) := Kept.of_set (T := One .bb) (τ := τ) _ (p := ⟨bb, 12, none⟩) (show One .bb (τ bb) from HH.out.tb) (.int .i64 (v.n kCell))
  have h1 := HH.out.keep HBX.out (Ext.refl w τ)
  refine ⟨rfl, τ, Ext.refl _ _, ⟨⟨mn, f, vP, vC, vS, vN, vD, vV, rC, rS, rV, ?_⟩, HL.out⟩, ((HBX.out.mono hBw).setCell (p := ⟨bb, 12, none⟩) hBb _), (Kept.of_below HBX.out).trans (Ext.refl _ _) (hw3.weak fun t h => by rw [show t = .bb from h]; simp)⟩
  exact (h1.setE (e' := { s.e with cell := v.n kCell }) hw3 (Ext.refl _ _) (HKB.out.set_ 12 _) rfl rfl h1.dP h1.dN h1.dD).tag (T := NoTag) (Kept.of_below (Below.refl _ _)) (fun _ h => h.elim) (Ext.refl _ _) (Nat.le_succ _)

end Go.Proofs.YtjlhbfbdcfajfaaGreatDoor
