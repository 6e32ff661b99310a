/- What comes in, of a bulk that is bounded: an argument that reads as data of a Go type reads as Lean data of at most that bulk. PRINTED by wip/gen/open.py -/
import Derived.Test.YtjlhbfbdcfajfaaGreatDoorRows
import Derived.Test.YtjlhbfbdcfajfaaGreatDoorG31
import Derived.Test.YtjlhbfbdcfajfaaGreatDoorG28
import Derived.Test.YtjlhbfbdcfajfaaGreatDoorG29
namespace Go.Proofs.YtjlhbfbdcfajfaaGreatDoor
open Go.RowKit Go.ChangeShapes Go.WideShapes Go.Deep

/-- how much there is -/
class Bulk (α : Type) where
  bulk : α → Nat
  pos : ∀ a, 1 ≤ bulk a
instance : Bulk Int := ⟨fun _ => 1, fun _ => Nat.le_refl _⟩
instance : Bulk Bool := ⟨fun _ => 1, fun _ => Nat.le_refl _⟩
instance : Bulk UInt8 := ⟨fun _ => 1, fun _ => Nat.le_refl _⟩
instance : Bulk (BitVec 32) := ⟨fun _ => 1, fun _ => Nat.le_refl _⟩
instance : Bulk ByteArray := ⟨fun s => s.size + 1, fun _ => Nat.le_add_left _ _⟩
def bulkAll {α : Type} [Bulk α] (l : List α) : Nat := (l.map Bulk.bulk).sum
instance {α : Type} [Bulk α] : Bulk (List α) := ⟨fun l => bulkAll l + 1, fun _ => Nat.le_add_left _ _⟩
instance : Fits (BitVec 32) := ⟨fun _ => True⟩
theorem bulkAll_len {α : Type} [Bulk α] (l : List α) : l.length ≤ bulkAll l := by
  induction l with
  | nil => exact Nat.le_refl _
  | cons a l ih =>
    have := Bulk.pos a
    show l.length + 1 ≤ Bulk.bulk a + bulkAll l
    omega
theorem bulkAll_mem {α : Type} [Bulk α] {l : List α} {a : α} (h : a ∈ l) : Bulk.bulk a ≤ bulkAll l := by
  induction l with
  | nil => cases h
  | cons b l ih =>
    show _ ≤ Bulk.bulk b + bulkAll l
    rcases List.mem_cons.1 h with rfl | h
    · omega
    · have := ih h; omega

/-- cells of type t that read as data read as an α of at most its bulk -/
def OpensB (P : Program) (t : TypeId) (α : Type) [Rep α] [Fits α] [Bulk α] : Prop :=
  ∀ (H : Type) (enc : TypeId × Value → H) (w : World) (base : Nat) (spare : Nat → Bool) (held : Bool) (fuel : Nat) (cs : List Value) (x : DataW H × List MemPlace),
    DataW.trod enc P w base spare held fuel t cs = some x → ∃ a : α, Rep.rep w (fun b => b < w.heap.size) cs a ∧ Fits.fits a ∧ Bulk.bulk a ≤ Rows.uptoBulk x.1

theorem opensB_int {P : Program} {t : TypeId} (ht : P.underlying t = some (.int .i64)) : OpensB P t Int := by
  intro H enc w base spare held fuel cs x h
  obtain ⟨n, rfl, rfl, hw⟩ := DataW.trod_int ht h
  have hw' : -9223372036854775808 ≤ n ∧ n ≤ 9223372036854775807 := by simpa [Lit.wf, IntKind.min, IntKind.max, IntKind.signed, IntKind.bits] using hw
  exact ⟨n, rfl, hw', by simp [Rows.uptoBulk, Bulk.bulk]⟩
theorem opensB_bool {P : Program} {t : TypeId} (ht : P.underlying t = some .bool) : OpensB P t Bool := by
  intro H enc w base spare held fuel cs x h
  obtain ⟨n, rfl, rfl⟩ := DataW.trod_bool ht h
  exact ⟨n, rfl, trivial, by simp [Rows.uptoBulk, Bulk.bulk]⟩
theorem opensB_string {P : Program} {t : TypeId} (ht : P.underlying t = some .string) : OpensB P t ByteArray := by
  intro H enc w base spare held fuel cs x h
  obtain ⟨s, rfl, rfl, hs⟩ := DataW.trod_string ht h
  exact ⟨s, rfl, by unfold maxLen at hs; exact hs, by simp [Rows.uptoBulk, Bulk.bulk]⟩
theorem opensB_byte {P : Program} {t : TypeId} (ht : P.underlying t = some (.int .u8)) : OpensB P t UInt8 := by
  intro H enc w base spare held fuel cs x h
  obtain ⟨n, rfl, rfl, hw⟩ := DataW.trod_int ht h
  have hb : 0 ≤ n ∧ n ≤ 255 := by simpa [Lit.wf, IntKind.min, IntKind.max, IntKind.signed, IntKind.bits] using hw
  refine ⟨UInt8.ofNat n.toNat, ?_, trivial, by simp [Rows.uptoBulk, Bulk.bulk]⟩
  show [Value.int .u8 n] = [Value.int .u8 ((UInt8.ofNat n.toNat).toNat : Int)]
  rw [UInt8.toNat_ofNat']
  congr 2
  omega
theorem opensB_limb {P : Program} {t : TypeId} (ht : P.underlying t = some (.int .u32)) : OpensB P t (BitVec 32) := by
  intro H enc w base spare held fuel cs x h
  obtain ⟨n, rfl, rfl, hw⟩ := DataW.trod_int ht h
  have hb : 0 ≤ n ∧ n ≤ 4294967295 := by simpa [Lit.wf, IntKind.min, IntKind.max, IntKind.signed, IntKind.bits] using hw
  refine ⟨BitVec.ofNat 32 n.toNat, ?_, trivial, by simp [Rows.uptoBulk, Bulk.bulk]⟩
  show [Value.int .u32 n] = [Value.int .u32 ((BitVec.ofNat 32 n.toNat).toNat : Int)]
  rw [BitVec.toNat_ofNat]
  congr 2
  omega
theorem bulkAll_ge {α H : Type} [Bulk α] : ∀ (n : Nat) (l : List α) (D : Nat → DataW H), l.length = n → (∀ i a, l[i]? = some a → Bulk.bulk a ≤ Rows.uptoBulk (D i)) → bulkAll l ≤ Rows.uptoBulkAll ((List.range n).map D)
  | 0, l, D, hl, _ => by
    have := List.eq_nil_of_length_eq_zero hl
    subst this
    exact Nat.zero_le _
  | n + 1, l, D, hl, h => by
    cases l with
    | nil => cases hl
    | cons a l =>
      rw [List.range_succ_eq_map, List.map_cons, List.map_map]
      show Bulk.bulk a + bulkAll l ≤ Rows.uptoBulk (D 0) + Rows.uptoBulkAll ((List.range n).map (D ∘ Nat.succ))
      have h1 := h 0 a rfl
      have h2 := bulkAll_ge n l (D ∘ Nat.succ) (by simpa using hl) (fun i b hb => h (i + 1) b (by simpa using hb))
      omega

theorem opensB_slice {P : Program} {t e : TypeId} {α : Type} [Rep α] [Fits α] [Bulk α] (ht : P.underlying t = some (.slice e)) (hsz : P.cellsOf e = Rep.sz α) (hp : 0 < Rep.sz α) (he : OpensB P e α) : OpensB P t (List α) := by
  intro H enc w base spare held fuel cs x h
  rcases open_slice ht h with ⟨rfl, rfl⟩ | ⟨a, len, cap, m, n, D, Pl, rfl, _, hl, hm, hmm, rfl, hi⟩
  · exact ⟨[], ⟨none, 0, 0, rfl, RS.nil _ _⟩, ⟨Nat.zero_le _, fun x hx => by simp at hx⟩, by simp [Rows.uptoBulk, Bulk.bulk, bulkAll]⟩
  · have hlm : len ≤ m := by rw [hmm]; split <;> omega
    obtain ⟨l, hlen, hl2⟩ := exists_list (α := α) len (fun i x => (∃ cs, Rep.rep w (fun b => b < w.heap.size) cs x ∧ CellsAt w (a.add (i * Rep.sz α)) cs ∧ Fits.fits x) ∧ Bulk.bulk x ≤ Rows.uptoBulk (D i)) (fun i hil => by
      obtain ⟨cs', hc, ht'⟩ := hi i (by omega)
      obtain ⟨x, hx, hf, hbk⟩ := he H enc w base spare held n cs' _ ht'
      rw [hsz] at hc
      obtain ⟨_, hcl, hat⟩ := World.cells?_some hc
      refine ⟨x, ⟨cs', hx, fun j u hj => ?_, hf⟩, hbk⟩
      have hjl : j < Rep.sz α := by
        have := lt_of_get hj
        omega
      rw [hat j hjl]
      exact hj)
    refine ⟨l, ⟨some a, len, cap, rfl, hlen.symm, hl, hm, fun hn => ?_⟩, ⟨by unfold maxLen at hm; omega, fun x hx => ?_⟩, ?_⟩
    · obtain ⟨x0, hx0⟩ : ∃ x0, l[0]? = some x0 := ⟨l[0]'(by omega), List.getElem?_eq_getElem (by omega)⟩
      obtain ⟨⟨cs0, hr0, hc0, _⟩, _⟩ := hl2 0 x0 hx0
      have hlen0 := Rep.len hr0
      obtain ⟨u, hu⟩ : ∃ u, cs0[0]? = some u := ⟨cs0[0]'(by omega), List.getElem?_eq_getElem (by omega)⟩
      have hcell := hc0 0 u hu
      have hcell' : w.cell? a = some u := by simpa [Addr.add] using hcell
      have hs := spot_none hcell'
      have hb := World.block_lt_of_cell? w _ hcell'
      obtain ⟨b, o, s⟩ := a
      simp at hs
      subst hs
      exact ⟨b, o, rfl, hb, fun i x hx => by obtain ⟨⟨cs, h1, h2, _⟩, _⟩ := hl2 i x hx; exact ⟨cs, h1, h2⟩⟩
    · obtain ⟨i, hil, rfl⟩ := List.getElem_of_mem hx
      obtain ⟨⟨cs, _, _, hf⟩, _⟩ := hl2 i _ (List.getElem?_eq_getElem hil)
      exact hf
    · have := bulkAll_ge (H := H) len l D hlen (fun i a ha => (hl2 i a ha).2)
      show bulkAll l + 1 ≤ Rows.uptoBulkAll ((List.range len).map D) + Rows.uptoBulkAll _ + 1
      omega

theorem trod_at {P : Program} {H : Type} {enc : TypeId × Value → H} {w : World} {base : Nat} {spare : Nat → Bool} {held : Bool} {n : Nat} {fs : Array Field} {cs : List Value} {xs : List (DataW H × List MemPlace)}
    (hf : ∀ (i : Nat) (f : Field), fs[i]? = some f → DataW.trod enc P w base spare held n f.type ((cs.drop f.offset).take (P.cellsOf f.type)) = xs[i]?) (i : Nat) {f : Field} (hi : fs[i]? = some f) (k m : Nat) (ho : f.offset = k) (hc : P.cellsOf f.type = m)
    (l : List Value) (hl : (cs.drop k).take m = l) (y : DataW H × List MemPlace) (hy : xs[i]? = some y) : DataW.trod enc P w base spare held n f.type l = some y := by
  have h := hf i f hi
  rw [ho, hc, hl, hy] at h
  exact h
theorem unconsA {α : Type} {n : Nat} {l : List α} (h : l.length = n + 1) : ∃ v m, l = v :: m ∧ m.length = n := by
  cases l with
  | nil => cases h
  | cons v m => exact ⟨v, m, rfl, by simpa using h⟩
theorem Tryz.opbInt : OpensB Tryz.prog 3 Int := opensB_int Tryz.underlying3
theorem Tryz.opbBool : OpensB Tryz.prog 4 Bool := opensB_bool Tryz.underlying4
theorem Tryz.opbStr : OpensB Tryz.prog 9 ByteArray := opensB_string Tryz.underlying9
theorem Tryz.opbLimb : OpensB Tryz.prog 98 (BitVec 32) := opensB_limb Tryz.underlying98
theorem Tryz.opbInts : OpensB Tryz.prog 84 (List Int) := opensB_slice Tryz.underlying84 (by kernel_rfl) (by show 0 < 1; omega) Tryz.opbInt
theorem Tryz.opbStrs : OpensB Tryz.prog 22 (List ByteArray) := opensB_slice Tryz.underlying22 (by kernel_rfl) (by show 0 < 1; omega) Tryz.opbStr
theorem Tryz.opbNat : OpensB Tryz.prog 26 (List (BitVec 32)) := opensB_slice Tryz.underlying26 (by kernel_rfl) (by show 0 < 1; omega) Tryz.opbLimb

instance : Fits Raw := ⟨fun x => Fits.fits x.neg ∧ Fits.fits x.num ∧ Fits.fits x.den⟩
instance : Bulk Raw := ⟨fun x => Bulk.bulk x.neg + Bulk.bulk x.num + Bulk.bulk x.den + 1, fun _ => Nat.le_add_left _ _⟩
theorem Tryz.opbRisk : OpensB Tryz.prog 28 Raw := by
  intro H enc w base spare held fuel cs x h
  obtain ⟨xs, n, _, rfl, hl, hxl, hf⟩ := DataW.trod_struct Tryz.underlying28 h
  have hC : Tryz.prog.cellsOf 28 = 3 := by kernel_rfl
  have hX0 : xs.length = 3 := hxl
  have hY0 : cs.length = 3 := hl.trans hC
  clear hxl hl hC
  obtain ⟨c0, cs, rfl, hY1⟩ := unconsA hY0
  obtain ⟨c1, cs, rfl, hY2⟩ := unconsA hY1
  obtain ⟨c2, cs, rfl, hY3⟩ := unconsA hY2
  obtain rfl := List.eq_nil_of_length_eq_zero hY3
  obtain ⟨y0, xs, rfl, hX1⟩ := unconsA hX0
  obtain ⟨y1, xs, rfl, hX2⟩ := unconsA hX1
  obtain ⟨y2, xs, rfl, hX3⟩ := unconsA hX2
  obtain rfl := List.eq_nil_of_length_eq_zero hX3
  have h0a := trod_at hf 0 rfl 0 1 rfl (by kernel_rfl) [c0] rfl y0 rfl
  obtain ⟨x0, e0, f0, b0⟩ := Tryz.opbBool _ _ _ _ _ _ _ _ _ h0a
  obtain rfl : c0 = .bool x0 := by injection e0
  have h1a := trod_at hf 1 rfl 1 1 rfl (by kernel_rfl) [c1] rfl y1 rfl
  obtain ⟨x1, ⟨A1, n1, k1, e1, r1⟩, f1, b1⟩ := Tryz.opbNat _ _ _ _ _ _ _ _ _ h1a
  obtain rfl : c1 = .slice A1 n1 k1 := by injection e1
  have h2a := trod_at hf 2 rfl 2 1 rfl (by kernel_rfl) [c2] rfl y2 rfl
  obtain ⟨x2, ⟨A2, n2, k2, e2, r2⟩, f2, b2⟩ := Tryz.opbNat _ _ _ _ _ _ _ _ _ h2a
  obtain rfl : c2 = .slice A2 n2 k2 := by injection e2
  refine ⟨⟨x0, x1, x2⟩, ⟨A1, n1, k1, A2, n2, k2, rfl, r1, r2⟩, ⟨f0, f1, f2⟩, ?_⟩
  show Bulk.bulk x0 + Bulk.bulk x1 + Bulk.bulk x2 + 1 ≤ Rows.uptoBulkAll [y0.1, y1.1, y2.1] + 1
  simp only [Rows.uptoBulkAll]
  omega
instance : Fits ContestD := ⟨fun x => Fits.fits x.name ∧ Fits.fits x.cands ∧ Fits.fits x.method ∧ Fits.fits x.seats ∧ Fits.fits x.ranks ∧ Fits.fits x.digits ∧ Fits.fits x.ties ∧ Fits.fits x.over ∧ Fits.fits x.skip⟩
instance : Bulk ContestD := ⟨fun x => Bulk.bulk x.name + Bulk.bulk x.cands + Bulk.bulk x.method + Bulk.bulk x.seats + Bulk.bulk x.ranks + Bulk.bulk x.digits + Bulk.bulk x.ties + Bulk.bulk x.over + Bulk.bulk x.skip + 1, fun _ => Nat.le_add_left _ _⟩
theorem Tryz.opbCont : OpensB Tryz.prog 95 ContestD := by
  intro H enc w base spare held fuel cs x h
  obtain ⟨xs, n, _, rfl, hl, hxl, hf⟩ := DataW.trod_struct Tryz.underlying95 h
  have hC : Tryz.prog.cellsOf 95 = 9 := by kernel_rfl
  have hX0 : xs.length = 9 := hxl
  have hY0 : cs.length = 9 := hl.trans hC
  clear hxl hl hC
  obtain ⟨c0, cs, rfl, hY1⟩ := unconsA hY0
  obtain ⟨c1, cs, rfl, hY2⟩ := unconsA hY1
  obtain ⟨c2, cs, rfl, hY3⟩ := unconsA hY2
  obtain ⟨c3, cs, rfl, hY4⟩ := unconsA hY3
  obtain ⟨c4, cs, rfl, hY5⟩ := unconsA hY4
  obtain ⟨c5, cs, rfl, hY6⟩ := unconsA hY5
  obtain ⟨c6, cs, rfl, hY7⟩ := unconsA hY6
  obtain ⟨c7, cs, rfl, hY8⟩ := unconsA hY7
  obtain ⟨c8, cs, rfl, hY9⟩ := unconsA hY8
  obtain rfl := List.eq_nil_of_length_eq_zero hY9
  obtain ⟨y0, xs, rfl, hX1⟩ := unconsA hX0
  obtain ⟨y1, xs, rfl, hX2⟩ := unconsA hX1
  obtain ⟨y2, xs, rfl, hX3⟩ := unconsA hX2
  obtain ⟨y3, xs, rfl, hX4⟩ := unconsA hX3
  obtain ⟨y4, xs, rfl, hX5⟩ := unconsA hX4
  obtain ⟨y5, xs, rfl, hX6⟩ := unconsA hX5
  obtain ⟨y6, xs, rfl, hX7⟩ := unconsA hX6
  obtain ⟨y7, xs, rfl, hX8⟩ := unconsA hX7
  obtain ⟨y8, xs, rfl, hX9⟩ := unconsA hX8
  obtain rfl := List.eq_nil_of_length_eq_zero hX9
  have h0a := trod_at hf 0 rfl 0 1 rfl (by kernel_rfl) [c0] rfl y0 rfl
  obtain ⟨x0, e0, f0, b0⟩ := Tryz.opbStr _ _ _ _ _ _ _ _ _ h0a
  obtain rfl : c0 = .string x0 := by injection e0
  have h1a := trod_at hf 1 rfl 1 1 rfl (by kernel_rfl) [c1] rfl y1 rfl
  obtain ⟨x1, ⟨A1, n1, k1, e1, r1⟩, f1, b1⟩ := Tryz.opbStrs _ _ _ _ _ _ _ _ _ h1a
  obtain rfl : c1 = .slice A1 n1 k1 := by injection e1
  have h2a := trod_at hf 2 rfl 2 1 rfl (by kernel_rfl) [c2] rfl y2 rfl
  obtain ⟨x2, e2, f2, b2⟩ := Tryz.opbInt _ _ _ _ _ _ _ _ _ h2a
  obtain rfl : c2 = .int .i64 x2 := by injection e2
  have h3a := trod_at hf 3 rfl 3 1 rfl (by kernel_rfl) [c3] rfl y3 rfl
  obtain ⟨x3, e3, f3, b3⟩ := Tryz.opbInt _ _ _ _ _ _ _ _ _ h3a
  obtain rfl : c3 = .int .i64 x3 := by injection e3
  have h4a := trod_at hf 4 rfl 4 1 rfl (by kernel_rfl) [c4] rfl y4 rfl
  obtain ⟨x4, e4, f4, b4⟩ := Tryz.opbInt _ _ _ _ _ _ _ _ _ h4a
  obtain rfl : c4 = .int .i64 x4 := by injection e4
  have h5a := trod_at hf 5 rfl 5 1 rfl (by kernel_rfl) [c5] rfl y5 rfl
  obtain ⟨x5, e5, f5, b5⟩ := Tryz.opbInt _ _ _ _ _ _ _ _ _ h5a
  obtain rfl : c5 = .int .i64 x5 := by injection e5
  have h6a := trod_at hf 6 rfl 6 1 rfl (by kernel_rfl) [c6] rfl y6 rfl
  obtain ⟨x6, e6, f6, b6⟩ := Tryz.opbInt _ _ _ _ _ _ _ _ _ h6a
  obtain rfl : c6 = .int .i64 x6 := by injection e6
  have h7a := trod_at hf 7 rfl 7 1 rfl (by kernel_rfl) [c7] rfl y7 rfl
  obtain ⟨x7, e7, f7, b7⟩ := Tryz.opbInt _ _ _ _ _ _ _ _ _ h7a
  obtain rfl : c7 = .int .i64 x7 := by injection e7
  have h8a := trod_at hf 8 rfl 8 1 rfl (by kernel_rfl) [c8] rfl y8 rfl
  obtain ⟨x8, e8, f8, b8⟩ := Tryz.opbInt _ _ _ _ _ _ _ _ _ h8a
  obtain rfl : c8 = .int .i64 x8 := by injection e8
  refine ⟨⟨x0, x1, x2, x3, x4, x5, x6, x7, x8⟩, ⟨A1, n1, k1, rfl, r1⟩, ⟨f0, f1, f2, f3, f4, f5, f6, f7, f8⟩, ?_⟩
  show Bulk.bulk x0 + Bulk.bulk x1 + Bulk.bulk x2 + Bulk.bulk x3 + Bulk.bulk x4 + Bulk.bulk x5 + Bulk.bulk x6 + Bulk.bulk x7 + Bulk.bulk x8 + 1 ≤ Rows.uptoBulkAll [y0.1, y1.1, y2.1, y3.1, y4.1, y5.1, y6.1, y7.1, y8.1] + 1
  simp only [Rows.uptoBulkAll]
  omega
instance : Fits StyleD := ⟨fun x => Fits.fits x.name ∧ Fits.fits x.prec ∧ Fits.fits x.cont⟩
instance : Bulk StyleD := ⟨fun x => Bulk.bulk x.name + Bulk.bulk x.prec + Bulk.bulk x.cont + 1, fun _ => Nat.le_add_left _ _⟩
theorem Tryz.opbStyl : OpensB Tryz.prog 97 StyleD := by
  intro H enc w base spare held fuel cs x h
  obtain ⟨xs, n, _, rfl, hl, hxl, hf⟩ := DataW.trod_struct Tryz.underlying97 h
  have hC : Tryz.prog.cellsOf 97 = 3 := by kernel_rfl
  have hX0 : xs.length = 3 := hxl
  have hY0 : cs.length = 3 := hl.trans hC
  clear hxl hl hC
  obtain ⟨c0, cs, rfl, hY1⟩ := unconsA hY0
  obtain ⟨c1, cs, rfl, hY2⟩ := unconsA hY1
  obtain ⟨c2, cs, rfl, hY3⟩ := unconsA hY2
  obtain rfl := List.eq_nil_of_length_eq_zero hY3
  obtain ⟨y0, xs, rfl, hX1⟩ := unconsA hX0
  obtain ⟨y1, xs, rfl, hX2⟩ := unconsA hX1
  obtain ⟨y2, xs, rfl, hX3⟩ := unconsA hX2
  obtain rfl := List.eq_nil_of_length_eq_zero hX3
  have h0a := trod_at hf 0 rfl 0 1 rfl (by kernel_rfl) [c0] rfl y0 rfl
  obtain ⟨x0, e0, f0, b0⟩ := Tryz.opbStr _ _ _ _ _ _ _ _ _ h0a
  obtain rfl : c0 = .string x0 := by injection e0
  have h1a := trod_at hf 1 rfl 1 1 rfl (by kernel_rfl) [c1] rfl y1 rfl
  obtain ⟨x1, ⟨A1, n1, k1, e1, r1⟩, f1, b1⟩ := Tryz.opbInts _ _ _ _ _ _ _ _ _ h1a
  obtain rfl : c1 = .slice A1 n1 k1 := by injection e1
  have h2a := trod_at hf 2 rfl 2 1 rfl (by kernel_rfl) [c2] rfl y2 rfl
  obtain ⟨x2, ⟨A2, n2, k2, e2, r2⟩, f2, b2⟩ := Tryz.opbInts _ _ _ _ _ _ _ _ _ h2a
  obtain rfl : c2 = .slice A2 n2 k2 := by injection e2
  refine ⟨⟨x0, x1, x2⟩, ⟨A1, n1, k1, A2, n2, k2, rfl, r1, r2⟩, ⟨f0, f1, f2⟩, ?_⟩
  show Bulk.bulk x0 + Bulk.bulk x1 + Bulk.bulk x2 + 1 ≤ Rows.uptoBulkAll [y0.1, y1.1, y2.1] + 1
  simp only [Rows.uptoBulkAll]
  omega
theorem Tryz.opbConts : OpensB Tryz.prog 23 (List ContestD) := opensB_slice Tryz.underlying23 (by kernel_rfl) (by show 0 < 9; omega) Tryz.opbCont
theorem Tryz.opbStyls : OpensB Tryz.prog 24 (List StyleD) := opensB_slice Tryz.underlying24 (by kernel_rfl) (by show 0 < 3; omega) Tryz.opbStyl
instance : Fits ElectionD := ⟨fun x => Fits.fits x.title ∧ Fits.fits x.dots ∧ Fits.fits x.blank ∧ Fits.fits x.marked ∧ Fits.fits x.prec ∧ Fits.fits x.cont ∧ Fits.fits x.styl ∧ Fits.fits x.scan ∧ Fits.fits x.batch ∧ Fits.fits x.risk ∧ Fits.fits x.cell ∧ Fits.fits x.seed⟩
instance : Bulk ElectionD := ⟨fun x => Bulk.bulk x.title + Bulk.bulk x.dots + Bulk.bulk x.blank + Bulk.bulk x.marked + Bulk.bulk x.prec + Bulk.bulk x.cont + Bulk.bulk x.styl + Bulk.bulk x.scan + Bulk.bulk x.batch + Bulk.bulk x.risk + Bulk.bulk x.cell + Bulk.bulk x.seed + 1, fun _ => Nat.le_add_left _ _⟩
theorem Tryz.opbElec : OpensB Tryz.prog 30 ElectionD := by
  intro H enc w base spare held fuel cs x h
  obtain ⟨xs, n, _, rfl, hl, hxl, hf⟩ := DataW.trod_struct Tryz.underlying30 h
  have hC : Tryz.prog.cellsOf 30 = 14 := by kernel_rfl
  have hX0 : xs.length = 12 := hxl
  have hY0 : cs.length = 14 := hl.trans hC
  clear hxl hl hC
  obtain ⟨c0, cs, rfl, hY1⟩ := unconsA hY0
  obtain ⟨c1, cs, rfl, hY2⟩ := unconsA hY1
  obtain ⟨c2, cs, rfl, hY3⟩ := unconsA hY2
  obtain ⟨c3, cs, rfl, hY4⟩ := unconsA hY3
  obtain ⟨c4, cs, rfl, hY5⟩ := unconsA hY4
  obtain ⟨c5, cs, rfl, hY6⟩ := unconsA hY5
  obtain ⟨c6, cs, rfl, hY7⟩ := unconsA hY6
  obtain ⟨c7, cs, rfl, hY8⟩ := unconsA hY7
  obtain ⟨c8, cs, rfl, hY9⟩ := unconsA hY8
  obtain ⟨c9, cs, rfl, hY10⟩ := unconsA hY9
  obtain ⟨c10, cs, rfl, hY11⟩ := unconsA hY10
  obtain ⟨c11, cs, rfl, hY12⟩ := unconsA hY11
  obtain ⟨c12, cs, rfl, hY13⟩ := unconsA hY12
  obtain ⟨c13, cs, rfl, hY14⟩ := unconsA hY13
  obtain rfl := List.eq_nil_of_length_eq_zero hY14
  obtain ⟨y0, xs, rfl, hX1⟩ := unconsA hX0
  obtain ⟨y1, xs, rfl, hX2⟩ := unconsA hX1
  obtain ⟨y2, xs, rfl, hX3⟩ := unconsA hX2
  obtain ⟨y3, xs, rfl, hX4⟩ := unconsA hX3
  obtain ⟨y4, xs, rfl, hX5⟩ := unconsA hX4
  obtain ⟨y5, xs, rfl, hX6⟩ := unconsA hX5
  obtain ⟨y6, xs, rfl, hX7⟩ := unconsA hX6
  obtain ⟨y7, xs, rfl, hX8⟩ := unconsA hX7
  obtain ⟨y8, xs, rfl, hX9⟩ := unconsA hX8
  obtain ⟨y9, xs, rfl, hX10⟩ := unconsA hX9
  obtain ⟨y10, xs, rfl, hX11⟩ := unconsA hX10
  obtain ⟨y11, xs, rfl, hX12⟩ := unconsA hX11
  obtain rfl := List.eq_nil_of_length_eq_zero hX12
  have h0a := trod_at hf 0 rfl 0 1 rfl (by kernel_rfl) [c0] rfl y0 rfl
  obtain ⟨x0, e0, f0, b0⟩ := Tryz.opbStr _ _ _ _ _ _ _ _ _ h0a
  obtain rfl : c0 = .string x0 := by injection e0
  have h1a := trod_at hf 1 rfl 1 1 rfl (by kernel_rfl) [c1] rfl y1 rfl
  obtain ⟨x1, e1, f1, b1⟩ := Tryz.opbInt _ _ _ _ _ _ _ _ _ h1a
  obtain rfl : c1 = .int .i64 x1 := by injection e1
  have h2a := trod_at hf 2 rfl 2 1 rfl (by kernel_rfl) [c2] rfl y2 rfl
  obtain ⟨x2, e2, f2, b2⟩ := Tryz.opbInt _ _ _ _ _ _ _ _ _ h2a
  obtain rfl : c2 = .int .i64 x2 := by injection e2
  have h3a := trod_at hf 3 rfl 3 1 rfl (by kernel_rfl) [c3] rfl y3 rfl
  obtain ⟨x3, e3, f3, b3⟩ := Tryz.opbInt _ _ _ _ _ _ _ _ _ h3a
  obtain rfl : c3 = .int .i64 x3 := by injection e3
  have h4a := trod_at hf 4 rfl 4 1 rfl (by kernel_rfl) [c4] rfl y4 rfl
  obtain ⟨x4, ⟨A4, n4, k4, e4, r4⟩, f4, b4⟩ := Tryz.opbStrs _ _ _ _ _ _ _ _ _ h4a
  obtain rfl : c4 = .slice A4 n4 k4 := by injection e4
  have h5a := trod_at hf 5 rfl 5 1 rfl (by kernel_rfl) [c5] rfl y5 rfl
  obtain ⟨x5, ⟨A5, n5, k5, e5, r5⟩, f5, b5⟩ := Tryz.opbConts _ _ _ _ _ _ _ _ _ h5a
  obtain rfl : c5 = .slice A5 n5 k5 := by injection e5
  have h6a := trod_at hf 6 rfl 6 1 rfl (by kernel_rfl) [c6] rfl y6 rfl
  obtain ⟨x6, ⟨A6, n6, k6, e6, r6⟩, f6, b6⟩ := Tryz.opbStyls _ _ _ _ _ _ _ _ _ h6a
  obtain rfl : c6 = .slice A6 n6 k6 := by injection e6
  have h7a := trod_at hf 7 rfl 7 1 rfl (by kernel_rfl) [c7] rfl y7 rfl
  obtain ⟨x7, e7, f7, b7⟩ := Tryz.opbInt _ _ _ _ _ _ _ _ _ h7a
  obtain rfl : c7 = .int .i64 x7 := by injection e7
  have h8a := trod_at hf 8 rfl 8 1 rfl (by kernel_rfl) [c8] rfl y8 rfl
  obtain ⟨x8, e8, f8, b8⟩ := Tryz.opbInt _ _ _ _ _ _ _ _ _ h8a
  obtain rfl : c8 = .int .i64 x8 := by injection e8
  have h9a := trod_at hf 9 rfl 9 3 rfl (by kernel_rfl) [c9, c10, c11] rfl y9 rfl
  obtain ⟨x9, ⟨A9, n9, k9, B9, m9, j9, e9, r9, s9⟩, f9, b9⟩ := Tryz.opbRisk _ _ _ _ _ _ _ _ _ h9a
  obtain ⟨rfl, rfl, rfl⟩ : c9 = .bool x9.neg ∧ c10 = .slice A9 n9 k9 ∧ c11 = .slice B9 m9 j9 := by
    injection e9 with q1 q2
    injection q2 with q2 q3
    injection q3 with q3 q4
    exact ⟨q1, q2, q3⟩
  have h10a := trod_at hf 10 rfl 12 1 rfl (by kernel_rfl) [c12] rfl y10 rfl
  obtain ⟨x10, e10, f10, b10⟩ := Tryz.opbInt _ _ _ _ _ _ _ _ _ h10a
  obtain rfl : c12 = .int .i64 x10 := by injection e10
  have h11a := trod_at hf 11 rfl 13 1 rfl (by kernel_rfl) [c13] rfl y11 rfl
  obtain ⟨x11, e11, f11, b11⟩ := Tryz.opbStr _ _ _ _ _ _ _ _ _ h11a
  obtain rfl : c13 = .string x11 := by injection e11
  refine ⟨⟨x0, x1, x2, x3, x4, x5, x6, x7, x8, x9, x10, x11⟩, ⟨A4, n4, k4, A5, n5, k5, A6, n6, k6, A9, n9, k9, B9, m9, j9, rfl, r4, r5, r6, r9, s9⟩, ⟨f0, f1, f2, f3, f4, f5, f6, f7, f8, f9, f10, f11⟩, ?_⟩
  show Bulk.bulk x0 + Bulk.bulk x1 + Bulk.bulk x2 + Bulk.bulk x3 + Bulk.bulk x4 + Bulk.bulk x5 + Bulk.bulk x6 + Bulk.bulk x7 + Bulk.bulk x8 + Bulk.bulk x9 + Bulk.bulk x10 + Bulk.bulk x11 + 1 ≤ Rows.uptoBulkAll [y0.1, y1.1, y2.1, y3.1, y4.1, y5.1, y6.1, y7.1, y8.1, y9.1, y10.1, y11.1] + 1
  simp only [Rows.uptoBulkAll]
  omega
instance : Fits AccountD := ⟨fun x => Fits.fits x.prec ∧ Fits.fits x.issued ∧ Fits.fits x.spoilt ∧ Fits.fits x.cast⟩
instance : Bulk AccountD := ⟨fun x => Bulk.bulk x.prec + Bulk.bulk x.issued + Bulk.bulk x.spoilt + Bulk.bulk x.cast + 1, fun _ => Nat.le_add_left _ _⟩
theorem Tryz.opbAcct : OpensB Tryz.prog 73 AccountD := by
  intro H enc w base spare held fuel cs x h
  obtain ⟨xs, n, _, rfl, hl, hxl, hf⟩ := DataW.trod_struct Tryz.underlying73 h
  have hC : Tryz.prog.cellsOf 73 = 4 := by kernel_rfl
  have hX0 : xs.length = 4 := hxl
  have hY0 : cs.length = 4 := hl.trans hC
  clear hxl hl hC
  obtain ⟨c0, cs, rfl, hY1⟩ := unconsA hY0
  obtain ⟨c1, cs, rfl, hY2⟩ := unconsA hY1
  obtain ⟨c2, cs, rfl, hY3⟩ := unconsA hY2
  obtain ⟨c3, cs, rfl, hY4⟩ := unconsA hY3
  obtain rfl := List.eq_nil_of_length_eq_zero hY4
  obtain ⟨y0, xs, rfl, hX1⟩ := unconsA hX0
  obtain ⟨y1, xs, rfl, hX2⟩ := unconsA hX1
  obtain ⟨y2, xs, rfl, hX3⟩ := unconsA hX2
  obtain ⟨y3, xs, rfl, hX4⟩ := unconsA hX3
  obtain rfl := List.eq_nil_of_length_eq_zero hX4
  have h0a := trod_at hf 0 rfl 0 1 rfl (by kernel_rfl) [c0] rfl y0 rfl
  obtain ⟨x0, e0, f0, b0⟩ := Tryz.opbInt _ _ _ _ _ _ _ _ _ h0a
  obtain rfl : c0 = .int .i64 x0 := by injection e0
  have h1a := trod_at hf 1 rfl 1 1 rfl (by kernel_rfl) [c1] rfl y1 rfl
  obtain ⟨x1, e1, f1, b1⟩ := Tryz.opbInt _ _ _ _ _ _ _ _ _ h1a
  obtain rfl : c1 = .int .i64 x1 := by injection e1
  have h2a := trod_at hf 2 rfl 2 1 rfl (by kernel_rfl) [c2] rfl y2 rfl
  obtain ⟨x2, e2, f2, b2⟩ := Tryz.opbInt _ _ _ _ _ _ _ _ _ h2a
  obtain rfl : c2 = .int .i64 x2 := by injection e2
  have h3a := trod_at hf 3 rfl 3 1 rfl (by kernel_rfl) [c3] rfl y3 rfl
  obtain ⟨x3, e3, f3, b3⟩ := Tryz.opbInt _ _ _ _ _ _ _ _ _ h3a
  obtain rfl : c3 = .int .i64 x3 := by injection e3
  refine ⟨⟨x0, x1, x2, x3⟩, rfl, ⟨f0, f1, f2, f3⟩, ?_⟩
  show Bulk.bulk x0 + Bulk.bulk x1 + Bulk.bulk x2 + Bulk.bulk x3 + 1 ≤ Rows.uptoBulkAll [y0.1, y1.1, y2.1, y3.1] + 1
  simp only [Rows.uptoBulkAll]
  omega
theorem Tryz.opbAccts : OpensB Tryz.prog 31 (List AccountD) := opensB_slice Tryz.underlying31 (by kernel_rfl) (by show 0 < 4; omega) Tryz.opbAcct
instance : Fits RecD := ⟨fun _ => True⟩
instance : Bulk RecD := ⟨fun _ => 1, fun _ => Nat.le_refl _⟩
theorem Tryz.opbRec : OpensB Tryz.prog 42 RecD := by
  intro H enc w base spare held fuel cs x h
  obtain ⟨xs, n, _, rfl, hl, hxl, hf⟩ := DataW.trod_struct Tryz.underlying42 h
  have hC : Tryz.prog.cellsOf 42 = 3 := by kernel_rfl
  have hX0 : xs.length = 3 := hxl
  have hY0 : cs.length = 3 := hl.trans hC
  obtain ⟨c0, cs, rfl, hY1⟩ := unconsA hY0
  obtain ⟨c1, cs, rfl, hY2⟩ := unconsA hY1
  obtain ⟨c2, cs, rfl, hY3⟩ := unconsA hY2
  obtain rfl := List.eq_nil_of_length_eq_zero hY3
  obtain ⟨y0, xs, rfl, hX1⟩ := unconsA hX0
  obtain ⟨y1, xs, rfl, hX2⟩ := unconsA hX1
  obtain ⟨y2, xs, rfl, hX3⟩ := unconsA hX2
  obtain rfl := List.eq_nil_of_length_eq_zero hX3
  have h0a := trod_at hf 0 rfl 0 1 rfl (by kernel_rfl) [c0] rfl y0 rfl
  obtain ⟨x0, e0, _, _⟩ := Tryz.opbInt _ _ _ _ _ _ _ _ _ h0a
  obtain rfl : c0 = .int .i64 x0 := by injection e0
  have h1a := trod_at hf 1 rfl 1 1 rfl (by kernel_rfl) [c1] rfl y1 rfl
  obtain ⟨A, m, c, rfl⟩ : ∃ A m c, c1 = .slice A m c := by
    rcases open_slice Tryz.underlying40 h1a with ⟨e, _⟩ | ⟨a, len, cap, _, _, _, _, e, _⟩
    · exact ⟨none, 0, 0, by injection e⟩
    · exact ⟨some a, len, cap, by injection e⟩
  have h2a := trod_at hf 2 rfl 2 1 rfl (by kernel_rfl) [c2] rfl y2 rfl
  obtain ⟨x2, e2, _, _⟩ := Tryz.opbBool _ _ _ _ _ _ _ _ _ h2a
  obtain rfl : c2 = .bool x2 := by injection e2
  exact ⟨⟨x0, .slice A m c, x2⟩, ⟨A, m, c, rfl, rfl⟩, trivial, by show 1 ≤ Rows.uptoBulkAll _ + 1; omega⟩
theorem Tryz.opbRecs : OpensB Tryz.prog 35 (List RecD) := opensB_slice Tryz.underlying35 (by kernel_rfl) (by show 0 < 3; omega) Tryz.opbRec

/-- an election of a bounded bulk is of the size that the walks ask -/
theorem elec_of_bulk {e : ElectionD} (hf : Fits.fits e) (hb : Bulk.bulk e ≤ 1048576) : ElecOk e ∧ ElecSane e := by
  obtain ⟨f1, f2, f3, f4, f5, f6, f7, f8, f9, f10, f11, f12⟩ := hf
  have hb' : Bulk.bulk e.title + Bulk.bulk e.dots + Bulk.bulk e.blank + Bulk.bulk e.marked + Bulk.bulk e.prec + Bulk.bulk e.cont + Bulk.bulk e.styl + Bulk.bulk e.scan + Bulk.bulk e.batch + Bulk.bulk e.risk + Bulk.bulk e.cell + Bulk.bulk e.seed + 1 ≤ 1048576 := hb
  have str : ∀ {s : ByteArray}, Bulk.bulk s ≤ 1048576 → Sane s := fun {s} h => by
    have h' : s.size + 1 ≤ 1048576 := h
    unfold Sane; omega
  have lst : ∀ {α : Type} [Bulk α] {l : List α}, Bulk.bulk l ≤ 1048576 → l.length ≤ 1048576 ∧ ∀ x ∈ l, Bulk.bulk x ≤ 1048576 := fun {α} _ {l} h => by
    have h' : bulkAll l + 1 ≤ 1048576 := h
    have h1 := bulkAll_len l
    exact ⟨by omega, fun x hx => by have := bulkAll_mem hx; omega⟩
  obtain ⟨lp, mp⟩ := lst (l := e.prec) (by omega)
  obtain ⟨lc, mc⟩ := lst (l := e.cont) (by omega)
  obtain ⟨ls, ms⟩ := lst (l := e.styl) (by omega)
  have hr : Bulk.bulk e.risk.neg + Bulk.bulk e.risk.num + Bulk.bulk e.risk.den + 1 ≤ 1048576 := by
    have : Bulk.bulk e.risk = Bulk.bulk e.risk.neg + Bulk.bulk e.risk.num + Bulk.bulk e.risk.den + 1 := rfl
    omega
  obtain ⟨ln, _⟩ := lst (l := e.risk.num) (by omega)
  obtain ⟨ld, _⟩ := lst (l := e.risk.den) (by omega)
  have hcont : ∀ x ∈ e.cont, ContOk x ∧ Sane x.name ∧ ∀ s ∈ x.cands, Sane s := fun x hx => by
    obtain ⟨g1, g2, g3, g4, g5, g6, g7, g8, g9⟩ := f6.2 x hx
    have hbx : Bulk.bulk x.name + Bulk.bulk x.cands + Bulk.bulk x.method + Bulk.bulk x.seats + Bulk.bulk x.ranks + Bulk.bulk x.digits + Bulk.bulk x.ties + Bulk.bulk x.over + Bulk.bulk x.skip + 1 ≤ 1048576 := mc x hx
    obtain ⟨l1, m1⟩ := lst (l := x.cands) (by omega)
    exact ⟨⟨g3, g4, g5, g6, g7, g8, g9, by omega⟩, str (by omega), fun s hs => str (m1 s hs)⟩
  have hstyl : ∀ x ∈ e.styl, x.prec.length ≤ 1048576 ∧ x.cont.length ≤ 1048576 ∧ Sane x.name := fun x hx => by
    have hbx : Bulk.bulk x.name + Bulk.bulk x.prec + Bulk.bulk x.cont + 1 ≤ 1048576 := ms x hx
    obtain ⟨l1, _⟩ := lst (l := x.prec) (by omega)
    obtain ⟨l2, _⟩ := lst (l := x.cont) (by omega)
    exact ⟨l1, l2, str (by omega)⟩
  exact ⟨⟨f2, f3, f4, f8, f9, f11, fun x hx => (hcont x hx).1, fun x hx => ⟨by have := (hstyl x hx).1; omega, by have := (hstyl x hx).2.1; omega⟩, by omega, by omega, by omega, ⟨by omega, by omega⟩⟩,
    ⟨str (by omega), str (by omega), fun s hs => str (mp s hs), fun x hx => (hcont x hx).2, fun x hx => (hstyl x hx).2.2, by omega⟩⟩
end Go.Proofs.YtjlhbfbdcfajfaaGreatDoor
