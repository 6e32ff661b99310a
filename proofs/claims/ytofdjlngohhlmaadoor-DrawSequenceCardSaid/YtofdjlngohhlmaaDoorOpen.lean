/- What comes in: an argument that reads as data of a Go type reads as Lean data. -/
import Derived.Test.YtofdjlngohhlmaaDoorLib2
import Derived.ProofKit
import Derived.Deep.Slices
import Derived.Deep.Fields
import Derived.ChangeSame
namespace Go.Proofs.YtofdjlngohhlmaaDoor
open Go.RowKit Go.ChangeShapes Go.WideShapes Go.Deep

/-- numbers that fit, lengths that fit -/
class Fits (α : Type) where
  fits : α → Prop
instance : Fits Int := ⟨fun x => -9223372036854775808 ≤ x ∧ x ≤ 9223372036854775807⟩
instance : Fits Bool := ⟨fun _ => True⟩
instance : Fits UInt8 := ⟨fun _ => True⟩
instance : Fits ByteArray := ⟨fun s => s.size ≤ 9223372036854775807⟩
instance {α : Type} [Fits α] : Fits (List α) := ⟨fun l => l.length ≤ 9223372036854775807 ∧ ∀ x ∈ l, Fits.fits x⟩

/-- cells of type t that read as data read as an α -/
def Opens (P : Program) (t : TypeId) (α : Type) [Rep α] [Fits α] : Prop :=
  ∀ (H : Type) (enc : TypeId × Value → H) (w : World) (base : Nat) (spare : Nat → Bool) (held : Bool) (fuel : Nat) (cs : List Value) (x : DataW H × List MemPlace),
    DataW.trod enc P w base spare held fuel t cs = some x → ∃ a : α, Rep.rep w (fun b => b < w.heap.size) cs a ∧ Fits.fits a

theorem opens_int {P : Program} {t : TypeId} (ht : P.underlying t = some (.int .i64)) : Opens P t Int := by
  intro H enc w base spare held fuel cs x h
  obtain ⟨n, rfl, _, hw⟩ := DataW.trod_int ht h
  have hw' : -9223372036854775808 ≤ n ∧ n ≤ 9223372036854775807 := by simpa [Lit.wf, IntKind.min, IntKind.max, IntKind.signed, IntKind.bits] using hw
  exact ⟨n, rfl, hw'⟩
theorem opens_bool {P : Program} {t : TypeId} (ht : P.underlying t = some .bool) : Opens P t Bool := by
  intro H enc w base spare held fuel cs x h
  obtain ⟨n, rfl, _⟩ := DataW.trod_bool ht h
  exact ⟨n, rfl, trivial⟩
theorem opens_string {P : Program} {t : TypeId} (ht : P.underlying t = some .string) : Opens P t ByteArray := by
  intro H enc w base spare held fuel cs x h
  obtain ⟨s, rfl, _, hs⟩ := DataW.trod_string ht h
  exact ⟨s, rfl, by unfold maxLen at hs; exact hs⟩
theorem opens_byte {P : Program} {t : TypeId} (ht : P.underlying t = some (.int .u8)) : Opens P t UInt8 := by
  intro H enc w base spare held fuel cs x h
  obtain ⟨n, rfl, _, hw⟩ := DataW.trod_int ht h
  have hb : 0 ≤ n ∧ n ≤ 255 := by simpa [Lit.wf, IntKind.min, IntKind.max, IntKind.signed, IntKind.bits] using hw
  refine ⟨UInt8.ofNat n.toNat, ?_, trivial⟩
  show [Value.int .u8 n] = [Value.int .u8 ((UInt8.ofNat n.toNat).toNat : Int)]
  rw [UInt8.toNat_ofNat']
  congr 2
  omega

/-- a list of data, one for each place -/
theorem exists_list {α : Type} (n : Nat) (p : Nat → α → Prop) (h : ∀ i, i < n → ∃ a, p i a) : ∃ l : List α, l.length = n ∧ ∀ i a, l[i]? = some a → p i a := by
  induction n with
  | zero => exact ⟨[], rfl, fun i a hi => by simp at hi⟩
  | succ n ih =>
    obtain ⟨l, hl, hp⟩ := ih (fun i hi => h i (by omega))
    obtain ⟨a, ha⟩ := h n (by omega)
    refine ⟨l ++ [a], by simp [hl], fun i b hi => ?_⟩
    rw [List.getElem?_append] at hi
    split at hi
    · exact hp i b hi
    · have : i = n := by
        rcases Nat.lt_or_ge (i - l.length) 1 with h | h
        · omega
        · rw [List.getElem?_eq_none (by simpa using h)] at hi; cases hi
      subst this
      rw [hl, Nat.sub_self] at hi
      simp at hi
      subst hi
      exact ha

theorem opens_slice {P : Program} {t e : TypeId} {α : Type} [Rep α] [Fits α] (ht : P.underlying t = some (.slice e)) (hsz : P.cellsOf e = Rep.sz α) (hp : 0 < Rep.sz α) (he : Opens P e α) : Opens P t (List α) := by
  intro H enc w base spare held fuel cs x h
  rcases open_slice ht h with ⟨rfl, _⟩ | ⟨a, len, cap, m, n, D, Pl, rfl, _, hl, hm, hmm, _, hi⟩
  · exact ⟨[], ⟨none, 0, 0, rfl, RS.nil _ _⟩, Nat.zero_le _, fun x hx => by simp at hx⟩
  · have hlm : len ≤ m := by rw [hmm]; split <;> omega
    obtain ⟨l, hlen, hl2⟩ := exists_list (α := α) len (fun i x => ∃ cs, Rep.rep w (fun b => b < w.heap.size) cs x ∧ CellsAt w (a.add (i * Rep.sz α)) cs ∧ Fits.fits x) (fun i hil => by
      obtain ⟨cs', hc, ht'⟩ := hi i (by omega)
      obtain ⟨x, hx, hf⟩ := he H enc w base spare held n cs' _ ht'
      rw [hsz] at hc
      obtain ⟨_, hcl, hat⟩ := World.cells?_some hc
      refine ⟨x, cs', hx, fun j u hj => ?_, hf⟩
      have hjl : j < Rep.sz α := by
        have := lt_of_get hj
        omega
      rw [hat j hjl]
      exact hj)
    refine ⟨l, ⟨some a, len, cap, rfl, hlen.symm, hl, hm, fun hn => ?_⟩, by unfold maxLen at hm; omega, fun x hx => ?_⟩
    · obtain ⟨x0, hx0⟩ : ∃ x0, l[0]? = some x0 := ⟨l[0]'(by omega), List.getElem?_eq_getElem (by omega)⟩
      obtain ⟨cs0, hr0, hc0, _⟩ := hl2 0 x0 hx0
      have hlen0 := Rep.len hr0
      obtain ⟨u, hu⟩ : ∃ u, cs0[0]? = some u := ⟨cs0[0]'(by omega), List.getElem?_eq_getElem (by omega)⟩
      have hcell := hc0 0 u hu
      have hcell' : w.cell? a = some u := by simpa [Addr.add] using hcell
      have hs := spot_none hcell'
      have hb := World.block_lt_of_cell? w _ hcell'
      obtain ⟨b, o, s⟩ := a
      simp at hs
      subst hs
      exact ⟨b, o, rfl, hb, fun i x hx => by obtain ⟨cs, h1, h2, _⟩ := hl2 i x hx; exact ⟨cs, h1, h2⟩⟩
    · obtain ⟨i, hil, rfl⟩ := List.getElem_of_mem hx
      obtain ⟨cs, _, _, hf⟩ := hl2 i _ (List.getElem?_eq_getElem hil)
      exact hf

/-- a struct whose fields take one cell each: field by field -/
theorem trod_fields {P : Program} {t : TypeId} {fs : Array Field} {H : Type} {enc : TypeId × Value → H} {w : World} {base : Nat} {spare : Nat → Bool} {held : Bool} {fuel : Nat} {cs : List Value} {x : DataW H × List MemPlace}
    (ht : P.underlying t = some (.struct fs)) (hone : oneCellFields P fs = true) (h : DataW.trod enc P w base spare held fuel t cs = some x) :
    cs.length = P.cellsOf t ∧ ∀ (j : Nat) (f : Field) (v : Value), fs[j]? = some f → cs[j]? = some v → ∃ n y, DataW.trod enc P w base spare held n f.type [v] = some y := by
  obtain ⟨xs, n, _, _, hlen, hxl, hf⟩ := DataW.trod_struct ht h
  refine ⟨hlen, fun j f v hj hv => ?_⟩
  obtain ⟨ho, hk⟩ := hone_of hone j f hj
  have h1 := hf j f hj
  rw [ho, hk] at h1
  have hjl := lt_of_get hv
  have e : (cs.drop j).take 1 = [v] := by
    rw [drop_cons hv]; rfl
  rw [e] at h1
  have hjf : j < xs.length := by rw [hxl]; exact (Array.getElem?_eq_some_iff.1 hj).1
  rw [List.getElem?_eq_getElem hjf] at h1
  exact ⟨n, _, h1⟩
end Go.Proofs.YtofdjlngohhlmaaDoor
