/- What the package variables hold: the tables of the constants of both packages. -/
import Derived.Test.YtofdjlngohhlmaaDoorSeqLaw2
import Derived.Test.YtofdjlngohhlmaaDoorOpen
import Derived.Test.YtofdjlngohhlmaaDoorTie
import Derived.Test.YtofdjlngohhlmaaDoorCards
import Derived.ProofKit
import Derived.LaidMore
import Derived.OpenShut
import Derived.Stop.Joined
import Derived.SevenTiedAt
namespace Go.Proofs.YtofdjlngohhlmaaDoor
open Go.ChangeShapes Go.WideShapes Go.ChangeAt Go.WideMaps Go.WideElems Go.RowKit

theorem Tryd.own' : ownKnob Tryd.prog.godebug = none := by kernel_rfl
theorem Tryd.laidOut : laidOutB Tryd.prog = true := by kernel_rfl
theorem gK : Tryd.prog.globalNamed "election/electionref04.k" = some 0 := by kernel_rfl
theorem gC : Tryd.prog.globalNamed "election/digest.constants" = some 1 := by kernel_rfl
theorem tK : (Tryd.prog.globals[0]?).map (·.type) = some 61 := by kernel_rfl
theorem tC : (Tryd.prog.globals[1]?).map (·.type) = some 61 := by kernel_rfl
theorem kLaid {H : Type} : (Rows.laid_election_electionref04_k : DataW H) = .agg (kon.map fun x => .lit (.int .u32 (x.toNat : Int))) := rfl
theorem cLaid {H : Type} : (Rows.laid_election_digest_constants : DataW H) = .agg (kon.map fun x => .lit (.int .u32 (x.toNat : Int))) := rfl
theorem kon_length : kon.length = 64 := rfl

theorem tab_of {H : Type} {enc : TypeId × Value → H} {W : World} {g : Nat} {name : String} {base : Nat} {sp : Nat → Bool} {held : Bool} {fuel : Nat} {cs : Array Value} {ps : List MemPlace} (hg : Tryd.prog.globalNamed name = some g) (hv : W.var? Tryd.prog name = some cs)
    (hd : DataW.trod enc Tryd.prog W base sp held fuel 61 cs.toList = some (.agg (kon.map fun x => .lit (.int .u32 (x.toNat : Int))), ps)) : Tab W g := by
  obtain ⟨xs, m1, rfl, hx1, hlen, hn, hel⟩ := DataW.trod_array Tryd.underlying61 hd
  have ce : Tryd.prog.cellsOf 56 = 1 := by kernel_rfl
  simp only [Prod.mk.injEq, DataW.agg.injEq] at hx1
  obtain ⟨hx1, _⟩ := hx1
  have key : ∀ t, t < 64 → W.cell? ⟨g, t, none⟩ = some (wrd (kn t)) := by
    intro t ht
    have h1 := hel t ht
    rw [ce, Nat.mul_one] at h1
    have hxt : xs[t]? = some (xs[t]'(by omega)) := List.getElem?_eq_getElem (by omega)
    rw [hxt] at h1
    obtain ⟨n, e1, e2, _⟩ := DataW.trod_int Tryd.underlying56 h1
    have h2 : (kon.map fun x => (DataW.lit (.int .u32 (x.toNat : Int)) : DataW H))[t]? = (xs.map (·.1))[t]? := by rw [hx1]
    rw [List.getElem?_map, List.getElem?_map, hxt, e2] at h2
    have hk : kon[t]? = some (kn t) := by
      unfold kn
      rw [List.getD_eq_getElem?_getD, List.getElem?_eq_getElem (by rw [kon_length]; exact ht)]; rfl
    rw [hk] at h2
    simp only [Option.map_some, Option.some.injEq, DataW.lit.injEq, Lit.int.injEq, true_and] at h2
    rw [World.var?_cell hg hv t]
    have h3 : cs.toList[t]? = some (.int .u32 n) := by
      have : (cs.toList.drop t)[0]? = some (.int .u32 n) := by
        cases hcd : cs.toList.drop t with
        | nil => rw [hcd] at e1; simp at e1
        | cons c l => rw [hcd] at e1; simp at e1; rw [e1]; rfl
      rw [List.getElem?_drop] at this
      simpa using this
    rw [← Array.getElem?_toList, h3, ← h2]
    rfl
  exact ⟨World.block_lt_of_cell? W ⟨g, 0, none⟩ (key 0 (by omega)), key⟩

theorem of_laid2 {W : World} (h : laidMetH Tryd.prog Rows.drawSequenceRow.laid W) : Tab W 0 ∧ Tab W 1 := by
  rw [MakeChecks.laidMetH_plain _ _ _ (by kernel_rfl)] at h
  obtain ⟨ps, ⟨g0, t0, cs0, f0, p0, q0, hg0, ht0, hv0, hd0, ⟨g1, t1, cs1, f1, p1, q1, hg1, ht1, hv1, hd1, _, _⟩, _⟩, _, _⟩ := h
  obtain rfl := Option.some.inj (gK.symm.trans hg0)
  obtain rfl := Option.some.inj (gC.symm.trans hg1)
  obtain rfl := Option.some.inj (tK.symm.trans ht0)
  obtain rfl := Option.some.inj (tC.symm.trans ht1)
  rw [kLaid] at hd0
  rw [cLaid] at hd1
  exact ⟨tab_of gK hv0 hd0, tab_of gC hv1 hd1⟩
end Go.Proofs.YtofdjlngohhlmaaDoor
