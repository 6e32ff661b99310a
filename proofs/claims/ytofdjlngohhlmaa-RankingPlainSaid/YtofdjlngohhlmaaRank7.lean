/- The arguments of the laws on rankings, opened: a contest, a vote. -/
import Derived.Test.YtofdjlngohhlmaaRows
import Derived.Test.YtofdjlngohhlmaaRank6
import Derived.Test.YtofdjlngohhlmaaOpen
import Derived.Carry
import Derived.ShutString
import Derived.ChangeOld
namespace Go.Proofs.Ytofdjlngohhlmaa
open Go.RowKit Go.ChangeShapes Go.WideShapes Go.Deep

theorem Try.own : ownKnob Try.prog.godebug = none := by kernel_rfl
theorem Try.laidOut : laidOutB Try.prog = true := by kernel_rfl
theorem Try.openInt : Opens Try.prog 3 Int := opens_int Try.underlying3
theorem Try.openInts : Opens Try.prog 32 (List Int) := opens_slice Try.underlying32 (by kernel_rfl) (by show 0 < 1; omega) Try.openInt
theorem Try.openRows : Opens Try.prog 25 (List (List Int)) := opens_slice Try.underlying25 (by kernel_rfl) (by show 0 < 1; omega) Try.openInts
theorem Try.openStr : Opens Try.prog 9 ByteArray := opens_string Try.underlying9
theorem Try.openStrs : Opens Try.prog 22 (List ByteArray) := opens_slice Try.underlying22 (by kernel_rfl) (by show 0 < 1; omega) Try.openStr

/-- a contest by value -/
theorem open_contest {H : Type} {enc : TypeId × Value → H} {w : World} {r : Reach} {b0 base : Nat} {spare : Nat → Bool} {held : Bool} {v : Value} {d : DataW H} {p : List MemPlace}
    (hv : Value.okWide Try.prog w r b0 24 v) (h : DataW.Trod enc Try.prog w base spare held 24 v d p) :
    ∃ (nm : ByteArray) (A : Option Addr) (n c : Nat) (me se ra di ti ov sk : Int) (cands : List ByteArray), v = .agg #[.string nm, .slice A n c, .int .i64 me, .int .i64 se, .int .i64 ra, .int .i64 di, .int .i64 ti, .int .i64 ov, .int .i64 sk] ∧
      RS w (fun b => b < w.heap.size) A n c cands ∧ Fits.fits cands ∧ Fits.fits ra := by
  obtain ⟨cs, rfl, hsz⟩ := okWide_struct Try.underlying24 hv
  obtain ⟨l⟩ := cs
  have hC : Try.prog.cellsOf 24 = 9 := by kernel_rfl
  obtain ⟨fuel, hf⟩ := h
  obtain ⟨_, hff⟩ := trod_fields Try.underlying24 (by kernel_rfl) hf
  match l, hsz.trans hC with
  | [c0, c1, c2, c3, c4, c5, c6, c7, c8], _ =>
    obtain ⟨_, _, h0⟩ := hff 0 _ c0 rfl rfl
    obtain ⟨_, _, h1⟩ := hff 1 _ c1 rfl rfl
    obtain ⟨_, _, h2⟩ := hff 2 _ c2 rfl rfl
    obtain ⟨_, _, h3⟩ := hff 3 _ c3 rfl rfl
    obtain ⟨_, _, h4⟩ := hff 4 _ c4 rfl rfl
    obtain ⟨_, _, h5⟩ := hff 5 _ c5 rfl rfl
    obtain ⟨_, _, h6⟩ := hff 6 _ c6 rfl rfl
    obtain ⟨_, _, h7⟩ := hff 7 _ c7 rfl rfl
    obtain ⟨_, _, h8⟩ := hff 8 _ c8 rfl rfl
    obtain ⟨nm, e0, _⟩ := Try.openStr _ _ _ _ _ _ _ _ _ h0
    obtain ⟨cands, ⟨A, n, c, e1, hr⟩, hfc⟩ := Try.openStrs _ _ _ _ _ _ _ _ _ h1
    obtain ⟨me, e2, _⟩ := Try.openInt _ _ _ _ _ _ _ _ _ h2
    obtain ⟨se, e3, _⟩ := Try.openInt _ _ _ _ _ _ _ _ _ h3
    obtain ⟨ra, e4, hra⟩ := Try.openInt _ _ _ _ _ _ _ _ _ h4
    obtain ⟨di, e5, _⟩ := Try.openInt _ _ _ _ _ _ _ _ _ h5
    obtain ⟨ti, e6, _⟩ := Try.openInt _ _ _ _ _ _ _ _ _ h6
    obtain ⟨ov, e7, _⟩ := Try.openInt _ _ _ _ _ _ _ _ _ h7
    obtain ⟨sk, e8, _⟩ := Try.openInt _ _ _ _ _ _ _ _ _ h8
    have q0 : c0 = .string nm := by injection e0
    have q1 : c1 = .slice A n c := by injection e1
    have q2 : c2 = .int .i64 me := by injection e2
    have q3 : c3 = .int .i64 se := by injection e3
    have q4 : c4 = .int .i64 ra := by injection e4
    have q5 : c5 = .int .i64 di := by injection e5
    have q6 : c6 = .int .i64 ti := by injection e6
    have q7 : c7 = .int .i64 ov := by injection e7
    have q8 : c8 = .int .i64 sk := by injection e8
    subst q0 q1 q2 q3 q4 q5 q6 q7 q8
    exact ⟨nm, A, n, c, me, se, ra, di, ti, ov, sk, cands, rfl, hr, hfc, hra⟩

/-- a vote by value -/
theorem open_vote {H : Type} {enc : TypeId × Value → H} {w : World} {r : Reach} {b0 base : Nat} {spare : Nat → Bool} {held : Bool} {v : Value} {d : DataW H} {p : List MemPlace}
    (hv : Value.okWide Try.prog w r b0 27 v) (h : DataW.Trod enc Try.prog w base spare held 27 v d p) :
    ∃ (co : Int) (A : Option Addr) (n c : Nat) (xss : List (List Int)), v = .agg #[.int .i64 co, .slice A n c] ∧ RS w (fun b => b < w.heap.size) A n c xss ∧ Fits.fits xss := by
  obtain ⟨cs, rfl, hsz⟩ := okWide_struct Try.underlying27 hv
  obtain ⟨l⟩ := cs
  have hC : Try.prog.cellsOf 27 = 2 := by kernel_rfl
  obtain ⟨fuel, hf⟩ := h
  obtain ⟨_, hff⟩ := trod_fields Try.underlying27 (by kernel_rfl) hf
  match l, hsz.trans hC with
  | [c0, c1], _ =>
    obtain ⟨_, _, h0⟩ := hff 0 _ c0 rfl rfl
    obtain ⟨_, _, h1⟩ := hff 1 _ c1 rfl rfl
    obtain ⟨co, e0, _⟩ := Try.openInt _ _ _ _ _ _ _ _ _ h0
    obtain ⟨xss, ⟨A, n, c, e1, hr⟩, hfx⟩ := Try.openRows _ _ _ _ _ _ _ _ _ h1
    have q0 : c0 = .int .i64 co := by injection e0
    have q1 : c1 = .slice A n c := by injection e1
    subst q0 q1
    exact ⟨co, A, n, c, xss, rfl, hr, hfx⟩
end Go.Proofs.Ytofdjlngohhlmaa
