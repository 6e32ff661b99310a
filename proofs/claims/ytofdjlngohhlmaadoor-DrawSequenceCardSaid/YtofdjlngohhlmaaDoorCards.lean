/-
  DERIVED. GIVEN WITH THE SEED: THE CARDS: each row of YtofdjlngohhlmaaDoorRows.lean that lists a variable, with what it lists TIED to the program's text (the seventh form; the later family's looks); each row that meets fmt, with fmt's text TOLD by the authors' own Lean function (tested against real Go, not proved from fmt's source: count such statements apart). THE CARD IS WHAT COUNTS. Prove the row's statement (the work); the ties are given (YtofdjlngohhlmaaDoorTie.lean); close each card by the builder's one call (the guide's Derived/Test/ToyasCard.lean, 'card_holds'). Laid BY PROGRAM, IN A SANDBOX (cutbox-door.mjs). By AI agents, Wed Nov 11 2026. No macro, syntax, notation, axiom, sorry.
-/
import Derived.Test.YtofdjlngohhlmaaDoorRows
import GoSem.ClaimSeven
namespace Go.Proofs.YtofdjlngohhlmaaDoor
namespace Rows

/-- THE TIED CARD OF 'electionlaw39.DrawSequence'. -/
def drawSequenceCard : Claim7 := { stood := { row := drawSequenceRow, standIns := [], harness := (true, "491f2f3fbc5a2b0e723d57781c8ce88cf7a378a3b8658a8bccb6a761523bdd29"), looks := false }, kinds := [], alts := [], laidByText := true, laidKinds := [.data, .data], laidTests := true, laidLooks := .later }
def DrawSequenceCardSaid : Prop := Claim7.holds Tryd.pinned (.plain (OpenSpec.ofChange drawSequenceSpec)) drawSequenceCard

/-- THE TIED CARD OF 'electionlaw39.DrawPermutes'. -/
def drawPermutesCard : Claim7 := { stood := { row := drawPermutesRow, standIns := [], harness := (true, "491f2f3fbc5a2b0e723d57781c8ce88cf7a378a3b8658a8bccb6a761523bdd29"), looks := false }, kinds := [], alts := [], laidByText := true, laidKinds := [.data], laidTests := true, laidLooks := .later }
def DrawPermutesCardSaid : Prop := Claim7.holds Tryd.pinned (.plain (OpenSpec.ofChange drawPermutesSpec)) drawPermutesCard

/-- THE SECOND FORM's CARD OF 'electionlaw39.DrawSequence'. -/
def drawSequenceUptoCard : Claim7 := { stood := { row := drawSequenceUptoRow, standIns := [], harness := (true, "491f2f3fbc5a2b0e723d57781c8ce88cf7a378a3b8658a8bccb6a761523bdd29"), looks := false }, kinds := [], alts := [], laidByText := true, laidKinds := [.data, .data], laidTests := true, laidLooks := .later }
def DrawSequenceUptoCardSaid : Prop := Claim7.holds Tryd.pinned (.plain (OpenSpec.upto drawSequenceSpec)) drawSequenceUptoCard

/-- THE SECOND FORM's CARD OF 'electionlaw39.DrawPermutes'. -/
def drawPermutesUptoCard : Claim7 := { stood := { row := drawPermutesUptoRow, standIns := [], harness := (true, "491f2f3fbc5a2b0e723d57781c8ce88cf7a378a3b8658a8bccb6a761523bdd29"), looks := false }, kinds := [], alts := [], laidByText := true, laidKinds := [.data], laidTests := true, laidLooks := .later }
def DrawPermutesUptoCardSaid : Prop := Claim7.holds Tryd.pinned (.plain (OpenSpec.upto drawPermutesSpec)) drawPermutesUptoCard
end Rows
end Go.Proofs.YtofdjlngohhlmaaDoor
