/-
  DERIVED. GIVEN WITH THE SEED: THE CARDS: each row of YtdbpbfglhbiadaaGreatDoorRows.lean that lists a variable, with what it lists TIED to the program's text (the seventh form; the later family's looks); each row that meets fmt, with fmt's text TOLD by the authors' own Lean function (tested against real Go, not proved from fmt's source: count such statements apart). THE CARD IS WHAT COUNTS. Prove the row's statement (the work); the ties are given (YtdbpbfglhbiadaaGreatDoorTie.lean); close each card by the builder's one call (the guide's Derived/Test/ToyasCard.lean, 'card_holds'). Laid BY PROGRAM, IN A SANDBOX (cutbox-door.mjs). By AI agents, Wed Nov 11 2026. No macro, syntax, notation, axiom, sorry.
-/
import Derived.Test.YtdbpbfglhbiadaaGreatDoorRows
import GoSem.ClaimSeven
namespace Go.Proofs.YtdbpbfglhbiadaaGreatDoor
namespace Rows

/-- THE TIED CARD OF 'electionlaw08.SchemaValid'. -/
def schemaValidCard : Claim7 := { stood := { row := schemaValidRow, standIns := [], harness := (true, "13fa47be01a8eddc5fd62a8998c30ff6515a454641ced9024b6e10bf26e0820e"), looks := true }, kinds := [], alts := [], laidByText := true, laidKinds := [.data, .data, .data, .data, .sentinel, .sentinel, .pinned], laidTests := true, laidLooks := .later }
def SchemaValidCardSaid : Prop := Claim7.holds Tryz.pinned (.plain (OpenSpec.ofChange schemaValidSpec)) schemaValidCard

/-- THE TIED CARD OF 'electionlaw08.SchemaStyle'. -/
def schemaStyleCard : Claim7 := { stood := { row := schemaStyleRow, standIns := [], harness := (true, "13fa47be01a8eddc5fd62a8998c30ff6515a454641ced9024b6e10bf26e0820e"), looks := true }, kinds := [], alts := [], laidByText := true, laidKinds := [.data, .data, .data, .data, .sentinel, .sentinel, .pinned], laidTests := true, laidLooks := .later }
def SchemaStyleCardSaid : Prop := Claim7.holds Tryz.pinned (.plain (OpenSpec.ofChange schemaStyleSpec)) schemaStyleCard

/-- THE TIED CARD OF 'electionlaw08.SchemaEqual'. -/
def schemaEqualCard : Claim7 := { stood := { row := schemaEqualRow, standIns := [], harness := (true, "13fa47be01a8eddc5fd62a8998c30ff6515a454641ced9024b6e10bf26e0820e"), looks := true }, kinds := [], alts := [], laidByText := true, laidKinds := [.data, .data, .data, .data, .sentinel, .sentinel, .pinned], laidTests := true, laidLooks := .later }
def SchemaEqualCardSaid : Prop := Claim7.holds Tryz.pinned (.plain (OpenSpec.ofChange schemaEqualSpec)) schemaEqualCard

/-- THE TIED CARD OF 'electionlaw08.SchemaCompile'. -/
def schemaCompileCard : Claim7 := { stood := { row := schemaCompileRow, standIns := [], harness := (true, "13fa47be01a8eddc5fd62a8998c30ff6515a454641ced9024b6e10bf26e0820e"), looks := true }, kinds := [], alts := [], laidByText := true, laidKinds := [.data, .data, .data, .data, .sentinel, .sentinel, .pinned], laidTests := true, laidLooks := .later }
def SchemaCompileCardSaid : Prop := Claim7.holds Tryz.pinned (.plain (OpenSpec.ofChange schemaCompileSpec)) schemaCompileCard

/-- THE TIED CARD OF 'electionlaw10.LayoutMake'. -/
def layoutMakeCard : Claim7 := { stood := { row := layoutMakeRow, standIns := [], harness := (true, "13fa47be01a8eddc5fd62a8998c30ff6515a454641ced9024b6e10bf26e0820e"), looks := true }, kinds := [], alts := [], laidByText := true, laidKinds := [.data, .data, .data, .data, .sentinel, .sentinel, .pinned], laidTests := true, laidLooks := .later }
def LayoutMakeCardSaid : Prop := Claim7.holds Tryz.pinned (.plain (OpenSpec.ofChange layoutMakeSpec)) layoutMakeCard

/-- THE TIED CARD OF 'electionlaw10.LayoutFit'. -/
def layoutFitCard : Claim7 := { stood := { row := layoutFitRow, standIns := [], harness := (true, "13fa47be01a8eddc5fd62a8998c30ff6515a454641ced9024b6e10bf26e0820e"), looks := true }, kinds := [], alts := [], laidByText := true, laidKinds := [.data, .data, .data, .data, .sentinel, .sentinel, .pinned], laidTests := true, laidLooks := .later }
def LayoutFitCardSaid : Prop := Claim7.holds Tryz.pinned (.plain (OpenSpec.ofChange layoutFitSpec)) layoutFitCard

/-- THE TIED CARD OF 'electionlaw10.LayoutNone'. -/
def layoutNoneCard : Claim7 := { stood := { row := layoutNoneRow, standIns := [], harness := (true, "13fa47be01a8eddc5fd62a8998c30ff6515a454641ced9024b6e10bf26e0820e"), looks := true }, kinds := [], alts := [], laidByText := true, laidKinds := [.data, .data, .data, .data, .sentinel, .sentinel, .pinned], laidTests := true, laidLooks := .later }
def LayoutNoneCardSaid : Prop := Claim7.holds Tryz.pinned (.plain (OpenSpec.ofChange layoutNoneSpec)) layoutNoneCard

/-- THE TIED CARD OF 'electionlaw13.RankingVotes'. -/
def rankingVotesCard : Claim7 := { stood := { row := rankingVotesRow, standIns := [], harness := (true, "13fa47be01a8eddc5fd62a8998c30ff6515a454641ced9024b6e10bf26e0820e"), looks := true }, kinds := [], alts := [], laidByText := true, laidKinds := [.data, .data, .data, .data, .sentinel, .sentinel, .pinned], laidTests := true, laidLooks := .later }
def RankingVotesCardSaid : Prop := Claim7.holds Tryz.pinned (.plain (OpenSpec.ofChange rankingVotesSpec)) rankingVotesCard

/-- THE TIED CARD OF 'electionlaw12.MarkNone'. -/
def markNoneCard : Claim7 := { stood := { row := markNoneRow, standIns := [], harness := (true, "13fa47be01a8eddc5fd62a8998c30ff6515a454641ced9024b6e10bf26e0820e"), looks := true }, kinds := [], alts := [], laidByText := true, laidKinds := [.data, .data, .data, .data, .sentinel, .sentinel, .pinned], laidTests := true, laidLooks := .later }
def MarkNoneCardSaid : Prop := Claim7.holds Tryz.pinned (.plain (OpenSpec.ofChange markNoneSpec)) markNoneCard

/-- THE SECOND FORM's CARD OF 'electionlaw08.SchemaValid'. -/
def schemaValidUptoCard : Claim7 := { stood := { row := schemaValidUptoRow, standIns := [], harness := (true, "13fa47be01a8eddc5fd62a8998c30ff6515a454641ced9024b6e10bf26e0820e"), looks := true }, kinds := [], alts := [], laidByText := true, laidKinds := [.data, .data, .data, .data, .sentinel, .sentinel, .pinned], laidTests := true, laidLooks := .later }
def SchemaValidUptoCardSaid : Prop := Claim7.holds Tryz.pinned (.plain (OpenSpec.upto schemaValidSpec)) schemaValidUptoCard

/-- THE SECOND FORM's CARD OF 'electionlaw08.SchemaStyle'. -/
def schemaStyleUptoCard : Claim7 := { stood := { row := schemaStyleUptoRow, standIns := [], harness := (true, "13fa47be01a8eddc5fd62a8998c30ff6515a454641ced9024b6e10bf26e0820e"), looks := true }, kinds := [], alts := [], laidByText := true, laidKinds := [.data, .data, .data, .data, .sentinel, .sentinel, .pinned], laidTests := true, laidLooks := .later }
def SchemaStyleUptoCardSaid : Prop := Claim7.holds Tryz.pinned (.plain (OpenSpec.upto schemaStyleSpec)) schemaStyleUptoCard

/-- THE SECOND FORM's CARD OF 'electionlaw08.SchemaEqual'. -/
def schemaEqualUptoCard : Claim7 := { stood := { row := schemaEqualUptoRow, standIns := [], harness := (true, "13fa47be01a8eddc5fd62a8998c30ff6515a454641ced9024b6e10bf26e0820e"), looks := true }, kinds := [], alts := [], laidByText := true, laidKinds := [.data, .data, .data, .data, .sentinel, .sentinel, .pinned], laidTests := true, laidLooks := .later }
def SchemaEqualUptoCardSaid : Prop := Claim7.holds Tryz.pinned (.plain (OpenSpec.upto schemaEqualSpec)) schemaEqualUptoCard

/-- THE SECOND FORM's CARD OF 'electionlaw08.SchemaCompile'. -/
def schemaCompileUptoCard : Claim7 := { stood := { row := schemaCompileUptoRow, standIns := [], harness := (true, "13fa47be01a8eddc5fd62a8998c30ff6515a454641ced9024b6e10bf26e0820e"), looks := true }, kinds := [], alts := [], laidByText := true, laidKinds := [.data, .data, .data, .data, .sentinel, .sentinel, .pinned], laidTests := true, laidLooks := .later }
def SchemaCompileUptoCardSaid : Prop := Claim7.holds Tryz.pinned (.plain (OpenSpec.upto schemaCompileSpec)) schemaCompileUptoCard

/-- THE SECOND FORM's CARD OF 'electionlaw10.LayoutMake'. -/
def layoutMakeUptoCard : Claim7 := { stood := { row := layoutMakeUptoRow, standIns := [], harness := (true, "13fa47be01a8eddc5fd62a8998c30ff6515a454641ced9024b6e10bf26e0820e"), looks := true }, kinds := [], alts := [], laidByText := true, laidKinds := [.data, .data, .data, .data, .sentinel, .sentinel, .pinned], laidTests := true, laidLooks := .later }
def LayoutMakeUptoCardSaid : Prop := Claim7.holds Tryz.pinned (.plain (OpenSpec.upto layoutMakeSpec)) layoutMakeUptoCard

/-- THE SECOND FORM's CARD OF 'electionlaw10.LayoutFit'. -/
def layoutFitUptoCard : Claim7 := { stood := { row := layoutFitUptoRow, standIns := [], harness := (true, "13fa47be01a8eddc5fd62a8998c30ff6515a454641ced9024b6e10bf26e0820e"), looks := true }, kinds := [], alts := [], laidByText := true, laidKinds := [.data, .data, .data, .data, .sentinel, .sentinel, .pinned], laidTests := true, laidLooks := .later }
def LayoutFitUptoCardSaid : Prop := Claim7.holds Tryz.pinned (.plain (OpenSpec.upto layoutFitSpec)) layoutFitUptoCard

/-- THE SECOND FORM's CARD OF 'electionlaw10.LayoutNone'. -/
def layoutNoneUptoCard : Claim7 := { stood := { row := layoutNoneUptoRow, standIns := [], harness := (true, "13fa47be01a8eddc5fd62a8998c30ff6515a454641ced9024b6e10bf26e0820e"), looks := true }, kinds := [], alts := [], laidByText := true, laidKinds := [.data, .data, .data, .data, .sentinel, .sentinel, .pinned], laidTests := true, laidLooks := .later }
def LayoutNoneUptoCardSaid : Prop := Claim7.holds Tryz.pinned (.plain (OpenSpec.upto layoutNoneSpec)) layoutNoneUptoCard

/-- THE SECOND FORM's CARD OF 'electionlaw13.RankingVotes'. -/
def rankingVotesUptoCard : Claim7 := { stood := { row := rankingVotesUptoRow, standIns := [], harness := (true, "13fa47be01a8eddc5fd62a8998c30ff6515a454641ced9024b6e10bf26e0820e"), looks := true }, kinds := [], alts := [], laidByText := true, laidKinds := [.data, .data, .data, .data, .sentinel, .sentinel, .pinned], laidTests := true, laidLooks := .later }
def RankingVotesUptoCardSaid : Prop := Claim7.holds Tryz.pinned (.plain (OpenSpec.upto rankingVotesSpec)) rankingVotesUptoCard

/-- THE SECOND FORM's CARD OF 'electionlaw12.MarkNone'. -/
def markNoneUptoCard : Claim7 := { stood := { row := markNoneUptoRow, standIns := [], harness := (true, "13fa47be01a8eddc5fd62a8998c30ff6515a454641ced9024b6e10bf26e0820e"), looks := true }, kinds := [], alts := [], laidByText := true, laidKinds := [.data, .data, .data, .data, .sentinel, .sentinel, .pinned], laidTests := true, laidLooks := .later }
def MarkNoneUptoCardSaid : Prop := Claim7.holds Tryz.pinned (.plain (OpenSpec.upto markNoneSpec)) markNoneUptoCard
end Rows
end Go.Proofs.YtdbpbfglhbiadaaGreatDoor
