/-
  DERIVED. GIVEN WITH THE SEED: THE CARDS: each row of YtichkplomldgiaaGreatDoorRows.lean that lists a variable, with what it lists TIED to the program's text (the seventh form; the later family's looks); each row that meets fmt, with fmt's text TOLD by the authors' own Lean function (tested against real Go, not proved from fmt's source: count such statements apart). THE CARD IS WHAT COUNTS. Prove the row's statement (the work); the ties are given (YtichkplomldgiaaGreatDoorTie.lean); close each card by the builder's one call (the guide's Derived/Test/ToyasCard.lean, 'card_holds'). Laid BY PROGRAM, IN A SANDBOX (cutbox-door.mjs). By AI agents, Wed Nov 11 2026. No macro, syntax, notation, axiom, sorry.
-/
import Derived.Test.YtichkplomldgiaaGreatDoorRows
import GoSem.ClaimSeven
namespace Go.Proofs.YtichkplomldgiaaGreatDoor
namespace Rows

/-- THE TIED CARD OF 'electionlaw14.RecordValid'. -/
def recordValidCard : Claim7 := { stood := { row := recordValidRow, standIns := [], harness := (true, "f8628e1dce445cab42d1bd18a74dddc7b89fce833f27ae61e330664a890dbf1f"), looks := true }, kinds := [], alts := [], laidByText := true, laidKinds := [.data, .data, .data, .data, .sentinel, .sentinel, .pinned], laidTests := true, laidLooks := .later }
def RecordValidCardSaid : Prop := Claim7.holds Tryz.pinned (.plain (OpenSpec.ofChange recordValidSpec)) recordValidCard

/-- THE TIED CARD OF 'electionlaw14.RecordPrefs'. -/
def recordPrefsCard : Claim7 := { stood := { row := recordPrefsRow, standIns := [], harness := (true, "f8628e1dce445cab42d1bd18a74dddc7b89fce833f27ae61e330664a890dbf1f"), looks := true }, kinds := [], alts := [], laidByText := true, laidKinds := [.data, .data, .data, .data, .sentinel, .sentinel, .pinned], laidTests := true, laidLooks := .later }
def RecordPrefsCardSaid : Prop := Claim7.holds Tryz.pinned (.plain (OpenSpec.ofChange recordPrefsSpec)) recordPrefsCard

/-- THE TIED CARD OF 'electionlaw14.RecordEqual'. -/
def recordEqualCard : Claim7 := { stood := { row := recordEqualRow, standIns := [], harness := (true, "f8628e1dce445cab42d1bd18a74dddc7b89fce833f27ae61e330664a890dbf1f"), looks := true }, kinds := [], alts := [], laidByText := true, laidKinds := [.data, .data, .data, .data, .sentinel, .sentinel, .pinned], laidTests := true, laidLooks := .later }
def RecordEqualCardSaid : Prop := Claim7.holds Tryz.pinned (.plain (OpenSpec.ofChange recordEqualSpec)) recordEqualCard

/-- THE TIED CARD OF 'electionlaw14.RecordCode'. -/
def recordCodeCard : Claim7 := { stood := { row := recordCodeRow, standIns := [], harness := (true, "f8628e1dce445cab42d1bd18a74dddc7b89fce833f27ae61e330664a890dbf1f"), looks := true }, kinds := [], alts := [], laidByText := true, laidKinds := [.data, .data, .data, .data, .sentinel, .sentinel, .pinned], laidTests := true, laidLooks := .later }
def RecordCodeCardSaid : Prop := Claim7.holds Tryz.pinned (.plain (OpenSpec.ofChange recordCodeSpec)) recordCodeCard

/-- THE TIED CARD OF 'electionlaw14.RecordDecode'. -/
def recordDecodeCard : Claim7 := { stood := { row := recordDecodeRow, standIns := [], harness := (true, "f8628e1dce445cab42d1bd18a74dddc7b89fce833f27ae61e330664a890dbf1f"), looks := true }, kinds := [], alts := [], laidByText := true, laidKinds := [.data, .data, .data, .data, .sentinel, .sentinel, .pinned], laidTests := true, laidLooks := .later }
def RecordDecodeCardSaid : Prop := Claim7.holds Tryz.pinned (.plain (OpenSpec.ofChange recordDecodeSpec)) recordDecodeCard

/-- THE TIED CARD OF 'electionlaw08.SchemaText'. -/
def schemaTextCard : Claim7 := { stood := { row := schemaTextRow, standIns := [], harness := (true, "f8628e1dce445cab42d1bd18a74dddc7b89fce833f27ae61e330664a890dbf1f"), looks := true }, kinds := [], alts := [], laidByText := true, laidKinds := [.data, .data, .data, .data, .sentinel, .sentinel, .pinned], laidTests := true, laidLooks := .later }
def SchemaTextCardSaid : Prop := Claim7.holds Tryz.pinned (.plain (OpenSpec.ofChange schemaTextSpec)) schemaTextCard

/-- THE TIED CARD OF 'electionlaw08.SchemaLines'. -/
def schemaLinesCard : Claim7 := { stood := { row := schemaLinesRow, standIns := [], harness := (true, "f8628e1dce445cab42d1bd18a74dddc7b89fce833f27ae61e330664a890dbf1f"), looks := true }, kinds := [], alts := [], laidByText := true, laidKinds := [.data, .data, .data, .data, .sentinel, .sentinel, .pinned], laidTests := true, laidLooks := .later }
def SchemaLinesCardSaid : Prop := Claim7.holds Tryz.pinned (.plain (OpenSpec.ofChange schemaLinesSpec)) schemaLinesCard

/-- THE TIED CARD OF 'electionlaw08.SchemaOrder'. -/
def schemaOrderCard : Claim7 := { stood := { row := schemaOrderRow, standIns := [], harness := (true, "f8628e1dce445cab42d1bd18a74dddc7b89fce833f27ae61e330664a890dbf1f"), looks := true }, kinds := [], alts := [], laidByText := true, laidKinds := [.data, .data, .data, .data, .sentinel, .sentinel, .pinned], laidTests := true, laidLooks := .later }
def SchemaOrderCardSaid : Prop := Claim7.holds Tryz.pinned (.plain (OpenSpec.ofChange schemaOrderSpec)) schemaOrderCard

/-- THE TIED CARD OF 'electionlaw08.SchemaRound'. -/
def schemaRoundCard : Claim7 := { stood := { row := schemaRoundRow, standIns := [], harness := (true, "f8628e1dce445cab42d1bd18a74dddc7b89fce833f27ae61e330664a890dbf1f"), looks := true }, kinds := [], alts := [], laidByText := true, laidKinds := [.data, .data, .data, .data, .sentinel, .sentinel, .pinned], laidTests := true, laidLooks := .later }
def SchemaRoundCardSaid : Prop := Claim7.holds Tryz.pinned (.plain (OpenSpec.ofChange schemaRoundSpec)) schemaRoundCard

/-- THE SECOND FORM's CARD OF 'electionlaw14.RecordValid'. -/
def recordValidUptoCard : Claim7 := { stood := { row := recordValidUptoRow, standIns := [], harness := (true, "f8628e1dce445cab42d1bd18a74dddc7b89fce833f27ae61e330664a890dbf1f"), looks := true }, kinds := [], alts := [], laidByText := true, laidKinds := [.data, .data, .data, .data, .sentinel, .sentinel, .pinned], laidTests := true, laidLooks := .later }
def RecordValidUptoCardSaid : Prop := Claim7.holds Tryz.pinned (.plain (OpenSpec.upto recordValidSpec)) recordValidUptoCard

/-- THE SECOND FORM's CARD OF 'electionlaw14.RecordPrefs'. -/
def recordPrefsUptoCard : Claim7 := { stood := { row := recordPrefsUptoRow, standIns := [], harness := (true, "f8628e1dce445cab42d1bd18a74dddc7b89fce833f27ae61e330664a890dbf1f"), looks := true }, kinds := [], alts := [], laidByText := true, laidKinds := [.data, .data, .data, .data, .sentinel, .sentinel, .pinned], laidTests := true, laidLooks := .later }
def RecordPrefsUptoCardSaid : Prop := Claim7.holds Tryz.pinned (.plain (OpenSpec.upto recordPrefsSpec)) recordPrefsUptoCard

/-- THE SECOND FORM's CARD OF 'electionlaw14.RecordEqual'. -/
def recordEqualUptoCard : Claim7 := { stood := { row := recordEqualUptoRow, standIns := [], harness := (true, "f8628e1dce445cab42d1bd18a74dddc7b89fce833f27ae61e330664a890dbf1f"), looks := true }, kinds := [], alts := [], laidByText := true, laidKinds := [.data, .data, .data, .data, .sentinel, .sentinel, .pinned], laidTests := true, laidLooks := .later }
def RecordEqualUptoCardSaid : Prop := Claim7.holds Tryz.pinned (.plain (OpenSpec.upto recordEqualSpec)) recordEqualUptoCard

/-- THE SECOND FORM's CARD OF 'electionlaw14.RecordCode'. -/
def recordCodeUptoCard : Claim7 := { stood := { row := recordCodeUptoRow, standIns := [], harness := (true, "f8628e1dce445cab42d1bd18a74dddc7b89fce833f27ae61e330664a890dbf1f"), looks := true }, kinds := [], alts := [], laidByText := true, laidKinds := [.data, .data, .data, .data, .sentinel, .sentinel, .pinned], laidTests := true, laidLooks := .later }
def RecordCodeUptoCardSaid : Prop := Claim7.holds Tryz.pinned (.plain (OpenSpec.upto recordCodeSpec)) recordCodeUptoCard

/-- THE SECOND FORM's CARD OF 'electionlaw14.RecordDecode'. -/
def recordDecodeUptoCard : Claim7 := { stood := { row := recordDecodeUptoRow, standIns := [], harness := (true, "f8628e1dce445cab42d1bd18a74dddc7b89fce833f27ae61e330664a890dbf1f"), looks := true }, kinds := [], alts := [], laidByText := true, laidKinds := [.data, .data, .data, .data, .sentinel, .sentinel, .pinned], laidTests := true, laidLooks := .later }
def RecordDecodeUptoCardSaid : Prop := Claim7.holds Tryz.pinned (.plain (OpenSpec.upto recordDecodeSpec)) recordDecodeUptoCard

/-- THE SECOND FORM's CARD OF 'electionlaw08.SchemaText'. -/
def schemaTextUptoCard : Claim7 := { stood := { row := schemaTextUptoRow, standIns := [], harness := (true, "f8628e1dce445cab42d1bd18a74dddc7b89fce833f27ae61e330664a890dbf1f"), looks := true }, kinds := [], alts := [], laidByText := true, laidKinds := [.data, .data, .data, .data, .sentinel, .sentinel, .pinned], laidTests := true, laidLooks := .later }
def SchemaTextUptoCardSaid : Prop := Claim7.holds Tryz.pinned (.plain (OpenSpec.upto schemaTextSpec)) schemaTextUptoCard

/-- THE SECOND FORM's CARD OF 'electionlaw08.SchemaLines'. -/
def schemaLinesUptoCard : Claim7 := { stood := { row := schemaLinesUptoRow, standIns := [], harness := (true, "f8628e1dce445cab42d1bd18a74dddc7b89fce833f27ae61e330664a890dbf1f"), looks := true }, kinds := [], alts := [], laidByText := true, laidKinds := [.data, .data, .data, .data, .sentinel, .sentinel, .pinned], laidTests := true, laidLooks := .later }
def SchemaLinesUptoCardSaid : Prop := Claim7.holds Tryz.pinned (.plain (OpenSpec.upto schemaLinesSpec)) schemaLinesUptoCard

/-- THE SECOND FORM's CARD OF 'electionlaw08.SchemaOrder'. -/
def schemaOrderUptoCard : Claim7 := { stood := { row := schemaOrderUptoRow, standIns := [], harness := (true, "f8628e1dce445cab42d1bd18a74dddc7b89fce833f27ae61e330664a890dbf1f"), looks := true }, kinds := [], alts := [], laidByText := true, laidKinds := [.data, .data, .data, .data, .sentinel, .sentinel, .pinned], laidTests := true, laidLooks := .later }
def SchemaOrderUptoCardSaid : Prop := Claim7.holds Tryz.pinned (.plain (OpenSpec.upto schemaOrderSpec)) schemaOrderUptoCard

/-- THE SECOND FORM's CARD OF 'electionlaw08.SchemaRound'. -/
def schemaRoundUptoCard : Claim7 := { stood := { row := schemaRoundUptoRow, standIns := [], harness := (true, "f8628e1dce445cab42d1bd18a74dddc7b89fce833f27ae61e330664a890dbf1f"), looks := true }, kinds := [], alts := [], laidByText := true, laidKinds := [.data, .data, .data, .data, .sentinel, .sentinel, .pinned], laidTests := true, laidLooks := .later }
def SchemaRoundUptoCardSaid : Prop := Claim7.holds Tryz.pinned (.plain (OpenSpec.upto schemaRoundSpec)) schemaRoundUptoCard
end Rows
end Go.Proofs.YtichkplomldgiaaGreatDoor
