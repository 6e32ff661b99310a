/-
  DERIVED. GIVEN WITH THE SEED: THE CARDS: each row of YtjlhbfbdcfajfaaGreatDoorRows.lean that lists a variable, with what it lists TIED to the program's text (the seventh form; the later family's looks); each row that meets fmt, with fmt's text TOLD by the authors' own Lean function (tested against real Go, not proved from fmt's source: count such statements apart). THE CARD IS WHAT COUNTS. Prove the row's statement (the work); the ties are given (YtjlhbfbdcfajfaaGreatDoorTie.lean); close each card by the builder's one call (the guide's Derived/Test/ToyasCard.lean, 'card_holds'). Laid BY PROGRAM, IN A SANDBOX (cutbox-door.mjs). By AI agents, Wed Nov 11 2026. No macro, syntax, notation, axiom, sorry.
-/
import Derived.Test.YtjlhbfbdcfajfaaGreatDoorRows
import GoSem.ClaimSeven
namespace Go.Proofs.YtjlhbfbdcfajfaaGreatDoor
namespace Rows

/-- THE TIED CARD OF 'electionlaw20.AccountValid'. -/
def accountValidCard : Claim7 := { stood := { row := accountValidRow, standIns := [], harness := (true, "a906bc379d0f90a3b95bfd1f6a063ced6bc461ce193c6295d0692cab14678bca"), looks := true }, kinds := [], alts := [], laidByText := true, laidKinds := [.data, .data, .data, .data, .sentinel, .sentinel, .pinned], laidTests := true, laidLooks := .later }
def AccountValidCardSaid : Prop := Claim7.holds Tryz.pinned (.plain (OpenSpec.ofChange accountValidSpec)) accountValidCard

/-- THE TIED CARD OF 'electionlaw20.AccountGaps'. -/
def accountGapsCard : Claim7 := { stood := { row := accountGapsRow, standIns := [], harness := (true, "a906bc379d0f90a3b95bfd1f6a063ced6bc461ce193c6295d0692cab14678bca"), looks := true }, kinds := [], alts := [], laidByText := true, laidKinds := [.data, .data, .data, .data, .sentinel, .sentinel, .pinned], laidTests := true, laidLooks := .later }
def AccountGapsCardSaid : Prop := Claim7.holds Tryz.pinned (.plain (OpenSpec.ofChange accountGapsSpec)) accountGapsCard

/-- THE TIED CARD OF 'electionlaw20.AccountSum'. -/
def accountSumCard : Claim7 := { stood := { row := accountSumRow, standIns := [], harness := (true, "a906bc379d0f90a3b95bfd1f6a063ced6bc461ce193c6295d0692cab14678bca"), looks := true }, kinds := [], alts := [], laidByText := true, laidKinds := [.data, .data, .data, .data, .sentinel, .sentinel, .pinned], laidTests := true, laidLooks := .later }
def AccountSumCardSaid : Prop := Claim7.holds Tryz.pinned (.plain (OpenSpec.ofChange accountSumSpec)) accountSumCard

/-- THE TIED CARD OF 'electionlaw20.AccountMany'. -/
def accountManyCard : Claim7 := { stood := { row := accountManyRow, standIns := [], harness := (true, "a906bc379d0f90a3b95bfd1f6a063ced6bc461ce193c6295d0692cab14678bca"), looks := true }, kinds := [], alts := [], laidByText := true, laidKinds := [.data, .data, .data, .data, .sentinel, .sentinel, .pinned], laidTests := true, laidLooks := .later }
def AccountManyCardSaid : Prop := Claim7.holds Tryz.pinned (.plain (OpenSpec.ofChange accountManySpec)) accountManyCard

/-- THE TIED CARD OF 'electionlaw20.AccountDecode'. -/
def accountDecodeCard : Claim7 := { stood := { row := accountDecodeRow, standIns := [], harness := (true, "a906bc379d0f90a3b95bfd1f6a063ced6bc461ce193c6295d0692cab14678bca"), looks := true }, kinds := [], alts := [], laidByText := true, laidKinds := [.data, .data, .data, .data, .sentinel, .sentinel, .pinned], laidTests := true, laidLooks := .later }
def AccountDecodeCardSaid : Prop := Claim7.holds Tryz.pinned (.plain (OpenSpec.ofChange accountDecodeSpec)) accountDecodeCard

/-- THE TIED CARD OF 'electionlaw20.AccountCode'. -/
def accountCodeCard : Claim7 := { stood := { row := accountCodeRow, standIns := [], harness := (true, "a906bc379d0f90a3b95bfd1f6a063ced6bc461ce193c6295d0692cab14678bca"), looks := true }, kinds := [], alts := [], laidByText := true, laidKinds := [.data, .data, .data, .data, .sentinel, .sentinel, .pinned], laidTests := true, laidLooks := .later }
def AccountCodeCardSaid : Prop := Claim7.holds Tryz.pinned (.plain (OpenSpec.ofChange accountCodeSpec)) accountCodeCard

/-- THE TIED CARD OF 'electionlaw20.AccountRecords'. -/
def accountRecordsCard : Claim7 := { stood := { row := accountRecordsRow, standIns := [], harness := (true, "a906bc379d0f90a3b95bfd1f6a063ced6bc461ce193c6295d0692cab14678bca"), looks := true }, kinds := [], alts := [], laidByText := true, laidKinds := [.data, .data, .data, .data, .sentinel, .sentinel, .pinned], laidTests := true, laidLooks := .later }
def AccountRecordsCardSaid : Prop := Claim7.holds Tryz.pinned (.plain (OpenSpec.ofChange accountRecordsSpec)) accountRecordsCard

/-- THE SECOND FORM's CARD OF 'electionlaw20.AccountValid'. -/
def accountValidUptoCard : Claim7 := { stood := { row := accountValidUptoRow, standIns := [], harness := (true, "a906bc379d0f90a3b95bfd1f6a063ced6bc461ce193c6295d0692cab14678bca"), looks := true }, kinds := [], alts := [], laidByText := true, laidKinds := [.data, .data, .data, .data, .sentinel, .sentinel, .pinned], laidTests := true, laidLooks := .later }
def AccountValidUptoCardSaid : Prop := Claim7.holds Tryz.pinned (.plain (OpenSpec.upto accountValidSpec)) accountValidUptoCard

/-- THE SECOND FORM's CARD OF 'electionlaw20.AccountGaps'. -/
def accountGapsUptoCard : Claim7 := { stood := { row := accountGapsUptoRow, standIns := [], harness := (true, "a906bc379d0f90a3b95bfd1f6a063ced6bc461ce193c6295d0692cab14678bca"), looks := true }, kinds := [], alts := [], laidByText := true, laidKinds := [.data, .data, .data, .data, .sentinel, .sentinel, .pinned], laidTests := true, laidLooks := .later }
def AccountGapsUptoCardSaid : Prop := Claim7.holds Tryz.pinned (.plain (OpenSpec.upto accountGapsSpec)) accountGapsUptoCard

/-- THE SECOND FORM's CARD OF 'electionlaw20.AccountSum'. -/
def accountSumUptoCard : Claim7 := { stood := { row := accountSumUptoRow, standIns := [], harness := (true, "a906bc379d0f90a3b95bfd1f6a063ced6bc461ce193c6295d0692cab14678bca"), looks := true }, kinds := [], alts := [], laidByText := true, laidKinds := [.data, .data, .data, .data, .sentinel, .sentinel, .pinned], laidTests := true, laidLooks := .later }
def AccountSumUptoCardSaid : Prop := Claim7.holds Tryz.pinned (.plain (OpenSpec.upto accountSumSpec)) accountSumUptoCard

/-- THE SECOND FORM's CARD OF 'electionlaw20.AccountMany'. -/
def accountManyUptoCard : Claim7 := { stood := { row := accountManyUptoRow, standIns := [], harness := (true, "a906bc379d0f90a3b95bfd1f6a063ced6bc461ce193c6295d0692cab14678bca"), looks := true }, kinds := [], alts := [], laidByText := true, laidKinds := [.data, .data, .data, .data, .sentinel, .sentinel, .pinned], laidTests := true, laidLooks := .later }
def AccountManyUptoCardSaid : Prop := Claim7.holds Tryz.pinned (.plain (OpenSpec.upto accountManySpec)) accountManyUptoCard

/-- THE SECOND FORM's CARD OF 'electionlaw20.AccountDecode'. -/
def accountDecodeUptoCard : Claim7 := { stood := { row := accountDecodeUptoRow, standIns := [], harness := (true, "a906bc379d0f90a3b95bfd1f6a063ced6bc461ce193c6295d0692cab14678bca"), looks := true }, kinds := [], alts := [], laidByText := true, laidKinds := [.data, .data, .data, .data, .sentinel, .sentinel, .pinned], laidTests := true, laidLooks := .later }
def AccountDecodeUptoCardSaid : Prop := Claim7.holds Tryz.pinned (.plain (OpenSpec.upto accountDecodeSpec)) accountDecodeUptoCard

/-- THE SECOND FORM's CARD OF 'electionlaw20.AccountCode'. -/
def accountCodeUptoCard : Claim7 := { stood := { row := accountCodeUptoRow, standIns := [], harness := (true, "a906bc379d0f90a3b95bfd1f6a063ced6bc461ce193c6295d0692cab14678bca"), looks := true }, kinds := [], alts := [], laidByText := true, laidKinds := [.data, .data, .data, .data, .sentinel, .sentinel, .pinned], laidTests := true, laidLooks := .later }
def AccountCodeUptoCardSaid : Prop := Claim7.holds Tryz.pinned (.plain (OpenSpec.upto accountCodeSpec)) accountCodeUptoCard

/-- THE SECOND FORM's CARD OF 'electionlaw20.AccountRecords'. -/
def accountRecordsUptoCard : Claim7 := { stood := { row := accountRecordsUptoRow, standIns := [], harness := (true, "a906bc379d0f90a3b95bfd1f6a063ced6bc461ce193c6295d0692cab14678bca"), looks := true }, kinds := [], alts := [], laidByText := true, laidKinds := [.data, .data, .data, .data, .sentinel, .sentinel, .pinned], laidTests := true, laidLooks := .later }
def AccountRecordsUptoCardSaid : Prop := Claim7.holds Tryz.pinned (.plain (OpenSpec.upto accountRecordsSpec)) accountRecordsUptoCard
end Rows
end Go.Proofs.YtjlhbfbdcfajfaaGreatDoor
