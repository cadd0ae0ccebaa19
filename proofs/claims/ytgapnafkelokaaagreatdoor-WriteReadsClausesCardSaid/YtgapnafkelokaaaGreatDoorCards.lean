/-
  DERIVED. GIVEN WITH THE SEED: THE CARDS: each row of YtgapnafkelokaaaGreatDoorRows.lean that lists a variable, with what it lists TIED to the program's text (the seventh form; the later family's looks); each row that meets fmt, with fmt's text TOLD by the authors' own Lean function (tested against real Go, not proved from fmt's source: count such statements apart). THE CARD IS WHAT COUNTS. Prove the row's statement (the work); the ties are given (YtgapnafkelokaaaGreatDoorTie.lean); close each card by the builder's one call (the guide's Derived/Test/ToyasCard.lean, 'card_holds'). Laid BY PROGRAM, IN A SANDBOX (cutbox-door.mjs). By AI agents, Wed Nov 11 2026. No macro, syntax, notation, axiom, sorry.
-/
import Derived.Test.YtgapnafkelokaaaGreatDoorRows
import GoSem.ClaimSeven
namespace Go.Proofs.YtgapnafkelokaaaGreatDoor
namespace Rows

/-- THE TIED CARD OF 'hornbeamlaw12.WritePieces'. -/
def writePiecesCard : Claim7 := { stood := { row := writePiecesRow, standIns := [], harness := (true, "d6551f27007a73d1c056a47515f7822a96e9d45c5d7baebd723bfcae58482b59"), looks := true }, kinds := [], alts := [], laidByText := true, laidKinds := [.data, .data, .data], laidTests := true, laidLooks := .later }
def WritePiecesCardSaid : Prop := Claim7.holds Tryz.pinned (.plain (OpenSpec.ofChange writePiecesSpec)) writePiecesCard

/-- THE TIED CARD OF 'hornbeamlaw12.WriteClauses'. -/
def writeClausesCard : Claim7 := { stood := { row := writeClausesRow, standIns := [], harness := (true, "d6551f27007a73d1c056a47515f7822a96e9d45c5d7baebd723bfcae58482b59"), looks := true }, kinds := [], alts := [], laidByText := true, laidKinds := [.data, .data, .data], laidTests := true, laidLooks := .later }
def WriteClausesCardSaid : Prop := Claim7.holds Tryz.pinned (.plain (OpenSpec.ofChange writeClausesSpec)) writeClausesCard

/-- THE TIED CARD OF 'hornbeamlaw12.WriteIgnores'. -/
def writeIgnoresCard : Claim7 := { stood := { row := writeIgnoresRow, standIns := [], harness := (true, "d6551f27007a73d1c056a47515f7822a96e9d45c5d7baebd723bfcae58482b59"), looks := true }, kinds := [], alts := [], laidByText := true, laidKinds := [.data, .data, .data], laidTests := true, laidLooks := .later }
def WriteIgnoresCardSaid : Prop := Claim7.holds Tryz.pinned (.plain (OpenSpec.ofChange writeIgnoresSpec)) writeIgnoresCard

/-- THE TIED CARD OF 'hornbeamlaw12.WriteLists'. -/
def writeListsCard : Claim7 := { stood := { row := writeListsRow, standIns := [], harness := (true, "d6551f27007a73d1c056a47515f7822a96e9d45c5d7baebd723bfcae58482b59"), looks := true }, kinds := [], alts := [], laidByText := true, laidKinds := [.data, .data, .data], laidTests := true, laidLooks := .later }
def WriteListsCardSaid : Prop := Claim7.holds Tryz.pinned (.plain (OpenSpec.ofChange writeListsSpec)) writeListsCard

/-- THE TIED CARD OF 'hornbeamlaw12.WriteVariants'. -/
def writeVariantsCard : Claim7 := { stood := { row := writeVariantsRow, standIns := [], harness := (true, "d6551f27007a73d1c056a47515f7822a96e9d45c5d7baebd723bfcae58482b59"), looks := true }, kinds := [], alts := [], laidByText := true, laidKinds := [.data, .data, .data], laidTests := true, laidLooks := .later }
def WriteVariantsCardSaid : Prop := Claim7.holds Tryz.pinned (.plain (OpenSpec.ofChange writeVariantsSpec)) writeVariantsCard

/-- THE TIED CARD OF 'hornbeamlaw12.WriteReads'. -/
def writeReadsCard : Claim7 := { stood := { row := writeReadsRow, standIns := [], harness := (true, "d6551f27007a73d1c056a47515f7822a96e9d45c5d7baebd723bfcae58482b59"), looks := true }, kinds := [], alts := [], laidByText := true, laidKinds := [.data, .data, .data], laidTests := true, laidLooks := .later }
def WriteReadsCardSaid : Prop := Claim7.holds Tryz.pinned (.plain (OpenSpec.ofChange writeReadsSpec)) writeReadsCard

/-- THE TIED CARD OF 'hornbeamlaw12.WriteReadsClauses'. -/
def writeReadsClausesCard : Claim7 := { stood := { row := writeReadsClausesRow, standIns := [], harness := (true, "d6551f27007a73d1c056a47515f7822a96e9d45c5d7baebd723bfcae58482b59"), looks := true }, kinds := [], alts := [], laidByText := true, laidKinds := [.data, .data, .data], laidTests := true, laidLooks := .later }
def WriteReadsClausesCardSaid : Prop := Claim7.holds Tryz.pinned (.plain (OpenSpec.ofChange writeReadsClausesSpec)) writeReadsClausesCard

/-- THE SECOND FORM's CARD OF 'hornbeamlaw12.WritePieces'. -/
def writePiecesUptoCard : Claim7 := { stood := { row := writePiecesUptoRow, standIns := [], harness := (true, "d6551f27007a73d1c056a47515f7822a96e9d45c5d7baebd723bfcae58482b59"), looks := true }, kinds := [], alts := [], laidByText := true, laidKinds := [.data, .data, .data], laidTests := true, laidLooks := .later }
def WritePiecesUptoCardSaid : Prop := Claim7.holds Tryz.pinned (.plain (OpenSpec.upto writePiecesSpec)) writePiecesUptoCard

/-- THE SECOND FORM's CARD OF 'hornbeamlaw12.WriteClauses'. -/
def writeClausesUptoCard : Claim7 := { stood := { row := writeClausesUptoRow, standIns := [], harness := (true, "d6551f27007a73d1c056a47515f7822a96e9d45c5d7baebd723bfcae58482b59"), looks := true }, kinds := [], alts := [], laidByText := true, laidKinds := [.data, .data, .data], laidTests := true, laidLooks := .later }
def WriteClausesUptoCardSaid : Prop := Claim7.holds Tryz.pinned (.plain (OpenSpec.upto writeClausesSpec)) writeClausesUptoCard

/-- THE SECOND FORM's CARD OF 'hornbeamlaw12.WriteIgnores'. -/
def writeIgnoresUptoCard : Claim7 := { stood := { row := writeIgnoresUptoRow, standIns := [], harness := (true, "d6551f27007a73d1c056a47515f7822a96e9d45c5d7baebd723bfcae58482b59"), looks := true }, kinds := [], alts := [], laidByText := true, laidKinds := [.data, .data, .data], laidTests := true, laidLooks := .later }
def WriteIgnoresUptoCardSaid : Prop := Claim7.holds Tryz.pinned (.plain (OpenSpec.upto writeIgnoresSpec)) writeIgnoresUptoCard

/-- THE SECOND FORM's CARD OF 'hornbeamlaw12.WriteLists'. -/
def writeListsUptoCard : Claim7 := { stood := { row := writeListsUptoRow, standIns := [], harness := (true, "d6551f27007a73d1c056a47515f7822a96e9d45c5d7baebd723bfcae58482b59"), looks := true }, kinds := [], alts := [], laidByText := true, laidKinds := [.data, .data, .data], laidTests := true, laidLooks := .later }
def WriteListsUptoCardSaid : Prop := Claim7.holds Tryz.pinned (.plain (OpenSpec.upto writeListsSpec)) writeListsUptoCard

/-- THE SECOND FORM's CARD OF 'hornbeamlaw12.WriteVariants'. -/
def writeVariantsUptoCard : Claim7 := { stood := { row := writeVariantsUptoRow, standIns := [], harness := (true, "d6551f27007a73d1c056a47515f7822a96e9d45c5d7baebd723bfcae58482b59"), looks := true }, kinds := [], alts := [], laidByText := true, laidKinds := [.data, .data, .data], laidTests := true, laidLooks := .later }
def WriteVariantsUptoCardSaid : Prop := Claim7.holds Tryz.pinned (.plain (OpenSpec.upto writeVariantsSpec)) writeVariantsUptoCard

/-- THE SECOND FORM's CARD OF 'hornbeamlaw12.WriteReads'. -/
def writeReadsUptoCard : Claim7 := { stood := { row := writeReadsUptoRow, standIns := [], harness := (true, "d6551f27007a73d1c056a47515f7822a96e9d45c5d7baebd723bfcae58482b59"), looks := true }, kinds := [], alts := [], laidByText := true, laidKinds := [.data, .data, .data], laidTests := true, laidLooks := .later }
def WriteReadsUptoCardSaid : Prop := Claim7.holds Tryz.pinned (.plain (OpenSpec.upto writeReadsSpec)) writeReadsUptoCard

/-- THE SECOND FORM's CARD OF 'hornbeamlaw12.WriteReadsClauses'. -/
def writeReadsClausesUptoCard : Claim7 := { stood := { row := writeReadsClausesUptoRow, standIns := [], harness := (true, "d6551f27007a73d1c056a47515f7822a96e9d45c5d7baebd723bfcae58482b59"), looks := true }, kinds := [], alts := [], laidByText := true, laidKinds := [.data, .data, .data], laidTests := true, laidLooks := .later }
def WriteReadsClausesUptoCardSaid : Prop := Claim7.holds Tryz.pinned (.plain (OpenSpec.upto writeReadsClausesSpec)) writeReadsClausesUptoCard
end Rows
end Go.Proofs.YtgapnafkelokaaaGreatDoor
