/-
  DERIVED. GIVEN WITH THE SEED: THE CARDS: each row of YtlikcjbjibhjgaaGreatDoorRows.lean that lists a variable, with what it lists TIED to the program's text (the seventh form; the later family's looks); each row that meets fmt, with fmt's text TOLD by the authors' own Lean function (tested against real Go, not proved from fmt's source: count such statements apart). THE CARD IS WHAT COUNTS. Prove the row's statement (the work); the ties are given (YtlikcjbjibhjgaaGreatDoorTie.lean); close each card by the builder's one call (the guide's Derived/Test/ToyasCard.lean, 'card_holds'). Laid BY PROGRAM, IN A SANDBOX (cutbox-door.mjs). By AI agents, Wed Nov 11 2026. No macro, syntax, notation, axiom, sorry.
-/
import Derived.Test.YtlikcjbjibhjgaaGreatDoorRows
import GoSem.ClaimSeven
namespace Go.Proofs.YtlikcjbjibhjgaaGreatDoor
namespace Rows

/-- THE TIED CARD OF 'hornbeamtop.TopReads'. -/
def topReadsCard : Claim7 := { stood := { row := topReadsRow, standIns := [], harness := (true, "6d59e5fe256c53df3fdc3c1f25631e422bb21630f11bd8947aec4c6ca14845b0"), looks := true }, kinds := [], alts := [], laidByText := true, laidKinds := [.data, .data, .data], laidTests := true, laidLooks := .later }
def TopReadsCardSaid : Prop := Claim7.holds Tryz.pinned (.plain (OpenSpec.ofChange topReadsSpec)) topReadsCard

/-- THE SECOND FORM's CARD OF 'hornbeamtop.TopReads'. -/
def topReadsUptoCard : Claim7 := { stood := { row := topReadsUptoRow, standIns := [], harness := (true, "6d59e5fe256c53df3fdc3c1f25631e422bb21630f11bd8947aec4c6ca14845b0"), looks := true }, kinds := [], alts := [], laidByText := true, laidKinds := [.data, .data, .data], laidTests := true, laidLooks := .later }
def TopReadsUptoCardSaid : Prop := Claim7.holds Tryz.pinned (.plain (OpenSpec.upto topReadsSpec)) topReadsUptoCard
end Rows
end Go.Proofs.YtlikcjbjibhjgaaGreatDoor
