/-
  DERIVED. GIVEN WITH THE SEED: THE CARDS: each row of YtbojljpldcijgaaGreatDoorRows.lean that lists a variable, with what it lists TIED to the program's text (the seventh form; the later family's looks); each row that meets fmt, with fmt's text TOLD by the authors' own Lean function (tested against real Go, not proved from fmt's source: count such statements apart). THE CARD IS WHAT COUNTS. Prove the row's statement (the work); the ties are given (YtbojljpldcijgaaGreatDoorTie.lean); close each card by the builder's one call (the guide's Derived/Test/ToyasCard.lean, 'card_holds'). Laid BY PROGRAM, IN A SANDBOX (cutbox-door.mjs). By AI agents, Wed Nov 11 2026. No macro, syntax, notation, axiom, sorry.
-/
import Derived.Test.YtbojljpldcijgaaGreatDoorRows
import GoSem.ClaimSeven
namespace Go.Proofs.YtbojljpldcijgaaGreatDoor
namespace Rows

/-- THE TIED CARD OF 'hornbeamlaw10.ReadIntegers'. -/
def readIntegersCard : Claim7 := { stood := { row := readIntegersRow, standIns := [], harness := (true, "6272f06019572d53beceba156e840d618af927f57e8d789ef8e90e50e0dd2596"), looks := true }, kinds := [], alts := [], laidByText := true, laidKinds := [.data, .data, .data], laidTests := true, laidLooks := .later }
def ReadIntegersCardSaid : Prop := Claim7.holds Tryz.pinned (.plain (OpenSpec.ofChange readIntegersSpec)) readIntegersCard

/-- THE SECOND FORM's CARD OF 'hornbeamlaw10.ReadIntegers'. -/
def readIntegersUptoCard : Claim7 := { stood := { row := readIntegersUptoRow, standIns := [], harness := (true, "6272f06019572d53beceba156e840d618af927f57e8d789ef8e90e50e0dd2596"), looks := true }, kinds := [], alts := [], laidByText := true, laidKinds := [.data, .data, .data], laidTests := true, laidLooks := .later }
def ReadIntegersUptoCardSaid : Prop := Claim7.holds Tryz.pinned (.plain (OpenSpec.upto readIntegersSpec)) readIntegersUptoCard
end Rows
end Go.Proofs.YtbojljpldcijgaaGreatDoor
