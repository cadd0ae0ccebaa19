/-
  DERIVED. GIVEN WITH THE SEED: THE CARDS: each row of YtpokpgkjaifccaaGreatDoorRRRows.lean that lists a variable, with what it lists TIED to the program's text (the seventh form; the later family's looks); each row that meets fmt, with fmt's text TOLD by the authors' own Lean function (tested against real Go, not proved from fmt's source: count such statements apart). THE CARD IS WHAT COUNTS. Prove the row's statement (the work); the ties are given (YtpokpgkjaifccaaGreatDoorRRTie.lean); close each card by the builder's one call (the guide's Derived/Test/ToyasCard.lean, 'card_holds'). Laid BY PROGRAM, IN A SANDBOX (cutbox-door.mjs). By AI agents, Wed Nov 11 2026. No macro, syntax, notation, axiom, sorry.
-/
import Derived.Test.YtpokpgkjaifccaaGreatDoorRRRows
import GoSem.ClaimSeven
namespace Go.Proofs.YtpokpgkjaifccaaGreatDoorRR
namespace Rows

/-- THE TIED CARD OF 'hornbeamlaw15.AtomsHas'. -/
def atomsHasCard : Claim7 := { stood := { row := atomsHasRow, standIns := [], harness := (true, "8100ea2c2fb179d7bee71f224a3a8f553c2ba937ed35c8dd8127c5a20bc03272"), looks := true }, kinds := [], alts := [], laidByText := true, laidKinds := [.data, .data, .data], laidTests := true, laidLooks := .later }
def AtomsHasCardSaid : Prop := Claim7.holds Tryz.pinned (.plain (OpenSpec.ofChange atomsHasSpec)) atomsHasCard

/-- THE TIED CARD OF 'hornbeamlaw15.AtomsSubs'. -/
def atomsSubsCard : Claim7 := { stood := { row := atomsSubsRow, standIns := [], harness := (true, "8100ea2c2fb179d7bee71f224a3a8f553c2ba937ed35c8dd8127c5a20bc03272"), looks := true }, kinds := [], alts := [], laidByText := true, laidKinds := [.data, .data, .data], laidTests := true, laidLooks := .later }
def AtomsSubsCardSaid : Prop := Claim7.holds Tryz.pinned (.plain (OpenSpec.ofChange atomsSubsSpec)) atomsSubsCard

/-- THE TIED CARD OF 'hornbeamlaw15.AtomsBack'. -/
def atomsBackCard : Claim7 := { stood := { row := atomsBackRow, standIns := [], harness := (true, "8100ea2c2fb179d7bee71f224a3a8f553c2ba937ed35c8dd8127c5a20bc03272"), looks := true }, kinds := [], alts := [], laidByText := true, laidKinds := [.data, .data, .data], laidTests := true, laidLooks := .later }
def AtomsBackCardSaid : Prop := Claim7.holds Tryz.pinned (.plain (OpenSpec.ofChange atomsBackSpec)) atomsBackCard

/-- THE TIED CARD OF 'hornbeamlaw15.AtomsJoined'. -/
def atomsJoinedCard : Claim7 := { stood := { row := atomsJoinedRow, standIns := [], harness := (true, "8100ea2c2fb179d7bee71f224a3a8f553c2ba937ed35c8dd8127c5a20bc03272"), looks := true }, kinds := [], alts := [], laidByText := true, laidKinds := [.data, .data, .data], laidTests := true, laidLooks := .later }
def AtomsJoinedCardSaid : Prop := Claim7.holds Tryz.pinned (.plain (OpenSpec.ofChange atomsJoinedSpec)) atomsJoinedCard

/-- THE TIED CARD OF 'hornbeamlaw15.AtomsParts'. -/
def atomsPartsCard : Claim7 := { stood := { row := atomsPartsRow, standIns := [], harness := (true, "8100ea2c2fb179d7bee71f224a3a8f553c2ba937ed35c8dd8127c5a20bc03272"), looks := true }, kinds := [], alts := [], laidByText := true, laidKinds := [.data, .data, .data], laidTests := true, laidLooks := .later }
def AtomsPartsCardSaid : Prop := Claim7.holds Tryz.pinned (.plain (OpenSpec.ofChange atomsPartsSpec)) atomsPartsCard

/-- THE TIED CARD OF 'hornbeamlaw15.AtomsCodes'. -/
def atomsCodesCard : Claim7 := { stood := { row := atomsCodesRow, standIns := [], harness := (true, "8100ea2c2fb179d7bee71f224a3a8f553c2ba937ed35c8dd8127c5a20bc03272"), looks := true }, kinds := [], alts := [], laidByText := true, laidKinds := [.data, .data, .data], laidTests := true, laidLooks := .later }
def AtomsCodesCardSaid : Prop := Claim7.holds Tryz.pinned (.plain (OpenSpec.ofChange atomsCodesSpec)) atomsCodesCard

/-- THE TIED CARD OF 'hornbeamlaw15.AtomsDigits'. -/
def atomsDigitsCard : Claim7 := { stood := { row := atomsDigitsRow, standIns := [], harness := (true, "8100ea2c2fb179d7bee71f224a3a8f553c2ba937ed35c8dd8127c5a20bc03272"), looks := true }, kinds := [], alts := [], laidByText := true, laidKinds := [.data, .data, .data], laidTests := true, laidLooks := .later }
def AtomsDigitsCardSaid : Prop := Claim7.holds Tryz.pinned (.plain (OpenSpec.ofChange atomsDigitsSpec)) atomsDigitsCard

/-- THE SECOND FORM's CARD OF 'hornbeamlaw15.AtomsHas'. -/
def atomsHasUptoCard : Claim7 := { stood := { row := atomsHasUptoRow, standIns := [], harness := (true, "8100ea2c2fb179d7bee71f224a3a8f553c2ba937ed35c8dd8127c5a20bc03272"), looks := true }, kinds := [], alts := [], laidByText := true, laidKinds := [.data, .data, .data], laidTests := true, laidLooks := .later }
def AtomsHasUptoCardSaid : Prop := Claim7.holds Tryz.pinned (.plain (OpenSpec.upto atomsHasSpec)) atomsHasUptoCard

/-- THE SECOND FORM's CARD OF 'hornbeamlaw15.AtomsSubs'. -/
def atomsSubsUptoCard : Claim7 := { stood := { row := atomsSubsUptoRow, standIns := [], harness := (true, "8100ea2c2fb179d7bee71f224a3a8f553c2ba937ed35c8dd8127c5a20bc03272"), looks := true }, kinds := [], alts := [], laidByText := true, laidKinds := [.data, .data, .data], laidTests := true, laidLooks := .later }
def AtomsSubsUptoCardSaid : Prop := Claim7.holds Tryz.pinned (.plain (OpenSpec.upto atomsSubsSpec)) atomsSubsUptoCard

/-- THE SECOND FORM's CARD OF 'hornbeamlaw15.AtomsBack'. -/
def atomsBackUptoCard : Claim7 := { stood := { row := atomsBackUptoRow, standIns := [], harness := (true, "8100ea2c2fb179d7bee71f224a3a8f553c2ba937ed35c8dd8127c5a20bc03272"), looks := true }, kinds := [], alts := [], laidByText := true, laidKinds := [.data, .data, .data], laidTests := true, laidLooks := .later }
def AtomsBackUptoCardSaid : Prop := Claim7.holds Tryz.pinned (.plain (OpenSpec.upto atomsBackSpec)) atomsBackUptoCard

/-- THE SECOND FORM's CARD OF 'hornbeamlaw15.AtomsJoined'. -/
def atomsJoinedUptoCard : Claim7 := { stood := { row := atomsJoinedUptoRow, standIns := [], harness := (true, "8100ea2c2fb179d7bee71f224a3a8f553c2ba937ed35c8dd8127c5a20bc03272"), looks := true }, kinds := [], alts := [], laidByText := true, laidKinds := [.data, .data, .data], laidTests := true, laidLooks := .later }
def AtomsJoinedUptoCardSaid : Prop := Claim7.holds Tryz.pinned (.plain (OpenSpec.upto atomsJoinedSpec)) atomsJoinedUptoCard

/-- THE SECOND FORM's CARD OF 'hornbeamlaw15.AtomsParts'. -/
def atomsPartsUptoCard : Claim7 := { stood := { row := atomsPartsUptoRow, standIns := [], harness := (true, "8100ea2c2fb179d7bee71f224a3a8f553c2ba937ed35c8dd8127c5a20bc03272"), looks := true }, kinds := [], alts := [], laidByText := true, laidKinds := [.data, .data, .data], laidTests := true, laidLooks := .later }
def AtomsPartsUptoCardSaid : Prop := Claim7.holds Tryz.pinned (.plain (OpenSpec.upto atomsPartsSpec)) atomsPartsUptoCard

/-- THE SECOND FORM's CARD OF 'hornbeamlaw15.AtomsCodes'. -/
def atomsCodesUptoCard : Claim7 := { stood := { row := atomsCodesUptoRow, standIns := [], harness := (true, "8100ea2c2fb179d7bee71f224a3a8f553c2ba937ed35c8dd8127c5a20bc03272"), looks := true }, kinds := [], alts := [], laidByText := true, laidKinds := [.data, .data, .data], laidTests := true, laidLooks := .later }
def AtomsCodesUptoCardSaid : Prop := Claim7.holds Tryz.pinned (.plain (OpenSpec.upto atomsCodesSpec)) atomsCodesUptoCard

/-- THE SECOND FORM's CARD OF 'hornbeamlaw15.AtomsDigits'. -/
def atomsDigitsUptoCard : Claim7 := { stood := { row := atomsDigitsUptoRow, standIns := [], harness := (true, "8100ea2c2fb179d7bee71f224a3a8f553c2ba937ed35c8dd8127c5a20bc03272"), looks := true }, kinds := [], alts := [], laidByText := true, laidKinds := [.data, .data, .data], laidTests := true, laidLooks := .later }
def AtomsDigitsUptoCardSaid : Prop := Claim7.holds Tryz.pinned (.plain (OpenSpec.upto atomsDigitsSpec)) atomsDigitsUptoCard
end Rows
end Go.Proofs.YtpokpgkjaifccaaGreatDoorRR
