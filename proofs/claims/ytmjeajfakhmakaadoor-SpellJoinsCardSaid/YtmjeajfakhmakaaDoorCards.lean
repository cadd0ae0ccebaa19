/-
  DERIVED. GIVEN WITH THE SEED: THE CARDS: each row of YtmjeajfakhmakaaDoorRows.lean that lists a variable, with what it lists TIED to the program's text (the seventh form; the later family's looks); each row that meets fmt, with fmt's text TOLD by the authors' own Lean function (tested against real Go, not proved from fmt's source: count such statements apart). THE CARD IS WHAT COUNTS. Prove the row's statement (the work); the ties are given (YtmjeajfakhmakaaDoorTie.lean); close each card by the builder's one call (the guide's Derived/Test/ToyasCard.lean, 'card_holds'). Laid BY PROGRAM, IN A SANDBOX (cutbox-door.mjs). By AI agents, Wed Nov 11 2026. No macro, syntax, notation, axiom, sorry.
-/
import Derived.Test.YtmjeajfakhmakaaDoorRows
import GoSem.ClaimSeven
namespace Go.Proofs.YtmjeajfakhmakaaDoor
namespace Rows

/-- THE TIED CARD OF 'hornbeamlaw11.SpellExamples'. -/
def spellExamplesCard : Claim7 := { stood := { row := spellExamplesRow, standIns := [], harness := (true, "8a4e6af7919d4b0a787fc9eff333ad512786b82e9b0592a97a3a351e52242f5a"), looks := false }, kinds := [], alts := [], laidByText := true, laidKinds := [.data, .data, .data], laidTests := true, laidLooks := .later }
def SpellExamplesCardSaid : Prop := Claim7.holds Tryd.pinned (.plain (OpenSpec.ofChange spellExamplesSpec)) spellExamplesCard

/-- THE TIED CARD OF 'hornbeamlaw11.SpellAtoms'. -/
def spellAtomsCard : Claim7 := { stood := { row := spellAtomsRow, standIns := [], harness := (true, "8a4e6af7919d4b0a787fc9eff333ad512786b82e9b0592a97a3a351e52242f5a"), looks := false }, kinds := [], alts := [], laidByText := true, laidKinds := [.data, .data, .data], laidTests := true, laidLooks := .later }
def SpellAtomsCardSaid : Prop := Claim7.holds Tryd.pinned (.plain (OpenSpec.ofChange spellAtomsSpec)) spellAtomsCard

/-- THE TIED CARD OF 'hornbeamlaw11.SpellGlues'. -/
def spellGluesCard : Claim7 := { stood := { row := spellGluesRow, standIns := [], harness := (true, "8a4e6af7919d4b0a787fc9eff333ad512786b82e9b0592a97a3a351e52242f5a"), looks := false }, kinds := [], alts := [], laidByText := true, laidKinds := [.data, .data, .data], laidTests := true, laidLooks := .later }
def SpellGluesCardSaid : Prop := Claim7.holds Tryd.pinned (.plain (OpenSpec.ofChange spellGluesSpec)) spellGluesCard

/-- THE TIED CARD OF 'hornbeamlaw11.SpellQuotes'. -/
def spellQuotesCard : Claim7 := { stood := { row := spellQuotesRow, standIns := [], harness := (true, "8a4e6af7919d4b0a787fc9eff333ad512786b82e9b0592a97a3a351e52242f5a"), looks := false }, kinds := [], alts := [], laidByText := true, laidKinds := [.data, .data, .data], laidTests := true, laidLooks := .later }
def SpellQuotesCardSaid : Prop := Claim7.holds Tryd.pinned (.plain (OpenSpec.ofChange spellQuotesSpec)) spellQuotesCard

/-- THE TIED CARD OF 'hornbeamlaw09.TokenInts'. -/
def tokenIntsCard : Claim7 := { stood := { row := tokenIntsRow, standIns := [], harness := (true, "8a4e6af7919d4b0a787fc9eff333ad512786b82e9b0592a97a3a351e52242f5a"), looks := false }, kinds := [], alts := [], laidByText := true, laidKinds := [.data, .data, .data], laidTests := true, laidLooks := .later }
def TokenIntsCardSaid : Prop := Claim7.holds Tryd.pinned (.plain (OpenSpec.ofChange tokenIntsSpec)) tokenIntsCard

/-- THE TIED CARD OF 'hornbeamlaw11.SpellPlain'. -/
def spellPlainCard : Claim7 := { stood := { row := spellPlainRow, standIns := [], harness := (true, "8a4e6af7919d4b0a787fc9eff333ad512786b82e9b0592a97a3a351e52242f5a"), looks := false }, kinds := [], alts := [], laidByText := true, laidKinds := [.data, .data, .data], laidTests := true, laidLooks := .later }
def SpellPlainCardSaid : Prop := Claim7.holds Tryd.pinned (.plain (OpenSpec.ofChange spellPlainSpec)) spellPlainCard

/-- THE TIED CARD OF 'hornbeamlaw11.SpellReads'. -/
def spellReadsCard : Claim7 := { stood := { row := spellReadsRow, standIns := [], harness := (true, "8a4e6af7919d4b0a787fc9eff333ad512786b82e9b0592a97a3a351e52242f5a"), looks := false }, kinds := [], alts := [], laidByText := true, laidKinds := [.data, .data, .data], laidTests := true, laidLooks := .later }
def SpellReadsCardSaid : Prop := Claim7.holds Tryd.pinned (.plain (OpenSpec.ofChange spellReadsSpec)) spellReadsCard

/-- THE TIED CARD OF 'hornbeamlaw11.SpellJoins'. -/
def spellJoinsCard : Claim7 := { stood := { row := spellJoinsRow, standIns := [], harness := (true, "8a4e6af7919d4b0a787fc9eff333ad512786b82e9b0592a97a3a351e52242f5a"), looks := false }, kinds := [], alts := [], laidByText := true, laidKinds := [.data, .data, .data], laidTests := true, laidLooks := .later }
def SpellJoinsCardSaid : Prop := Claim7.holds Tryd.pinned (.plain (OpenSpec.ofChange spellJoinsSpec)) spellJoinsCard

/-- THE SECOND FORM's CARD OF 'hornbeamlaw11.SpellExamples'. -/
def spellExamplesUptoCard : Claim7 := { stood := { row := spellExamplesUptoRow, standIns := [], harness := (true, "8a4e6af7919d4b0a787fc9eff333ad512786b82e9b0592a97a3a351e52242f5a"), looks := false }, kinds := [], alts := [], laidByText := true, laidKinds := [.data, .data, .data], laidTests := true, laidLooks := .later }
def SpellExamplesUptoCardSaid : Prop := Claim7.holds Tryd.pinned (.plain (OpenSpec.upto spellExamplesSpec)) spellExamplesUptoCard

/-- THE SECOND FORM's CARD OF 'hornbeamlaw11.SpellAtoms'. -/
def spellAtomsUptoCard : Claim7 := { stood := { row := spellAtomsUptoRow, standIns := [], harness := (true, "8a4e6af7919d4b0a787fc9eff333ad512786b82e9b0592a97a3a351e52242f5a"), looks := false }, kinds := [], alts := [], laidByText := true, laidKinds := [.data, .data, .data], laidTests := true, laidLooks := .later }
def SpellAtomsUptoCardSaid : Prop := Claim7.holds Tryd.pinned (.plain (OpenSpec.upto spellAtomsSpec)) spellAtomsUptoCard

/-- THE SECOND FORM's CARD OF 'hornbeamlaw11.SpellGlues'. -/
def spellGluesUptoCard : Claim7 := { stood := { row := spellGluesUptoRow, standIns := [], harness := (true, "8a4e6af7919d4b0a787fc9eff333ad512786b82e9b0592a97a3a351e52242f5a"), looks := false }, kinds := [], alts := [], laidByText := true, laidKinds := [.data, .data, .data], laidTests := true, laidLooks := .later }
def SpellGluesUptoCardSaid : Prop := Claim7.holds Tryd.pinned (.plain (OpenSpec.upto spellGluesSpec)) spellGluesUptoCard

/-- THE SECOND FORM's CARD OF 'hornbeamlaw11.SpellQuotes'. -/
def spellQuotesUptoCard : Claim7 := { stood := { row := spellQuotesUptoRow, standIns := [], harness := (true, "8a4e6af7919d4b0a787fc9eff333ad512786b82e9b0592a97a3a351e52242f5a"), looks := false }, kinds := [], alts := [], laidByText := true, laidKinds := [.data, .data, .data], laidTests := true, laidLooks := .later }
def SpellQuotesUptoCardSaid : Prop := Claim7.holds Tryd.pinned (.plain (OpenSpec.upto spellQuotesSpec)) spellQuotesUptoCard

/-- THE SECOND FORM's CARD OF 'hornbeamlaw09.TokenInts'. -/
def tokenIntsUptoCard : Claim7 := { stood := { row := tokenIntsUptoRow, standIns := [], harness := (true, "8a4e6af7919d4b0a787fc9eff333ad512786b82e9b0592a97a3a351e52242f5a"), looks := false }, kinds := [], alts := [], laidByText := true, laidKinds := [.data, .data, .data], laidTests := true, laidLooks := .later }
def TokenIntsUptoCardSaid : Prop := Claim7.holds Tryd.pinned (.plain (OpenSpec.upto tokenIntsSpec)) tokenIntsUptoCard

/-- THE SECOND FORM's CARD OF 'hornbeamlaw11.SpellPlain'. -/
def spellPlainUptoCard : Claim7 := { stood := { row := spellPlainUptoRow, standIns := [], harness := (true, "8a4e6af7919d4b0a787fc9eff333ad512786b82e9b0592a97a3a351e52242f5a"), looks := false }, kinds := [], alts := [], laidByText := true, laidKinds := [.data, .data, .data], laidTests := true, laidLooks := .later }
def SpellPlainUptoCardSaid : Prop := Claim7.holds Tryd.pinned (.plain (OpenSpec.upto spellPlainSpec)) spellPlainUptoCard

/-- THE SECOND FORM's CARD OF 'hornbeamlaw11.SpellReads'. -/
def spellReadsUptoCard : Claim7 := { stood := { row := spellReadsUptoRow, standIns := [], harness := (true, "8a4e6af7919d4b0a787fc9eff333ad512786b82e9b0592a97a3a351e52242f5a"), looks := false }, kinds := [], alts := [], laidByText := true, laidKinds := [.data, .data, .data], laidTests := true, laidLooks := .later }
def SpellReadsUptoCardSaid : Prop := Claim7.holds Tryd.pinned (.plain (OpenSpec.upto spellReadsSpec)) spellReadsUptoCard

/-- THE SECOND FORM's CARD OF 'hornbeamlaw11.SpellJoins'. -/
def spellJoinsUptoCard : Claim7 := { stood := { row := spellJoinsUptoRow, standIns := [], harness := (true, "8a4e6af7919d4b0a787fc9eff333ad512786b82e9b0592a97a3a351e52242f5a"), looks := false }, kinds := [], alts := [], laidByText := true, laidKinds := [.data, .data, .data], laidTests := true, laidLooks := .later }
def SpellJoinsUptoCardSaid : Prop := Claim7.holds Tryd.pinned (.plain (OpenSpec.upto spellJoinsSpec)) spellJoinsUptoCard
end Rows
end Go.Proofs.YtmjeajfakhmakaaDoor
