/-
  No cell of these rows narrows 'for every input' (looked for: loops, veiled, ifaces, maps, wideKeys, modest, calm, conditions, laid).
  DERIVED. THE GIVEN ROWS OF THIS SEAT. 8 by the template 'for every input the law returns true; each argument reads behind the call as it read before'; 0 by the template 'total and deterministic' (their statements: YtmjeajfakhmakaaTotals.lean).
  GIVEN WITH THE SEED: the statements are not yours to turn. If you find one false, say at which input.
  Laid BY PROGRAM, IN A SANDBOX (cutbox-rows.mjs): the forced cells as the released guide's own fill.sh prints them over the translation b1159f290c151c3c… (all of the seat's roots in one cut). By AI agents, Wed Nov 11 2026. No macro, syntax, notation, axiom, sorry.
-/
import Derived.Test.YtmjeajfakhmakaaChecked
import GoSem.Claim
import GoSem.ClaimJoined
import GoSem.ClaimMapViews
import Derived.JoinedTies
import Derived.KernelRfl
namespace Go.Proofs.Ytmjeajfakhmakaa
/- THE CELL 'sum', in the pinned program and in every row, IS THE sha256 OF THE DUMP (.gsa) THAT YtmjeajfakhmakaaProg.lean LOADS. Nothing in Lean hashes anything: it is a label: what it is worth is what the hold of that sum in a sandbox is worth. -/
noncomputable def Try.pinned : Pinned := { name := "ytmjeajfakhmakaa", sum := "b1159f290c151c3ce389f5f1bdb1987b8621b464b6bdd12bde08a02009d13e1f", checked := Try.checked }
namespace Rows
def none {H : Type} : Left H := { results := [], args := [] }

/-- 'hornbeamlaw09.TokenAll': WHATEVER THE INPUT: true; the input reads as it did. -/
def tokenAllSpec : ChangeSpec := { name := "tokenAll", fn := fun _ => fun
  | [d1, d2, d3] => { results := [.lit (.bool true)], args := [d1, d2, d3] }
  | _ => none }
def tokenAllRow : OpenClaim := { program := "ytmjeajfakhmakaa", sum := "b1159f290c151c3ce389f5f1bdb1987b8621b464b6bdd12bde08a02009d13e1f", func := "hornbeam/hornbeamlaw09.TokenAll", spec := "tokenAll", inPlace := ["internal/bytealg.IndexByteString"], unfollowed := true, recurses := true, apart := false }
def TokenAllSaid : Prop := tokenAllRow.holds Try.pinned (OpenSpec.ofChange tokenAllSpec)

/-- ITS FALSE NEIGHBOUR: 'it returns false'. Refute it at one input. -/
def tokenAllWrong : ChangeSpec := { name := "tokenAll", fn := fun _ => fun
  | [d1, d2, d3] => { results := [.lit (.bool false)], args := [d1, d2, d3] }
  | _ => none }
def TokenAllWrongFalsely : Prop := tokenAllRow.holds Try.pinned (OpenSpec.ofChange tokenAllWrong)

/-- 'hornbeamlaw09.TokenNext': WHATEVER THE INPUT: true; the input reads as it did. -/
def tokenNextSpec : ChangeSpec := { name := "tokenNext", fn := fun _ => fun
  | [d1, d2, d3] => { results := [.lit (.bool true)], args := [d1, d2, d3] }
  | _ => none }
def tokenNextRow : OpenClaim := { program := "ytmjeajfakhmakaa", sum := "b1159f290c151c3ce389f5f1bdb1987b8621b464b6bdd12bde08a02009d13e1f", func := "hornbeam/hornbeamlaw09.TokenNext", spec := "tokenNext", inPlace := ["internal/bytealg.IndexByteString"], unfollowed := true, recurses := true, apart := false }
def TokenNextSaid : Prop := tokenNextRow.holds Try.pinned (OpenSpec.ofChange tokenNextSpec)

/-- ITS FALSE NEIGHBOUR: 'it returns false'. Refute it at one input. -/
def tokenNextWrong : ChangeSpec := { name := "tokenNext", fn := fun _ => fun
  | [d1, d2, d3] => { results := [.lit (.bool false)], args := [d1, d2, d3] }
  | _ => none }
def TokenNextWrongFalsely : Prop := tokenNextRow.holds Try.pinned (OpenSpec.ofChange tokenNextWrong)

/-- 'hornbeamlaw09.TokenOrder': WHATEVER THE INPUT: true; the input reads as it did. -/
def tokenOrderSpec : ChangeSpec := { name := "tokenOrder", fn := fun _ => fun
  | [d1, d2, d3] => { results := [.lit (.bool true)], args := [d1, d2, d3] }
  | _ => none }
def tokenOrderRow : OpenClaim := { program := "ytmjeajfakhmakaa", sum := "b1159f290c151c3ce389f5f1bdb1987b8621b464b6bdd12bde08a02009d13e1f", func := "hornbeam/hornbeamlaw09.TokenOrder", spec := "tokenOrder", inPlace := ["internal/bytealg.IndexByteString"], unfollowed := true, recurses := true, apart := false }
def TokenOrderSaid : Prop := tokenOrderRow.holds Try.pinned (OpenSpec.ofChange tokenOrderSpec)

/-- ITS FALSE NEIGHBOUR: 'it returns false'. Refute it at one input. -/
def tokenOrderWrong : ChangeSpec := { name := "tokenOrder", fn := fun _ => fun
  | [d1, d2, d3] => { results := [.lit (.bool false)], args := [d1, d2, d3] }
  | _ => none }
def TokenOrderWrongFalsely : Prop := tokenOrderRow.holds Try.pinned (OpenSpec.ofChange tokenOrderWrong)

/-- 'hornbeamlaw09.TokenQuotes': WHATEVER THE INPUT: true; the input reads as it did. -/
def tokenQuotesSpec : ChangeSpec := { name := "tokenQuotes", fn := fun _ => fun
  | [d] => { results := [.lit (.bool true)], args := [d] }
  | _ => none }
def tokenQuotesRow : OpenClaim := { program := "ytmjeajfakhmakaa", sum := "b1159f290c151c3ce389f5f1bdb1987b8621b464b6bdd12bde08a02009d13e1f", func := "hornbeam/hornbeamlaw09.TokenQuotes", spec := "tokenQuotes", inPlace := ["internal/bytealg.IndexByteString"], unfollowed := true, recurses := true, apart := false }
def TokenQuotesSaid : Prop := tokenQuotesRow.holds Try.pinned (OpenSpec.ofChange tokenQuotesSpec)

/-- ITS FALSE NEIGHBOUR: 'it returns false'. Refute it at one input. -/
def tokenQuotesWrong : ChangeSpec := { name := "tokenQuotes", fn := fun _ => fun
  | [d] => { results := [.lit (.bool false)], args := [d] }
  | _ => none }
def TokenQuotesWrongFalsely : Prop := tokenQuotesRow.holds Try.pinned (OpenSpec.ofChange tokenQuotesWrong)

/-- 'hornbeamlaw09.TokenLayout': WHATEVER THE INPUT: true; the input reads as it did. -/
def tokenLayoutSpec : ChangeSpec := { name := "tokenLayout", fn := fun _ => fun
  | [d1, d2] => { results := [.lit (.bool true)], args := [d1, d2] }
  | _ => none }
def tokenLayoutRow : OpenClaim := { program := "ytmjeajfakhmakaa", sum := "b1159f290c151c3ce389f5f1bdb1987b8621b464b6bdd12bde08a02009d13e1f", func := "hornbeam/hornbeamlaw09.TokenLayout", spec := "tokenLayout", inPlace := ["internal/bytealg.IndexByteString"], unfollowed := true, recurses := true, apart := false }
def TokenLayoutSaid : Prop := tokenLayoutRow.holds Try.pinned (OpenSpec.ofChange tokenLayoutSpec)

/-- ITS FALSE NEIGHBOUR: 'it returns false'. Refute it at one input. -/
def tokenLayoutWrong : ChangeSpec := { name := "tokenLayout", fn := fun _ => fun
  | [d1, d2] => { results := [.lit (.bool false)], args := [d1, d2] }
  | _ => none }
def TokenLayoutWrongFalsely : Prop := tokenLayoutRow.holds Try.pinned (OpenSpec.ofChange tokenLayoutWrong)

/-- 'hornbeamlaw09.TokenSkips': WHATEVER THE INPUT: true; the input reads as it did. -/
def tokenSkipsSpec : ChangeSpec := { name := "tokenSkips", fn := fun _ => fun
  | [d1, d2, d3] => { results := [.lit (.bool true)], args := [d1, d2, d3] }
  | _ => none }
def tokenSkipsRow : OpenClaim := { program := "ytmjeajfakhmakaa", sum := "b1159f290c151c3ce389f5f1bdb1987b8621b464b6bdd12bde08a02009d13e1f", func := "hornbeam/hornbeamlaw09.TokenSkips", spec := "tokenSkips", inPlace := ["internal/bytealg.IndexByteString"], unfollowed := true, recurses := true, apart := false }
def TokenSkipsSaid : Prop := tokenSkipsRow.holds Try.pinned (OpenSpec.ofChange tokenSkipsSpec)

/-- ITS FALSE NEIGHBOUR: 'it returns false'. Refute it at one input. -/
def tokenSkipsWrong : ChangeSpec := { name := "tokenSkips", fn := fun _ => fun
  | [d1, d2, d3] => { results := [.lit (.bool false)], args := [d1, d2, d3] }
  | _ => none }
def TokenSkipsWrongFalsely : Prop := tokenSkipsRow.holds Try.pinned (OpenSpec.ofChange tokenSkipsWrong)

/-- 'hornbeamlaw09.TokenExamples': WHATEVER THE INPUT: true; the input reads as it did. -/
def tokenExamplesSpec : ChangeSpec := { name := "tokenExamples", fn := fun _ => fun
  | [] => { results := [.lit (.bool true)], args := [] }
  | _ => none }
def tokenExamplesRow : OpenClaim := { program := "ytmjeajfakhmakaa", sum := "b1159f290c151c3ce389f5f1bdb1987b8621b464b6bdd12bde08a02009d13e1f", func := "hornbeam/hornbeamlaw09.TokenExamples", spec := "tokenExamples", inPlace := ["internal/bytealg.IndexByteString"], unfollowed := true, recurses := true, apart := false }
def TokenExamplesSaid : Prop := tokenExamplesRow.holds Try.pinned (OpenSpec.ofChange tokenExamplesSpec)

/-- ITS FALSE NEIGHBOUR: 'it returns false'. Refute it at one input. -/
def tokenExamplesWrong : ChangeSpec := { name := "tokenExamples", fn := fun _ => fun
  | [] => { results := [.lit (.bool false)], args := [] }
  | _ => none }
def TokenExamplesWrongFalsely : Prop := tokenExamplesRow.holds Try.pinned (OpenSpec.ofChange tokenExamplesWrong)

/-- 'hornbeamlaw09.TokenConverts': WHATEVER THE INPUT: true; the input reads as it did. -/
def tokenConvertsSpec : ChangeSpec := { name := "tokenConverts", fn := fun _ => fun
  | [d1, d2, d3] => { results := [.lit (.bool true)], args := [d1, d2, d3] }
  | _ => none }
def tokenConvertsRow : OpenClaim := { program := "ytmjeajfakhmakaa", sum := "b1159f290c151c3ce389f5f1bdb1987b8621b464b6bdd12bde08a02009d13e1f", func := "hornbeam/hornbeamlaw09.TokenConverts", spec := "tokenConverts", inPlace := ["internal/bytealg.IndexByteString"], unfollowed := true, recurses := true, apart := false }
def TokenConvertsSaid : Prop := tokenConvertsRow.holds Try.pinned (OpenSpec.ofChange tokenConvertsSpec)

/-- ITS FALSE NEIGHBOUR: 'it returns false'. Refute it at one input. -/
def tokenConvertsWrong : ChangeSpec := { name := "tokenConverts", fn := fun _ => fun
  | [d1, d2, d3] => { results := [.lit (.bool false)], args := [d1, d2, d3] }
  | _ => none }
def TokenConvertsWrongFalsely : Prop := tokenConvertsRow.holds Try.pinned (OpenSpec.ofChange tokenConvertsWrong)

/- THE SECOND FORM. 'bulk': how many values and letters a reading holds, each counted each time it is reached (what is shared counts as often as it is met; a slice's spare places count too). A statement '..UptoSaid' is the law's where the arguments, and the package variables that the reading takes, are together of bulk at most 1048576: NARROWER than '..Said'. Prove '..Said' where nothing that the law and all that it calls make is longer than what came in: it says more and counts as full. Else prove '..UptoSaid'. A law counts once. -/
mutual
def uptoBulk {H : Type} : DataW H → Nat
  | .lit (.string bytes) => bytes.length + 1
  | .lit _ => 1
  | .nil => 1
  | .ptr d => uptoBulk d + 1
  | .slice elems spare => uptoBulkAll elems + uptoBulkAll spare + 1
  | .agg parts => uptoBulkAll parts + 1
  | .iface _ d => uptoBulk d + 1
  | .map entries => uptoBulkEntries entries + 1
  | .held _ => 1
def uptoBulkAll {H : Type} : List (DataW H) → Nat
  | [] => 0
  | d :: r => uptoBulk d + uptoBulkAll r
def uptoBulkEntries {H : Type} : List (Lit × DataW H) → Nat
  | [] => 0
  | x :: r => uptoBulkEntry x + uptoBulkEntries r
def uptoBulkEntry {H : Type} : Lit × DataW H → Nat
  | (.string bytes, d) => bytes.length + uptoBulk d + 1
  | (_, d) => uptoBulk d + 1
 end
def uptoSmall : (H : Type) → List (DataW H) → Bool := fun _ ds => decide (uptoBulkAll ds ≤ 1048576)
def OpenSpec.upto (s : _root_.Go.ChangeSpec) : _root_.Go.OpenSpec := { _root_.Go.OpenSpec.ofChange s with cond := some uptoSmall }

/-- 'hornbeamlaw09.TokenAll', WHERE WHAT IT READS IS OF BULK AT MOST 1048576: true; the input reads as it did. -/
def tokenAllUptoRow : OpenClaim := { program := "ytmjeajfakhmakaa", sum := "b1159f290c151c3ce389f5f1bdb1987b8621b464b6bdd12bde08a02009d13e1f", func := "hornbeam/hornbeamlaw09.TokenAll", spec := "tokenAll", inPlace := ["internal/bytealg.IndexByteString"], unfollowed := true, recurses := true, apart := false, narrowed := true }
def TokenAllUptoSaid : Prop := tokenAllUptoRow.holds Try.pinned (OpenSpec.upto tokenAllSpec)

/-- 'hornbeamlaw09.TokenNext', WHERE WHAT IT READS IS OF BULK AT MOST 1048576: true; the input reads as it did. -/
def tokenNextUptoRow : OpenClaim := { program := "ytmjeajfakhmakaa", sum := "b1159f290c151c3ce389f5f1bdb1987b8621b464b6bdd12bde08a02009d13e1f", func := "hornbeam/hornbeamlaw09.TokenNext", spec := "tokenNext", inPlace := ["internal/bytealg.IndexByteString"], unfollowed := true, recurses := true, apart := false, narrowed := true }
def TokenNextUptoSaid : Prop := tokenNextUptoRow.holds Try.pinned (OpenSpec.upto tokenNextSpec)

/-- 'hornbeamlaw09.TokenOrder', WHERE WHAT IT READS IS OF BULK AT MOST 1048576: true; the input reads as it did. -/
def tokenOrderUptoRow : OpenClaim := { program := "ytmjeajfakhmakaa", sum := "b1159f290c151c3ce389f5f1bdb1987b8621b464b6bdd12bde08a02009d13e1f", func := "hornbeam/hornbeamlaw09.TokenOrder", spec := "tokenOrder", inPlace := ["internal/bytealg.IndexByteString"], unfollowed := true, recurses := true, apart := false, narrowed := true }
def TokenOrderUptoSaid : Prop := tokenOrderUptoRow.holds Try.pinned (OpenSpec.upto tokenOrderSpec)

/-- 'hornbeamlaw09.TokenQuotes', WHERE WHAT IT READS IS OF BULK AT MOST 1048576: true; the input reads as it did. -/
def tokenQuotesUptoRow : OpenClaim := { program := "ytmjeajfakhmakaa", sum := "b1159f290c151c3ce389f5f1bdb1987b8621b464b6bdd12bde08a02009d13e1f", func := "hornbeam/hornbeamlaw09.TokenQuotes", spec := "tokenQuotes", inPlace := ["internal/bytealg.IndexByteString"], unfollowed := true, recurses := true, apart := false, narrowed := true }
def TokenQuotesUptoSaid : Prop := tokenQuotesUptoRow.holds Try.pinned (OpenSpec.upto tokenQuotesSpec)

/-- 'hornbeamlaw09.TokenLayout', WHERE WHAT IT READS IS OF BULK AT MOST 1048576: true; the input reads as it did. -/
def tokenLayoutUptoRow : OpenClaim := { program := "ytmjeajfakhmakaa", sum := "b1159f290c151c3ce389f5f1bdb1987b8621b464b6bdd12bde08a02009d13e1f", func := "hornbeam/hornbeamlaw09.TokenLayout", spec := "tokenLayout", inPlace := ["internal/bytealg.IndexByteString"], unfollowed := true, recurses := true, apart := false, narrowed := true }
def TokenLayoutUptoSaid : Prop := tokenLayoutUptoRow.holds Try.pinned (OpenSpec.upto tokenLayoutSpec)

/-- 'hornbeamlaw09.TokenSkips', WHERE WHAT IT READS IS OF BULK AT MOST 1048576: true; the input reads as it did. -/
def tokenSkipsUptoRow : OpenClaim := { program := "ytmjeajfakhmakaa", sum := "b1159f290c151c3ce389f5f1bdb1987b8621b464b6bdd12bde08a02009d13e1f", func := "hornbeam/hornbeamlaw09.TokenSkips", spec := "tokenSkips", inPlace := ["internal/bytealg.IndexByteString"], unfollowed := true, recurses := true, apart := false, narrowed := true }
def TokenSkipsUptoSaid : Prop := tokenSkipsUptoRow.holds Try.pinned (OpenSpec.upto tokenSkipsSpec)

/-- 'hornbeamlaw09.TokenExamples', WHERE WHAT IT READS IS OF BULK AT MOST 1048576: true; the input reads as it did. -/
def tokenExamplesUptoRow : OpenClaim := { program := "ytmjeajfakhmakaa", sum := "b1159f290c151c3ce389f5f1bdb1987b8621b464b6bdd12bde08a02009d13e1f", func := "hornbeam/hornbeamlaw09.TokenExamples", spec := "tokenExamples", inPlace := ["internal/bytealg.IndexByteString"], unfollowed := true, recurses := true, apart := false, narrowed := true }
def TokenExamplesUptoSaid : Prop := tokenExamplesUptoRow.holds Try.pinned (OpenSpec.upto tokenExamplesSpec)

/-- 'hornbeamlaw09.TokenConverts', WHERE WHAT IT READS IS OF BULK AT MOST 1048576: true; the input reads as it did. -/
def tokenConvertsUptoRow : OpenClaim := { program := "ytmjeajfakhmakaa", sum := "b1159f290c151c3ce389f5f1bdb1987b8621b464b6bdd12bde08a02009d13e1f", func := "hornbeam/hornbeamlaw09.TokenConverts", spec := "tokenConverts", inPlace := ["internal/bytealg.IndexByteString"], unfollowed := true, recurses := true, apart := false, narrowed := true }
def TokenConvertsUptoSaid : Prop := tokenConvertsUptoRow.holds Try.pinned (OpenSpec.upto tokenConvertsSpec)

end Rows
end Go.Proofs.Ytmjeajfakhmakaa
