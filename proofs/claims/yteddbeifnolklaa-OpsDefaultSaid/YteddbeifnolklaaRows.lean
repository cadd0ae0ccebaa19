/-
  No cell of these rows narrows 'for every input' (looked for: loops, veiled, ifaces, maps, wideKeys, modest, calm, conditions, laid).
  DERIVED. THE GIVEN ROWS OF THIS SEAT. 8 by the template 'for every input the law returns true; each argument reads behind the call as it read before'; 0 by the template 'total and deterministic' (their statements: YteddbeifnolklaaTotals.lean).
  GIVEN WITH THE SEED: the statements are not yours to turn. If you find one false, say at which input.
  Laid BY PROGRAM, IN A SANDBOX (cutbox-rows.mjs): the forced cells as the released guide's own fill.sh prints them over the translation a4c1c7515a9aa04f… (all of the seat's roots in one cut). By AI agents, Wed Nov 11 2026. No macro, syntax, notation, axiom, sorry.
-/
import Derived.Test.YteddbeifnolklaaChecked
import GoSem.Claim
import GoSem.ClaimJoined
import GoSem.ClaimMapViews
import Derived.JoinedTies
import Derived.KernelRfl
namespace Go.Proofs.Yteddbeifnolklaa
/- THE CELL 'sum', in the pinned program and in every row, IS THE sha256 OF THE DUMP (.gsa) THAT YteddbeifnolklaaProg.lean LOADS. Nothing in Lean hashes anything: it is a label: what it is worth is what the hold of that sum in a sandbox is worth. -/
noncomputable def Try.pinned : Pinned := { name := "yteddbeifnolklaa", sum := "a4c1c7515a9aa04fdece51b8d0fb806fa23d290f5385b7c13347363c36930967", checked := Try.checked }
namespace Rows
def none {H : Type} : Left H := { results := [], args := [] }

/-- 'hornbeamlaw07.OpsDefault': WHATEVER THE INPUT: true; the input reads as it did. -/
def opsDefaultSpec : ChangeSpec := { name := "opsDefault", fn := fun _ => fun
  | [] => { results := [.lit (.bool true)], args := [] }
  | _ => none }
def opsDefaultRow : OpenClaim := { program := "yteddbeifnolklaa", sum := "a4c1c7515a9aa04fdece51b8d0fb806fa23d290f5385b7c13347363c36930967", func := "hornbeam/hornbeamlaw07.OpsDefault", spec := "opsDefault", inPlace := ["slices.overlaps[hornbeam/api.Op]"], unfollowed := true, recurses := true, apart := false }
def OpsDefaultSaid : Prop := opsDefaultRow.holds Try.pinned (OpenSpec.ofChange opsDefaultSpec)

/-- ITS FALSE NEIGHBOUR: 'it returns false'. Refute it at one input. -/
def opsDefaultWrong : ChangeSpec := { name := "opsDefault", fn := fun _ => fun
  | [] => { results := [.lit (.bool false)], args := [] }
  | _ => none }
def OpsDefaultWrongFalsely : Prop := opsDefaultRow.holds Try.pinned (OpenSpec.ofChange opsDefaultWrong)

/-- 'hornbeamlaw07.OpsSets': WHATEVER THE INPUT: true; the input reads as it did. -/
def opsSetsSpec : ChangeSpec := { name := "opsSets", fn := fun _ => fun
  | [d1, d2, d3, d4] => { results := [.lit (.bool true)], args := [d1, d2, d3, d4] }
  | _ => none }
def opsSetsRow : OpenClaim := { program := "yteddbeifnolklaa", sum := "a4c1c7515a9aa04fdece51b8d0fb806fa23d290f5385b7c13347363c36930967", func := "hornbeam/hornbeamlaw07.OpsSets", spec := "opsSets", inPlace := ["slices.overlaps[hornbeam/api.Op]"], unfollowed := true, recurses := true, apart := false }
def OpsSetsSaid : Prop := opsSetsRow.holds Try.pinned (OpenSpec.ofChange opsSetsSpec)

/-- ITS FALSE NEIGHBOUR: 'it returns false'. Refute it at one input. -/
def opsSetsWrong : ChangeSpec := { name := "opsSets", fn := fun _ => fun
  | [d1, d2, d3, d4] => { results := [.lit (.bool false)], args := [d1, d2, d3, d4] }
  | _ => none }
def OpsSetsWrongFalsely : Prop := opsSetsRow.holds Try.pinned (OpenSpec.ofChange opsSetsWrong)

/-- 'hornbeamlaw07.OpsChanges': WHATEVER THE INPUT: true; the input reads as it did. -/
def opsChangesSpec : ChangeSpec := { name := "opsChanges", fn := fun _ => fun
  | [d1, d2, d3, d4, d5, d6] => { results := [.lit (.bool true)], args := [d1, d2, d3, d4, d5, d6] }
  | _ => none }
def opsChangesRow : OpenClaim := { program := "yteddbeifnolklaa", sum := "a4c1c7515a9aa04fdece51b8d0fb806fa23d290f5385b7c13347363c36930967", func := "hornbeam/hornbeamlaw07.OpsChanges", spec := "opsChanges", inPlace := ["slices.overlaps[hornbeam/api.Op]"], unfollowed := true, recurses := true, apart := false }
def OpsChangesSaid : Prop := opsChangesRow.holds Try.pinned (OpenSpec.ofChange opsChangesSpec)

/-- ITS FALSE NEIGHBOUR: 'it returns false'. Refute it at one input. -/
def opsChangesWrong : ChangeSpec := { name := "opsChanges", fn := fun _ => fun
  | [d1, d2, d3, d4, d5, d6] => { results := [.lit (.bool false)], args := [d1, d2, d3, d4, d5, d6] }
  | _ => none }
def OpsChangesWrongFalsely : Prop := opsChangesRow.holds Try.pinned (OpenSpec.ofChange opsChangesWrong)

/-- 'hornbeamlaw07.OpsAgain': WHATEVER THE INPUT: true; the input reads as it did. -/
def opsAgainSpec : ChangeSpec := { name := "opsAgain", fn := fun _ => fun
  | [d1, d2, d3, d4] => { results := [.lit (.bool true)], args := [d1, d2, d3, d4] }
  | _ => none }
def opsAgainRow : OpenClaim := { program := "yteddbeifnolklaa", sum := "a4c1c7515a9aa04fdece51b8d0fb806fa23d290f5385b7c13347363c36930967", func := "hornbeam/hornbeamlaw07.OpsAgain", spec := "opsAgain", inPlace := ["slices.overlaps[hornbeam/api.Op]"], unfollowed := true, recurses := true, apart := false }
def OpsAgainSaid : Prop := opsAgainRow.holds Try.pinned (OpenSpec.ofChange opsAgainSpec)

/-- ITS FALSE NEIGHBOUR: 'it returns false'. Refute it at one input. -/
def opsAgainWrong : ChangeSpec := { name := "opsAgain", fn := fun _ => fun
  | [d1, d2, d3, d4] => { results := [.lit (.bool false)], args := [d1, d2, d3, d4] }
  | _ => none }
def OpsAgainWrongFalsely : Prop := opsAgainRow.holds Try.pinned (OpenSpec.ofChange opsAgainWrong)

/-- 'hornbeamlaw07.OpsBounds': WHATEVER THE INPUT: true; the input reads as it did. -/
def opsBoundsSpec : ChangeSpec := { name := "opsBounds", fn := fun _ => fun
  | [d1, d2] => { results := [.lit (.bool true)], args := [d1, d2] }
  | _ => none }
def opsBoundsRow : OpenClaim := { program := "yteddbeifnolklaa", sum := "a4c1c7515a9aa04fdece51b8d0fb806fa23d290f5385b7c13347363c36930967", func := "hornbeam/hornbeamlaw07.OpsBounds", spec := "opsBounds", inPlace := ["slices.overlaps[hornbeam/api.Op]"], unfollowed := true, recurses := true, apart := false }
def OpsBoundsSaid : Prop := opsBoundsRow.holds Try.pinned (OpenSpec.ofChange opsBoundsSpec)

/-- ITS FALSE NEIGHBOUR: 'it returns false'. Refute it at one input. -/
def opsBoundsWrong : ChangeSpec := { name := "opsBounds", fn := fun _ => fun
  | [d1, d2] => { results := [.lit (.bool false)], args := [d1, d2] }
  | _ => none }
def OpsBoundsWrongFalsely : Prop := opsBoundsRow.holds Try.pinned (OpenSpec.ofChange opsBoundsWrong)

/-- 'hornbeamlaw07.OpsLookups': WHATEVER THE INPUT: true; the input reads as it did. -/
def opsLookupsSpec : ChangeSpec := { name := "opsLookups", fn := fun _ => fun
  | [d1, d2] => { results := [.lit (.bool true)], args := [d1, d2] }
  | _ => none }
def opsLookupsRow : OpenClaim := { program := "yteddbeifnolklaa", sum := "a4c1c7515a9aa04fdece51b8d0fb806fa23d290f5385b7c13347363c36930967", func := "hornbeam/hornbeamlaw07.OpsLookups", spec := "opsLookups", inPlace := ["slices.overlaps[hornbeam/api.Op]"], unfollowed := true, recurses := true, apart := false }
def OpsLookupsSaid : Prop := opsLookupsRow.holds Try.pinned (OpenSpec.ofChange opsLookupsSpec)

/-- ITS FALSE NEIGHBOUR: 'it returns false'. Refute it at one input. -/
def opsLookupsWrong : ChangeSpec := { name := "opsLookups", fn := fun _ => fun
  | [d1, d2] => { results := [.lit (.bool false)], args := [d1, d2] }
  | _ => none }
def OpsLookupsWrongFalsely : Prop := opsLookupsRow.holds Try.pinned (OpenSpec.ofChange opsLookupsWrong)

/-- 'hornbeamlaw07.OpsTypes': WHATEVER THE INPUT: true; the input reads as it did. -/
def opsTypesSpec : ChangeSpec := { name := "opsTypes", fn := fun _ => fun
  | [d1, d2, d3] => { results := [.lit (.bool true)], args := [d1, d2, d3] }
  | _ => none }
def opsTypesRow : OpenClaim := { program := "yteddbeifnolklaa", sum := "a4c1c7515a9aa04fdece51b8d0fb806fa23d290f5385b7c13347363c36930967", func := "hornbeam/hornbeamlaw07.OpsTypes", spec := "opsTypes", inPlace := ["slices.overlaps[hornbeam/api.Op]"], unfollowed := true, recurses := true, apart := false }
def OpsTypesSaid : Prop := opsTypesRow.holds Try.pinned (OpenSpec.ofChange opsTypesSpec)

/-- ITS FALSE NEIGHBOUR: 'it returns false'. Refute it at one input. -/
def opsTypesWrong : ChangeSpec := { name := "opsTypes", fn := fun _ => fun
  | [d1, d2, d3] => { results := [.lit (.bool false)], args := [d1, d2, d3] }
  | _ => none }
def OpsTypesWrongFalsely : Prop := opsTypesRow.holds Try.pinned (OpenSpec.ofChange opsTypesWrong)

/-- 'hornbeamlaw07.OpsExamples': WHATEVER THE INPUT: true; the input reads as it did. -/
def opsExamplesSpec : ChangeSpec := { name := "opsExamples", fn := fun _ => fun
  | [] => { results := [.lit (.bool true)], args := [] }
  | _ => none }
def opsExamplesRow : OpenClaim := { program := "yteddbeifnolklaa", sum := "a4c1c7515a9aa04fdece51b8d0fb806fa23d290f5385b7c13347363c36930967", func := "hornbeam/hornbeamlaw07.OpsExamples", spec := "opsExamples", inPlace := ["slices.overlaps[hornbeam/api.Op]"], unfollowed := true, recurses := true, apart := false }
def OpsExamplesSaid : Prop := opsExamplesRow.holds Try.pinned (OpenSpec.ofChange opsExamplesSpec)

/-- ITS FALSE NEIGHBOUR: 'it returns false'. Refute it at one input. -/
def opsExamplesWrong : ChangeSpec := { name := "opsExamples", fn := fun _ => fun
  | [] => { results := [.lit (.bool false)], args := [] }
  | _ => none }
def OpsExamplesWrongFalsely : Prop := opsExamplesRow.holds Try.pinned (OpenSpec.ofChange opsExamplesWrong)

/- THE SECOND FORM. 'bulk': how many values and letters a reading holds, each counted each time it is reached (what is shared counts as often as it is met; a slice's spare places count too). A statement '..UptoSaid' is the law's where the arguments, and the package variables that the reading takes, are together of bulk at most 1048576: NARROWER than '..Said'. Prove '..Said' where nothing that the law and all that it calls make is longer than what came in: it says more and counts as full. Else prove '..UptoSaid'. A law counts once. -/
mutual
def uptoBulk {H : Type} : DataW H → Nat
  | .lit (.string bytes) => bytes.length + 1
  | .lit _ => 1
  | .nil => 1
  | .ptr d => uptoBulk d + 1
  | .slice elems spare => uptoBulkAll elems + uptoBulkAll spare + 1
  | .agg parts => uptoBulkAll parts + 1
  | .iface _ d => uptoBulk d + 1
  | .map entries => uptoBulkEntries entries + 1
  | .held _ => 1
def uptoBulkAll {H : Type} : List (DataW H) → Nat
  | [] => 0
  | d :: r => uptoBulk d + uptoBulkAll r
def uptoBulkEntries {H : Type} : List (Lit × DataW H) → Nat
  | [] => 0
  | x :: r => uptoBulkEntry x + uptoBulkEntries r
def uptoBulkEntry {H : Type} : Lit × DataW H → Nat
  | (.string bytes, d) => bytes.length + uptoBulk d + 1
  | (_, d) => uptoBulk d + 1
 end
def uptoSmall : (H : Type) → List (DataW H) → Bool := fun _ ds => decide (uptoBulkAll ds ≤ 1048576)
def OpenSpec.upto (s : _root_.Go.ChangeSpec) : _root_.Go.OpenSpec := { _root_.Go.OpenSpec.ofChange s with cond := some uptoSmall }

/-- 'hornbeamlaw07.OpsDefault', WHERE WHAT IT READS IS OF BULK AT MOST 1048576: true; the input reads as it did. -/
def opsDefaultUptoRow : OpenClaim := { program := "yteddbeifnolklaa", sum := "a4c1c7515a9aa04fdece51b8d0fb806fa23d290f5385b7c13347363c36930967", func := "hornbeam/hornbeamlaw07.OpsDefault", spec := "opsDefault", inPlace := ["slices.overlaps[hornbeam/api.Op]"], unfollowed := true, recurses := true, apart := false, narrowed := true }
def OpsDefaultUptoSaid : Prop := opsDefaultUptoRow.holds Try.pinned (OpenSpec.upto opsDefaultSpec)

/-- 'hornbeamlaw07.OpsSets', WHERE WHAT IT READS IS OF BULK AT MOST 1048576: true; the input reads as it did. -/
def opsSetsUptoRow : OpenClaim := { program := "yteddbeifnolklaa", sum := "a4c1c7515a9aa04fdece51b8d0fb806fa23d290f5385b7c13347363c36930967", func := "hornbeam/hornbeamlaw07.OpsSets", spec := "opsSets", inPlace := ["slices.overlaps[hornbeam/api.Op]"], unfollowed := true, recurses := true, apart := false, narrowed := true }
def OpsSetsUptoSaid : Prop := opsSetsUptoRow.holds Try.pinned (OpenSpec.upto opsSetsSpec)

/-- 'hornbeamlaw07.OpsChanges', WHERE WHAT IT READS IS OF BULK AT MOST 1048576: true; the input reads as it did. -/
def opsChangesUptoRow : OpenClaim := { program := "yteddbeifnolklaa", sum := "a4c1c7515a9aa04fdece51b8d0fb806fa23d290f5385b7c13347363c36930967", func := "hornbeam/hornbeamlaw07.OpsChanges", spec := "opsChanges", inPlace := ["slices.overlaps[hornbeam/api.Op]"], unfollowed := true, recurses := true, apart := false, narrowed := true }
def OpsChangesUptoSaid : Prop := opsChangesUptoRow.holds Try.pinned (OpenSpec.upto opsChangesSpec)

/-- 'hornbeamlaw07.OpsAgain', WHERE WHAT IT READS IS OF BULK AT MOST 1048576: true; the input reads as it did. -/
def opsAgainUptoRow : OpenClaim := { program := "yteddbeifnolklaa", sum := "a4c1c7515a9aa04fdece51b8d0fb806fa23d290f5385b7c13347363c36930967", func := "hornbeam/hornbeamlaw07.OpsAgain", spec := "opsAgain", inPlace := ["slices.overlaps[hornbeam/api.Op]"], unfollowed := true, recurses := true, apart := false, narrowed := true }
def OpsAgainUptoSaid : Prop := opsAgainUptoRow.holds Try.pinned (OpenSpec.upto opsAgainSpec)

/-- 'hornbeamlaw07.OpsBounds', WHERE WHAT IT READS IS OF BULK AT MOST 1048576: true; the input reads as it did. -/
def opsBoundsUptoRow : OpenClaim := { program := "yteddbeifnolklaa", sum := "a4c1c7515a9aa04fdece51b8d0fb806fa23d290f5385b7c13347363c36930967", func := "hornbeam/hornbeamlaw07.OpsBounds", spec := "opsBounds", inPlace := ["slices.overlaps[hornbeam/api.Op]"], unfollowed := true, recurses := true, apart := false, narrowed := true }
def OpsBoundsUptoSaid : Prop := opsBoundsUptoRow.holds Try.pinned (OpenSpec.upto opsBoundsSpec)

/-- 'hornbeamlaw07.OpsLookups', WHERE WHAT IT READS IS OF BULK AT MOST 1048576: true; the input reads as it did. -/
def opsLookupsUptoRow : OpenClaim := { program := "yteddbeifnolklaa", sum := "a4c1c7515a9aa04fdece51b8d0fb806fa23d290f5385b7c13347363c36930967", func := "hornbeam/hornbeamlaw07.OpsLookups", spec := "opsLookups", inPlace := ["slices.overlaps[hornbeam/api.Op]"], unfollowed := true, recurses := true, apart := false, narrowed := true }
def OpsLookupsUptoSaid : Prop := opsLookupsUptoRow.holds Try.pinned (OpenSpec.upto opsLookupsSpec)

/-- 'hornbeamlaw07.OpsTypes', WHERE WHAT IT READS IS OF BULK AT MOST 1048576: true; the input reads as it did. -/
def opsTypesUptoRow : OpenClaim := { program := "yteddbeifnolklaa", sum := "a4c1c7515a9aa04fdece51b8d0fb806fa23d290f5385b7c13347363c36930967", func := "hornbeam/hornbeamlaw07.OpsTypes", spec := "opsTypes", inPlace := ["slices.overlaps[hornbeam/api.Op]"], unfollowed := true, recurses := true, apart := false, narrowed := true }
def OpsTypesUptoSaid : Prop := opsTypesUptoRow.holds Try.pinned (OpenSpec.upto opsTypesSpec)

/-- 'hornbeamlaw07.OpsExamples', WHERE WHAT IT READS IS OF BULK AT MOST 1048576: true; the input reads as it did. -/
def opsExamplesUptoRow : OpenClaim := { program := "yteddbeifnolklaa", sum := "a4c1c7515a9aa04fdece51b8d0fb806fa23d290f5385b7c13347363c36930967", func := "hornbeam/hornbeamlaw07.OpsExamples", spec := "opsExamples", inPlace := ["slices.overlaps[hornbeam/api.Op]"], unfollowed := true, recurses := true, apart := false, narrowed := true }
def OpsExamplesUptoSaid : Prop := opsExamplesUptoRow.holds Try.pinned (OpenSpec.upto opsExamplesSpec)

end Rows
end Go.Proofs.Yteddbeifnolklaa
