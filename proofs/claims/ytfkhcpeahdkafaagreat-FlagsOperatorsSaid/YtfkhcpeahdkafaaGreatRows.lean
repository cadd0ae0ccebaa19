/-
  NARROWER THAN 'FOR EVERY INPUT', by the rows' own cells (each row's printed sentence says how): FlagsValues: loops · FlagsCalls: loops · FlagsScripts: loops · FlagsKeeps: loops.
  DERIVED. THE GIVEN ROWS OF THIS SEAT. 7 by the template 'for every input the law returns true; each argument reads behind the call as it read before'; 0 by the template 'total and deterministic' (their statements: YtfkhcpeahdkafaaGreatTotals.lean).
  GIVEN WITH THE SEED: the statements are not yours to turn. If you find one false, say at which input.
  Laid BY PROGRAM, IN A SANDBOX (cutbox-rows.mjs): the forced cells as the released guide's own fill.sh prints them over the translation 598501e4724c522e… (all of the seat's roots in one cut). By AI agents, Wed Nov 11 2026. No macro, syntax, notation, axiom, sorry.
-/
import Derived.Test.YtfkhcpeahdkafaaGreatChecked
import GoSem.Claim
import GoSem.ClaimJoined
import GoSem.ClaimMapViews
import Derived.JoinedTies
import Derived.KernelRfl
namespace Go.Proofs.YtfkhcpeahdkafaaGreat
/- THE CELL 'sum', in the pinned program and in every row, IS THE sha256 OF THE DUMP (.gsa) THAT YtfkhcpeahdkafaaGreatProg.lean LOADS. Nothing in Lean hashes anything: it is a label: what it is worth is what the hold of that sum in a sandbox is worth. -/
noncomputable def Tryz.pinned : Pinned := { name := "ytfkhcpeahdkafaagreat", sum := "598501e4724c522ed250df26432bac915f2ea164d5f6dd806e5410b698c54451", checked := Tryz.checked }
namespace Rows
def none {H : Type} : Left H := { results := [], args := [] }

/-- 'hornbeamlaw08.FlagsValues': WHATEVER THE INPUT: true; the input reads as it did. -/
def flagsValuesSpec : ChangeSpec := { name := "flagsValues", fn := fun _ => fun
  | [d1, d2, d3] => { results := [.lit (.bool true)], args := [d1, d2, d3] }
  | _ => none }
def flagsValuesRow : OpenClaim := { program := "ytfkhcpeahdkafaagreat", sum := "598501e4724c522ed250df26432bac915f2ea164d5f6dd806e5410b698c54451", func := "hornbeam/hornbeamlaw08.FlagsValues", spec := "flagsValues", inPlace := ["slices.overlaps[hornbeam/api.Op]"], unfollowed := true, recurses := true, loops := true, plainKeys := false, apart := false }
def FlagsValuesSaid : Prop := flagsValuesRow.holds Tryz.pinned (OpenSpec.ofChange flagsValuesSpec)

/-- ITS FALSE NEIGHBOUR: 'it returns false'. Refute it at one input. -/
def flagsValuesWrong : ChangeSpec := { name := "flagsValues", fn := fun _ => fun
  | [d1, d2, d3] => { results := [.lit (.bool false)], args := [d1, d2, d3] }
  | _ => none }
def FlagsValuesWrongFalsely : Prop := flagsValuesRow.holds Tryz.pinned (OpenSpec.ofChange flagsValuesWrong)

/-- 'hornbeamlaw08.FlagsCalls': WHATEVER THE INPUT: true; the input reads as it did. -/
def flagsCallsSpec : ChangeSpec := { name := "flagsCalls", fn := fun _ => fun
  | [d1, d2] => { results := [.lit (.bool true)], args := [d1, d2] }
  | _ => none }
def flagsCallsRow : OpenClaim := { program := "ytfkhcpeahdkafaagreat", sum := "598501e4724c522ed250df26432bac915f2ea164d5f6dd806e5410b698c54451", func := "hornbeam/hornbeamlaw08.FlagsCalls", spec := "flagsCalls", inPlace := ["slices.overlaps[hornbeam/api.Op]"], unfollowed := true, recurses := true, loops := true, plainKeys := false, apart := false }
def FlagsCallsSaid : Prop := flagsCallsRow.holds Tryz.pinned (OpenSpec.ofChange flagsCallsSpec)

/-- ITS FALSE NEIGHBOUR: 'it returns false'. Refute it at one input. -/
def flagsCallsWrong : ChangeSpec := { name := "flagsCalls", fn := fun _ => fun
  | [d1, d2] => { results := [.lit (.bool false)], args := [d1, d2] }
  | _ => none }
def FlagsCallsWrongFalsely : Prop := flagsCallsRow.holds Tryz.pinned (OpenSpec.ofChange flagsCallsWrong)

/-- 'hornbeamlaw08.FlagsScripts': WHATEVER THE INPUT: true; the input reads as it did. -/
def flagsScriptsSpec : ChangeSpec := { name := "flagsScripts", fn := fun _ => fun
  | [d] => { results := [.lit (.bool true)], args := [d] }
  | _ => none }
def flagsScriptsRow : OpenClaim := { program := "ytfkhcpeahdkafaagreat", sum := "598501e4724c522ed250df26432bac915f2ea164d5f6dd806e5410b698c54451", func := "hornbeam/hornbeamlaw08.FlagsScripts", spec := "flagsScripts", inPlace := ["slices.overlaps[hornbeam/api.Op]"], unfollowed := true, recurses := true, loops := true, plainKeys := false, apart := false }
def FlagsScriptsSaid : Prop := flagsScriptsRow.holds Tryz.pinned (OpenSpec.ofChange flagsScriptsSpec)

/-- ITS FALSE NEIGHBOUR: 'it returns false'. Refute it at one input. -/
def flagsScriptsWrong : ChangeSpec := { name := "flagsScripts", fn := fun _ => fun
  | [d] => { results := [.lit (.bool false)], args := [d] }
  | _ => none }
def FlagsScriptsWrongFalsely : Prop := flagsScriptsRow.holds Tryz.pinned (OpenSpec.ofChange flagsScriptsWrong)

/-- 'hornbeamlaw08.FlagsKeeps': WHATEVER THE INPUT: true; the input reads as it did. -/
def flagsKeepsSpec : ChangeSpec := { name := "flagsKeeps", fn := fun _ => fun
  | [d1, d2, d3] => { results := [.lit (.bool true)], args := [d1, d2, d3] }
  | _ => none }
def flagsKeepsRow : OpenClaim := { program := "ytfkhcpeahdkafaagreat", sum := "598501e4724c522ed250df26432bac915f2ea164d5f6dd806e5410b698c54451", func := "hornbeam/hornbeamlaw08.FlagsKeeps", spec := "flagsKeeps", inPlace := ["slices.overlaps[hornbeam/api.Op]"], unfollowed := true, recurses := true, loops := true, plainKeys := false, apart := false }
def FlagsKeepsSaid : Prop := flagsKeepsRow.holds Tryz.pinned (OpenSpec.ofChange flagsKeepsSpec)

/-- ITS FALSE NEIGHBOUR: 'it returns false'. Refute it at one input. -/
def flagsKeepsWrong : ChangeSpec := { name := "flagsKeeps", fn := fun _ => fun
  | [d1, d2, d3] => { results := [.lit (.bool false)], args := [d1, d2, d3] }
  | _ => none }
def FlagsKeepsWrongFalsely : Prop := flagsKeepsRow.holds Tryz.pinned (OpenSpec.ofChange flagsKeepsWrong)

/-- 'hornbeamlaw08.FlagsOperators': WHATEVER THE INPUT: true; the input reads as it did. -/
def flagsOperatorsSpec : ChangeSpec := { name := "flagsOperators", fn := fun _ => fun
  | [d1, d2, d3, d4] => { results := [.lit (.bool true)], args := [d1, d2, d3, d4] }
  | _ => none }
def flagsOperatorsRow : OpenClaim := { program := "ytfkhcpeahdkafaagreat", sum := "598501e4724c522ed250df26432bac915f2ea164d5f6dd806e5410b698c54451", func := "hornbeam/hornbeamlaw08.FlagsOperators", spec := "flagsOperators", inPlace := ["slices.overlaps[hornbeam/api.Op]"], unfollowed := true, recurses := true, plainKeys := false, apart := false }
def FlagsOperatorsSaid : Prop := flagsOperatorsRow.holds Tryz.pinned (OpenSpec.ofChange flagsOperatorsSpec)

/-- ITS FALSE NEIGHBOUR: 'it returns false'. Refute it at one input. -/
def flagsOperatorsWrong : ChangeSpec := { name := "flagsOperators", fn := fun _ => fun
  | [d1, d2, d3, d4] => { results := [.lit (.bool false)], args := [d1, d2, d3, d4] }
  | _ => none }
def FlagsOperatorsWrongFalsely : Prop := flagsOperatorsRow.holds Tryz.pinned (OpenSpec.ofChange flagsOperatorsWrong)

/-- 'hornbeamlaw08.FlagsConversions': WHATEVER THE INPUT: true; the input reads as it did. -/
def flagsConversionsSpec : ChangeSpec := { name := "flagsConversions", fn := fun _ => fun
  | [d1, d2, d3, d4] => { results := [.lit (.bool true)], args := [d1, d2, d3, d4] }
  | _ => none }
def flagsConversionsRow : OpenClaim := { program := "ytfkhcpeahdkafaagreat", sum := "598501e4724c522ed250df26432bac915f2ea164d5f6dd806e5410b698c54451", func := "hornbeam/hornbeamlaw08.FlagsConversions", spec := "flagsConversions", inPlace := ["slices.overlaps[hornbeam/api.Op]"], unfollowed := true, recurses := true, plainKeys := false, apart := false }
def FlagsConversionsSaid : Prop := flagsConversionsRow.holds Tryz.pinned (OpenSpec.ofChange flagsConversionsSpec)

/-- ITS FALSE NEIGHBOUR: 'it returns false'. Refute it at one input. -/
def flagsConversionsWrong : ChangeSpec := { name := "flagsConversions", fn := fun _ => fun
  | [d1, d2, d3, d4] => { results := [.lit (.bool false)], args := [d1, d2, d3, d4] }
  | _ => none }
def FlagsConversionsWrongFalsely : Prop := flagsConversionsRow.holds Tryz.pinned (OpenSpec.ofChange flagsConversionsWrong)

/-- 'hornbeamlaw08.FlagsHas': WHATEVER THE INPUT: true; the input reads as it did. -/
def flagsHasSpec : ChangeSpec := { name := "flagsHas", fn := fun _ => fun
  | [d1, d2] => { results := [.lit (.bool true)], args := [d1, d2] }
  | _ => none }
def flagsHasRow : OpenClaim := { program := "ytfkhcpeahdkafaagreat", sum := "598501e4724c522ed250df26432bac915f2ea164d5f6dd806e5410b698c54451", func := "hornbeam/hornbeamlaw08.FlagsHas", spec := "flagsHas", inPlace := ["slices.overlaps[hornbeam/api.Op]"], unfollowed := true, recurses := true, plainKeys := false, apart := false }
def FlagsHasSaid : Prop := flagsHasRow.holds Tryz.pinned (OpenSpec.ofChange flagsHasSpec)

/-- ITS FALSE NEIGHBOUR: 'it returns false'. Refute it at one input. -/
def flagsHasWrong : ChangeSpec := { name := "flagsHas", fn := fun _ => fun
  | [d1, d2] => { results := [.lit (.bool false)], args := [d1, d2] }
  | _ => none }
def FlagsHasWrongFalsely : Prop := flagsHasRow.holds Tryz.pinned (OpenSpec.ofChange flagsHasWrong)

/- THE SECOND FORM. 'bulk': how many values and letters a reading holds, each counted each time it is reached (what is shared counts as often as it is met; a slice's spare places count too). A statement '..UptoSaid' is the law's where the arguments, and the package variables that the reading takes, are together of bulk at most 1048576: NARROWER than '..Said'. Prove '..Said' where nothing that the law and all that it calls make is longer than what came in: it says more and counts as full. Else prove '..UptoSaid'. A law counts once. -/
mutual
def uptoBulk {H : Type} : DataW H → Nat
  | .lit (.string bytes) => bytes.length + 1
  | .lit _ => 1
  | .nil => 1
  | .ptr d => uptoBulk d + 1
  | .slice elems spare => uptoBulkAll elems + uptoBulkAll spare + 1
  | .agg parts => uptoBulkAll parts + 1
  | .iface _ d => uptoBulk d + 1
  | .map entries => uptoBulkEntries entries + 1
  | .held _ => 1
def uptoBulkAll {H : Type} : List (DataW H) → Nat
  | [] => 0
  | d :: r => uptoBulk d + uptoBulkAll r
def uptoBulkEntries {H : Type} : List (Lit × DataW H) → Nat
  | [] => 0
  | x :: r => uptoBulkEntry x + uptoBulkEntries r
def uptoBulkEntry {H : Type} : Lit × DataW H → Nat
  | (.string bytes, d) => bytes.length + uptoBulk d + 1
  | (_, d) => uptoBulk d + 1
 end
def uptoSmall : (H : Type) → List (DataW H) → Bool := fun _ ds => decide (uptoBulkAll ds ≤ 1048576)
def OpenSpec.upto (s : _root_.Go.ChangeSpec) : _root_.Go.OpenSpec := { _root_.Go.OpenSpec.ofChange s with cond := some uptoSmall }

/-- 'hornbeamlaw08.FlagsValues', WHERE WHAT IT READS IS OF BULK AT MOST 1048576: true; the input reads as it did. -/
def flagsValuesUptoRow : OpenClaim := { program := "ytfkhcpeahdkafaagreat", sum := "598501e4724c522ed250df26432bac915f2ea164d5f6dd806e5410b698c54451", func := "hornbeam/hornbeamlaw08.FlagsValues", spec := "flagsValues", inPlace := ["slices.overlaps[hornbeam/api.Op]"], unfollowed := true, recurses := true, loops := true, plainKeys := false, apart := false, narrowed := true }
def FlagsValuesUptoSaid : Prop := flagsValuesUptoRow.holds Tryz.pinned (OpenSpec.upto flagsValuesSpec)

/-- 'hornbeamlaw08.FlagsCalls', WHERE WHAT IT READS IS OF BULK AT MOST 1048576: true; the input reads as it did. -/
def flagsCallsUptoRow : OpenClaim := { program := "ytfkhcpeahdkafaagreat", sum := "598501e4724c522ed250df26432bac915f2ea164d5f6dd806e5410b698c54451", func := "hornbeam/hornbeamlaw08.FlagsCalls", spec := "flagsCalls", inPlace := ["slices.overlaps[hornbeam/api.Op]"], unfollowed := true, recurses := true, loops := true, plainKeys := false, apart := false, narrowed := true }
def FlagsCallsUptoSaid : Prop := flagsCallsUptoRow.holds Tryz.pinned (OpenSpec.upto flagsCallsSpec)

/-- 'hornbeamlaw08.FlagsScripts', WHERE WHAT IT READS IS OF BULK AT MOST 1048576: true; the input reads as it did. -/
def flagsScriptsUptoRow : OpenClaim := { program := "ytfkhcpeahdkafaagreat", sum := "598501e4724c522ed250df26432bac915f2ea164d5f6dd806e5410b698c54451", func := "hornbeam/hornbeamlaw08.FlagsScripts", spec := "flagsScripts", inPlace := ["slices.overlaps[hornbeam/api.Op]"], unfollowed := true, recurses := true, loops := true, plainKeys := false, apart := false, narrowed := true }
def FlagsScriptsUptoSaid : Prop := flagsScriptsUptoRow.holds Tryz.pinned (OpenSpec.upto flagsScriptsSpec)

/-- 'hornbeamlaw08.FlagsKeeps', WHERE WHAT IT READS IS OF BULK AT MOST 1048576: true; the input reads as it did. -/
def flagsKeepsUptoRow : OpenClaim := { program := "ytfkhcpeahdkafaagreat", sum := "598501e4724c522ed250df26432bac915f2ea164d5f6dd806e5410b698c54451", func := "hornbeam/hornbeamlaw08.FlagsKeeps", spec := "flagsKeeps", inPlace := ["slices.overlaps[hornbeam/api.Op]"], unfollowed := true, recurses := true, loops := true, plainKeys := false, apart := false, narrowed := true }
def FlagsKeepsUptoSaid : Prop := flagsKeepsUptoRow.holds Tryz.pinned (OpenSpec.upto flagsKeepsSpec)

/-- 'hornbeamlaw08.FlagsOperators', WHERE WHAT IT READS IS OF BULK AT MOST 1048576: true; the input reads as it did. -/
def flagsOperatorsUptoRow : OpenClaim := { program := "ytfkhcpeahdkafaagreat", sum := "598501e4724c522ed250df26432bac915f2ea164d5f6dd806e5410b698c54451", func := "hornbeam/hornbeamlaw08.FlagsOperators", spec := "flagsOperators", inPlace := ["slices.overlaps[hornbeam/api.Op]"], unfollowed := true, recurses := true, plainKeys := false, apart := false, narrowed := true }
def FlagsOperatorsUptoSaid : Prop := flagsOperatorsUptoRow.holds Tryz.pinned (OpenSpec.upto flagsOperatorsSpec)

/-- 'hornbeamlaw08.FlagsConversions', WHERE WHAT IT READS IS OF BULK AT MOST 1048576: true; the input reads as it did. -/
def flagsConversionsUptoRow : OpenClaim := { program := "ytfkhcpeahdkafaagreat", sum := "598501e4724c522ed250df26432bac915f2ea164d5f6dd806e5410b698c54451", func := "hornbeam/hornbeamlaw08.FlagsConversions", spec := "flagsConversions", inPlace := ["slices.overlaps[hornbeam/api.Op]"], unfollowed := true, recurses := true, plainKeys := false, apart := false, narrowed := true }
def FlagsConversionsUptoSaid : Prop := flagsConversionsUptoRow.holds Tryz.pinned (OpenSpec.upto flagsConversionsSpec)

/-- 'hornbeamlaw08.FlagsHas', WHERE WHAT IT READS IS OF BULK AT MOST 1048576: true; the input reads as it did. -/
def flagsHasUptoRow : OpenClaim := { program := "ytfkhcpeahdkafaagreat", sum := "598501e4724c522ed250df26432bac915f2ea164d5f6dd806e5410b698c54451", func := "hornbeam/hornbeamlaw08.FlagsHas", spec := "flagsHas", inPlace := ["slices.overlaps[hornbeam/api.Op]"], unfollowed := true, recurses := true, plainKeys := false, apart := false, narrowed := true }
def FlagsHasUptoSaid : Prop := flagsHasUptoRow.holds Tryz.pinned (OpenSpec.upto flagsHasSpec)

end Rows
end Go.Proofs.YtfkhcpeahdkafaaGreat
