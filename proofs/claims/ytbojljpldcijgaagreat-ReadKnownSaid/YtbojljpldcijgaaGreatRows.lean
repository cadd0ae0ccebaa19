/-
  No cell of these rows narrows 'for every input' (looked for: loops, veiled, ifaces, maps, wideKeys, modest, calm, conditions, laid).
  DERIVED. THE GIVEN ROWS OF THIS SEAT. 8 by the template 'for every input the law returns true; each argument reads behind the call as it read before'; 0 by the template 'total and deterministic' (their statements: YtbojljpldcijgaaGreatTotals.lean).
  GIVEN WITH THE SEED: the statements are not yours to turn. If you find one false, say at which input.
  Laid BY PROGRAM, IN A SANDBOX (cutbox-rows.mjs): the forced cells as the released guide's own fill.sh prints them over the translation d1a41c45feb5a714… (all of the seat's roots in one cut). By AI agents, Wed Nov 11 2026. No macro, syntax, notation, axiom, sorry.
-/
import Derived.Test.YtbojljpldcijgaaGreatChecked
import GoSem.Claim
import GoSem.ClaimJoined
import GoSem.ClaimMapViews
import Derived.JoinedTies
import Derived.KernelRfl
namespace Go.Proofs.YtbojljpldcijgaaGreat
/- THE CELL 'sum', in the pinned program and in every row, IS THE sha256 OF THE DUMP (.gsa) THAT YtbojljpldcijgaaGreatProg.lean LOADS. Nothing in Lean hashes anything: it is a label: what it is worth is what the hold of that sum in a sandbox is worth. -/
noncomputable def Tryz.pinned : Pinned := { name := "ytbojljpldcijgaagreat", sum := "d1a41c45feb5a714bd7a3f973f8ceb373dd25190d0005b95b976a9373ffa2f9c", checked := Tryz.checked }
namespace Rows
def none {H : Type} : Left H := { results := [], args := [] }

/-- 'hornbeamlaw10.ReadTerms': WHATEVER THE INPUT: true; the input reads as it did. -/
def readTermsSpec : ChangeSpec := { name := "readTerms", fn := fun _ => fun
  | [d1, d2, d3] => { results := [.lit (.bool true)], args := [d1, d2, d3] }
  | _ => none }
def readTermsRow : OpenClaim := { program := "ytbojljpldcijgaagreat", sum := "d1a41c45feb5a714bd7a3f973f8ceb373dd25190d0005b95b976a9373ffa2f9c", func := "hornbeam/hornbeamlaw10.ReadTerms", spec := "readTerms", inPlace := ["internal/bytealg.IndexByteString"], unfollowed := true, recurses := true, apart := false }
def ReadTermsSaid : Prop := readTermsRow.holds Tryz.pinned (OpenSpec.ofChange readTermsSpec)

/-- ITS FALSE NEIGHBOUR: 'it returns false'. Refute it at one input. -/
def readTermsWrong : ChangeSpec := { name := "readTerms", fn := fun _ => fun
  | [d1, d2, d3] => { results := [.lit (.bool false)], args := [d1, d2, d3] }
  | _ => none }
def ReadTermsWrongFalsely : Prop := readTermsRow.holds Tryz.pinned (OpenSpec.ofChange readTermsWrong)

/-- 'hornbeamlaw10.ReadCanonical': WHATEVER THE INPUT: true; the input reads as it did. -/
def readCanonicalSpec : ChangeSpec := { name := "readCanonical", fn := fun _ => fun
  | [d1, d2, d3] => { results := [.lit (.bool true)], args := [d1, d2, d3] }
  | _ => none }
def readCanonicalRow : OpenClaim := { program := "ytbojljpldcijgaagreat", sum := "d1a41c45feb5a714bd7a3f973f8ceb373dd25190d0005b95b976a9373ffa2f9c", func := "hornbeam/hornbeamlaw10.ReadCanonical", spec := "readCanonical", inPlace := ["internal/bytealg.IndexByteString"], unfollowed := true, recurses := true, apart := false }
def ReadCanonicalSaid : Prop := readCanonicalRow.holds Tryz.pinned (OpenSpec.ofChange readCanonicalSpec)

/-- ITS FALSE NEIGHBOUR: 'it returns false'. Refute it at one input. -/
def readCanonicalWrong : ChangeSpec := { name := "readCanonical", fn := fun _ => fun
  | [d1, d2, d3] => { results := [.lit (.bool false)], args := [d1, d2, d3] }
  | _ => none }
def ReadCanonicalWrongFalsely : Prop := readCanonicalRow.holds Tryz.pinned (OpenSpec.ofChange readCanonicalWrong)

/-- 'hornbeamlaw10.ReadPlace': WHATEVER THE INPUT: true; the input reads as it did. -/
def readPlaceSpec : ChangeSpec := { name := "readPlace", fn := fun _ => fun
  | [d1, d2, d3] => { results := [.lit (.bool true)], args := [d1, d2, d3] }
  | _ => none }
def readPlaceRow : OpenClaim := { program := "ytbojljpldcijgaagreat", sum := "d1a41c45feb5a714bd7a3f973f8ceb373dd25190d0005b95b976a9373ffa2f9c", func := "hornbeam/hornbeamlaw10.ReadPlace", spec := "readPlace", inPlace := ["internal/bytealg.IndexByteString"], unfollowed := true, recurses := true, apart := false }
def ReadPlaceSaid : Prop := readPlaceRow.holds Tryz.pinned (OpenSpec.ofChange readPlaceSpec)

/-- ITS FALSE NEIGHBOUR: 'it returns false'. Refute it at one input. -/
def readPlaceWrong : ChangeSpec := { name := "readPlace", fn := fun _ => fun
  | [d1, d2, d3] => { results := [.lit (.bool false)], args := [d1, d2, d3] }
  | _ => none }
def ReadPlaceWrongFalsely : Prop := readPlaceRow.holds Tryz.pinned (OpenSpec.ofChange readPlaceWrong)

/-- 'hornbeamlaw10.ReadBrackets': WHATEVER THE INPUT: true; the input reads as it did. -/
def readBracketsSpec : ChangeSpec := { name := "readBrackets", fn := fun _ => fun
  | [d1, d2] => { results := [.lit (.bool true)], args := [d1, d2] }
  | _ => none }
def readBracketsRow : OpenClaim := { program := "ytbojljpldcijgaagreat", sum := "d1a41c45feb5a714bd7a3f973f8ceb373dd25190d0005b95b976a9373ffa2f9c", func := "hornbeam/hornbeamlaw10.ReadBrackets", spec := "readBrackets", inPlace := ["internal/bytealg.IndexByteString"], unfollowed := true, recurses := true, apart := false }
def ReadBracketsSaid : Prop := readBracketsRow.holds Tryz.pinned (OpenSpec.ofChange readBracketsSpec)

/-- ITS FALSE NEIGHBOUR: 'it returns false'. Refute it at one input. -/
def readBracketsWrong : ChangeSpec := { name := "readBrackets", fn := fun _ => fun
  | [d1, d2] => { results := [.lit (.bool false)], args := [d1, d2] }
  | _ => none }
def ReadBracketsWrongFalsely : Prop := readBracketsRow.holds Tryz.pinned (OpenSpec.ofChange readBracketsWrong)

/-- 'hornbeamlaw10.ReadAlls': WHATEVER THE INPUT: true; the input reads as it did. -/
def readAllsSpec : ChangeSpec := { name := "readAlls", fn := fun _ => fun
  | [d1, d2] => { results := [.lit (.bool true)], args := [d1, d2] }
  | _ => none }
def readAllsRow : OpenClaim := { program := "ytbojljpldcijgaagreat", sum := "d1a41c45feb5a714bd7a3f973f8ceb373dd25190d0005b95b976a9373ffa2f9c", func := "hornbeam/hornbeamlaw10.ReadAlls", spec := "readAlls", inPlace := ["internal/bytealg.IndexByteString"], unfollowed := true, recurses := true, apart := false }
def ReadAllsSaid : Prop := readAllsRow.holds Tryz.pinned (OpenSpec.ofChange readAllsSpec)

/-- ITS FALSE NEIGHBOUR: 'it returns false'. Refute it at one input. -/
def readAllsWrong : ChangeSpec := { name := "readAlls", fn := fun _ => fun
  | [d1, d2] => { results := [.lit (.bool false)], args := [d1, d2] }
  | _ => none }
def ReadAllsWrongFalsely : Prop := readAllsRow.holds Tryz.pinned (OpenSpec.ofChange readAllsWrong)

/-- 'hornbeamlaw10.ReadKnown': WHATEVER THE INPUT: true; the input reads as it did. -/
def readKnownSpec : ChangeSpec := { name := "readKnown", fn := fun _ => fun
  | [] => { results := [.lit (.bool true)], args := [] }
  | _ => none }
def readKnownRow : OpenClaim := { program := "ytbojljpldcijgaagreat", sum := "d1a41c45feb5a714bd7a3f973f8ceb373dd25190d0005b95b976a9373ffa2f9c", func := "hornbeam/hornbeamlaw10.ReadKnown", spec := "readKnown", inPlace := ["internal/bytealg.IndexByteString"], unfollowed := true, recurses := true, apart := false }
def ReadKnownSaid : Prop := readKnownRow.holds Tryz.pinned (OpenSpec.ofChange readKnownSpec)

/-- ITS FALSE NEIGHBOUR: 'it returns false'. Refute it at one input. -/
def readKnownWrong : ChangeSpec := { name := "readKnown", fn := fun _ => fun
  | [] => { results := [.lit (.bool false)], args := [] }
  | _ => none }
def ReadKnownWrongFalsely : Prop := readKnownRow.holds Tryz.pinned (OpenSpec.ofChange readKnownWrong)

/-- 'hornbeamlaw10.ReadAssociates': WHATEVER THE INPUT: true; the input reads as it did. -/
def readAssociatesSpec : ChangeSpec := { name := "readAssociates", fn := fun _ => fun
  | [d1, d2, d3, d4] => { results := [.lit (.bool true)], args := [d1, d2, d3, d4] }
  | _ => none }
def readAssociatesRow : OpenClaim := { program := "ytbojljpldcijgaagreat", sum := "d1a41c45feb5a714bd7a3f973f8ceb373dd25190d0005b95b976a9373ffa2f9c", func := "hornbeam/hornbeamlaw10.ReadAssociates", spec := "readAssociates", inPlace := ["slices.overlaps[hornbeam/api.Op]", "internal/bytealg.IndexByteString"], unfollowed := true, recurses := true, apart := false }
def ReadAssociatesSaid : Prop := readAssociatesRow.holds Tryz.pinned (OpenSpec.ofChange readAssociatesSpec)

/-- ITS FALSE NEIGHBOUR: 'it returns false'. Refute it at one input. -/
def readAssociatesWrong : ChangeSpec := { name := "readAssociates", fn := fun _ => fun
  | [d1, d2, d3, d4] => { results := [.lit (.bool false)], args := [d1, d2, d3, d4] }
  | _ => none }
def ReadAssociatesWrongFalsely : Prop := readAssociatesRow.holds Tryz.pinned (OpenSpec.ofChange readAssociatesWrong)

/-- 'hornbeamlaw10.ReadPriorities': WHATEVER THE INPUT: true; the input reads as it did. -/
def readPrioritiesSpec : ChangeSpec := { name := "readPriorities", fn := fun _ => fun
  | [d1, d2, d3, d4] => { results := [.lit (.bool true)], args := [d1, d2, d3, d4] }
  | _ => none }
def readPrioritiesRow : OpenClaim := { program := "ytbojljpldcijgaagreat", sum := "d1a41c45feb5a714bd7a3f973f8ceb373dd25190d0005b95b976a9373ffa2f9c", func := "hornbeam/hornbeamlaw10.ReadPriorities", spec := "readPriorities", inPlace := ["slices.overlaps[hornbeam/api.Op]", "internal/bytealg.IndexByteString"], unfollowed := true, recurses := true, apart := false }
def ReadPrioritiesSaid : Prop := readPrioritiesRow.holds Tryz.pinned (OpenSpec.ofChange readPrioritiesSpec)

/-- ITS FALSE NEIGHBOUR: 'it returns false'. Refute it at one input. -/
def readPrioritiesWrong : ChangeSpec := { name := "readPriorities", fn := fun _ => fun
  | [d1, d2, d3, d4] => { results := [.lit (.bool false)], args := [d1, d2, d3, d4] }
  | _ => none }
def ReadPrioritiesWrongFalsely : Prop := readPrioritiesRow.holds Tryz.pinned (OpenSpec.ofChange readPrioritiesWrong)

/- THE SECOND FORM. 'bulk': how many values and letters a reading holds, each counted each time it is reached (what is shared counts as often as it is met; a slice's spare places count too). A statement '..UptoSaid' is the law's where the arguments, and the package variables that the reading takes, are together of bulk at most 1048576: NARROWER than '..Said'. Prove '..Said' where nothing that the law and all that it calls make is longer than what came in: it says more and counts as full. Else prove '..UptoSaid'. A law counts once. -/
mutual
def uptoBulk {H : Type} : DataW H → Nat
  | .lit (.string bytes) => bytes.length + 1
  | .lit _ => 1
  | .nil => 1
  | .ptr d => uptoBulk d + 1
  | .slice elems spare => uptoBulkAll elems + uptoBulkAll spare + 1
  | .agg parts => uptoBulkAll parts + 1
  | .iface _ d => uptoBulk d + 1
  | .map entries => uptoBulkEntries entries + 1
  | .held _ => 1
def uptoBulkAll {H : Type} : List (DataW H) → Nat
  | [] => 0
  | d :: r => uptoBulk d + uptoBulkAll r
def uptoBulkEntries {H : Type} : List (Lit × DataW H) → Nat
  | [] => 0
  | x :: r => uptoBulkEntry x + uptoBulkEntries r
def uptoBulkEntry {H : Type} : Lit × DataW H → Nat
  | (.string bytes, d) => bytes.length + uptoBulk d + 1
  | (_, d) => uptoBulk d + 1
 end
def uptoSmall : (H : Type) → List (DataW H) → Bool := fun _ ds => decide (uptoBulkAll ds ≤ 1048576)
def OpenSpec.upto (s : _root_.Go.ChangeSpec) : _root_.Go.OpenSpec := { _root_.Go.OpenSpec.ofChange s with cond := some uptoSmall }

/-- 'hornbeamlaw10.ReadTerms', WHERE WHAT IT READS IS OF BULK AT MOST 1048576: true; the input reads as it did. -/
def readTermsUptoRow : OpenClaim := { program := "ytbojljpldcijgaagreat", sum := "d1a41c45feb5a714bd7a3f973f8ceb373dd25190d0005b95b976a9373ffa2f9c", func := "hornbeam/hornbeamlaw10.ReadTerms", spec := "readTerms", inPlace := ["internal/bytealg.IndexByteString"], unfollowed := true, recurses := true, apart := false, narrowed := true }
def ReadTermsUptoSaid : Prop := readTermsUptoRow.holds Tryz.pinned (OpenSpec.upto readTermsSpec)

/-- 'hornbeamlaw10.ReadCanonical', WHERE WHAT IT READS IS OF BULK AT MOST 1048576: true; the input reads as it did. -/
def readCanonicalUptoRow : OpenClaim := { program := "ytbojljpldcijgaagreat", sum := "d1a41c45feb5a714bd7a3f973f8ceb373dd25190d0005b95b976a9373ffa2f9c", func := "hornbeam/hornbeamlaw10.ReadCanonical", spec := "readCanonical", inPlace := ["internal/bytealg.IndexByteString"], unfollowed := true, recurses := true, apart := false, narrowed := true }
def ReadCanonicalUptoSaid : Prop := readCanonicalUptoRow.holds Tryz.pinned (OpenSpec.upto readCanonicalSpec)

/-- 'hornbeamlaw10.ReadPlace', WHERE WHAT IT READS IS OF BULK AT MOST 1048576: true; the input reads as it did. -/
def readPlaceUptoRow : OpenClaim := { program := "ytbojljpldcijgaagreat", sum := "d1a41c45feb5a714bd7a3f973f8ceb373dd25190d0005b95b976a9373ffa2f9c", func := "hornbeam/hornbeamlaw10.ReadPlace", spec := "readPlace", inPlace := ["internal/bytealg.IndexByteString"], unfollowed := true, recurses := true, apart := false, narrowed := true }
def ReadPlaceUptoSaid : Prop := readPlaceUptoRow.holds Tryz.pinned (OpenSpec.upto readPlaceSpec)

/-- 'hornbeamlaw10.ReadBrackets', WHERE WHAT IT READS IS OF BULK AT MOST 1048576: true; the input reads as it did. -/
def readBracketsUptoRow : OpenClaim := { program := "ytbojljpldcijgaagreat", sum := "d1a41c45feb5a714bd7a3f973f8ceb373dd25190d0005b95b976a9373ffa2f9c", func := "hornbeam/hornbeamlaw10.ReadBrackets", spec := "readBrackets", inPlace := ["internal/bytealg.IndexByteString"], unfollowed := true, recurses := true, apart := false, narrowed := true }
def ReadBracketsUptoSaid : Prop := readBracketsUptoRow.holds Tryz.pinned (OpenSpec.upto readBracketsSpec)

/-- 'hornbeamlaw10.ReadAlls', WHERE WHAT IT READS IS OF BULK AT MOST 1048576: true; the input reads as it did. -/
def readAllsUptoRow : OpenClaim := { program := "ytbojljpldcijgaagreat", sum := "d1a41c45feb5a714bd7a3f973f8ceb373dd25190d0005b95b976a9373ffa2f9c", func := "hornbeam/hornbeamlaw10.ReadAlls", spec := "readAlls", inPlace := ["internal/bytealg.IndexByteString"], unfollowed := true, recurses := true, apart := false, narrowed := true }
def ReadAllsUptoSaid : Prop := readAllsUptoRow.holds Tryz.pinned (OpenSpec.upto readAllsSpec)

/-- 'hornbeamlaw10.ReadKnown', WHERE WHAT IT READS IS OF BULK AT MOST 1048576: true; the input reads as it did. -/
def readKnownUptoRow : OpenClaim := { program := "ytbojljpldcijgaagreat", sum := "d1a41c45feb5a714bd7a3f973f8ceb373dd25190d0005b95b976a9373ffa2f9c", func := "hornbeam/hornbeamlaw10.ReadKnown", spec := "readKnown", inPlace := ["internal/bytealg.IndexByteString"], unfollowed := true, recurses := true, apart := false, narrowed := true }
def ReadKnownUptoSaid : Prop := readKnownUptoRow.holds Tryz.pinned (OpenSpec.upto readKnownSpec)

/-- 'hornbeamlaw10.ReadAssociates', WHERE WHAT IT READS IS OF BULK AT MOST 1048576: true; the input reads as it did. -/
def readAssociatesUptoRow : OpenClaim := { program := "ytbojljpldcijgaagreat", sum := "d1a41c45feb5a714bd7a3f973f8ceb373dd25190d0005b95b976a9373ffa2f9c", func := "hornbeam/hornbeamlaw10.ReadAssociates", spec := "readAssociates", inPlace := ["slices.overlaps[hornbeam/api.Op]", "internal/bytealg.IndexByteString"], unfollowed := true, recurses := true, apart := false, narrowed := true }
def ReadAssociatesUptoSaid : Prop := readAssociatesUptoRow.holds Tryz.pinned (OpenSpec.upto readAssociatesSpec)

/-- 'hornbeamlaw10.ReadPriorities', WHERE WHAT IT READS IS OF BULK AT MOST 1048576: true; the input reads as it did. -/
def readPrioritiesUptoRow : OpenClaim := { program := "ytbojljpldcijgaagreat", sum := "d1a41c45feb5a714bd7a3f973f8ceb373dd25190d0005b95b976a9373ffa2f9c", func := "hornbeam/hornbeamlaw10.ReadPriorities", spec := "readPriorities", inPlace := ["slices.overlaps[hornbeam/api.Op]", "internal/bytealg.IndexByteString"], unfollowed := true, recurses := true, apart := false, narrowed := true }
def ReadPrioritiesUptoSaid : Prop := readPrioritiesUptoRow.holds Tryz.pinned (OpenSpec.upto readPrioritiesSpec)

end Rows
end Go.Proofs.YtbojljpldcijgaaGreat
