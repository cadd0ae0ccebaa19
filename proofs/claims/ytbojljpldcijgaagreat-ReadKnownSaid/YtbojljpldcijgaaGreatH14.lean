/- Parts of the proof. -/
import Derived.Test.YtbojljpldcijgaaGreatH13
import Derived.Deep.RegionHeld3
import Derived.Laws.Shifts
import Derived.Test.YtbojljpldcijgaaGreatH01
import Derived.Lib.AppendZerosOnto
import Derived.Lib.Overlaps
import Derived.Shelf.Spec.SlicesInsert
namespace Hb
open Go Go.RowKit Go.Sort Go.Proofs
theorem valid_ok {l:List OpR} (h:opsValid l=true) (j:Nat) (hj:j<l.length):opOk l[j]=true:=by
 have h1:=(opsValid_at l h).2 j hj
 unfold okJ at h1
 rw [getD_at l j hj] at h1
 simp at h1
 exact h1.1
end Hb
namespace Hb
open Go Go.RowKit
structure Tab (w:World) (A:Option Addr) (n cap:Nat) (l:List OpR):Prop where
 len:n=l.length
 ops:OpsAt w A l
 nil:n=0→(Value.slice A n cap=.slice none 0 0∨∃ad,A=some ad)
theorem Tab.below {w w':World} {A:Option Addr} {n cap:Nat} {l:List OpR} (h:Tab w A n cap l) (hB:Below w.heap.size w w'):Tab w' A n cap l:=⟨h.len,h.ops.below hB,h.nil⟩
end Hb
