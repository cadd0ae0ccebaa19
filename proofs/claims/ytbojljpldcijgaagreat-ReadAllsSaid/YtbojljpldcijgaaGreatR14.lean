/- Parts of the proof. -/
import Derived.Test.YtbojljpldcijgaaGreatR13
import Derived.Deep.RegionHeld3
import Derived.Laws.Shifts
import Derived.Test.YtbojljpldcijgaaGreatR01
import Derived.Lib.AppendZerosOnto
import Derived.Lib.Overlaps
import Derived.Shelf.Spec.SlicesInsert
namespace Hb
open Go Go.RowKit Go.Sort Go.Proofs
theorem xI {l:List OpR} (h:ea l=true) (j:Nat) (b:j<l.length):mu l[j]=true:=by
 have a:=(lU l h).2 j b
 unfold xj at a
 rw [nC l j b] at a
 simp at a
 exact a.1
end Hb
namespace Hb
open Go Go.RowKit
structure Tab (w:World) (A:Option Addr) (n cap:Nat) (l:List OpR):Prop where
 len:n=l.length
 ops:OpsAt w A l
 nil:n=0->(Value.slice A n cap=.slice none 0 0\/∃ad,A=some ad)
theorem Tab.below {w w':World} {A:Option Addr} {n a:Nat} {l:List OpR} (h:Tab w A n a l) (b:Below w.heap.size w w'):Tab w' A n a l:=⟨h.len,h.ops.below b,h.nil⟩
end Hb
