/- Parts of the proof. -/
import Derived.Test.YtbojljpldcijgaaGreatDoorH01
import Derived.Test.YtbojljpldcijgaaGreatDoorH13
import Derived.Test.YtbojljpldcijgaaGreatDoorH03
namespace Hb
open Go Go.RowKit Go.Sort Go.Proofs
theorem valid_ok {l:List OpR} (h:opsValid l=true) (j:Nat) (hj:j<l.length):opOk l[j]=true:=by
 have h1:=(opsValid_at l h).2 j hj
 unfold okJ at h1
 rw [getD_at l j hj] at h1
 simp at h1
 exact h1.1
end Hb
namespace Hb
open Go Go.RowKit
structure Tab (w:World) (A:Option Addr) (n cap:Nat) (l:List OpR):Prop where
 len:n=l.length
 ops:OpsAt w A l
 nil:n=0→(Value.slice A n cap=.slice none 0 0∨∃ad,A=some ad)
theorem Tab.below {w w':World} {A:Option Addr} {n cap:Nat} {l:List OpR} (h:Tab w A n cap l) (hB:Below w.heap.size w w'):Tab w' A n cap l:=⟨h.len,h.ops.below hB,h.nil⟩
theorem valid_all {l:List OpR} (h:opsValid l=true):∀a∈l,opOk a=true:=by
 intro a ha
 obtain ⟨j,hj,rfl⟩:=List.getElem_of_mem ha
 exact valid_ok h j hj
end Hb
