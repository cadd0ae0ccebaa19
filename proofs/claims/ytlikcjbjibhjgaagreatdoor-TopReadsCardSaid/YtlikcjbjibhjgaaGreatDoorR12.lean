/- Parts of the proof. -/
import Derived.Test.YtlikcjbjibhjgaaGreatDoorR01
import Derived.Test.YtlikcjbjibhjgaaGreatDoorR11
import Derived.Shelf.Abstract
import Derived.Shelf.RegionOpen
import Derived.WalkKit
import Derived.OwnWalkIn
import Derived.TacticsInMore
import Derived.LoopNIn
import Derived.LoopIn
set_option maxRecDepth 100000
namespace Hb
open Go Go.RowKit
theorem sC {w:World} {p:Addr} {v:Value} (h:w.cell? p=some v):∃o,w.heap[p.block]? = some o/\o.isCells=true:=by
 unfold World.cell? at h
 split at h <;> first | (rename_i e;exact ⟨_,e,rfl⟩) | cases h
theorem TmsK.cells {K:Nat->Prop} {w:World} {A:Option Addr} {l:List Tm} (h:TmsK K w A l):TmsK (fun b=>K b/\∃o,w.heap[b]? = some o/\o.isCells=true) w A l:=by
 induction h with
 | mk A l F C hl hc _ ih=>
  refine .mk A l F C hl (fun j i=>?_) ih
  obtain ⟨b,c,e,k,a,d,f,g⟩:=hc j i
  exact ⟨b,c,e,⟨k,sC (p:=⟨b,c+j * 4,none⟩) a⟩,a,d,f,g⟩
theorem TmsK.at' {K:Nat->Prop} {w:World} {A:Option Addr} {l:List Tm} (h:TmsK K w A l):TmsAt w.heap.size w A l :=
 h.cells.at (fun b a=>by obtain ⟨o,c,_⟩:=a.2;exact (Array.getElem?_eq_some_iff.1 c).1)
end Hb
namespace Go.Proofs.YtlikcjbjibhjgaaGreatDoor
open Go.RowKit Hb Go.Shelf
attribute [local go_sem] Oper.semAt_some
end Go.Proofs.YtlikcjbjibhjgaaGreatDoor
