/- Parts of the proof. -/
import Derived.Test.YtbojljpldcijgaaGreatH01
import Derived.Test.YtbojljpldcijgaaGreatH08
import Derived.Shelf.Abstract
import Derived.Shelf.RegionOpen
import Derived.WalkKit
import Derived.OwnWalkIn
import Derived.TacticsInMore
import Derived.LoopNIn
import Derived.LoopIn
namespace Hb
open Go Go.RowKit
theorem isCells_of_cell {w:World} {p:Addr} {v:Value} (h:w.cell? p=some v):∃o,w.heap[p.block]? = some o∧o.isCells=true:=by
 unfold World.cell? at h
 split at h <;> first | (rename_i e;exact ⟨_,e,rfl⟩) | cases h
theorem TmsK.cells {K:Nat→Prop} {w:World} {A:Option Addr} {l:List Tm} (h:TmsK K w A l):TmsK (fun b=>K b∧∃o,w.heap[b]? = some o∧o.isCells=true) w A l:=by
 induction h with
 | mk A l F C hl hc _ ih=>
  refine .mk A l F C hl (fun j hj=>?_) ih
  obtain ⟨b,off,e,hk,c0,c1,c2,c3⟩:=hc j hj
  exact ⟨b,off,e,⟨hk,isCells_of_cell (p:=⟨b,off+j * 4,none⟩) c0⟩,c0,c1,c2,c3⟩
theorem TmsK.at' {K:Nat→Prop} {w:World} {A:Option Addr} {l:List Tm} (h:TmsK K w A l):TmsAt w.heap.size w A l :=
 h.cells.at (fun b hb=>by obtain ⟨o,ho,_⟩:=hb.2;exact (Array.getElem?_eq_some_iff.1 ho).1)
end Hb
namespace Go.Proofs.YtbojljpldcijgaaGreat
open Go.RowKit Hb Go.Shelf
attribute [local go_sem] Oper.semAt_some
set_option maxRecDepth 100000
end Go.Proofs.YtbojljpldcijgaaGreat
