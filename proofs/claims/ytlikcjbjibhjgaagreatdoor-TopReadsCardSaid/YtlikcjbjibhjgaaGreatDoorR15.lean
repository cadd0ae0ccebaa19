/- Parts of the proof. -/
import Derived.Test.YtlikcjbjibhjgaaGreatDoorR01
import Derived.Test.YtlikcjbjibhjgaaGreatDoorR13
import Derived.Test.YtlikcjbjibhjgaaGreatDoorR14
import Derived.Test.YtlikcjbjibhjgaaGreatDoorR06
set_option maxRecDepth 100000
open Go.Value renaming string -> aa
namespace Hb
open Go Go.RowKit
theorem EO {W a:World} {A:Option Addr} {l:List OpR} (h:OpsAt W A l) (p:W.heap.size<=a.heap.size) (k:∀b o (s:ByteArray) (x:Int),W.cell? ⟨b,o,none⟩=some (aa s)->W.cell? ⟨b,o+1,none⟩=some (.int .i64 x)->a.heap[b]? = W.heap[b]?):OpsAt a A l:=fun j i=>by
 obtain ⟨b,m,e,n,d,f,g⟩:=h j i
 have c:∀o,a.cell? ⟨b,o,none⟩=W.cell? ⟨b,o,none⟩:=fun o=>World.cell?_of_block (k b _ _ _ d f)
 exact ⟨b,m,e,by omega,(c _).trans d,(c _).trans f,(c _).trans g⟩
theorem DY {W a:World} {A:Option Addr} {n c:Nat} {l:List OpR} (h:Tab W A n c l) (e:W.heap.size<=a.heap.size) (d:∀b o (s:ByteArray) (x:Int),W.cell? ⟨b,o,none⟩=some (aa s)->W.cell? ⟨b,o+1,none⟩=some (.int .i64 x)->a.heap[b]? = W.heap[b]?):Tab a A n c l:=⟨h.len,EO h.ops e d,h.nil⟩
def Mp (vs:List Value):Prop:=∀(i:Nat) (s:ByteArray) (x:Int),vs[i]? = some (aa s)->vs[i+1]? ≠ some (.int .i64 x)
theorem rm {W a:World} {A:Option Addr} {n c:Nat} {l:List OpR} {L:List (Nat×List Value)} (h:Tab W A n c l) (g:Bks W L) (p:∀x∈L,Mp x.2) (m:W.heap.size<=a.heap.size) (j:∀k,(∀x∈L,k≠x.1)->a.heap[k]? = W.heap[k]?):Tab a A n c l :=
 DY h m fun b o s x d hd=>j b fun y f e=>by
  subst e
  obtain ⟨e,i⟩:=g.bk y f
  simp only [World.cell?,i,List.getElem?_toArray] at d hd
  exact p y f o s x d hd
end Hb
namespace Go.Proofs.YtlikcjbjibhjgaaGreatDoor
open Go.RowKit Hb Go.Shelf
attribute [local go_sem] Oper.semAt_some
end Go.Proofs.YtlikcjbjibhjgaaGreatDoor
