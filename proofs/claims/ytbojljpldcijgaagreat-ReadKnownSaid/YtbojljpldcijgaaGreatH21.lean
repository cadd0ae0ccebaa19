/- Parts of the proof. -/
import Derived.Test.YtbojljpldcijgaaGreatH01
import Derived.Test.YtbojljpldcijgaaGreatH19
import Derived.Test.YtbojljpldcijgaaGreatH20
import Derived.Test.YtbojljpldcijgaaGreatH14
import Derived.Test.YtbojljpldcijgaaGreatH08
namespace Hb
open Go Go.RowKit
theorem ops_other {W W':World} {A:Option Addr} {l:List OpR} (h:OpsAt W A l) (hs:W.heap.size≤W'.heap.size) (hk:∀b o (s:ByteArray) (x:Int),W.cell? ⟨b,o,none⟩=some (.string s)→W.cell? ⟨b,o+1,none⟩=some (.int .i64 x)→W'.heap[b]? = W.heap[b]?):OpsAt W' A l:=fun j hj=>by
 obtain ⟨b,off,e,hlt,c0,c1,c2⟩:=h j hj
 have hw:∀o,W'.cell? ⟨b,o,none⟩=W.cell? ⟨b,o,none⟩:=fun o=>World.cell?_of_block (hk b _ _ _ c0 c1)
 exact ⟨b,off,e,by omega,(hw _).trans c0,(hw _).trans c1,(hw _).trans c2⟩
theorem tab_other {W W':World} {A:Option Addr} {n cap:Nat} {l:List OpR} (h:Tab W A n cap l) (hs:W.heap.size≤W'.heap.size) (hk:∀b o (s:ByteArray) (x:Int),W.cell? ⟨b,o,none⟩=some (.string s)→W.cell? ⟨b,o+1,none⟩=some (.int .i64 x)→W'.heap[b]? = W.heap[b]?):Tab W' A n cap l:=⟨h.len,ops_other h.ops hs hk,h.nil⟩
def noOp (vs:List Value):Prop:=∀(i:Nat) (s:ByteArray) (x:Int),vs[i]? = some (.string s)→vs[i+1]? ≠ some (.int .i64 x)
theorem tab_boxes {W W':World} {A:Option Addr} {n cap:Nat} {l:List OpR} {L:List (Nat×List Value)} (h:Tab W A n cap l) (hb:Bks W L) (hv:∀x∈L,noOp x.2) (hs:W.heap.size≤W'.heap.size) (hk:∀k,(∀x∈L,k≠x.1)→W'.heap[k]? = W.heap[k]?):Tab W' A n cap l :=
 tab_other h hs fun b o s x hc hd=>hk b fun y hy e=>by
  subst e
  obtain ⟨e,he⟩:=hb.bk y hy
  simp only [World.cell?,he,List.getElem?_toArray] at hc hd
  exact hv y hy o s x hc hd
end Hb
namespace Go.Proofs.YtbojljpldcijgaaGreat
open Go.RowKit Hb Go.Shelf
attribute [local go_sem] Oper.semAt_some
set_option maxRecDepth 100000
end Go.Proofs.YtbojljpldcijgaaGreat
