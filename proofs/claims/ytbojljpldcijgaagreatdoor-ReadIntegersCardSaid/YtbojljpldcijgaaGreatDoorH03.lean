/- Parts of the proof. -/
import Derived.Test.YtbojljpldcijgaaGreatDoorH02
import Derived.Test.YtbojljpldcijgaaGreatDoorH01
import Derived.Test.YtbojljpldcijgaaGreatDoorProg
import Derived.Lib.Bytealg
import Derived.Deep.QuietTactic
import Derived.BigQuiet
import Derived.LoopTactic
import Derived.Deep.DeepMust
namespace Hb
open Go Go.RowKit
def idxI (p:OpR→Bool) (l:List OpR):Int:=if l.any p=true then (l.findIdx p:Int) else -1
theorem idxI_hit (p:OpR→Bool) (l:List OpR) (k:Nat) (hk:k<l.length) (h:p l[k]=true) (hb:∀j (hj:j<k),p (l[j]'(by omega))=false):idxI p l=k:=by
 unfold idxI
 rw [if_pos (List.any_eq_true.2 ⟨l[k],List.getElem_mem hk,h⟩),(List.findIdx_eq hk).2 ⟨h,hb⟩]
theorem idxI_miss (p:OpR→Bool) (l:List OpR) (hb:∀j (hj:j<l.length),p l[j]=false):idxI p l=-1:=by
 unfold idxI
 rw [if_neg]
 rw [Bool.not_eq_true,List.any_eq_false]
 intro x hx
 obtain ⟨j,hj,rfl⟩:=List.getElem_of_mem hx
 simp [hb j hj]
theorem find_hit (p:OpR→Bool) (l:List OpR) (k:Nat) (hk:k<l.length) (h:p l[k]=true) (hb:∀j (hj:j<k),p (l[j]'(by omega))=false):l.find? p=some l[k]:=by
 rw [List.find?_eq_some_iff_getElem]
 exact ⟨h,k,hk,rfl,fun j hj=>by simp [hb j hj]⟩
theorem find_miss (p:OpR→Bool) (l:List OpR) (hb:∀j (hj:j<l.length),p l[j]=false):l.find? p=none:=by
 rw [List.find?_eq_none]
 intro x hx
 obtain ⟨j,hj,rfl⟩:=List.getElem_of_mem hx
 simp [hb j hj]
def isOp (name:ByteArray) (c:Int) (o:OpR):Bool:=o.name.toList==name.toList&&clsOp o.typ==c
def op0:OpR:=⟨⟨#[]⟩,0,0⟩
def findR (l:List OpR) (name:ByteArray) (c:Int):Option OpR:=if opsValid l=true then l.find? (isOp name c) else none
structure FHeld (w0 w:World) (o:OpR) (g1 g2:Nat) (name:ByteArray) (c:Int):Prop where
 bel:Below w0.heap.size w0 w
 lt:w0.heap.size<w.heap.size
 a0:w.cell? ⟨w0.heap.size,0,none⟩=some (.string o.name)
 a1:w.cell? ⟨w0.heap.size,1,none⟩=some (.int .i64 o.typ)
 n0:w.cell? ⟨g1,0,none⟩=some (.string name)
 f0:w.cell? ⟨g2,0,none⟩=some (.int .i64 c)
 l1:g1<w0.heap.size
 l2:g2<w0.heap.size
section
variable {w0 w w':World} {o:OpR} {g1 g2:Nat} {name:ByteArray} {c:Int}
theorem FHeld.keep (h:FHeld w0 w o g1 g2 name c):w.cell? ⟨w0.heap.size,0,none⟩=some (.string o.name)∧w.cell? ⟨w0.heap.size,1,none⟩=some (.int .i64 o.typ)∧w.cell? ⟨g1,0,none⟩=some (.string name)∧w.cell? ⟨g2,0,none⟩=some (.int .i64 c)∧FHeld w0 w o g1 g2 name c:=⟨h.a0,h.a1,h.n0,h.f0,h⟩
theorem FHeld.of (h:w.cell? ⟨w0.heap.size,0,none⟩=some (.string o.name)∧w.cell? ⟨w0.heap.size,1,none⟩=some (.int .i64 o.typ)∧w.cell? ⟨g1,0,none⟩=some (.string name)∧w.cell? ⟨g2,0,none⟩=some (.int .i64 c)∧FHeld w0 w o g1 g2 name c):FHeld w0 w o g1 g2 name c:=h.2.2.2.2
theorem FHeld.call (hB:Below w.heap.size w w') (h:FHeld w0 w o g1 g2 name c):FHeld w0 w' o g1 g2 name c where
 bel:=h.bel.trans (hB.mono (by have:=h.lt;omega))
 lt:=Nat.lt_of_lt_of_le h.lt hB.size
 a0:=(hB.cell (p:=⟨_,_,none⟩) h.lt).trans h.a0
 a1:=(hB.cell (p:=⟨_,_,none⟩) h.lt).trans h.a1
 n0:=(hB.cell (p:=⟨_,_,none⟩) (Nat.lt_trans h.l1 h.lt)).trans h.n0
 f0:=(hB.cell (p:=⟨_,_,none⟩) (Nat.lt_trans h.l2 h.lt)).trans h.f0
 l1:=h.l1
 l2:=h.l2
theorem FHeld.drew (h:FHeld w0 w o g1 g2 name c):FHeld w0 w.drew o g1 g2 name c:=h.call (Below.refl w.heap.size w).drew
theorem FHeld.start (e:TypeId) (n0:w.cell? ⟨g1,0,none⟩=some (.string name)) (f0:w.cell? ⟨g2,0,none⟩=some (.int .i64 c)) (l1:g1<w.heap.size) (l2:g2<w.heap.size):FHeld w (w.alloc (.cells #[.string o.name,.int .i64 o.typ,.int .i64 o.prec] e)) o g1 g2 name c where
 bel:=(Below.refl _ _).alloc (Nat.le_refl _) _
 lt:=by simp
 a0:=World.cell?_alloc_new _ _ _ 0
 a1:=World.cell?_alloc_new _ _ _ 1
 n0:=(World.grownBy_alloc _ _ none).cell n0 (by simp)
 f0:=(World.grownBy_alloc _ _ none).cell f0 (by simp)
 l1:=l1
 l2:=l2
end
structure RHeld (w0 w:World) (name:ByteArray) (c:Int):Prop where
 bel:Below w0.heap.size w0 w
 lt:w0.heap.size+1+1<w.heap.size
 n0:w.cell? ⟨w0.heap.size,0,none⟩=some (.string name)
 f0:w.cell? ⟨w0.heap.size+1,0,none⟩=some (.int .i64 c)
 r0:∃v,w.cell? ⟨w0.heap.size+1+1,0,none⟩=some v
 r1:∃v,w.cell? ⟨w0.heap.size+1+1,1,none⟩=some v
 r2:∃v,w.cell? ⟨w0.heap.size+1+1,2,none⟩=some v
 fr:∀o,w.frozen? ⟨w0.heap.size+1+1,o,none⟩=false
theorem RHeld.call {w0 w w':World} {name:ByteArray} {c:Int} (h:RHeld w0 w name c) (hB:Below w.heap.size w w'):RHeld w0 w' name c where
 bel:=h.bel.trans (hB.mono (by have:=h.lt;omega))
 lt:=Nat.lt_of_lt_of_le h.lt hB.size
 n0:=(hB.cell (p:=⟨_,_,none⟩) (by have:=h.lt;show w0.heap.size<_;omega)).trans h.n0
 f0:=(hB.cell (p:=⟨_,_,none⟩) (by have:=h.lt;show w0.heap.size+1<_;omega)).trans h.f0
 r0:=h.r0.imp fun _ hh=>(hB.cell (p:=⟨_,_,none⟩) h.lt).trans hh
 r1:=h.r1.imp fun _ hh=>(hB.cell (p:=⟨_,_,none⟩) h.lt).trans hh
 r2:=h.r2.imp fun _ hh=>(hB.cell (p:=⟨_,_,none⟩) h.lt).trans hh
 fr:=fun o=>(hB.frozen (p:=⟨_,o,none⟩) h.lt).trans (h.fr o)
theorem RHeld.start (w:World) (name:ByteArray) (c:Int) (t1 t2 t3:TypeId):RHeld w (((w.alloc (.cells #[.string name] t1)).alloc (.cells #[.int .i64 c] t2)).alloc (.cells #[.string ⟨#[]⟩,.int .i64 0,.int .i64 0] t3)) name c where
 bel:=(((Below.refl w.heap.size w).alloc (Nat.le_refl _) _).alloc (by simp) _).alloc (by simp;omega) _
 lt:=by simp
 n0:=(World.grownBy_alloc _ _ none).cell ((World.grownBy_alloc _ _ none).cell (World.cell?_alloc_new _ _ _ 0) (by simp)) (by simp)
 f0:=(World.grownBy_alloc _ _ none).cell (by
  rw [show w.heap.size+1=(w.alloc (.cells #[.string name] t1)).heap.size by simp]
  exact World.cell?_alloc_new _ _ _ 0) (by simp)
 r0:=⟨_,by
  rw [show w.heap.size+1+1=((w.alloc (.cells #[.string name] t1)).alloc (.cells #[.int .i64 c] t2)).heap.size by simp]
  exact World.cell?_alloc_new _ _ _ 0⟩
 r1:=⟨_,by
  rw [show w.heap.size+1+1=((w.alloc (.cells #[.string name] t1)).alloc (.cells #[.int .i64 c] t2)).heap.size by simp]
  exact World.cell?_alloc_new _ _ _ 1⟩
 r2:=⟨_,by
  rw [show w.heap.size+1+1=((w.alloc (.cells #[.string name] t1)).alloc (.cells #[.int .i64 c] t2)).heap.size by simp]
  exact World.cell?_alloc_new _ _ _ 2⟩
 fr:=fun o=>by
  rw [show w.heap.size+1+1=((w.alloc (.cells #[.string name] t1)).alloc (.cells #[.int .i64 c] t2)).heap.size by simp]
  exact World.frozen?_alloc_new _ _ _ _
end Hb
namespace Go.Proofs.YtbojljpldcijgaaGreatDoor
open Go.RowKit Hb
set_option maxRecDepth 100000
set_option maxHeartbeats 1600000 in
theorem find_1 (o:OpR) (g1 g2:Nat) (name:ByteArray) (c:Int) (w:World) (n0:w.cell? ⟨g1,0,none⟩=some (.string name)) (f0:w.cell? ⟨g2,0,none⟩=some (.int .i64 c)) (l1:g1<w.heap.size) (l2:g2<w.heap.size) :
  Calls Tryz.prog 135 #[opV o,.pointer (some ⟨g1,0,none⟩),.pointer (some ⟨g2,0,none⟩)] w fun e w'=>e=.returned (.bool (isOp name c o))∧Below w.heap.size w w':=by
 have H1:=FHeld.start (o:=o) 102 n0 f0 l1 l2
 unfold opV
 have HS:=zq (show isOp name c o=(o.name.toList==name.toList&&clsOp o.typ==c) from rfl)
 cases h:(o.name.toList==name.toList)
 ·rw [h] at HS
  have h2:¬o.name.toList=name.toList:=by simpa using h
  go_enter Tryz.func135,Tryz.ntmps135
  go_wp2_with fail
  go_quiet (fail)
  go_wp2_with fail
  go_ret
  exact ⟨ret_bool HS.out.symm,bl_drewN H1.bel _⟩
 ·rw [h] at HS
  have h2:o.name.toList=name.toList:=by simpa using h
  go_enter Tryz.func135,Tryz.ntmps135
  go_wp2_with fail
  go_region_held3 (fun w'=>w'.cell? ⟨w.heap.size,0,none⟩=some (.string o.name)∧w'.cell? ⟨w.heap.size,1,none⟩=some (.int .i64 o.typ)∧w'.cell? ⟨g1,0,none⟩=some (.string name)∧w'.cell? ⟨g2,0,none⟩=some (.int .i64 c)∧FHeld w w' o g1 g2 name c)
   (first | with_reducible exact H1.drew.keep | with_reducible exact FHeld.keep (FHeld.of (by with_reducible assumption)) | with_reducible exact FHeld.keep (FHeld.call (by with_reducible assumption) (FHeld.of (by with_reducible assumption))))
   (first | (go_at_call 53;(with_reducible refine (op_class o.typ _).mono ?_);rintro e w2 ⟨rfl,hB2⟩))
  all_goals go_wp2_with fail
  all_goals go_ret
  all_goals exact ⟨ret_bool HS.out.symm,FHeld.bel (FHeld.of (by with_reducible assumption))⟩
set_option maxHeartbeats 1600000 in
theorem ops_index (A:Option Addr) (n cap:Nat) (l:List OpR) (g1 g2:Nat) (name:ByteArray) (c:Int) (w:World) (hn:n=l.length) (hm:n≤400) (hp:OpsAt w A l) (n0:w.cell? ⟨g1,0,none⟩=some (.string name)) (f0:w.cell? ⟨g2,0,none⟩=some (.int .i64 c)) (l1:g1<w.heap.size) (l2:g2<w.heap.size) :
  Calls Tryz.prog 134 #[.slice A n cap,.func (.func 135) #[] #[.pointer (some ⟨g1,0,none⟩),.pointer (some ⟨g2,0,none⟩)]] w fun e w'=>e=.returned (.int .i64 (idxI (isOp name c) l))∧Below w.heap.size w w':=by
 have HN:=zq hn
 have HP:=zq hp
 clear hn hp
 go_enter Tryz.func134,Tryz.ntmps134
 go_wp2_with fail
 go_loopw [8] (fun i wr=>∃k:Nat,k≤n∧i=.int .i64 k∧Below w.heap.size w wr∧Hid (∀j (hj:j<l.length),j<k→isOp name c l[j]=false)) (fun i _=>n-(intOf i).toNat)
 case atStart=>exact ⟨0,Nat.zero_le _,rfl,Below.refl _ _,fun j _ hj=>absurd hj (by omega)⟩
 case round=>
  obtain ⟨k,hk,rfl,hB,HA⟩:=hrel
  by_cases hlt:k<n
  ·have hbs:=hB.size
   have hkl:k<l.length:=by have:=HN.out;omega
   obtain ⟨b,off,rfl,hb,c0,c1,c2⟩:=(HP.out.below hB) k hkl
   have HH:=zq (fun h=>idxI_hit (isOp name c) l k hkl h (fun j hj=>HA.out j (by omega) hj))
   have HC:=zq (find_1 l[k] g1 g2 name c wr ((hB.cell (p:=⟨g1,0,none⟩) l1).trans n0) ((hB.cell (p:=⟨g2,0,none⟩) l2).trans f0) (Nat.lt_of_lt_of_le l1 hbs) (Nat.lt_of_lt_of_le l2 hbs))
   have HR:=zq (fun (h:isOp name c l[k]=false)=>(show ∀j (hj:j<l.length),j<k+1→isOp name c l[j]=false from fun j hj hjk=>by
    rcases Nat.lt_or_ge j k with h' | h'
    ·exact HA.out j hj h'
    ·have:j=k:=by omega
     subst this;exact h))
   generalize l[k]=o at *
   unfold opV at HC
   cases hi:isOp name c o
   ·rw [hi] at HC
    have HI:=zq hi
    clear hi
    go_wp2_with fail
    refine HC.out.mono ?_;rintro e w1 ⟨rfl,hB1⟩
    go_wp2_with fail
    go_roundw
    case rel=>exact ⟨k+1,by omega,by go_num,hB.trans (hB1.mono hbs),HR.out HI.out⟩
    case measure=>simp [intOf] <;> omega
   ·rw [hi] at HC
    have HI:=zq hi
    clear hi
    go_wp2_with fail
    refine HC.out.mono ?_;rintro e w1 ⟨rfl,hB1⟩
    go_wp2_with fail
    go_ret
    exact ⟨ret_int (HH.out HI.out).symm,hB.trans (hB1.mono hbs)⟩
  ·obtain rfl:k=n:=by omega
   have HM:=zq (idxI_miss (isOp name c) l (fun j hj=>HA.out j hj (by have:=HN.out;omega)))
   go_wp2_with fail
   go_ret
   exact ⟨ret_int HM.out.symm,hB⟩
set_option maxHeartbeats 1600000 in
theorem ops_find (A:Option Addr) (n cap:Nat) (l:List OpR) (name:ByteArray) (c:Int) (w:World) (hn:n=l.length) (hm:n≤400) (hp:OpsAt w A l) :
  Calls Tryz.prog 123 #[.slice A n cap,.string name,.int .i64 c] w fun e w'=>e=.returned (.tuple #[opV ((findR l name c).getD op0),.bool (findR l name c).isSome])∧Below w.heap.size w w':=by
 have HP:=zq hp
 have HN:=zq hn
 clear hp
 have hX:=RHeld.start w name c 9 3 102
 have HV:=zq (ops_valid A n cap l _ hn hm (HP.out.below hX.bel))
 clear hn
 cases hv:opsValid l
 ·rw [hv] at HV
  have HF:=zq (show findR l name c=none by unfold findR;rw [hv];rfl)
  clear hv
  go_enter Tryz.func123,Tryz.ntmps123
  go_wp2_with fail
  refine HV.out.mono ?_;rintro e w1 ⟨rfl,hB1⟩
  have hY:=hX.call hB1
  obtain ⟨hb,lt,n0,f0,⟨v0,r0⟩,⟨v1,r1⟩,⟨v2,r2⟩,fr⟩:=id hY
  have fr0:=fr 0
  go_wp2_with fail
  refine bodyPost_ret (v:=.tuple #[opV op0,.bool false]) (by simp [opV,op0,results,Tryz.results123,go_sem,r0,r1,r2]) rfl ⟨by rw [HF.out];rfl,by
   have hs:w.heap.size≤w.heap.size+1+1:=by omega
   exact ((hb.setCell (p:=⟨_,_,none⟩) hs _).setCell (p:=⟨_,_,none⟩) hs _).setCell (p:=⟨_,_,none⟩) hs _⟩
 ·rw [hv] at HV
  have HF:=zq (show findR l name c=l.find? (isOp name c) by unfold findR;rw [hv];rfl)
  clear hv
  have HI:=zq (fun (w1:World) (hY:RHeld w w1 name c)=>ops_index A n cap l w.heap.size (w.heap.size+1) name c w1 HN.out hm (HP.out.below hY.bel) hY.n0 hY.f0 (by have:=hY.lt;omega) (by have:=hY.lt;omega))
  by_cases hex:∃k,∃hk:k<l.length,isOp name c l[k]=true∧∀j (hj:j<k),isOp name c (l[j]'(by omega))=false
  ·obtain ⟨k,hkl,h1,h2⟩:=hex
   have hkn:k<n:=by have:=HN.out;omega
   have HE:=zq (HF.out.trans (find_hit _ l k hkl h1 h2))
   rw [idxI_hit _ l k hkl h1 h2] at HI
   obtain ⟨b,off,rfl,hbb,q0,q1,q2⟩:=HP.out k hkl
   generalize l[k]=o at *
   clear h1 h2
   go_enter Tryz.func123,Tryz.ntmps123
   go_wp2_with fail
   refine HV.out.mono ?_;rintro e w1 ⟨rfl,hB1⟩
   have hY:=hX.call hB1
   go_wp2_with fail
   refine (HI.out w1 hY).mono ?_;rintro e w2 ⟨rfl,hB2⟩
   have hZ:=hY.call hB2
   obtain ⟨hb,lt,n0,f0,⟨v0,r0⟩,⟨v1,r1⟩,⟨v2,r2⟩,fr⟩:=id hZ
   have fr0:=fr 0
   have q0':=(hb.cell (p:=⟨b,off+k * 3,none⟩) hbb).trans q0
   have q1':=(hb.cell (p:=⟨b,off+k * 3+1,none⟩) hbb).trans q1
   have q2':=(hb.cell (p:=⟨b,off+k * 3+2,none⟩) hbb).trans q2
   clear q0 q1 q2
   go_wp2_with fail
   refine bodyPost_ret (v:=.tuple #[opV o,.bool true]) (by simp [opV,results,Tryz.results123,go_sem,r0,r1,r2]) rfl ⟨by rw [HE.out];rfl,by
    have hs:w.heap.size≤w.heap.size+1+1:=by omega
    exact ((hb.setCell (p:=⟨_,_,none⟩) hs _).setCell (p:=⟨_,_,none⟩) hs _).setCell (p:=⟨_,_,none⟩) hs _⟩
  ·have hno:∀j (hj:j<l.length),isOp name c l[j]=false:=by
    intro j
    induction j using Nat.strongRecOn with
    | ind j ih=>
     intro hj
     cases hc:isOp name c l[j] with
     | false=>rfl
     | true=>exact absurd ⟨j,hj,hc,fun i hi=>ih i hi (by omega)⟩ hex
   have HE:=zq (HF.out.trans (find_miss _ l hno))
   rw [idxI_miss _ l hno] at HI
   clear hno hex
   go_enter Tryz.func123,Tryz.ntmps123
   go_wp2_with fail
   refine HV.out.mono ?_;rintro e w1 ⟨rfl,hB1⟩
   have hY:=hX.call hB1
   go_wp2_with fail
   refine (HI.out w1 hY).mono ?_;rintro e w2 ⟨rfl,hB2⟩
   have hZ:=hY.call hB2
   obtain ⟨hb,lt,n0,f0,⟨v0,r0⟩,⟨v1,r1⟩,⟨v2,r2⟩,fr⟩:=id hZ
   have fr0:=fr 0
   go_wp2_with fail
   refine bodyPost_ret (v:=.tuple #[opV op0,.bool false]) (by simp [opV,op0,results,Tryz.results123,go_sem,r0,r1,r2]) rfl ⟨by rw [HE.out];rfl,by
    have hs:w.heap.size≤w.heap.size+1+1:=by omega
    exact ((hb.setCell (p:=⟨_,_,none⟩) hs _).setCell (p:=⟨_,_,none⟩) hs _).setCell (p:=⟨_,_,none⟩) hs _⟩
end Go.Proofs.YtbojljpldcijgaaGreatDoor
namespace Hb
open Go Go.RowKit
structure R3 (w0 w:World):Prop where
 bel:Below w0.heap.size w0 w
 lt:w0.heap.size<w.heap.size
 r0:∃v,w.cell? ⟨w0.heap.size,0,none⟩=some v
 r1:∃v,w.cell? ⟨w0.heap.size,1,none⟩=some v
 r2:∃v,w.cell? ⟨w0.heap.size,2,none⟩=some v
 fr:∀o,w.frozen? ⟨w0.heap.size,o,none⟩=false
theorem R3.call {w0 w w':World} (h:R3 w0 w) (hB:Below w.heap.size w w'):R3 w0 w' where
 bel:=h.bel.trans (hB.mono (Nat.le_of_lt h.lt))
 lt:=Nat.lt_of_lt_of_le h.lt hB.size
 r0:=h.r0.imp fun _ hh=>(hB.cell (p:=⟨_,_,none⟩) h.lt).trans hh
 r1:=h.r1.imp fun _ hh=>(hB.cell (p:=⟨_,_,none⟩) h.lt).trans hh
 r2:=h.r2.imp fun _ hh=>(hB.cell (p:=⟨_,_,none⟩) h.lt).trans hh
 fr:=fun o=>(hB.frozen (p:=⟨_,o,none⟩) h.lt).trans (h.fr o)
theorem R3.start (w:World) (e:TypeId):R3 w (w.alloc (.cells #[.string ⟨#[]⟩,.int .i64 0,.int .i64 0] e)) where
 bel:=(Below.refl _ _).alloc (Nat.le_refl _) _
 lt:=by simp
 r0:=⟨_,World.cell?_alloc_new _ _ _ 0⟩
 r1:=⟨_,World.cell?_alloc_new _ _ _ 1⟩
 r2:=⟨_,World.cell?_alloc_new _ _ _ 2⟩
 fr:=fun o=>World.frozen?_alloc_new _ _ _ _
theorem R3.put {w0 w:World} (h:R3 w0 w) (x y z:Value):Below w0.heap.size w0 (((w.setCell ⟨w0.heap.size,0,none⟩ x).setCell ⟨w0.heap.size,1,none⟩ y).setCell ⟨w0.heap.size,2,none⟩ z) :=
 ((h.bel.setCell (p:=⟨_,_,none⟩) (Nat.le_refl _) _).setCell (p:=⟨_,_,none⟩) (Nat.le_refl _) _).setCell (p:=⟨_,_,none⟩) (Nat.le_refl _) _
def sideL (o:OpR):Int:=if o.prec<1∨1200<o.prec then 0 else if o.typ=1∨o.typ=2∨o.typ=6 then o.prec-1 else if o.typ=3∨o.typ=7 then o.prec else 0
def sideR (o:OpR):Int:=if o.prec<1∨1200<o.prec then 0 else if o.typ=1∨o.typ=3∨o.typ=5 then o.prec-1 else if o.typ=2∨o.typ=4 then o.prec else 0
end Hb
namespace Go.Proofs.YtbojljpldcijgaaGreatDoor
open Go.RowKit Hb
set_option maxRecDepth 100000
set_option maxHeartbeats 1600000 in
theorem ops_prefix (A:Option Addr) (n cap:Nat) (l:List OpR) (name:ByteArray) (w:World) (hn:n=l.length) (hm:n≤400) (hp:OpsAt w A l) :
  Calls Tryz.prog 121 #[.slice A n cap,.string name] w fun e w'=>e=.returned (.tuple #[opV ((findR l name 1).getD op0),.bool (findR l name 1).isSome])∧Below w.heap.size w w':=by
 have hX:=R3.start w 102
 have HV:=zq (ops_find A n cap l name 1 _ hn hm (hp.below hX.bel))
 clear hn hp
 generalize (findR l name 1).getD op0=r at *
 generalize (findR l name 1).isSome=b at *
 unfold opV at *
 go_enter Tryz.func121,Tryz.ntmps121
 go_wp2_with fail
 refine HV.out.mono ?_;rintro e w1 ⟨rfl,hB1⟩
 have hY:=hX.call hB1
 obtain ⟨hb,lt,⟨v0,r0⟩,⟨v1,r1⟩,⟨v2,r2⟩,fr⟩:=id hY
 have fr0:=fr 0
 go_wp2_with fail
 exact bodyPost_ret (v:=.tuple #[.agg #[.string r.name,.int .i64 r.typ,.int .i64 r.prec],.bool b]) (by simp [results,Tryz.results121,go_sem,r0,r1,r2]) rfl ⟨rfl,hY.put _ _ _⟩
set_option maxHeartbeats 1600000 in
theorem ops_infix (A:Option Addr) (n cap:Nat) (l:List OpR) (name:ByteArray) (w:World) (hn:n=l.length) (hm:n≤400) (hp:OpsAt w A l) :
  Calls Tryz.prog 96 #[.slice A n cap,.string name] w fun e w'=>e=.returned (.tuple #[opV ((findR l name 2).getD op0),.bool (findR l name 2).isSome])∧Below w.heap.size w w':=by
 have hX:=R3.start w 102
 have HV:=zq (ops_find A n cap l name 2 _ hn hm (hp.below hX.bel))
 clear hn hp
 generalize (findR l name 2).getD op0=r at *
 generalize (findR l name 2).isSome=b at *
 unfold opV at *
 go_enter Tryz.func96,Tryz.ntmps96
 go_wp2_with fail
 refine HV.out.mono ?_;rintro e w1 ⟨rfl,hB1⟩
 have hY:=hX.call hB1
 obtain ⟨hb,lt,⟨v0,r0⟩,⟨v1,r1⟩,⟨v2,r2⟩,fr⟩:=id hY
 have fr0:=fr 0
 go_wp2_with fail
 exact bodyPost_ret (v:=.tuple #[.agg #[.string r.name,.int .i64 r.typ,.int .i64 r.prec],.bool b]) (by simp [results,Tryz.results96,go_sem,r0,r1,r2]) rfl ⟨rfl,hY.put _ _ _⟩
set_option maxHeartbeats 1600000 in
theorem ops_postfix (A:Option Addr) (n cap:Nat) (l:List OpR) (name:ByteArray) (w:World) (hn:n=l.length) (hm:n≤400) (hp:OpsAt w A l) :
  Calls Tryz.prog 97 #[.slice A n cap,.string name] w fun e w'=>e=.returned (.tuple #[opV ((findR l name 3).getD op0),.bool (findR l name 3).isSome])∧Below w.heap.size w w':=by
 have hX:=R3.start w 102
 have HV:=zq (ops_find A n cap l name 3 _ hn hm (hp.below hX.bel))
 clear hn hp
 generalize (findR l name 3).getD op0=r at *
 generalize (findR l name 3).isSome=b at *
 unfold opV at *
 go_enter Tryz.func97,Tryz.ntmps97
 go_wp2_with fail
 refine HV.out.mono ?_;rintro e w1 ⟨rfl,hB1⟩
 have hY:=hX.call hB1
 obtain ⟨hb,lt,⟨v0,r0⟩,⟨v1,r1⟩,⟨v2,r2⟩,fr⟩:=id hY
 have fr0:=fr 0
 go_wp2_with fail
 exact bodyPost_ret (v:=.tuple #[.agg #[.string r.name,.int .i64 r.typ,.int .i64 r.prec],.bool b]) (by simp [results,Tryz.results97,go_sem,r0,r1,r2]) rfl ⟨rfl,hY.put _ _ _⟩
set_option maxHeartbeats 1600000 in
theorem ops_sides (o:OpR) (w:World) (hp:-9223372036854775808≤o.prec∧o.prec≤9223372036854775807):Calls Tryz.prog 66 #[opV o] w fun e w'=>e=.returned (.tuple #[.int .i64 (sideL o),.int .i64 (sideR o)])∧Below w.heap.size w w':=by
 unfold opV
 generalize hL:sideL o=x
 generalize hR:sideR o=y
 have HL:=zq hL
 have HR:=zq hR
 clear hL hR
 obtain ⟨name,typ,prec⟩:=o
 have hd:prec<1∨1200<prec∨((1≤prec∧prec≤1200)∧(typ=1∨typ=2∨typ=3∨typ=4∨typ=5∨typ=6∨typ=7∨(¬typ=1∧¬typ=2∧¬typ=3∧¬typ=4∧¬typ=5∧¬typ=6∧¬typ=7))):=by omega
 rcases hd with h | h | ⟨⟨h1,h2⟩,rfl|rfl|rfl|rfl|rfl|rfl|rfl | ⟨n1,n2,n3,n4,n5,n6,n7⟩⟩
 all_goals
  go_enter Tryz.func66,Tryz.ntmps66
  go_wp2_with fail
  try (go_quiet (fail);go_wp2_with fail)
  refine bodyPost_ret (v:=.tuple #[.int .i64 x,.int .i64 y]) ?_ rfl ⟨rfl,by first | exact (Below.refl _ _).alloc (Nat.le_refl _) _ | exact bl_drewN ((Below.refl _ _).alloc (Nat.le_refl _) _) _⟩
  have hl:=HL.out
  have hr:=HR.out
  unfold sideL at hl
  unfold sideR at hr
  simp [results,Tryz.results66,go_sem]
  grind
end Go.Proofs.YtbojljpldcijgaaGreatDoor
namespace Hb
open Go Go.RowKit
def tok0:NextR:=⟨errR 0,false,0⟩
def tokA (T:List NextR) (i:Nat):NextR:=T.getD (min i (T.length-1)) tok0
def NextR.txt (t:NextR):ByteArray:=⟨t.r.text.toArray⟩
def isP (t:NextR) (s:List UInt8):Bool:=t.r.kind==6&&t.r.text==s
def isNam (t:NextR):Bool:=t.r.kind==1||t.r.kind==2
def opn (t:NextR):Bool:=isP t [40] && !t.lay
structure VS where
 c:Nat
 m:List (List UInt8×Nat)
 o:List Nat
def VS.look (v:VS) (x:List UInt8):Option Nat:=(v.m.find? fun p=>p.1==x).map (·.2)
def VS.num (v:VS) (x:List UInt8):Nat:=if x=[95] then v.c else (v.look x).getD v.c
def VS.old (v:VS) (x:List UInt8):Bool:=decide (¬x=[95])&&(v.look x).isSome
def VS.step (v:VS) (x:List UInt8):VS:=⟨if v.old x=true then v.c else v.c+1,if v.old x=true∨x=[95] then v.m else v.m++[(x,v.c)],v.o++[v.num x]⟩
def vs0:VS:=⟨0,[],[]⟩
def isV (t:NextR):Bool:=t.r.kind==3
def vsOf (T:List NextR):VS:=(T.filter isV).foldl (fun v t=>v.step t.r.text) vs0
def vsAt (T:List NextR) (n:Nat):VS:=vsOf (T.take n)
structure RE where
 T:List NextR
 P:List OpR
 q:Int
def stT (s:ByteArray) (l:List Tm):Tm:=.mk 3 0 s l
def atT (s:ByteArray):Tm:=.mk 2 0 s []
def inT (n:Int):Tm:=.mk 1 n ⟨#[]⟩ []
def vaT (n:Int):Tm:=.mk 0 n ⟨#[]⟩ []
def lsT (l:List Tm) (tail:Tm):Tm:=l.foldr (fun x t=>stT ⟨#[46]⟩ [x,t]) tail
def nilT:Tm:=atT ⟨#[91,93]⟩
def chT (q:Int) (c:UInt8):Tm:=if q=1 then inT c.toNat else atT ⟨#[c]⟩
def sgT (q:Int) (s:List UInt8):Tm:=if q=3 then atT ⟨s.toArray⟩ else lsT (s.map (chT q)) nilT
abbrev RR (α:Type):=Except Nat α
abbrev PT:=Int→Nat→RR (Tm×Int×Nat)
def RE.at (E:RE) (n:Nat):NextR:=tokA E.T n
def rowG (E:RE) (S:PT):Nat→Nat→RR (List Tm×Nat)
 | 0,n=>.error n
 | k+1,n=>match S 999 n with
  | .error e=>.error e
  | .ok (t,_,m)=>if isP (E.at m) [44]=true then (match rowG E S k (m+1) with
    | .error e=>.error e
    | .ok (l,i)=>.ok (t::l,i))
   else .ok ([t],m)
def rowX (E:RE) (S:PT) (n:Nat):RR (List Tm×Nat):=rowG E S E.T.length n
def needG {α:Type} (E:RE) (s:List UInt8) (n:Nat) (a:α):RR (α×Nat):=if isP (E.at n) s=true then .ok (a,n+1) else .error n
def compG (E:RE) (S:PT) (s:ByteArray) (n:Nat):RR (Option Tm×Nat) :=
 if opn (E.at n)=true then (match rowX E S (n+1) with
  | .error e=>.error e
  | .ok (l,m)=>needG E [41] m (some (stT s l)))
 else .ok (none,n)
def hasO (P:List OpR) (s:ByteArray) (c:Int):Bool:=(findR P s c).isSome
def aloneG (E:RE) (n:Nat):Bool :=
 if (E.at n).r.kind=7 then true
 else if (E.at n).r.kind=6 then decide (¬(E.at n).r.text=[40])&&(decide (¬(E.at n).r.text=[91])&&decide (¬(E.at n).r.text=[123]))
 else if (!isNam (E.at n)||opn (E.at (n+1)))=true then false
 else !hasO E.P (E.at n).txt 1&&(hasO E.P (E.at n).txt 2||hasO E.P (E.at n).txt 3)
def minusG (E:RE) (t:NextR) (n:Nat):Bool:=t.r.kind==1&&(t.r.text==[45]&&((E.at n).r.kind==4 && !(E.at n).lay))
def preG (E:RE) (t:NextR) (most:Int) (n:Nat):Bool:=hasO E.P t.txt 1&&(decide (((findR E.P t.txt 1).getD op0).prec≤most) && !aloneG E n)
def nmdG (E:RE) (S:PT) (t:NextR) (most:Int) (n:Nat):RR (Tm×Int×Nat) :=
 match compG E S t.txt n with
 | .error e=>.error e
 | .ok (some u,m)=>.ok (u,0,m)
 | .ok (none,_)=>
  if minusG E t n=true then .ok (inT (if (E.at n).r.n=-9223372036854775808 then (E.at n).r.n else -(E.at n).r.n),0,n+1)
  else if preG E t most n=true then (match S (sideR ((findR E.P t.txt 1).getD op0)) n with
   | .error e=>.error e
   | .ok (u,_,m)=>.ok (stT t.txt [u],((findR E.P t.txt 1).getD op0).prec,m))
  else .ok (atT t.txt,0,n)
def emptyG (E:RE) (S:PT) (s:ByteArray) (n:Nat):RR (Tm×Nat) :=
 match compG E S s n with
 | .error e=>.error e
 | .ok (some u,m)=>.ok (u,m)
 | .ok (none,m)=>.ok (atT s,m)
def tailG (E:RE) (S:PT) (n:Nat):RR (Tm×Nat) :=
 if isP (E.at n) [124]=true then (match S 999 (n+1) with
  | .error e=>.error e
  | .ok (t,_,m)=>.ok (t,m))
 else .ok (nilT,n)
def listG (E:RE) (S:PT) (n:Nat):RR (Tm×Nat) :=
 match rowX E S n with
 | .error e=>.error e
 | .ok (l,m)=>(match tailG E S m with
  | .error e=>.error e
  | .ok (t,i)=>needG E [93] i (lsT l t))
def parG (E:RE) (S:PT) (s:List UInt8) (F:Tm→Tm) (n:Nat):RR (Tm×Nat) :=
 match S 1200 n with
 | .error e=>.error e
 | .ok (t,_,m)=>needG E s m (F t)
def brkG (E:RE) (S:PT) (s:List UInt8) (n:Nat):RR (Tm×Nat) :=
 if s=[40] then parG E S [41] id n
 else if s=[91]∧isP (E.at n) [93]=true then emptyG E S ⟨#[91,93]⟩ (n+1)
 else if s=[123]∧isP (E.at n) [125]=true then emptyG E S ⟨#[123,125]⟩ (n+1)
 else if s=[91] then listG E S n
 else parG E S [125] (fun t=>stT ⟨#[123,125]⟩ [t]) n
def isBrk (t:NextR):Bool:=isP t [40]||(isP t [91]||isP t [123])
def opdG (E:RE) (S:PT) (most:Int) (n:Nat):RR (Tm×Int×Nat) :=
 let t:=E.at n
 if t.r.kind=4∧0≤t.r.n then .ok (inT t.r.n,0,n+1)
 else if t.r.kind=3 then .ok (vaT ((vsAt E.T n).num t.r.text),0,n+1)
 else if t.r.kind=5 then .ok (sgT E.q t.r.text,0,n+1)
 else if isBrk t=true then (match brkG E S t.r.text (n+1) with
  | .error e=>.error e
  | .ok (u,m)=>.ok (u,0,m))
 else if isNam t=true then nmdG E S t most (n+1)
 else .error n
def oprG (E:RE) (n:Nat):OpR×Bool :=
 let t:=E.at n
 if (!isNam t&&(!isP t [44] && !isP t [124]))=true then (op0,false)
 else if hasO E.P t.txt 2=true then ((findR E.P t.txt 2).getD op0,true)
 else ((findR E.P t.txt 3).getD op0,hasO E.P t.txt 3)
def endsG (o:OpR×Bool) (most prec:Int):Bool:=!o.2||(decide (most<o.1.prec)||decide (sideL o.1<prec))
def postG (o:OpR):Bool:=o.typ==6||o.typ==7
def loopG (E:RE) (S:PT) (most:Int):Nat→Tm→Int→Nat→RR (Tm×Int×Nat)
 | 0,_,_,n=>.error n
 | k+1,t,prec,n=>
  if endsG (oprG E n) most prec=true then .ok (t,prec,n)
  else if postG (oprG E n).1=true then loopG E S most k (stT (oprG E n).1.name [t]) (oprG E n).1.prec (n+1)
  else match S (sideR (oprG E n).1) (n+1) with
   | .error e=>.error e
   | .ok (u,_,m)=>loopG E S most k (stT (oprG E n).1.name [t,u]) (oprG E n).1.prec m
def trmG (E:RE) (S:PT) (most:Int) (n:Nat):RR (Tm×Int×Nat) :=
 match opdG E S most n with
 | .error e=>.error e
 | .ok (t,p,m)=>loopG E S most E.T.length t p m
def trmF (E:RE):Nat→PT
 | 0=>fun _ n=>.error n
 | f+1=>trmG E (trmF E f)
def wholeG (E:RE):RR (Tm×Nat) :=
 match trmF E E.T.length 1200 0 with
 | .error e=>.error e
 | .ok (t,_,m)=>if (E.at m).r.kind=7 then .ok (t,m) else .error m
theorem RE.at_get (E:RE) {n:Nat} (h:n<E.T.length):E.at n=E.T[n]:=by
 unfold RE.at tokA
 rw [show min n (E.T.length-1)=n by omega,List.getD_eq_getElem?_getD,List.getElem?_eq_getElem h];rfl
theorem vsAt_zero (T:List NextR):vsAt T 0=vs0:=by unfold vsAt;simp [vsOf]
theorem vsAt_succ {T:List NextR} {n:Nat} (h:n<T.length):vsAt T (n+1)=if isV T[n]=true then (vsAt T n).step T[n].r.text else vsAt T n:=by
 unfold vsAt vsOf
 rw [List.take_succ_eq_append_getElem h,List.filter_append,List.foldl_append]
 cases hv:isV T[n] <;> simp [hv]
theorem vs_skip {E:RE} {n:Nat} (h:n<E.T.length) (hk:isV (E.at n)=false):vsAt E.T (n+1)=vsAt E.T n:=by
 rw [vsAt_succ h,←E.at_get h,hk];rfl
theorem vs_take {E:RE} {n:Nat} (h:n<E.T.length) (hk:isV (E.at n)=true):vsAt E.T (n+1)=(vsAt E.T n).step (E.at n).r.text:=by
 rw [vsAt_succ h,←E.at_get h,hk];rfl
theorem isV_punct {t:NextR} {s:List UInt8} (h:isP t s=true):isV t=false:=by
 unfold isP at h;unfold isV;simp at h ⊢;omega
theorem isV_nam {t:NextR} (h:isNam t=true):isV t=false:=by
 unfold isNam at h;unfold isV;simp at h ⊢;omega
theorem isV_kind {t:NextR} {k:Int} (h:t.r.kind=k) (hk:k≠3):isV t=false:=by
 unfold isV;simp;omega
structure VS.Ok (v:VS):Prop where
 co:v.c≤v.o.length
 mo:v.m.length≤v.o.length
 lt:∀p∈v.m,p.2<v.c
theorem vs0_ok:vs0.Ok:=⟨Nat.le_refl _,Nat.le_refl _,fun p hp=>by cases hp⟩
theorem VS.look_lt {v:VS} (h:v.Ok) {x:List UInt8} {k:Nat} (hk:v.look x=some k):k<v.c:=by
 unfold VS.look at hk
 obtain ⟨p,hp,e⟩:=Option.map_eq_some_iff.1 hk
 have:=h.lt p (List.mem_of_find?_eq_some hp)
 omega
theorem VS.step_ok {v:VS} (h:v.Ok) (x:List UInt8):(v.step x).Ok:=by
 have h1:=h.co
 have h2:=h.mo
 unfold VS.step
 refine ⟨?_,?_,?_⟩
 ·simp only [List.length_append,List.length_singleton];split <;> omega
 ·simp only [List.length_append,List.length_singleton];split <;> (try simp only [List.length_append,List.length_singleton]) <;> omega
 ·intro p hp
  simp only at hp ⊢
  split at hp
  ·have:=h.lt p hp
   split <;> omega
  ·rename_i hn
   have ho:¬v.old x=true:=fun e=>hn (.inl e)
   rw [if_neg ho]
   rcases List.mem_append.1 hp with hp | hp
   ·have:=h.lt p hp;omega
   ·rw [List.mem_singleton] at hp;subst hp;exact Nat.lt_succ_self _
theorem VS.step_len (v:VS) (x:List UInt8):(v.step x).o.length=v.o.length+1:=by simp [VS.step]
theorem VS.num_le {v:VS} (h:v.Ok) (x:List UInt8):v.num x≤v.c:=by
 unfold VS.num
 split
 ·exact Nat.le_refl _
 ·cases hk:v.look x with
  | none=>exact Nat.le_refl _
  | some k=>have:=VS.look_lt h hk;simp;omega
theorem vsOf_ok (T:List NextR):(vsOf T).Ok:=by
 unfold vsOf
 suffices ∀(l:List NextR) (v:VS),v.Ok→(l.foldl (fun v t=>v.step t.r.text) v).Ok from this _ _ vs0_ok
 intro l
 induction l with
 | nil=>intro v h;exact h
 | cons t l ih=>intro v h;exact ih _ (VS.step_ok h _)
theorem vsOf_len (T:List NextR):(vsOf T).o.length≤T.length:=by
 unfold vsOf
 have:∀(l:List NextR) (v:VS),(l.foldl (fun v t=>v.step t.r.text) v).o.length=v.o.length+l.length:=by
  intro l
  induction l with
  | nil=>intro v;rfl
  | cons t l ih=>intro v;rw [List.foldl_cons,ih,VS.step_len,List.length_cons];omega
 rw [this]
 have:=List.length_filter_le isV T
 simp [vs0];omega
theorem VS.look_old {v:VS} {x:List UInt8} (h:v.old x=true):¬x=[95]∧∃k,v.look x=some k:=by
 unfold VS.old at h
 simp at h
 exact ⟨h.1,Option.isSome_iff_exists.1 h.2⟩
theorem VS.look_snoc (v:VS) (x:List UInt8) (k:Nat) (c:Nat) (o:List Nat) (hn:v.look x=none) (y:List UInt8):VS.look ⟨c,v.m++[(x,k)],o⟩ y=if y=x then some k else v.look y:=by
 unfold VS.look at *
 simp only
 rw [List.find?_append]
 by_cases e:y=x
 ·subst e
  rw [Option.map_eq_none_iff] at hn
  rw [hn,if_pos rfl]
  simp
 ·rw [if_neg e]
  have:((x,k).1==y)=false:=by simp;exact fun h=>e h.symm
  cases (v.m.find? fun p=>p.1==y) <;> simp [this]
end Hb
namespace Hb
def endAt (a0:Nat) (L:List NextR):Nat→Nat
 | 0=>a0
 | k+1=>match L[k]? with | some r=>r.r.end_.toNat | none=>0
theorem endAt_app (a0:Nat) (L:List NextR) (r:NextR) (k:Nat) (h:k≤L.length):endAt a0 (L++[r]) k=endAt a0 L k:=by
 cases k with
 | zero=>rfl
 | succ k=>simp only [endAt];rw [List.getElem?_append_left (by omega)]
theorem endAt_last (a0:Nat) (L:List NextR) (r:NextR):endAt a0 (L++[r]) (L.length+1)=r.r.end_.toNat:=by
 simp [endAt]
def Chain (m l:List UInt8) (a0:Nat) (L:List NextR) (last:Prop):Prop :=
 ∀i r,L[i]? = some r→nextR m l (endAt a0 L i)=r∧r.r.err=0∧(r.r.kind=7↔(i+1=L.length∧last))∧endAt a0 L i≤l.length
theorem Chain.snoc {m l:List UInt8} {a0:Nat} {L:List NextR} (h:Chain m l a0 L False) (a:Nat) (ha:a=endAt a0 L L.length) (hl:a≤l.length) (he:(nextR m l a).r.err=0) (p:Prop) (hk:(nextR m l a).r.kind=7↔p) :
  Chain m l a0 (L++[nextR m l a]) p:=by
 intro i r hi
 rcases Nat.lt_trichotomy i L.length with h1 | h1 | h1
 ·rw [List.getElem?_append_left h1] at hi
  obtain ⟨e1,e2,e3,e4⟩:=h i r hi
  rw [endAt_app _ _ _ _ (by omega)]
  refine ⟨e1,e2,⟨fun h7=>?_,fun h7=>?_⟩,e4⟩
  ·exact absurd (e3.1 h7).2 id
  ·have:=h7.1;simp at this;omega
 ·subst h1
  simp at hi
  subst hi
  rw [endAt_app _ _ _ _ (by omega),←ha]
  refine ⟨rfl,he,?_,hl⟩
  rw [hk];simp
 ·rw [List.getElem?_eq_none (by simp;omega)] at hi;cases hi
theorem allF_chain (m l:List UInt8) (hml:m.length=l.length) (a0:Nat):∀(f:Nat) (a:Nat) (acc:List NextR),Chain m l a0 acc False→a=endAt a0 acc acc.length→a≤l.length →
  ((allF f m l a acc).err=0→(allF f m l a acc).where_=0∧(allF f m l a acc).l≠[]∧Chain m l a0 (allF f m l a acc).l True)∧(¬(allF f m l a acc).err=0→(allF f m l a acc).l=[])
 | 0,a,acc,_,_,_=>⟨fun h=>absurd h (by show ¬(99:Int)=0;decide),fun _=>rfl⟩
 | f+1,a,acc,hc,ha,hl=>by
  rw [allF_succ]
  by_cases c1:(nextR m l a).r.err=14∧acc≠[]
  ·rw [if_pos c1];exact ⟨fun h=>absurd h (by show ¬(7:Int)=0;decide),fun _=>rfl⟩
  rw [if_neg c1]
  by_cases c2:(nextR m l a).r.err=0
  ·rw [if_neg (by simpa using c2)]
   obtain ⟨p,e,_,h2,h3,h4,h5,_,_⟩:=next_end m l hml a hl c2
   by_cases c3:(nextR m l a).r.kind=7
   ·rw [if_pos c3]
    exact ⟨fun _=>⟨rfl,by simp,hc.snoc a ha hl c2 True (by simp [c3])⟩,fun h=>absurd rfl h⟩
   ·rw [if_neg c3]
    refine allF_chain m l hml a0 f _ _ (hc.snoc a ha hl c2 False (by simp [c3])) ?_ ?_
    ·rw [List.length_append];exact (endAt_last _ _ _).symm
    ·rw [h3];simpa using h5
  ·rw [if_pos (by simpa using c2)]
   exact ⟨fun h=>absurd h c2,fun _=>rfl⟩
theorem allR_chain (m l:List UInt8) (hml:m.length=l.length) (a:Nat) (ha:a≤l.length) :
  ((allR m l a).err=0→(allR m l a).where_=0∧(allR m l a).l≠[]∧Chain m l a (allR m l a).l True)∧(¬(allR m l a).err=0→(allR m l a).l=[]) :=
 allF_chain m l hml a _ a [] (fun i r h=>by simp at h) rfl ha
end Hb
namespace Hb
open Go Go.RowKit
structure Fits (B:Nat) (r:LexR):Prop where
 txt:r.text.length≤B+100
 num:-9223372036854775808≤r.n∧r.n≤9223372036854775807
 nam:r.kind=1∨r.kind=2∨r.kind=3→r.text.length≤100
theorem no123 {k:Int} (c:Int) (e:k=c) (hc:c≠1∧c≠2∧c≠3) {P:Prop}:k=1∨k=2∨k=3→P:=fun h=>absurd h (by omega)
theorem item_text (q:Int) (hq:0≤q∧q≤255):∀(f:Nat) (l:List UInt8) (t:List UInt8) (k:Nat),itemF f l q=some (t,k)→t.length≤k
 | 0,_,_,_,h=>by cases h
 | f+1,l,t,k,h=>by
  unfold itemF at h
  by_cases a1:rawAt l 0=q∧¬rawAt l 1=q
  ·rw [if_pos a1] at h;injection h with h;injection h with e1 e2;subst e1;exact Nat.zero_le _
  rw [if_neg a1] at h
  by_cases a2:rawAt l 0=92∧rawAt l 1=10
  ·rw [if_pos a2] at h
   cases hi:itemF f (l.drop 2) q with
   | none=>rw [hi] at h;cases h
   | some x=>
    obtain ⟨t',k'⟩:=x
    have:=item_text q hq f (l.drop 2) t' k' hi
    rw [hi] at h;injection h with h;injection h with e1 e2;subst e1 e2
    simp only;omega
  rw [if_neg a2] at h
  cases hs:quotedS l q with
  | none=>rw [hs] at h;cases h
  | some ck=>
   obtain ⟨c,j⟩:=ck
   have hok:=quotedS_ok l q c j hq hs
   rw [hs] at h
   simp only [] at h
   cases hi:itemF f (l.drop j) q with
   | none=>rw [hi] at h;cases h
   | some x=>
    obtain ⟨t',k'⟩:=x
    have:=item_text q hq f (l.drop j) t' k' hi
    rw [hi] at h;injection h with h;injection h with e1 e2;subst e1 e2
    simp only [List.length_cons];omega
theorem named_fits (B:Nat) (kind:Int) (t:List UInt8) (a e:Int) (h:(namedR kind t a e).err=0):Fits B (namedR kind t a e):=by
 unfold namedR at *
 by_cases hk:100<t.length
 ·rw [if_pos hk] at h;exact absurd h (by decide)
 ·rw [if_neg hk];exact ⟨by simp only;omega,⟨by simp,by simp⟩,fun _=>by simp only;omega⟩
theorem int_fits (B:Nat) (base:Int) (t:List UInt8) (a e:Int) (h:(intR base t a e).err=0):Fits B (intR base t a e):=by
 unfold intR at *
 by_cases hk:natOf base t≤9223372036854775808
 ·rw [if_pos hk]
  refine ⟨by simp,?_,no123 4 rfl (by decide)⟩
  simp only
  split <;> omega
 ·rw [if_neg hk] at h;exact absurd h (by decide)
theorem tok_fits (m l:List UInt8) (p:Nat) (h:(tokR m l p).err=0):Fits l.length (tokR m l p):=by
 unfold tokR at *
 by_cases a0:rawAt m p=47∧rawAt m (p+1)=42
 ·rw [if_pos a0] at h;exact absurd h (by decide)
 rw [if_neg a0] at *
 by_cases a1:cls (rawAt m p)=2∨cls (rawAt m p)=3
 ·rw [if_pos a1] at *;exact named_fits _ _ _ _ _ h
 rw [if_neg a1] at *
 by_cases a2:cls (rawAt m p)=4
 ·rw [if_pos a2] at *
  unfold numR at *
  by_cases b1:rawAt m p=48∧rawAt m (p+1)=39
  ·rw [if_pos b1] at *
   cases hq:quotedS (l.drop (p+2)) 39 with
   | none=>rw [hq] at h;exact absurd h (by show ¬(7:Int)=0;decide)
   | some ck=>
    obtain ⟨c,k⟩:=ck
    have hok:=quotedS_ok _ _ _ _ (by decide) hq
    exact ⟨by simp,by simp only;omega,no123 4 rfl (by decide)⟩
  rw [if_neg b1] at *
  by_cases b2:0<numBase m p∧0<span (isDig (numBase m p)) (m.drop (p+2))
  ·rw [if_pos b2] at *;exact int_fits _ _ _ _ _ h
  ·rw [if_neg b2] at *;exact int_fits _ _ _ _ _ h
 rw [if_neg a2] at *
 by_cases a3:cls (rawAt m p)=5
 ·rw [if_pos a3] at *
  unfold symR at *
  by_cases b1:rawAt m p=46∧endNext (rawAt m (p+1))=true
  ·rw [if_pos b1];exact ⟨by simp,⟨by simp,by simp⟩,no123 7 rfl (by decide)⟩
  ·rw [if_neg b1] at *;exact named_fits _ _ _ _ _ h
 rw [if_neg a3] at *
 by_cases a4:cls (rawAt m p)=6
 ·rw [if_pos a4] at *;exact named_fits _ _ _ _ _ h
 rw [if_neg a4] at *
 by_cases a5:cls (rawAt m p)=7
 ·rw [if_pos a5] at *
  unfold quoteR at *
  by_cases b1:rawAt m p=34
  ·rw [if_pos b1] at *
   cases hi:item (l.drop (p+1)) 34 with
   | none=>rw [hi] at h;exact absurd h (by show ¬(7:Int)=0;decide)
   | some x=>
    obtain ⟨t,k⟩:=x
    have h1:=item_len 34 (by decide) _ _ _ _ hi
    have h2:=item_text 34 (by decide) _ _ _ _ hi
    rw [List.length_drop] at h1
    exact ⟨by simp only [strRes];omega,⟨by simp [strRes],by simp [strRes]⟩,no123 5 rfl (by decide)⟩
  rw [if_neg b1] at *
  by_cases b2:rawAt m p=39
  ·rw [if_pos b2] at *
   cases hi:item (l.drop (p+1)) 39 with
   | none=>rw [hi] at h;exact absurd h (by show ¬(7:Int)=0;decide)
   | some x=>rw [hi] at h;exact named_fits _ _ _ _ _ h
  ·rw [if_neg b2] at h;exact absurd h (by decide)
 ·rw [if_neg a5] at h;exact absurd h (by decide)
theorem next_fits (m l:List UInt8) (a:Nat) (h:(nextR m l a).r.err=0):Fits l.length (nextR m l a).r:=by
 unfold nextR at *
 by_cases e1:a+skipN (m.drop a)=l.length
 ·simp only [if_pos e1] at h;exact absurd h (by decide)
 simp only [if_neg e1] at *
 by_cases e2:(tokR m l (a+skipN (m.drop a))).err=0
 ·simp only [if_pos e2] at *;exact tok_fits _ _ _ e2
 ·simp only [if_neg e2] at h;exact absurd h e2
theorem allF_len (m l:List UInt8):∀(f:Nat) (a:Nat) (acc:List NextR),(allF f m l a acc).l.length≤acc.length+f
 | 0,_,_=>Nat.zero_le _
 | f+1,a,acc=>by
  rw [allF_succ]
  split
  ·exact Nat.zero_le _
  split
  ·exact Nat.zero_le _
  split
  ·simp
  ·have:=allF_len m l f (nextR m l a).r.end_.toNat (acc++[nextR m l a])
   simp at this;omega
structure ToksOk (B:Nat) (T:List NextR):Prop where
 len:T.length≤B+1
 pos:0<T.length
 last:∀i (h:i<T.length),T[i].r.kind=7↔i+1=T.length
 fits:∀t∈T,Fits B t.r
theorem allR_toks (m l:List UInt8) (hml:m.length=l.length) (a:Nat) (ha:a≤l.length) (h:(allR m l a).err=0):ToksOk l.length (allR m l a).l:=by
 obtain ⟨_,hne,hc⟩:=(allR_chain m l hml a ha).1 h
 refine ⟨by have:=allF_len m l (l.length+1) a [];simp at this;exact this,List.length_pos_iff.2 hne,fun i hi=>?_,fun t ht=>?_⟩
 ·have:=(hc i _ (List.getElem?_eq_getElem hi)).2.2.1
  simpa using this
 ·obtain ⟨i,hi⟩:=List.mem_iff_getElem?.1 ht
  obtain ⟨h1,h2,_⟩:=hc i t hi
  rw [←h1]
  exact next_fits _ _ _ (by rw [h1];exact h2)
end Hb
namespace Go.Proofs.YtbojljpldcijgaaGreatDoor
open Go.RowKit Hb
set_option maxHeartbeats 400000 in
theorem chars_is (c:Int) (w:World) :
  Calls Tryz.prog 54 #[.int .i64 c] w fun e w'=>e=.returned (.bool (isCh c))∧w=w':=by
 by_cases h1:0≤c
 ·go_enter Tryz.func54,Tryz.ntmps54
  go_wp2
  go_ret
  exact ⟨by simp [isCh,h1],rfl⟩
 ·go_enter Tryz.func54,Tryz.ntmps54
  go_wp2
  go_ret
  exact ⟨by simp [isCh];omega,rfl⟩
theorem call_indexByteString (s:ByteArray) (c:Int) (w:World):(callFunc 130 #[.string s,.int .u8 c]).run Tryz.prog w=.ok (.value (.int .i64 (Lib.indexByte s.data.toList c.toNat.toUInt8))) w:=by
 rw [run_callFunc_extern Tryz.func130 (by kernel_rfl) (by kernel_rfl) (by kernel_rfl) (e:=Extern.BytealgIndexByte.indexByte) (by kernel_rfl),Lib.run_indexByteString]
 rfl
set_option maxHeartbeats 400000 in
theorem lite_indexByte (s:ByteArray) (c:Int) (w:World) :
  Calls Tryz.prog 113 #[.string s,.int .u8 c] w fun e w'=>e=.returned (.int .i64 (Lib.indexByte s.data.toList c.toNat.toUInt8))∧w=w':=by
 have hx:=call_indexByteString s c
 go_enter Tryz.func113,Tryz.ntmps113
 go_wp2
 go_ret
 exact ⟨rfl,rfl⟩
set_option maxHeartbeats 400000 in
theorem strings_indexByte (s:ByteArray) (c:Int) (w:World) :
  Calls Tryz.prog 88 #[.string s,.int .u8 c] w fun e w'=>e=.returned (.int .i64 (Lib.indexByte s.data.toList c.toNat.toUInt8))∧w=w':=by
 go_enter Tryz.func88,Tryz.ntmps88
 go_wp2_with (go_at_call 113;refine (lite_indexByte _ _ _).mono ?_;rintro e w' ⟨rfl,rfl⟩)
 go_ret
 exact ⟨rfl,rfl⟩
theorem indexByte_among (c:Int) (h0:0≤c) (h1:c≤255):∀l:List UInt8,decide (0≤Lib.indexByte l c.toNat.toUInt8)=among l c
 | []=>rfl
 | b::l=>by
  have ih:=indexByte_among c h0 h1 l
  have hge:=Lib.indexByte_ge l c.toNat.toUInt8
  have hb:(b==c.toNat.toUInt8)=((b.toNat:Int)==c):=by
   rw [Bool.eq_iff_iff,beq_iff_eq,beq_iff_eq]
   constructor
   ·rintro rfl;simp;omega
   ·intro h;subst h;simp
  unfold Lib.indexByte among
  rw [List.any_cons,hb]
  unfold among at ih
  rw [←ih]
  by_cases hc:((b.toNat:Int)==c)=true
  ·simp [hc]
  ·simp only [hc]
   by_cases hm:Lib.indexByte l c.toNat.toUInt8=-1
   ·simp [hm]
   ·have:(Lib.indexByte l c.toNat.toUInt8 == -1)=false:=by simp [hm]
    simp only [this,Bool.false_eq_true,if_false,Bool.false_or]
    rw [decide_eq_decide];omega
set_option maxHeartbeats 400000 in
theorem class_closure (k c:Int) (s:ByteArray) (b o:Nat) (w:World) (hb:b<w.heap.size) (hp:w.cell? ⟨b,o,none⟩=some (.int .i64 c)) (h0:0≤c) (h1:c≤255) :
  Calls Tryz.prog 87 #[.agg #[.int .i64 k,.string s],.pointer (some ⟨b,o,none⟩)] w fun e w'=>e=.returned (.bool (among s.data.toList c))∧Below w.heap.size w w':=by
 have H:=zq (indexByte_among c h0 h1 s.data.toList)
 go_enter Tryz.func87,Tryz.ntmps87
 go_wp2_with (go_at_call 88;refine (strings_indexByte _ _ _).mono ?_;rintro e w' ⟨rfl,rfl⟩)
 go_ret
 exact ⟨ret_bool H.out,(Below.refl _ _).alloc (Nat.le_refl _) _⟩
def rowStr (j:Nat):ByteArray:=⟨(rowOf.getD j []).toArray⟩
theorem rowIx_step (c:Int) (k:Nat) (hk:k<7) (h:k≤rowIx c):(among (rowStr k).data.toList c=true→rowIx c=k)∧(among (rowStr k).data.toList c=false→k+1≤rowIx c):=by
 have hl:k<rowOf.length:=hk
 have e:(rowStr k).data.toList=rowOf[k]:=by
  unfold rowStr;rw [List.getD_eq_getElem?_getD,List.getElem?_eq_getElem hl];simp
 rw [e]
 constructor
 ·intro ha
  have h2:¬k<rowIx c:=fun hlt=>by
   have:=List.not_of_lt_findIdx (p:=fun l=>among l c) hlt
   simp [ha] at this
  omega
 ·intro ha
  have h2:rowIx c≠k:=fun he=>by
   have hlt:rowOf.findIdx (fun l=>among l c)<rowOf.length:=by show rowIx c<_;omega
   have:=List.findIdx_getElem (w:=hlt)
   have e2:rowOf[rowOf.findIdx (fun l=>among l c)]=rowOf[k]:=by congr 1
   rw [e2] at this
   simp [ha] at this
  omega
def rowRes (c:Int):Int:=if rowIx c=7 then -1 else rowIx c
set_option maxHeartbeats 400000 in
theorem class_indexFunc (c:Int) (g b:Nat) (w:World) (hb:b<w.heap.size) (hp:w.cell? ⟨b,0,none⟩=some (.int .i64 c)) (h0:0≤c) (h1:c≤255)
  (hg:g<w.heap.size) (hk:∀j:Nat,j<7→w.cell? ⟨g,j * 2,none⟩=some (.int .i64 (j+1))∧w.cell? ⟨g,j * 2+1,none⟩=some (.string (rowStr j))) :
  Calls Tryz.prog 86 #[.slice (some ⟨g,0,none⟩) 7 7,.func (.func 87) #[] #[.pointer (some ⟨b,0,none⟩)]] w fun e w'=>e=.returned (.int .i64 (rowRes c))∧Below w.heap.size w w':=by
 have HK:=zq hk
 clear hk
 have hle:=rowIx_le c
 go_enter Tryz.func86,Tryz.ntmps86
 go_wp2
 go_loopw [8] (fun i wr=>∃k:Nat,k≤7∧i=.int .i64 k∧k≤rowIx c∧Below w.heap.size w wr) (fun i _=>7-(intOf i).toNat)
 case atStart=>exact ⟨0,Nat.zero_le _,rfl,Nat.zero_le _,Below.refl _ _⟩
 case round=>
  obtain ⟨k,hk,rfl,hi,hB⟩:=hrel
  by_cases hlt:k<7
  ·obtain ⟨a1,a2⟩:=HK.out k hlt
   have c1:=(hB.cell (p:=⟨g,k * 2,none⟩) hg).trans a1
   have c2:=(hB.cell (p:=⟨g,k * 2+1,none⟩) hg).trans a2
   have c3:=(hB.cell (p:=⟨b,0,none⟩) hb).trans hp
   have hs:=hB.size
   have hb':b<wr.heap.size:=by omega
   clear a1 a2 hp
   have Hs:=zq (rowIx_step c k hlt hi)
   cases hm:among (rowStr k).data.toList c
   all_goals
    have Hm:=zq hm
    clear hm
    go_wp2_with (go_at_call 87;refine (class_closure _ _ _ _ _ _ hb' c3 h0 h1).mono ?_;rintro e w' ⟨rfl,hB2⟩;rw [Hm.out])
   ·have hs1:=Hs.out.2 Hm.out
    go_roundw
    case rel=>exact ⟨k+1,by omega,by go_num,hs1,hB.trans (hB2.mono hs)⟩
    case measure=>simp [intOf];omega
   ·have hs1:=Hs.out.1 Hm.out
    go_ret
    exact ⟨ret_int (by unfold rowRes;rw [hs1,if_neg (by omega)]),hB.trans (hB2.mono hs)⟩
  ·have h7:=zq (show rowIx c=7 by omega)
   go_wp2
   go_ret
   exact ⟨ret_int (by unfold rowRes;rw [h7.out,if_pos rfl]),hB⟩
abbrev rowArr:Array Value:=#[.int .i64 1,.string { data:=#[9,10,11,12,13,32] },.int .i64 2,.string { data:=#[97,98,99,100,101,102,103,104,105,106,107,108,109,110,111,112,113,114,115,116,117,118,119,120,121,122] },.int .i64 3,.string { data:=#[65,66,67,68,69,70,71,72,73,74,75,76,77,78,79,80,81,82,83,84,85,86,87,88,89,90,95] },.int .i64 4,.string { data:=#[48,49,50,51,52,53,54,55,56,57] },.int .i64 5,.string { data:=#[35,36,38,42,43,45,46,47,58,60,61,62,63,64,94,126,92] },.int .i64 6,.string { data:=#[33,40,41,44,59,91,93,123,125,37,124] },.int .i64 7,.string { data:=#[39,34,96] }]
theorem rows_at (w:World) (t:TypeId) (g j:Nat) (hg:g=w.heap.size) (hj:j<7):(w.alloc (.cells rowArr t)).cell? ⟨g,j * 2,none⟩=some (.int .i64 (j+1))∧(w.alloc (.cells rowArr t)).cell? ⟨g,j * 2+1,none⟩=some (.string (rowStr j)):=by
 subst hg
 rw [World.cell?_alloc_new,World.cell?_alloc_new]
 match j,hj with
 | 0,_=>exact ⟨rfl,rfl⟩
 | 1,_=>exact ⟨rfl,rfl⟩
 | 2,_=>exact ⟨rfl,rfl⟩
 | 3,_=>exact ⟨rfl,rfl⟩
 | 4,_=>exact ⟨rfl,rfl⟩
 | 5,_=>exact ⟨rfl,rfl⟩
 | 6,_=>exact ⟨rfl,rfl⟩
theorem cls_row (c:Int) (h0:0≤c) (h1:c≤255):cls c=(rowIx c:Int)+1:=by
 obtain ⟨n,rfl⟩:=Int.eq_ofNat_of_zero_le h0
 exact rowIx_cls n (by omega)
set_option maxHeartbeats 400000 in
theorem chars_class (c:Int) (w:World) :
  Calls Tryz.prog 63 #[.int .i64 c] w fun e w'=>e=.returned (.int .i64 (cls c))∧Below w.heap.size w w':=by
 cases hc:isCh c
 ·have h0:=zq (cls_out c (by rw [←isCh_iff];simp [hc]))
  go_enter Tryz.func63,Tryz.ntmps63
  go_wp2_with (go_at_call 54;refine (chars_is _ _).mono ?_;rintro e w' ⟨rfl,rfl⟩)
  go_ret
  exact ⟨ret_int h0.out.symm,(Below.refl _ _).alloc (Nat.le_refl _) _⟩
 ·obtain ⟨h0,h1⟩:=(isCh_iff c).1 hc
  have HC:=zq (cls_row c h0 h1)
  go_enter Tryz.func63,Tryz.ntmps63
  go_wp2_with (first | (go_at_call 54;refine (chars_is _ _).mono ?_;rintro e w' ⟨rfl,rfl⟩) | fail)
  have hrow:=fun t=>rows_at (w.alloc (.cells #[.int .i64 c] 3)) t (w.heap.size+1)
  refine (class_indexFunc c (w.heap.size+1) w.heap.size _ ?_ ?_ h0 h1 ?_ ?_).mono ?_
  ·simp;omega
  ·simp [go_sem]
  ·simp
  ·exact fun j hj=>hrow _ j (by simp) hj
  rintro e w1 ⟨rfl,hB⟩
  by_cases h7:rowIx c=7
  ·have HR:=zq (show rowRes c=-1 by unfold rowRes;rw [if_pos h7])
   have HX:=zq h7
   clear h7
   rw [HR.out]
   go_wp2
   go_ret
   exact ⟨ret_int (by rw [HC.out,HX.out];rfl),(((Below.refl _ _).alloc (Nat.le_refl _) _).alloc (by simp) _).trans (hB.mono (by simp;omega))⟩
  ·have HR:=zq (show rowRes c=rowIx c by unfold rowRes;rw [if_neg h7])
   have hlt:rowIx c<7:=by have:=rowIx_le c;omega
   rw [HR.out]
   have hc1:=(hB.cell (p:=⟨w.heap.size+1,rowIx c * 2,none⟩) (by simp)).trans (hrow _ (rowIx c) (by simp) hlt).1
   clear hrow h7
   go_wp2
   go_ret
   exact ⟨ret_int HC.out.symm,(((Below.refl _ _).alloc (Nat.le_refl _) _).alloc (by simp) _).trans (hB.mono (by simp;omega))⟩
set_option maxHeartbeats 1000000 in
theorem chars_digit (c base:Int) (w:World) :
  Calls Tryz.prog 110 #[.int .i64 c,.int .i64 base] w fun e w'=>e=.returned (.tuple #[.int .i64 (digV c base),.bool (digOk c base)])∧w=w':=by
 go_enter Tryz.func110,Tryz.ntmps110
 go_wp2
 all_goals (go_ret2;exact ⟨ret_ib (by grind [digV,dig]) (by grind [digOk,dig]),rfl⟩)
end Go.Proofs.YtbojljpldcijgaaGreatDoor
namespace Go.Proofs.YtbojljpldcijgaaGreatDoor
open Go.RowKit Hb
set_option maxRecDepth 100000
structure Lex (w:World) (b:Nat) (s:ByteArray) (tab:Int→Int) (at_:Int):Prop where
 lt:b<w.heap.size
 c0:w.cell? ⟨b,0,none⟩=some (.string s)
 ct:∀c:Nat,c<256→w.cell? ⟨b,1+c,none⟩=some (.int .i64 (tab c))
 ca:w.cell? ⟨b,257,none⟩=some (.int .i64 at_)
 fr:∀o,w.frozen? ⟨b,o,none⟩=false
 sz:s.size≤16384
 tb:TabOk tab
theorem Lex.same {w w':World} {b:Nat} {s:ByteArray} {tab:Int→Int} {at_:Int} (h:Lex w b s tab at_) (hs:w.heap.size≤w'.heap.size) (hb:w'.heap[b]? = w.heap[b]?):Lex w' b s tab at_ where
 lt:=Nat.lt_of_lt_of_le h.lt hs
 c0:=(World.cell?_of_block (w:=w) hb).trans h.c0
 ct:=fun c hc=>(World.cell?_of_block (w:=w) hb).trans (h.ct c hc)
 ca:=(World.cell?_of_block (w:=w) hb).trans h.ca
 fr:=fun o=>(World.frozen?_of_block (w:=w) hb).trans (h.fr o)
 sz:=h.sz
 tb:=h.tb
theorem Lex.below {w w':World} {b:Nat} {s:ByteArray} {tab:Int→Int} {at_:Int} (h:Lex w b s tab at_) {B:Nat} (hb:Below B w w') (hB:b<B):Lex w' b s tab at_:=h.same hb.size (hb.block b hB)
theorem Lex.drewN {w:World} {b:Nat} {s:ByteArray} {tab:Int→Int} {at_:Int} (h:Lex w b s tab at_) (n:Nat):Lex (w.drewN n) b s tab at_:=h.same (Nat.le_refl _) rfl
theorem Lex.tabc {w:World} {b:Nat} {s:ByteArray} {tab:Int→Int} {at_:Int} (h:Lex w b s tab at_) (k:Nat) (hk:k<s.size):w.cell? ⟨b,1+s[k].toNat,none⟩=some (.int .i64 (rawAt (cvt tab s.data.toList) k)):=by
 have hl:k<s.data.toList.length:=by simpa using hk
 have e:(tab (bAt s.data.toList k))=rawAt (cvt tab s.data.toList) k:=by
  rw [cvt_at tab h.tb _ _ hl,rawAt_in _ _ (by rw [cvt_len];exact hl)]
 rw [h.ct s[k].toNat s[k].toNat_lt,bAt_mk s k hk,e]
set_option maxHeartbeats 400000 in
theorem lex_char (b:Nat) (s:ByteArray) (tab:Int→Int) (at_ i:Int) (w:World) (h:Lex w b s tab at_) (h0:0≤i) :
  Calls Tryz.prog 62 #[.pointer (some ⟨b,0,none⟩),.int .i64 i] w fun e w'=>e=.returned (.int .i64 (rawAt (cvt tab s.data.toList) i.toNat))∧Below w.heap.size w w':=by
 obtain ⟨k,rfl⟩:=Int.eq_ofNat_of_zero_le h0
 have hsz:=h.sz
 have c0:=h.c0
 by_cases hlt:k<s.size
 ·have c1:=h.tabc k hlt
  have hb:=bAt_lo s.data.toList k
  have hlt':(s[k].toNat:Int)<256:=by have:=s[k].toNat_lt;omega
  go_enter Tryz.func62,Tryz.ntmps62
  go_wp2
  go_quiet (fail)
  go_wp2
  go_ret
  exact ⟨ret_int rfl,bl_drewN (Below.refl _ _) _⟩
 ·have HR:=zq (rawAt_out (cvt tab s.data.toList) k (by rw [cvt_len];simp;omega))
  go_enter Tryz.func62,Tryz.ntmps62
  go_wp2
  go_ret
  exact ⟨ret_int HR.out.symm,Below.refl _ _⟩
set_option maxHeartbeats 400000 in
theorem lex_raw (b:Nat) (s:ByteArray) (tab:Int→Int) (at_ i:Int) (w:World) (h:Lex w b s tab at_) (h0:0≤i) :
  Calls Tryz.prog 85 #[.pointer (some ⟨b,0,none⟩),.int .i64 i] w fun e w'=>e=.returned (.int .i64 (rawAt s.data.toList i.toNat))∧w=w':=by
 obtain ⟨k,rfl⟩:=Int.eq_ofNat_of_zero_le h0
 have hsz:=h.sz
 have c0:=h.c0
 by_cases hlt:k<s.size
 ·have hb:=bAt_mk s k hlt
  have HR:=zq (rawAt_in s.data.toList k (by simpa using hlt))
  have hb0:=bAt_lo s.data.toList k
  have hb1:=bAt_hi s.data.toList k
  go_enter Tryz.func85,Tryz.ntmps85
  go_wp2
  go_ret
  exact ⟨ret_int HR.out.symm,rfl⟩
 ·have HR:=zq (rawAt_out s.data.toList k (by simp;omega))
  go_enter Tryz.func85,Tryz.ntmps85
  go_wp2
  go_ret
  exact ⟨ret_int HR.out.symm,rfl⟩
set_option maxHeartbeats 400000 in
theorem lex_notNl (c:Int) (w:World) :
  Calls Tryz.prog 77 #[.int .i64 c] w fun e w'=>e=.returned (.bool (notNl c))∧Below w.heap.size w w':=by
 go_enter Tryz.func77,Tryz.ntmps77
 go_wp2
 go_ret
 exact ⟨ret_bool (by unfold notNl;simp [bne]),Below.refl _ _⟩
set_option maxHeartbeats 400000 in
theorem lex_isSym (c:Int) (w:World) :
  Calls Tryz.prog 84 #[.int .i64 c] w fun e w'=>e=.returned (.bool (isSym c))∧Below w.heap.size w w':=by
 go_enter Tryz.func84,Tryz.ntmps84
 go_wp2_with (go_at_call 63;refine (chars_class _ _).mono ?_;rintro e w' ⟨rfl,hB⟩)
 go_ret
 exact ⟨ret_bool rfl,hB⟩
set_option maxHeartbeats 400000 in
theorem lex_alnum (c:Int) (w:World) :
  Calls Tryz.prog 78 #[.int .i64 c] w fun e w'=>e=.returned (.bool (alnum c))∧Below w.heap.size w w':=by
 go_enter Tryz.func78,Tryz.ntmps78
 go_wp2_with (go_at_call 63;refine (chars_class _ _).mono ?_;rintro e w' ⟨rfl,hB⟩)
 all_goals (go_ret;exact ⟨ret_bool (by grind [alnum]),hB⟩)
set_option maxHeartbeats 400000 in
theorem lex_isDig (c base:Int) (g:Nat) (w:World) (hg:w.cell? ⟨g,0,none⟩=some (.int .i64 base)) :
  Calls Tryz.prog 111 #[.int .i64 c,.pointer (some ⟨g,0,none⟩)] w fun e w'=>e=.returned (.bool (digOk c base))∧Below w.heap.size w w':=by
 go_enter Tryz.func111,Tryz.ntmps111
 go_wp2_with (go_at_call 110;refine (chars_digit _ _ _).mono ?_;rintro e w' ⟨rfl,rfl⟩)
 go_ret
 exact ⟨ret_bool rfl,Below.refl _ _⟩
set_option maxHeartbeats 800000 in
theorem run_notNl (b:Nat) (s:ByteArray) (tab:Int→Int) (at_ i:Int) (w:World) (h:Lex w b s tab at_) (h0:0≤i) :
  Calls Tryz.prog 76 #[.pointer (some ⟨b,0,none⟩),.int .i64 i,.func (.func 77) #[] #[]] w fun e w'=>e=.returned (.int .i64 (i+span (notNl) ((cvt tab s.data.toList).drop i.toNat)))∧Below w.heap.size w w':=by
 obtain ⟨k0,rfl⟩:=Int.eq_ofNat_of_zero_le h0
 have hsz:=h.sz
 have HL:=zq h
 have hlt0:=h.lt
 clear h
 rw [Int.toNat_natCast]
 go_enter Tryz.func76,Tryz.ntmps76
 go_wp2
 go_loopw [1] (fun i wr=>∃k:Nat,i=.int .i64 k∧Below w.heap.size w wr∧Hid (k+span (notNl) ((cvt tab s.data.toList).drop k)=k0+span (notNl) ((cvt tab s.data.toList).drop k0))) (fun i _=>s.size-(intOf i).toNat)
 case atStart=>exact ⟨k0,rfl,Below.refl _ _,rfl⟩
 case round=>
  obtain ⟨k,rfl,hB,HE⟩:=hrel
  have L:=HL.out.below hB hlt0
  have c0:=L.c0
  have hs:=hB.size
  by_cases hlt:k<s.size
  ·have hkl:k<(cvt tab s.data.toList).length:=by rw [cvt_len];simpa using hlt
   have HR:=zq (rawAt_in (cvt tab s.data.toList) k hkl)
   cases hq:(notNl) (rawAt (cvt tab s.data.toList) k)
   ·have HN:=zq (span_no (notNl) (cvt tab s.data.toList) k hkl (by rw [←HR.out];exact hq))
    have Hq:=zq hq
    clear hq
    go_wp2_with (first | (go_at_call 62;refine (lex_char _ _ _ _ _ _ L (by omega)).mono ?_;rintro e w1 ⟨rfl,hB1⟩;rw [Int.toNat_natCast]) | (go_at_call 77;refine (lex_notNl _ _).mono ?_;rintro e w2 ⟨rfl,hB2⟩;rw [show notNl (rawAt (cvt tab s.data.toList) k)=false from Hq.out]))
    go_ret
    exact ⟨ret_int (by have h1:=HE.out;have h2:=HN.out;omega),hB.trans ((hB1.mono (by omega)).trans (hB2.mono (by have:=hB1.size;omega)))⟩
   ·have HN:=zq (span_yes (notNl) (cvt tab s.data.toList) k hkl (by rw [←HR.out];exact hq))
    have Hq:=zq hq
    clear hq
    go_wp2_with (first | (go_at_call 62;refine (lex_char _ _ _ _ _ _ L (by omega)).mono ?_;rintro e w1 ⟨rfl,hB1⟩;rw [Int.toNat_natCast]) | (go_at_call 77;refine (lex_notNl _ _).mono ?_;rintro e w2 ⟨rfl,hB2⟩;rw [show notNl (rawAt (cvt tab s.data.toList) k)=true from Hq.out]))
    go_roundw
    case rel=>exact ⟨k+1,by go_num,hB.trans ((hB1.mono (by omega)).trans (hB2.mono (by have:=hB1.size;omega))),by have h1:=HE.out;have h2:=HN.out;show _=_;omega⟩
    case measure=>simp [intOf];omega
  ·have HN:=zq (span_end (notNl) (cvt tab s.data.toList) k (by rw [cvt_len];simp;omega))
   go_wp2
   go_ret
   exact ⟨ret_int (by have h1:=HE.out;have h2:=HN.out;omega),hB⟩
set_option maxHeartbeats 800000 in
theorem run_sym (b:Nat) (s:ByteArray) (tab:Int→Int) (at_ i:Int) (w:World) (h:Lex w b s tab at_) (h0:0≤i) :
  Calls Tryz.prog 76 #[.pointer (some ⟨b,0,none⟩),.int .i64 i,.func (.func 84) #[] #[]] w fun e w'=>e=.returned (.int .i64 (i+span (isSym) ((cvt tab s.data.toList).drop i.toNat)))∧Below w.heap.size w w':=by
 obtain ⟨k0,rfl⟩:=Int.eq_ofNat_of_zero_le h0
 have hsz:=h.sz
 have HL:=zq h
 have hlt0:=h.lt
 clear h
 rw [Int.toNat_natCast]
 go_enter Tryz.func76,Tryz.ntmps76
 go_wp2
 go_loopw [1] (fun i wr=>∃k:Nat,i=.int .i64 k∧Below w.heap.size w wr∧Hid (k+span (isSym) ((cvt tab s.data.toList).drop k)=k0+span (isSym) ((cvt tab s.data.toList).drop k0))) (fun i _=>s.size-(intOf i).toNat)
 case atStart=>exact ⟨k0,rfl,Below.refl _ _,rfl⟩
 case round=>
  obtain ⟨k,rfl,hB,HE⟩:=hrel
  have L:=HL.out.below hB hlt0
  have c0:=L.c0
  have hs:=hB.size
  by_cases hlt:k<s.size
  ·have hkl:k<(cvt tab s.data.toList).length:=by rw [cvt_len];simpa using hlt
   have HR:=zq (rawAt_in (cvt tab s.data.toList) k hkl)
   cases hq:(isSym) (rawAt (cvt tab s.data.toList) k)
   ·have HN:=zq (span_no (isSym) (cvt tab s.data.toList) k hkl (by rw [←HR.out];exact hq))
    have Hq:=zq hq
    clear hq
    go_wp2_with (first | (go_at_call 62;refine (lex_char _ _ _ _ _ _ L (by omega)).mono ?_;rintro e w1 ⟨rfl,hB1⟩;rw [Int.toNat_natCast]) | (go_at_call 84;refine (lex_isSym _ _).mono ?_;rintro e w2 ⟨rfl,hB2⟩;rw [show isSym (rawAt (cvt tab s.data.toList) k)=false from Hq.out]))
    go_ret
    exact ⟨ret_int (by have h1:=HE.out;have h2:=HN.out;omega),hB.trans ((hB1.mono (by omega)).trans (hB2.mono (by have:=hB1.size;omega)))⟩
   ·have HN:=zq (span_yes (isSym) (cvt tab s.data.toList) k hkl (by rw [←HR.out];exact hq))
    have Hq:=zq hq
    clear hq
    go_wp2_with (first | (go_at_call 62;refine (lex_char _ _ _ _ _ _ L (by omega)).mono ?_;rintro e w1 ⟨rfl,hB1⟩;rw [Int.toNat_natCast]) | (go_at_call 84;refine (lex_isSym _ _).mono ?_;rintro e w2 ⟨rfl,hB2⟩;rw [show isSym (rawAt (cvt tab s.data.toList) k)=true from Hq.out]))
    go_roundw
    case rel=>exact ⟨k+1,by go_num,hB.trans ((hB1.mono (by omega)).trans (hB2.mono (by have:=hB1.size;omega))),by have h1:=HE.out;have h2:=HN.out;show _=_;omega⟩
    case measure=>simp [intOf];omega
  ·have HN:=zq (span_end (isSym) (cvt tab s.data.toList) k (by rw [cvt_len];simp;omega))
   go_wp2
   go_ret
   exact ⟨ret_int (by have h1:=HE.out;have h2:=HN.out;omega),hB⟩
set_option maxHeartbeats 800000 in
theorem run_alnum (b:Nat) (s:ByteArray) (tab:Int→Int) (at_ i:Int) (w:World) (h:Lex w b s tab at_) (h0:0≤i) :
  Calls Tryz.prog 76 #[.pointer (some ⟨b,0,none⟩),.int .i64 i,.func (.func 78) #[] #[]] w fun e w'=>e=.returned (.int .i64 (i+span (alnum) ((cvt tab s.data.toList).drop i.toNat)))∧Below w.heap.size w w':=by
 obtain ⟨k0,rfl⟩:=Int.eq_ofNat_of_zero_le h0
 have hsz:=h.sz
 have HL:=zq h
 have hlt0:=h.lt
 clear h
 rw [Int.toNat_natCast]
 go_enter Tryz.func76,Tryz.ntmps76
 go_wp2
 go_loopw [1] (fun i wr=>∃k:Nat,i=.int .i64 k∧Below w.heap.size w wr∧Hid (k+span (alnum) ((cvt tab s.data.toList).drop k)=k0+span (alnum) ((cvt tab s.data.toList).drop k0))) (fun i _=>s.size-(intOf i).toNat)
 case atStart=>exact ⟨k0,rfl,Below.refl _ _,rfl⟩
 case round=>
  obtain ⟨k,rfl,hB,HE⟩:=hrel
  have L:=HL.out.below hB hlt0
  have c0:=L.c0
  have hs:=hB.size
  by_cases hlt:k<s.size
  ·have hkl:k<(cvt tab s.data.toList).length:=by rw [cvt_len];simpa using hlt
   have HR:=zq (rawAt_in (cvt tab s.data.toList) k hkl)
   cases hq:(alnum) (rawAt (cvt tab s.data.toList) k)
   ·have HN:=zq (span_no (alnum) (cvt tab s.data.toList) k hkl (by rw [←HR.out];exact hq))
    have Hq:=zq hq
    clear hq
    go_wp2_with (first | (go_at_call 62;refine (lex_char _ _ _ _ _ _ L (by omega)).mono ?_;rintro e w1 ⟨rfl,hB1⟩;rw [Int.toNat_natCast]) | (go_at_call 78;refine (lex_alnum _ _).mono ?_;rintro e w2 ⟨rfl,hB2⟩;rw [show alnum (rawAt (cvt tab s.data.toList) k)=false from Hq.out]))
    go_ret
    exact ⟨ret_int (by have h1:=HE.out;have h2:=HN.out;omega),hB.trans ((hB1.mono (by omega)).trans (hB2.mono (by have:=hB1.size;omega)))⟩
   ·have HN:=zq (span_yes (alnum) (cvt tab s.data.toList) k hkl (by rw [←HR.out];exact hq))
    have Hq:=zq hq
    clear hq
    go_wp2_with (first | (go_at_call 62;refine (lex_char _ _ _ _ _ _ L (by omega)).mono ?_;rintro e w1 ⟨rfl,hB1⟩;rw [Int.toNat_natCast]) | (go_at_call 78;refine (lex_alnum _ _).mono ?_;rintro e w2 ⟨rfl,hB2⟩;rw [show alnum (rawAt (cvt tab s.data.toList) k)=true from Hq.out]))
    go_roundw
    case rel=>exact ⟨k+1,by go_num,hB.trans ((hB1.mono (by omega)).trans (hB2.mono (by have:=hB1.size;omega))),by have h1:=HE.out;have h2:=HN.out;show _=_;omega⟩
    case measure=>simp [intOf];omega
  ·have HN:=zq (span_end (alnum) (cvt tab s.data.toList) k (by rw [cvt_len];simp;omega))
   go_wp2
   go_ret
   exact ⟨ret_int (by have h1:=HE.out;have h2:=HN.out;omega),hB⟩
set_option maxHeartbeats 800000 in
theorem run_dig (b:Nat) (s:ByteArray) (tab:Int→Int) (at_ i:Int) (base:Int) (g:Nat) (w:World) (h:Lex w b s tab at_) (h0:0≤i) (hgl:g<w.heap.size) (hg:w.cell? ⟨g,0,none⟩=some (.int .i64 base)) :
  Calls Tryz.prog 76 #[.pointer (some ⟨b,0,none⟩),.int .i64 i,.func (.func 111) #[] #[.pointer (some ⟨g,0,none⟩)]] w fun e w'=>e=.returned (.int .i64 (i+span (fun c=>digOk c base) ((cvt tab s.data.toList).drop i.toNat)))∧Below w.heap.size w w':=by
 obtain ⟨k0,rfl⟩:=Int.eq_ofNat_of_zero_le h0
 have hsz:=h.sz
 have HL:=zq h
 have hlt0:=h.lt
 clear h
 rw [Int.toNat_natCast]
 have HG:=zq hg
 clear hg
 go_enter Tryz.func76,Tryz.ntmps76
 go_wp2
 go_loopw [1] (fun i wr=>∃k:Nat,i=.int .i64 k∧Below w.heap.size w wr∧Hid (k+span (fun c=>digOk c base) ((cvt tab s.data.toList).drop k)=k0+span (fun c=>digOk c base) ((cvt tab s.data.toList).drop k0))) (fun i _=>s.size-(intOf i).toNat)
 case atStart=>exact ⟨k0,rfl,Below.refl _ _,rfl⟩
 case round=>
  obtain ⟨k,rfl,hB,HE⟩:=hrel
  have L:=HL.out.below hB hlt0
  have c0:=L.c0
  have hs:=hB.size
  have hg1:=(hB.cell (p:=⟨g,0,none⟩) hgl).trans HG.out
  have hgl1:g<wr.heap.size:=by omega
  by_cases hlt:k<s.size
  ·have hkl:k<(cvt tab s.data.toList).length:=by rw [cvt_len];simpa using hlt
   have HR:=zq (rawAt_in (cvt tab s.data.toList) k hkl)
   cases hq:(fun c=>digOk c base) (rawAt (cvt tab s.data.toList) k)
   ·have HN:=zq (span_no (fun c=>digOk c base) (cvt tab s.data.toList) k hkl (by rw [←HR.out];exact hq))
    have Hq:=zq hq
    clear hq
    go_wp2_with (first | (go_at_call 62;refine (lex_char _ _ _ _ _ _ L (by omega)).mono ?_;rintro e w1 ⟨rfl,hB1⟩;rw [Int.toNat_natCast]) | (go_at_call 111;go_must (refine (lex_isDig _ base g _ ((hB1.cell (p:=⟨g,0,none⟩) hgl1).trans hg1)).mono ?_);rintro e w2 ⟨rfl,hB2⟩;rw [show digOk (rawAt (cvt tab s.data.toList) k) base=false from Hq.out]))
    go_ret
    exact ⟨ret_int (by have h1:=HE.out;have h2:=HN.out;omega),hB.trans ((hB1.mono (by omega)).trans (hB2.mono (by have:=hB1.size;omega)))⟩
   ·have HN:=zq (span_yes (fun c=>digOk c base) (cvt tab s.data.toList) k hkl (by rw [←HR.out];exact hq))
    have Hq:=zq hq
    clear hq
    go_wp2_with (first | (go_at_call 62;refine (lex_char _ _ _ _ _ _ L (by omega)).mono ?_;rintro e w1 ⟨rfl,hB1⟩;rw [Int.toNat_natCast]) | (go_at_call 111;go_must (refine (lex_isDig _ base g _ ((hB1.cell (p:=⟨g,0,none⟩) hgl1).trans hg1)).mono ?_);rintro e w2 ⟨rfl,hB2⟩;rw [show digOk (rawAt (cvt tab s.data.toList) k) base=true from Hq.out]))
    go_roundw
    case rel=>exact ⟨k+1,by go_num,hB.trans ((hB1.mono (by omega)).trans (hB2.mono (by have:=hB1.size;omega))),by have h1:=HE.out;have h2:=HN.out;show _=_;omega⟩
    case measure=>simp [intOf];omega
  ·have HN:=zq (span_end (fun c=>digOk c base) (cvt tab s.data.toList) k (by rw [cvt_len];simp;omega))
   go_wp2
   go_ret
   exact ⟨ret_int (by have h1:=HE.out;have h2:=HN.out;omega),hB⟩
theorem infoU8:(Tryz.prog.info? 5).map (fun i=>(i.zero,i.size,i.bytes))=some (some (.int .u8 0),1,1):=by kernel_rfl
theorem take_snoc (l:List UInt8) (k:Nat) (h:k<l.length):l.take (k+1)=l.take k++[(bAt l k).toNat.toUInt8]:=by
 rw [List.take_succ_eq_append_getElem h,←bAt_get _ _ h];simp
theorem take_drop_snoc (l:List UInt8) (i k:Nat) (h:i+k<l.length):(l.drop i).take (k+1)=(l.drop i).take k++[(bAt l (i+k)).toNat.toUInt8]:=by
 rw [take_snoc _ _ (by simp;omega),bAt_drop]
set_option maxHeartbeats 800000 in
theorem lex_part (b:Nat) (s:ByteArray) (tab:Int→Int) (at_ i j:Int) (w:World) (h:Lex w b s tab at_) (h0:0≤i) (h1:i≤j) (h2:j≤s.size) :
  Calls Tryz.prog 80 #[.pointer (some ⟨b,0,none⟩),.int .i64 i,.int .i64 j] w fun e w'=>e=.returned (.string ⟨(((cvt tab s.data.toList).drop i.toNat).take (j-i).toNat).toArray⟩)∧Below w.heap.size w w':=by
 obtain ⟨k0,rfl⟩:=Int.eq_ofNat_of_zero_le h0
 obtain ⟨n,hn⟩:=Int.eq_ofNat_of_zero_le (show 0≤j-k0 by omega)
 obtain rfl:j=k0+n:=by omega
 have hsz:=h.sz
 have HL:=zq h
 have hlt0:=h.lt
 clear h hn
 rw [Int.toNat_natCast,show ((k0:Int)+n-k0).toNat=n by omega]
 go_enter Tryz.func80,Tryz.ntmps80
 go_wp2
 go_loopw [7,8] (fun v i wr=>∃k:Nat,k≤n∧i=.int .i64 (k0+k:Nat)∧Below w.heap.size w wr∧wr.ownsRow w.heap.size 5 1 v k (Hb.byteCells (((cvt tab s.data.toList).drop k0).take k))) (fun _ i _=>k0+n-(intOf i).toNat)
 case atStart=>exact ⟨0,Nat.zero_le _,rfl,Below.refl _ _,⟨by simp [Hb.byteCells],.inl ⟨rfl,rfl⟩⟩⟩
 case round=>
  obtain ⟨k,hk,rfl,hB,hown⟩:=hrel
  have L:=HL.out.below hB hlt0
  have c0:=L.c0
  have hs:=hB.size
  by_cases hlt:k<n
  ·have hkl:k0+k<(cvt tab s.data.toList).length:=by rw [cvt_len];simp;omega
   have HR:=zq (rawAt_in (cvt tab s.data.toList) (k0+k) hkl)
   have HT:=zq (take_drop_snoc (cvt tab s.data.toList) k0 k hkl)
   have hb0:=bAt_lo (cvt tab s.data.toList) (k0+k)
   have hb1:=bAt_hi (cvt tab s.data.toList) (k0+k)
   go_wp2_with (first | (go_at_call 62;refine (lex_char _ _ _ _ _ _ L (by omega)).mono ?_;rintro e w1 ⟨rfl,hB1⟩;rw [show ((k0:Int)+k).toNat=k0+k by omega,HR.out]) | (at_builtin;go_must (refine wpList_append_byte rfl _ _ 54 5 rfl Tryz.underlying54 infoU8 w.heap.size _ _ _ rfl _ (hown.kept (row:=none) ⟨hB1.os,hB1.tape,hB1.output,hB1.size,fun k hk _=>hB1.block k hk⟩ (by simp [Value.ownBlock];split <;> simp)) _ hb0 hb1 rfl rfl (by omega) (by have:=hB1.size;omega) ?_;intro v1 w2 hown1 hB2)))
   go_roundw
   case rel=>exact ⟨k+1,by omega,by go_num,hB.trans ((hB1.mono (by omega)).trans hB2),by rw [HT.out];exact hown1⟩
   case measure=>simp [intOf];omega
  ·obtain rfl:k=n:=by omega
   have hc:=conv_own (P:=Tryz.prog) wr 54 9 5 Tryz.underlying54 Tryz.underlying5 Tryz.underlying9 _ _ k _ hown
   go_wp2
   go_ret
   exact ⟨ret_str rfl,hB⟩
theorem skip_step (M:List UInt8) (k e X:Nat) (he:k+2≤e) (h1:k+skipN (M.drop k)=X) (h2:skipN (M.drop k)=(e-(k+2)+4)+skipN (M.drop (k+(e-(k+2)+4)))):e+2+skipN (M.drop (e+2))=X:=by
 have e1:k+(e-(k+2)+4)=e+2:=by omega
 rw [e1] at h2;omega
theorem close_step (M:List UInt8) (k e:Nat) (he:k+2≤e) (h:closeAt (M.drop (k+2))=(closeAt (M.drop e)).map (· + (e-(k+2)))) (h2:closeAt (M.drop e)=(closeAt (M.drop (e+1))).map (· + 1)) :
  closeAt (M.drop (k+2))=(closeAt (M.drop (e+1))).map (· + (e+1-(k+2))):=by
 rw [h,h2,Option.map_map]
 congr 1
 funext x
 simp;omega
set_option maxHeartbeats 4000000 in
theorem lex_skip (b:Nat) (s:ByteArray) (tab:Int→Int) (at_ i:Int) (w:World) (h:Lex w b s tab at_) (h0:0≤i) :
  Calls Tryz.prog 55 #[.pointer (some ⟨b,0,none⟩),.int .i64 i] w fun e w'=>e=.returned (.int .i64 (i+skipN ((cvt tab s.data.toList).drop i.toNat)))∧Below w.heap.size w w':=by
 obtain ⟨k0,rfl⟩:=Int.eq_ofNat_of_zero_le h0
 have hsz:=h.sz
 have HL:=zq h
 have hlt0:=h.lt
 clear h
 rw [Int.toNat_natCast]
 have hlen:Hid ((cvt tab s.data.toList).length=s.size):=by show _=_;rw [cvt_len];simp
 generalize hM:cvt tab s.data.toList=M at *
 have HM:=zq hM
 clear hM
 go_enter Tryz.func55,Tryz.ntmps55
 go_wp2_with fail
 go_loopw [1] (fun i wr=>∃k:Nat,i=.int .i64 k∧Below w.heap.size w wr∧Hid (k+skipN (M.drop k)=k0+skipN (M.drop k0))) (fun i _=>s.size-(intOf i).toNat)
 case atStart=>exact ⟨k0,rfl,Below.refl _ _,rfl⟩
 case round=>
  obtain ⟨k,rfl,hB,HE⟩:=hrel
  have L:=HL.out.below hB hlt0
  have c0:=L.c0
  have hs:=hB.size
  by_cases hlt:k<s.size
  ·have hkl:k<M.length:=by rw [hlen.out];exact hlt
   have hr0:=rawAt_neg M k
   have hr1:0≤rawAt M k:=by have:=rawAt_neg M k;omega
   clear hr0
   by_cases a1:cls (rawAt M k)=1
   ·have HN:=zq (skip_lay M k hkl a1)
    have b1:(cls (rawAt M k)==1)=true:=by simp [a1]
    clear a1
    go_wp2_with fail
    refine (lex_char _ _ _ _ _ _ L (by omega)).mono ?_;rintro e w1 ⟨rfl,hB1⟩;rw [Int.toNat_natCast,HM.out]
    go_wp2_with fail
    refine (chars_class _ _).mono ?_;rintro e w2 ⟨rfl,hB2⟩
    go_wp2_with fail
    go_roundw
    case rel=>exact ⟨k+1,by go_num,hB.trans ((hB1.mono (by omega)).trans (hB2.mono (by have:=hB1.size;omega))),by have h1:=HE.out;have h2:=HN.out;show _=_;omega⟩
    case measure=>simp [intOf];omega
   have b1:(cls (rawAt M k)==1)=false:=by simp [a1]
   by_cases a2:rawAt M k=37
   ·have HN:=zq (skip_pct M k hkl a1 a2)
    have hsp:=span_pos notNl (M.drop k) (by simp;omega) (by rw [rawAt_drop,Nat.add_zero,a2];rfl)
    have b2:(rawAt M k==37)=true:=by simp [a2]
    have A2:=zq a2
    clear a1 a2
    go_wp2_with fail
    refine (lex_char _ _ _ _ _ _ L (by omega)).mono ?_;rintro e w1 ⟨rfl,hB1⟩;rw [Int.toNat_natCast,HM.out]
    go_wp2_with fail
    refine (chars_class _ _).mono ?_;rintro e w2 ⟨rfl,hB2⟩
    have L2:=(L.below hB1 L.lt).below hB2 (L.below hB1 L.lt).lt
    go_wp2_with fail
    refine (run_notNl _ _ _ _ _ _ L2 (by omega)).mono ?_;rintro e w3 ⟨rfl,hB3⟩;rw [Int.toNat_natCast,HM.out]
    go_wp2_with fail
    go_roundw
    case rel=>exact ⟨k+span notNl (M.drop k),by go_num,hB.trans ((hB1.mono (by omega)).trans ((hB2.mono (by have:=hB1.size;omega)).trans (hB3.mono (by have:=hB1.size;have:=hB2.size;omega)))),by have h1:=HE.out;have h2:=HN.out;show _=_;omega⟩
    case measure=>simp [intOf];omega
   have b2:(rawAt M k==37)=false:=by simp [a2]
   by_cases a3:rawAt M k=47
   ·have b3:(rawAt M k==47)=true:=by simp [a3]
    have A1:=zq a1
    have A2:=zq a2
    have A3:=zq a3
    clear a1 a2 a3
    by_cases a4:rawAt M (k+1)=42
    ·have b4:(rawAt M (k+1)==42)=true:=by simp [a4]
     have A4:=zq a4
     clear a4
     go_wp2_with fail
     refine (lex_char _ _ _ _ _ _ L (by omega)).mono ?_;rintro e w1 ⟨rfl,hB1⟩;rw [Int.toNat_natCast,HM.out]
     go_wp2_with fail
     refine (chars_class _ _).mono ?_;rintro e w2 ⟨rfl,hB2⟩
     have L2:=(L.below hB1 L.lt).below hB2 (L.below hB1 L.lt).lt
     go_wp2_with fail
     refine (lex_char _ _ _ _ _ _ L2 (by omega)).mono ?_;rintro e w3 ⟨rfl,hB3⟩;rw [show ((k:Int)+1).toNat=k+1 by omega,HM.out]
     have L3:=L2.below hB3 L2.lt
     have hB':Below w.heap.size w w3:=hB.trans ((hB1.mono (by omega)).trans ((hB2.mono (by have:=hB1.size;omega)).trans (hB3.mono (by have:=hB1.size;have:=hB2.size;omega))))
     clear hB1 hB2 hB3 L2 L c0 hB
     go_wp2_with fail
     go_loopw [6] (fun x wx=>∃e:Nat,k+2≤e∧e≤s.size∧x=.int .i64 e∧Below w.heap.size w wx∧Hid (closeAt (M.drop (k+2))=(closeAt (M.drop e)).map (· + (e-(k+2))))) (fun x _=>s.size-(intOf x).toNat)
     case atStart=>
      have hk2:k+2≤s.size:=by
       have:=rawAt_neg M (k+1);have:=A4.out;have:=hlen.out;omega
      exact ⟨k+2,Nat.le_refl _,hk2,by go_num,hB',by show _=_;simp⟩
     case round=>
      obtain ⟨e,he1,he2,rfl,hBx,HC⟩:=hrel
      have Lx:=HL.out.below hBx hlt0
      have c0:=Lx.c0
      have hsx:=hBx.size
      by_cases helt:e<s.size
      ·have hel:e<M.length:=by rw [hlen.out];exact helt
       by_cases d1:rawAt M e=42
       ·have d1b:(rawAt M e==42)=true:=by simp [d1]
        have d1c:(rawAt M e != 42)=false:=by simp [d1]
        have D1:=zq d1
        clear d1
        by_cases d2:rawAt M (e+1)=47
        ·have d2b:(rawAt M (e+1)==47)=true:=by simp [d2]
         have d2c:(rawAt M (e+1) != 47)=false:=by simp [d2]
         have HK:=zq (closeAt_yes M e hel D1.out d2)
         have HS:=zq (skip_com M k (e-(k+2)) hkl A3.out A4.out (by rw [HC.out,HK.out];simp))
         clear d2
         go_wp2_with fail
         refine (lex_char _ _ _ _ _ _ Lx (by omega)).mono ?_;rintro e' w4 ⟨rfl,hB4⟩;rw [Int.toNat_natCast,HM.out]
         have L4:=Lx.below hB4 Lx.lt
         go_wp2_with fail
         refine (lex_char _ _ _ _ _ _ L4 (by omega)).mono ?_;rintro e' w5 ⟨rfl,hB5⟩;rw [show ((e:Int)+1).toNat=e+1 by omega,HM.out]
         have L5:=L4.below hB5 L4.lt
         have c5:=L5.c0
         have hne:((e:Int)==(s.size:Int))=false:=by simp;omega
         go_wp2_with fail
         go_roundw
         case rel=>exact ⟨e+2,by go_num,hBx.trans ((hB4.mono (by omega)).trans (hB5.mono (by have:=hB4.size;omega))),skip_step M k e _ he1 HE.out HS.out⟩
         case measure=>simp [intOf];omega
        ·have d2b:(rawAt M (e+1)==47)=false:=by simp [d2]
         have d2c:(rawAt M (e+1) != 47)=true:=by simp [d2]
         have HK:=zq (closeAt_no M e hel (fun hh=>d2 hh.2))
         clear d2
         go_wp2_with fail
         refine (lex_char _ _ _ _ _ _ Lx (by omega)).mono ?_;rintro e' w4 ⟨rfl,hB4⟩;rw [Int.toNat_natCast,HM.out]
         have L4:=Lx.below hB4 Lx.lt
         go_wp2_with fail
         refine (lex_char _ _ _ _ _ _ L4 (by omega)).mono ?_;rintro e' w5 ⟨rfl,hB5⟩;rw [show ((e:Int)+1).toNat=e+1 by omega,HM.out]
         go_wp2_with fail
         go_roundw
         case rel=>exact ⟨e+1,by omega,by omega,by go_num,hBx.trans ((hB4.mono (by omega)).trans (hB5.mono (by have:=hB4.size;omega))),close_step M k e he1 HC.out HK.out⟩
         case measure=>simp [intOf];omega
       ·have d1b:(rawAt M e==42)=false:=by simp [d1]
        have d1c:(rawAt M e != 42)=true:=by simp [d1]
        have HK:=zq (closeAt_no M e hel (fun hh=>d1 hh.1))
        clear d1
        go_wp2_with fail
        refine (lex_char _ _ _ _ _ _ Lx (by omega)).mono ?_;rintro e' w4 ⟨rfl,hB4⟩;rw [Int.toNat_natCast,HM.out]
        go_wp2_with fail
        go_roundw
        case rel=>exact ⟨e+1,by omega,by omega,by go_num,hBx.trans (hB4.mono (by omega)),close_step M k e he1 HC.out HK.out⟩
        case measure=>simp [intOf];omega
      ·obtain rfl:e=s.size:=by omega
       have HK:=zq (closeAt_end M s.size (by rw [hlen.out];exact Nat.le_refl _))
       have HS:=zq (skip_open M k hkl A3.out A4.out (by rw [HC.out,HK.out];rfl))
       go_wp2_with fail
       go_ret
       exact ⟨ret_int (by have h1:=HE.out;have h2:=HS.out;omega),hBx⟩
    ·have b4:(rawAt M (k+1)==42)=false:=by simp [a4]
     have HN:=zq (skip_no M k hkl A1.out A2.out (fun hh=>a4 hh.2))
     clear a4
     go_wp2_with fail
     refine (lex_char _ _ _ _ _ _ L (by omega)).mono ?_;rintro e w1 ⟨rfl,hB1⟩;rw [Int.toNat_natCast,HM.out]
     go_wp2_with fail
     refine (chars_class _ _).mono ?_;rintro e w2 ⟨rfl,hB2⟩
     have L2:=(L.below hB1 L.lt).below hB2 (L.below hB1 L.lt).lt
     go_wp2_with fail
     refine (lex_char _ _ _ _ _ _ L2 (by omega)).mono ?_;rintro e w3 ⟨rfl,hB3⟩;rw [show ((k:Int)+1).toNat=k+1 by omega,HM.out]
     go_wp2_with fail
     go_ret
     exact ⟨ret_int (by have h1:=HE.out;have h2:=HN.out;omega),hB.trans ((hB1.mono (by omega)).trans ((hB2.mono (by have:=hB1.size;omega)).trans (hB3.mono (by have:=hB1.size;have:=hB2.size;omega))))⟩
   ·have b3:(rawAt M k==47)=false:=by simp [a3]
    have HN:=zq (skip_no M k hkl a1 a2 (fun hh=>a3 hh.1))
    clear a1 a2 a3
    go_wp2_with fail
    refine (lex_char _ _ _ _ _ _ L (by omega)).mono ?_;rintro e w1 ⟨rfl,hB1⟩;rw [Int.toNat_natCast,HM.out]
    go_wp2_with fail
    refine (chars_class _ _).mono ?_;rintro e w2 ⟨rfl,hB2⟩
    go_wp2_with fail
    go_ret
    exact ⟨ret_int (by have h1:=HE.out;have h2:=HN.out;omega),hB.trans ((hB1.mono (by omega)).trans (hB2.mono (by have:=hB1.size;omega)))⟩
  ·have hkl:M.length≤k:=by rw [hlen.out];omega
   have HR:=zq (rawAt_out M k hkl)
   have HN:=zq (skip_end M k hkl)
   go_wp2_with fail
   refine (lex_char _ _ _ _ _ _ L (by omega)).mono ?_;rintro e w1 ⟨rfl,hB1⟩;rw [Int.toNat_natCast,HM.out,HR.out]
   go_wp2_with fail
   go_ret
   exact ⟨ret_int (by have h1:=HE.out;have h2:=HN.out;omega),hB.trans (hB1.mono (by omega))⟩
end Go.Proofs.YtbojljpldcijgaaGreatDoor
