/- Parts of the proof. -/
import Derived.Test.YtbojljpldcijgaaGreatDoorH01
import Derived.Test.YtbojljpldcijgaaGreatDoorH20
import Derived.Test.YtbojljpldcijgaaGreatDoorH12
import Derived.Test.YtbojljpldcijgaaGreatDoorH06
import Derived.Test.YtbojljpldcijgaaGreatDoorH13
import Derived.Test.YtbojljpldcijgaaGreatDoorH03
import Derived.Test.YtbojljpldcijgaaGreatDoorH16
namespace Go.Proofs.YtbojljpldcijgaaGreatDoor
open Go.RowKit Hb Go.Shelf
set_option maxRecDepth 100000
theorem f_start (w:World):Calls Tryz.prog 11 #[] w fun e w'=>∃g cap,e=.returned (.agg #[.slice (some ⟨g,0,none⟩) 41 cap,.int .i64 1,.int .i64 1,.bool false,.bool false,.slice none 0 0])∧Below w.heap.size w w'∧Tab w' (some ⟨g,0,none⟩) 41 cap defL:=by
 have HB0:Hid (Below w.heap.size w (w.alloc (.cells #[.slice none 0 0,.int .i64 0,.int .i64 0,.bool false,.bool false,.slice none 0 0] 42))):=zq ((Below.refl _ _).alloc (Nat.le_refl _) _)
 have HK0:Hid (Bk (w.alloc (.cells #[.slice none 0 0,.int .i64 0,.int .i64 0,.bool false,.bool false,.slice none 0 0] 42)) w.heap.size [.slice none 0 0,.int .i64 0,.int .i64 0,.bool false,.bool false,.slice none 0 0]):=zq (Bk.new w [.slice none 0 0,.int .i64 0,.int .i64 0,.bool false,.bool false,.slice none 0 0] 42)
 go_enter Tryz.func11,Tryz.ntmps11
 go_wp2_with fail
 refine (ops_default sort_said _).mono ?_;rintro e w1 ⟨g,cap,rfl,hB1,hT1⟩
 have HB1:=bz HB0 hB1
 have HK1:=zq (HK0.out.call hB1)
 have HT1:=zq hT1
 clear hB1 HB0 HK0 hT1
 go_wp2_with fail
 refine (f_default _).mono ?_;rintro e w2 ⟨rfl,hB2⟩
 have HB2:=bz HB1 hB2
 have HK2:=zq (HK1.out.call hB2)
 have HT2:=zq (HT1.out.below hB2)
 clear hB2 HB1 HK1 HT1
 unfold flV flDef
 dsimp only
 have x0:w2.cell? ⟨w.heap.size,0,none⟩=some (.slice none 0 0):=HK2.out.c 0 _ rfl
 have f0:=HK2.out.f 0
 have x1:w2.cell? ⟨w.heap.size,1,none⟩=some (.int .i64 0):=HK2.out.c 1 _ rfl
 have f1:=HK2.out.f 1
 have x2:w2.cell? ⟨w.heap.size,2,none⟩=some (.int .i64 0):=HK2.out.c 2 _ rfl
 have f2:=HK2.out.f 2
 have x3:w2.cell? ⟨w.heap.size,3,none⟩=some (.bool false):=HK2.out.c 3 _ rfl
 have f3:=HK2.out.f 3
 have x4:w2.cell? ⟨w.heap.size,4,none⟩=some (.bool false):=HK2.out.c 4 _ rfl
 have f4:=HK2.out.f 4
 have x5:w2.cell? ⟨w.heap.size,5,none⟩=some (.slice none 0 0):=HK2.out.c 5 _ rfl
 have f5:=HK2.out.f 5
 have HK3:Hid (Bk ((((((w2.setCell ⟨w.heap.size,0,none⟩ (.slice (some ⟨g,0,none⟩) 41 cap)).setCell ⟨w.heap.size,1,none⟩ (.int .i64 1)).setCell ⟨w.heap.size,2,none⟩ (.int .i64 1)).setCell ⟨w.heap.size,3,none⟩ (.bool false)).setCell ⟨w.heap.size,4,none⟩ (.bool false)).setCell ⟨w.heap.size,5,none⟩ (.slice none 0 0)) w.heap.size [.slice (some ⟨g,0,none⟩) 41 cap,.int .i64 1,.int .i64 1,.bool false,.bool false,.slice none 0 0]):=zq ((((((HK2.out.set 0 (.slice (some ⟨g,0,none⟩) 41 cap)).set 1 (.int .i64 1)).set 2 (.int .i64 1)).set 3 (.bool false)).set 4 (.bool false)).set 5 (.slice none 0 0))
 have HB3:Hid (Below w.heap.size w ((((((w2.setCell ⟨w.heap.size,0,none⟩ (.slice (some ⟨g,0,none⟩) 41 cap)).setCell ⟨w.heap.size,1,none⟩ (.int .i64 1)).setCell ⟨w.heap.size,2,none⟩ (.int .i64 1)).setCell ⟨w.heap.size,3,none⟩ (.bool false)).setCell ⟨w.heap.size,4,none⟩ (.bool false)).setCell ⟨w.heap.size,5,none⟩ (.slice none 0 0))):=zq ((((((HB2.out.setCell (p:=⟨_,_,none⟩) (Nat.le_refl _) _).setCell (p:=⟨_,_,none⟩) (Nat.le_refl _) _).setCell (p:=⟨_,_,none⟩) (Nat.le_refl _) _).setCell (p:=⟨_,_,none⟩) (Nat.le_refl _) _).setCell (p:=⟨_,_,none⟩) (Nat.le_refl _) _).setCell (p:=⟨_,_,none⟩) (Nat.le_refl _) _)
 have HT3:Hid (Tab ((((((w2.setCell ⟨w.heap.size,0,none⟩ (.slice (some ⟨g,0,none⟩) 41 cap)).setCell ⟨w.heap.size,1,none⟩ (.int .i64 1)).setCell ⟨w.heap.size,2,none⟩ (.int .i64 1)).setCell ⟨w.heap.size,3,none⟩ (.bool false)).setCell ⟨w.heap.size,4,none⟩ (.bool false)).setCell ⟨w.heap.size,5,none⟩ (.slice none 0 0)) (some ⟨g,0,none⟩) 41 cap defL):=zq (tab_boxes (L:=[(w.heap.size,[.slice none 0 0,.int .i64 0,.int .i64 0,.bool false,.bool false,.slice none 0 0])]) ⟨by kernel_rfl,HT2.out,fun _=>.inr ⟨_,rfl⟩⟩ ⟨fun x hx=>by rw [List.mem_singleton.1 hx];exact HK2.out,by simp⟩ (fun x hx=>by
  rw [List.mem_singleton.1 hx]
  intro i s x
  rcases i with _ | _ | _ | _ | _ | _ | i <;> simp) (by simp) (fun k hk=>by
  have hne:=hk _ (List.mem_singleton.2 rfl)
  rw [heap_setCell_other _ _ _ _ hne,heap_setCell_other _ _ _ _ hne,heap_setCell_other _ _ _ _ hne,heap_setCell_other _ _ _ _ hne,heap_setCell_other _ _ _ _ hne,heap_setCell_other _ _ _ _ hne]))
 obtain ⟨wz,HWZ⟩:=lz (((((((w2.setCell ⟨w.heap.size,0,none⟩ (.slice (some ⟨g,0,none⟩) 41 cap)).setCell ⟨w.heap.size,1,none⟩ (.int .i64 1)).setCell ⟨w.heap.size,2,none⟩ (.int .i64 1)).setCell ⟨w.heap.size,3,none⟩ (.bool false)).setCell ⟨w.heap.size,4,none⟩ (.bool false)).setCell ⟨w.heap.size,5,none⟩ (.slice none 0 0)))
 rw [←HWZ.out] at HK3 HB3 HT3
 clear HB2 HK2 HT2
 go_wp2_with fail
 rw [←HWZ.out]
 have y0:wz.cell? ⟨w.heap.size,0,none⟩=some (.slice (some ⟨g,0,none⟩) 41 cap):=HK3.out.c 0 _ rfl
 have y1:wz.cell? ⟨w.heap.size,1,none⟩=some (.int .i64 1):=HK3.out.c 1 _ rfl
 have y2:wz.cell? ⟨w.heap.size,2,none⟩=some (.int .i64 1):=HK3.out.c 2 _ rfl
 have y3:wz.cell? ⟨w.heap.size,3,none⟩=some (.bool false):=HK3.out.c 3 _ rfl
 have y4:wz.cell? ⟨w.heap.size,4,none⟩=some (.bool false):=HK3.out.c 4 _ rfl
 have y5:wz.cell? ⟨w.heap.size,5,none⟩=some (.slice none 0 0):=HK3.out.c 5 _ rfl
 exact bodyPost_ret (v:=.agg #[.slice (some ⟨g,0,none⟩) 41 cap,.int .i64 1,.int .i64 1,.bool false,.bool false,.slice none 0 0]) (by simp [results,Tryz.results11,go_sem,y0,y1,y2,y3,y4,y5]) rfl ⟨g,cap,rfl,HB3.out,HT3.out⟩
set_option maxHeartbeats 800000 in
theorem ops_validM (A:Option Addr) (n cap:Nat) (l:List OpR) (w:World) (hn:n=l.length) (hp:OpsAt w A l) :
  Calls Tryz.prog 35 #[.slice A n cap] w fun e w'=>e=.returned (.bool (opsValid l))∧Below w.heap.size w w':=by
 by_cases c1:100<n
 ·have b1:decide ((100:Int)<n)=true:=by simp;omega
  have HV:=zq (opsValid_long l (by omega))
  clear hn hp c1
  go_enter Tryz.func35,Tryz.ntmps35
  go_wp2_with fail
  go_ret
  exact ⟨ret_bool HV.out.symm,Below.refl _ _⟩
 ·exact ops_valid A n cap l w hn (by omega) hp
set_option maxHeartbeats 1600000 in
theorem f_validSyntaxL (OA:Option Addr) (on oc:Nat) (q u:Int) (c d:Bool) (CA:Option Addr) (cn cc:Nat) (l:List OpR) (cl:List (Int×Int)) (w:World) (hO:Tab w OA on oc l) (hcl:cn=cl.length) (hcn:cn≤maxLen) (hC:Pairs w CA cl) :
  Calls Tryz.prog 20 #[.agg #[.slice OA on oc,.int .i64 q,.int .i64 u,.bool c,.bool d,.slice CA cn cc]] w fun e w'=>e=.returned (.bool (opsValid l&&(flOk ⟨q,u,c,d⟩&&pvalid cl)))∧Below w.heap.size w w':=by
 have HO:=zq hO
 have HCL:=zq hcl
 have HCN:=zq hcn
 have HC:=zq hC
 have HB0:Hid (Below w.heap.size w (w.alloc (.cells #[.slice OA on oc,.int .i64 q,.int .i64 u,.bool c,.bool d,.slice CA cn cc] 42))):=zq ((Below.refl _ _).alloc (Nat.le_refl _) _)
 have HK0:Hid (Bk (w.alloc (.cells #[.slice OA on oc,.int .i64 q,.int .i64 u,.bool c,.bool d,.slice CA cn cc] 42)) w.heap.size [.slice OA on oc,.int .i64 q,.int .i64 u,.bool c,.bool d,.slice CA cn cc]):=zq (Bk.new w [.slice OA on oc,.int .i64 q,.int .i64 u,.bool c,.bool d,.slice CA cn cc] 42)
 have HV:=zq (fun W=>f_valid ⟨q,u,c,d⟩ W)
 obtain ⟨b0,HB0E⟩:=lz (opsValid l)
 obtain ⟨b1,HB1E⟩:=lz (flOk ⟨q,u,c,d⟩)
 obtain ⟨b2,HB2E⟩:=lz (pvalid cl)
 rw [←HB0E.out,←HB1E.out,←HB2E.out]
 rw [←HB1E.out] at HV
 unfold flV at HV
 have HOV:Hid (∀W,Below w.heap.size w W→Calls Tryz.prog 35 #[.slice OA on oc] W fun e w'=>e=.returned (.bool b0)∧Below W.heap.size W w'):=zq fun W hW=>by
  have:=ops_validM OA on oc l W HO.out.len (HO.out.ops.below hW)
  rwa [←HB0E.out] at this
 have HCV:Hid (∀W,Below w.heap.size w W→Calls Tryz.prog 37 #[.slice CA cn cc] W fun e w'=>e=.returned (.bool b2)∧Below W.heap.size W w'):=zq fun W hW=>by
  have:=chars_valid CA cn cc cl W HCL.out HCN.out (HC.out.below hW)
  rwa [←HB2E.out] at this
 clear hO hcl hcn hC HB0E HB1E HB2E
 go_enter Tryz.func20,Tryz.ntmps20
 go_wp2_with fail
 refine (HOV.out _ HB0.out).mono ?_;rintro e w1 ⟨rfl,hB1⟩
 have HB1:=bz HB0 hB1
 have HK1:=zq (HK0.out.call hB1)
 clear hB1 HB0 HK0
 have x0:w1.cell? ⟨w.heap.size,0,none⟩=some (.slice OA on oc):=HK1.out.c 0 _ rfl
 have x1:w1.cell? ⟨w.heap.size,1,none⟩=some (.int .i64 q):=HK1.out.c 1 _ rfl
 have x2:w1.cell? ⟨w.heap.size,2,none⟩=some (.int .i64 u):=HK1.out.c 2 _ rfl
 have x3:w1.cell? ⟨w.heap.size,3,none⟩=some (.bool c):=HK1.out.c 3 _ rfl
 have x4:w1.cell? ⟨w.heap.size,4,none⟩=some (.bool d):=HK1.out.c 4 _ rfl
 have x5:w1.cell? ⟨w.heap.size,5,none⟩=some (.slice CA cn cc):=HK1.out.c 5 _ rfl
 cases b0
 ·go_wp2_with fail
  go_ret
  exact ⟨rfl,HB1.out⟩
 go_wp2_with fail
 refine (HV.out _).mono ?_;rintro e w2 ⟨rfl,hB2⟩
 have HB2:=bz HB1 hB2
 have HK2:=zq (HK1.out.call hB2)
 clear hB2 HB1 HK1 x0 x1 x2 x3 x4 x5
 have x0:w2.cell? ⟨w.heap.size,0,none⟩=some (.slice OA on oc):=HK2.out.c 0 _ rfl
 have x1:w2.cell? ⟨w.heap.size,1,none⟩=some (.int .i64 q):=HK2.out.c 1 _ rfl
 have x2:w2.cell? ⟨w.heap.size,2,none⟩=some (.int .i64 u):=HK2.out.c 2 _ rfl
 have x3:w2.cell? ⟨w.heap.size,3,none⟩=some (.bool c):=HK2.out.c 3 _ rfl
 have x4:w2.cell? ⟨w.heap.size,4,none⟩=some (.bool d):=HK2.out.c 4 _ rfl
 have x5:w2.cell? ⟨w.heap.size,5,none⟩=some (.slice CA cn cc):=HK2.out.c 5 _ rfl
 cases b1
 ·go_wp2_with fail
  go_ret
  exact ⟨rfl,HB2.out⟩
 go_wp2_with fail
 refine (HCV.out _ HB2.out).mono ?_;rintro e w3 ⟨rfl,hB3⟩
 have HB3:=bz HB2 hB3
 go_wp2_with fail
 go_ret
 exact ⟨rfl,HB3.out⟩
end Go.Proofs.YtbojljpldcijgaaGreatDoor
namespace Hb
open Go Go.RowKit
structure Sy where
 P:List OpR
 q:Int
 u:Int
 c:Bool
 d:Bool
 C:List (Int×Int)
def Sy.ok (s:Sy):Bool:=opsValid s.P&&(flOk ⟨s.q,s.u,s.c,s.d⟩&&pvalid s.C)
def Sy.conv (s:Sy):List (Int×Int):=if s.c=true then s.C else []
structure RdR where
 t:Tm
 names:List (List UInt8×Nat)
 singles:List (List UInt8×Nat)
 end_:Int
 where_:Int
 err:Int
def rdErr (k:Int) (e:Int):RdR:=⟨.mk 0 0 ⟨#[]⟩ [],[],[],0,k,e⟩
def sglV (v:VS):List (List UInt8×Nat):=v.m.filter fun p=>v.o.count p.2==1
def readOk (E:RE) (t:Tm) (m:Nat):RdR :=
 if validT t=true then ⟨t,(vsAt E.T m).m,sglV (vsAt E.T m),(E.at m).r.end_,0,0⟩ else rdErr (E.at 0).r.at_ 2
def readT (E:RE):RdR :=
 match wholeG E with
 | .error k=>rdErr (E.at k).r.at_ 7
 | .ok (t,m)=>readOk E t m
def badArgs (L:List UInt8) (at_:Int) (s:Sy):Bool:=decide (16384<L.length)||(decide (at_<0)||(decide ((L.length:Int)<at_) || !s.ok))
def toksOf (L:List UInt8) (at_:Int) (s:Sy):AllR:=allR (cvt (convT s.conv) L) L at_.toNat
def readS (L:List UInt8) (at_:Int) (s:Sy):RdR :=
 if badArgs L at_ s=true then rdErr 0 1
 else if ¬(toksOf L at_ s).err=0 then rdErr (toksOf L at_ s).where_ (toksOf L at_ s).err
 else readT ⟨(toksOf L at_ s).l,s.P,s.q⟩
def NmAt (K:Nat→Prop) (w:World) (A:Option Addr) (m:List (List UInt8×Nat)):Prop :=
 m.length≤maxLen∧∀j (h:j<m.length),∃b off,A=some ⟨b,off,none⟩∧K b∧w.cell? ⟨b,off+j * 2,none⟩=some (.string ⟨m[j].1.toArray⟩)∧w.cell? ⟨b,off+j * 2+1,none⟩=some (.int .i64 (m[j].2:Int))
theorem NmAt.keep {K K':Nat→Prop} {w w':World} {A:Option Addr} {m:List (List UInt8×Nat)} (h:NmAt K w A m) (hB:∀b,K b→w'.heap[b]? = w.heap[b]?) (hK:∀b,K b→K' b):NmAt K' w' A m:=⟨h.1,fun j hj=>by
 obtain ⟨b,off,e,hb,c0,c1⟩:=h.2 j hj
 have hw:∀o,w'.cell? ⟨b,o,none⟩=w.cell? ⟨b,o,none⟩:=fun o=>World.cell?_of_block (hB b hb)
 exact ⟨b,off,e,hK b hb,(hw _).trans c0,(hw _).trans c1⟩⟩
theorem NmAt.nil {K:Nat→Prop} {w:World} {A:Option Addr}:NmAt K w A []:=⟨by decide,fun j h=>absurd h (by simp)⟩
theorem nmCells_get:∀(m:List (List UInt8×Nat)) (j:Nat) (h:j<m.length),(nmCells m)[j * 2]? = some (.string ⟨m[j].1.toArray⟩)∧(nmCells m)[j * 2+1]? = some (.int .i64 (m[j].2:Int))
 | p::l,0,_=>⟨rfl,rfl⟩
 | p::l,j+1,h=>by
  have:=nmCells_get l j (by simpa using h)
  have e:nmCells (p::l)=.string ⟨p.1.toArray⟩::.int .i64 (p.2:Int)::nmCells l:=rfl
  rw [e,show (j+1) * 2=j * 2+2 by omega,show j * 2+2+1=j * 2+1+2 by omega]
  exact this
theorem NmAt.own {w:World} {base e:Nat} {A:Option Addr} {n cap:Nat} {m:List (List UInt8×Nat)} (h:w.ownsRow base e 2 (.slice A n cap) m.length (nmCells m)):n=m.length∧NmAt (fun b=>base≤b∧b<w.heap.size) w A m:=by
 have hl:=h.1
 rcases h.2 with ⟨hv,h0⟩ | ⟨g,c2,cur,hv,hg,hh,hn,hm,rest⟩
 ·have:m=[]:=List.eq_nil_of_length_eq_zero h0
  subst this
  injection hv with _ hv _
  exact ⟨hv,NmAt.nil⟩
 ·injection hv with hA hn2 _
  subst hA
  refine ⟨hn2,by omega,fun j hj=>?_⟩
  obtain ⟨p0,p1⟩:=nmCells_get m j hj
  have hc:∀k u,(nmCells m)[k]? = some u→w.cell? ⟨g,0+k,none⟩=some u:=fun k u hu=>by
   have:=h.cells (g:=g) rfl k u hu
   rw [addr_add] at this
   exact this
  exact ⟨g,0,rfl,⟨hg,(Array.getElem?_eq_some_iff.1 hh).1⟩,hc _ _ p0,hc _ _ p1⟩
end Hb
