/- Parts of the proof. -/
import Derived.Test.YtgapnafkelokaaaGreatDoorR01
import Derived.Test.YtgapnafkelokaaaGreatDoorR03
import Derived.Deep.QuietTactic
import Derived.BigQuiet
import Derived.LoopTactic
import Derived.Test.YtgapnafkelokaaaGreatDoorR02
import Derived.RegionTactic
import Derived.BigRegion
import Derived.Shelf.Strings.Builder1
import Derived.Shelf.Small.Strs
import Derived.Shelf.Small.Wraps
import Derived.Shelf.Strings.BuilderF
import Derived.Shelf.Strings.BuilderK
import Derived.Shelf.Strconv.Itoa0
import Derived.Shelf.Strconv.Itoa1
import Derived.Shelf.LaysM
import Derived.Shelf.Strconv.Itoa2
import Derived.Shelf.Strconv.Itoa3
import Derived.Shelf.Strconv.Itoa4
import Derived.Shelf.Strings.Search1
import Derived.Shelf.Strings.Prefix
import Derived.Shelf.Strings.BuilderCap
import Derived.Ground.Names2Prog
import Derived.Shelf.Slices.SearchI
import Derived.Test.YtgapnafkelokaaaGreatDoorProg
import Derived.Laws.Strings
import Derived.LoopN
import Derived.Laws.IdiomStrings
set_option maxHeartbeats 12800000
set_option maxRecDepth 100000
open Go renaming Calls -> aG, World -> aj, maxLen -> bc, rounds_succ -> gU, run_convert_bytes_back -> ii
open Go.Ending renaming returned -> av
open Go.IntKind renaming i64 -> ae
open Go.Lib renaming indexByte -> dM
open Go.Proofs.Tryz renaming prog -> ah, underlying3 -> dL, underlying4 -> fL, underlying5 -> dA, underlying75 -> bU, underlying9 -> ci
open Go.RowKit renaming Below -> ay
open Go.RowKit.Below renaming refl -> ak
open Go.Value renaming bool -> an, int -> ab, pointer -> ax, string -> aa, tuple -> aF
open Go.World renaming cell?_alloc_new -> aq
open Int renaming eq_ofNat_of_zero_le -> bA
open List renaming take_of_length_le -> bg
open Nat renaming le_refl -> ag, zero_le -> bj
namespace Go.Proofs.YtgapnafkelokaaaGreatDoor
open Go.RowKit Hb
def nY (j:Nat):ByteArray:=⟨(rowOf.getD j []).toArray⟩
theorem yV (c:Int) (k:Nat) (g:k<7) (h:k<=jI c):(lm (nY k).data.toList c=true->jI c=k)/\(lm (nY k).data.toList c=false->k+1<=jI c):=by
 have i:k<rowOf.length:=g
 have e:(nY k).data.toList=rowOf[k]:=by
  unfold nY;rw [List.getD_eq_getElem?_getD,List.getElem?_eq_getElem i];simp
 rw [e]
 constructor
 ·intro a
  have f:¬k<jI c:=fun b=>by
   have:=List.not_of_lt_findIdx (p:=fun l=>lm l c) b
   simp [a] at this
  omega
 ·intro a
  have f:jI c≠k:=fun j=>by
   have b:rowOf.findIdx (fun l=>lm l c)<rowOf.length:=by show jI c<_;omega
   have:=List.findIdx_getElem (w:=b)
   have d:rowOf[rowOf.findIdx (fun l=>lm l c)]=rowOf[k]:=by congr 1
   rw [d] at this
   simp [a] at this
  omega
def nZ (c:Int):Int:=if jI c=7 then -1 else jI c
theorem qZ (c:Int) (g b:Nat) (w:aj) (A:b<w.heap.size) (s:w.cell? ⟨b,0,none⟩=some (ab ae c)) (x:0<=c) (y:c<=255)
  (q:g<w.heap.size) (f:∀j:Nat,j<7->w.cell? ⟨g,j * 2,none⟩=some (ab ae (j+1))/\w.cell? ⟨g,j * 2+1,none⟩=some (aa (nY j))) :
  aG ah 141 #[.slice (some ⟨g,0,none⟩) 7 7,.func (.func 142) #[] #[ax (some ⟨b,0,none⟩)]] w fun e w'=>e=av (ab ae (nZ c))/\ay w.heap.size w w':=by
 have u:=zq f
 clear f
 have F:=xc c
 go_enter Tryz.func141,Tryz.ntmps141
 go_wp2
 go_loopw [8] (fun i wr=>∃k:Nat,k<=7/\i=ab ae k/\k<=jI c/\ay w.heap.size w wr) (fun i _=>7-(intOf i).toNat)
 case atStart=>exact ⟨0,bj _,rfl,bj _,ak _ _⟩
 case round=>
  obtain ⟨k,f,rfl,C,a⟩:=hrel
  by_cases r:k<7
  ·obtain ⟨m,n⟩:=u.out k r
   have D:=(a.cell (p:=⟨g,k * 2,none⟩) q).trans m
   have E:=(a.cell (p:=⟨g,k * 2+1,none⟩) q).trans n
   have v:=(a.cell (p:=⟨b,0,none⟩) A).trans s
   have t:=a.size
   have B:b<wr.heap.size:=by omega
   clear m n s
   have l:=zq (yV c k r C)
   cases hm:lm (nY k).data.toList c
   all_goals
    have d:=zq hm
    clear hm
    go_wp2_with (go_at_call 142;refine (tG _ _ _ _ _ _ B v x y).mono ?_;rintro e w' ⟨rfl,o⟩;rw [d.out])
   ·have h:=l.out.2 d.out
    go_roundw
    case rel=>exact ⟨k+1,by omega,by go_num,h,a.trans (o.mono t)⟩
    case measure=>simp [intOf];omega
   ·have h:=l.out.1 d.out
    go_ret
    exact ⟨cT (by unfold nZ;rw [h,if_neg (by omega)]),a.trans (o.mono t)⟩
  ·have z:=zq (show jI c=7 by omega)
   go_wp2
   go_ret
   exact ⟨cT (by unfold nZ;rw [z.out,if_pos rfl]),a⟩
abbrev Eb:Array Value:=#[ab ae 1,aa { data:=#[9,10,11,12,13,32] },ab ae 2,aa { data:=#[97,98,99,100,101,102,103,104,105,106,107,108,109,110,111,112,113,114,115,116,117,118,119,120,121,122] },ab ae 3,aa { data:=#[65,66,67,68,69,70,71,72,73,74,75,76,77,78,79,80,81,82,83,84,85,86,87,88,89,90,95] },ab ae 4,aa { data:=#[48,49,50,51,52,53,54,55,56,57] },ab ae 5,aa { data:=#[35,36,38,42,43,45,46,47,58,60,61,62,63,64,94,126,92] },ab ae 6,aa { data:=#[33,40,41,44,59,91,93,123,125,37,124] },ab ae 7,aa { data:=#[39,34,96] }]
theorem Gx (w:aj) (t:TypeId) (g j:Nat) (a:g=w.heap.size) (b:j<7):(w.alloc (.cells Eb t)).cell? ⟨g,j * 2,none⟩=some (ab ae (j+1))/\(w.alloc (.cells Eb t)).cell? ⟨g,j * 2+1,none⟩=some (aa (nY j)):=by
 subst a
 rw [aq,aq]
 match j,b with
 | 0,_=>exact ⟨rfl,rfl⟩
 | 1,_=>exact ⟨rfl,rfl⟩
 | 2,_=>exact ⟨rfl,rfl⟩
 | 3,_=>exact ⟨rfl,rfl⟩
 | 4,_=>exact ⟨rfl,rfl⟩
 | 5,_=>exact ⟨rfl,rfl⟩
 | 6,_=>exact ⟨rfl,rfl⟩
theorem Ih (c:Int) (a:0<=c) (b:c<=255):cls c=(jI c:Int)+1:=by
 obtain ⟨n,rfl⟩:=bA a
 exact BV n (by omega)
theorem cK (c:Int) (w:aj) :
  aG ah 97 #[ab ae c] w fun e w'=>e=av (ab ae (cls c))/\ay w.heap.size w w':=by
 cases hc:iP c
 ·have b:=zq (Bb c (by rw [<-kc];simp [hc]))
  go_enter Tryz.func97,Tryz.ntmps97
  go_wp2_with (go_at_call 102;refine (jF _ _).mono ?_;rintro e w' ⟨rfl,rfl⟩)
  go_ret
  exact ⟨cT b.out.symm,(ak _ _).alloc (ag _) _⟩
 ·obtain ⟨b,i⟩:=(kc c).1 hc
  have h:=zq (Ih c b i)
  go_enter Tryz.func97,Tryz.ntmps97
  go_wp2_with (first | (go_at_call 102;refine (jF _ _).mono ?_;rintro e w' ⟨rfl,rfl⟩) | fail)
  have g:=fun t=>Gx (w.alloc (.cells #[ab ae c] 3)) t (w.heap.size+1)
  refine (qZ c (w.heap.size+1) w.heap.size _ ?_ ?_ b i ?_ ?_).mono ?_
  ·simp;omega
  ·simp [go_sem]
  ·simp
  ·exact fun j l=>g _ j (by simp) l
  rintro e o ⟨rfl,f⟩
  by_cases a:jI c=7
  ·have d:=zq (show nZ c=-1 by unfold nZ;rw [if_pos a])
   have k:=zq a
   clear a
   rw [d.out]
   go_wp2
   go_ret
   exact ⟨cT (by rw [h.out,k.out];rfl),(((ak _ _).alloc (ag _) _).alloc (by simp) _).trans (f.mono (by simp;omega))⟩
  ·have d:=zq (show nZ c=jI c by unfold nZ;rw [if_neg a])
   have m:jI c<7:=by have:=xc c;omega
   rw [d.out]
   have n:=(f.cell (p:=⟨w.heap.size+1,jI c * 2,none⟩) (by simp)).trans (g _ (jI c) (by simp) m).1
   clear g a
   go_wp2
   go_ret
   exact ⟨cT h.out.symm,(((ak _ _).alloc (ag _) _).alloc (by simp) _).trans (f.mono (by simp;omega))⟩
theorem ev (c a:Int) (w:aj) :
  aG ah 179 #[ab ae c,ab ae a] w fun e w'=>e=av (aF #[ab ae (nL c a),an (gG c a)])/\w=w':=by
 go_enter Tryz.func179,Tryz.ntmps179
 go_wp2
 all_goals (go_ret2;exact ⟨uX (by grind [nL,JH]) (by grind [gG,JH]),rfl⟩)
end Go.Proofs.YtgapnafkelokaaaGreatDoor
namespace Go.Proofs.YtgapnafkelokaaaGreatDoor
open Go.RowKit Hb
theorem wW (c:Int) (w:aj) (d:0<=c) (f:c<=255) :
  aG ah 95 #[ab .u8 c] w fun e w'=>e=av (an (dw c))/\ay w.heap.size w w':=by
 have a:=zq (show dw c=(cls c==2||(cls c==3||cls c==4)) from rfl)
 have g:IntKind.i64.wrap c=c:=IntWalk.i64_in _ (by omega)
 rw [a.out]
 cases d2:(cls c==2)
 all_goals cases d3:(cls c==3)
 all_goals cases d4:(cls c==4)
 all_goals
  go_enter Tryz.func95,Tryz.ntmps95
  go_wp2_with fail
  refine (cK _ _).mono ?_;rintro e h ⟨rfl,b⟩
  go_wp2_with fail
  go_ret
  exact ⟨rfl,b⟩
theorem tU (c:Int) (w:aj) (b:0<=c) (d:c<=255) :
  aG ah 96 #[ab .u8 c] w fun e w'=>e=av (an (db c))/\ay w.heap.size w w':=by
 have f:IntKind.i64.wrap c=c:=IntWalk.i64_in _ (by omega)
 go_enter Tryz.func96,Tryz.ntmps96
 go_wp2_with fail
 refine (cK _ _).mono ?_;rintro e g ⟨rfl,a⟩
 go_wp2_with fail
 go_ret
 exact ⟨bC rfl,a⟩
end Go.Proofs.YtgapnafkelokaaaGreatDoor
namespace Hb
open Go Go.RowKit
theorem tf {P:Program} {f:FuncId} {args:Array Value} {w0 w:aj} {Q:Ending->Prop} (a:ay w0.heap.size w0 w)
  (h:aG P f args w fun e w'=>Q e/\ay w.heap.size w w'):aG P f args w fun e w'=>Q e/\ay w0.heap.size w0 w' :=
 h.mono fun _ _ ⟨he,hb⟩=>⟨he,a.trans (hb.mono a.size)⟩
end Hb
namespace Go.Proofs.YtgapnafkelokaaaGreatDoor
open Go.RowKit Hb
theorem In (s:ByteArray) (h:0<s.size):ie s.data.toList (s.size-1)=au s.data.toList (s.data.toList.length-1):=by
 rw [eU _ _ (by rw [size_data];omega),size_data]
theorem Hr (a b:ByteArray) (c:0<a.size) (d:0<b.size):eo a.data.toList b.data.toList=((dw (ie a.data.toList (a.size-1))&&dw (ie b.data.toList 0))||((db (ie a.data.toList (a.size-1))&&db (ie b.data.toList 0))||((ie a.data.toList (a.size-1)==ie b.data.toList 0&&cls (ie a.data.toList (a.size-1))==7)||(decide (a.toList=[48])&&ie b.data.toList 0==39)))):=by
 have e:a.data.toList.isEmpty=false:=by have:=mI a c;rwa [iC] at this
 have f:b.data.toList.isEmpty=false:=by have:=mI b d;rwa [iC] at this
 unfold eo
 rw [e,f,<-In a c,eU b.data.toList 0 (by rw [size_data];exact d),iC]
 have g:(a.data.toList==[48])=decide (a.data.toList=[48]):=by rw [Bool.eq_iff_iff];simp
 simp only [Bool.not_false,Bool.true_and,g]
theorem iY (s:ByteArray) (h:s.size=0):s.toList=[]/\s.data.toList=[]:=by
 have:s.data.toList=[]:=List.eq_nil_of_length_eq_zero (by rw [size_data];exact h)
 exact ⟨by rw [iC];exact this,this⟩
theorem BG (a b:ByteArray) (w:aj) (h:a.size=0\/b.size=0) :
  aG ah 61 #[aa a,aa b] w fun e w'=>e=av (an (eo a.data.toList b.data.toList))/\ay w.heap.size w w':=by
 have d:=zq (show eo a.data.toList b.data.toList=false by
  rcases h with h | h
  ·rw [(iY a h).2];rfl
  ·unfold eo;rw [(iY b h).2];simp)
 by_cases c:a.size=0
 ·have f:=(iY a c).1
  have g:a.toList.isEmpty=true:=by rw [f];rfl
  clear h c
  go_enter Tryz.func61,Tryz.ntmps61
  go_wp2_with fail
  go_ret
  exact ⟨bC d.out.symm,ak _ _⟩
 ·have i:=(iY b (by omega)).1
  have j:b.toList.isEmpty=true:=by rw [i];rfl
  have f:=rB a (by omega)
  have g:=mI a (by omega)
  clear h c
  go_enter Tryz.func61,Tryz.ntmps61
  go_wp2_with fail
  go_ret
  exact ⟨bC d.out.symm,ak _ _⟩
theorem BF (a b:ByteArray) (w:aj) (d:0<a.size) (c:0<b.size) (has:a.size<=bc) :
  aG ah 61 #[aa a,aa b] w fun e w'=>e=av (an (eo a.data.toList b.data.toList))/\ay w.heap.size w w':=by
 have i:=rB a d
 have k:=rB b c
 have j:=mI a d
 have l:=mI b c
 have r:IntKind.i64.wrap ((a.size:Int)-1)=(a.size:Int)-1:=IntWalk.i64_in _ (by unfold bc at has;omega)
 have o:(0:Int)<=(a.size:Int)-1:=by omega
 have p:(a.size:Int)-1<(a.size:Int):=by omega
 have q:((a.size:Int)-1).toNat=a.size-1:=by omega
 have m:=jU a (a.size-1) (by omega)
 have n:=jU b 0 c
 have s:=jj a.data.toList (a.size-1)
 have t:=jG a.data.toList (a.size-1)
 have u:=jj b.data.toList 0
 have v:=jG b.data.toList 0
 have h:=zq (Hr a b d c)
 generalize ie a.data.toList (a.size-1)=x at *
 generalize ie b.data.toList 0=y at *
 go_enter Tryz.func61,Tryz.ntmps61
 go_wp2_with fail
 go_quiet (fail)
 go_wp2_with (first
  | (go_at_call 95;refine (tf (w0:=w) (by first | assumption | exact dF (ak _ _) _) (wW _ _ (by assumption) (by assumption))).mono ?_;rintro e g ⟨rfl,f⟩)
  | (go_at_call 96;refine (tf (w0:=w) (by first | assumption | exact dF (ak _ _) _) (tU _ _ (by assumption) (by assumption))).mono ?_;rintro e g ⟨rfl,f⟩)
  | (go_at_call 97;refine (tf (w0:=w) (by first | assumption | exact dF (ak _ _) _) (cK _ _)).mono ?_;rintro e g ⟨rfl,f⟩))
 all_goals
  go_ret
  exact ⟨bC (by rw [h.out];grind),by first | assumption | exact dF (ak _ _) _⟩
theorem Gs (a b:ByteArray) (w:aj) (has:a.size<=bc) :
  aG ah 61 #[aa a,aa b] w fun e w'=>e=av (an (eo a.data.toList b.data.toList))/\ay w.heap.size w w':=by
 by_cases h:a.size=0\/b.size=0
 ·exact BG a b w h
 ·exact BF a b w (by omega) (by omega) has
end Go.Proofs.YtgapnafkelokaaaGreatDoor
namespace Go.Proofs
open Go.Shelf
def Tryz.lays169_ren:Go.Shelf.Ren:=⟨fun | 169=>62 | n=>n,fun | 70=>106 | 9=>9 | 0=>0 | 72=>108 | 37=>75 | 127=>150 | 3=>3 | 5=>5 | n=>n,fun | n=>n⟩
theorem Tryz.lays169:Go.Proofs.Lays.n169 ah Tryz.lays169_ren:={
 mixed:=by kernel_rfl
 f169:=Tryz.func62.trans (congrArg some (by kernel_rfl))
 t0:=Tryz.underlying0
 a0:=Tryz.isAgg0
 z0:=Tryz.sizeOf0
 v0:=Tryz.zeroValue0
 t3:=dL
 a3:=Tryz.isAgg3
 z3:=Tryz.sizeOf3
 v3:=Tryz.zeroValue3
 t9:=ci
 a9:=Tryz.isAgg9
 z9:=Tryz.sizeOf9
 v9:=Tryz.zeroValue9
 t37:=bU
 a37:=Tryz.isAgg75
 z37:=Tryz.sizeOf75
 v37:=Tryz.zeroValue75
 t70:=Tryz.underlying106
 a70:=Tryz.isAgg106
 z70:=Tryz.sizeOf106
 v70:=Tryz.zeroValue106
 t72:=Tryz.underlying108
 a72:=Tryz.isAgg108
 z72:=Tryz.sizeOf108
 v72:=Tryz.zeroValue108
 t127:=Tryz.underlying150
 a127:=Tryz.isAgg150
 z127:=Tryz.sizeOf150
 v127:=Tryz.zeroValue150 }
theorem Tryz.Builder_Extra_169:Builder.Extra ah Tryz.lays169_ren:={
 sizeBuilder:=by kernel_rfl
 liesBuilder:=by kernel_rfl
 t5:=dA
 a5:=Tryz.isAgg5
 z5:=Tryz.sizeOf5
 v5:=Tryz.zeroValue5
 infoByte:=by kernel_rfl
 cellsByte:=by kernel_rfl
 sizeByte:=by kernel_rfl
 neB5:=by decide }
open Go.RowKit in
theorem Tryz.Builder_String_any (B b:Nat) (l:List UInt8) (w:aj) (h:Lib.IsBuilder 108 5 B b (Lib.byteCells l) w) (a:B<=w.heap.size) :
  aG ah 62 #[ax (some ⟨b,0,none⟩)] w fun e w'=>e=av (aa ⟨l.toArray⟩)/\ay B w w':=Any.Builder_String_any Tryz.lays169 Tryz.Builder_Extra_169 B b l w h a
def Tryz.laysM173_ren:Go.Shelf.Ren:=⟨fun | 173=>81 | 246=>117 | 283=>163 | 284=>164 | 285=>165 | 286=>166 | 129=>192 | 317=>191 | 318=>193 | 319=>194 | 320=>195 | 337=>212 | 338=>213 | n=>n,fun | 2=>2 | 3=>3 | 9=>9 | 4=>4 | 171=>196 | 0=>0 | 53=>197 | 37=>75 | 5=>5 | 173=>200 | 212=>218 | 51=>219 | 20=>20 | 213=>220 | 46=>221 | 232=>234 | 233=>235 | n=>n,fun | 17=>0 | 18=>2 | 19=>3 | n=>n⟩
theorem Tryz.laysM173:Go.Proofs.LaysM.n173 ah Tryz.laysM173_ren:={
 mixed:=by kernel_rfl
 f129:=Tryz.func192.trans (congrArg some (by kernel_rfl))
 f173:=Tryz.func81.trans (congrArg some (by kernel_rfl))
 f246:=Tryz.func117.trans (congrArg some (by kernel_rfl))
 f283:=Tryz.func163.trans (congrArg some (by kernel_rfl))
 f284:=Tryz.func164.trans (congrArg some (by kernel_rfl))
 f285:=Tryz.func165.trans (congrArg some (by kernel_rfl))
 f286:=Tryz.func166.trans (congrArg some (by kernel_rfl))
 f317:=Tryz.func191.trans (congrArg some (by kernel_rfl))
 f318:=Tryz.func193.trans (congrArg some (by kernel_rfl))
 f319:=Tryz.func194.trans (congrArg some (by kernel_rfl))
 f320:=Tryz.func195.trans (congrArg some (by kernel_rfl))
 f337:=Tryz.func212.trans (congrArg some (by kernel_rfl))
 f338:=Tryz.func213.trans (congrArg some (by kernel_rfl))
 t0:=Tryz.underlying0
 a0:=Tryz.isAgg0
 z0:=Tryz.sizeOf0
 v0:=Tryz.zeroValue0
 t2:=Tryz.underlying2
 a2:=Tryz.isAgg2
 z2:=Tryz.sizeOf2
 v2:=Tryz.zeroValue2
 t3:=dL
 a3:=Tryz.isAgg3
 z3:=Tryz.sizeOf3
 v3:=Tryz.zeroValue3
 t4:=fL
 a4:=Tryz.isAgg4
 z4:=Tryz.sizeOf4
 v4:=Tryz.zeroValue4
 t5:=dA
 a5:=Tryz.isAgg5
 z5:=Tryz.sizeOf5
 v5:=Tryz.zeroValue5
 t9:=ci
 a9:=Tryz.isAgg9
 z9:=Tryz.sizeOf9
 v9:=Tryz.zeroValue9
 t20:=Tryz.underlying20
 a20:=Tryz.isAgg20
 z20:=Tryz.sizeOf20
 v20:=Tryz.zeroValue20
 t37:=bU
 a37:=Tryz.isAgg75
 z37:=Tryz.sizeOf75
 v37:=Tryz.zeroValue75
 t46:=Tryz.underlying221
 a46:=Tryz.isAgg221
 z46:=Tryz.sizeOf221
 v46:=Tryz.zeroValue221
 t51:=Tryz.underlying219
 a51:=Tryz.isAgg219
 z51:=Tryz.sizeOf219
 v51:=Tryz.zeroValue219
 t53:=Tryz.underlying197
 a53:=Tryz.isAgg197
 z53:=Tryz.sizeOf197
 v53:=Tryz.zeroValue197
 t171:=Tryz.underlying196
 a171:=Tryz.isAgg196
 z171:=Tryz.sizeOf196
 v171:=Tryz.zeroValue196
 t173:=Tryz.underlying200
 a173:=Tryz.isAgg200
 z173:=Tryz.sizeOf200
 v173:=Tryz.zeroValue200
 t212:=Tryz.underlying218
 a212:=Tryz.isAgg218
 z212:=Tryz.sizeOf218
 v212:=Tryz.zeroValue218
 t213:=Tryz.underlying220
 a213:=Tryz.isAgg220
 z213:=Tryz.sizeOf220
 t232:=Tryz.underlying234
 a232:=Tryz.isAgg234
 z232:=Tryz.sizeOf234
 v232:=Tryz.zeroValue234
 t233:=Tryz.underlying235
 a233:=Tryz.isAgg235
 z233:=Tryz.sizeOf235
 v233:=Tryz.zeroValue235
 g17:=by kernel_rfl
 g18:=by kernel_rfl
 g19:=by kernel_rfl
 i0:=by kernel_rfl
 i2:=by kernel_rfl
 i3:=by kernel_rfl
 i4:=by kernel_rfl
 i5:=by kernel_rfl
 i9:=by kernel_rfl
 i20:=by kernel_rfl
 i37:=by kernel_rfl
 i46:=by kernel_rfl
 i51:=by kernel_rfl
 i53:=by kernel_rfl
 i171:=by kernel_rfl
 i173:=by kernel_rfl
 i212:=by kernel_rfl
 i232:=by kernel_rfl
 i233:=by kernel_rfl
 m17:=by kernel_rfl
 m18:=by kernel_rfl
 m19:=by kernel_rfl }
open Go.RowKit Go.Sort Go.Lib in
theorem Tryz.strconv_FormatInt_10 (n : Int) (a : -9223372036854775808 <= n) (b : n <= 9223372036854775807) (w : aj) (c : Lib.TabIs ah w "internal/strconv.uint64pow10" .u64 Lib.pow10Tab) :
  aG ah 81 #[ab ae n,ab ae 10] w fun e w'=>e=av (aa ⟨(Lib.itoa n).toArray⟩)/\∃k os,w'=grow (w.drewN k) os:=Any.strconv_FormatInt_10 Tryz.laysM173 n a b w c
def Tryz.lays99_ren:Go.Shelf.Ren:=⟨fun | 99=>200 | 206=>214 | n=>n,fun | 9=>9 | 4=>4 | 3=>3 | n=>n,fun | n=>n⟩
theorem Tryz.lays99:Go.Proofs.Lays.n99 ah Tryz.lays99_ren:={
 mixed:=by kernel_rfl
 f99:=Tryz.func200.trans (congrArg some (by kernel_rfl))
 f206:=Tryz.func214.trans (congrArg some (by kernel_rfl))
 t3:=dL
 a3:=Tryz.isAgg3
 z3:=Tryz.sizeOf3
 v3:=Tryz.zeroValue3
 t4:=fL
 a4:=Tryz.isAgg4
 z4:=Tryz.sizeOf4
 v4:=Tryz.zeroValue4
 t9:=ci
 a9:=Tryz.isAgg9
 z9:=Tryz.sizeOf9
 v9:=Tryz.zeroValue9 }
open Go.RowKit Go.Lib in
theorem Tryz.strings_HasPrefix (s p:ByteArray) (w:aj) :
  aG ah 200 #[aa s,aa p] w fun e w'=>e=av (an (Lib.hasPrefix s.data.toList p.data.toList))/\w'=w:=Any.strings_HasPrefix Tryz.lays99 s p w
end Go.Proofs
namespace Go.Proofs.YtgapnafkelokaaaGreatDoor
open Go.RowKit Hb
theorem sP (q:Int->Bool) (s:List UInt8) (k:Nat) (h:k<s.length):fc q (s.take (k+1))=(fc q (s.take k)&&q (ie s k)):=by
 unfold fc;rw [List.take_succ_eq_append_getElem h,List.all_append,<-ic _ _ h];simp
theorem yg (q:Int->Bool) (s:List UInt8) (k:Nat) (h:k<s.length) (a:q (ie s k)=false):fc q s=false:=by
 unfold fc;rw [List.all_eq_false];exact ⟨s[k],List.getElem_mem h,by rw [ic _ _ h,a];simp⟩
def qp (q:Int->Bool) (s:List UInt8):Bool:=fc q s && !s.isEmpty
theorem oR (s:ByteArray) (w:aj) (r:s.size<=bc) :
  aG ah 198 #[aa s,.func (.func 95) #[] #[]] w fun e w'=>e=av (an (qp dw s.data.toList))/\ay w.heap.size w w':=by
 unfold bc at r
 go_enter Tryz.func198,Tryz.ntmps198
 go_wp2_with fail
 go_loopw [8] (fun i wr=>∃k:Nat,k<=s.size/\i=ab ae k/\fc dw (s.data.toList.take k)=true/\ay w.heap.size w wr) (fun i _=>s.size-(intOf i).toNat)
 case atStart=>exact ⟨0,bj _,rfl,rfl,ak _ _⟩
 case round=>
  obtain ⟨k,y,rfl,o,b⟩:=hrel
  have h:=zq o
  clear o
  have x:=b.size
  by_cases g:k<s.size
  ·have t:=jU s k g
   have u:=jj s.data.toList k
   have v:=jG s.data.toList k
   have q:=zq (sP dw s.data.toList k (by simpa using g))
   have p:=zq (yg dw s.data.toList k (by simpa using g))
   cases hq:dw (ie s.data.toList k)
   all_goals
    have f:=zq hq
    clear hq
    generalize ie s.data.toList k=c at *
    go_wp2_with fail
    refine (tf (w0:=w) b (wW _ _ (by assumption) (by assumption))).mono ?_;rintro e z ⟨rfl,n⟩;rw [f.out]
    go_wp2_with fail
   ·go_ret
    exact ⟨bC (by unfold qp;rw [p.out f.out];rfl),n⟩
   ·go_roundw
    case rel=>exact ⟨k+1,by omega,by go_num,by rw [q.out,h.out,f.out];rfl,n⟩
    case measure=>simp [intOf];omega
  ·have j:=zq (show fc dw s.data.toList=true by have:=h.out;rwa [bg (by simp;omega)] at this)
   by_cases a:s.size=0
   ·have l:=(iY s a).1
    have m:s.toList.isEmpty=true:=by rw [l];rfl
    have d:=zq (iY s a).2
    clear a
    go_wp2_with fail
    go_ret
    exact ⟨bC (by unfold qp;rw [j.out,d.out];rfl),b⟩
   ·have l:=rB s (by omega)
    have m:=mI s (by omega)
    have d:=zq (show s.data.toList.isEmpty=false by rw [<-iC];exact m)
    clear a
    go_wp2_with fail
    go_ret
    exact ⟨bC (by unfold qp;rw [j.out,d.out];rfl),b⟩
theorem rH (s:ByteArray) (w:aj) (r:s.size<=bc) :
  aG ah 198 #[aa s,.func (.func 96) #[] #[]] w fun e w'=>e=av (an (qp db s.data.toList))/\ay w.heap.size w w':=by
 unfold bc at r
 go_enter Tryz.func198,Tryz.ntmps198
 go_wp2_with fail
 go_loopw [8] (fun i wr=>∃k:Nat,k<=s.size/\i=ab ae k/\fc db (s.data.toList.take k)=true/\ay w.heap.size w wr) (fun i _=>s.size-(intOf i).toNat)
 case atStart=>exact ⟨0,bj _,rfl,rfl,ak _ _⟩
 case round=>
  obtain ⟨k,y,rfl,o,b⟩:=hrel
  have h:=zq o
  clear o
  have x:=b.size
  by_cases g:k<s.size
  ·have t:=jU s k g
   have u:=jj s.data.toList k
   have v:=jG s.data.toList k
   have q:=zq (sP db s.data.toList k (by simpa using g))
   have p:=zq (yg db s.data.toList k (by simpa using g))
   cases hq:db (ie s.data.toList k)
   all_goals
    have f:=zq hq
    clear hq
    generalize ie s.data.toList k=c at *
    go_wp2_with fail
    refine (tf (w0:=w) b (tU _ _ (by assumption) (by assumption))).mono ?_;rintro e z ⟨rfl,n⟩;rw [f.out]
    go_wp2_with fail
   ·go_ret
    exact ⟨bC (by unfold qp;rw [p.out f.out];rfl),n⟩
   ·go_roundw
    case rel=>exact ⟨k+1,by omega,by go_num,by rw [q.out,h.out,f.out];rfl,n⟩
    case measure=>simp [intOf];omega
  ·have j:=zq (show fc db s.data.toList=true by have:=h.out;rwa [bg (by simp;omega)] at this)
   by_cases a:s.size=0
   ·have l:=(iY s a).1
    have m:s.toList.isEmpty=true:=by rw [l];rfl
    have d:=zq (iY s a).2
    clear a
    go_wp2_with fail
    go_ret
    exact ⟨bC (by unfold qp;rw [j.out,d.out];rfl),b⟩
   ·have l:=rB s (by omega)
    have m:=mI s (by omega)
    have d:=zq (show s.data.toList.isEmpty=false by rw [<-iC];exact m)
    clear a
    go_wp2_with fail
    go_ret
    exact ⟨bC (by unfold qp;rw [j.out,d.out];rfl),b⟩
def kM (s:List UInt8):Bool:=decide (s=[91,93])||(decide (s=[123,125])||(decide (s=[33])||decide (s=[59])))
theorem BD (s:ByteArray) (b:Nat) (w:aj) (c:w.cell? ⟨b,0,none⟩=some (aa s)) :
  aG ah 196 #[ax (some ⟨b,0,none⟩)] w fun e w'=>e=av (an (kM s.data.toList))/\ay w.heap.size w w':=by
 have a:=zq (iC s)
 go_enter Tryz.func196,Tryz.ntmps196
 go_wp2_with fail
 all_goals
  go_ret
  exact ⟨bC (by unfold kM;rw [<-a.out];grind),ak _ _⟩
def kL (s:List UInt8):Bool:=qp dw s&&cls (ie s 0)==2
theorem BC (s:ByteArray) (b:Nat) (w:aj) (m:w.cell? ⟨b,0,none⟩=some (aa s)) (l:b<w.heap.size) (g:s.size<=bc) :
  aG ah 197 #[ax (some ⟨b,0,none⟩)] w fun e w'=>e=av (an (kL s.data.toList))/\ay w.heap.size w w':=by
 cases ha:qp dw s.data.toList
 ·have a:=zq ha
  clear ha
  go_enter Tryz.func197,Tryz.ntmps197
  go_wp2_with fail
  refine (oR _ _ g).mono ?_;rintro e n ⟨rfl,d⟩;rw [a.out]
  go_wp2_with fail
  go_ret
  exact ⟨bC (by unfold kL;rw [a.out];rfl),d⟩
 ·have j:0<s.size:=by
   rcases Nat.eq_zero_or_pos s.size with h | h
   ·rw [(iY s h).2] at ha;cases ha
   ·exact h
  have a:=zq ha
  clear ha
  have r:=jU s 0 j
  have q:=jG s.data.toList 0
  have o:=jj s.data.toList 0
  generalize f:ie s.data.toList 0=c at *
  have i:=zq f
  clear f
  go_enter Tryz.func197,Tryz.ntmps197
  go_wp2_with fail
  refine (oR _ _ g).mono ?_;rintro e n ⟨rfl,d⟩;rw [a.out]
  have t:=(d.cell (p:=⟨b,0,none⟩) l).trans m
  go_wp2_with fail
  refine (tf (w0:=w) d (cK _ _)).mono ?_;rintro e u ⟨rfl,k⟩
  go_wp2_with fail
  go_ret
  exact ⟨bC (by unfold kL;rw [a.out,i.out];rfl),k⟩
def lp (s:List UInt8):Bool:=qp db s&&(!decide (s=[46]) && !Lib.hasPrefix s [47,42])
theorem BB (s:ByteArray) (b:Nat) (w:aj) (h:w.cell? ⟨b,0,none⟩=some (aa s)) (g:b<w.heap.size) (d:s.size<=bc) :
  aG ah 199 #[ax (some ⟨b,0,none⟩)] w fun e w'=>e=av (an (lp s.data.toList))/\ay w.heap.size w w':=by
 have f:=zq (iC s)
 cases ha:qp db s.data.toList
 ·have a:=zq ha
  clear ha
  go_enter Tryz.func199,Tryz.ntmps199
  go_wp2_with fail
  refine (rH _ _ d).mono ?_;rintro e i ⟨rfl,c⟩;rw [a.out]
  go_wp2_with fail
  go_ret
  exact ⟨bC (by unfold lp;rw [a.out];rfl),c⟩
 ·have a:=zq ha
  clear ha
  go_enter Tryz.func199,Tryz.ntmps199
  go_wp2_with fail
  refine (rH _ _ d).mono ?_;rintro e i ⟨rfl,c⟩;rw [a.out]
  have j:=(c.cell (p:=⟨b,0,none⟩) g).trans h
  go_wp2_with (go_at_call 200;refine (Tryz.strings_HasPrefix _ _ _).mono ?_;rintro e k ⟨rfl,rfl⟩)
  all_goals
   go_ret
   exact ⟨bC (by unfold lp;rw [a.out,<-f.out];first | rfl | grind),c⟩
theorem Gd:∀n:Nat,n<256->(¬((n:Int)=92\/(n:Int)=39\/(n:Int)=34\/(n:Int)=96))->Bl n=if dM letters n.toUInt8<0 then none else some (7+dM letters n.toUInt8):=by decide +kernel
theorem Dt (c:Int) (h:iP c=true) (b:¬(c=92\/c=39\/c=34\/c=96)):Bl c=if dM letters c.toNat.toUInt8<0 then none else some (7+dM letters c.toNat.toUInt8):=by
 obtain ⟨a,d⟩:=(kc c).1 h
 obtain ⟨n,rfl⟩:=bA a
 exact Gd n (by omega) b
def Jz (c:Int):Int:=dM letters c.toNat.toUInt8
theorem Jy:∀n:Nat,n<256->Lib.indexByte letters n.toUInt8<=6:=by decide +kernel
theorem kR (c:Int) (w:aj) :
  aG ah 178 #[ab ae c] w fun e w'=>e=av (aF #[ab ae (ts c),an (kX c)])/\w=w':=by
 by_cases b:c=92\/c=39\/c=34\/c=96
 ·have a:=zq (show Bl c=some c by unfold Bl;rw [if_pos b])
  go_enter Tryz.func178,Tryz.ntmps178
  go_wp2
  all_goals (first | (exfalso;grind) | (go_ret2;exact ⟨uX (by unfold ts;rw [a.out];rfl) (by unfold kX;rw [a.out];rfl),rfl⟩))
 ·have j:(c==92)=false:=by grind
  have k:(c==39)=false:=by grind
  have l:(c==34)=false:=by grind
  have m:(c==96)=false:=by grind
  cases hc:iP c
  ·have a:=zq (show Bl c=none by have:=kc c;unfold Bl;grind)
   have d:=zq b
   clear b
   go_enter Tryz.func178,Tryz.ntmps178
   go_wp2_with (first | (go_at_call 102;refine (jF _ _).mono ?_;rintro e w' ⟨rfl,rfl⟩))
   go_ret2
   exact ⟨uX (by unfold ts;rw [a.out];rfl) (by unfold kX;rw [a.out];rfl),rfl⟩
  ·have a:=zq (Dt c hc b)
   obtain ⟨f,g⟩:=(kc c).1 hc
   have h:-1<=Jz c:=Lib.indexByte_ge _ _
   have i:Jz c<=6:=by
    obtain ⟨n,rfl⟩:=bA f
    exact Jy n (by omega)
   have d:=zq b
   clear b
   go_enter Tryz.func178,Tryz.ntmps178
   go_wp2_with (first | (go_at_call 102;refine (jF _ _).mono ?_;rintro e w' ⟨rfl,rfl⟩) | (go_at_call 143;refine (kY _ _ _).mono ?_;rintro e w' ⟨rfl,rfl⟩;rw [show dM (ByteArray.mk #[97,98,116,110,118,102,114]).data.toList c.toNat.toUInt8=Jz c from rfl]))
   all_goals
    go_ret2
    exact ⟨uX (by unfold ts;rw [a.out];show _=(if Jz c<0 then none else some (7+Jz c)).getD 0;grind) (by unfold kX;rw [a.out];show _=(if Jz c<0 then none else some (7+Jz c)).isSome;grind),rfl⟩
theorem Lk (w:aj) (a:w.cell? ⟨3,15,none⟩=some (ab .u8 4)) :
  aG ah 213 #[ab .u64 16] w fun e w'=>e=av (ab ae 4)/\w=w':=by
 have b:IntKind.u64.wrap (bits BinOp.and IntKind.u64 16 (IntKind.u64.wrap (-16)) * 285870213051353865) / 288230376151711744=15:=by decide +kernel
 go_enter Tryz.func213,Tryz.ntmps213
 go_wp2
 go_ret
 exact ⟨rfl,rfl⟩
theorem tz (w:aj) (a:w.cell? ⟨3,15,none⟩=some (ab .u8 4)) :
  aG ah 195 #[ab .u64 16] w fun e w'=>e=av (ab ae 4)/\w=w':=by
 go_enter Tryz.func195,Tryz.ntmps195
 go_wp2_with fail
 refine (Lk _ a).mono ?_;rintro e b ⟨rfl,rfl⟩
 go_wp2_with fail
 go_ret
 exact ⟨rfl,rfl⟩
theorem KB (w:aj) :
  aG ah 194 #[ab ae 16] w fun e w'=>e=av (an true)/\w=w':=by
 have a:bits BinOp.and IntKind.i64 16 15=0:=by decide +kernel
 go_enter Tryz.func194,Tryz.ntmps194
 go_wp2_with fail
 go_ret
 exact ⟨rfl,rfl⟩
theorem Ie (W:aj) (b a:Nat) (x:UInt8) (h:W.cell? ⟨b,a,none⟩=some (ab .u8 (x.toNat:Int))) :
  (convert 75 9 (.slice (some ⟨b,a,none⟩) 1 1)).run ah W=.ok (aa ⟨#[x]⟩) W:=by
 refine ii W 75 9 5 ⟨b,a,none⟩ 1 [x] bU dA ci fun j c=>?_
 have:j=0:=by simp at c;omega
 subst this
 simpa [Addr.add] using h
theorem Ic (W:aj) (b a:Nat) (x y:UInt8) (h:W.cell? ⟨b,a,none⟩=some (ab .u8 (x.toNat:Int))) (c:W.cell? ⟨b,a+1,none⟩=some (ab .u8 (y.toNat:Int))) :
  (convert 75 9 (.slice (some ⟨b,a,none⟩) 2 2)).run ah W=.ok (aa ⟨#[x,y]⟩) W:=by
 refine ii W 75 9 5 ⟨b,a,none⟩ 2 [x,y] bU dA ci fun j d=>?_
 match j,d with
 | 0,_=>simpa [Addr.add] using h
 | 1,_=>simpa [Addr.add] using c
theorem zW:∀n:Nat,n<16->∀h:n<(ByteArray.mk #[48,49,50,51,52,53,54,55,56,57,97,98,99,100,101,102,103,104,105,106,107,108,109,110,111,112,113,114,115,116,117,118,119,120,121,122]).size,((ByteArray.mk #[48,49,50,51,52,53,54,55,56,57,97,98,99,100,101,102,103,104,105,106,107,108,109,110,111,112,113,114,115,116,117,118,119,120,121,122])[n]'h).toNat=(mm n).toNat:=by decide +kernel
theorem KU:∀n:Nat,n<256->bits BinOp.and IntKind.u64 (n:Int) 15=((n % 16:Nat):Int):=by decide +kernel
theorem zQ (c:Int) (w:aj) (f:0<=c) (g:c<16) (a:w.cell? ⟨3,15,none⟩=some (ab .u8 4)) (b:3<w.heap.size) :
  aG ah 166 #[.slice none 0 0,ab .u64 c,ab ae 16,an false,an false] w fun e w'=>e=av (aF #[.slice none 0 0,aa ⟨#[mm c.toNat]⟩])/\ay w.heap.size w w':=by
 have h:decide ((16:Int)<=c)=false:=by simp;omega
 go_enter Tryz.func166,Tryz.ntmps166
 go_wp2_with fail
 refine (KB _).mono ?_;rintro e d ⟨rfl,rfl⟩
 go_wp2_with fail
 refine (tz _ ?_).mono ?_
 ·rw [World.cell?_alloc_lt _ _ _ (by simpa using b)];exact a
 rintro e d ⟨rfl,rfl⟩
 go_wp2_with fail
 refine wp_loop_rounds 1 ?_
 rw [gU]
 go_wp2_with fail
 rw [Ie _ _ _ (mm c.toNat) (by
  rw [aq,zW _ (by omega)]
  simp)]
 simp only [Result.andThen]
 rw [Oper.upon_value]
 go_wp2_with fail
 go_ret2
 exact ⟨rfl,(ak _ _).alloc (ag _) _⟩
theorem zR (c:Int) (w:aj) (m:16<=c) (o:c<=255) (g:w.cell? ⟨3,15,none⟩=some (ab .u8 4)) (h:3<w.heap.size) :
  aG ah 166 #[.slice none 0 0,ab .u64 c,ab ae 16,an false,an false] w fun e w'=>e=av (aF #[.slice none 0 0,aa ⟨#[mm (c.toNat / 16),mm (c.toNat % 16)]⟩])/\ay w.heap.size w w':=by
 have r:decide ((16:Int)<=c)=true:=by simp;omega
 obtain ⟨n,rfl⟩:=bA (show 0<=c by omega)
 have p:=KU n (by omega)
 have b:=zq (show n % 16<16 from Nat.mod_lt _ (by decide))
 have i:=b.out
 generalize hd:n % 16=d at *
 have Hd:=zq hd
 clear hd
 have t:(n:Int) / 16=((n / 16:Nat):Int):=by omega
 have j:n / 16<16:=by omega
 have s:decide ((16:Int)<=((n / 16:Nat):Int))=false:=by simp;omega
 generalize a:n / 16=q at *
 have f:=zq a
 clear a
 go_enter Tryz.func166,Tryz.ntmps166
 go_wp2_with fail
 refine (KB _).mono ?_;rintro e k ⟨rfl,rfl⟩
 go_wp2_with fail
 refine (tz _ ?_).mono ?_
 ·rw [World.cell?_alloc_lt _ _ _ (by simpa using h)];exact g
 rintro e k ⟨rfl,rfl⟩
 go_wp2_with fail
 refine wp_loop_rounds 2 ?_
 iterate 2
  rw [gU]
  go_wp2_with fail
 rw [Ic _ _ _ (mm q) (mm d) (by
  rw [aq,zW q j]
  simp) (by
  rw [aq,zW d i]
  simp)]
 simp only [Result.andThen]
 rw [Oper.upon_value]
 go_wp2_with fail
 go_ret2
 exact ⟨uV (congrArg (fun l:Array UInt8=>Value.tuple #[.slice none 0 0,aa ⟨l⟩]) (by rw [Int.toNat_natCast,f.out,Hd.out])),(ak _ _).alloc (ag _) _⟩
def vN (c:Int):List UInt8:=if 16<=c then [mm (c.toNat / 16),mm (c.toNat % 16)] else [mm c.toNat]
theorem Ht (c:Int) (w:aj) (d:0<=c) (f:c<=255) (a:w.cell? ⟨3,15,none⟩=some (ab .u8 4)) (b:3<w.heap.size) :
  aG ah 166 #[.slice none 0 0,ab .u64 c,ab ae 16,an false,an false] w fun e w'=>e=av (aF #[.slice none 0 0,aa ⟨(vN c).toArray⟩])/\ay w.heap.size w w':=by
 unfold vN
 by_cases h:16<=c
 ·rw [if_pos h];exact zR c w h f a b
 ·rw [if_neg h];exact zQ c w d (by omega) a b
theorem Cv (c:Int) (w:aj) (a:0<=c) (b:c<=255) (f:w.cell? ⟨3,15,none⟩=some (ab .u8 4)) (g:3<w.heap.size) :
  aG ah 117 #[ab ae c,ab ae 16] w fun e w'=>e=av (aa ⟨(vN c).toArray⟩)/\ay w.heap.size w w':=by
 have h:decide (c<0)=false:=by simp;omega
 go_enter Tryz.func117,Tryz.ntmps117
 go_wp2_with fail
 refine (Ht c _ a b f g).mono ?_;rintro e i ⟨rfl,d⟩
 go_wp2_with fail
 go_ret
 exact ⟨rfl,d⟩
theorem KP (c:Int) (w:aj) (a:0<=c) (b:c<=255) (f:w.cell? ⟨3,15,none⟩=some (ab .u8 4)) (g:3<w.heap.size) :
  aG ah 81 #[ab ae c,ab ae 16] w fun e w'=>e=av (aa ⟨(vN c).toArray⟩)/\ay w.heap.size w w':=by
 go_enter Tryz.func81,Tryz.ntmps81
 go_wp2_with fail
 refine (Cv c _ a b f g).mono ?_;rintro e h ⟨rfl,d⟩
 go_wp2_with fail
 go_ret
 exact ⟨rfl,d⟩
end Go.Proofs.YtgapnafkelokaaaGreatDoor
