/- Parts of the proof. -/
import Derived.Test.YtpokpgkjaifccaaGreatDoorRRH01
import Derived.Test.YtpokpgkjaifccaaGreatDoorRRH24
import Derived.Test.YtpokpgkjaifccaaGreatDoorRRH09
import Derived.Lib.ItoaLen
import Derived.Test.YtpokpgkjaifccaaGreatDoorRRH18
import Derived.Maps.OwnSet
import Derived.Maps.Views
import Derived.StringKeys
import Derived.Carry
import Derived.Test.YtpokpgkjaifccaaGreatDoorRRH12
namespace Hb
open Go Go.RowKit
theorem bl_growA (w:World) (n:Nat) (os:Array Obj):Below w.heap.size w (Sort.grow (w.drewN n) os) :=
 ⟨rfl,rfl,rfl,by show w.heap.size≤(w.heap++os).size;simp,fun k hk=>by show (w.heap++os)[k]? = _;rw [Array.getElem?_append_left hk]⟩
def fmA (n:Int):ByteArray:=⟨(Lib.itoa n).toArray⟩
def I64 (n:Int):Prop:=-9223372036854775808≤n∧n≤9223372036854775807
def elN (codes:Bool) (x:Tm):Option Tm:=if x.kind=0 then none else elE codes x
def nonV (l:List Tm):List Tm:=l.filter fun x=>!(x.kind==0)
theorem anyV_snoc (l:List Tm) (k:Nat) (h:k<l.length):anyVar (l.take (k+1))=(anyVar (l.take k)||(l[k].kind==0)):=by
 unfold anyVar
 rw [List.take_succ_eq_append_getElem h,List.any_append];simp
theorem nonV_snoc (l:List Tm) (k:Nat) (h:k<l.length):nonV (l.take (k+1))=nonV (l.take k)++(if (l[k].kind==0)=true then [] else [l[k]]):=by
 unfold nonV
 rw [List.take_succ_eq_append_getElem h,List.filter_append]
 congr 1
 cases hh:(l[k].kind==0) <;> simp [hh]
theorem nonV_all {l:List Tm} (h:anyVar l=false):nonV l=l:=by
 unfold nonV
 refine List.filter_eq_self.2 fun x hx=>?_
 unfold anyVar at h
 rw [List.any_eq_false] at h
 have:=h x hx
 simpa using this
end Hb
namespace Go.Proofs.YtpokpgkjaifccaaGreatDoorRR
open Go.RowKit Hb Go.Shelf
set_option maxRecDepth 100000
set_option linter.unusedSimpArgs false
def numA (codes:Bool) (t u:Tm):RA:=if badN t=true then .ball (btT sNumber t) else if badL (tailT u)=true then .ball (btT sList u) else
 orB ((elemsT u).findSome? (elN codes)) (if ((tailT u).kind==0||anyVar (elemsT u))=true then (if (t.kind==0)=true then .ball biT else .ok [[t,textT codes (fmA t.num).data.toList]])
  else match integerA ⟨(elsV codes (elemsT u)).toArray⟩ with | .inl b=>.ball b | .inr k=>.ok [[intT k,u]])
theorem i_text (n:Int) (h:I64 n) (w:World) (hD:DoorOk w):Calls Tryz.prog 83 #[.int .i64 n] w fun e w'=>e=.returned (.string (fmA n))∧Below w.heap.size w w':=by
 have HF:Hid (∀W,Below w.heap.size w W→Calls Tryz.prog 22 #[.int .i64 n,.int .i64 10] W fun e w'=>e=.returned (.string (fmA n))∧Below W.heap.size W w'):=zq fun W hW=>
  (Tryz.strconv_FormatInt_10 n h.1 h.2 W (hD.below hW).pow).mono fun _ _ ⟨he,k,os,hw⟩=>⟨he,by rw [hw];exact bl_growA W k os⟩
 clear h hD
 go_enter Tryz.func83,Tryz.ntmps83
 go_wp2_with fail
 refine (HF.out _ (Below.refl _ _)).mono ?_;rintro e w1 ⟨rfl,hB1⟩
 go_wp2_with fail
 go_ret
 exact ⟨rfl,hB1⟩
set_option maxHeartbeats 12800000 in
theorem a_numberedG (co:Bool) (fe fc:Nat) (hen:∀(args:Array Value) (W:World),(callFunc fc args).run Tryz.prog W=.ok (.enter fc args) W) (hch:∀(x:Tm) xa xc X,validT x=true→TmsAt X.heap.size X xa x.args→Calls Tryz.prog fc #[tmV x xa xc] X fun e w'=>Below X.heap.size X w'∧ElR (elE co x) (elV co x) X w' e) (hwl:∀(s:ByteArray) (w:World),s.size≤900→Calls Tryz.prog 73 #[.agg #[.func (.func fe) #[] #[],.func (.func fc) #[] #[]],.string s] w fun e w'=>∃A c,e=.returned (tmV (textT co s.data.toList) A c)∧Below w.heap.size w w'∧NewT w w' A (textT co s.data.toList).args) (b off cap:Nat) (t u:Tm) (A U:Option Addr) (c d:Nat) (w:World) (hnum:I64 t.num) (hD:DoorOk w) (hu:validT u=true) (hA:ArgsAt w b off [(t,A,c),(u,U,d)]) :
  Calls Tryz.prog 46 #[.slice (some ⟨b,off,none⟩) 2 cap,.agg #[.func (.func fe) #[] #[],.func (.func fc) #[] #[]]] w fun e w'=>Below w.heap.size w w'∧RAns w' e (numA co t u):=by
 have HCC:=zq hch
 have HWW:=zq hwl
 clear hch hwl
 have HLI:Hid (∀W,ArgsAt W b off [(t,A,c),(u,U,d)]→Calls Tryz.prog 71 #[tmV u U d] W fun e w'=>Below W.heap.size W w'∧LisR u w' e):=zq fun W h=>a_listed u U d W hu (h.s (u,U,d) (by simp))
 have HVT:Hid (∀W,Calls Tryz.prog 64 #[tmV t A c] W fun e w'=>e=.returned (.bool (t.kind==0))∧Below W.heap.size W w'):=zq fun W=>a_isVar t A c W
 have HIT:Hid (∀W,Calls Tryz.prog 80 #[tmV t A c] W fun e w'=>e=.returned (.bool (t.kind==1))∧Below W.heap.size W w'):=zq fun W=>a_isInt t A c W
 have HIN:=zq (fun W=>b_inst W)
 have HTH:=zq (fun Q A c W h=>a_throw Q A c W h)
 have HTI2:=zq (fun n W=>t_int n W)
 obtain ⟨Q2,HQ2⟩:=lz (btT sNumber t)
 have HTY:Hid (∀X,Below w.heap.size w X→Calls Tryz.prog 79 #[.string ⟨#[110,117,109,98,101,114]⟩,tmV t A c] X fun e w'=>∃A' c',e=.returned (tmV Q2 A' c')∧Below X.heap.size X w'∧NewT X w' A' Q2.args):=zq fun X hX=>by
  rw [HQ2.out];exact b_type ⟨#[110,117,109,98,101,114]⟩ t A c X (by decide) (((hA.s (t,A,c) (by simp)).keep hX).mono hX.size)
 obtain ⟨T,HTT⟩:=lz (textT co (fmA t.num).data.toList)
 have HTX:Hid (∀X,Below w.heap.size w X→Calls Tryz.prog 83 #[.int .i64 t.num] X fun e w'=>e=.returned (.string (fmA t.num))∧Below X.heap.size X w'):=zq fun X hX=>i_text t.num hnum X (hD.below hX)
 have HWL:Hid (∀W,Calls Tryz.prog 73 #[.agg #[.func (.func fe) #[] #[],.func (.func fc) #[] #[]],.string (fmA t.num)] W fun e w'=>∃a c,e=.returned (tmV T a c)∧Below W.heap.size W w'∧NewT W w' a T.args):=zq fun W=>by rw [HTT.out];exact HWW.out (fmA t.num) W (by have:=Lib.itoa_length_le t.num hnum.1 hnum.2;show (Lib.itoa t.num).toArray.size≤900;simp;omega)
 have HWI:Hid (∀X qa qc g,ArgsAt X b off [(t,A,c),(u,U,d)]→Bk X g [.int .i64 T.kind,.int .i64 T.num,.string T.name,.slice qa T.args.length qc]→TmsAt X.heap.size X qa T.args→Calls Tryz.prog 69 #[.slice (some ⟨b,off,none⟩) 2 cap,.int .i64 1,.slice (some ⟨g,0,none⟩) 1 1] X fun e w'=>Below X.heap.size X w'∧RAns w' e (.ok [[t,T]])):=zq fun X qa qc g h hb hx=>a_with1 b off cap 2 1 [(t,A,c),(u,U,d)] T qa qc g X rfl (by decide) (by decide) h hb hx
 have HW0:Hid (∀(k:Int) W,ArgsAt W b off [(t,A,c),(u,U,d)]→Calls Tryz.prog 69 #[.slice (some ⟨b,off,none⟩) 2 cap,.int .i64 0,.slice (some ⟨W.heap.size,0,none⟩) 1 1] (W.alloc (.cells #[.int .i64 1,.int .i64 k,.string ⟨#[]⟩,.slice none 0 0] 32)) fun e w'=>Below W.heap.size W w'∧RAns w' e (.ok [[intT k,u]])):=zq fun k W h=>a_withN b off cap 2 0 1 [(t,A,c),(u,U,d)] [(intT k,none,0)] W rfl (by decide) rfl (by decide) (by decide) h (fun r hr=>by rw [List.mem_singleton] at hr;subst hr;exact TmsK.nil)
 obtain ⟨l,HLL⟩:=lz (elemsT u)
 obtain ⟨n,HNN⟩:=lz (l.length)
 have hn2:n≤2000:=by
  have h1:=elemsT_len u;have h2:=((validT_iff u).1 hu).1
  rw [HNN.out,HLL.out];omega
 have HVL:Hid (∀x∈l,validT x=true):=zq (by rw [HLL.out];exact elems_valid _ u (Nat.le_refl _) hu)
 obtain ⟨sx,HSX⟩:=lz (α:=ByteArray) (⟨(elsV co l).toArray⟩)
 have HIG:Hid (∀W,Calls Tryz.prog 82 #[.string sx] W fun e w'=>Below W.heap.size W w'∧IntOut w' e (integerA sx)):=zq fun W=>a_integer sx W (by
  rw [HSX.out];show (elsV co l).toArray.size≤_;unfold elsV;simp;have:=HNN.out;unfold maxLen;omega)
 obtain ⟨lb,HBL⟩:=lz (badL (tailT u))
 obtain ⟨lv,HLV⟩:=lz (((tailT u).kind==0))
 obtain ⟨tv,HTV⟩:=lz ((t.kind==0))
 obtain ⟨ti,HTI⟩:=lz ((t.kind==1))
 have HBN:Hid (badN t=(!tv && !ti)):=zq (by rw [HTV.out,HTI.out];rfl)
 obtain ⟨Q1,HQ1⟩:=lz (btT sList u)
 obtain ⟨LA,HLA⟩:=lz (numA co t u)
 have HL:Hid (LA=if badN t=true then .ball Q2 else if lb=true then .ball Q1 else orB (l.findSome? (elN co)) (if (lv||anyVar l)=true then (if tv=true then .ball biT else .ok [[t,T]])
  else match integerA sx with | .inl b=>.ball b | .inr k=>.ok [[intT k,u]])):=zq (by rw [HLA.out,HBL.out,HLV.out,HTV.out,HQ1.out,HQ2.out,HLL.out,HTT.out,HSX.out,HLL.out];rfl)
 have HLI2:Hid (∀W,ArgsAt W b off [(t,A,c),(u,U,d)]→Calls Tryz.prog 71 #[tmV u U d] W fun e w'=>Below W.heap.size W w'∧((lb=true∧Thr w' Q1 e)∨(lb=false∧∃a c,e=.returned (.tuple #[.slice a n c,.bool lv])∧TmsAt w'.heap.size w' a l))):=zq fun W h=>(HLI.out W h).mono fun e w' hh=>by
  unfold LisR at hh
  rw [←HBL.out,←HLV.out,←HQ1.out,←HLL.out,←HNN.out] at hh
  exact hh
 rw [←HTV.out] at HVT
 rw [←HTI.out] at HIT
 rw [←HLA.out]
 have HB0:Hid (Below w.heap.size w (w.alloc (.cells #[.func (.func fe) #[] #[],.func (.func fc) #[] #[]] 67))):=zq ((Below.refl w.heap.size w).alloc (Nat.le_refl _) _)
 have HW_0:Hid (Bk (w.alloc (.cells #[.func (.func fe) #[] #[],.func (.func fc) #[] #[]] 67)) w.heap.size [.func (.func fe) #[] #[],.func (.func fc) #[] #[]]):=zq (Bk.new w [.func (.func fe) #[] #[],.func (.func fc) #[] #[]] 67)
 have HA_0:Hid (ArgsAt (w.alloc (.cells #[.func (.func fe) #[] #[],.func (.func fc) #[] #[]] 67)) b off [(t,A,c),(u,U,d)]):=zq (hA.keep ((Below.refl w.heap.size w).alloc (Nat.le_refl _) _))
 clear hA hu hnum hD HLI HLL HBL HLV HTV HTI HQ1 HQ2 HLA HTT
 unfold tmV at *
 go_enter Tryz.func46,Tryz.ntmps46
 obtain ⟨y0,HY0⟩:=lz (w.alloc (.cells #[.func (.func fe) #[] #[],.func (.func fc) #[] #[]] 67))
 rw [←HY0.out] at HB0 HW_0 HA_0
 go_upto_region 1 with fail
 rw [←HY0.out]
 clear HY0
 go_cut [24] from 13 to 23 (fun v wc=>v=.bool (badN t)∧Hid (Below w.heap.size w wc)∧Hid (Bk wc w.heap.size [.func (.func fe) #[] #[],.func (.func fc) #[] #[]])∧Hid (ArgsAt wc b off [(t,A,c),(u,U,d)]))
 case first=>
  have fHW_0:=HW_0.out.all0
  simp only [bkAll,Nat.zero_add,Nat.reduceAdd,and_true] at fHW_0
  have fHA_0:=HA_0.out.all
  simp only [rowsC,rowC,List.flatMap_cons,List.flatMap_nil,List.cons_append,List.nil_append,cellsAll,Nat.add_zero,Nat.zero_add,Nat.reduceAdd,and_true] at fHA_0
  go_wp2_with fail
  refine (HVT.out _).mono ?_;rintro e w1 ⟨rfl,hB⟩
  clear fHW_0 fHA_0
  have HB1_:=bz HB0 hB
  have HW_1:=zq (HW_0.out.call hB)
  have HA_1:=zq (HA_0.out.keep hB)
  clear hB HB0 HW_0 HA_0 
  have fHW_1:=HW_1.out.all0
  simp only [bkAll,Nat.zero_add,Nat.reduceAdd,and_true] at fHW_1
  have fHA_1:=HA_1.out.all
  simp only [rowsC,rowC,List.flatMap_cons,List.flatMap_nil,List.cons_append,List.nil_append,cellsAll,Nat.add_zero,Nat.zero_add,Nat.reduceAdd,and_true] at fHA_1
  cases tv
  ·skip
   go_wp2_with fail
   refine (HIT.out _).mono ?_;rintro e w2 ⟨rfl,hB⟩
   clear fHW_1 fHA_1
   have HB2_:=bz HB1_ hB
   have HW_2:=zq (HW_1.out.call hB)
   have HA_2:=zq (HA_1.out.keep hB)
   clear hB HB1_ HW_1 HA_1 
   have fHW_2:=HW_2.out.all0
   simp only [bkAll,Nat.zero_add,Nat.reduceAdd,and_true] at fHW_2
   have fHA_2:=HA_2.out.all
   simp only [rowsC,rowC,List.flatMap_cons,List.flatMap_nil,List.cons_append,List.nil_append,cellsAll,Nat.add_zero,Nat.zero_add,Nat.reduceAdd,and_true] at fHA_2
   cases ti
   ·skip
    go_wp2_with fail
    go_meet
    exact ⟨(congrArg Value.bool (by rw [HBN.out];rfl)),HB2_,HW_2,HA_2⟩
   ·skip
    go_wp2_with fail
    go_meet
    exact ⟨(congrArg Value.bool (by rw [HBN.out];rfl)),HB2_,HW_2,HA_2⟩
  ·skip
   go_wp2_with fail
   go_meet
   exact ⟨(congrArg Value.bool (by rw [HBN.out];rfl)),HB1_,HW_1,HA_1⟩
 case rest=>
  obtain ⟨rfl,HB_2,HW_2,HA_2⟩:=hcut
  clear HB0 HW_0 HA_0
  obtain ⟨y2,HYY⟩:=lz (wc)
  rw [←HYY.out] at HB_2 HW_2 HA_2 ⊢
  clear HYY
  obtain ⟨z,HZ⟩:=lz (badN t)
  rw [←HZ.out] at HL ⊢
  cases z
  ·skip
   have HL1:=zq (HL.out.trans (if_neg (by decide)))
   clear HL HTY HZ HBN HIT
   have fHW_2:=HW_2.out.all0
   simp only [bkAll,Nat.zero_add,Nat.reduceAdd,and_true] at fHW_2
   have fHA_2:=HA_2.out.all
   simp only [rowsC,rowC,List.flatMap_cons,List.flatMap_nil,List.cons_append,List.nil_append,cellsAll,Nat.add_zero,Nat.zero_add,Nat.reduceAdd,and_true] at fHA_2
   go_wp2_with fail
   refine (HLI2.out _ HA_2.out).mono ?_;rintro e w2 ⟨hB,(⟨hlb,⟨At,ct,rfl,hTt⟩⟩ | ⟨hlb,⟨a1,c1,rfl,hl⟩⟩)⟩
   ·subst hlb
    exact ⟨rfl,HB_2.out.trans (hB.mono HB_2.out.size),by rw [HL1.out,if_pos rfl];exact ⟨At,ct,rfl,hTt⟩⟩
   subst hlb
   have HL4:=zq (HL1.out.trans (if_neg (by decide)))
   have HM_2:=zq hl
   clear HL1 hl HLI2
   clear fHW_2 fHA_2
   have HB11_:=bz HB_2 hB
   have HW_11:=zq (HW_2.out.call hB)
   have HA_11:=zq (HA_2.out.keep hB)
   clear hB HB_2 HW_2 HA_2 
   have fHW_11:=HW_11.out.all0
   simp only [bkAll,Nat.zero_add,Nat.reduceAdd,and_true] at fHW_11
   have fHA_11:=HA_11.out.all
   simp only [rowsC,rowC,List.flatMap_cons,List.flatMap_nil,List.cons_append,List.nil_append,cellsAll,Nat.add_zero,Nat.zero_add,Nat.reduceAdd,and_true] at fHA_11
   have HOW:Hid (w2.ownsRow w2.heap.size 5 1 (.slice none 0 0) (nonV (l.take 0)).length (Hb.byteCells (elsV co (nonV (l.take 0))))):=zq (World.ownsRow_nil _ _ _ _)
   go_wp2_with fail
   obtain ⟨wl,HWLE⟩:=lz (w2)
   rw [←HWLE.out] at HOW HB11_ HW_11 HA_11 HM_2 ⊢
   have HBL:=HB11_
   clear HWLE
   go_loopw [6,7,39] (fun p v i wr=>∃k:Nat,k≤n∧i=.int .i64 k∧p=.bool (lv||anyVar (l.take k))∧Hid ((l.take k).findSome? (elN co)=none)∧Hid (wr.ownsRow wl.heap.size 5 1 v (nonV (l.take k)).length (Hb.byteCells (elsV co (nonV (l.take k)))))∧Hid (Below wl.heap.size wl wr)) (fun _ _ i _=>n-(intOf i).toNat)
   case atStart=>exact ⟨0,Nat.zero_le _,rfl,by simp [anyVar],zq rfl,HOW,zq (Below.refl _ _)⟩
   case round=>
    clear HOW
    obtain ⟨k,hk,rfl,rfl,HFS,HOW_0,HBR⟩:=hrel
    have HM_30:=zq ((HM_2.out.keep HBR.out).mono HBR.out.size)
    obtain ⟨rv,hrv⟩:∃v,v=u7:=⟨_,rfl⟩
    subst hrv
    by_cases hlt:k<n
    ·have hkl:k<l.length:=by rw [←HNN.out];exact hlt
     obtain ⟨b2,off2,xa,xc,hA',hb2,q0,q1,q2,q3,hsx⟩:=HM_30.out.get k hkl
     have hvx:=HVL.out _ (List.getElem_mem hkl)
     obtain ⟨x,HX⟩:=lz (l[k])
     have HAN:Hid (anyVar (l.take (k+1))=(anyVar (l.take k)||(x.kind==0))):=zq (by rw [HX.out];exact anyV_snoc l k hkl)
     have HNV:Hid (nonV (l.take (k+1))=nonV (l.take k)++(if (x.kind==0)=true then [] else [x])):=zq (by rw [HX.out];exact nonV_snoc l k hkl)
     rw [←HX.out] at q0 q1 q2 q3 hsx hvx
     cases hA'
     have HVX:Hid (∀X,Calls Tryz.prog 64 #[.agg #[.int .i64 x.kind,.int .i64 x.num,.string x.name,.slice xa x.args.length xc]] X fun e w'=>e=.returned (.bool (x.kind==0))∧Below X.heap.size X w'):=zq fun X=>a_isVar x xa xc X
     have HCH:Hid (∀X,Below wr.heap.size wr X→Calls Tryz.prog fc #[.agg #[.int .i64 x.kind,.int .i64 x.num,.string x.name,.slice xa x.args.length xc]] X fun e w'=>Below X.heap.size X w'∧ElR (elE co x) (elV co x) X w' e):=zq fun X hX=>HCC.out x xa xc X hvx ((hsx.keep hX).mono hX.size)
     have k0:(0:Int)≤(k:Int):=by omega
     have k1:(k:Int)<(n:Nat):=by omega
     have hw2:wrap64 ((k:Int)+1)=(k:Int)+1:=IntWalk.wrap64_in _ (by omega)
     have hz:=(Below.refl wr.heap.size wr).alloc (Nat.le_refl _) (.cells #[.int .i64 x.kind,.int .i64 x.num,.string x.name,.slice xa x.args.length xc] 32)
     obtain ⟨y1,HY1⟩:=lz (wr.alloc (.cells #[.int .i64 x.kind,.int .i64 x.num,.string x.name,.slice xa x.args.length xc] 32))
     have HX_40:Hid (Bk y1 wr.heap.size [.int .i64 x.kind,.int .i64 x.num,.string x.name,.slice xa x.args.length xc]):=zq (by rw [HY1.out];exact Bk.new wr [.int .i64 x.kind,.int .i64 x.num,.string x.name,.slice xa x.args.length xc] 32)
     have HR_40:Hid (Below wr.heap.size wr y1):=zq (by rw [HY1.out];exact hz)
     have HB_40:Hid (Below wl.heap.size wl y1):=zq (HBR.out.trans (HR_40.out.mono HBR.out.size))
     have HW_40:Hid (Bk y1 w.heap.size [.func (.func fe) #[] #[],.func (.func fc) #[] #[]]):=zq (HW_11.out.call HB_40.out)
     have hnl:(nonV (l.take k)).length≤2000:=by
      unfold nonV
      have h1:=List.length_filter_le (fun x:Tm=>!(x.kind==0)) (l.take k)
      rw [List.length_take] at h1
      omega
     clear hz hvx hsx HBR
     rcases Decidable.em (x.kind=0) with d0 | d0
     ·have d1:(x.kind==0)=true:=by simpa using d0
      rw [d1] at HVX HAN HNV
      have HFS2:Hid ((l.take (k+1)).findSome? (elN co)=none):=zq (none_at _ hkl HFS.out (by rw [←HX.out];exact if_pos d0))
      have HAN2:Hid (lv||anyVar (l.take (k+1))):=zq (by rw [HAN.out];simp)
      have HNV2:Hid (nonV (l.take (k+1))=nonV (l.take k)):=zq (by rw [HNV.out];simp)
      clear d0 d1 HX HFS HCH HAN HNV
      go_wp2_with fail
      rw [←HY1.out]
      clear HY1
      have fHX_40:=HX_40.out.all0
      simp only [bkAll,Nat.zero_add,Nat.reduceAdd,and_true] at fHX_40
      refine (HVX.out _).mono ?_;rintro e w41 ⟨rfl,hB⟩
      clear fHX_40
      have HB41_:=bz HB_40 hB
      have HX_41:=zq (HX_40.out.call hB)
      have HR_41:=bz HR_40 hB
      clear hB HB_40 HX_40 HR_40 
      have fHX_41:=HX_41.out.all0
      simp only [bkAll,Nat.zero_add,Nat.reduceAdd,and_true] at fHX_41
      have HOW_8:Hid (w41.ownsRow wl.heap.size 5 1 rv (nonV (l.take (k+1))).length (Hb.byteCells (elsV co (nonV (l.take (k+1)))))):=zq (by rw [HNV2.out];exact own_below HOW_0.out HR_41.out)
      go_wp2_with fail
      go_roundw
      case rel=>exact ⟨k+1,by omega,by go_num,congrArg Value.bool (by have:=HAN2.out;rw [this]),HFS2,HOW_8,HB41_⟩
      case measure=>simp [intOf] <;> omega
     ·have d1:(x.kind==0)=false:=by simpa using d0
      rw [d1] at HVX HAN HNV
      have HEN:Hid (elN co x=elE co x):=zq (if_neg d0)
      rcases hE:elE co x with _ | bb
      ·have HFS2:Hid ((l.take (k+1)).findSome? (elN co)=none):=zq (none_at _ hkl HFS.out (by rw [←HX.out,HEN.out];exact hE))
       obtain ⟨v,HVE⟩:=lz (elV co x)
       have hv0:0≤v∧v≤255:=by rw [HVE.out];exact el_range hE
       have HAN2:Hid ((lv||anyVar (l.take (k+1)))=(lv||anyVar (l.take k))):=zq (by rw [HAN.out];simp)
       have HTK:Hid (elsV co (nonV (l.take (k+1)))=elsV co (nonV (l.take k))++[v.toNat.toUInt8]):=zq (by rw [HNV.out,HVE.out];unfold elsV;simp)
       have HTN:Hid ((nonV (l.take (k+1))).length=(nonV (l.take k)).length+1):=zq (by rw [HNV.out];simp)
       rw [hE,←HVE.out] at HCH
       have HCH2:Hid (∀X,Below wr.heap.size wr X→Calls Tryz.prog fc #[.agg #[.int .i64 x.kind,.int .i64 x.num,.string x.name,.slice xa x.args.length xc]] X fun e w'=>Below X.heap.size X w'∧e=.returned (.tuple #[.int .i64 v,.agg #[.int .i64 0,.int .i64 0,.string ⟨#[]⟩,.slice none 0 0],.bool true])):=HCH
       have hw8:IntKind.u8.wrap v=v:=IntWalk.u8_in _ hv0
       clear HCH hE d0 d1 HEN HX HFS HVE HAN HNV
       go_wp2_with fail
       rw [←HY1.out]
       clear HY1
       have fHW_40:=HW_40.out.all0
       simp only [bkAll,Nat.zero_add,Nat.reduceAdd,and_true] at fHW_40
       have fHX_40:=HX_40.out.all0
       simp only [bkAll,Nat.zero_add,Nat.reduceAdd,and_true] at fHX_40
       refine (HVX.out _).mono ?_;rintro e w41 ⟨rfl,hB⟩
       clear fHW_40 fHX_40
       have HB41_:=bz HB_40 hB
       have HW_41:=zq (HW_40.out.call hB)
       have HX_41:=zq (HX_40.out.call hB)
       have HR_41:=bz HR_40 hB
       clear hB HB_40 HW_40 HX_40 HR_40 
       have fHW_41:=HW_41.out.all0
       simp only [bkAll,Nat.zero_add,Nat.reduceAdd,and_true] at fHW_41
       have fHX_41:=HX_41.out.all0
       simp only [bkAll,Nat.zero_add,Nat.reduceAdd,and_true] at fHX_41
       go_wp2_with fail
       refine (HCH2.out _ HR_41.out).mono ?_;rintro e w42 ⟨hB,rfl⟩
       clear fHW_41 fHX_41
       have HB42_:=bz HB41_ hB
       have HW_42:=zq (HW_41.out.call hB)
       have HX_42:=zq (HX_41.out.call hB)
       have HR_42:=bz HR_41 hB
       clear hB HB41_ HW_41 HX_41 HR_41 
       have fHW_42:=HW_42.out.all0
       simp only [bkAll,Nat.zero_add,Nat.reduceAdd,and_true] at fHW_42
       have fHX_42:=HX_42.out.all0
       simp only [bkAll,Nat.zero_add,Nat.reduceAdd,and_true] at fHX_42
       have hz2:=(Below.refl w42.heap.size w42).alloc (Nat.le_refl _) (.cells #[.int .i64 0,.int .i64 0,.string ⟨#[]⟩,.slice none 0 0] 32)
       obtain ⟨y3,HY3⟩:=lz (w42.alloc (.cells #[.int .i64 0,.int .i64 0,.string ⟨#[]⟩,.slice none 0 0] 32))
       have hB:Below w42.heap.size w42 y3:=by rw [HY3.out];exact hz2
       clear hz2
       clear fHW_42 fHX_42
       have HB43_:=bz HB42_ hB
       have HW_43:=zq (HW_42.out.call hB)
       have HX_43:=zq (HX_42.out.call hB)
       have HR_43:=bz HR_42 hB
       clear hB HB42_ HW_42 HX_42 HR_42 
       have fHW_43:=HW_43.out.all0
       simp only [bkAll,Nat.zero_add,Nat.reduceAdd,and_true] at fHW_43
       have fHX_43:=HX_43.out.all0
       simp only [bkAll,Nat.zero_add,Nat.reduceAdd,and_true] at fHX_43
       have HOW_9:=zq (own_below HOW_0.out HR_43.out)
       have hle:=HB43_.out.size
       clear HOW_0
       go_upto_region 13 with fail
       rw [←HY3.out]
       clear HY3
       go_wp2_with (at_builtin;go_must (refine wpList_append_byte rfl _ _ 44 5 rfl Tryz.underlying44 infoU8A wl.heap.size rv (nonV (l.take k)).length (elsV co (nonV (l.take k))) rfl y3 HOW_9.out v hv0.1 hv0.2 rfl rfl (by omega) (by omega) ?_;intro v9 w9 hown9 hb9))
       have HOW_8:Hid (w9.ownsRow wl.heap.size 5 1 v9 (nonV (l.take (k+1))).length (Hb.byteCells (elsV co (nonV (l.take (k+1)))))):=zq (by rw [HTK.out,HTN.out];exact hown9)
       have HBX:=zq (HB43_.out.trans hb9)
       clear hown9 hb9
       go_wp2_with fail
       go_roundw
       case rel=>exact ⟨k+1,by omega,by go_num,congrArg Value.bool HAN2.out.symm,HFS2,HOW_8,HBX⟩
       case measure=>simp [intOf] <;> omega
      ·have HE:Hid (LA=.ball bb):=zq (by rw [HL4.out,some_at _ hkl HFS.out (by rw [←HX.out,HEN.out];exact hE)];rfl)
       rw [hE] at HCH
       clear hE d0 d1 HEN HX HFS HL4 HOW_0 HM_30 HAN HNV HNN
       have HB_41:=zq (HBL.out.trans (HB_40.out.mono HBL.out.size))
       clear HB_40
       go_wp2_with fail
       rw [←HY1.out]
       clear HY1
       have fHW_40:=HW_40.out.all0
       simp only [bkAll,Nat.zero_add,Nat.reduceAdd,and_true] at fHW_40
       have fHX_40:=HX_40.out.all0
       simp only [bkAll,Nat.zero_add,Nat.reduceAdd,and_true] at fHX_40
       refine (HVX.out _).mono ?_;rintro e w61 ⟨rfl,hB⟩
       clear fHW_40 fHX_40
       have HB61_:=bz HB_41 hB
       have HW_61:=zq (HW_40.out.call hB)
       have HX_61:=zq (HX_40.out.call hB)
       have HR_61:=bz HR_40 hB
       clear hB HB_41 HW_40 HX_40 HR_40 
       have fHW_61:=HW_61.out.all0
       simp only [bkAll,Nat.zero_add,Nat.reduceAdd,and_true] at fHW_61
       have fHX_61:=HX_61.out.all0
       simp only [bkAll,Nat.zero_add,Nat.reduceAdd,and_true] at fHX_61
       go_wp2_with fail
       refine (HCH.out _ HR_61.out).mono ?_;rintro e w62 ⟨hB,⟨xb,xd,rfl,hN⟩⟩
       clear fHW_61 fHX_61
       have HB62_:=bz HB61_ hB
       have HW_62:=zq (HW_61.out.call hB)
       have HX_62:=zq (HX_61.out.call hB)
       have HR_62:=bz HR_61 hB
       clear hB HB61_ HW_61 HX_61 HR_61 
       have fHW_62:=HW_62.out.all0
       simp only [bkAll,Nat.zero_add,Nat.reduceAdd,and_true] at fHW_62
       have fHX_62:=HX_62.out.all0
       simp only [bkAll,Nat.zero_add,Nat.reduceAdd,and_true] at fHX_62
       have HN_9:=zq hN.tms
       clear hN
       unfold tmV
       go_wp2_with fail
       refine (HTH.out _ _ _ _ ((HN_9.out.keep ((Below.refl _ _).alloc (Nat.le_refl _) _)).mono (by simp))).mono ?_;rintro e wt ⟨hBt,⟨At,ct,rfl,hTt⟩⟩
       have hbz:=(HB62_.out.alloc HB62_.out.size (.cells #[.int .i64 bb.kind,.int .i64 bb.num,.string bb.name,.slice xb bb.args.length xd] 32))
       exact ⟨rfl,hbz.trans (hBt.mono hbz.size),by rw [HE.out];exact ⟨At,ct,rfl,hTt⟩⟩
    ·have hkn:k=n:=by omega
     subst hkn
     have hlk:l.take k=l:=List.take_of_length_le (by rw [←HNN.out];exact Nat.le_refl _)
     rw [hlk] at HFS HOW_0 ⊢
     have HL5:Hid (LA=if (lv||anyVar l)=true then (if tv=true then .ball biT else .ok [[t,T]]) else match integerA sx with | .inl b=>.ball b | .inr k=>.ok [[intT k,u]]):=zq (by rw [HL4.out,HFS.out];rfl)
     have HB_70:=zq (HBL.out.trans (HBR.out.mono HBL.out.size))
     have HA_70:=zq (HA_11.out.keep HBR.out)
     have HW_70:=zq (HW_11.out.call HBR.out)
     clear HL4 HFS HM_30 HBL HW_11 HA_11 HM_2 HVL HNN
     obtain ⟨op,HOP⟩:=lz ((lv||anyVar l))
     rw [←HOP.out] at HL5 ⊢
     cases op
     ·skip
      have hav:anyVar l=false:=by
       have:=HOP.out
       cases hl:anyVar l
       ·rfl
       ·rw [hl] at this;simp at this
      rw [nonV_all hav] at HOW_0
      have hc:=conv_own (P:=Tryz.prog) wr 44 9 5 Tryz.underlying44 Tryz.underlying5 Tryz.underlying9 _ _ _ _ HOW_0.out
      rw [←HSX.out] at hc
      have HL6:Hid (LA=match integerA sx with | .inl b=>.ball b | .inr k=>.ok [[intT k,u]]):=zq (by rw [HL5.out];rfl)
      clear HL5 hav HOP HOW_0 HTX HWL HWI HIN HSX
      generalize integerA sx=IA at *
      rcases IA with bb | kk
      ·have HE:Hid (LA=.ball bb):=HL6
       have fHA_70:=HA_70.out.all
       simp only [rowsC,rowC,List.flatMap_cons,List.flatMap_nil,List.cons_append,List.nil_append,cellsAll,Nat.add_zero,Nat.zero_add,Nat.reduceAdd,and_true] at fHA_70
       have fHW_70:=HW_70.out.all0
       simp only [bkAll,Nat.zero_add,Nat.reduceAdd,and_true] at fHW_70
       go_wp2_with fail
       refine (HIG.out _).mono ?_;rintro e wt ⟨hBt,⟨At,ct,rfl,hTt⟩⟩
       exact ⟨rfl,HB_70.out.trans (hBt.mono HB_70.out.size),by rw [HE.out];exact ⟨At,ct,rfl,hTt⟩⟩
      ·have HE:Hid (LA=.ok [[intT kk,u]]):=HL6
       have fHA_70:=HA_70.out.all
       simp only [rowsC,rowC,List.flatMap_cons,List.flatMap_nil,List.cons_append,List.nil_append,cellsAll,Nat.add_zero,Nat.zero_add,Nat.reduceAdd,and_true] at fHA_70
       have fHW_70:=HW_70.out.all0
       simp only [bkAll,Nat.zero_add,Nat.reduceAdd,and_true] at fHW_70
       go_wp2_with fail
       refine (HIG.out _).mono ?_;rintro e w81 ⟨hB,rfl⟩
       clear fHA_70 fHW_70
       have HB81_:=bz HB_70 hB
       have HA_81:=zq (HA_70.out.keep hB)
       have HW_81:=zq (HW_70.out.call hB)
       clear hB HB_70 HA_70 HW_70 
       have fHA_81:=HA_81.out.all
       simp only [rowsC,rowC,List.flatMap_cons,List.flatMap_nil,List.cons_append,List.nil_append,cellsAll,Nat.add_zero,Nat.zero_add,Nat.reduceAdd,and_true] at fHA_81
       have fHW_81:=HW_81.out.all0
       simp only [bkAll,Nat.zero_add,Nat.reduceAdd,and_true] at fHW_81
       go_wp2_with fail
       refine (HTI2.out _ _).mono ?_;rintro e w82 ⟨rfl,hB⟩
       clear fHA_81 fHW_81
       have HB82_:=bz HB81_ hB
       have HA_82:=zq (HA_81.out.keep hB)
       have HW_82:=zq (HW_81.out.call hB)
       clear hB HB81_ HA_81 HW_81 
       have fHA_82:=HA_82.out.all
       simp only [rowsC,rowC,List.flatMap_cons,List.flatMap_nil,List.cons_append,List.nil_append,cellsAll,Nat.add_zero,Nat.zero_add,Nat.reduceAdd,and_true] at fHA_82
       have fHW_82:=HW_82.out.all0
       simp only [bkAll,Nat.zero_add,Nat.reduceAdd,and_true] at fHW_82
       go_wp2_with fail
       refine (HW0.out _ _ HA_82.out).mono ?_;rintro e wz ⟨hBz,⟨A9,c9,rfl,hR9⟩⟩
       have HBZ:=bz HB82_ hBz
       have HRZ:=zq hR9
       clear hBz hR9
       go_wp2_with fail
       go_ret
       exact ⟨HBZ.out,by rw [HE.out];exact ⟨A9,c9,rfl,HRZ.out⟩⟩
     ·skip
      have HL6:Hid (LA=if tv=true then .ball biT else .ok [[t,T]]):=zq (by rw [HL5.out];rfl)
      clear HL5 HOP HOW_0 HIG HW0 HTI2 HSX
      have fHA_70:=HA_70.out.all
      simp only [rowsC,rowC,List.flatMap_cons,List.flatMap_nil,List.cons_append,List.nil_append,cellsAll,Nat.add_zero,Nat.zero_add,Nat.reduceAdd,and_true] at fHA_70
      have fHW_70:=HW_70.out.all0
      simp only [bkAll,Nat.zero_add,Nat.reduceAdd,and_true] at fHW_70
      go_wp2_with fail
      refine (HVT.out _).mono ?_;rintro e w81 ⟨rfl,hB⟩
      clear fHA_70 fHW_70
      have HB81_:=bz HB_70 hB
      have HA_81:=zq (HA_70.out.keep hB)
      have HW_81:=zq (HW_70.out.call hB)
      clear hB HB_70 HA_70 HW_70 
      have fHA_81:=HA_81.out.all
      simp only [rowsC,rowC,List.flatMap_cons,List.flatMap_nil,List.cons_append,List.nil_append,cellsAll,Nat.add_zero,Nat.zero_add,Nat.reduceAdd,and_true] at fHA_81
      have fHW_81:=HW_81.out.all0
      simp only [bkAll,Nat.zero_add,Nat.reduceAdd,and_true] at fHW_81
      cases tv
      ·skip
       have HE:Hid (LA=.ok [[t,T]]):=HL6
       clear HIN HTH
       go_wp2_with fail
       rename_i K9 hK9
       refine region_last (w0:=w81) [rPure [] [0] (fun | [v]=>v=.slice (some ⟨b,off,none⟩) 2 cap | _=>False),
         rVal [] [1] (fun | [v]=>v=.agg #[.func (.func fe) #[] #[],.func (.func fc) #[] #[]] | _=>False),
         rPure [] [2] (fun | [v]=>v=.slice (some ⟨b,off,none⟩) 2 cap | _=>False),
         rPure [2] [3] (fun | [v]=>v=.pointer (some ⟨b,off,none⟩) | _=>False),
         rPure [2,3] [4] (fun | [v]=>v=.pointer (some ⟨b,off+1,none⟩) | _=>False),
         rVal [2,3,4] [5] (fun | [v]=>v=.int .i64 t.num | _=>False),
         rVal [2,3,4,5] [6] (fun | [v]=>v=.string (fmA t.num) | _=>False),
         rTm [1,2,3,4,5,6] 7 w81.heap.size T,
         rOne [1,2,3,4,5,6,7] 8 w81.heap.size T,
         rLast (List.range 9) [9] (fun _=>True),
         rPure (List.range 10) [10,9] (fun | [v,u]=>v=u | _=>False)]
         [some 78,some 79,some 80,some 81,some 82,some 83,some 84,some 85,some 86,some 87,some 4] (fun _=>True) (w81.heap.size) 9 (tWith w [[t,T]]) (by kernel_rfl) (Nat.le_refl _) (by kernel_rfl) (by kernel_rfl) ⟨by decide,rfl⟩ (fun j o ho=>?srv9) (fun val Y hv HF=>?fin9)
       case srv9=>
         have hlt:j<11:=(Array.getElem?_eq_some_iff.1 ho).1
         rcases (show j=0∨j=1∨j=2∨j=3∨j=4∨j=5∨j=6∨j=7∨j=8∨j=9∨j=10 by omega) with rfl | rfl | rfl | rfl | rfl | rfl | rfl | rfl | rfl | rfl | rfl
         ·cases ho
          refine srv_pure rfl rfl (fun val E hE hA=>?_)
          have e0:=hE.t 0 (.slice (some ⟨b,off,none⟩) 2 cap) rfl
          exact ⟨.slice (some ⟨b,off,none⟩) 2 cap,fun X=>by simp [execOp,go_sem,e0],rfl⟩
         ·cases ho
          refine srv_val rfl rfl (fun _ _ _=>trivial) (fun val E X hE hB hA=>?_)
          have e3:=hE.t 3 (.pointer (some ⟨w.heap.size,0,none⟩)) rfl
          have HX:=(HW_81.out.call hB).all0
          simp only [bkAll,Nat.zero_add,Nat.reduceAdd,and_true] at HX
          exact ⟨.agg #[.func (.func fe) #[] #[],.func (.func fc) #[] #[]],by simp [execOp,go_sem,e3,HX],rfl⟩
         ·cases ho
          refine srv_pure rfl rfl (fun val E hE hA=>?_)
          have e0:=hE.t 0 (.slice (some ⟨b,off,none⟩) 2 cap) rfl
          exact ⟨.slice (some ⟨b,off,none⟩) 2 cap,fun X=>by simp [execOp,go_sem,e0],rfl⟩
         ·cases ho
          refine srv_pure rfl rfl (fun val E hE hA=>?_)
          have e80:=hE.t 80 (val 2) rfl
          have h2:val 2=.slice (some ⟨b,off,none⟩) 2 cap:=hA 2 (oz rfl)
          exact ⟨.pointer (some ⟨b,off,none⟩),fun X=>by simp [execOp,go_sem,hE.c,e80,h2],rfl⟩
         ·cases ho
          refine srv_pure rfl rfl (fun val E hE hA=>?_)
          have e81:=hE.t 81 (val 3) rfl
          have h3:val 3=.pointer (some ⟨b,off,none⟩):=hA 3 (oz rfl)
          exact ⟨.pointer (some ⟨b,off+1,none⟩),fun X=>by simp [execOp,go_sem,e81,h3],rfl⟩
         ·cases ho
          refine srv_val rfl rfl (fun _ _ _=>trivial) (fun val E X hE hB hA=>?_)
          have e82:=hE.t 82 (val 4) rfl
          have h4:val 4=.pointer (some ⟨b,off+1,none⟩):=hA 4 (oz rfl)
          have HX:=(HA_81.out.keep hB).all
          simp only [rowsC,rowC,List.flatMap_cons,List.flatMap_nil,List.cons_append,List.nil_append,cellsAll,Nat.add_zero,Nat.zero_add,Nat.reduceAdd,and_true] at HX
          exact ⟨.int .i64 t.num,by simp [execOp,go_sem,e82,h4,HX],rfl⟩
         ·cases ho
          refine srv_calV rfl rfl (fun _ _ _=>trivial) (fun val E X hE hB hA=>?_)
          have e83:=hE.t 83 (val 5) rfl
          have h5:val 5=.int .i64 t.num:=hA 5 (oz rfl)
          exact ⟨_,_,_,by simp [execOp,go_sem,hE.f,e83,h5] <;> rfl,HTX.out X (HB81_.out.trans (hB.mono HB81_.out.size)),rfl⟩
         ·cases ho
          refine srv_cal rfl rfl fun val E X N hE hC hA hc=>?_
          have e79:=hE.t 79 (val 1) rfl
          have h1:val 1=.agg #[.func (.func fe) #[] #[],.func (.func fc) #[] #[]]:=hA 1 (oz rfl)
          have e84:=hE.t 84 (val 6) rfl
          have h6:val 6=.string (fmA t.num):=hA 6 (oz rfl)
          exact ⟨_,_,by simp [execOp,go_sem,hE.f,e79,h1,e84,h6] <;> rfl,(HWL.out X).mono fun e w' h=>by
           obtain ⟨a,c,he,hB,hN⟩:=h
           exact ⟨_,he,hB,⟨a,c,rfl⟩,fun N' _ h2=>⟨a,c,rfl,hN.keep (fun _ _=>rfl) (fun b hb=>⟨h2 b hb.1 hb.2,Nat.le_trans hC.bel.size hb.1⟩)⟩⟩⟩
         ·cases ho
          refine srv_mk rfl rfl fun val E X N hE hC hA hc=>?_
          obtain ⟨qa,qc,h7,ht⟩:∃qa qc,val 7=.agg #[.int .i64 T.kind,.int .i64 T.num,.string T.name,.slice qa T.args.length qc]∧TmsK (fun b=>N b∧w81.heap.size≤b) X qa T.args:=hc 7 (oz rfl) rfl
          have e85:=hE.t 85 (val 7) rfl
          have hal:=(Below.refl X.heap.size X).alloc (Nat.le_refl _) (.cells #[.int .i64 T.kind,.int .i64 T.num,.string T.name,.slice qa T.args.length qc] 32)
          exact ⟨.slice (some ⟨X.heap.size,0,none⟩) 1 1,X.alloc (.cells #[.int .i64 T.kind,.int .i64 T.num,.string T.name,.slice qa T.args.length qc] 32),by simp [execOp,go_sem,e85,h7],hal,⟨_,rfl⟩,fun N' h1 h2=>⟨_,qa,qc,rfl,h2 _ (Nat.le_refl _) (by simp),Bk.new X _ 32,ht.keep (fun b hb=>hal.block b (hC.lt b hb.1)) (fun b hb=>⟨h1 b hb.1,hb.2⟩)⟩⟩
         ·cases ho
          refine srv_last rfl rfl fun val E X N hE hC hA hc _=>?_
          obtain ⟨g,qa,qc,h8,hg,hb,ht⟩:∃g qa qc,val 8=.slice (some ⟨g,0,none⟩) 1 1∧N g∧Bk X g (rowC (T,qa,qc))∧TmsK (fun b=>N b∧w81.heap.size≤b) X qa T.args:=hc 8 (oz rfl) rfl
          have e78:=hE.t 78 (val 0) rfl
          have h0:val 0=.slice (some ⟨b,off,none⟩) 2 cap:=hA 0 (oz rfl)
          have e86:=hE.t 86 (val 8) rfl
          exact .inr (.inr ⟨_,_,X,by simp [execOp,go_sem,hE.f,hE.c,e78,h0,e86,h8] <;> rfl,(HWI.out X qa qc g (HA_81.out.keep hC.bel) (show Bk X g [_,_,_,_] from hb) (TmsK.at' ht)).mono fun e w' h=>by
           obtain ⟨hB,A9,c9,he,hr⟩:=h
           exact ⟨_,he,trivial,A9,c9,rfl,hr,(HB81_.out.trans (hC.bel.mono HB81_.out.size)).trans (hB.mono (HB81_.out.trans (hC.bel.mono HB81_.out.size)).size)⟩⟩)
         ·cases ho
          refine srv_pure rfl rfl (fun val E hE hA=>?_)
          have e87:=hE.t 87 (val 9) rfl
          exact ⟨val 9,fun X=>by simp [execOp,go_sem,e87],rfl⟩
       case fin9=>
        have h0:val 0=.slice (some ⟨b,off,none⟩) 2 cap:=hv 0 (by decide)
        have h1:val 1=.agg #[.func (.func fe) #[] #[],.func (.func fc) #[] #[]]:=hv 1 (by decide)
        have h2:val 2=.slice (some ⟨b,off,none⟩) 2 cap:=hv 2 (by decide)
        have h3:val 3=.pointer (some ⟨b,off,none⟩):=hv 3 (by decide)
        have h4:val 4=.pointer (some ⟨b,off+1,none⟩):=hv 4 (by decide)
        have h5:val 5=.int .i64 t.num:=hv 5 (by decide)
        have h6:val 6=.string (fmA t.num):=hv 6 (by decide)
        obtain ⟨_,_,h7⟩:∃qa qc,val 7=.agg #[.int .i64 T.kind,.int .i64 T.num,.string T.name,.slice qa T.args.length qc]:=hv 7 (by decide)
        obtain ⟨_,h8⟩:∃g,val 8=.slice (some ⟨g,0,none⟩) 1 1:=hv 8 (by decide)
        obtain ⟨v9,h9⟩:∃v9,val 9=v9:=⟨_,rfl⟩
        have h10:val 10=val 9:=hv 10 (by decide)
        rw [h9] at h10
        obtain ⟨A9,c9,hv9,hr9,hb9⟩:∃A c,val 9=.slice A 1 c∧RowsAt Y A [[t,T]]∧Below w.heap.size w Y:=HF
        rw [h9] at hv9
        subst hv9
        refine hK9 _ _ ?_
        simp only [fillD,List.set_cons_zero,List.set_cons_succ,Nat.reduceAdd,Nat.zero_add,h0,h1,h2,h3,h4,h5,h6,h7,h8,h9,h10]
        have HBZ:=zq hb9
        have HRZ:=zq hr9
        clear hv h0 h1 h2 h3 h4 h5 h6 h7 h8 h9 h10 hK9 hr9 hb9
        go_wp2_with fail
        go_ret
        exact ⟨HBZ.out,by rw [HE.out];exact ⟨A9,c9,rfl,HRZ.out⟩⟩
      ·skip
       have HE:Hid (LA=.ball biT):=HL6
       clear HTX HWL HWI
       go_wp2_with fail
       refine (HIN.out _).mono ?_;rintro e w82 ⟨xa,xc,rfl,hB,hN⟩
       have HB82_:=bz HB81_ hB
       have HN82_:=zq hN.tms
       clear hB hN
       go_wp2_with fail
       refine (HTH.out _ _ _ _ HN82_.out).mono ?_;rintro e wt ⟨hBt,⟨At,ct,rfl,hTt⟩⟩
       exact ⟨rfl,HB82_.out.trans (hBt.mono HB82_.out.size),by rw [HE.out];exact ⟨At,ct,rfl,hTt⟩⟩
  ·skip
   have HE:=zq (HL.out.trans (if_pos rfl))
   have fHW_2:=HW_2.out.all0
   simp only [bkAll,Nat.zero_add,Nat.reduceAdd,and_true] at fHW_2
   have fHA_2:=HA_2.out.all
   simp only [rowsC,rowC,List.flatMap_cons,List.flatMap_nil,List.cons_append,List.nil_append,cellsAll,Nat.add_zero,Nat.zero_add,Nat.reduceAdd,and_true] at fHA_2
   go_wp2_with fail
   refine (HTY.out _ HB_2.out).mono ?_;rintro e w11 ⟨xa,xc,rfl,hB,hN⟩
   have HB11_:=bz HB_2 hB
   have HN11_:=zq hN.tms
   clear hB hN
   go_wp2_with fail
   refine (HTH.out _ _ _ _ HN11_.out).mono ?_;rintro e wt ⟨hBt,⟨At,ct,rfl,hTt⟩⟩
   exact ⟨rfl,HB11_.out.trans (hBt.mono HB11_.out.size),by rw [HE.out];exact ⟨At,ct,rfl,hTt⟩⟩
theorem a_numbered0 (b off cap:Nat) (t u:Tm) (A U:Option Addr) (c d:Nat) (w:World) (hnum:I64 t.num) (hD:DoorOk w) (hu:validT u=true) (hA:ArgsAt w b off [(t,A,c),(u,U,d)]) :
  Calls Tryz.prog 46 #[.slice (some ⟨b,off,none⟩) 2 cap,.agg #[.func (.func 74) #[] #[],.func (.func 76) #[] #[]]] w fun e w'=>Below w.heap.size w w'∧RAns w' e (numA false t u) :=
 a_numberedG false 74 76 (fun _ _=>rfl) (fun x xa xc X h1 h2=>b_char x xa xc X h1 h2) (fun s w h=>a_wlist0 s w h) b off cap t u A U c d w hnum hD hu hA
theorem a_numbered1 (b off cap:Nat) (t u:Tm) (A U:Option Addr) (c d:Nat) (w:World) (hnum:I64 t.num) (hD:DoorOk w) (hu:validT u=true) (hA:ArgsAt w b off [(t,A,c),(u,U,d)]) :
  Calls Tryz.prog 46 #[.slice (some ⟨b,off,none⟩) 2 cap,.agg #[.func (.func 77) #[] #[],.func (.func 78) #[] #[]]] w fun e w'=>Below w.heap.size w w'∧RAns w' e (numA true t u) :=
 a_numberedG true 77 78 (fun _ _=>rfl) (fun x xa xc X h1 h2=>b_code x xa xc X h1 h2) (fun s w h=>a_wlist1 s w h) b off cap t u A U c d w hnum hD hu hA
end Go.Proofs.YtpokpgkjaifccaaGreatDoorRR
namespace Hb
open Go Go.RowKit
def fnR:Value→Option (DataW Unit×List MemPlace)
 | .func (.func n) f c=>if f.toList=[]∧c.toList=[] then some (.lit (.int .i64 n),[]) else none
 | .nilFunc=>some (.lit (.int .i64 (-1)),[])
 | _=>none
def fnV:Option Nat→Value
 | none=>.nilFunc
 | some f=>.func (.func f) #[] #[]
def fnZ:Option Nat→DataW Unit
 | none=>.lit (.int .i64 (-1))
 | some f=>.lit (.int .i64 f)
theorem fnR_fn (n:Nat):fnR (.func (.func n) #[] #[])=some (.lit (.int .i64 n),[]):=rfl
theorem fnR_inv {v:Value} {o:Option Nat} {ps:List MemPlace} (h:fnR v=some (fnZ o,ps)):v=fnV o:=by
 unfold fnR at h
 split at h
 ·rename_i n f c
  split at h
  ·rename_i hfc
   injection h with h;injection h with h _
   have e1:f=#[]:=Array.ext' hfc.1
   have e2:c=#[]:=Array.ext' hfc.2
   subst e1 e2
   cases o with
   | none=>simp only [fnZ,DataW.lit.injEq,Lit.int.injEq,true_and] at h;omega
   | some k=>
    simp only [fnZ,DataW.lit.injEq,Lit.int.injEq,true_and] at h
    have:n=k:=Int.ofNat.inj h
    subst this;rfl
  ·cases h
 ·injection h with h;injection h with h _
  cases o with
  | none=>rfl
  | some k=>simp only [fnZ,DataW.lit.injEq,Lit.int.injEq,true_and] at h;omega
 ·cases h
def lookA (l:List (ByteArray×Nat)) (s:ByteArray):Option Nat:=(l.find? fun p=>decide (p.1=s)).map (·.2)
def FnMap (P:Program) (k:TypeId) (w:World) (b:Nat) (l:List (ByteArray×Nat)):Prop :=
 ∃D,w.ownsMap P k fnR b l.length D∧∀s:ByteArray,D.atKey (.string s.data.toList) (fnZ none)=fnZ (lookA l s)
theorem FnMap.new (P:Program) (k:TypeId) (w:World):FnMap P k (w.alloc (.map #[] 0)) w.heap.size []:=⟨_,World.ownsMap_made w P k _,fun _=>rfl⟩
theorem FnMap.ins {P:Program} {k t e:TypeId} {w:World} {b:Nat} {l:List (ByteArray×Nat)} (h:FnMap P k w b l) (hk:P.underlying k=some .string) (ht:P.underlying t=some (.map k e)) (s:ByteArray) (f:Nat) (hs:s.size≤maxLen) (hn:l.length<maxLen) (hl:lookA l s=none) :
  ∃w',(Instr.mapUpdate t (.map (some b)) (.string s) (.func (.func f) #[] #[])).run P w=.ok () w'∧FnMap P k w' b (l++[(s,f)])∧w.grownBy w' (some b):=by
 obtain ⟨D,ho,hD⟩:=h
 obtain ⟨w',hr,ho',hg⟩:=ho.update (Maps.string_keyed hk) ht hn (WideMaps.keyOf_string_mk hk hs) (fnR_fn f)
 refine ⟨w',hr,⟨_,by simpa using ho',fun s'=>?_⟩,hg⟩
 by_cases e:s'=s
 ·subst e
  rw [Maps.atKey_put_same ho.isMap (show WideAt.IsKeyLit (.string _) from trivial)]
  unfold lookA at hl ⊢
  rw [Option.map_eq_none_iff] at hl
  rw [List.find?_append,hl]
  simp [fnZ]
 ·rw [Maps.atKey_put_other (fun h=>e (by injection h with h;exact ByteArray.ext (Array.ext' h))),hD]
  unfold lookA
  rw [List.find?_append]
  have:decide (s=s')=false:=decide_eq_false fun h=>e h.symm
  cases (l.find? fun p=>decide (p.1=s')) <;> simp [this]
theorem FnMap.look {P:Program} {k t e:TypeId} {w:World} {b:Nat} {l:List (ByteArray×Nat)} (h:FnMap P k w b l) (hk:P.underlying k=some .string) (ht:P.underlying t=some (.map k e)) (s:ByteArray) (hs:s.size≤maxLen) (hz:(zeroValue e).run P w=.ok .nilFunc w) :
  (Instr.lookup t (.map (some b)) (.string s) false).run P w=.ok (fnV (lookA l s)) w:=by
 obtain ⟨D,ho,hD⟩:=h
 obtain ⟨v,ps,hr,hv⟩:=ho.lookup (Maps.string_keyed hk) ht hz (zd:=fnZ none) (zp:=[]) rfl (WideMaps.keyOf_string_mk hk hs)
 rw [hD] at hv
 rw [hr,fnR_inv hv]
end Hb
namespace Go.Proofs.YtpokpgkjaifccaaGreatDoorRR
open Go.RowKit Hb Go.Shelf
set_option maxRecDepth 100000
def tbl2:List (ByteArray×Nat):=[(⟨#[97,116,111,109,95,108,101,110,103,116,104]⟩,38),(⟨#[97,116,111,109,95,99,104,97,114,115]⟩,39),(⟨#[97,116,111,109,95,99,111,100,101,115]⟩,42),(⟨#[99,104,97,114,95,99,111,100,101]⟩,44),(⟨#[110,117,109,98,101,114,95,99,104,97,114,115]⟩,45),(⟨#[110,117,109,98,101,114,95,99,111,100,101,115]⟩,47)]
def tbl3:List (ByteArray×Nat):=[(⟨#[97,116,111,109,95,99,111,110,99,97,116]⟩,48)]
def tbl5:List (ByteArray×Nat):=[(⟨#[115,117,98,95,97,116,111,109]⟩,49)]
def findA (s:ByteArray) (n:Int):Option Nat:=if n=2 then lookA tbl2 s else if n=3 then lookA tbl3 s else if n=5 then lookA tbl5 s else none
theorem fnZero (w:World):(zeroValue 48).run Tryz.prog w=.ok .nilFunc w:=by kernel_rfl
set_option maxHeartbeats 3200000 in
theorem a_find (s:ByteArray) (n:Int) (hs:s.size≤maxLen) (w:World):Calls Tryz.prog 26 #[.string s,.int .i64 n] w fun e w'=>e=.returned (fnV (findA s n))∧Below w.heap.size w w':=by
 have hmk:∀(w:World),(Instr.makeMap 62 none).run Tryz.prog w=.ok (.map (some w.heap.size)) (w.alloc (.map #[] 0)):=fun w=>run_makeMap _ w
 go_enter Tryz.func26,Tryz.ntmps26
 by_cases hn:n=2
 ·skip
  have F0:=FnMap.new Tryz.prog 9 w
  have G0:w.grownBy (w.alloc (.map #[] 0)) (some w.heap.size):=World.grownBy_alloc w (.map #[] 0) (some w.heap.size)
  obtain ⟨w1,r1,F1,g1⟩:=F0.ins Tryz.underlying9 Tryz.underlying62 ⟨#[97,116,111,109,95,108,101,110,103,116,104]⟩ 38 (by unfold maxLen;decide) (by unfold maxLen;decide) (by decide)
  have G1:=grown_trans G0 g1
  obtain ⟨w2,r2,F2,g2⟩:=F1.ins Tryz.underlying9 Tryz.underlying62 ⟨#[97,116,111,109,95,99,104,97,114,115]⟩ 39 (by unfold maxLen;decide) (by unfold maxLen;decide) (by decide)
  have G2:=grown_trans G1 g2
  obtain ⟨w3,r3,F3,g3⟩:=F2.ins Tryz.underlying9 Tryz.underlying62 ⟨#[97,116,111,109,95,99,111,100,101,115]⟩ 42 (by unfold maxLen;decide) (by unfold maxLen;decide) (by decide)
  have G3:=grown_trans G2 g3
  obtain ⟨w4,r4,F4,g4⟩:=F3.ins Tryz.underlying9 Tryz.underlying62 ⟨#[99,104,97,114,95,99,111,100,101]⟩ 44 (by unfold maxLen;decide) (by unfold maxLen;decide) (by decide)
  have G4:=grown_trans G3 g4
  obtain ⟨w5,r5,F5,g5⟩:=F4.ins Tryz.underlying9 Tryz.underlying62 ⟨#[110,117,109,98,101,114,95,99,104,97,114,115]⟩ 45 (by unfold maxLen;decide) (by unfold maxLen;decide) (by decide)
  have G5:=grown_trans G4 g5
  obtain ⟨w6,r6,F6,g6⟩:=F5.ins Tryz.underlying9 Tryz.underlying62 ⟨#[110,117,109,98,101,114,95,99,111,100,101,115]⟩ 47 (by unfold maxLen;decide) (by unfold maxLen;decide) (by decide)
  have G6:=grown_trans G5 g6
  have rx:=F6.look Tryz.underlying9 Tryz.underlying62 s hs (fnZero _)
  have HE:Hid (findA s n=lookA tbl2 s):=zq (by unfold findA;simp [hn])
  have HG:=zq G6
  have rl:(Instr.lookup 62 (.map (some w.heap.size)) (.string s) false).run Tryz.prog w6=.ok (fnV (lookA tbl2 s)) w6:=rx
  clear rx
  generalize lookA tbl2 s=fo at rl HE
  clear F0 G0 F1 G1 F2 G2 F3 G3 F4 G4 F5 G5 F6 G6 g1 g2 g3 g4 g5 g6
  subst hn
  go_wp2_with fail
  go_ret
  exact ⟨by rw [HE.out];rfl,⟨HG.out.os,HG.out.tape,HG.out.output,HG.out.size,fun k hk=>HG.out.block k hk (by intro e;injection e with e;omega)⟩⟩
 by_cases hn3:n=3
 ·have hn:=hn3
  have F0:=FnMap.new Tryz.prog 9 w
  have G0:w.grownBy (w.alloc (.map #[] 0)) (some w.heap.size):=World.grownBy_alloc w (.map #[] 0) (some w.heap.size)
  obtain ⟨w1,r1,F1,g1⟩:=F0.ins Tryz.underlying9 Tryz.underlying62 ⟨#[97,116,111,109,95,99,111,110,99,97,116]⟩ 48 (by unfold maxLen;decide) (by unfold maxLen;decide) (by decide)
  have G1:=grown_trans G0 g1
  have rx:=F1.look Tryz.underlying9 Tryz.underlying62 s hs (fnZero _)
  have HE:Hid (findA s n=lookA tbl3 s):=zq (by unfold findA;simp [hn])
  have HG:=zq G1
  have rl:(Instr.lookup 62 (.map (some w.heap.size)) (.string s) false).run Tryz.prog w1=.ok (fnV (lookA tbl3 s)) w1:=rx
  clear rx
  generalize lookA tbl3 s=fo at rl HE
  clear F0 G0 F1 G1 g1
  subst hn
  go_wp2_with fail
  go_ret
  exact ⟨by rw [HE.out];rfl,⟨HG.out.os,HG.out.tape,HG.out.output,HG.out.size,fun k hk=>HG.out.block k hk (by intro e;injection e with e;omega)⟩⟩
 by_cases hn5:n=5
 ·have hn:=hn5
  have F0:=FnMap.new Tryz.prog 9 w
  have G0:w.grownBy (w.alloc (.map #[] 0)) (some w.heap.size):=World.grownBy_alloc w (.map #[] 0) (some w.heap.size)
  obtain ⟨w1,r1,F1,g1⟩:=F0.ins Tryz.underlying9 Tryz.underlying62 ⟨#[115,117,98,95,97,116,111,109]⟩ 49 (by unfold maxLen;decide) (by unfold maxLen;decide) (by decide)
  have G1:=grown_trans G0 g1
  have rx:=F1.look Tryz.underlying9 Tryz.underlying62 s hs (fnZero _)
  have HE:Hid (findA s n=lookA tbl5 s):=zq (by unfold findA;simp [hn])
  have HG:=zq G1
  have rl:(Instr.lookup 62 (.map (some w.heap.size)) (.string s) false).run Tryz.prog w1=.ok (fnV (lookA tbl5 s)) w1:=rx
  clear rx
  generalize lookA tbl5 s=fo at rl HE
  clear F0 G0 F1 G1 g1
  subst hn
  go_wp2_with fail
  go_ret
  exact ⟨by rw [HE.out];rfl,⟨HG.out.os,HG.out.tape,HG.out.output,HG.out.size,fun k hk=>HG.out.block k hk (by intro e;injection e with e;omega)⟩⟩
 have hnl:∀w,(Instr.lookup 62 (.map none) (.string s) false).run Tryz.prog w=.ok .nilFunc w:=fun w=>by kernel_rfl
 have HE:Hid (findA s n=none):=zq (by unfold findA;rw [if_neg hn,if_neg hn3,if_neg hn5])
 go_wp2_with fail
 go_ret
 exact ⟨by rw [HE.out];rfl,Below.refl _ _⟩
theorem a_Has (s:ByteArray) (n:Int) (hs:s.size≤maxLen) (w:World):Calls Tryz.prog 10 #[.string s,.int .i64 n] w fun e w'=>e=.returned (.bool (findA s n).isSome)∧Below w.heap.size w w':=by
 have HF:=zq (fun W=>a_find s n hs W)
 clear hs
 have hq1:∀w,(binOp BinOp.neq 48 .nilFunc .nilFunc).run Tryz.prog w=.ok (.bool false) w:=fun w=>by kernel_rfl
 have hq2:∀(k:Nat) w,(binOp BinOp.neq 48 (.func (.func k) #[] #[]) .nilFunc).run Tryz.prog w=.ok (.bool true) w:=fun k w=>by kernel_rfl
 generalize findA s n=o at *
 cases o
 all_goals
  unfold fnV at HF
  go_enter Tryz.func10,Tryz.ntmps10
  go_wp2_with fail
  refine (HF.out _).mono ?_
  rintro e w1 ⟨rfl,hB⟩
  have HB:=zq hB
  clear hB
  go_wp2_with fail
  go_ret
  exact ⟨rfl,HB.out⟩
theorem a_find1 (b off cap:Nat) (t u:Tm) (A U:Option Addr) (c d:Nat) (w:World) (ht:validT t=true) (hu:validT u=true) (hA:ArgsAt w b off [(t,A,c),(u,U,d)]) :
  Calls Tryz.prog 39 #[.slice (some ⟨b,off,none⟩) 2 cap] w fun e w'=>Below w.heap.size w w'∧RAns w' e (spelledA false t u):=by
 have HW:=zq (fun W=>a_characters W)
 have HS:Hid (∀W,Below w.heap.size w W→Calls Tryz.prog 40 #[.slice (some ⟨b,off,none⟩) 2 cap,.agg #[.func (.func 74) #[] #[],.func (.func 76) #[] #[]]] W fun e w'=>Below W.heap.size W w'∧RAns w' e (spelledA false t u)):=zq fun W hW=>a_spelled0 b off cap t u A U c d W ht hu (hA.keep hW)
 clear hA
 generalize spelledA false t u=r at *
 go_enter Tryz.func39,Tryz.ntmps39
 go_wp2_with fail
 refine (HW.out _).mono ?_
 rintro e w1 ⟨rfl,hB1⟩
 have HB1:=zq hB1
 clear hB1
 go_wp2_with fail
 refine (HS.out w1 HB1.out).mono ?_
 rintro e w2 ⟨hB2,hr⟩
 have HB2:=bz HB1 hB2
 cases r with
 | ok ls=>
  obtain ⟨RA,rc,rfl,hrow⟩:=hr
  have HR:=zq hrow
  clear hrow hB2
  go_wp2_with fail
  go_ret
  exact ⟨HB2.out,RA,rc,rfl,HR.out⟩
 | ball x=>
  obtain ⟨XA,xc,rfl,ht⟩:=hr
  exact ⟨rfl,HB2.out,XA,xc,rfl,ht⟩
theorem a_find2 (b off cap:Nat) (t u:Tm) (A U:Option Addr) (c d:Nat) (w:World) (ht:validT t=true) (hu:validT u=true) (hA:ArgsAt w b off [(t,A,c),(u,U,d)]) :
  Calls Tryz.prog 42 #[.slice (some ⟨b,off,none⟩) 2 cap] w fun e w'=>Below w.heap.size w w'∧RAns w' e (spelledA true t u):=by
 have HW:=zq (fun W=>a_codes W)
 have HS:Hid (∀W,Below w.heap.size w W→Calls Tryz.prog 40 #[.slice (some ⟨b,off,none⟩) 2 cap,.agg #[.func (.func 77) #[] #[],.func (.func 78) #[] #[]]] W fun e w'=>Below W.heap.size W w'∧RAns w' e (spelledA true t u)):=zq fun W hW=>a_spelled1 b off cap t u A U c d W ht hu (hA.keep hW)
 clear hA
 generalize spelledA true t u=r at *
 go_enter Tryz.func42,Tryz.ntmps42
 go_wp2_with fail
 refine (HW.out _).mono ?_
 rintro e w1 ⟨rfl,hB1⟩
 have HB1:=zq hB1
 clear hB1
 go_wp2_with fail
 refine (HS.out w1 HB1.out).mono ?_
 rintro e w2 ⟨hB2,hr⟩
 have HB2:=bz HB1 hB2
 cases r with
 | ok ls=>
  obtain ⟨RA,rc,rfl,hrow⟩:=hr
  have HR:=zq hrow
  clear hrow hB2
  go_wp2_with fail
  go_ret
  exact ⟨HB2.out,RA,rc,rfl,HR.out⟩
 | ball x=>
  obtain ⟨XA,xc,rfl,ht⟩:=hr
  exact ⟨rfl,HB2.out,XA,xc,rfl,ht⟩
theorem a_find3 (b off cap:Nat) (t u:Tm) (A U:Option Addr) (c d:Nat) (w:World) (hnum:I64 t.num) (hD:DoorOk w) (hu:validT u=true) (hA:ArgsAt w b off [(t,A,c),(u,U,d)]) :
  Calls Tryz.prog 45 #[.slice (some ⟨b,off,none⟩) 2 cap] w fun e w'=>Below w.heap.size w w'∧RAns w' e (numA false t u):=by
 have HW:=zq (fun W=>a_characters W)
 have HS:Hid (∀W,Below w.heap.size w W→Calls Tryz.prog 46 #[.slice (some ⟨b,off,none⟩) 2 cap,.agg #[.func (.func 74) #[] #[],.func (.func 76) #[] #[]]] W fun e w'=>Below W.heap.size W w'∧RAns w' e (numA false t u)):=zq fun W hW=>a_numbered0 b off cap t u A U c d W hnum (hD.below hW) hu (hA.keep hW)
 clear hA
 generalize numA false t u=r at *
 go_enter Tryz.func45,Tryz.ntmps45
 go_wp2_with fail
 refine (HW.out _).mono ?_
 rintro e w1 ⟨rfl,hB1⟩
 have HB1:=zq hB1
 clear hB1
 go_wp2_with fail
 refine (HS.out w1 HB1.out).mono ?_
 rintro e w2 ⟨hB2,hr⟩
 have HB2:=bz HB1 hB2
 cases r with
 | ok ls=>
  obtain ⟨RA,rc,rfl,hrow⟩:=hr
  have HR:=zq hrow
  clear hrow hB2
  go_wp2_with fail
  go_ret
  exact ⟨HB2.out,RA,rc,rfl,HR.out⟩
 | ball x=>
  obtain ⟨XA,xc,rfl,ht⟩:=hr
  exact ⟨rfl,HB2.out,XA,xc,rfl,ht⟩
theorem a_find4 (b off cap:Nat) (t u:Tm) (A U:Option Addr) (c d:Nat) (w:World) (hnum:I64 t.num) (hD:DoorOk w) (hu:validT u=true) (hA:ArgsAt w b off [(t,A,c),(u,U,d)]) :
  Calls Tryz.prog 47 #[.slice (some ⟨b,off,none⟩) 2 cap] w fun e w'=>Below w.heap.size w w'∧RAns w' e (numA true t u):=by
 have HW:=zq (fun W=>a_codes W)
 have HS:Hid (∀W,Below w.heap.size w W→Calls Tryz.prog 46 #[.slice (some ⟨b,off,none⟩) 2 cap,.agg #[.func (.func 77) #[] #[],.func (.func 78) #[] #[]]] W fun e w'=>Below W.heap.size W w'∧RAns w' e (numA true t u)):=zq fun W hW=>a_numbered1 b off cap t u A U c d W hnum (hD.below hW) hu (hA.keep hW)
 clear hA
 generalize numA true t u=r at *
 go_enter Tryz.func47,Tryz.ntmps47
 go_wp2_with fail
 refine (HW.out _).mono ?_
 rintro e w1 ⟨rfl,hB1⟩
 have HB1:=zq hB1
 clear hB1
 go_wp2_with fail
 refine (HS.out w1 HB1.out).mono ?_
 rintro e w2 ⟨hB2,hr⟩
 have HB2:=bz HB1 hB2
 cases r with
 | ok ls=>
  obtain ⟨RA,rc,rfl,hrow⟩:=hr
  have HR:=zq hrow
  clear hrow hB2
  go_wp2_with fail
  go_ret
  exact ⟨HB2.out,RA,rc,rfl,HR.out⟩
 | ball x=>
  obtain ⟨XA,xc,rfl,ht⟩:=hr
  exact ⟨rfl,HB2.out,XA,xc,rfl,ht⟩
end Go.Proofs.YtpokpgkjaifccaaGreatDoorRR
namespace Hb
open Go Go.RowKit
theorem own_step {P : Program} {ops : Array Oper} {Q : Exit → Act → World → Prop} (sp : List ROp) (BP : List Value → Prop) (T : List Value → World → Prop) {w0 : World} {a0 : Act} {B : Nat} (h : regChk ops sp a0.tmps.size = true) (hs : Serves P ops sp BP B w0 a0 T) :
  ∀ S j o a X, ops[j]? = some o → S j = false → (∀ e ∈ o.after, Region.binds .any e = true → S e.on = true) → (∃ val, RInv ops sp BP B w0 a0 T S a X val) → if Region.wanted o (yielded ops a.tmps) then o.wp P a X (fun a X => ∃ val, RInv ops sp BP B w0 a0 T (updF S j) a X val) Q else ∃ val, RInv ops sp BP B w0 a0 T (updF S j) (a.put o.dst undef) X val := by
 rintro S j o a X ho hsj hp ⟨val, hi⟩
 have hj := (Array.getElem?_eq_some_iff.1 ho).1
 have hck := chk_of h ho
 have hr : ∀ d ∈ depsO o, S d = true := fun d hd => by
  unfold depsO at hd
  obtain ⟨e, he, rfl⟩ := List.mem_map.1 hd
  rw [List.mem_filter] at he
  exact hp e (by simpa using he.1) he.2
 have hA := ready_anc h hi.down ho hr
 have hvA : ∀ i ∈ (opAt sp j).A, (opAt sp i).vp (vals sp i val) := fun i hia => hi.vps i (by have := (hck.anc i hia).1; omega) (hA i hia)
 have hlt : ∀ i ∈ (opAt sp j).A, i < ops.size := fun i hia => by have := (hck.anc i hia).1; omega
 have hdn := down_upd hi.down ho hr
 have hdst : dstO ops j = o.dst := dstO_at ho
 have hact : ∀ v, a.put o.dst v = fillN ops (updF S j) (updV val j v) a0 ops.size := fun v => by
  rw [fill_upd (dist_of h) v hsj _ hj, ← hi.act, hdst]
 have hvps : ∀ v, (opAt sp j).vp (vals sp j (updV val j v)) → ∀ k, k < ops.size → updF S j k = true → (opAt sp k).vp (vals sp k (updV val j v)) := fun v hv k hk hsk => by
  by_cases e : k = j
  ·subst e; exact hv
  ·rw [updF_other S e] at hsk
   rw [vals_keep h hi.down v hsj hk hsk]
   exact hi.vps k hk hsk
 have hdone : ∀ v Y, (opAt sp j).cl ≠ .last → (∀ k, k < ops.size → (opAt sp k).cl = .last → S k = true → T (vals sp k val) Y) → ∀ k, k < ops.size → (opAt sp k).cl = .last → updF S j k = true → T (vals sp k (updV val j v)) Y := fun v Y hc hd k hk hck2 hsk => by
  have e : k ≠ j := fun e => hc (e ▸ hck2)
  rw [updF_other S e] at hsk
  rw [vals_keep h hi.down v hsj hk hsk]
  exact hd k hk hck2 hsk
 -- nothing that acts comes behind the last one
 have nolast : (opAt sp j).cl.isPure = false → ∀ k, k < ops.size → (opAt sp k).cl = .last → S k = false := fun hpj k hk hck2 => by
  by_cases e : k = j
  ·subst e; exact hsj
  ·cases hsk : S k with
   | false => rfl
   | true =>
    have := hi.down.anc h k hk hsk j (clsOk_last (chk_of h (Array.getElem?_eq_getElem hk)).cls hck2 j hj (fun e' => e e'.symm) hpj)
    rw [hsj] at this; cases this
 have updLast : (∀ k, k < ops.size → (opAt sp k).cl = .last → updF S j k = false) → ∀ k, k < ops.size → (opAt sp k).cl = .last → S k = false := fun hn k hk hc => by
  have := hn k hk hc
  unfold updF at this
  split at this
  ·cases this
  ·exact this
 have hw : Region.wanted o (yielded ops a.tmps) = wantB val o := by rw [hi.act]; exact want_eq h ho hr
 have hex : execOp a.eval o = execOp (eOf ops val a0 o) o := by rw [hi.act]; exact exec_eq h hi.down ho hsj hr
 rw [hw]
 cases hcl : (opAt sp j).cl with
 | pure =>
  have hsv := hs.pure j o val ho hcl hvA
  have next : ∀ v, (opAt sp j).vp (vals sp j (updV val j v)) → RInv ops sp BP B w0 a0 T (updF S j) (a.put o.dst v) X (updV val j v) := fun v hv =>
   ⟨hact v, hdn, hvps v hv, fun hn => (hi.full (updLast hn)).grow h hi.down v hsj (by rw [hcl]; rfl) (fun i => by rw [hcl]; intro e; cases e) (Below.refl _ _) (fun e => by rw [hcl] at e; cases e), hdone v X (by rw [hcl]; intro e; cases e) hi.done⟩
  split
  ·rename_i hwt
   obtain ⟨v, hv1, hv2⟩ := hsv.1 hwt
   refine RunsTo.wp (R := fun u X' => u = v ∧ X' = X) (.inl ⟨v, X, by rw [hex]; exact hv1 X, rfl, rfl⟩) ?_
   rintro _ _ ⟨rfl, rfl⟩
   exact ⟨_, next _ hv2⟩
  ·rename_i hwf
   exact ⟨_, next _ (hsv.2 (by simpa using hwf))⟩
 | call =>
  have hf := hi.full (nolast (by rw [hcl]; rfl))
  have hsv := hs.call j o val X (Nb ops.size sp S val X) ho hcl hf.bel (Nb.old hf) (fun b hb => hb.1) (Nb.not hf) hvA (fun i hia hci => hf.vcs i (hlt i hia) (hA i hia) hci)
  have next : ∀ v Y, Below X.heap.size X Y → (opAt sp j).vp (vals sp j (updV val j v)) → (∀ N' : Nat → Prop, (∀ b, Nb ops.size sp S val X b → N' b) → (∀ b, X.heap.size ≤ b → b < Y.heap.size → N' b) → (opAt sp j).vc (vals sp j (updV val j v)) N' Y) → RInv ops sp BP B w0 a0 T (updF S j) (a.put o.dst v) Y (updV val j v) := fun v Y hY hv hvc =>
   ⟨hact v, hdn, hvps v hv, fun _ => hf.grow h hi.down v hsj (by rw [hcl]; rfl) (fun i => by rw [hcl]; intro e; cases e) hY (fun _ => hvc _ (fun b hb => hb.of v hsj (by rw [hcl]; rfl) hY.size) (fun b hb1 hb2 => ⟨hb2, fun i hil hsi hbi he => by
     have e : i ≠ j := fun e => by subst e; rw [hcl] at hbi; cases hbi
     rw [updF_other S e] at hsi
     rw [updV_other _ _ e] at he
     obtain ⟨zs, st, hc⟩ := isBox_at hbi
     obtain ⟨b', h1, _, h3, _⟩ := hf.bxs i hil hsi zs st hc
     rw [he] at h1
     injection h1 with h1; injection h1 with h1; injection h1 with h1
     have := h3.lt
     omega⟩)), hdone v Y (by rw [hcl]; intro e; cases e) (fun k hk hck2 hsk => by rw [nolast (by rw [hcl]; rfl) k hk hck2] at hsk; cases hsk)⟩
  split
  ·rename_i hwt
   refine RunsTo.wp (by rw [hex]; exact hsv.1 hwt) ?_
   rintro v Y ⟨hY, hv, hvc⟩
   exact ⟨_, next v Y hY hv hvc⟩
  ·rename_i hwf
   obtain ⟨hv, hvc⟩ := hsv.2 (by simpa using hwf)
   exact ⟨_, next undef X (Below.refl _ _) hv (fun N' _ _ => hvc N')⟩
 | last =>
  have hf := hi.full (nolast (by rw [hcl]; rfl))
  have hsv := hs.last j o val X (Nb ops.size sp S val X) ho hcl hf.bel (Nb.old hf) (fun b hb => hb.1) (Nb.not hf) hvA (fun i hia hci => hf.vcs i (hlt i hia) (hA i hia) hci) (fun i hia zs st hci => by
   obtain ⟨b, h1, h2, h3, _⟩ := hf.bxs i (hlt i hia) (hA i hia) zs st hci
   refine ⟨b, h1, h2, fun hn => hn.2 i (hlt i hia) (hA i hia) (by rw [hci]; rfl) h1, ?_⟩
   have hst := (clsOk_box (chk_of h (Array.getElem?_eq_getElem (hlt i hia))).cls hci)
   have hmem : st ∈ (opAt sp j).A := clsOk_last hck.cls hcl st hst.2.1 (fun e => by subst e; rw [hcl] at hst; cases hst.2.2) (by rw [hst.2.2]; rfl)
   rw [if_pos (by simpa using hmem)]
   rw [if_pos (hA st hmem)] at h3
   exact h3)
  have next : ∀ v Y, (opAt sp j).vp (vals sp j (updV val j v)) → T (vals sp j (updV val j v)) Y → RInv ops sp BP B w0 a0 T (updF S j) (a.put o.dst v) Y (updV val j v) := fun v Y hv hT =>
   ⟨hact v, hdn, hvps v hv, fun hn => absurd (hn j hj hcl) (by rw [updF_same]; simp), fun k hk hck2 hsk => by
    by_cases e : k = j
    ·subst e; exact hT
    ·rw [updF_other S e, nolast (by rw [hcl]; rfl) k hk hck2] at hsk; cases hsk⟩
  split
  ·rename_i hwt
   refine RunsTo.wp (by rw [hex]; exact hsv.1 hwt) ?_
   rintro v Y ⟨hv, hT⟩
   exact ⟨_, next v Y hv hT⟩
  ·rename_i hwf
   obtain ⟨hv, hT⟩ := hsv.2 (by simpa using hwf)
   exact ⟨_, next undef X hv hT⟩
 | box zs st =>
  have hf := hi.full (nolast (by rw [hcl]; rfl))
  obtain ⟨hg, hstl, hstc⟩ := clsOk_box hck.cls hcl
  have hss : S st = false := by
   cases hss : S st with
   | false => rfl
   | true =>
    have := hi.down.anc h st hstl hss j (clsOk_store (chk_of h (Array.getElem?_eq_getElem hstl)).cls hstc).2.2.1
    rw [hsj] at this; cases this
  rw [if_pos (show wantB val o = true by unfold wantB; rw [hg])]
  obtain ⟨hbp, e, he⟩ := (hs.box j o zs st val ho hcl).2
  refine RunsTo.wp (R := fun v Y => v = .pointer (some ⟨X.heap.size, 0, none⟩) ∧ Y = X.alloc (.cells zs.toArray e)) (.inl ⟨_, _, by rw [hex]; exact he X, rfl, rfl⟩) ?_
  rintro _ _ ⟨rfl, rfl⟩
  exact ⟨_, hact _, hdn, hvps _ (hs.box j o zs st _ ho hcl).1, fun _ => hf.box h hi.down hj hsj hcl hss hbp e, hdone _ _ (by rw [hcl]; intro e; cases e) (fun k hk hck2 hsk => by rw [nolast (by rw [hcl]; rfl) k hk hck2] at hsk; cases hsk)⟩
 | store i =>
  have hf := hi.full (nolast (by rw [hcl]; rfl))
  obtain ⟨hg, hil, hia, ⟨zs, hci⟩, hDj⟩ := clsOk_store hck.cls hcl
  rw [if_pos (show wantB val o = true by unfold wantB; rw [hg])]
  obtain ⟨b, h1, h2, h3, _⟩ := hf.bxs i hil (hA i hia) zs j hci
  rw [if_neg (by rw [hsj]; simp)] at h3
  obtain ⟨hvp, X', hx, hX1, hX2, hX3, hX4, hX5⟩ := hs.store j o i zs val X b ho hcl hci hvA h1 h3
  refine RunsTo.wp (R := fun v Y => v = undef ∧ Y = X') (.inr (.inl ⟨X', by rw [hex]; exact hx, rfl, rfl⟩)) ?_
  rintro _ _ ⟨rfl, rfl⟩
  exact ⟨_, hact _, hdn, hvps _ (hvp _), fun _ => hf.put h hi.down hj hsj hcl hci hil (hA i hia) h1 h2 hX1 hX2 hX3 hX4 hX5 hDj, hdone _ _ (by rw [hcl]; intro e; cases e) (fun k hk hck2 hsk => by rw [nolast (by rw [hcl]; rfl) k hk hck2] at hsk; cases hsk)⟩
theorem wpAny_pre {P:Program} {ops:Array Oper} {Q:Exit→Act→World→Prop} {md:Region.Mode} (I:(Nat→Bool)→Act→World→Prop) (m:Nat) (hm:m<ops.size) (hord:ordOk md ops=true)
  (hall:∀S j o a w,m≤j→ops[j]? = some o→I S a w→(∀e∈o.after,Region.binds md e=true→e.on<j→S e.on=true)→∀i,i<m→S i=true)
  (hstep:∀S j o a w,j<m→ops[j]? = some o→S j=false→(∀e∈o.after,Region.binds md e=true→S e.on=true)→I S a w→if Region.wanted o (yielded ops a.tmps) then o.wp P a w (I (updF S j)) Q else I (updF S j) (a.put o.dst undef) w)
  (hrest:∀S a w,(∀j,j<m→S j=true)→I S a w→wpAny P md ops Q (cntF ops.size fun j=>decide (j<m)) (doneA ops.size fun j=>decide (j<m)) a w) :
  ∀(k:Nat) (S:Nat→Bool) (a:Act) (w:World),cntF ops.size S=k→(∀j,m≤j→j<ops.size→S j=false)→I S a w→wpAny P md ops Q k (doneA ops.size S) a w:=by
 intro k
 induction k with
 | zero=>
  intro S a w hc hn hI
  have:=hn m (Nat.le_refl _) hm
  rw [cntF_zero ops.size S hc m hm] at this
  cases this
 | succ k ih=>
  intro S a w hc hn hI
  by_cases hp:∀j,j<m→S j=true
  ·have e:∀i,i<ops.size→S i=decide (i<m):=fun i hi=>by
    by_cases h:i<m
    ·rw [hp i h,decide_eq_true h]
    ·rw [hn i (by omega) hi,decide_eq_false h]
   have e2:doneA ops.size S=doneA ops.size (fun j=>decide (j<m)):=by
    apply Array.ext
    ·simp [doneA]
    ·intro i h1 h2
     have hi:i<ops.size:=by simpa [doneA] using h2
     rw [show (doneA ops.size S)[i]=S i from Array.getElem_ofFn ..,show (doneA ops.size (fun j=>decide (j<m)))[i]=decide (i<m) from Array.getElem_ofFn ..]
     exact e i hi
   rw [e2,←hc,cntF_ext _ _ _ e]
   exact hrest S a w hp hI
  ·have hlow:∀i,i∈Region.ready md ops (doneA ops.size S)→i<m:=fun i hi=>by
    obtain ⟨_,o,ho,hq⟩:=mem_ready.1 hi
    rcases Nat.lt_or_ge i m with h | h
    ·exact h
    ·exfalso
     have hlt:=(Array.getElem?_eq_some_iff.1 ho).1
     exact hp (hall S i o a w h ho hI fun e he hb hl=>by
      have:=hq e he hb
      rw [doneA_get _ _ _ _ (by omega)] at this
      exact this)
   refine ⟨fun hr=>?_,fun i hi=>?_⟩
   ·exfalso
    refine hp fun j=>?_
    induction j using Nat.strongRecOn with
    | ind j ihj=>
     intro hj
     have hjs:j<ops.size:=by omega
     cases hs:S j with
     | true=>rfl
     | false=>
      have:j∈Region.ready md ops (doneA ops.size S):=mem_ready.2 ⟨by rw [doneA_get _ _ _ _ hjs];exact hs,_,Array.getElem?_eq_getElem hjs,fun e he hb=>by
       have hl:=ordOk_at hord (Array.getElem?_eq_getElem hjs) he hb
       rw [doneA_get _ _ _ _ (by omega)]
       exact ihj e.on hl (by omega)⟩
      rw [hr] at this
      cases this
   ·have him:=hlow i hi
    obtain ⟨h1,o,ho,hq⟩:=mem_ready.1 hi
    have hlt:=(Array.getElem?_eq_some_iff.1 ho).1
    rw [doneA_get _ _ _ _ hlt] at h1
    have hstep':=hstep S i o a w him ho h1 (fun e he hb=>by
     have:=hq e he hb
     have hl:=ordOk_at hord ho he hb
     rw [doneA_get _ _ _ _ (by omega)] at this
     exact this) hI
    have hcu:=cntF_upd ops.size S i hlt h1
    have next:∀a' w',I (updF S i) a' w'→wpAny P md ops Q k ((doneA ops.size S).setIfInBounds i true) a' w':=fun a' w' h=>by
     rw [doneA_set]
     exact ih (updF S i) a' w' (by omega) (fun j hj hjs=>by rw [updF_other S (by omega)];exact hn j hj hjs) h
    unfold wpOp
    rw [ho]
    dsimp only
    split
    ·rename_i hw
     rw [if_pos hw] at hstep'
     exact .inl (Oper.wp_mono next hstep')
    ·rename_i hw
     rw [if_neg hw] at hstep'
     exact next _ _ hstep'
theorem cntF_falses (n:Nat):cntF n (fun _=>false)=n:=by
 induction n with
 | zero=>rfl
 | succ n ih=>unfold cntF;simp [ih]
def preOk (ops:Array Oper) (sp:List ROp) (m:Nat):Bool:=ordOk .any ops&&decide (m<ops.size)&&(ops.toList.all fun o=>o.guard.isNone)&&(List.range ops.size).all fun j=>decide (j<m)||match ops[j]? with | some o=>(List.range m).all fun i=>o.after.any fun e=>Region.binds .any e&&decide (e.on<j)&&(e.on==i||(decide (e.on<m)&&(opAt sp e.on).A.contains i)) | none=>true
section
variable {P:Program} {sp:List ROp} {BP:List Value→Prop} {B:Nat} {w0:World}
abbrev preOps (ops:Array Oper) (m:Nat):Array Oper:=(ops.toList.take m).toArray
theorem region_pre {id m:Nat} {ops:Array Oper} {Q:Exit→Act→World→Prop} {t:List Value} {df:List Deferred} (sp:List ROp) (ds:List (Option Tmp)) (BP:List Value→Prop) (B:Nat) (hfo:preOk ops sp m=true) (hm:P.follows .mixedOrders=true) (hB:B≤w0.heap.size)
  (hd:(preOps ops m).toList.map (·.dst)=ds) (h:regChk (preOps ops m) sp t.length=true) (hl:noLast sp m=true)
  (hs:∀j o,(preOps ops m)[j]? = some o→SrvAt P (preOps ops m) sp BP B w0 ⟨t.toArray,df⟩ (fun _ _=>True) j o)
  (hend:∀val X N,(∀j,j<m→(opAt sp j).vp (vals sp j val))→Abs m sp B w0 val X N→wpAny P .any ops Q (cntF ops.size fun j=>decide (j<m)) (doneA ops.size fun j=>decide (j<m)) ⟨(fillD ds 0 val t).toArray,df⟩ X) :
  (Code.region id ops true).wp P Q ⟨t.toArray,df⟩ w0:=by
 unfold preOk at hfo
 simp only [Bool.and_eq_true,decide_eq_true_eq] at hfo
 obtain ⟨⟨⟨hord,hms⟩,hgd⟩,hall⟩:=hfo
 have hg:∀j o',ops[j]? = some o'→∀y,Region.wanted o' y=true:=fun j o' h' y=>by
  have hgn:=List.all_eq_true.1 hgd o' (by simpa using Array.mem_of_getElem? h')
  unfold Region.wanted
  rw [Option.isNone_iff_eq_none.1 hgn]
 have hps:(preOps ops m).size=m:=by simp [preOps];omega
 have hpre:∀j o',j<m→ops[j]? = some o'→(preOps ops m)[j]? = some o':=fun j o' hj h'=>by
  simp only [preOps,List.getElem?_toArray,List.getElem?_take,if_pos hj,Array.getElem?_toList]
  exact h'
 refine wp_region_any hm ?_
 have key:=wpAny_pre (P:=P) (Q:=Q) (md:=.any) (fun S a X=>∃val,RInv (preOps ops m) sp BP B w0 ⟨t.toArray,df⟩ (fun _ _=>True) S a X val) m hms hord ?all ?step ?rest (cntF ops.size fun _=>false) (fun _=>false) ⟨t.toArray,df⟩ ({ w0 with drawn:=w0.drawn+1 }) rfl (fun _ _ _=>rfl) ?start
 ·rw [doneA_zero,cntF_falses] at key
  exact key
 case all=>
  rintro S j o' a X hj ho' ⟨val,hinv⟩ hsd i hi
  have h1:=List.all_eq_true.1 hall j (List.mem_range.2 (Array.getElem?_eq_some_iff.1 ho').1)
  rw [ho',decide_eq_false (by omega),Bool.false_or] at h1
  have h2:=List.all_eq_true.1 h1 i (List.mem_range.2 hi)
  rw [Array.any_eq_true'] at h2
  obtain ⟨e,he,h3⟩:=h2
  simp only [Bool.and_eq_true,Bool.or_eq_true,beq_iff_eq,decide_eq_true_eq] at h3
  obtain ⟨⟨hb,hlj⟩,h3⟩:=h3
  have hs:=hsd e he hb hlj
  rcases h3 with rfl | ⟨h4,h5⟩
  ·exact hs
  ·exact hinv.down.anc h e.on (by omega) hs i (by simpa using h5)
 case step=>
  intro S j o' a X hj ho' hs' hd' hi
  have hst:=own_step (P:=P) (Q:=Q) sp BP (fun _ _=>True) (by simpa using h) (Serves.of hs) S j o' a X (hpre j o' hj ho') hs' hd' hi
  rw [if_pos (hg j o' ho' _)] at hst ⊢
  exact hst
 case rest=>
  rintro S a X hal ⟨val,hi⟩
  have ha:a=fillN (preOps ops m) (fun _=>true) val ⟨t.toArray,df⟩ (preOps ops m).size:=hi.act.trans (fill_congr _ (fun i hi=>hal i (by omega)) (fun _ _ _=>rfl))
  rw [fill_fillD hd] at ha
  subst ha
  have hn:∀j,j<(preOps ops m).size→(opAt sp j).cl≠.last:=fun j hj e=>by
   have:=List.all_eq_true.1 hl j (List.mem_range.2 (by omega))
   rw [e] at this;cases this
  have hf:=(hi.full fun j hj hc=>absurd hc (hn j hj)).all h (fun j hj=>hal j (by omega))
  have hab:=hf.abs
  rw [hps] at hab
  exact hend val X _ (fun j hj=>hi.vps j (by omega) (hal j hj)) hab
 case start=>
  refine ⟨fun _=>undef,?_,?_,?_,?_,?_⟩
  ·have:∀m',fillN (preOps ops m) (fun _=>false) (fun _=>undef) (⟨t.toArray,df⟩:Act) m'=⟨t.toArray,df⟩:=by
    intro m'
    induction m' with
    | zero=>rfl
    | succ m' ih=>unfold fillN;rw [if_neg (by simp)];exact ih
   exact (this _).symm
  ·intro k o _ hs;cases hs
  ·intro j _ hs;cases hs
  ·intro _
   exact ⟨(Below.refl _ w0).drew,hB,fun j _ hs=>(by cases hs),fun i _ hs=>(by cases hs),fun i k _ _ hs=>(by cases hs)⟩
  ·intro j _ _ hs;cases hs
end
section
variable {P:Program} {ops:Array Oper} {Q:Exit→Act→World→Prop} {md:Region.Mode} {k:Nat} {d:Array Bool} {a:Act} {w:World}
theorem wpAny_one {i : Nat} {o : Oper} (hr : Region.ready md ops d = [i]) (ho : ops[i]? = some o) (hg : o.guard = none) (h : o.wp P a w (fun a' w' => wpAny P md ops Q k (d.setIfInBounds i true) a' w') Q) : wpAny P md ops Q (k + 1) d a w :=
 ⟨fun h' => (by rw [hr] at h'; cases h'), fun j hj => by
  rw [hr, List.mem_singleton] at hj
  subst hj
  unfold wpOp
  rw [ho]
  dsimp only
  rw [if_pos (by unfold Region.wanted; rw [hg])]
  exact .inl h⟩
theorem wpAny_two {i j : Nat} {o p : Oper} (hr : Region.ready md ops d = [i, j]) (ho : ops[i]? = some o) (hp : ops[j]? = some p) (hgo : o.guard = none) (hgp : p.guard = none) (h1 : o.wp P a w (fun a' w' => wpAny P md ops Q k (d.setIfInBounds i true) a' w') Q) (h2 : p.wp P a w (fun a' w' => wpAny P md ops Q k (d.setIfInBounds j true) a' w') Q) : wpAny P md ops Q (k + 1) d a w :=
 ⟨fun h' => (by rw [hr] at h'; cases h'), fun q hq => by
  rw [hr, List.mem_cons, List.mem_singleton] at hq
  rcases hq with rfl | rfl
  ·unfold wpOp
   rw [ho]
   dsimp only
   rw [if_pos (by unfold Region.wanted; rw [hgo])]
   exact .inl h1
  ·unfold wpOp
   rw [hp]
   dsimp only
   rw [if_pos (by unfold Region.wanted; rw [hgp])]
   exact .inl h2⟩
theorem wpAny_end (hr:Region.ready md ops d=[]) (h:Q .normal a w):wpAny P md ops Q 0 d a w:=⟨hr,h⟩
end
end Hb
