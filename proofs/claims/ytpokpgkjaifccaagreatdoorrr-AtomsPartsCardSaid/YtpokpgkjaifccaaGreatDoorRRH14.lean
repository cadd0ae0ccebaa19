/- Parts of the proof. -/
import Derived.Test.YtpokpgkjaifccaaGreatDoorRRH01
import Derived.Test.YtpokpgkjaifccaaGreatDoorRRH13
import Derived.Test.YtpokpgkjaifccaaGreatDoorRRH12
namespace Hb
open Go Go.RowKit
def badC (t:Tm):Bool:=!(t.kind==0) && !(t.kind==2&&((t.name.size:Int)==1))
def badN (u:Tm):Bool:=!(u.kind==0) && !(u.kind==1)
def badR (u:Tm):Bool:=u.kind==1&&(decide (u.num<0)||decide (255<u.num))
def charCodeA (t u:Tm):RA :=
 if badC t=true then .ball (btT sChar t) else if badN u=true then .ball (btT sInteger u) else if badR u=true then .ball brT
 else if (t.kind==0&&u.kind==0)=true then .ball biT
 else if (t.kind==2)=true then .ok [[t,intT (chV t)]] else .ok [[atomT ⟨#[u.num.toNat.toUInt8]⟩,u]]
end Hb
namespace Go.Proofs.YtpokpgkjaifccaaGreatDoorRR
open Go.RowKit Hb Go.Shelf
set_option maxRecDepth 100000
set_option linter.unusedSimpArgs false
set_option maxHeartbeats 6400000 in
theorem a_charCode (b off cap:Nat) (t u:Tm) (A U:Option Addr) (c d:Nat) (w:World) (hA:ArgsAt w b off [(t,A,c),(u,U,d)]) :
  Calls Tryz.prog 44 #[.slice (some ⟨b,off,none⟩) 2 cap] w fun e w'=>Below w.heap.size w w'∧RAns w' e (charCodeA t u):=by
 have HVT:Hid (∀W,Calls Tryz.prog 64 #[tmV t A c] W fun e w'=>e=.returned (.bool (t.kind==0))∧Below W.heap.size W w'):=zq fun W=>a_isVar t A c W
 have HAT:Hid (∀W,Calls Tryz.prog 72 #[tmV t A c] W fun e w'=>e=.returned (.bool (t.kind==2))∧Below W.heap.size W w'):=zq fun W=>a_isAtom t A c W
 have HVU:Hid (∀W,Calls Tryz.prog 64 #[tmV u U d] W fun e w'=>e=.returned (.bool (u.kind==0))∧Below W.heap.size W w'):=zq fun W=>a_isVar u U d W
 have HIU:Hid (∀W,Calls Tryz.prog 80 #[tmV u U d] W fun e w'=>e=.returned (.bool (u.kind==1))∧Below W.heap.size W w'):=zq fun W=>a_isInt u U d W
 obtain ⟨Q1,HQ1⟩:=lz (btT sChar t)
 have HTC:Hid (∀X,Below w.heap.size w X→Calls Tryz.prog 79 #[.string ⟨#[99,104,97,114,97,99,116,101,114]⟩,tmV t A c] X fun e w'=>∃A' c',e=.returned (tmV Q1 A' c')∧Below X.heap.size X w'∧NewT X w' A' Q1.args):=zq fun X hX=>by
  rw [HQ1.out];exact b_type ⟨#[99,104,97,114,97,99,116,101,114]⟩ t A c X (by decide) (((hA.s (t,A,c) (by simp)).keep hX).mono hX.size)
 obtain ⟨Q2,HQ2⟩:=lz (btT sInteger u)
 have HTI:Hid (∀X,Below w.heap.size w X→Calls Tryz.prog 79 #[.string ⟨#[105,110,116,101,103,101,114]⟩,tmV u U d] X fun e w'=>∃A' c',e=.returned (tmV Q2 A' c')∧Below X.heap.size X w'∧NewT X w' A' Q2.args):=zq fun X hX=>by
  rw [HQ2.out];exact b_type ⟨#[105,110,116,101,103,101,114]⟩ u U d X (by decide) (((hA.s (u,U,d) (by simp)).keep hX).mono hX.size)
 have HRP:=zq (fun W=>b_repr W)
 have HIN:=zq (fun W=>b_inst W)
 have HTH:=zq (fun Q A c W h=>a_throw Q A c W h)
 obtain ⟨LA,HLA⟩:=lz (charCodeA t u)
 have HL:Hid (LA=if badC t=true then .ball Q1 else if badN u=true then .ball Q2 else if badR u=true then .ball brT else if (t.kind==0&&u.kind==0)=true then .ball biT else if (t.kind==2)=true then .ok [[t,intT (chV t)]] else .ok [[atomT ⟨#[u.num.toNat.toUInt8]⟩,u]]):=zq (by rw [HLA.out,HQ1.out,HQ2.out];rfl)
 rw [←HLA.out]
 have HA_0:=zq hA
 obtain ⟨tv,HTV⟩:=lz ((t.kind==0))
 obtain ⟨ta,HTA⟩:=lz ((t.kind==2))
 obtain ⟨uv,HUV⟩:=lz ((u.kind==0))
 obtain ⟨ui,HUI⟩:=lz ((u.kind==1))
 have HBC:Hid (badC t=(!tv && !(ta&&((t.name.size:Int)==1)))):=zq (by rw [HTV.out,HTA.out];rfl)
 have HBN:Hid (badN u=(!uv && !ui)):=zq (by rw [HUV.out,HUI.out];rfl)
 have HBR:Hid (badR u=(ui&&(decide (u.num<0)||decide (255<u.num)))):=zq (by rw [HUI.out];rfl)
 rw [←HTV.out] at HVT HL
 rw [←HTA.out] at HAT HL
 rw [←HUV.out] at HVU HL
 rw [←HUI.out] at HIU
 have HW1:Hid (∀(x:UInt8) W,ArgsAt W b off [(t,A,c),(u,U,d)]→Calls Tryz.prog 69 #[.slice (some ⟨b,off,none⟩) 2 cap,.int .i64 1,.slice (some ⟨W.heap.size,0,none⟩) 1 1] (W.alloc (.cells #[.int .i64 1,.int .i64 (x.toNat:Int),.string ⟨#[]⟩,.slice none 0 0] 32)) fun e w'=>Below W.heap.size W w'∧RAns w' e (.ok [[t,intT (x.toNat:Int)]])):=zq fun x W h=>a_withN b off cap 2 1 1 [(t,A,c),(u,U,d)] [(intT (x.toNat:Int),none,0)] W rfl (by decide) rfl (by decide) (by decide) h (fun r hr=>by rw [List.mem_singleton] at hr;subst hr;exact TmsK.nil)
 have HW0:Hid (∀(s:ByteArray) a q W,ArgsAt W b off [(t,A,c),(u,U,d)]→Calls Tryz.prog 69 #[.slice (some ⟨b,off,none⟩) 2 cap,.int .i64 0,.slice (some ⟨W.heap.size,0,none⟩) 1 1] (W.alloc (.cells #[.int .i64 2,.int .i64 0,.string s,.slice a 0 q] 32)) fun e w'=>Below W.heap.size W w'∧RAns w' e (.ok [[atomT s,u]])):=zq fun s a q W h=>a_withN b off cap 2 0 1 [(t,A,c),(u,U,d)] [(atomT s,a,q)] W rfl (by decide) rfl (by decide) (by decide) h (fun r hr=>by rw [List.mem_singleton] at hr;subst hr;exact TmsK.nil)
 have HTI2:=zq (fun n W=>t_int n W)
 have HTA2:Hid (∀(s:ByteArray) (_:s.size≤100) W,Calls Tryz.prog 75 #[.string s] W fun e w'=>∃a q,e=.returned (.agg #[.int .i64 2,.int .i64 0,.string s,.slice a 0 q])∧Below W.heap.size W w'):=zq fun s h W=>t_atom s h W
 have HTT:Hid (¬(tv=true∧ta=true)):=zq (by rw [HTV.out,HTA.out];simp;omega)
 clear hA HLA HQ1 HQ2 HTV HTA HUV HUI
 unfold tmV at *
 go_enter Tryz.func44,Tryz.ntmps44
 go_wp2_with fail
 rename_i K0 hK0
 refine region_own (w0:=w) [rPure [] [0] (fun | [v]=>v=.slice (some ⟨b,off,none⟩) 2 cap | _=>False),
  rPure [0] [1] (fun | [v]=>v=.pointer (some ⟨b,off,none⟩) | _=>False),
  rVal [0,1] [2] (fun | [v]=>v=.agg #[.int .i64 t.kind,.int .i64 t.num,.string t.name,.slice A t.args.length c] | _=>False),
  rPure [] [3] (fun | [v]=>v=.slice (some ⟨b,off,none⟩) 2 cap | _=>False),
  rPure [3] [4] (fun | [v]=>v=.pointer (some ⟨b,off+4,none⟩) | _=>False),
  rVal [3,4] [5] (fun | [v]=>v=.agg #[.int .i64 u.kind,.int .i64 u.num,.string u.name,.slice U u.args.length d] | _=>False),
  rBox [] [.int .i64 0,.int .i64 0,.string ⟨#[]⟩,.slice none 0 0] 8,
  rBox [] [.int .i64 0,.int .i64 0,.string ⟨#[]⟩,.slice none 0 0] 9,
  rStore [0,1,2,6,7] [] 6 (fun _=>[.int .i64 t.kind,.int .i64 t.num,.string t.name,.slice A t.args.length c]),
  rStore (List.range 9) [] 7 (fun _=>[.int .i64 u.kind,.int .i64 u.num,.string u.name,.slice U u.args.length d])]
  [some 5,some 6,some 7,some 8,some 9,some 10,some 3,some 4,none,none] (fun _=>True) (w.heap.size) (by kernel_rfl) (Nat.le_refl _) (by kernel_rfl) (by kernel_rfl) (by kernel_rfl) (fun j o ho=>?srv) (fun val Y N hv HF=>?fin)
 case srv=>
  have hlt:j<10:=(Array.getElem?_eq_some_iff.1 ho).1
  rcases (show j=0∨j=1∨j=2∨j=3∨j=4∨j=5∨j=6∨j=7∨j=8∨j=9 by omega) with rfl | rfl | rfl | rfl | rfl | rfl | rfl | rfl | rfl | rfl
  ·cases ho
   refine srv_pure rfl rfl (fun val E hE hA=>?_)
   have e0:=hE.t 0 (.slice (some ⟨b,off,none⟩) 2 cap) rfl
   exact ⟨.slice (some ⟨b,off,none⟩) 2 cap,fun X=>by simp [execOp,go_sem,e0],rfl⟩
  ·cases ho
   refine srv_pure rfl rfl (fun val E hE hA=>?_)
   have e5:=hE.t 5 (val 0) rfl
   have h0:val 0=.slice (some ⟨b,off,none⟩) 2 cap:=hA 0 (oz rfl)
   exact ⟨.pointer (some ⟨b,off,none⟩),fun X=>by simp [execOp,go_sem,hE.c,e5,h0],rfl⟩
  ·cases ho
   refine srv_val rfl rfl (fun _ _ _=>trivial) (fun val E X hE hB hA=>?_)
   have e6:=hE.t 6 (val 1) rfl
   have h1:val 1=.pointer (some ⟨b,off,none⟩):=hA 1 (oz rfl)
   have HX:=(HA_0.out.keep hB).all
   simp only [rowsC,rowC,List.flatMap_cons,List.flatMap_nil,List.cons_append,List.nil_append,cellsAll,Nat.add_zero,Nat.zero_add,Nat.reduceAdd,and_true] at HX
   exact ⟨.agg #[.int .i64 t.kind,.int .i64 t.num,.string t.name,.slice A t.args.length c],by simp [execOp,go_sem,e6,h1,HX],rfl⟩
  ·cases ho
   refine srv_pure rfl rfl (fun val E hE hA=>?_)
   have e0:=hE.t 0 (.slice (some ⟨b,off,none⟩) 2 cap) rfl
   exact ⟨.slice (some ⟨b,off,none⟩) 2 cap,fun X=>by simp [execOp,go_sem,e0],rfl⟩
  ·cases ho
   refine srv_pure rfl rfl (fun val E hE hA=>?_)
   have e8:=hE.t 8 (val 3) rfl
   have h3:val 3=.slice (some ⟨b,off,none⟩) 2 cap:=hA 3 (oz rfl)
   exact ⟨.pointer (some ⟨b,off+4,none⟩),fun X=>by simp [execOp,go_sem,hE.c,e8,h3],rfl⟩
  ·cases ho
   refine srv_val rfl rfl (fun _ _ _=>trivial) (fun val E X hE hB hA=>?_)
   have e9:=hE.t 9 (val 4) rfl
   have h4:val 4=.pointer (some ⟨b,off+4,none⟩):=hA 4 (oz rfl)
   have HX:=(HA_0.out.keep hB).all
   simp only [rowsC,rowC,List.flatMap_cons,List.flatMap_nil,List.cons_append,List.nil_append,cellsAll,Nat.add_zero,Nat.zero_add,Nat.reduceAdd,and_true] at HX
   exact ⟨.agg #[.int .i64 u.kind,.int .i64 u.num,.string u.name,.slice U u.args.length d],by simp [execOp,go_sem,e9,h4,HX],rfl⟩
  ·cases ho
   exact srv_box rfl (fun _=>trivial) (trivial) 32 fun E X=>by simp [execOp,go_sem]
  ·cases ho
   exact srv_box rfl (fun _=>trivial) (trivial) 32 fun E X=>by simp [execOp,go_sem]
  ·cases ho
   refine srv_store rfl rfl (fun _=>trivial) fun val E X b hE hA hb hk=>?_
   have e3:=hE.t 3 (val 6) rfl
   have e7:=hE.t 7 (val 2) rfl
   have h2:val 2=.agg #[.int .i64 t.kind,.int .i64 t.num,.string t.name,.slice A t.args.length c]:=hA 2 (oz rfl)
   have z0:=hk.c 0 (.int .i64 0) rfl
   have f0:=hk.f 0
   have z1:=hk.c 1 (.int .i64 0) rfl
   have f1:=hk.f 1
   have z2:=hk.c 2 (.string ⟨#[]⟩) rfl
   have f2:=hk.f 2
   have z3:=hk.c 3 (.slice none 0 0) rfl
   have f3:=hk.f 3
   exact ⟨((((X.setCell ⟨b,0,none⟩ (.int .i64 t.kind)).setCell ⟨b,1,none⟩ (.int .i64 t.num)).setCell ⟨b,2,none⟩ (.string t.name)).setCell ⟨b,3,none⟩ (.slice A t.args.length c)),[.int .i64 t.kind,.int .i64 t.num,.string t.name,.slice A t.args.length c],by simp [execOp,go_sem,hb,e3,e7,h2,z0,f0,z1,f1,z2,f2,z3,f3],(((((PutTo.start hk).more 0 (.int .i64 t.kind)).more 1 (.int .i64 t.num)).more 2 (.string t.name)).more 3 (.slice A t.args.length c)),rfl,trivial⟩
  ·cases ho
   refine srv_store rfl rfl (fun _=>trivial) fun val E X b hE hA hb hk=>?_
   have e4:=hE.t 4 (val 7) rfl
   have e10:=hE.t 10 (val 5) rfl
   have h5:val 5=.agg #[.int .i64 u.kind,.int .i64 u.num,.string u.name,.slice U u.args.length d]:=hA 5 (oz rfl)
   have z0:=hk.c 0 (.int .i64 0) rfl
   have f0:=hk.f 0
   have z1:=hk.c 1 (.int .i64 0) rfl
   have f1:=hk.f 1
   have z2:=hk.c 2 (.string ⟨#[]⟩) rfl
   have f2:=hk.f 2
   have z3:=hk.c 3 (.slice none 0 0) rfl
   have f3:=hk.f 3
   exact ⟨((((X.setCell ⟨b,0,none⟩ (.int .i64 u.kind)).setCell ⟨b,1,none⟩ (.int .i64 u.num)).setCell ⟨b,2,none⟩ (.string u.name)).setCell ⟨b,3,none⟩ (.slice U u.args.length d)),[.int .i64 u.kind,.int .i64 u.num,.string u.name,.slice U u.args.length d],by simp [execOp,go_sem,hb,e4,e10,h5,z0,f0,z1,f1,z2,f2,z3,f3],(((((PutTo.start hk).more 0 (.int .i64 u.kind)).more 1 (.int .i64 u.num)).more 2 (.string u.name)).more 3 (.slice U u.args.length d)),rfl,trivial⟩
 case fin=>
  have h0:val 0=.slice (some ⟨b,off,none⟩) 2 cap:=hv 0 (by decide)
  have h1:val 1=.pointer (some ⟨b,off,none⟩):=hv 1 (by decide)
  have h2:val 2=.agg #[.int .i64 t.kind,.int .i64 t.num,.string t.name,.slice A t.args.length c]:=hv 2 (by decide)
  have h3:val 3=.slice (some ⟨b,off,none⟩) 2 cap:=hv 3 (by decide)
  have h4:val 4=.pointer (some ⟨b,off+4,none⟩):=hv 4 (by decide)
  have h5:val 5=.agg #[.int .i64 u.kind,.int .i64 u.num,.string u.name,.slice U u.args.length d]:=hv 5 (by decide)
  obtain ⟨e6,h6,l6,hK6,n6⟩:=HF.at_box 6 (by decide) rfl
  have hK6:Bk Y e6 [.int .i64 t.kind,.int .i64 t.num,.string t.name,.slice A t.args.length c]:=hK6
  obtain ⟨e7,h7,l7,hK7,n7⟩:=HF.at_box 7 (by decide) rfl
  have hK7:Bk Y e7 [.int .i64 u.kind,.int .i64 u.num,.string u.name,.slice U u.args.length d]:=hK7
  refine hK0 _ _ ?_
  simp only [fillD,List.set_cons_zero,List.set_cons_succ,Nat.reduceAdd,Nat.zero_add,h0,h1,h2,h3,h4,h5,h6,h7]
  have HB_0:=zq HF.bel
  have HC_0:=zq hK6
  have HU_0:=zq hK7
  have HY_0:=zq (HA_0.out.keep HF.bel)
  clear hv hK0 HF h0 h1 h2 h3 h4 h5 h6 h7 hK6 hK7 l6 l7 n6 n7 HA_0
  go_upto_region 2 with fail
  go_cut [24] from 11 to 23 (fun v wc=>v=.bool (badC t)∧Hid (Below w.heap.size w wc)∧Hid (ArgsAt wc b off [(t,A,c),(u,U,d)])∧Hid (Bk wc e6 [.int .i64 t.kind,.int .i64 t.num,.string t.name,.slice A t.args.length c])∧Hid (Bk wc e7 [.int .i64 u.kind,.int .i64 u.num,.string u.name,.slice U u.args.length d]))
  case first=>
   have fHY_0:=HY_0.out.all
   simp only [rowsC,rowC,List.flatMap_cons,List.flatMap_nil,List.cons_append,List.nil_append,cellsAll,Nat.add_zero,Nat.zero_add,Nat.reduceAdd,and_true] at fHY_0
   have fHC_0:=HC_0.out.all0
   simp only [bkAll,Nat.zero_add,Nat.reduceAdd,and_true] at fHC_0
   have fHU_0:=HU_0.out.all0
   simp only [bkAll,Nat.zero_add,Nat.reduceAdd,and_true] at fHU_0
   go_wp2_with fail
   refine (HVT.out _).mono ?_;rintro e w1 ⟨rfl,hB⟩
   clear fHY_0 fHC_0 fHU_0
   have HB1_:=bz HB_0 hB
   have HY_1:=zq (HY_0.out.keep hB)
   have HC_1:=zq (HC_0.out.call hB)
   have HU_1:=zq (HU_0.out.call hB)
   clear hB HB_0 HY_0 HC_0 HU_0 
   have fHY_1:=HY_1.out.all
   simp only [rowsC,rowC,List.flatMap_cons,List.flatMap_nil,List.cons_append,List.nil_append,cellsAll,Nat.add_zero,Nat.zero_add,Nat.reduceAdd,and_true] at fHY_1
   have fHC_1:=HC_1.out.all0
   simp only [bkAll,Nat.zero_add,Nat.reduceAdd,and_true] at fHC_1
   have fHU_1:=HU_1.out.all0
   simp only [bkAll,Nat.zero_add,Nat.reduceAdd,and_true] at fHU_1
   cases tv
   ·skip
    go_wp2_with fail
    refine (HAT.out _).mono ?_;rintro e w2 ⟨rfl,hB⟩
    clear fHY_1 fHC_1 fHU_1
    have HB2_:=bz HB1_ hB
    have HY_2:=zq (HY_1.out.keep hB)
    have HC_2:=zq (HC_1.out.call hB)
    have HU_2:=zq (HU_1.out.call hB)
    clear hB HB1_ HY_1 HC_1 HU_1 
    have fHY_2:=HY_2.out.all
    simp only [rowsC,rowC,List.flatMap_cons,List.flatMap_nil,List.cons_append,List.nil_append,cellsAll,Nat.add_zero,Nat.zero_add,Nat.reduceAdd,and_true] at fHY_2
    have fHC_2:=HC_2.out.all0
    simp only [bkAll,Nat.zero_add,Nat.reduceAdd,and_true] at fHC_2
    have fHU_2:=HU_2.out.all0
    simp only [bkAll,Nat.zero_add,Nat.reduceAdd,and_true] at fHU_2
    cases ta
    ·skip
     go_wp2_with fail
     go_meet
     exact ⟨(congrArg Value.bool (by rw [HBC.out];rfl)),HB2_,HY_2,HC_2,HU_2⟩
    ·skip
     go_wp2_with fail
     go_meet
     exact ⟨(congrArg Value.bool (by rw [HBC.out];simp)),HB2_,HY_2,HC_2,HU_2⟩
   ·skip
    go_wp2_with fail
    go_meet
    exact ⟨(congrArg Value.bool (by rw [HBC.out];rfl)),HB1_,HY_1,HC_1,HU_1⟩
  case rest=>
   obtain ⟨rfl,HB_2,HY_2,HC_2,HU_2⟩:=hcut
   clear HB_0 HY_0 HC_0 HU_0
   obtain ⟨y2,HYY⟩:=lz (wc)
   rw [←HYY.out] at HB_2 HY_2 HC_2 HU_2 ⊢
   clear HYY
   obtain ⟨z1,Hz1⟩:=lz ((badC t))
   rw [←Hz1.out] at HL ⊢
   cases z1
   rotate_left
   ·have HE:=zq (HL.out.trans (if_pos rfl))
    have fHY_2:=HY_2.out.all
    simp only [rowsC,rowC,List.flatMap_cons,List.flatMap_nil,List.cons_append,List.nil_append,cellsAll,Nat.add_zero,Nat.zero_add,Nat.reduceAdd,and_true] at fHY_2
    have fHC_2:=HC_2.out.all0
    simp only [bkAll,Nat.zero_add,Nat.reduceAdd,and_true] at fHC_2
    have fHU_2:=HU_2.out.all0
    simp only [bkAll,Nat.zero_add,Nat.reduceAdd,and_true] at fHU_2
    go_wp2_with fail
    refine (HTC.out _ HB_2.out).mono ?_;rintro e w1 ⟨xa,xc,rfl,hB,hN⟩
    have HB1_:=bz HB_2 hB
    have HN1_:=zq hN.tms
    clear hB hN
    go_wp2_with fail
    refine (HTH.out _ _ _ _ HN1_.out).mono ?_;rintro e wt ⟨hBt,⟨At,ct,rfl,hTt⟩⟩
    exact ⟨rfl,HB1_.out.trans (hBt.mono HB1_.out.size),by rw [HE.out];exact ⟨At,ct,rfl,hTt⟩⟩
   have HL:=zq (HL.out.trans (if_neg (by decide)))
   go_upto_region 4 with fail
   go_cut [28] from 29 to 36 (fun v wc=>v=.bool (badN u)∧Hid (Below w.heap.size w wc)∧Hid (ArgsAt wc b off [(t,A,c),(u,U,d)])∧Hid (Bk wc e6 [.int .i64 t.kind,.int .i64 t.num,.string t.name,.slice A t.args.length c])∧Hid (Bk wc e7 [.int .i64 u.kind,.int .i64 u.num,.string u.name,.slice U u.args.length d]))
   case first=>
    have fHY_2:=HY_2.out.all
    simp only [rowsC,rowC,List.flatMap_cons,List.flatMap_nil,List.cons_append,List.nil_append,cellsAll,Nat.add_zero,Nat.zero_add,Nat.reduceAdd,and_true] at fHY_2
    have fHC_2:=HC_2.out.all0
    simp only [bkAll,Nat.zero_add,Nat.reduceAdd,and_true] at fHC_2
    have fHU_2:=HU_2.out.all0
    simp only [bkAll,Nat.zero_add,Nat.reduceAdd,and_true] at fHU_2
    go_wp2_with fail
    refine (HVU.out _).mono ?_;rintro e w1 ⟨rfl,hB⟩
    clear fHY_2 fHC_2 fHU_2
    have HB1_:=bz HB_2 hB
    have HY_1:=zq (HY_2.out.keep hB)
    have HC_1:=zq (HC_2.out.call hB)
    have HU_1:=zq (HU_2.out.call hB)
    clear hB HB_2 HY_2 HC_2 HU_2 
    have fHY_1:=HY_1.out.all
    simp only [rowsC,rowC,List.flatMap_cons,List.flatMap_nil,List.cons_append,List.nil_append,cellsAll,Nat.add_zero,Nat.zero_add,Nat.reduceAdd,and_true] at fHY_1
    have fHC_1:=HC_1.out.all0
    simp only [bkAll,Nat.zero_add,Nat.reduceAdd,and_true] at fHC_1
    have fHU_1:=HU_1.out.all0
    simp only [bkAll,Nat.zero_add,Nat.reduceAdd,and_true] at fHU_1
    cases uv
    ·skip
     go_wp2_with fail
     refine (HIU.out _).mono ?_;rintro e w2 ⟨rfl,hB⟩
     clear fHY_1 fHC_1 fHU_1
     have HB2_:=bz HB1_ hB
     have HY_2:=zq (HY_1.out.keep hB)
     have HC_2:=zq (HC_1.out.call hB)
     have HU_2:=zq (HU_1.out.call hB)
     clear hB HB1_ HY_1 HC_1 HU_1 
     have fHY_2:=HY_2.out.all
     simp only [rowsC,rowC,List.flatMap_cons,List.flatMap_nil,List.cons_append,List.nil_append,cellsAll,Nat.add_zero,Nat.zero_add,Nat.reduceAdd,and_true] at fHY_2
     have fHC_2:=HC_2.out.all0
     simp only [bkAll,Nat.zero_add,Nat.reduceAdd,and_true] at fHC_2
     have fHU_2:=HU_2.out.all0
     simp only [bkAll,Nat.zero_add,Nat.reduceAdd,and_true] at fHU_2
     cases ui
     ·skip
      go_wp2_with fail
      go_meet
      exact ⟨(congrArg Value.bool (by rw [HBN.out];rfl)),HB2_,HY_2,HC_2,HU_2⟩
     ·skip
      go_wp2_with fail
      go_meet
      exact ⟨(congrArg Value.bool (by rw [HBN.out];rfl)),HB2_,HY_2,HC_2,HU_2⟩
    ·skip
     go_wp2_with fail
     go_meet
     exact ⟨(congrArg Value.bool (by rw [HBN.out];rfl)),HB1_,HY_1,HC_1,HU_1⟩
   case rest=>
    obtain ⟨rfl,HB_4,HY_4,HC_4,HU_4⟩:=hcut
    clear HB_2 HY_2 HC_2 HU_2
    obtain ⟨y4,HYY⟩:=lz (wc)
    rw [←HYY.out] at HB_4 HY_4 HC_4 HU_4 ⊢
    clear HYY
    obtain ⟨z2,Hz2⟩:=lz ((badN u))
    rw [←Hz2.out] at HL ⊢
    cases z2
    rotate_left
    ·have HE:=zq (HL.out.trans (if_pos rfl))
     have fHY_4:=HY_4.out.all
     simp only [rowsC,rowC,List.flatMap_cons,List.flatMap_nil,List.cons_append,List.nil_append,cellsAll,Nat.add_zero,Nat.zero_add,Nat.reduceAdd,and_true] at fHY_4
     have fHC_4:=HC_4.out.all0
     simp only [bkAll,Nat.zero_add,Nat.reduceAdd,and_true] at fHC_4
     have fHU_4:=HU_4.out.all0
     simp only [bkAll,Nat.zero_add,Nat.reduceAdd,and_true] at fHU_4
     go_wp2_with fail
     refine (HTI.out _ HB_4.out).mono ?_;rintro e w1 ⟨xa,xc,rfl,hB,hN⟩
     have HB1_:=bz HB_4 hB
     have HN1_:=zq hN.tms
     clear hB hN
     go_wp2_with fail
     refine (HTH.out _ _ _ _ HN1_.out).mono ?_;rintro e wt ⟨hBt,⟨At,ct,rfl,hTt⟩⟩
     exact ⟨rfl,HB1_.out.trans (hBt.mono HB1_.out.size),by rw [HE.out];exact ⟨At,ct,rfl,hTt⟩⟩
    have HL:=zq (HL.out.trans (if_neg (by decide)))
    go_upto_region 6 with fail
    go_cut [40] from 41 to 52 (fun v wc=>v=.bool (badR u)∧Hid (Below w.heap.size w wc)∧Hid (ArgsAt wc b off [(t,A,c),(u,U,d)])∧Hid (Bk wc e6 [.int .i64 t.kind,.int .i64 t.num,.string t.name,.slice A t.args.length c])∧Hid (Bk wc e7 [.int .i64 u.kind,.int .i64 u.num,.string u.name,.slice U u.args.length d]))
    case first=>
     have fHY_4:=HY_4.out.all
     simp only [rowsC,rowC,List.flatMap_cons,List.flatMap_nil,List.cons_append,List.nil_append,cellsAll,Nat.add_zero,Nat.zero_add,Nat.reduceAdd,and_true] at fHY_4
     have fHC_4:=HC_4.out.all0
     simp only [bkAll,Nat.zero_add,Nat.reduceAdd,and_true] at fHC_4
     have fHU_4:=HU_4.out.all0
     simp only [bkAll,Nat.zero_add,Nat.reduceAdd,and_true] at fHU_4
     go_wp2_with fail
     refine (HIU.out _).mono ?_;rintro e w1 ⟨rfl,hB⟩
     clear fHY_4 fHC_4 fHU_4
     have HB1_:=bz HB_4 hB
     have HY_1:=zq (HY_4.out.keep hB)
     have HC_1:=zq (HC_4.out.call hB)
     have HU_1:=zq (HU_4.out.call hB)
     clear hB HB_4 HY_4 HC_4 HU_4 
     have fHY_1:=HY_1.out.all
     simp only [rowsC,rowC,List.flatMap_cons,List.flatMap_nil,List.cons_append,List.nil_append,cellsAll,Nat.add_zero,Nat.zero_add,Nat.reduceAdd,and_true] at fHY_1
     have fHC_1:=HC_1.out.all0
     simp only [bkAll,Nat.zero_add,Nat.reduceAdd,and_true] at fHC_1
     have fHU_1:=HU_1.out.all0
     simp only [bkAll,Nat.zero_add,Nat.reduceAdd,and_true] at fHU_1
     cases ui
     ·skip
      go_wp2_with fail
      go_meet
      exact ⟨(congrArg Value.bool (by rw [HBR.out];rfl)),HB1_,HY_1,HC_1,HU_1⟩
     ·skip
      rcases (show u.num<0∨(¬u.num<0∧255<u.num)∨(¬u.num<0∧¬255<u.num) by omega) with d1 | ⟨d1,d2⟩ | ⟨d1,d2⟩
      ·skip
       go_wp2_with fail
       go_meet
       exact ⟨(congrArg Value.bool (by rw [HBR.out];simp [d1])),HB1_,HY_1,HC_1,HU_1⟩
      ·skip
       go_wp2_with fail
       go_meet
       exact ⟨(congrArg Value.bool (by rw [HBR.out];simp [d1,d2])),HB1_,HY_1,HC_1,HU_1⟩
      ·skip
       go_wp2_with fail
       go_meet
       exact ⟨(congrArg Value.bool (by rw [HBR.out];simp [d1,d2])),HB1_,HY_1,HC_1,HU_1⟩
    case rest=>
     obtain ⟨rfl,HB_6,HY_6,HC_6,HU_6⟩:=hcut
     clear HB_4 HY_4 HC_4 HU_4
     obtain ⟨y6,HYY⟩:=lz (wc)
     rw [←HYY.out] at HB_6 HY_6 HC_6 HU_6 ⊢
     clear HYY
     obtain ⟨z3,Hz3⟩:=lz ((badR u))
     rw [←Hz3.out] at HL ⊢
     cases z3
     rotate_left
     ·have HE:=zq (HL.out.trans (if_pos rfl))
      have fHY_6:=HY_6.out.all
      simp only [rowsC,rowC,List.flatMap_cons,List.flatMap_nil,List.cons_append,List.nil_append,cellsAll,Nat.add_zero,Nat.zero_add,Nat.reduceAdd,and_true] at fHY_6
      have fHC_6:=HC_6.out.all0
      simp only [bkAll,Nat.zero_add,Nat.reduceAdd,and_true] at fHC_6
      have fHU_6:=HU_6.out.all0
      simp only [bkAll,Nat.zero_add,Nat.reduceAdd,and_true] at fHU_6
      go_wp2_with fail
      refine (HRP.out _).mono ?_;rintro e w1 ⟨xa,xc,rfl,hB,hN⟩
      have HB1_:=bz HB_6 hB
      have HN1_:=zq hN.tms
      clear hB hN
      go_wp2_with fail
      refine (HTH.out _ _ _ _ HN1_.out).mono ?_;rintro e wt ⟨hBt,⟨At,ct,rfl,hTt⟩⟩
      exact ⟨rfl,HB1_.out.trans (hBt.mono HB1_.out.size),by rw [HE.out];exact ⟨At,ct,rfl,hTt⟩⟩
     have HL:=zq (HL.out.trans (if_neg (by decide)))
     go_upto_region 8 with fail
     go_cut [55] from 56 to 61 (fun v wc=>v=.bool (tv&&uv)∧Hid (Below w.heap.size w wc)∧Hid (ArgsAt wc b off [(t,A,c),(u,U,d)])∧Hid (Bk wc e6 [.int .i64 t.kind,.int .i64 t.num,.string t.name,.slice A t.args.length c])∧Hid (Bk wc e7 [.int .i64 u.kind,.int .i64 u.num,.string u.name,.slice U u.args.length d]))
     case first=>
      have fHY_6:=HY_6.out.all
      simp only [rowsC,rowC,List.flatMap_cons,List.flatMap_nil,List.cons_append,List.nil_append,cellsAll,Nat.add_zero,Nat.zero_add,Nat.reduceAdd,and_true] at fHY_6
      have fHC_6:=HC_6.out.all0
      simp only [bkAll,Nat.zero_add,Nat.reduceAdd,and_true] at fHC_6
      have fHU_6:=HU_6.out.all0
      simp only [bkAll,Nat.zero_add,Nat.reduceAdd,and_true] at fHU_6
      go_wp2_with fail
      refine (HVT.out _).mono ?_;rintro e w1 ⟨rfl,hB⟩
      clear fHY_6 fHC_6 fHU_6
      have HB1_:=bz HB_6 hB
      have HY_1:=zq (HY_6.out.keep hB)
      have HC_1:=zq (HC_6.out.call hB)
      have HU_1:=zq (HU_6.out.call hB)
      clear hB HB_6 HY_6 HC_6 HU_6 
      have fHY_1:=HY_1.out.all
      simp only [rowsC,rowC,List.flatMap_cons,List.flatMap_nil,List.cons_append,List.nil_append,cellsAll,Nat.add_zero,Nat.zero_add,Nat.reduceAdd,and_true] at fHY_1
      have fHC_1:=HC_1.out.all0
      simp only [bkAll,Nat.zero_add,Nat.reduceAdd,and_true] at fHC_1
      have fHU_1:=HU_1.out.all0
      simp only [bkAll,Nat.zero_add,Nat.reduceAdd,and_true] at fHU_1
      cases tv
      ·skip
       go_wp2_with fail
       go_meet
       exact ⟨rfl,HB1_,HY_1,HC_1,HU_1⟩
      ·skip
       go_wp2_with fail
       refine (HVU.out _).mono ?_;rintro e w2 ⟨rfl,hB⟩
       clear fHY_1 fHC_1 fHU_1
       have HB2_:=bz HB1_ hB
       have HY_2:=zq (HY_1.out.keep hB)
       have HC_2:=zq (HC_1.out.call hB)
       have HU_2:=zq (HU_1.out.call hB)
       clear hB HB1_ HY_1 HC_1 HU_1 
       have fHY_2:=HY_2.out.all
       simp only [rowsC,rowC,List.flatMap_cons,List.flatMap_nil,List.cons_append,List.nil_append,cellsAll,Nat.add_zero,Nat.zero_add,Nat.reduceAdd,and_true] at fHY_2
       have fHC_2:=HC_2.out.all0
       simp only [bkAll,Nat.zero_add,Nat.reduceAdd,and_true] at fHC_2
       have fHU_2:=HU_2.out.all0
       simp only [bkAll,Nat.zero_add,Nat.reduceAdd,and_true] at fHU_2
       cases uv
       ·skip
        go_wp2_with fail
        go_meet
        exact ⟨rfl,HB2_,HY_2,HC_2,HU_2⟩
       ·skip
        go_wp2_with fail
        go_meet
        exact ⟨rfl,HB2_,HY_2,HC_2,HU_2⟩
     case rest=>
      obtain ⟨rfl,HB_8,HY_8,HC_8,HU_8⟩:=hcut
      clear HB_6 HY_6 HC_6 HU_6
      obtain ⟨y8,HYY⟩:=lz (wc)
      rw [←HYY.out] at HB_8 HY_8 HC_8 HU_8 ⊢
      clear HYY
      obtain ⟨z4,Hz4⟩:=lz ((tv&&uv))
      rw [←Hz4.out] at HL ⊢
      cases z4
      rotate_left
      ·have HE:=zq (HL.out.trans (if_pos rfl))
       have fHY_8:=HY_8.out.all
       simp only [rowsC,rowC,List.flatMap_cons,List.flatMap_nil,List.cons_append,List.nil_append,cellsAll,Nat.add_zero,Nat.zero_add,Nat.reduceAdd,and_true] at fHY_8
       have fHC_8:=HC_8.out.all0
       simp only [bkAll,Nat.zero_add,Nat.reduceAdd,and_true] at fHC_8
       have fHU_8:=HU_8.out.all0
       simp only [bkAll,Nat.zero_add,Nat.reduceAdd,and_true] at fHU_8
       go_wp2_with fail
       refine (HIN.out _).mono ?_;rintro e w1 ⟨xa,xc,rfl,hB,hN⟩
       have HB1_:=bz HB_8 hB
       have HN1_:=zq hN.tms
       clear hB hN
       go_wp2_with fail
       refine (HTH.out _ _ _ _ HN1_.out).mono ?_;rintro e wt ⟨hBt,⟨At,ct,rfl,hTt⟩⟩
       exact ⟨rfl,HB1_.out.trans (hBt.mono HB1_.out.size),by rw [HE.out];exact ⟨At,ct,rfl,hTt⟩⟩
      have HL:=zq (HL.out.trans (if_neg (by decide)))
      clear HTC HTI HRP HIN HTH HVU HIU
      have fHY_8:=HY_8.out.all
      simp only [rowsC,rowC,List.flatMap_cons,List.flatMap_nil,List.cons_append,List.nil_append,cellsAll,Nat.add_zero,Nat.zero_add,Nat.reduceAdd,and_true] at fHY_8
      have fHC_8:=HC_8.out.all0
      simp only [bkAll,Nat.zero_add,Nat.reduceAdd,and_true] at fHC_8
      have fHU_8:=HU_8.out.all0
      simp only [bkAll,Nat.zero_add,Nat.reduceAdd,and_true] at fHU_8
      go_wp2_with fail
      refine (HAT.out _).mono ?_;rintro e w1 ⟨rfl,hB⟩
      clear fHY_8 fHC_8 fHU_8
      have HB1_:=bz HB_8 hB
      have HY_1:=zq (HY_8.out.keep hB)
      have HC_1:=zq (HC_8.out.call hB)
      have HU_1:=zq (HU_8.out.call hB)
      clear hB HB_8 HY_8 HC_8 HU_8 
      have fHY_1:=HY_1.out.all
      simp only [rowsC,rowC,List.flatMap_cons,List.flatMap_nil,List.cons_append,List.nil_append,cellsAll,Nat.add_zero,Nat.zero_add,Nat.reduceAdd,and_true] at fHY_1
      have fHC_1:=HC_1.out.all0
      simp only [bkAll,Nat.zero_add,Nat.reduceAdd,and_true] at fHC_1
      have fHU_1:=HU_1.out.all0
      simp only [bkAll,Nat.zero_add,Nat.reduceAdd,and_true] at fHU_1
      rw [HBC.out] at Hz1
      rw [HBN.out] at Hz2
      rw [HBR.out] at Hz3
      cases ta
      ·skip
       have HE:=zq (HL.out.trans (if_neg (by decide)))
       have hu:ui=true∧0≤u.num∧u.num≤255:=by
        have q1:=Hz1.out;have q2:=Hz2.out;have q3:=Hz3.out;have q4:=Hz4.out
        cases tv
        ·simp at q1
        ·cases uv
         ·cases ui
          ·simp at q2
          ·simp at q3
           exact ⟨rfl,q3.1,q3.2⟩
         ·simp at q4
       obtain ⟨_,n0,n1⟩:=hu
       have hk:∀w:World,(convert 44 9 (.slice (some ⟨w.heap.size,0,none⟩) 1 1)).run Tryz.prog (w.alloc (.cells #[.int .u8 u.num] 5))=.ok (.string ⟨#[u.num.toNat.toUInt8]⟩) (w.alloc (.cells #[.int .u8 u.num] 5)):=fun (w:World)=>conv_new1 (P:=Tryz.prog) 44 9 5 Tryz.underlying44 Tryz.underlying5 Tryz.underlying9 u.num n0 n1 w
       have hw8:IntKind.u8.wrap u.num=u.num:=IntWalk.u8_in _ ⟨n0,n1⟩
       clear Hz1 Hz2 Hz3 Hz4 HL HBC HBN HBR HW1 HTI2
       go_wp2_with fail
       refine (HTA2.out ⟨#[u.num.toNat.toUInt8]⟩ (show (1:Nat)≤100 by decide) _).mono ?_;rintro e w2 ⟨xa,xq,rfl,hB⟩
       have hB:=((Below.refl w1.heap.size w1).alloc (Nat.le_refl _) _).trans (hB.mono (by simp))
       clear fHY_1 fHC_1 fHU_1
       have HB2_:=bz HB1_ hB
       have HY_2:=zq (HY_1.out.keep hB)
       have HC_2:=zq (HC_1.out.call hB)
       have HU_2:=zq (HU_1.out.call hB)
       clear hB HB1_ HY_1 HC_1 HU_1 
       have fHY_2:=HY_2.out.all
       simp only [rowsC,rowC,List.flatMap_cons,List.flatMap_nil,List.cons_append,List.nil_append,cellsAll,Nat.add_zero,Nat.zero_add,Nat.reduceAdd,and_true] at fHY_2
       have fHC_2:=HC_2.out.all0
       simp only [bkAll,Nat.zero_add,Nat.reduceAdd,and_true] at fHC_2
       have fHU_2:=HU_2.out.all0
       simp only [bkAll,Nat.zero_add,Nat.reduceAdd,and_true] at fHU_2
       go_wp2_with fail
       refine (HW0.out _ _ _ _ HY_2.out).mono ?_;rintro e wz ⟨hBz,⟨A9,c9,rfl,hR9⟩⟩
       have HBZ:=bz HB2_ hBz
       have HRZ:=zq hR9
       clear hBz hR9
       go_wp2_with fail
       go_ret
       exact ⟨HBZ.out,by rw [HE.out];exact ⟨A9,c9,rfl,HRZ.out⟩⟩
      ·skip
       have HE:=zq (HL.out.trans (if_pos rfl))
       have hsz:t.name.size=1:=by
        have q1:=Hz1.out;have q2:=HTT.out
        cases tv
        ·simp at q1
         omega
        ·exact absurd ⟨rfl,rfl⟩ q2
       obtain ⟨x,hx⟩:=one_byte hsz
       have HE2:Hid (LA=.ok [[t,intT (x.toNat:Int)]]):=zq (by rw [HE.out];unfold chV;rw [hx];rfl)
       have HIX:∀W,(Instr.index 9 (.string ⟨#[x]⟩) (.int .i64 0)).run Tryz.prog W=.ok (.int .u8 (x.toNat:Int)) W:=fun W=>by simp [Instr.index,run_underlying Tryz.underlying9,asIntOf,go_sem];rfl
       have hw64:wrap64 (x.toNat:Int)=(x.toNat:Int):=IntWalk.wrap64_in _ (by have:=x.toNat_lt;omega)
       clear Hz1 Hz2 Hz3 Hz4 HL HBC HBN HBR HW0 HTA2 HE hsz
       rw [hx] at fHC_1
       go_wp2_with fail
       refine (HTI2.out _ _).mono ?_;rintro e w2 ⟨rfl,hB⟩
       clear fHY_1 fHC_1 fHU_1
       have HB2_:=bz HB1_ hB
       have HY_2:=zq (HY_1.out.keep hB)
       have HC_2:=zq (HC_1.out.call hB)
       have HU_2:=zq (HU_1.out.call hB)
       clear hB HB1_ HY_1 HC_1 HU_1 
       have fHY_2:=HY_2.out.all
       simp only [rowsC,rowC,List.flatMap_cons,List.flatMap_nil,List.cons_append,List.nil_append,cellsAll,Nat.add_zero,Nat.zero_add,Nat.reduceAdd,and_true] at fHY_2
       have fHC_2:=HC_2.out.all0
       simp only [bkAll,Nat.zero_add,Nat.reduceAdd,and_true] at fHC_2
       have fHU_2:=HU_2.out.all0
       simp only [bkAll,Nat.zero_add,Nat.reduceAdd,and_true] at fHU_2
       go_wp2_with fail
       refine (HW1.out x _ HY_2.out).mono ?_;rintro e wz ⟨hBz,⟨A9,c9,rfl,hR9⟩⟩
       have HBZ:=bz HB2_ hBz
       have HRZ:=zq hR9
       clear hBz hR9
       go_wp2_with fail
       go_ret
       exact ⟨HBZ.out,by rw [HE2.out];exact ⟨A9,c9,rfl,HRZ.out⟩⟩
end Go.Proofs.YtpokpgkjaifccaaGreatDoorRR
namespace Hb
open Go Go.RowKit
def badL (q:Tm):Bool:=!(q.kind==0) && !(q.kind==2&&q.name.toList==[91,93])
end Hb
namespace Go.Proofs.YtpokpgkjaifccaaGreatDoorRR
open Go.RowKit Hb Go.Shelf
set_option maxRecDepth 100000
set_option linter.unusedSimpArgs false
def LisR (t:Tm) (w':World) (e:Ending):Prop:=(badL (tailT t)=true∧Thr w' (btT sList t) e)∨(badL (tailT t)=false∧∃a c,e=.returned (.tuple #[.slice a (elemsT t).length c,.bool ((tailT t).kind==0)])∧TmsAt w'.heap.size w' a (elemsT t))
set_option maxHeartbeats 3200000 in
theorem a_listed (t:Tm) (A:Option Addr) (cap:Nat) (w:World) (hv:validT t=true) (hT:TmsAt w.heap.size w A t.args):Calls Tryz.prog 71 #[tmV t A cap] w fun e w'=>Below w.heap.size w w'∧LisR t w' e:=by
 obtain ⟨q,HQQ⟩:=lz (tailT t)
 obtain ⟨l,HLL⟩:=lz (elemsT t)
 obtain ⟨n,HNN⟩:=lz (l.length)
 have HEL:Hid (∀X,Below w.heap.size w X→Calls Tryz.prog 95 #[tmV t A cap] X fun e w'=>∃A1 c1 A2 c2,e=.returned (.tuple #[.slice A1 n c1,tmV q A2 c2])∧Below X.heap.size X w'∧NewT X w' A1 l):=zq fun X hX=>by
  rw [HQQ.out,HNN.out,HLL.out]
  exact (t_elems t A cap X ((hT.keep hX).mono hX.size) hv).mono fun e w' ⟨A1,c1,A2,c2,he,hB,h1,_⟩=>⟨A1,c1,A2,c2,he,hB,h1⟩
 obtain ⟨Q1,HQ1⟩:=lz (btT sList t)
 have HTY:Hid (∀X,Below w.heap.size w X→Calls Tryz.prog 79 #[.string ⟨#[108,105,115,116]⟩,tmV t A cap] X fun e w'=>∃A' c',e=.returned (tmV Q1 A' c')∧Below X.heap.size X w'∧NewT X w' A' Q1.args):=zq fun X hX=>by
  rw [HQ1.out];exact b_type ⟨#[108,105,115,116]⟩ t A cap X (by decide) ((hT.keep hX).mono hX.size)
 have HTH:=zq (fun Q A c W h=>a_throw Q A c W h)
 have HV:Hid (∀a c W,Calls Tryz.prog 64 #[tmV q a c] W fun e w'=>e=.returned (.bool (q.kind==0))∧Below W.heap.size W w'):=zq fun a c W=>a_isVar q a c W
 have HAT:Hid (∀a c W,Calls Tryz.prog 72 #[tmV q a c] W fun e w'=>e=.returned (.bool (q.kind==2))∧Below W.heap.size W w'):=zq fun a c W=>a_isAtom q a c W
 have HR:Hid (∀w' e,(badL q=true∧Thr w' Q1 e)∨(badL q=false∧∃a c,e=.returned (.tuple #[.slice a n c,.bool (q.kind==0)])∧TmsAt w'.heap.size w' a l)→LisR t w' e):=zq fun w' e h=>by
  unfold LisR
  rw [←HQQ.out,←HQ1.out,←HLL.out,←HNN.out]
  exact h
 have HB0:Hid (Below w.heap.size w (w.alloc (.cells #[.int .i64 t.kind,.int .i64 t.num,.string t.name,.slice A t.args.length cap] 32))):=zq ((Below.refl w.heap.size w).alloc (Nat.le_refl _) _)
 have HT_0:Hid (Bk (w.alloc (.cells #[.int .i64 t.kind,.int .i64 t.num,.string t.name,.slice A t.args.length cap] 32)) w.heap.size [.int .i64 t.kind,.int .i64 t.num,.string t.name,.slice A t.args.length cap]):=zq (Bk.new w [.int .i64 t.kind,.int .i64 t.num,.string t.name,.slice A t.args.length cap] 32)
 clear hT hv HQQ HLL HNN HQ1
 unfold tmV at *
 go_enter Tryz.func71,Tryz.ntmps71
 have fHT_0:=HT_0.out.all0
 simp only [bkAll,Nat.zero_add,Nat.reduceAdd,and_true] at fHT_0
 go_wp2_with fail
 refine (HEL.out _ HB0.out).mono ?_;rintro e w1 ⟨a1,c1,a2,c2,rfl,hB,hN⟩
 clear fHT_0
 have HB1_:=bz HB0 hB
 have HT_1:=zq (HT_0.out.call hB)
 clear hB HB0 HT_0 
 have fHT_1:=HT_1.out.all0
 simp only [bkAll,Nat.zero_add,Nat.reduceAdd,and_true] at fHT_1
 have HL_0:=zq hN.tms
 clear hN
 have hz:=(Below.refl w1.heap.size w1).alloc (Nat.le_refl _) (.cells #[.int .i64 q.kind,.int .i64 q.num,.string q.name,.slice a2 q.args.length c2] 32)
 obtain ⟨y1,HY1⟩:=lz (w1.alloc (.cells #[.int .i64 q.kind,.int .i64 q.num,.string q.name,.slice a2 q.args.length c2] 32))
 have HQ_1:Hid (Bk y1 w1.heap.size [.int .i64 q.kind,.int .i64 q.num,.string q.name,.slice a2 q.args.length c2]):=zq (by rw [HY1.out];exact Bk.new w1 [.int .i64 q.kind,.int .i64 q.num,.string q.name,.slice a2 q.args.length c2] 32)
 have HB_1:Hid (Below w.heap.size w y1):=zq (by rw [HY1.out];exact HB1_.out.alloc HB1_.out.size _)
 have HT_2:Hid (Bk y1 w.heap.size [.int .i64 t.kind,.int .i64 t.num,.string t.name,.slice A t.args.length cap]):=zq (by rw [HY1.out];exact HT_1.out.al _)
 have HL_2:Hid (TmsAt y1.heap.size y1 a1 l):=zq (by rw [HY1.out];exact (HL_0.out.keep hz).mono hz.size)
 clear hz HB1_ HT_1 HL_0 fHT_1
 go_upto_region 2 with fail
 rw [←HY1.out]
 clear HY1
 generalize w1.heap.size=gq at *
 go_cut [22] from 10 to 21 (fun v wc=>v=.bool (badL q)∧Hid (Below w.heap.size w wc)∧Hid (Bk wc w.heap.size [.int .i64 t.kind,.int .i64 t.num,.string t.name,.slice A t.args.length cap])∧Hid (Bk wc gq [.int .i64 q.kind,.int .i64 q.num,.string q.name,.slice a2 q.args.length c2])∧Hid (TmsAt wc.heap.size wc a1 l))
 case first=>
  obtain ⟨qv,HQV⟩:=lz ((q.kind==0))
  obtain ⟨qa,HQA⟩:=lz ((q.kind==2))
  have HBL:Hid (badL q=(!qv && !(qa&&q.name.toList==[91,93]))):=zq (by rw [HQV.out,HQA.out];rfl)
  rw [←HQV.out] at HV
  rw [←HQA.out] at HAT
  clear HQV HQA
  have fHT_2:=HT_2.out.all0
  simp only [bkAll,Nat.zero_add,Nat.reduceAdd,and_true] at fHT_2
  have fHQ_1:=HQ_1.out.all0
  simp only [bkAll,Nat.zero_add,Nat.reduceAdd,and_true] at fHQ_1
  go_wp2_with fail
  refine (HV.out _ _ _).mono ?_;rintro e w31 ⟨rfl,hB⟩
  clear fHT_2 fHQ_1
  have HB31_:=bz HB_1 hB
  have HT_31:=zq (HT_2.out.call hB)
  have HQ_31:=zq (HQ_1.out.call hB)
  have HL_31:=zq ((HL_2.out.keep hB).mono hB.size)
  clear hB HB_1 HT_2 HQ_1 HL_2 
  have fHT_31:=HT_31.out.all0
  simp only [bkAll,Nat.zero_add,Nat.reduceAdd,and_true] at fHT_31
  have fHQ_31:=HQ_31.out.all0
  simp only [bkAll,Nat.zero_add,Nat.reduceAdd,and_true] at fHQ_31
  cases qv
  ·skip
   go_wp2_with fail
   refine (HAT.out _ _ _).mono ?_;rintro e w32 ⟨rfl,hB⟩
   clear fHT_31 fHQ_31
   have HB32_:=bz HB31_ hB
   have HT_32:=zq (HT_31.out.call hB)
   have HQ_32:=zq (HQ_31.out.call hB)
   have HL_32:=zq ((HL_31.out.keep hB).mono hB.size)
   clear hB HB31_ HT_31 HQ_31 HL_31 
   have fHT_32:=HT_32.out.all0
   simp only [bkAll,Nat.zero_add,Nat.reduceAdd,and_true] at fHT_32
   have fHQ_32:=HQ_32.out.all0
   simp only [bkAll,Nat.zero_add,Nat.reduceAdd,and_true] at fHQ_32
   cases qa
   ·skip
    go_wp2_with fail
    go_meet
    exact ⟨(congrArg Value.bool (by rw [HBL.out];rfl)),HB32_,HT_32,HQ_32,HL_32⟩
   ·skip
    go_wp2_with fail
    go_meet
    exact ⟨(congrArg Value.bool (by rw [HBL.out];simp)),HB32_,HT_32,HQ_32,HL_32⟩
  ·skip
   go_wp2_with fail
   go_meet
   exact ⟨(congrArg Value.bool (by rw [HBL.out];rfl)),HB31_,HT_31,HQ_31,HL_31⟩
 case rest=>
  obtain ⟨rfl,HB_2,HT_3,HQ_3,HL_3⟩:=hcut
  clear HB_1 HT_2 HQ_1 HL_2
  obtain ⟨y2,HYY⟩:=lz (wc)
  rw [←HYY.out] at HB_2 HT_3 HQ_3 HL_3 ⊢
  clear HYY
  obtain ⟨z,HZ⟩:=lz (badL q)
  rw [←HZ.out] at HR ⊢
  cases z
  ·skip
   have HR2:Hid (∀w' e,(∃a c,e=.returned (.tuple #[.slice a n c,.bool (q.kind==0)])∧TmsAt w'.heap.size w' a l)→LisR t w' e):=zq fun w' e h=>HR.out w' e (.inr ⟨rfl,h⟩)
   clear HR HZ HTY HTH HAT
   have fHT_3:=HT_3.out.all0
   simp only [bkAll,Nat.zero_add,Nat.reduceAdd,and_true] at fHT_3
   have fHQ_3:=HQ_3.out.all0
   simp only [bkAll,Nat.zero_add,Nat.reduceAdd,and_true] at fHQ_3
   go_wp2_with fail
   refine (HV.out _ _ _).mono ?_;rintro e w51 ⟨rfl,hB⟩
   clear fHT_3 fHQ_3
   have HB51_:=bz HB_2 hB
   have HT_51:=zq (HT_3.out.call hB)
   have HQ_51:=zq (HQ_3.out.call hB)
   have HL_51:=zq ((HL_3.out.keep hB).mono hB.size)
   clear hB HB_2 HT_3 HQ_3 HL_3 
   have fHT_51:=HT_51.out.all0
   simp only [bkAll,Nat.zero_add,Nat.reduceAdd,and_true] at fHT_51
   have fHQ_51:=HQ_51.out.all0
   simp only [bkAll,Nat.zero_add,Nat.reduceAdd,and_true] at fHQ_51
   generalize (q.kind==0)=qv at *
   go_wp2_with fail
   exact bodyPost_ret (v:=.tuple #[.slice a1 n c1,.bool qv]) (by simp [results,Tryz.results71,go_sem]) rfl ⟨HB51_.out,HR2.out _ _ ⟨a1,c1,rfl,HL_51.out⟩⟩
  ·skip
   have HR2:Hid (∀w' e,Thr w' Q1 e→LisR t w' e):=zq fun w' e h=>HR.out w' e (.inl ⟨rfl,h⟩)
   clear HR HZ HV HAT
   have fHT_3:=HT_3.out.all0
   simp only [bkAll,Nat.zero_add,Nat.reduceAdd,and_true] at fHT_3
   have fHQ_3:=HQ_3.out.all0
   simp only [bkAll,Nat.zero_add,Nat.reduceAdd,and_true] at fHQ_3
   go_wp2_with fail
   refine (HTY.out _ HB_2.out).mono ?_;rintro e w8 ⟨xa,xc,rfl,hB,hN⟩
   have HB8_:=bz HB_2 hB
   have HN8_:=zq hN.tms
   clear hB hN
   go_wp2_with fail
   refine (HTH.out _ _ _ _ HN8_.out).mono ?_;rintro e wt ⟨hBt,⟨At,ct,rfl,hTt⟩⟩
   exact ⟨rfl,HB8_.out.trans (hBt.mono HB8_.out.size),HR2.out _ _ ⟨At,ct,rfl,hTt⟩⟩
end Go.Proofs.YtpokpgkjaifccaaGreatDoorRR
namespace Hb
open Go Go.RowKit
theorem below_grown {lo:Nat} {a X Y:World} {v:Value} {e size n:Nat} {xs:List Value} (h:Below lo a X) (hl:lo≤X.heap.size) (hown:X.ownsRow lo e size v n xs) (hg:X.grownBy Y v.ownBlock):Below lo a Y:=h.grown hg hl (fun k hk=>(hown.lt k hk).1)
theorem row_stab {N N':Nat→Prop} {X X':World} {A:Option Addr} {l:List Tm} (h:TmsK N X A l) (hk:∀b,N b→X'.heap[b]? = X.heap[b]?) (hN:∀b,N b→N' b):TmsK N' X' A l:=h.keep hk hN
def vpRow (n:Nat):List Value→Prop | [v]=>∃g,v=.slice (some ⟨g,0,none⟩) n n | _=>False
def vcRow (n:Nat) (l:List Tm):List Value→(Nat→Prop)→World→Prop | [v],N,X=>∃g,v=.slice (some ⟨g,0,none⟩) n n∧TmsK N X (some ⟨g,0,none⟩) l | _,_,_=>False
def vpGoal (s:ByteArray) (n:Nat):List Value→Prop | [v]=>∃g,v=.agg #[.int .i64 3,.int .i64 0,.string s,.slice (some ⟨g,0,none⟩) n n] | _=>False
def vcGoal (s:ByteArray) (n:Nat) (l:List Tm):List Value→(Nat→Prop)→World→Prop | [v],N,X=>∃g,v=.agg #[.int .i64 3,.int .i64 0,.string s,.slice (some ⟨g,0,none⟩) n n]∧TmsK N X (some ⟨g,0,none⟩) l | _,_,_=>False
def rRow (A:List Nat) (j n:Nat) (l:List Tm):ROp:=rCall A [j] (vpRow n) (vcRow n l) fun vs _ _ _ _ h hk hN _=>match vs,h with | [_],⟨g,e,ht⟩=>⟨g,e,row_stab ht hk hN⟩
def rGoal (A:List Nat) (j:Nat) (s:ByteArray) (n:Nat) (l:List Tm):ROp:=rCall A [j] (vpGoal s n) (vcGoal s n l) fun vs _ _ _ _ h hk hN _=>match vs,h with | [_],⟨g,e,ht⟩=>⟨g,e,row_stab ht hk hN⟩
theorem rows_leaf {N:Nat→Prop} {X:World} {rs:List TR} {e:TypeId} (hN:N X.heap.size) (hl:rs.length≤maxLen) (h:∀x∈rs,x.1.args=[]):TmsK N (X.alloc (.cells (rowsC rs).toArray e)) (some ⟨X.heap.size,0,none⟩) (rs.map (·.1)) :=
 TmsK.rows hN hl fun x hx=>by rw [h x hx];exact TmsK.nil
def vpTm (x:Tm):List Value→Prop | [v]=>∃a c,v=.agg #[.int .i64 x.kind,.int .i64 x.num,.string x.name,.slice a x.args.length c] | _=>False
def rLf (A:List Nat) (j:Nat) (x:Tm):ROp:=rCall A [j] (vpTm x) (fun _ _ _=>True) fun _ _ _ _ _ _ _ _ _=>trivial
def vcTm (lo:Nat) (x:Tm):List Value→(Nat→Prop)→World→Prop | [v],N,X=>∃a c,v=.agg #[.int .i64 x.kind,.int .i64 x.num,.string x.name,.slice a x.args.length c]∧TmsK (fun b=>N b∧lo≤b) X a x.args | _,_,_=>False
def rTm (A:List Nat) (j lo:Nat) (x:Tm):ROp:=rCall A [j] (vpTm x) (vcTm lo x) fun vs _ _ _ _ h hk hN _=>match vs,h with | [_],⟨a,c,e,ht⟩=>⟨a,c,e,ht.keep (fun b hb=>hk b hb.1) (fun b hb=>⟨hN b hb.1,hb.2⟩)⟩
def vcOne (lo:Nat) (x:Tm):List Value→(Nat→Prop)→World→Prop | [v],N,X=>∃g a c,v=.slice (some ⟨g,0,none⟩) 1 1∧N g∧Bk X g (rowC (x,a,c))∧TmsK (fun b=>N b∧lo≤b) X a x.args | _,_,_=>False
def rOne (A:List Nat) (j lo:Nat) (x:Tm):ROp:=rCall A [j] (vpRow 1) (vcOne lo x) fun vs _ _ _ _ h hk hN _=>match vs,h with | [_],⟨g,a,c,e,hg,hb,ht⟩=>⟨g,a,c,e,hN g hg,hb.keeps (hk g hg),ht.keep (fun b hb=>hk b hb.1) (fun b hb=>⟨hN b hb.1,hb.2⟩)⟩
theorem one_new {lo:Nat} {N:Nat→Prop} {w0 wl X:World} {v:Value} {rs:List TR} {e:TypeId} {a:Option Addr} {l:List Tm} (ht:TmsK (fun b=>N b∧lo≤b) X a l) (hlt:∀b,N b→b<X.heap.size) (hlo:lo=w0.heap.size) (hB:Below wl.heap.size wl w0) (ho:OwnR wl.heap.size e w0 v rs):TmsK (fun b=>wl.heap.size≤b∧b<X.heap.size∧v.ownBlock≠some b) X a l :=
 ht.keep (fun _ _=>rfl) fun b hb=>⟨by have:=hB.size;omega,hlt b hb.1,fun e'=>by have:=(ho.own.lt b e').2;omega⟩
def tApp (wl:World) (e:TypeId) (rs:List TR) (x:Tm):List Value→World→Prop | [v],X=>∃a c,OwnR wl.heap.size e X v (rs++[(x,a,c)])∧Below wl.heap.size wl X | _,_=>False
theorem srv_calG {P:Program} {ops:Array Oper} {sp:List ROp} {BP:List Value→Prop} {B:Nat} {w0:World} {a0:Act} {T:List Value→World→Prop} {j:Nat} {o:Oper} {g:Nat} {b:Bool} (hc:(opAt sp j).cl=.call) (hg:o.guard=some (g,b)) (hv:∀val,VPs sp j val→val g=.bool b) (h:∀val E X N,EOf ops val a0 o E→AtC BP B w0 X N→VPs sp j val→VCs sp j val N X→∃f args,(execOp E o).run P X=.ok (.enter f args) X∧Calls P f args X fun e w'=>∃v,e=.returned v∧Below X.heap.size X w'∧(opAt sp j).vp (vals sp j (updV val j v))∧∀N':Nat→Prop,(∀b,N b→N' b)→(∀b,X.heap.size≤b→b<w'.heap.size→N' b)→(opAt sp j).vc (vals sp j (updV val j v)) N' w'):SrvAt P ops sp BP B w0 a0 T j o:=by
 unfold SrvAt;rw [hc]
 refine fun val X N h1 h2 h3 h4 hA hC=>⟨fun _=>?_,fun hf=>by rw [want_some hg (hv val hA)] at hf;simp at hf⟩
 obtain ⟨f,args,h5,h6⟩:=h val _ X N (EOf.at _ _ _ _) ⟨h1,h2,h3,h4⟩ hA hC
 exact .inr (.inr ⟨f,args,X,h5,h6⟩)
theorem app_runs {P:Program} {X:World} {o:Oper} {E:Operand→Value} {R:Value→World→Prop} (s x:Operand) (t:TypeId)
  (ho:o.op=.call { callee:=.builtin .append,args:=#[s,x],argTypes:=#[t,t] })
  (base:Nat) (e:TypeId) (i:TypeInfo) (z:Value) (size bytes:Nat) (ht:P.underlying t=some (.slice e)) (hi:P.info? e=some i) (hz:i.zero=some z)
  (hsize:i.size=size) (hby:i.bytes=bytes) (hzs:z.cells.size=size) (hsz:0<size)
  (v:Value) (n:Nat) (xs:List Value) (hs:E s=v) (hown:X.ownsRow base e size v n xs)
  (ad:Addr) (m c:Nat) (news:List Value) (hx:E x=.slice (some ad) m c) (hl:news.length=m * size) (hnews:∀j u,news[j]? = some u→X.cell? (ad.add j)=some u) (h1:∀u∈news,u.oneCell'=true)
  (h63:n+m≤maxLen) (hbytes:(n+m) * bytes≤140737488355328) (hbase:base≤X.heap.size)
  (h:∀v' w',w'.ownsRow base e size v' (n+m) (xs++news)→X.grownBy w' v.ownBlock→(v'.ownBlock=v.ownBlock∨v'.ownBlock=some X.heap.size)→R v' w'):RunsTo P (execOp E o) X R:=by
 obtain ⟨v',w',hr,h2,h3,_,h5⟩:=run_append_own_at (P:=P) X base t o.type e i z size bytes ht hi hz hsize hby hzs hsz v n xs hown ad m c news hl hnews h1 h63 hbytes hbase
 refine .inl ⟨v',w',?_,h v' w' h2 h3 h5⟩
 unfold execOp
 simp only [ho,resolve,invoke,builtin,Sem.run_bind,Sem.run_pure,Result.andThen_ok,List.map_toArray,List.map_cons,List.map_nil,hs,hx,hr]
end Hb
namespace Go.Proofs.YtpokpgkjaifccaaGreatDoorRR
open Go.RowKit Hb
set_option maxRecDepth 100000
theorem app_runsR {X wl:World} {o:Oper} {E:Operand→Value} (s x:Operand)
  (ho:o.op=.call { callee:=.builtin .append,args:=#[s,x],argTypes:=#[30,30] }) (v:Value) (rs:List TR) (r:TR) (g c:Nat) (hs:E s=v) (hown:OwnR wl.heap.size 32 X v rs)
  (hx:E x=.slice (some ⟨g,0,none⟩) 1 c) (hg:Bk X g (rowC r)) (hr:TmsK (fun b=>wl.heap.size≤b∧b<X.heap.size∧v.ownBlock≠some b) X r.2.1 r.1.args) (hn:rs.length≤100000) (hlo:Below wl.heap.size wl X) :
  RunsTo Tryz.prog (execOp E o) X fun v' w'=>True∧tApp wl 32 rs r.1 [v'] w':=by
 obtain ⟨i,hi,hz0,hz1,hz2⟩:=info_parts infoTm
 refine app_runs s x 30 ho wl.heap.size 32 i _ 4 56 Tryz.underlying30 hi hz0 hz1 hz2 rfl (by decide) v rs.length (rowsC rs) hs hown.own ⟨g,0,none⟩ 1 c (rowC r) hx rfl ?_ (rowC_one _) (by unfold maxLen;omega) (by omega) hlo.size fun v' w' h1 h2 h3=>?_
 ·intro j u hu
  have e1:(⟨g,0,none⟩:Addr).add j=⟨g,j,none⟩:=by unfold Addr.add;split <;> simp_all
  rw [e1]
  exact hg.c j u hu
 ·exact ⟨trivial,r.2.1,r.2.2,hown.snoc r hr h1 h2 h3,below_grown hlo hlo.size hown.own h2⟩
end Go.Proofs.YtpokpgkjaifccaaGreatDoorRR
namespace Hb
open Go Go.RowKit
def nilA:Tm:=atomT ⟨#[91,93]⟩
def consA (x t:Tm):Tm:=.mk 3 0 ⟨#[46]⟩ [x,t]
def lisA (l:List Tm):Tm:=l.foldr consA nilA
theorem lisA_drop (l:List Tm) (j:Nat) (h:j<l.length):lisA (l.drop j)=consA l[j] (lisA (l.drop (j+1))):=by rw [List.drop_eq_getElem_cons h];rfl
theorem lisA_end (l:List Tm) (k:Nat) (h:k=l.length):lisA (l.drop k)=nilA:=by subst h;rw [List.drop_length];rfl
def leafOk (x:Tm):Prop:=x.args=[]∧nodeOk x=true
theorem leafOk.nodes {x:Tm} (h:leafOk x):x.nodes=1:=by rw [Tm.nodes_eq,h.1];rfl
theorem leafOk.all {x:Tm} (h:leafOk x):x.allOk=true:=by rw [Tm.allOk_eq,h.1,h.2];rfl
theorem leafOk.valid {x:Tm} (h:leafOk x):validT x=true:=(validT_iff x).2 ⟨by rw [h.nodes];omega,h.all⟩
def vcRowK (Q:Nat→Prop) (n:Nat) (l:List Tm):List Value→(Nat→Prop)→World→Prop | [v],N,X=>∃g,v=.slice (some ⟨g,0,none⟩) n n∧TmsK (fun b=>N b∧Q b) X (some ⟨g,0,none⟩) l | _,_,_=>False
def rRowK (A:List Nat) (j n:Nat) (l:List Tm) (Q:Nat→Prop):ROp:=rCall A [j] (vpRow n) (vcRowK Q n l) fun vs _ _ _ _ h hk hN _=>match vs,h with | [_],⟨g,e,ht⟩=>⟨g,e,ht.keep (fun b hb=>hk b hb.1) fun b hb=>⟨hN b hb.1,hb.2⟩⟩
def tLis (w W:World) (gt:Nat) (t:Tm):List Value→World→Prop:=fun _ X=>∃g,Below w.heap.size w X∧(∀b,b<W.heap.size→b≠gt→X.heap[b]? = W.heap[b]?)∧Bk X gt [.int .i64 3,.int .i64 0,.string ⟨#[46]⟩,.slice (some ⟨g,0,none⟩) 2 2]∧TmsK (fun b=>b<X.heap.size∧w.heap.size+1<b∧b≠gt) X (some ⟨g,0,none⟩) t.args
end Hb
namespace Go.Proofs.YtpokpgkjaifccaaGreatDoorRR
open Go.RowKit Hb Go.Shelf
set_option maxRecDepth 100000
set_option linter.unusedSimpArgs false
set_option maxHeartbeats 6400000 in
theorem t_listL (A:Option Addr) (n cap:Nat) (l:List Tm) (a:Option Addr) (c:Nat) (w:World) (hn:n=l.length) (hm:n≤900) (hl:∀x∈l,leafOk x) (hT:TmsAt w.heap.size w A l) :
  Calls Tryz.prog 96 #[.slice A n cap,.agg #[.int .i64 2,.int .i64 0,.string ⟨#[91,93]⟩,.slice a 0 c]] w fun e w'=>∃A' c',e=.returned (tmV (lisA l) A' c')∧Below w.heap.size w w'∧NewT w w' A' (lisA l).args:=by
 obtain ⟨R,HR⟩:=lz (lisA l)
 have HN:=zq hn
 have HT:=zq hT
 have HLF:=zq hl
 have HVA:Hid (∀X,Calls Tryz.prog 31 #[.agg #[.int .i64 2,.int .i64 0,.string ⟨#[91,93]⟩,.slice a 0 c]] X fun e w'=>e=.returned (.bool true)∧Below X.heap.size X w'):=zq fun X=>(t_valid nilA a c X TmsK.nil).mono fun e w' h=>⟨by rw [h.1,show validT nilA=true from leafOk.valid ⟨rfl,rfl⟩],h.2⟩
 have HSZ:Hid (∀X,Calls Tryz.prog 52 #[.agg #[.int .i64 2,.int .i64 0,.string ⟨#[91,93]⟩,.slice a 0 c]] X fun e w'=>e=.returned (.int .i64 1)∧Below X.heap.size X w'):=zq fun X=>(size_left nilA a c X TmsK.nil).mono fun e w' h=>⟨by rw [h.1,show nilA.nodes=1 from leafOk.nodes ⟨rfl,rfl⟩];rfl,h.2⟩
 have HCL:Hid (∀X,Calls Tryz.prog 35 #[.agg #[.int .i64 2,.int .i64 0,.string ⟨#[91,93]⟩,.slice a 0 c]] X fun e w'=>∃A' c',e=.returned (.agg #[.int .i64 2,.int .i64 0,.string ⟨#[91,93]⟩,.slice A' 0 c'])∧Below X.heap.size X w'):=zq fun X=>(t_clone nilA a c X TmsK.nil).mono fun e w' ⟨A',c',he,hB,_⟩=>by
  rw [show cloneT nilA=nilA from if_pos (leafOk.valid ⟨rfl,rfl⟩)] at he
  exact ⟨A',c',he,hB⟩
 have HB0:Hid (Below w.heap.size w ((w.alloc (.cells #[.int .i64 2,.int .i64 0,.string ⟨#[91,93]⟩,.slice a 0 c] 32)).alloc (.cells #[.int .i64 0,.int .i64 0,.string ⟨#[]⟩,.slice none 0 0] 32))):=zq (((Below.refl _ w).alloc (Nat.le_refl _) _).alloc (by simp) _)
 have HK_0:Hid (Bks ((w.alloc (.cells #[.int .i64 2,.int .i64 0,.string ⟨#[91,93]⟩,.slice a 0 c] 32)).alloc (.cells #[.int .i64 0,.int .i64 0,.string ⟨#[]⟩,.slice none 0 0] 32)) [(w.heap.size+1,[.int .i64 0,.int .i64 0,.string ⟨#[]⟩,.slice none 0 0]),(w.heap.size,[.int .i64 2,.int .i64 0,.string ⟨#[91,93]⟩,.slice a 0 c])]):=zq (((Bks.nil w).new [.int .i64 2,.int .i64 0,.string ⟨#[91,93]⟩,.slice a 0 c] 32 rfl).new [.int .i64 0,.int .i64 0,.string ⟨#[]⟩,.slice none 0 0] 32 (by simp))
 have d1:¬((2000:Int)<(n:Int)):=by omega
 rw [←HR.out]
 clear hT hn hl
 go_enter Tryz.func96,Tryz.ntmps96
 have fHK_0:=HK_0.out.all
 simp only [bksAll,bkAll,Nat.zero_add,Nat.reduceAdd,and_true] at fHK_0
 go_wp2_with fail
 refine (HVA.out _).mono ?_;rintro e w1 ⟨rfl,hB⟩
 clear fHK_0
 have HB1_:=bz HB0 hB
 have HK_1:=zq (HK_0.out.call hB)
 clear hB HB0 HK_0 
 have fHK_1:=HK_1.out.all
 simp only [bksAll,bkAll,Nat.zero_add,Nat.reduceAdd,and_true] at fHK_1
 go_wp2_with fail
 refine (HSZ.out _).mono ?_;rintro e w2 ⟨rfl,hB⟩
 clear fHK_1
 have HB2_:=bz HB1_ hB
 have HK_2:=zq (HK_1.out.call hB)
 clear hB HB1_ HK_1 
 have fHK_2:=HK_2.out.all
 simp only [bksAll,bkAll,Nat.zero_add,Nat.reduceAdd,and_true] at fHK_2
 clear d1
 go_wp2_with fail
 go_loopw [5,23] (fun v i wr=>∃k:Nat,k≤n∧i=.int .i64 k∧v=.int .i64 (1+2 * (k:Int))∧Hid (Below w.heap.size w wr)∧Hid (Bks wr [(w.heap.size+1,[.int .i64 0,.int .i64 0,.string ⟨#[]⟩,.slice none 0 0]),(w.heap.size,[.int .i64 2,.int .i64 0,.string ⟨#[91,93]⟩,.slice a 0 c])])) (fun _ i _=>n-(intOf i).toNat)
 case atStart=>exact ⟨0,Nat.zero_le _,rfl,rfl,HB2_,HK_2⟩
 case round=>
  obtain ⟨k,hk,rfl,rfl,HBR,HKR⟩:=hrel
  clear HB2_ HK_2 fHK_2
  by_cases hlt:k<n
  ·have hkl:k<l.length:=by have:=HN.out;omega
   obtain ⟨b,off,xa,xc,hA',hb,q0,q1,q2,q3,hs⟩:=((HT.out.keep HBR.out).mono HBR.out.size).get k hkl
   have hx:=HLF.out _ (List.getElem_mem hkl)
   obtain ⟨x,HX⟩:=lz (l[k])
   rw [←HX.out] at q0 q1 q2 q3 hs hx
   have hx0:x.args.length=0:=by rw [hx.1];rfl
   rw [hx0] at q3
   have HXS:Hid (∀X,Calls Tryz.prog 52 #[.agg #[.int .i64 x.kind,.int .i64 x.num,.string x.name,.slice xa 0 xc]] X fun e w'=>e=.returned (.int .i64 1)∧Below X.heap.size X w'):=zq fun X=>by
    have:=(size_left x xa xc X (by rw [hx.1];exact TmsK.nil)).mono fun e w' h=>(⟨by rw [h.1,hx.nodes];rfl,h.2⟩:e=.returned (.int .i64 1)∧Below X.heap.size X w')
    unfold tmV at this;rwa [hx0] at this
   have HXF:Hid (∀X,Calls Tryz.prog 53 #[.agg #[.int .i64 x.kind,.int .i64 x.num,.string x.name,.slice xa 0 xc]] X fun e w'=>e=.returned (.bool true)∧Below X.heap.size X w'):=zq fun X=>by
    have:=fits_all x xa xc X (by rw [hx.1];exact TmsK.nil)
    unfold tmV at this;rw [hx0,hx.all] at this;exact this
   have k0:(0:Int)≤(k:Int):=by omega
   have k1:(k:Int)<(n:Nat):=by omega
   have hw1:wrap64 (1+2 * (k:Int)+2)=1+2 * ((k:Int)+1):=by rw [IntWalk.wrap64_in _ (by omega)];omega
   have hw2:wrap64 ((k:Int)+1)=(k:Int)+1:=IntWalk.wrap64_in _ (by omega)
   have hw3:¬(2000:Int)<1+2 * ((k:Int)+1):=by omega
   have hcw:∀X,Below wr.heap.size wr X→True:=fun _ _=>trivial
   cases hA'
   have hblt:b<wr.heap.size:=hb
   clear hx hx0 hs hcw
   have hz:=(Below.refl wr.heap.size wr).alloc (Nat.le_refl _) (.cells #[.int .i64 x.kind,.int .i64 x.num,.string x.name,.slice xa 0 xc] 32)
   obtain ⟨y1,HY1⟩:=lz (wr.alloc (.cells #[.int .i64 x.kind,.int .i64 x.num,.string x.name,.slice xa 0 xc] 32))
   have HX_20:Hid (Bk y1 wr.heap.size [.int .i64 x.kind,.int .i64 x.num,.string x.name,.slice xa 0 xc]):=zq (by rw [HY1.out];exact Bk.new wr [.int .i64 x.kind,.int .i64 x.num,.string x.name,.slice xa 0 xc] 32)
   have HB_20:Hid (Below w.heap.size w y1):=zq (by rw [HY1.out];exact HBR.out.alloc HBR.out.size _)
   have HK_20:Hid (Bks y1 [(w.heap.size+1,[.int .i64 0,.int .i64 0,.string ⟨#[]⟩,.slice none 0 0]),(w.heap.size,[.int .i64 2,.int .i64 0,.string ⟨#[91,93]⟩,.slice a 0 c])]):=zq (by rw [HY1.out];exact HKR.out.al _)
   clear hz HBR HKR
   go_wp2_with fail
   rw [←HY1.out]
   clear HY1
   generalize wr.heap.size=gx at *
   have fHK_20:=HK_20.out.all
   simp only [bksAll,bkAll,Nat.zero_add,Nat.reduceAdd,and_true] at fHK_20
   have fHX_20:=HX_20.out.all0
   simp only [bkAll,Nat.zero_add,Nat.reduceAdd,and_true] at fHX_20
   refine (HXS.out _).mono ?_;rintro e w31 ⟨rfl,hB⟩
   clear fHK_20 fHX_20
   have HB31_:=bz HB_20 hB
   have HK_31:=zq (HK_20.out.call hB)
   have HX_31:=zq (HX_20.out.call hB)
   clear hB HB_20 HK_20 HX_20 
   have fHK_31:=HK_31.out.all
   simp only [bksAll,bkAll,Nat.zero_add,Nat.reduceAdd,and_true] at fHK_31
   have fHX_31:=HX_31.out.all0
   simp only [bkAll,Nat.zero_add,Nat.reduceAdd,and_true] at fHX_31
   go_wp2_with fail
   refine (HXF.out _).mono ?_;rintro e w32 ⟨rfl,hB⟩
   clear fHK_31 fHX_31
   have HB32_:=bz HB31_ hB
   have HK_32:=zq (HK_31.out.call hB)
   have HX_32:=zq (HX_31.out.call hB)
   clear hB HB31_ HK_31 HX_31 
   have fHK_32:=HK_32.out.all
   simp only [bksAll,bkAll,Nat.zero_add,Nat.reduceAdd,and_true] at fHK_32
   have fHX_32:=HX_32.out.all0
   simp only [bkAll,Nat.zero_add,Nat.reduceAdd,and_true] at fHX_32
   go_wp2_with fail
   go_roundw
   case rel=>exact ⟨k+1,by omega,by go_num,by congr 1,HB32_,HK_32⟩
   case measure=>simp [intOf] <;> omega
  ·have hkn:k=n:=by omega
   subst hkn
   have HB_50:=HBR
   have HK_50:=HKR
   clear HBR HKR HVA HSZ
   have fHK_50:=HK_50.out.all
   simp only [bksAll,bkAll,Nat.zero_add,Nat.reduceAdd,and_true] at fHK_50
   go_wp2_with fail
   refine (HCL.out _).mono ?_;rintro e w61 ⟨ta,tc,rfl,hB⟩
   clear fHK_50
   have HB61_:=bz HB_50 hB
   have HK_61:=zq (HK_50.out.call hB)
   clear hB HB_50 HK_50 
   have fHK_61:=HK_61.out.all
   simp only [bksAll,bkAll,Nat.zero_add,Nat.reduceAdd,and_true] at fHK_61
   have hz:=(Below.refl w61.heap.size w61).alloc (Nat.le_refl _) (.cells #[.int .i64 2,.int .i64 0,.string ⟨#[91,93]⟩,.slice ta 0 tc] 32)
   obtain ⟨y1,HY1⟩:=lz (w61.alloc (.cells #[.int .i64 2,.int .i64 0,.string ⟨#[91,93]⟩,.slice ta 0 tc] 32))
   have HT_80:Hid (Bk y1 w61.heap.size [.int .i64 2,.int .i64 0,.string ⟨#[91,93]⟩,.slice ta 0 tc]):=zq (by rw [HY1.out];exact Bk.new w61 [.int .i64 2,.int .i64 0,.string ⟨#[91,93]⟩,.slice ta 0 tc] 32)
   have HB_80:Hid (Below w.heap.size w y1):=zq (by rw [HY1.out];exact HB61_.out.alloc HB61_.out.size _)
   have HK_80:Hid (Bks y1 [(w.heap.size+1,[.int .i64 0,.int .i64 0,.string ⟨#[]⟩,.slice none 0 0]),(w.heap.size,[.int .i64 2,.int .i64 0,.string ⟨#[91,93]⟩,.slice a 0 c])]):=zq (by rw [HY1.out];exact HK_61.out.al _)
   have HGT:Hid (w.heap.size+1<w61.heap.size):=zq (HK_61.out.lt 0 rfl)
   have hw0:wrap64 ((k:Int)-1)=(k:Int)-1:=IntWalk.wrap64_in _ (by omega)
   clear hz HB61_ HK_61 fHK_61
   go_wp2_with fail
   rw [←HY1.out]
   clear HY1
   generalize w61.heap.size=gt at *
   generalize k=n at *
   go_loopw [9] (fun i wr=>∃k:Nat,k≤n∧(k=0→i=.int .i64 (-1))∧(∀j:Nat,k=j+1→i=.int .i64 j)∧∃(u:Tm) (ua:Option Addr) (uc:Nat),Hid (u=lisA (l.drop k))∧Hid (Below w.heap.size w wr)∧Hid (Bks wr [(w.heap.size+1,[.int .i64 0,.int .i64 0,.string ⟨#[]⟩,.slice none 0 0]),(w.heap.size,[.int .i64 2,.int .i64 0,.string ⟨#[91,93]⟩,.slice a 0 c])])∧Hid (Bk wr gt [.int .i64 u.kind,.int .i64 u.num,.string u.name,.slice ua u.args.length uc])∧Hid (TmsK (fun b=>b<wr.heap.size∧w.heap.size+1<b∧b≠gt) wr ua u.args)) (fun i _=>(intOf i+1).toNat)
   case atStart=>exact ⟨n,Nat.le_refl _,fun h=>by subst h;rfl,fun j h=>by congr 1;omega,nilA,ta,tc,zq (by rw [lisA_end l n HN.out]),HB_80,HK_80,HT_80,zq TmsK.nil⟩
   case round=>
    obtain ⟨k,hk,hi0,hi1,u,ua,uc,HU,HBR,HKR,HTR,HMR⟩:=hrel
    clear HB_80 HK_80 HT_80 hw0
    rcases Nat.eq_zero_or_pos k with rfl | hpos
    ·have hi:=hi0 rfl
     subst hi
     have HU2:Hid (R=u):=zq (by rw [HU.out,HR.out,List.drop_zero])
     have cu:=HTR.out.all0
     simp only [bkAll,Nat.zero_add,Nat.reduceAdd,and_true] at cu
     have hlo:w.heap.size+1<w.heap.size+1+1:=by omega
     have HMZ:Hid (TmsK (fun b=>w.heap.size+1+1≤b∧b<wr.heap.size) wr ua u.args):=zq (HMR.out.keep (fun _ _=>rfl) (fun b hb=>⟨hb.2.1,hb.1⟩))
     obtain ⟨wz,HWZ,HBZ,HKZ,HNZ⟩:=fin4 (xc:=uc) 0 HBR.out HKR.out rfl rfl HMZ.out (by omega) hlo
     have ca:=HKR.out.all
     simp only [bksAll,bkAll,Nat.zero_add,Nat.reduceAdd,and_true] at ca
     clear hi0 hi1 HU HBR HKR HTR HMR HMZ HCL
     go_wp2_with fail
     rw [←HWZ.out]
     have cz:=HKZ.out.all
     simp only [bksAll,bkAll,Nat.zero_add,Nat.reduceAdd,and_true,List.set_cons_zero] at cz
     exact bodyPost_ret (v:=.agg #[.int .i64 u.kind,.int .i64 u.num,.string u.name,.slice ua u.args.length uc]) (by simp [results,Tryz.results96,go_sem,cz]) rfl (by rw [HU2.out];exact ⟨ua,uc,rfl,HBZ.out,HNZ.out.newT (by omega)⟩)
    ·obtain ⟨j,rfl⟩:∃j,k=j+1:=⟨k-1,by omega⟩
     have hi:=hi1 j rfl
     subst hi
     have hjl:j<l.length:=by have:=HN.out;omega
     obtain ⟨b,off,xa,xc,hA',hb,q0,q1,q2,q3,hs⟩:=((HT.out.keep HBR.out).mono HBR.out.size).get j hjl
     have hx:=HLF.out _ (List.getElem_mem hjl)
     obtain ⟨x,HX⟩:=lz (l[j])
     rw [←HX.out] at q0 q1 q2 q3 hs hx
     have hx0:x.args.length=0:=by rw [hx.1];rfl
     rw [hx0] at q3
     have HXN:Hid (x.args=[]):=zq hx.1
     have HXC:Hid (∀X,Below wr.heap.size wr X→Calls Tryz.prog 35 #[.agg #[.int .i64 x.kind,.int .i64 x.num,.string x.name,.slice xa 0 xc]] X fun e w'=>∃A' c',e=.returned (.agg #[.int .i64 x.kind,.int .i64 x.num,.string x.name,.slice A' 0 c'])∧Below X.heap.size X w'):=zq fun X _=>by
      have:=t_clone x xa xc X (by rw [hx.1];exact TmsK.nil)
      unfold tmV at this;rw [show cloneT x=x from if_pos hx.valid,hx0] at this
      exact this.mono fun e w' ⟨A',c',he,hB,_⟩=>⟨A',c',he,hB⟩
     have k0:(0:Int)≤(j:Int):=by omega
     have k1:(j:Int)<(n:Nat):=by omega
     have HU2:Hid (consA x u=lisA (l.drop j)):=zq (by rw [HU.out,HX.out];exact (lisA_drop l j hjl).symm)
     cases hA'
     clear hx hx0 hs hi0 hi1 HU HX
     have u0:=HTR.out.all0
     simp only [bkAll,Nat.zero_add,Nat.reduceAdd,and_true] at u0
     go_wp2_with fail
     rename_i K9 hK9
     refine region_last (w0:=wr) [rPure [] [0] (fun | [v]=>v=.slice (some ⟨b,off,none⟩) n cap | _=>False),
       rPure [] [1] (fun | [v]=>v=.int .i64 (j:Int) | _=>False),
       rPure [0,1] [2] (fun | [v]=>v=.pointer (some ⟨b,off+j * 4,none⟩) | _=>False),
       rVal (List.range 3) [3] (fun | [v]=>v=.agg #[.int .i64 x.kind,.int .i64 x.num,.string x.name,.slice xa 0 xc] | _=>False),
       rCall (List.range 4) [4] (fun | [v]=>∃a c,v=.agg #[.int .i64 x.kind,.int .i64 x.num,.string x.name,.slice a 0 c] | _=>False) (fun _ _ _=>True) (fun _ _ _ _ _ _ _ _ _=>trivial),
       rVal [] [5] (fun | [v]=>v=.agg #[.int .i64 u.kind,.int .i64 u.num,.string u.name,.slice ua u.args.length uc] | _=>False),
       rRowK (List.range 6) 6 2 [x,u] (fun b=>w.heap.size+1<b∧b≠gt),
       rPure (List.range 7) [7,6] (fun | [v,z]=>∃g,z=.slice (some ⟨g,0,none⟩) 2 2∧v=.agg #[.int .i64 3,.int .i64 0,.string ⟨#[46]⟩,.slice (some ⟨g,0,none⟩) 2 2] | _=>False),
       rLast (List.range 8) [] (fun _=>True)]
       [some 50,some 51,some 52,some 53,some 54,some 55,some 56,some 57,none] (fun _=>True) (wr.heap.size) 8 (tLis w wr gt (consA x u)) (by kernel_rfl) (Nat.le_refl _) (by kernel_rfl) (by kernel_rfl) ⟨by decide,rfl⟩ (fun j o ho=>?srv9) (fun val Y hv HF=>?fin9)
     case srv9=>
       have hlt:j<9:=(Array.getElem?_eq_some_iff.1 ho).1
       rcases (show j=0∨j=1∨j=2∨j=3∨j=4∨j=5∨j=6∨j=7∨j=8 by omega) with rfl | rfl | rfl | rfl | rfl | rfl | rfl | rfl | rfl
       ·cases ho
        refine srv_pure rfl rfl (fun val E hE hA=>?_)
        have e0:=hE.t 0 (.slice (some ⟨b,off,none⟩) n cap) rfl
        exact ⟨.slice (some ⟨b,off,none⟩) n cap,fun X=>by simp [execOp,go_sem,e0],rfl⟩
       ·cases ho
        refine srv_pure rfl rfl (fun val E hE hA=>?_)
        have e9:=hE.t 9 (.int .i64 (j:Int)) rfl
        exact ⟨.int .i64 (j:Int),fun X=>by simp [execOp,go_sem,e9],rfl⟩
       ·cases ho
        refine srv_pure rfl rfl (fun val E hE hA=>?_)
        have e50:=hE.t 50 (val 0) rfl
        have h0:val 0=.slice (some ⟨b,off,none⟩) n cap:=hA 0 (oz rfl)
        have e51:=hE.t 51 (val 1) rfl
        have h1:val 1=.int .i64 (j:Int):=hA 1 (oz rfl)
        have kk:¬n≤j:=by omega
        exact ⟨.pointer (some ⟨b,off+j * 4,none⟩),fun X=>by simp [execOp,go_sem,e50,h0,e51,h1,kk],rfl⟩
       ·cases ho
        refine srv_val rfl rfl (fun _ _ _=>trivial) (fun val E X hE hB hA=>?_)
        have e52:=hE.t 52 (val 2) rfl
        have h2:val 2=.pointer (some ⟨b,off+j * 4,none⟩):=hA 2 (oz rfl)
        have z0:=(hB.cell (p:=⟨b,off+j * 4,none⟩) hb).trans q0
        have z1:=(hB.cell (p:=⟨b,off+j * 4+1,none⟩) hb).trans q1
        have z2:=(hB.cell (p:=⟨b,off+j * 4+2,none⟩) hb).trans q2
        have z3:=(hB.cell (p:=⟨b,off+j * 4+3,none⟩) hb).trans q3
        exact ⟨.agg #[.int .i64 x.kind,.int .i64 x.num,.string x.name,.slice xa 0 xc],by simp [execOp,go_sem,e52,h2,z0,z1,z2,z3],rfl⟩
       ·cases ho
        refine srv_cal rfl rfl fun val E X N hE hC hA hc=>?_
        have e53:=hE.t 53 (val 3) rfl
        have h3:val 3=.agg #[.int .i64 x.kind,.int .i64 x.num,.string x.name,.slice xa 0 xc]:=hA 3 (oz rfl)
        exact ⟨_,_,by simp [execOp,go_sem,hE.f,e53,h3] <;> rfl,(HXC.out X hC.bel).mono fun e w' h=>by
         obtain ⟨a,c,he,hB⟩:=h
         exact ⟨_,he,hB,⟨a,c,rfl⟩,fun _ _ _=>trivial⟩⟩
       ·cases ho
        refine srv_val rfl rfl (fun _ _ _=>trivial) (fun val E X hE hB hA=>?_)
        have e8:=hE.t 8 (.pointer (some ⟨gt,0,none⟩)) rfl
        have HX:=(HTR.out.call hB).all0
        simp only [bkAll,Nat.zero_add,Nat.reduceAdd,and_true] at HX
        exact ⟨.agg #[.int .i64 u.kind,.int .i64 u.num,.string u.name,.slice ua u.args.length uc],by simp [execOp,go_sem,e8,HX],rfl⟩
       ·cases ho
        refine srv_mk rfl rfl fun val E X N hE hC hA hc=>?_
        have e54:=hE.t 54 (val 4) rfl
        have e55:=hE.t 55 (val 5) rfl
        obtain ⟨a4,c4,h4⟩:∃a c,val 4=.agg #[.int .i64 x.kind,.int .i64 x.num,.string x.name,.slice a 0 c]:=hA 4 (oz rfl)
        have h5:val 5=.agg #[.int .i64 u.kind,.int .i64 u.num,.string u.name,.slice ua u.args.length uc]:=hA 5 (oz rfl)
        have hgt:=HTR.out.lt
        have hbs:=hC.bel.size
        have hXL:x.args.length=0:=by rw [HXN.out];rfl
        have hrow:∀N':Nat→Prop,(∀b,N b→N' b)→N' X.heap.size→TmsK (fun b=>N' b∧(fun b=>w.heap.size+1<b∧b≠gt) b) (X.alloc (.cells #[.int .i64 x.kind,.int .i64 x.num,.string x.name,.slice a4 0 c4,.int .i64 u.kind,.int .i64 u.num,.string u.name,.slice ua u.args.length uc] 32)) (some ⟨X.heap.size,0,none⟩) [x,u]:=fun N' h1 h2=>by
         have:=TmsK.rows (K:=fun b=>N' b∧(fun b=>w.heap.size+1<b∧b≠gt) b) (w:=X) (rs:=[(x,a4,c4),(u,ua,uc)]) (e:=32) ⟨h2,by have:=HBR.out.size;have:=HGT.out;omega,by omega⟩ (by simp [maxLen]) (fun r hr=>by
          simp only [List.mem_cons,List.mem_nil_iff,or_false] at hr
          rcases hr with rfl | rfl
          ·rw [HXN.out];exact TmsK.nil
          ·exact HMR.out.keep (fun b hb=>((hC.bel.trans ((Below.refl _ X).alloc hC.bel.size _)).block b hb.1)) (fun b hb=>⟨h1 b (hC.old b hb.1),hb.2⟩))
         have e0:rowsC [(x,a4,c4),(u,ua,uc)]=[.int .i64 x.kind,.int .i64 x.num,.string x.name,.slice a4 0 c4,.int .i64 u.kind,.int .i64 u.num,.string u.name,.slice ua u.args.length uc]:=by
          show [Value.int .i64 x.kind,.int .i64 x.num,.string x.name,.slice a4 x.args.length c4,_,_,_,_]=_
          rw [hXL]
         rw [e0] at this
         exact this
        exact ⟨.slice (some ⟨X.heap.size,0,none⟩) 2 2,X.alloc (.cells #[.int .i64 x.kind,.int .i64 x.num,.string x.name,.slice a4 0 c4,.int .i64 u.kind,.int .i64 u.num,.string u.name,.slice ua u.args.length uc] 32),by simp [execOp,go_sem,e54,e55,h4,h5],(Below.refl _ _).alloc (Nat.le_refl _) _,⟨_,rfl⟩,fun N' h1 h2=>⟨_,rfl,hrow N' h1 (h2 _ (Nat.le_refl _) (by simp))⟩⟩
       ·cases ho
        refine srv_pure rfl rfl (fun val E hE hA=>?_)
        have e56:=hE.t 56 (val 6) rfl
        obtain ⟨g,h6⟩:∃g,val 6=.slice (some ⟨g,0,none⟩) 2 2:=hA 6 (oz rfl)
        exact ⟨.agg #[.int .i64 3,.int .i64 0,.string ⟨#[46]⟩,.slice (some ⟨g,0,none⟩) 2 2],fun X=>by simp [execOp,go_sem,hE.c,e56,h6],g,h6,rfl⟩
       ·cases ho
        refine srv_last rfl rfl fun val E X N hE hC hA hc _=>?_
        obtain ⟨g,h6,ht⟩:∃g,val 6=.slice (some ⟨g,0,none⟩) 2 2∧TmsK (fun b=>N b∧w.heap.size+1<b∧b≠gt) X (some ⟨g,0,none⟩) [x,u]:=hc 6 (oz rfl) rfl
        obtain ⟨g',k6,h7⟩:∃g,val 6=.slice (some ⟨g,0,none⟩) 2 2∧val 7=.agg #[.int .i64 3,.int .i64 0,.string ⟨#[46]⟩,.slice (some ⟨g,0,none⟩) 2 2]:=hA 7 (oz rfl)
        rw [h6] at k6
        injection k6 with k6 _ _
        injection k6 with k6
        injection k6 with k6 _ _
        subst k6
        have e8:=hE.t 8 (.pointer (some ⟨gt,0,none⟩)) rfl
        have e57:=hE.t 57 (val 7) rfl
        have hk:=HTR.out.call hC.bel
        have z0:=hk.c 0 _ rfl
        have f0:=hk.f 0
        have z1:=hk.c 1 _ rfl
        have f1:=hk.f 1
        have z2:=hk.c 2 _ rfl
        have f2:=hk.f 2
        have z3:=hk.c 3 _ rfl
        have f3:=hk.f 3
        have hgw:w.heap.size≤gt:=by have:=HGT.out;omega
        have hgl:=HTR.out.lt
        have hbs:=hC.bel.size
        have hN:TmsK (fun b=>b<(((((X.setCell ⟨gt,0,none⟩ (.int .i64 3)).setCell ⟨gt,1,none⟩ (.int .i64 0)).setCell ⟨gt,2,none⟩ (.string ⟨#[46]⟩)).setCell ⟨gt,3,none⟩ (.slice (some ⟨g,0,none⟩) 2 2))).heap.size∧w.heap.size+1<b∧b≠gt) (((((X.setCell ⟨gt,0,none⟩ (.int .i64 3)).setCell ⟨gt,1,none⟩ (.int .i64 0)).setCell ⟨gt,2,none⟩ (.string ⟨#[46]⟩)).setCell ⟨gt,3,none⟩ (.slice (some ⟨g,0,none⟩) 2 2))) (some ⟨g,0,none⟩) [x,u]:=ht.keep (fun b hb=>by
         have hne:b≠gt:=hb.2.2
         rw [heap_setCell_other _ _ _ _ hne,heap_setCell_other _ _ _ _ hne,heap_setCell_other _ _ _ _ hne,heap_setCell_other _ _ _ _ hne]) (fun b hb=>⟨by simpa using hC.lt b hb.1,hb.2⟩)
        have hbw:Below w.heap.size w (((((X.setCell ⟨gt,0,none⟩ (.int .i64 3)).setCell ⟨gt,1,none⟩ (.int .i64 0)).setCell ⟨gt,2,none⟩ (.string ⟨#[46]⟩)).setCell ⟨gt,3,none⟩ (.slice (some ⟨g,0,none⟩) 2 2))):=((((HBR.out.trans (hC.bel.mono HBR.out.size)).setCell (p:=⟨gt,0,none⟩) hgw _).setCell (p:=⟨gt,1,none⟩) hgw _).setCell (p:=⟨gt,2,none⟩) hgw _).setCell (p:=⟨gt,3,none⟩) hgw _
        have hot:∀b,b<wr.heap.size→b≠gt→(((((X.setCell ⟨gt,0,none⟩ (.int .i64 3)).setCell ⟨gt,1,none⟩ (.int .i64 0)).setCell ⟨gt,2,none⟩ (.string ⟨#[46]⟩)).setCell ⟨gt,3,none⟩ (.slice (some ⟨g,0,none⟩) 2 2))).heap[b]? = wr.heap[b]?:=fun b hb hne=>by
         rw [heap_setCell_other _ _ _ _ hne,heap_setCell_other _ _ _ _ hne,heap_setCell_other _ _ _ _ hne,heap_setCell_other _ _ _ _ hne]
         exact hC.bel.block b hb
        exact .inr (.inl ⟨((((X.setCell ⟨gt,0,none⟩ (.int .i64 3)).setCell ⟨gt,1,none⟩ (.int .i64 0)).setCell ⟨gt,2,none⟩ (.string ⟨#[46]⟩)).setCell ⟨gt,3,none⟩ (.slice (some ⟨g,0,none⟩) 2 2)),by simp [execOp,go_sem,e8,e57,h7,z0,z1,z2,z3,f0,f1,f2,f3],trivial,g,hbw,hot,(((hk.set 0 _).set 1 _).set 2 _).set 3 _,hN⟩)
     case fin9=>
      have h0:val 0=.slice (some ⟨b,off,none⟩) n cap:=hv 0 (by decide)
      have h1:val 1=.int .i64 (j:Int):=hv 1 (by decide)
      have h2:val 2=.pointer (some ⟨b,off+j * 4,none⟩):=hv 2 (by decide)
      have h3:val 3=.agg #[.int .i64 x.kind,.int .i64 x.num,.string x.name,.slice xa 0 xc]:=hv 3 (by decide)
      obtain ⟨_,_,h4⟩:∃a c,val 4=.agg #[.int .i64 x.kind,.int .i64 x.num,.string x.name,.slice a 0 c]:=hv 4 (by decide)
      have h5:val 5=.agg #[.int .i64 u.kind,.int .i64 u.num,.string u.name,.slice ua u.args.length uc]:=hv 5 (by decide)
      obtain ⟨_,h6⟩:∃g,val 6=.slice (some ⟨g,0,none⟩) 2 2:=hv 6 (by decide)
      obtain ⟨_,_,h7⟩:∃g,val 6=.slice (some ⟨g,0,none⟩) 2 2∧val 7=.agg #[.int .i64 3,.int .i64 0,.string ⟨#[46]⟩,.slice (some ⟨g,0,none⟩) 2 2]:=hv 7 (by decide)
      obtain ⟨g9,hb9,ho9,hk9,ht9⟩:=HF
      refine hK9 _ _ ?_
      simp only [fillD,List.set_cons_zero,List.set_cons_succ,Nat.reduceAdd,Nat.zero_add,h0,h1,h2,h3,h4,h5,h6,h7]
      have HT_90:=zq hk9
      have HM_90:=zq ht9
      have HB_90:=zq hb9
      have HK_90:Hid (Bks Y [(w.heap.size+1,[.int .i64 0,.int .i64 0,.string ⟨#[]⟩,.slice none 0 0]),(w.heap.size,[.int .i64 2,.int .i64 0,.string ⟨#[91,93]⟩,.slice a 0 c])]):=zq (HKR.out.keep (fun z hz=>by
       have hlt:=(HKR.out.bk z hz).lt
       simp only [List.mem_cons,List.mem_nil_iff,or_false] at hz
       refine ho9 z.1 hlt ?_
       have:=HGT.out
       rcases hz with rfl | rfl
       ·show w.heap.size+1≠gt;omega
       ·show w.heap.size≠gt;omega))
      have hw0:wrap64 ((j:Int)-1)=(j:Int)-1:=IntWalk.wrap64_in _ (by omega)
      clear hv hK9 h0 h1 h2 h3 h4 h5 h6 h7 hk9 ht9 hb9 ho9 HBR HKR HTR HMR u0 HXC HXN q0 q1 q2 q3
      go_wp2_with fail
      go_roundw
      case rel=>exact ⟨j,by omega,fun h=>by subst h;rfl,fun i h=>by congr 1;omega,consA x u,_,2,HU2,HB_90,HK_90,HT_90,HM_90⟩
      case measure=>simp [intOf] <;> omega
end Go.Proofs.YtpokpgkjaifccaaGreatDoorRR
