/- Parts of the proof. -/
import Derived.Test.YtpokpgkjaifccaaGreatDoorRRH01
import Derived.Test.YtpokpgkjaifccaaGreatDoorRRH10
import Derived.Test.YtpokpgkjaifccaaGreatDoorRRH02
namespace Hb
open Go Go.RowKit
def aboutT (f:ByteArray) (ns:List ByteArray) (c:Tm):Tm:=if validT c=true then ballT f (ns.map atomT++[if 2000<3+ns.length+c.nodes then atomT ⟨#[46,46,46]⟩ else c]) else tm0
theorem rows_last {lo e:Nat} {W:World} {v:Value} {rs:List TR} {r:TR} (hown:W.ownsRow lo e 4 v (rs.length+1) (rowsC rs++rowC r)) (h0:∀x∈rs,x.1.args=[]) (hr:TmsAt lo W r.2.1 r.1.args) (hlo:lo≤W.heap.size):∃A cap,v=.slice A (rs.length+1) cap∧TmsAt W.heap.size W A (rs.map (·.1)++[r.1]):=by
 have h:OwnR 0 e W v (rs++[r]):=by
  constructor
  ·rw [rowsC_app,List.length_append]
   have e1:rowsC [r]=rowC r:=by unfold rowsC;simp
   rw [e1]
   refine ⟨hown.1,?_⟩
   rcases hown.2 with hn | ⟨g,cap,cur,hv,hg,rest⟩
   ·exact .inl hn
   ·exact .inr ⟨g,cap,cur,hv,Nat.zero_le _,rest⟩
  ·intro x hx
   rcases List.mem_append.1 hx with hx | hx
   ·rw [h0 x hx];exact TmsK.nil
   ·rw [List.mem_singleton] at hx
    subst hx
    refine TmsK.keep hr (fun _ _=>rfl) (fun b hb=>⟨Nat.zero_le _,Nat.lt_of_lt_of_le hb hlo,?_⟩)
    rcases hown.2 with ⟨hn,_⟩ | ⟨g,cap,cur,hv,hg,rest⟩
    ·rw [hn];simp [Value.ownBlock]
    ·rw [hv];simp [Value.ownBlock];omega
 obtain ⟨A,cap,hv,ht⟩:=h.tms
 refine ⟨A,cap,by rw [hv];simp,?_⟩
 rw [List.map_append] at ht
 exact ht.at (fun b hb=>hb.2)
theorem own_keepB {lo e k:Nat} {w w':World} {v:Value} {xs:List Value} (h:w.ownsRow lo e 4 v k xs) (_hs:w.heap.size≤w'.heap.size) (hb:∀b,lo≤b→b<w.heap.size→w'.heap[b]? = w.heap[b]?):w'.ownsRow lo e 4 v k xs:=by
 refine ⟨h.1,?_⟩
 rcases h.2 with hn | ⟨g,cap,cur,hv,hg,hh,rest⟩
 ·exact .inl hn
 ·exact .inr ⟨g,cap,cur,hv,hg,by rw [hb g hg (Array.getElem?_eq_some_iff.1 hh).1];exact hh,rest⟩
end Hb
namespace Go.Proofs.YtpokpgkjaifccaaGreatDoorRR
open Go.RowKit Hb
set_option maxRecDepth 100000
theorem at_appMT {ops:Array Oper} {rest:List Oper} {a:Act} {Q:Exit→Act→World→Prop} {w:World} {d t p f x g} (h:wpList Tryz.prog ops Q (⟨d,.call { callee:=.builtin .append,args:=x,argTypes:=#[30,30] },t,p,f,g⟩::rest) a w):wpList Tryz.prog ops Q (⟨d,.call { callee:=.builtin .append,args:=x,argTypes:=#[30,30] },t,p,f,g⟩::rest) a w:=h
set_option maxHeartbeats 6400000 in
theorem b_about (c:Tm) (CA:Option Addr) (cc:Nat) (f:ByteArray) (NA:Option Addr) (nc:Nat) (ns:List ByteArray) (w:World) (hf:f.size≤100) (hC:TmsAt w.heap.size w CA c.args) (hN:StrsAt w NA ns) (hn2:ns.length≤2) (hns:∀s∈ns,s.size≤100) :
  Calls Tryz.prog 99 #[tmV c CA cc,.string f,.slice NA ns.length nc] w fun e w'=>∃A' c',e=.returned (tmV (aboutT f ns c) A' c')∧Below w.heap.size w w'∧NewT w w' A' (aboutT f ns c).args:=by
 obtain ⟨y,HY⟩:=lz (aboutT f ns c)
 rw [←HY.out]
 have HC:=zq hC
 have HN:=zq hN
 have HNS:=zq hns
 obtain ⟨L,HL⟩:=lz (ns.length)
 rw [←HL.out] at hn2 ⊢
 have HVT:Hid (∀W,Below w.heap.size w W→Calls Tryz.prog 31 #[.agg #[.int .i64 c.kind,.int .i64 c.num,.string c.name,.slice CA c.args.length cc]] W fun e w'=>e=.returned (.bool (validT c))∧Below W.heap.size W w'):=zq fun W hW=>t_valid c CA cc W ((hC.keep hW).mono hW.size)
 have HSZ:Hid (∀W,Below w.heap.size w W→Calls Tryz.prog 52 #[.agg #[.int .i64 c.kind,.int .i64 c.num,.string c.name,.slice CA c.args.length cc]] W fun e w'=>e=.returned (.int .i64 (min c.nodes 2001:Nat))∧Below W.heap.size W w'):=zq fun W hW=>size_left c CA cc W ((hC.keep hW).mono hW.size)
 have HAT:Hid (∀(s:ByteArray),s.size≤100→∀W,Calls Tryz.prog 75 #[.string s] W fun e w'=>∃A' c',e=.returned (.agg #[.int .i64 2,.int .i64 0,.string s,.slice A' 0 c'])∧Below W.heap.size W w'):=zq fun s hs W=>t_atom s hs W
 have HRS:Hid (∀(l:List Tm) W A cap,TmsAt W.heap.size W A l→Calls Tryz.prog 92 #[.string f,.slice A l.length cap] W fun e w'=>∃A' c',e=.returned (tmV (ballT f l) A' c')∧Below W.heap.size W w'∧NewT W w' A' (ballT f l).args):=zq fun l W A cap h=>b_raise f A cap l W hf h
 have HB0:Hid (Below w.heap.size w ((w.alloc (.cells #[.int .i64 c.kind,.int .i64 c.num,.string c.name,.slice CA c.args.length cc] 32)).alloc (.cells #[.int .i64 0,.int .i64 0,.string ⟨#[]⟩,.slice none 0 0] 32))):=zq (((Below.refl _ w).alloc (Nat.le_refl _) _).alloc (by simp) _)
 have HK0:Hid (Bks ((w.alloc (.cells #[.int .i64 c.kind,.int .i64 c.num,.string c.name,.slice CA c.args.length cc] 32)).alloc (.cells #[.int .i64 0,.int .i64 0,.string ⟨#[]⟩,.slice none 0 0] 32)) [(w.heap.size+1,[.int .i64 0,.int .i64 0,.string ⟨#[]⟩,.slice none 0 0]),(w.heap.size,[.int .i64 c.kind,.int .i64 c.num,.string c.name,.slice CA c.args.length cc])]):=zq (((Bks.nil w).new [.int .i64 c.kind,.int .i64 c.num,.string c.name,.slice CA c.args.length cc] 32 rfl).new [.int .i64 0,.int .i64 0,.string ⟨#[]⟩,.slice none 0 0] 32 (by simp))
 obtain ⟨vc,HVC⟩:=lz (validT c)
 rw [←HVC.out] at HVT
 clear hC hN hns hf
 unfold tmV
 go_enter Tryz.func99,Tryz.ntmps99
 go_wp2_with fail
 obtain ⟨W0,HW0⟩:=lz (((w.alloc (.cells #[.int .i64 c.kind,.int .i64 c.num,.string c.name,.slice CA c.args.length cc] 32)).alloc (.cells #[.int .i64 0,.int .i64 0,.string ⟨#[]⟩,.slice none 0 0] 32)))
 rw [←HW0.out] at HB0 HK0 ⊢
 clear HW0
 have a0_0:=HK0.out.cell 1 0 rfl rfl
 have a0_1:=HK0.out.cell 1 1 rfl rfl
 have a0_2:=HK0.out.cell 1 2 rfl rfl
 have a0_3:=HK0.out.cell 1 3 rfl rfl
 go_wp2_with fail
 refine (HVT.out _ HB0.out).mono ?_;rintro e w1 ⟨rfl,hB1⟩
 have HB1:=bz HB0 hB1
 have HK1:=zq (HK0.out.call hB1)
 clear hB1 HB0 HK0 HVT a0_0 a0_1 a0_2 a0_3
 cases vc
 ·have HY0:Hid (y=tm0):=zq (by rw [HY.out];unfold aboutT;rw [←HVC.out];exact if_neg (by decide))
  have HN9:Hid (TmsK (fun b=>w.heap.size≤b∧b<w1.heap.size∧w.heap.size+1≠b) w1 none tm0.args):=zq TmsK.nil
  obtain rfl:y=tm0:=HY0.out
  clear HC HN HNS HSZ HAT HRS HVC HY0 HL hn2 HY
  have z1_0:=HK1.out.cell 0 0 rfl rfl
  have z1_1:=HK1.out.cell 0 1 rfl rfl
  have z1_2:=HK1.out.cell 0 2 rfl rfl
  have z1_3:=HK1.out.cell 0 3 rfl rfl
  have z1f0:=HK1.out.fz 0 0 rfl
  have z1f1:=HK1.out.fz 0 1 rfl
  have z1f2:=HK1.out.fz 0 2 rfl
  have z1f3:=HK1.out.fz 0 3 rfl
  have hk1:Bks ((((w1.setCell ⟨w.heap.size+1,0,none⟩ (.int .i64 0)).setCell ⟨w.heap.size+1,1,none⟩ (.int .i64 0)).setCell ⟨w.heap.size+1,2,none⟩ (.string ⟨#[]⟩)).setCell ⟨w.heap.size+1,3,none⟩ (.slice none 0 0)) [(w.heap.size+1,[.int .i64 0,.int .i64 0,.string ⟨#[]⟩,.slice none 0 0]),(w.heap.size,[.int .i64 c.kind,.int .i64 c.num,.string c.name,.slice CA c.args.length cc])]:=(HK1.out.set4 0 rfl (.int .i64 0) (.int .i64 0) (.string ⟨#[]⟩) (.slice none 0 0))
  have hb1:Below w.heap.size w ((((w1.setCell ⟨w.heap.size+1,0,none⟩ (.int .i64 0)).setCell ⟨w.heap.size+1,1,none⟩ (.int .i64 0)).setCell ⟨w.heap.size+1,2,none⟩ (.string ⟨#[]⟩)).setCell ⟨w.heap.size+1,3,none⟩ (.slice none 0 0)):=((((HB1.out.setCell (p:=⟨w.heap.size+1,_,none⟩) (show w.heap.size≤w.heap.size+1 by omega) _).setCell (p:=⟨w.heap.size+1,_,none⟩) (show w.heap.size≤w.heap.size+1 by omega) _).setCell (p:=⟨w.heap.size+1,_,none⟩) (show w.heap.size≤w.heap.size+1 by omega) _).setCell (p:=⟨w.heap.size+1,_,none⟩) (show w.heap.size≤w.heap.size+1 by omega) _)
  have hn1:NewT w ((((w1.setCell ⟨w.heap.size+1,0,none⟩ (.int .i64 0)).setCell ⟨w.heap.size+1,1,none⟩ (.int .i64 0)).setCell ⟨w.heap.size+1,2,none⟩ (.string ⟨#[]⟩)).setCell ⟨w.heap.size+1,3,none⟩ (.slice none 0 0)) none tm0.args:=HN9.out.keep (fun b hb=>setg_other _ _ _ _ _ _ (by have:=hb.2.2;omega)) (fun b hb=>⟨hb.1,by simpa using hb.2.1⟩)
  obtain ⟨wz,HWZ⟩:=lz (((((w1.setCell ⟨w.heap.size+1,0,none⟩ (.int .i64 0)).setCell ⟨w.heap.size+1,1,none⟩ (.int .i64 0)).setCell ⟨w.heap.size+1,2,none⟩ (.string ⟨#[]⟩)).setCell ⟨w.heap.size+1,3,none⟩ (.slice none 0 0)))
  rw [←HWZ.out] at hk1 hb1 hn1
  have HK9:=zq hk1
  have HB9:=zq hb1
  have HNN:=zq hn1
  clear hk1 hb1 hn1
  go_wp2_with fail
  rw [←HWZ.out]
  have m1_0:=HK9.out.cell 0 0 rfl rfl
  have m1_1:=HK9.out.cell 0 1 rfl rfl
  have m1_2:=HK9.out.cell 0 2 rfl rfl
  have m1_3:=HK9.out.cell 0 3 rfl rfl
  exact bodyPost_ret (v:=.agg #[.int .i64 0,.int .i64 0,.string ⟨#[]⟩,.slice none 0 0]) (by simp [results,Tryz.results99,go_sem,m1_0,m1_1,m1_2,m1_3]) rfl ⟨none,0,rfl,HB9.out,HNN.out⟩
 have HNV:Hid (y=ballT f (ns.map atomT++[if 2000<3+ns.length+c.nodes then atomT ⟨#[46,46,46]⟩ else c])):=zq (by rw [HY.out];unfold aboutT;rw [if_pos HVC.out.symm])
 have HC2:Hid (c.nodes≤2000):=zq (by
  have:=HVC.out.symm
  unfold validT at this
  rw [Bool.and_eq_true,decide_eq_true_iff] at this
  exact this.1)
 have HL1:Hid (w.heap.size+1<w1.heap.size):=zq (HK1.out.lt 0 rfl)
 clear HY HVC
 go_wp2_with fail
 go_loopw [7,9,16] (fun v sv i wr=>∃(k:Nat) (rs:List TR),k≤L∧i=.int .i64 k∧Hid (Below w1.heap.size w1 wr)∧Hid (wr.ownsRow w1.heap.size 32 4 v rs.length (rowsC rs))∧Hid (rs.map (·.1)=(ns.take k).map atomT)) (fun _ _ i _=>L-(intOf i).toNat)
 case atStart=>exact ⟨0,[],Nat.zero_le _,rfl,zq (Below.refl _ _),zq (World.ownsRow_nil _ _ _ _),zq rfl⟩
 case round=>
  obtain ⟨k,rs,hk,rfl,HB,HO,HR⟩:=hrel
  have hrl:rs.length=k:=by
   have:=congrArg List.length HR.out
   rw [List.length_map,List.length_map,List.length_take,←HL.out] at this
   omega
  by_cases hlt:k<L
  ·have hkl:k<ns.length:=by rw [←HL.out];exact hlt
   obtain ⟨b,off,rfl,hb,c1⟩:=(HN.out.below (HB1.out.trans (HB.out.mono HB1.out.size))) k hkl
   have hs100:=HNS.out ns[k] (List.getElem_mem hkl)
   have HTK:Hid (ns.take (k+1)=ns.take k++[ns[k]]):=zq (List.take_succ_eq_append_getElem hkl)
   generalize ns[k]=s at *
   have t1:decide ((100:Int)<(s.size:Int))=false:=decide_eq_false (by omega)
   have hk0:(0:Int)≤(k:Int):=by omega
   have hk1:(k:Int)<(L:Int):=by omega
   have hk3:(k:Int)+1≤2:=by omega
   go_wp2_with fail
   refine (HAT.out s hs100 _).mono ?_;rintro e w4 ⟨A4,c4,rfl,hB4⟩
   have HO4:=zq (own_below HO.out hB4)
   have HB4:=bz HB hB4
   clear hB4
   go_wp2_with ((with_reducible refine at_appMT ?_);go_must (refine wpList_append_one rfl _ _ 30 32 rfl Tryz.underlying30 _ 4 56 infoTm rfl (by decide) w1.heap.size _ _ _ rfl _ HO4.out #[.int .i64 2,.int .i64 0,.string s,.slice A4 0 c4] rfl (by simp [Value.oneCell']) rfl rfl (by omega) (by omega) HB4.out.size ?_;intro v5 w5 ho5 hB5 hg5;have HO5:=zq ho5;have HB5:=zq hB5;clear ho5 hB5 hg5))
   go_roundw
   case rel=>
    refine ⟨k+1,rs++[(atomT s,A4,c4)],by omega,by go_num,zq (HB4.out.trans HB5.out),zq ?_,zq ?_⟩
    ·rw [rowsC_app,List.length_append]
     exact HO5.out
    ·rw [List.map_append,HR.out,HTK.out,List.map_append]
     rfl
   case measure=>simp [intOf] <;> omega
  ·have hkL:k=L:=by omega
   subst hkL
   have HRN:Hid (rs.map (·.1)=ns.map atomT):=zq (by rw [HR.out,HL.out,List.take_length])
   have HZ0:Hid (∀x∈rs,x.1.args=[]):=zq fun x hx=>by
    have:x.1∈ns.map atomT:=by rw [←HRN.out];exact List.mem_map.2 ⟨x,hx,rfl⟩
    obtain ⟨s,_,e⟩:=List.mem_map.1 this
    rw [←e];rfl
   have HBW:=zq (HB1.out.trans (HB.out.mono HB1.out.size))
   have HKW:=zq (HK1.out.call HB.out)
   have a0_0:=HKW.out.cell 1 0 rfl rfl
   have a0_1:=HKW.out.cell 1 1 rfl rfl
   have a0_2:=HKW.out.cell 1 2 rfl rfl
   have a0_3:=HKW.out.cell 1 3 rfl rfl
   go_wp2_with fail
   refine (HSZ.out _ HBW.out).mono ?_;rintro e w6 ⟨rfl,hB6⟩
   rw [show min c.nodes 2001=c.nodes by have:=HC2.out;omega]
   have HB6:=bz HB hB6
   have HO6:=zq (own_below HO.out hB6)
   clear hB6 HB HO HBW HKW HSZ a0_0 a0_1 a0_2 a0_3
   have hk3:(k:Int)≤2:=by omega
   have hk0:(0:Int)≤(k:Int):=by omega
   have hc0:(0:Int)≤(c.nodes:Int):=by omega
   have hc2:(c.nodes:Int)≤2000:=by have:=HC2.out;omega
   by_cases hbig:2000<3+ns.length+c.nodes
   ·have t2:decide ((2000:Int)<3+(k:Int)+(c.nodes:Int))=true:=decide_eq_true (by have:=HL.out;omega)
    have HYE:Hid (y=ballT f (rs.map (·.1)++[atomT ⟨#[46,46,46]⟩])):=zq (by rw [HNV.out,if_pos hbig,HRN.out])
    clear HNV HNS HN HR HRN hbig
    go_wp2_with fail
    refine (HAT.out ⟨#[46,46,46]⟩ (by decide) _).mono ?_;rintro e w7 ⟨A7,c7,rfl,hB7⟩
    have HB7:=bz HB6 hB7
    have HO7:=zq (own_below HO6.out hB7)
    have HK7:=zq (HK1.out.call HB7.out)
    have HW7:=zq (HB1.out.trans (HB7.out.mono HB1.out.size))
    clear hB7 HB6 HO6 HAT t2
    have z0_0:=HK7.out.cell 1 0 rfl rfl
    have z0_1:=HK7.out.cell 1 1 rfl rfl
    have z0_2:=HK7.out.cell 1 2 rfl rfl
    have z0_3:=HK7.out.cell 1 3 rfl rfl
    have z0f0:=HK7.out.fz 1 0 rfl
    have z0f1:=HK7.out.fz 1 1 rfl
    have z0f2:=HK7.out.fz 1 2 rfl
    have z0f3:=HK7.out.fz 1 3 rfl
    have HOS:Hid ((((((w7.setCell ⟨w.heap.size,0,none⟩ (.int .i64 2)).setCell ⟨w.heap.size,1,none⟩ (.int .i64 0)).setCell ⟨w.heap.size,2,none⟩ (.string ⟨#[46,46,46]⟩)).setCell ⟨w.heap.size,3,none⟩ (.slice A7 0 c7))).ownsRow w1.heap.size 32 4 u7 rs.length (rowsC rs)):=zq (own_keepB HO7.out (by simp) (fun b h1 h2=>setg_other _ _ _ _ _ _ (by have:=HL1.out;omega)))
    have HKS:Hid (Bks ((((w7.setCell ⟨w.heap.size,0,none⟩ (.int .i64 2)).setCell ⟨w.heap.size,1,none⟩ (.int .i64 0)).setCell ⟨w.heap.size,2,none⟩ (.string ⟨#[46,46,46]⟩)).setCell ⟨w.heap.size,3,none⟩ (.slice A7 0 c7)) [(w.heap.size+1,[.int .i64 0,.int .i64 0,.string ⟨#[]⟩,.slice none 0 0]),(w.heap.size,[.int .i64 2,.int .i64 0,.string ⟨#[46,46,46]⟩,.slice A7 0 c7])]):=zq (HK7.out.set4 1 rfl (.int .i64 2) (.int .i64 0) (.string ⟨#[46,46,46]⟩) (.slice A7 0 c7))
    have HWS:Hid (Below w.heap.size w ((((w7.setCell ⟨w.heap.size,0,none⟩ (.int .i64 2)).setCell ⟨w.heap.size,1,none⟩ (.int .i64 0)).setCell ⟨w.heap.size,2,none⟩ (.string ⟨#[46,46,46]⟩)).setCell ⟨w.heap.size,3,none⟩ (.slice A7 0 c7))):=zq ((((HW7.out.setCell (p:=⟨w.heap.size,_,none⟩) (show w.heap.size≤w.heap.size by omega) _).setCell (p:=⟨w.heap.size,_,none⟩) (show w.heap.size≤w.heap.size by omega) _).setCell (p:=⟨w.heap.size,_,none⟩) (show w.heap.size≤w.heap.size by omega) _).setCell (p:=⟨w.heap.size,_,none⟩) (show w.heap.size≤w.heap.size by omega) _)
    go_wp2_with ((with_reducible refine at_appMT ?_);go_must (refine wpList_append_one rfl _ _ 30 32 rfl Tryz.underlying30 _ 4 56 infoTm rfl (by decide) w1.heap.size _ _ _ rfl (((((w7.setCell ⟨w.heap.size,0,none⟩ (.int .i64 2)).setCell ⟨w.heap.size,1,none⟩ (.int .i64 0)).setCell ⟨w.heap.size,2,none⟩ (.string ⟨#[46,46,46]⟩)).setCell ⟨w.heap.size,3,none⟩ (.slice A7 0 c7))) HOS.out #[.int .i64 2,.int .i64 0,.string ⟨#[46,46,46]⟩,.slice A7 0 c7] rfl (by simp [Value.oneCell']) rfl (congrArg (fun n=>Value.slice (some ⟨n,0,none⟩) 1 1) (show w7.heap.size=(((((w7.setCell ⟨w.heap.size,0,none⟩ (.int .i64 2)).setCell ⟨w.heap.size,1,none⟩ (.int .i64 0)).setCell ⟨w.heap.size,2,none⟩ (.string ⟨#[46,46,46]⟩)).setCell ⟨w.heap.size,3,none⟩ (.slice A7 0 c7))).heap.size by simp)) (by omega) (by omega) (by have:=HB7.out.size;simpa using this) ?_;intro v8 w8 ho8 hB8 hg8;have HO8:=zq ho8;have HB8:=zq hB8;clear ho8 hB8 hg8))
    have HK8:Hid (Bks w8 [(w.heap.size+1,[.int .i64 0,.int .i64 0,.string ⟨#[]⟩,.slice none 0 0]),(w.heap.size,[.int .i64 2,.int .i64 0,.string ⟨#[46,46,46]⟩,.slice A7 0 c7])]):=zq (HKS.out.keep fun x hx=>HB8.out.block x.1 (by
     have h1:=HL1.out
     simp only [List.mem_cons,List.mem_nil_iff,or_false] at hx
     rcases hx with rfl | rfl <;> simp <;> omega))
    have HW8:=zq (HWS.out.trans (HB8.out.mono HB1.out.size))
    have hs18:w1.heap.size≤w8.heap.size:=Nat.le_trans ((by have:=HB7.out.size;simpa using this)) (by have:=HB8.out.size;simpa using this)
    obtain ⟨RA,rc,rfl,hRT⟩:=rows_last (r:=(atomT ⟨#[46,46,46]⟩,A7,c7)) HO8.out HZ0.out TmsK.nil hs18
    have HRS8:Hid (Calls Tryz.prog 92 #[.string f,.slice RA (rs.length+1) rc] w8 fun e w'=>∃A' c',e=.returned (.agg #[.int .i64 y.kind,.int .i64 y.num,.string y.name,.slice A' y.args.length c'])∧Below w8.heap.size w8 w'∧NewT w8 w' A' y.args):=zq (by
     have h:=HRS.out _ w8 RA rc hRT
     rw [←HYE.out,show (rs.map (fun x:TR=>x.1)++[((atomT ⟨#[46,46,46]⟩,A7,c7):TR).1]).length=rs.length+1 by simp] at h
     exact h)
    refine HRS8.out.mono ?_;rintro e w9 ⟨A9,c9,rfl,hB9,hN9⟩
    have HB9a:=bz HW8 hB9
    have HK9a:=zq (HK8.out.call hB9)
    have HN9:Hid (TmsK (fun b=>w.heap.size≤b∧b<w9.heap.size∧w.heap.size+1≠b) w9 A9 y.args):=zq (hN9.keep (fun _ _=>rfl) (fun b hb=>⟨by have:=HB1.out.size;have:=hb.1;omega,hb.2,by have:=HL1.out;have:=hb.1;omega⟩))
    clear hB9 hN9 HRS8 hRT HW8 HK8 HO8 HB8 HYE HRS HC HZ0
    have z1_0:=HK9a.out.cell 0 0 rfl rfl
    have z1_1:=HK9a.out.cell 0 1 rfl rfl
    have z1_2:=HK9a.out.cell 0 2 rfl rfl
    have z1_3:=HK9a.out.cell 0 3 rfl rfl
    have z1f0:=HK9a.out.fz 0 0 rfl
    have z1f1:=HK9a.out.fz 0 1 rfl
    have z1f2:=HK9a.out.fz 0 2 rfl
    have z1f3:=HK9a.out.fz 0 3 rfl
    have hk1:Bks ((((w9.setCell ⟨w.heap.size+1,0,none⟩ (.int .i64 y.kind)).setCell ⟨w.heap.size+1,1,none⟩ (.int .i64 y.num)).setCell ⟨w.heap.size+1,2,none⟩ (.string y.name)).setCell ⟨w.heap.size+1,3,none⟩ (.slice A9 y.args.length c9)) [(w.heap.size+1,[.int .i64 y.kind,.int .i64 y.num,.string y.name,.slice A9 y.args.length c9]),(w.heap.size,[.int .i64 2,.int .i64 0,.string ⟨#[46,46,46]⟩,.slice A7 0 c7])]:=(HK9a.out.set4 0 rfl (.int .i64 y.kind) (.int .i64 y.num) (.string y.name) (.slice A9 y.args.length c9))
    have hb1:Below w.heap.size w ((((w9.setCell ⟨w.heap.size+1,0,none⟩ (.int .i64 y.kind)).setCell ⟨w.heap.size+1,1,none⟩ (.int .i64 y.num)).setCell ⟨w.heap.size+1,2,none⟩ (.string y.name)).setCell ⟨w.heap.size+1,3,none⟩ (.slice A9 y.args.length c9)):=((((HB9a.out.setCell (p:=⟨w.heap.size+1,_,none⟩) (show w.heap.size≤w.heap.size+1 by omega) _).setCell (p:=⟨w.heap.size+1,_,none⟩) (show w.heap.size≤w.heap.size+1 by omega) _).setCell (p:=⟨w.heap.size+1,_,none⟩) (show w.heap.size≤w.heap.size+1 by omega) _).setCell (p:=⟨w.heap.size+1,_,none⟩) (show w.heap.size≤w.heap.size+1 by omega) _)
    have hn1:NewT w ((((w9.setCell ⟨w.heap.size+1,0,none⟩ (.int .i64 y.kind)).setCell ⟨w.heap.size+1,1,none⟩ (.int .i64 y.num)).setCell ⟨w.heap.size+1,2,none⟩ (.string y.name)).setCell ⟨w.heap.size+1,3,none⟩ (.slice A9 y.args.length c9)) A9 y.args:=HN9.out.keep (fun b hb=>setg_other _ _ _ _ _ _ (by have:=hb.2.2;omega)) (fun b hb=>⟨hb.1,by simpa using hb.2.1⟩)
    obtain ⟨wz,HWZ⟩:=lz (((((w9.setCell ⟨w.heap.size+1,0,none⟩ (.int .i64 y.kind)).setCell ⟨w.heap.size+1,1,none⟩ (.int .i64 y.num)).setCell ⟨w.heap.size+1,2,none⟩ (.string y.name)).setCell ⟨w.heap.size+1,3,none⟩ (.slice A9 y.args.length c9)))
    rw [←HWZ.out] at hk1 hb1 hn1
    have HK9:=zq hk1
    have HB9:=zq hb1
    have HNN:=zq hn1
    clear hk1 hb1 hn1
    go_wp2_with fail
    rw [←HWZ.out]
    have m1_0:=HK9.out.cell 0 0 rfl rfl
    have m1_1:=HK9.out.cell 0 1 rfl rfl
    have m1_2:=HK9.out.cell 0 2 rfl rfl
    have m1_3:=HK9.out.cell 0 3 rfl rfl
    exact bodyPost_ret (v:=.agg #[.int .i64 y.kind,.int .i64 y.num,.string y.name,.slice A9 y.args.length c9]) (by simp [results,Tryz.results99,go_sem,m1_0,m1_1,m1_2,m1_3]) rfl ⟨A9,c9,rfl,HB9.out,HNN.out⟩
   ·have t2:decide ((2000:Int)<3+(k:Int)+(c.nodes:Int))=false:=decide_eq_false (by have:=HL.out;omega)
    have HYE:Hid (y=ballT f (rs.map (·.1)++[c])):=zq (by rw [HNV.out,if_neg hbig,HRN.out])
    have HK6:=zq (HK1.out.call HB6.out)
    have HW6:=zq (HB1.out.trans (HB6.out.mono HB1.out.size))
    clear HNV HNS HN HR HRN hbig HAT
    have a0_0:=HK6.out.cell 1 0 rfl rfl
    have a0_1:=HK6.out.cell 1 1 rfl rfl
    have a0_2:=HK6.out.cell 1 2 rfl rfl
    have a0_3:=HK6.out.cell 1 3 rfl rfl
    go_wp2_with ((with_reducible refine at_appMT ?_);go_must (refine wpList_append_one rfl _ _ 30 32 rfl Tryz.underlying30 _ 4 56 infoTm rfl (by decide) w1.heap.size _ _ _ rfl (w6) HO6.out #[.int .i64 c.kind,.int .i64 c.num,.string c.name,.slice CA c.args.length cc] rfl (by simp [Value.oneCell']) rfl rfl (by omega) (by omega) HB6.out.size ?_;intro v8 w8 ho8 hB8 hg8;have HO8:=zq ho8;have HB8:=zq hB8;clear ho8 hB8 hg8))
    have HK8:Hid (Bks w8 [(w.heap.size+1,[.int .i64 0,.int .i64 0,.string ⟨#[]⟩,.slice none 0 0]),(w.heap.size,[.int .i64 c.kind,.int .i64 c.num,.string c.name,.slice CA c.args.length cc])]):=zq (HK6.out.keep fun x hx=>HB8.out.block x.1 (by
     have h1:=HL1.out
     simp only [List.mem_cons,List.mem_nil_iff,or_false] at hx
     rcases hx with rfl | rfl <;> simp <;> omega))
    have HW8:=zq (HW6.out.trans (HB8.out.mono HB1.out.size))
    have hs18:w1.heap.size≤w8.heap.size:=Nat.le_trans (HB6.out.size) (by have:=HB8.out.size;simpa using this)
    obtain ⟨RA,rc,rfl,hRT⟩:=rows_last (r:=(c,CA,cc)) HO8.out HZ0.out ((HC.out.keep HW8.out).mono HB1.out.size) hs18
    have HRS8:Hid (Calls Tryz.prog 92 #[.string f,.slice RA (rs.length+1) rc] w8 fun e w'=>∃A' c',e=.returned (.agg #[.int .i64 y.kind,.int .i64 y.num,.string y.name,.slice A' y.args.length c'])∧Below w8.heap.size w8 w'∧NewT w8 w' A' y.args):=zq (by
     have h:=HRS.out _ w8 RA rc hRT
     rw [←HYE.out,show (rs.map (fun x:TR=>x.1)++[((c,CA,cc):TR).1]).length=rs.length+1 by simp] at h
     exact h)
    refine HRS8.out.mono ?_;rintro e w9 ⟨A9,c9,rfl,hB9,hN9⟩
    have HB9a:=bz HW8 hB9
    have HK9a:=zq (HK8.out.call hB9)
    have HN9:Hid (TmsK (fun b=>w.heap.size≤b∧b<w9.heap.size∧w.heap.size+1≠b) w9 A9 y.args):=zq (hN9.keep (fun _ _=>rfl) (fun b hb=>⟨by have:=HB1.out.size;have:=hb.1;omega,hb.2,by have:=HL1.out;have:=hb.1;omega⟩))
    clear hB9 hN9 HRS8 hRT HW8 HK8 HO8 HB8 HYE HRS HC HZ0
    have z1_0:=HK9a.out.cell 0 0 rfl rfl
    have z1_1:=HK9a.out.cell 0 1 rfl rfl
    have z1_2:=HK9a.out.cell 0 2 rfl rfl
    have z1_3:=HK9a.out.cell 0 3 rfl rfl
    have z1f0:=HK9a.out.fz 0 0 rfl
    have z1f1:=HK9a.out.fz 0 1 rfl
    have z1f2:=HK9a.out.fz 0 2 rfl
    have z1f3:=HK9a.out.fz 0 3 rfl
    have hk1:Bks ((((w9.setCell ⟨w.heap.size+1,0,none⟩ (.int .i64 y.kind)).setCell ⟨w.heap.size+1,1,none⟩ (.int .i64 y.num)).setCell ⟨w.heap.size+1,2,none⟩ (.string y.name)).setCell ⟨w.heap.size+1,3,none⟩ (.slice A9 y.args.length c9)) [(w.heap.size+1,[.int .i64 y.kind,.int .i64 y.num,.string y.name,.slice A9 y.args.length c9]),(w.heap.size,[.int .i64 c.kind,.int .i64 c.num,.string c.name,.slice CA c.args.length cc])]:=(HK9a.out.set4 0 rfl (.int .i64 y.kind) (.int .i64 y.num) (.string y.name) (.slice A9 y.args.length c9))
    have hb1:Below w.heap.size w ((((w9.setCell ⟨w.heap.size+1,0,none⟩ (.int .i64 y.kind)).setCell ⟨w.heap.size+1,1,none⟩ (.int .i64 y.num)).setCell ⟨w.heap.size+1,2,none⟩ (.string y.name)).setCell ⟨w.heap.size+1,3,none⟩ (.slice A9 y.args.length c9)):=((((HB9a.out.setCell (p:=⟨w.heap.size+1,_,none⟩) (show w.heap.size≤w.heap.size+1 by omega) _).setCell (p:=⟨w.heap.size+1,_,none⟩) (show w.heap.size≤w.heap.size+1 by omega) _).setCell (p:=⟨w.heap.size+1,_,none⟩) (show w.heap.size≤w.heap.size+1 by omega) _).setCell (p:=⟨w.heap.size+1,_,none⟩) (show w.heap.size≤w.heap.size+1 by omega) _)
    have hn1:NewT w ((((w9.setCell ⟨w.heap.size+1,0,none⟩ (.int .i64 y.kind)).setCell ⟨w.heap.size+1,1,none⟩ (.int .i64 y.num)).setCell ⟨w.heap.size+1,2,none⟩ (.string y.name)).setCell ⟨w.heap.size+1,3,none⟩ (.slice A9 y.args.length c9)) A9 y.args:=HN9.out.keep (fun b hb=>setg_other _ _ _ _ _ _ (by have:=hb.2.2;omega)) (fun b hb=>⟨hb.1,by simpa using hb.2.1⟩)
    obtain ⟨wz,HWZ⟩:=lz (((((w9.setCell ⟨w.heap.size+1,0,none⟩ (.int .i64 y.kind)).setCell ⟨w.heap.size+1,1,none⟩ (.int .i64 y.num)).setCell ⟨w.heap.size+1,2,none⟩ (.string y.name)).setCell ⟨w.heap.size+1,3,none⟩ (.slice A9 y.args.length c9)))
    rw [←HWZ.out] at hk1 hb1 hn1
    have HK9:=zq hk1
    have HB9:=zq hb1
    have HNN:=zq hn1
    clear hk1 hb1 hn1
    go_wp2_with fail
    rw [←HWZ.out]
    have m1_0:=HK9.out.cell 0 0 rfl rfl
    have m1_1:=HK9.out.cell 0 1 rfl rfl
    have m1_2:=HK9.out.cell 0 2 rfl rfl
    have m1_3:=HK9.out.cell 0 3 rfl rfl
    exact bodyPost_ret (v:=.agg #[.int .i64 y.kind,.int .i64 y.num,.string y.name,.slice A9 y.args.length c9]) (by simp [results,Tryz.results99,go_sem,m1_0,m1_1,m1_2,m1_3]) rfl ⟨A9,c9,rfl,HB9.out,HNN.out⟩
set_option maxHeartbeats 1600000 in
theorem b_type (k:ByteArray) (c:Tm) (CA:Option Addr) (cc:Nat) (w:World) (hk:k.size≤100) (hC:TmsAt w.heap.size w CA c.args) :
  Calls Tryz.prog 79 #[.string k,tmV c CA cc] w fun e w'=>∃A' c',e=.returned (tmV (aboutT ⟨#[116,121,112,101,95,101,114,114,111,114]⟩ [k] c) A' c')∧Below w.heap.size w w'∧NewT w w' A' (aboutT ⟨#[116,121,112,101,95,101,114,114,111,114]⟩ [k] c).args:=by
 have hb0:Below w.heap.size w (((w.alloc (.cells #[.int .i64 c.kind,.int .i64 c.num,.string c.name,.slice CA c.args.length cc] 32)).alloc (.cells #[.int .i64 0,.int .i64 0,.string ⟨#[]⟩,.slice none 0 0] 32)).alloc (.cells #[.string k] 9)):=((((Below.refl _ w).alloc (Nat.le_refl _) _).alloc (by simp) _).alloc (by simp;omega) (.cells #[.string k] 9))
 have hk0:Bks ((w.alloc (.cells #[.int .i64 c.kind,.int .i64 c.num,.string c.name,.slice CA c.args.length cc] 32)).alloc (.cells #[.int .i64 0,.int .i64 0,.string ⟨#[]⟩,.slice none 0 0] 32)) [(w.heap.size+1,[.int .i64 0,.int .i64 0,.string ⟨#[]⟩,.slice none 0 0]),(w.heap.size,[.int .i64 c.kind,.int .i64 c.num,.string c.name,.slice CA c.args.length cc])]:=(((Bks.nil w).new [.int .i64 c.kind,.int .i64 c.num,.string c.name,.slice CA c.args.length cc] 32 rfl).new [.int .i64 0,.int .i64 0,.string ⟨#[]⟩,.slice none 0 0] 32 (by simp))
 have hs0:((w.alloc (.cells #[.int .i64 c.kind,.int .i64 c.num,.string c.name,.slice CA c.args.length cc] 32)).alloc (.cells #[.int .i64 0,.int .i64 0,.string ⟨#[]⟩,.slice none 0 0] 32)).heap.size=w.heap.size+1+1:=by simp
 have HAB:Hid (Calls Tryz.prog 99 #[.agg #[.int .i64 c.kind,.int .i64 c.num,.string c.name,.slice CA c.args.length cc],.string ⟨#[116,121,112,101,95,101,114,114,111,114]⟩,.slice (some ⟨w.heap.size+1+1,0,none⟩) 1 1] (((w.alloc (.cells #[.int .i64 c.kind,.int .i64 c.num,.string c.name,.slice CA c.args.length cc] 32)).alloc (.cells #[.int .i64 0,.int .i64 0,.string ⟨#[]⟩,.slice none 0 0] 32)).alloc (.cells #[.string k] 9)) fun e w'=>∃A' c',e=.returned (tmV (aboutT ⟨#[116,121,112,101,95,101,114,114,111,114]⟩ [k] c) A' c')∧Below (((w.alloc (.cells #[.int .i64 c.kind,.int .i64 c.num,.string c.name,.slice CA c.args.length cc] 32)).alloc (.cells #[.int .i64 0,.int .i64 0,.string ⟨#[]⟩,.slice none 0 0] 32)).alloc (.cells #[.string k] 9)).heap.size (((w.alloc (.cells #[.int .i64 c.kind,.int .i64 c.num,.string c.name,.slice CA c.args.length cc] 32)).alloc (.cells #[.int .i64 0,.int .i64 0,.string ⟨#[]⟩,.slice none 0 0] 32)).alloc (.cells #[.string k] 9)) w'∧NewT (((w.alloc (.cells #[.int .i64 c.kind,.int .i64 c.num,.string c.name,.slice CA c.args.length cc] 32)).alloc (.cells #[.int .i64 0,.int .i64 0,.string ⟨#[]⟩,.slice none 0 0] 32)).alloc (.cells #[.string k] 9)) w' A' (aboutT ⟨#[116,121,112,101,95,101,114,114,111,114]⟩ [k] c).args):=zq (b_about c CA cc ⟨#[116,121,112,101,95,101,114,114,111,114]⟩ (some ⟨w.heap.size+1+1,0,none⟩) 1 [k] _ (by decide) ((hC.keep hb0).mono hb0.size) (by
  intro j hj
  refine ⟨_,0,rfl,by simp,?_⟩
  rw [←hs0,World.cell?_alloc_new]
  rcases j with _ | j
  ·rfl
  ·simp only [List.length_cons,List.length_nil] at hj;omega
  ) (by simp) (by
  intro s hs
  simp only [List.mem_cons,List.mem_nil_iff,or_false] at hs
  rcases hs with rfl <;> assumption))
 have HB1:=zq hb0
 have HK1:=zq (hk0.al (.cells #[.string k] 9))
 have HS1:Hid (w.heap.size+1+1+1=(((w.alloc (.cells #[.int .i64 c.kind,.int .i64 c.num,.string c.name,.slice CA c.args.length cc] 32)).alloc (.cells #[.int .i64 0,.int .i64 0,.string ⟨#[]⟩,.slice none 0 0] 32)).alloc (.cells #[.string k] 9)).heap.size):=zq (by simp)
 obtain ⟨y,HY⟩:=lz (aboutT ⟨#[116,121,112,101,95,101,114,114,111,114]⟩ [k] c)
 rw [←HY.out] at HAB ⊢
 clear hb0 hk0 hs0 hC hk HY
 unfold tmV at *
 go_enter Tryz.func79,Tryz.ntmps79
 go_wp2_with fail
 obtain ⟨W1,HW1⟩:=lz ((((w.alloc (.cells #[.int .i64 c.kind,.int .i64 c.num,.string c.name,.slice CA c.args.length cc] 32)).alloc (.cells #[.int .i64 0,.int .i64 0,.string ⟨#[]⟩,.slice none 0 0] 32)).alloc (.cells #[.string k] 9)))
 rw [←HW1.out] at HB1 HK1 HAB HS1 ⊢
 clear HW1
 refine HAB.out.mono ?_;rintro e w9 ⟨A9,c9,rfl,hB9,hN9⟩
 have HB9a:=bz HB1 hB9
 have HK9a:=zq (HK1.out.call hB9)
 have HN9:Hid (TmsK (fun b=>w.heap.size≤b∧b<w9.heap.size∧w.heap.size+1≠b) w9 A9 y.args):=zq (hN9.keep (fun _ _=>rfl) (fun b hb=>⟨by have:=hb.1;have:=HS1.out;omega,hb.2,by have:=hb.1;have:=HS1.out;omega⟩))
 clear hB9 hN9 HAB HB1 HK1 HS1
 have z1_0:=HK9a.out.cell 0 0 rfl rfl
 have z1_1:=HK9a.out.cell 0 1 rfl rfl
 have z1_2:=HK9a.out.cell 0 2 rfl rfl
 have z1_3:=HK9a.out.cell 0 3 rfl rfl
 have z1f0:=HK9a.out.fz 0 0 rfl
 have z1f1:=HK9a.out.fz 0 1 rfl
 have z1f2:=HK9a.out.fz 0 2 rfl
 have z1f3:=HK9a.out.fz 0 3 rfl
 have hk1:Bks ((((w9.setCell ⟨w.heap.size+1,0,none⟩ (.int .i64 y.kind)).setCell ⟨w.heap.size+1,1,none⟩ (.int .i64 y.num)).setCell ⟨w.heap.size+1,2,none⟩ (.string y.name)).setCell ⟨w.heap.size+1,3,none⟩ (.slice A9 y.args.length c9)) [(w.heap.size+1,[.int .i64 y.kind,.int .i64 y.num,.string y.name,.slice A9 y.args.length c9]),(w.heap.size,[.int .i64 c.kind,.int .i64 c.num,.string c.name,.slice CA c.args.length cc])]:=(HK9a.out.set4 0 rfl (.int .i64 y.kind) (.int .i64 y.num) (.string y.name) (.slice A9 y.args.length c9))
 have hb1:Below w.heap.size w ((((w9.setCell ⟨w.heap.size+1,0,none⟩ (.int .i64 y.kind)).setCell ⟨w.heap.size+1,1,none⟩ (.int .i64 y.num)).setCell ⟨w.heap.size+1,2,none⟩ (.string y.name)).setCell ⟨w.heap.size+1,3,none⟩ (.slice A9 y.args.length c9)):=((((HB9a.out.setCell (p:=⟨w.heap.size+1,_,none⟩) (show w.heap.size≤w.heap.size+1 by omega) _).setCell (p:=⟨w.heap.size+1,_,none⟩) (show w.heap.size≤w.heap.size+1 by omega) _).setCell (p:=⟨w.heap.size+1,_,none⟩) (show w.heap.size≤w.heap.size+1 by omega) _).setCell (p:=⟨w.heap.size+1,_,none⟩) (show w.heap.size≤w.heap.size+1 by omega) _)
 have hn1:NewT w ((((w9.setCell ⟨w.heap.size+1,0,none⟩ (.int .i64 y.kind)).setCell ⟨w.heap.size+1,1,none⟩ (.int .i64 y.num)).setCell ⟨w.heap.size+1,2,none⟩ (.string y.name)).setCell ⟨w.heap.size+1,3,none⟩ (.slice A9 y.args.length c9)) A9 y.args:=HN9.out.keep (fun b hb=>setg_other _ _ _ _ _ _ (by have:=hb.2.2;omega)) (fun b hb=>⟨hb.1,by simpa using hb.2.1⟩)
 obtain ⟨wz,HWZ⟩:=lz (((((w9.setCell ⟨w.heap.size+1,0,none⟩ (.int .i64 y.kind)).setCell ⟨w.heap.size+1,1,none⟩ (.int .i64 y.num)).setCell ⟨w.heap.size+1,2,none⟩ (.string y.name)).setCell ⟨w.heap.size+1,3,none⟩ (.slice A9 y.args.length c9)))
 rw [←HWZ.out] at hk1 hb1 hn1
 have HK9:=zq hk1
 have HB9:=zq hb1
 have HNN:=zq hn1
 clear hk1 hb1 hn1
 go_wp2_with fail
 rw [←HWZ.out]
 have m1_0:=HK9.out.cell 0 0 rfl rfl
 have m1_1:=HK9.out.cell 0 1 rfl rfl
 have m1_2:=HK9.out.cell 0 2 rfl rfl
 have m1_3:=HK9.out.cell 0 3 rfl rfl
 exact bodyPost_ret (v:=.agg #[.int .i64 y.kind,.int .i64 y.num,.string y.name,.slice A9 y.args.length c9]) (by simp [results,Tryz.results79,go_sem,m1_0,m1_1,m1_2,m1_3]) rfl ⟨A9,c9,rfl,HB9.out,HNN.out⟩
set_option maxHeartbeats 1600000 in
theorem b_domain (k:ByteArray) (c:Tm) (CA:Option Addr) (cc:Nat) (w:World) (hk:k.size≤100) (hC:TmsAt w.heap.size w CA c.args) :
  Calls Tryz.prog 93 #[.string k,tmV c CA cc] w fun e w'=>∃A' c',e=.returned (tmV (aboutT ⟨#[100,111,109,97,105,110,95,101,114,114,111,114]⟩ [k] c) A' c')∧Below w.heap.size w w'∧NewT w w' A' (aboutT ⟨#[100,111,109,97,105,110,95,101,114,114,111,114]⟩ [k] c).args:=by
 have hb0:Below w.heap.size w (((w.alloc (.cells #[.int .i64 c.kind,.int .i64 c.num,.string c.name,.slice CA c.args.length cc] 32)).alloc (.cells #[.int .i64 0,.int .i64 0,.string ⟨#[]⟩,.slice none 0 0] 32)).alloc (.cells #[.string k] 9)):=((((Below.refl _ w).alloc (Nat.le_refl _) _).alloc (by simp) _).alloc (by simp;omega) (.cells #[.string k] 9))
 have hk0:Bks ((w.alloc (.cells #[.int .i64 c.kind,.int .i64 c.num,.string c.name,.slice CA c.args.length cc] 32)).alloc (.cells #[.int .i64 0,.int .i64 0,.string ⟨#[]⟩,.slice none 0 0] 32)) [(w.heap.size+1,[.int .i64 0,.int .i64 0,.string ⟨#[]⟩,.slice none 0 0]),(w.heap.size,[.int .i64 c.kind,.int .i64 c.num,.string c.name,.slice CA c.args.length cc])]:=(((Bks.nil w).new [.int .i64 c.kind,.int .i64 c.num,.string c.name,.slice CA c.args.length cc] 32 rfl).new [.int .i64 0,.int .i64 0,.string ⟨#[]⟩,.slice none 0 0] 32 (by simp))
 have hs0:((w.alloc (.cells #[.int .i64 c.kind,.int .i64 c.num,.string c.name,.slice CA c.args.length cc] 32)).alloc (.cells #[.int .i64 0,.int .i64 0,.string ⟨#[]⟩,.slice none 0 0] 32)).heap.size=w.heap.size+1+1:=by simp
 have HAB:Hid (Calls Tryz.prog 99 #[.agg #[.int .i64 c.kind,.int .i64 c.num,.string c.name,.slice CA c.args.length cc],.string ⟨#[100,111,109,97,105,110,95,101,114,114,111,114]⟩,.slice (some ⟨w.heap.size+1+1,0,none⟩) 1 1] (((w.alloc (.cells #[.int .i64 c.kind,.int .i64 c.num,.string c.name,.slice CA c.args.length cc] 32)).alloc (.cells #[.int .i64 0,.int .i64 0,.string ⟨#[]⟩,.slice none 0 0] 32)).alloc (.cells #[.string k] 9)) fun e w'=>∃A' c',e=.returned (tmV (aboutT ⟨#[100,111,109,97,105,110,95,101,114,114,111,114]⟩ [k] c) A' c')∧Below (((w.alloc (.cells #[.int .i64 c.kind,.int .i64 c.num,.string c.name,.slice CA c.args.length cc] 32)).alloc (.cells #[.int .i64 0,.int .i64 0,.string ⟨#[]⟩,.slice none 0 0] 32)).alloc (.cells #[.string k] 9)).heap.size (((w.alloc (.cells #[.int .i64 c.kind,.int .i64 c.num,.string c.name,.slice CA c.args.length cc] 32)).alloc (.cells #[.int .i64 0,.int .i64 0,.string ⟨#[]⟩,.slice none 0 0] 32)).alloc (.cells #[.string k] 9)) w'∧NewT (((w.alloc (.cells #[.int .i64 c.kind,.int .i64 c.num,.string c.name,.slice CA c.args.length cc] 32)).alloc (.cells #[.int .i64 0,.int .i64 0,.string ⟨#[]⟩,.slice none 0 0] 32)).alloc (.cells #[.string k] 9)) w' A' (aboutT ⟨#[100,111,109,97,105,110,95,101,114,114,111,114]⟩ [k] c).args):=zq (b_about c CA cc ⟨#[100,111,109,97,105,110,95,101,114,114,111,114]⟩ (some ⟨w.heap.size+1+1,0,none⟩) 1 [k] _ (by decide) ((hC.keep hb0).mono hb0.size) (by
  intro j hj
  refine ⟨_,0,rfl,by simp,?_⟩
  rw [←hs0,World.cell?_alloc_new]
  rcases j with _ | j
  ·rfl
  ·simp only [List.length_cons,List.length_nil] at hj;omega
  ) (by simp) (by
  intro s hs
  simp only [List.mem_cons,List.mem_nil_iff,or_false] at hs
  rcases hs with rfl <;> assumption))
 have HB1:=zq hb0
 have HK1:=zq (hk0.al (.cells #[.string k] 9))
 have HS1:Hid (w.heap.size+1+1+1=(((w.alloc (.cells #[.int .i64 c.kind,.int .i64 c.num,.string c.name,.slice CA c.args.length cc] 32)).alloc (.cells #[.int .i64 0,.int .i64 0,.string ⟨#[]⟩,.slice none 0 0] 32)).alloc (.cells #[.string k] 9)).heap.size):=zq (by simp)
 obtain ⟨y,HY⟩:=lz (aboutT ⟨#[100,111,109,97,105,110,95,101,114,114,111,114]⟩ [k] c)
 rw [←HY.out] at HAB ⊢
 clear hb0 hk0 hs0 hC hk HY
 unfold tmV at *
 go_enter Tryz.func93,Tryz.ntmps93
 go_wp2_with fail
 obtain ⟨W1,HW1⟩:=lz ((((w.alloc (.cells #[.int .i64 c.kind,.int .i64 c.num,.string c.name,.slice CA c.args.length cc] 32)).alloc (.cells #[.int .i64 0,.int .i64 0,.string ⟨#[]⟩,.slice none 0 0] 32)).alloc (.cells #[.string k] 9)))
 rw [←HW1.out] at HB1 HK1 HAB HS1 ⊢
 clear HW1
 refine HAB.out.mono ?_;rintro e w9 ⟨A9,c9,rfl,hB9,hN9⟩
 have HB9a:=bz HB1 hB9
 have HK9a:=zq (HK1.out.call hB9)
 have HN9:Hid (TmsK (fun b=>w.heap.size≤b∧b<w9.heap.size∧w.heap.size+1≠b) w9 A9 y.args):=zq (hN9.keep (fun _ _=>rfl) (fun b hb=>⟨by have:=hb.1;have:=HS1.out;omega,hb.2,by have:=hb.1;have:=HS1.out;omega⟩))
 clear hB9 hN9 HAB HB1 HK1 HS1
 have z1_0:=HK9a.out.cell 0 0 rfl rfl
 have z1_1:=HK9a.out.cell 0 1 rfl rfl
 have z1_2:=HK9a.out.cell 0 2 rfl rfl
 have z1_3:=HK9a.out.cell 0 3 rfl rfl
 have z1f0:=HK9a.out.fz 0 0 rfl
 have z1f1:=HK9a.out.fz 0 1 rfl
 have z1f2:=HK9a.out.fz 0 2 rfl
 have z1f3:=HK9a.out.fz 0 3 rfl
 have hk1:Bks ((((w9.setCell ⟨w.heap.size+1,0,none⟩ (.int .i64 y.kind)).setCell ⟨w.heap.size+1,1,none⟩ (.int .i64 y.num)).setCell ⟨w.heap.size+1,2,none⟩ (.string y.name)).setCell ⟨w.heap.size+1,3,none⟩ (.slice A9 y.args.length c9)) [(w.heap.size+1,[.int .i64 y.kind,.int .i64 y.num,.string y.name,.slice A9 y.args.length c9]),(w.heap.size,[.int .i64 c.kind,.int .i64 c.num,.string c.name,.slice CA c.args.length cc])]:=(HK9a.out.set4 0 rfl (.int .i64 y.kind) (.int .i64 y.num) (.string y.name) (.slice A9 y.args.length c9))
 have hb1:Below w.heap.size w ((((w9.setCell ⟨w.heap.size+1,0,none⟩ (.int .i64 y.kind)).setCell ⟨w.heap.size+1,1,none⟩ (.int .i64 y.num)).setCell ⟨w.heap.size+1,2,none⟩ (.string y.name)).setCell ⟨w.heap.size+1,3,none⟩ (.slice A9 y.args.length c9)):=((((HB9a.out.setCell (p:=⟨w.heap.size+1,_,none⟩) (show w.heap.size≤w.heap.size+1 by omega) _).setCell (p:=⟨w.heap.size+1,_,none⟩) (show w.heap.size≤w.heap.size+1 by omega) _).setCell (p:=⟨w.heap.size+1,_,none⟩) (show w.heap.size≤w.heap.size+1 by omega) _).setCell (p:=⟨w.heap.size+1,_,none⟩) (show w.heap.size≤w.heap.size+1 by omega) _)
 have hn1:NewT w ((((w9.setCell ⟨w.heap.size+1,0,none⟩ (.int .i64 y.kind)).setCell ⟨w.heap.size+1,1,none⟩ (.int .i64 y.num)).setCell ⟨w.heap.size+1,2,none⟩ (.string y.name)).setCell ⟨w.heap.size+1,3,none⟩ (.slice A9 y.args.length c9)) A9 y.args:=HN9.out.keep (fun b hb=>setg_other _ _ _ _ _ _ (by have:=hb.2.2;omega)) (fun b hb=>⟨hb.1,by simpa using hb.2.1⟩)
 obtain ⟨wz,HWZ⟩:=lz (((((w9.setCell ⟨w.heap.size+1,0,none⟩ (.int .i64 y.kind)).setCell ⟨w.heap.size+1,1,none⟩ (.int .i64 y.num)).setCell ⟨w.heap.size+1,2,none⟩ (.string y.name)).setCell ⟨w.heap.size+1,3,none⟩ (.slice A9 y.args.length c9)))
 rw [←HWZ.out] at hk1 hb1 hn1
 have HK9:=zq hk1
 have HB9:=zq hb1
 have HNN:=zq hn1
 clear hk1 hb1 hn1
 go_wp2_with fail
 rw [←HWZ.out]
 have m1_0:=HK9.out.cell 0 0 rfl rfl
 have m1_1:=HK9.out.cell 0 1 rfl rfl
 have m1_2:=HK9.out.cell 0 2 rfl rfl
 have m1_3:=HK9.out.cell 0 3 rfl rfl
 exact bodyPost_ret (v:=.agg #[.int .i64 y.kind,.int .i64 y.num,.string y.name,.slice A9 y.args.length c9]) (by simp [results,Tryz.results93,go_sem,m1_0,m1_1,m1_2,m1_3]) rfl ⟨A9,c9,rfl,HB9.out,HNN.out⟩
end Go.Proofs.YtpokpgkjaifccaaGreatDoorRR
namespace Hb
open Go Go.RowKit
inductive RA where
 | ok (l:List (List Tm))
 | ball (b:Tm)
def biT:Tm:=ballT ⟨#[105,110,115,116,97,110,116,105,97,116,105,111,110,95,101,114,114,111,114]⟩ []
def btT (k:ByteArray) (c:Tm):Tm:=aboutT ⟨#[116,121,112,101,95,101,114,114,111,114]⟩ [k] c
def bdT (k:ByteArray) (c:Tm):Tm:=aboutT ⟨#[100,111,109,97,105,110,95,101,114,114,111,114]⟩ [k] c
def brT:Tm:=ballT ⟨#[114,101,112,114,101,115,101,110,116,97,116,105,111,110,95,101,114,114,111,114]⟩ [atomT ⟨#[99,104,97,114,97,99,116,101,114,95,99,111,100,101]⟩]
def bsT (at_:Int):Tm:=ballT ⟨#[115,121,110,116,97,120,95,101,114,114,111,114]⟩ [intT at_]
def sAtom:ByteArray:=⟨#[97,116,111,109]⟩
def sInteger:ByteArray:=⟨#[105,110,116,101,103,101,114]⟩
def sNumber:ByteArray:=⟨#[110,117,109,98,101,114]⟩
def sList:ByteArray:=⟨#[108,105,115,116]⟩
def sChar:ByteArray:=⟨#[99,104,97,114,97,99,116,101,114]⟩
def sLess:ByteArray:=⟨#[110,111,116,95,108,101,115,115,95,116,104,97,110,95,122,101,114,111]⟩
def atomB (t:Tm):Option Tm:=if t.kind=0∨t.kind=2 then none else some (btT sAtom t)
def sizeB (n:Tm):Option Tm:=if ¬(n.kind=0∨n.kind=1) then some (btT sInteger n) else if n.kind=1∧n.num<0 then some (bdT sLess n) else none
theorem atomB_no {t:Tm} (h:t.kind=0∨t.kind=2):atomB t=none:=if_pos h
theorem atomB_yes {t:Tm} (h:¬(t.kind=0∨t.kind=2)):atomB t=some (btT sAtom t):=if_neg h
def orB:Option Tm→RA→RA
 | some b,_=>.ball b
 | none,r=>r
def lengthA (a n:Tm):RA:=if a.kind=0 then .ball biT else orB (atomB a) (orB (sizeB n) (.ok [[a,intT a.name.size]]))
end Hb
namespace Go.Proofs.YtpokpgkjaifccaaGreatDoorRR
open Go.RowKit Hb
set_option maxRecDepth 100000
def Thr (w:World) (b:Tm) (e:Ending):Prop:=∃A c,e=.panicked [{ v:=.iface 59 (tmV b A c),recovered:=false }]∧TmsAt w.heap.size w A b.args
def Chk (w:World) (e:Ending):Option Tm→Prop
 | none=>e=.returned (.tuple #[])
 | some b=>Thr w b e
theorem a_isVar (t:Tm) (A:Option Addr) (cap:Nat) (w:World):Calls Tryz.prog 64 #[tmV t A cap] w fun e w'=>e=.returned (.bool (t.kind==0))∧Below w.heap.size w w':=by
 unfold tmV
 generalize t.kind=a0 at *
 generalize t.num=a1 at *
 generalize t.name=a2 at *
 generalize t.args.length=a3 at *
 have hB:=(Below.refl w.heap.size w).alloc (Nat.le_refl _) (.cells #[.int .i64 a0,.int .i64 a1,.string a2,.slice A a3 cap] 32)
 go_enter Tryz.func64,Tryz.ntmps64
 go_wp2_with fail
 go_ret
 exact ⟨rfl,hB⟩
theorem a_isAtom (t:Tm) (A:Option Addr) (cap:Nat) (w:World):Calls Tryz.prog 72 #[tmV t A cap] w fun e w'=>e=.returned (.bool (t.kind==2))∧Below w.heap.size w w':=by
 unfold tmV
 generalize t.kind=a0 at *
 generalize t.num=a1 at *
 generalize t.name=a2 at *
 generalize t.args.length=a3 at *
 have hB:=(Below.refl w.heap.size w).alloc (Nat.le_refl _) (.cells #[.int .i64 a0,.int .i64 a1,.string a2,.slice A a3 cap] 32)
 go_enter Tryz.func72,Tryz.ntmps72
 go_wp2_with fail
 go_ret
 exact ⟨rfl,hB⟩
theorem a_isInt (t:Tm) (A:Option Addr) (cap:Nat) (w:World):Calls Tryz.prog 80 #[tmV t A cap] w fun e w'=>e=.returned (.bool (t.kind==1))∧Below w.heap.size w w':=by
 unfold tmV
 generalize t.kind=a0 at *
 generalize t.num=a1 at *
 generalize t.name=a2 at *
 generalize t.args.length=a3 at *
 have hB:=(Below.refl w.heap.size w).alloc (Nat.le_refl _) (.cells #[.int .i64 a0,.int .i64 a1,.string a2,.slice A a3 cap] 32)
 go_enter Tryz.func80,Tryz.ntmps80
 go_wp2_with fail
 go_ret
 exact ⟨rfl,hB⟩
theorem a_throw (b:Tm) (A:Option Addr) (cap:Nat) (w:World) (hT:TmsAt w.heap.size w A b.args):Calls Tryz.prog 65 #[tmV b A cap] w fun e w'=>Below w.heap.size w w'∧Thr w' b e:=by
 have HB:Hid (Below w.heap.size w (w.alloc (.cells #[.int .i64 b.kind,.int .i64 b.num,.string b.name,.slice A b.args.length cap] 32))):=zq ((Below.refl w.heap.size w).alloc (Nat.le_refl _) _)
 have HR:Hid (∀w',Below w.heap.size w w'→Thr w' b (.panicked [{ v:=.iface 59 (.agg #[.int .i64 b.kind,.int .i64 b.num,.string b.name,.slice A b.args.length cap]),recovered:=false }])):=zq fun w' h=>⟨A,cap,rfl,(hT.keep h).mono h.size⟩
 unfold tmV
 clear hT
 generalize b.kind=a0 at *
 generalize b.num=a1 at *
 generalize b.name=a2 at *
 generalize b.args.length=a3 at *
 go_enter Tryz.func65,Tryz.ntmps65
 go_wp2_with fail
 exact ⟨rfl,HB.out,HR.out _ HB.out⟩
end Go.Proofs.YtpokpgkjaifccaaGreatDoorRR
