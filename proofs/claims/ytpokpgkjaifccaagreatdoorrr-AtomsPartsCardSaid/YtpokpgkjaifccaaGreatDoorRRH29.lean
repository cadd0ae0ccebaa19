/- Parts of the proof. -/
import Derived.Test.YtpokpgkjaifccaaGreatDoorRRH01
import Derived.Test.YtpokpgkjaifccaaGreatDoorRRH27
namespace Hb
open Go Go.RowKit
def tLisL (w W:World) (gt:Nat) (t:Tm):List Value→World→Prop:=fun _ X=>∃g,Below w.heap.size w X∧(∀b,b<W.heap.size→b≠gt→X.heap[b]? = W.heap[b]?)∧Bk X gt [.int .i64 3,.int .i64 0,.string ⟨#[46]⟩,.slice (some ⟨g,0,none⟩) 2 2]∧TmsK (fun b=>b<X.heap.size∧w.heap.size<b∧b≠gt) X (some ⟨g,0,none⟩) t.args
end Hb
namespace Go.Proofs.YtpokpgkjaifccaaGreatDoorRR
open Go.RowKit Hb Go.Shelf
set_option maxRecDepth 100000
set_option linter.unusedSimpArgs false
set_option maxHeartbeats 3200000 in
theorem l_list (A:Option Addr) (n cap:Nat) (l:List Tm) (w:World) (hn:n=l.length) (hm:n≤20000) (hl:∀x∈l,x.args=[]) (hT:TmsAt w.heap.size w A l) :
  Calls Tryz.prog 30 #[.slice A n cap] w fun e w'=>∃A' c',e=.returned (tmV (lisA l) A' c')∧Below w.heap.size w w'∧NewT w w' A' (lisA l).args:=by
 obtain ⟨R,HR⟩:=lz (lisA l)
 have HN:=zq hn
 have HT:=zq hT
 have HLF:=zq hl
 have HAN:=zq (fun W=>l_a ⟨#[91,93]⟩ W)
 have HB0:Hid (Below w.heap.size w (w.alloc (.cells #[.int .i64 0,.int .i64 0,.string ⟨#[]⟩,.slice none 0 0] 32))):=zq ((Below.refl _ w).alloc (Nat.le_refl _) _)
 have HK0:Hid (Bks (w.alloc (.cells #[.int .i64 0,.int .i64 0,.string ⟨#[]⟩,.slice none 0 0] 32)) [(w.heap.size,[.int .i64 0,.int .i64 0,.string ⟨#[]⟩,.slice none 0 0])]):=zq ((Bks.nil w).new [.int .i64 0,.int .i64 0,.string ⟨#[]⟩,.slice none 0 0] 32 rfl)
 rw [←HR.out]
 have HNB:=zq hm
 clear hT hn hl
 go_enter Tryz.func30,Tryz.ntmps30
 go_wp2_with fail
 refine (HAN.out _).mono ?_;rintro e w1 ⟨rfl,hB⟩
 have HB1:=bz HB0 hB
 have HK1:=zq (HK0.out.call hB)
 clear hB HB0 HK0 HAN
 have hz:=(Below.refl w1.heap.size w1).alloc (Nat.le_refl _) (.cells #[.int .i64 2,.int .i64 0,.string ⟨#[91,93]⟩,.slice none 0 0] 32)
 obtain ⟨y1,HY1⟩:=lz (w1.alloc (.cells #[.int .i64 2,.int .i64 0,.string ⟨#[91,93]⟩,.slice none 0 0] 32))
 have HT_80:Hid (Bk y1 w1.heap.size [.int .i64 2,.int .i64 0,.string ⟨#[91,93]⟩,.slice none 0 0]):=zq (by rw [HY1.out];exact Bk.new w1 [.int .i64 2,.int .i64 0,.string ⟨#[91,93]⟩,.slice none 0 0] 32)
 have HB_80:Hid (Below w.heap.size w y1):=zq (by rw [HY1.out];exact HB1.out.alloc HB1.out.size _)
 have HK_80:Hid (Bks y1 [(w.heap.size,[.int .i64 0,.int .i64 0,.string ⟨#[]⟩,.slice none 0 0])]):=zq (by rw [HY1.out];exact HK1.out.al _)
 have HGT:Hid (w.heap.size<w1.heap.size):=zq (HK1.out.lt 0 rfl)
 have hw0:wrap64 ((n:Int)-1)=(n:Int)-1:=IntWalk.wrap64_in _ (by omega)
 clear hz HB1 HK1
 go_wp2_with fail
 rw [←HY1.out]
 clear HY1
 generalize w1.heap.size=gt at *
 go_loopw [4] (fun i wr=>∃k:Nat,k≤n∧(k=0→i=.int .i64 (-1))∧(∀j:Nat,k=j+1→i=.int .i64 j)∧∃(u:Tm) (ua:Option Addr) (uc:Nat),Hid (u=lisA (l.drop k))∧Hid (Below w.heap.size w wr)∧Hid (Bks wr [(w.heap.size,[.int .i64 0,.int .i64 0,.string ⟨#[]⟩,.slice none 0 0])])∧Hid (Bk wr gt [.int .i64 u.kind,.int .i64 u.num,.string u.name,.slice ua u.args.length uc])∧Hid (TmsK (fun b=>b<wr.heap.size∧w.heap.size<b∧b≠gt) wr ua u.args)) (fun i _=>(intOf i+1).toNat)
 case atStart=>exact ⟨n,Nat.le_refl _,fun h=>by subst h;rfl,fun j h=>by congr 1;omega,nilA,none,0,zq (by rw [lisA_end l n HN.out]),HB_80,HK_80,HT_80,zq TmsK.nil⟩
 case round=>
  obtain ⟨k,hk,hi0,hi1,u,ua,uc,HU,HBR,HKR,HTR,HMR⟩:=hrel
  clear HB_80 HK_80 HT_80 hw0
  rcases Nat.eq_zero_or_pos k with rfl | hpos
  ·have hi:=hi0 rfl
   subst hi
   have HU2:Hid (R=u):=zq (by rw [HU.out,HR.out,List.drop_zero])
   have cu:=HTR.out.all0
   simp only [bkAll,Nat.zero_add,Nat.reduceAdd,and_true] at cu
   have ca:=HKR.out.all
   simp only [bksAll,bkAll,Nat.zero_add,Nat.reduceAdd,and_true] at ca
   obtain ⟨wz,HWZ⟩:=lz (((((wr.setCell ⟨w.heap.size,0,none⟩ (.int .i64 u.kind)).setCell ⟨w.heap.size,1,none⟩ (.int .i64 u.num)).setCell ⟨w.heap.size,2,none⟩ (.string u.name)).setCell ⟨w.heap.size,3,none⟩ (.slice ua u.args.length uc)))
   have hk4:Bks wz [(w.heap.size,[.int .i64 u.kind,.int .i64 u.num,.string u.name,.slice ua u.args.length uc])]:=by rw [HWZ.out];exact HKR.out.set4 0 rfl _ _ _ _
   have HBZ:Hid (Below w.heap.size w wz):=zq (by rw [HWZ.out];exact (((HBR.out.setCell (p:=⟨w.heap.size,_,none⟩) (Nat.le_refl _) _).setCell (p:=⟨w.heap.size,_,none⟩) (Nat.le_refl _) _).setCell (p:=⟨w.heap.size,_,none⟩) (Nat.le_refl _) _).setCell (p:=⟨w.heap.size,_,none⟩) (Nat.le_refl _) _)
   have HNZ:Hid (NewT w wz ua u.args):=zq (HMR.out.keep (fun b hb=>by
    have hne:b≠w.heap.size:=Nat.ne_of_gt hb.2.1
    rw [HWZ.out,heap_setCell_other _ _ _ _ hne,heap_setCell_other _ _ _ _ hne,heap_setCell_other _ _ _ _ hne,heap_setCell_other _ _ _ _ hne]) (fun b hb=>⟨Nat.le_of_lt hb.2.1,by rw [HWZ.out];simpa using hb.1⟩))
   clear hi0 hi1 HU HBR HKR HTR HMR
   go_wp2_with fail
   rw [←HWZ.out]
   have cz:=hk4.all
   simp only [bksAll,bkAll,Nat.zero_add,Nat.reduceAdd,and_true] at cz
   exact bodyPost_ret (v:=.agg #[.int .i64 u.kind,.int .i64 u.num,.string u.name,.slice ua u.args.length uc]) (by simp [results,Tryz.results30,go_sem,cz]) rfl (by rw [HU2.out];exact ⟨ua,uc,rfl,HBZ.out,HNZ.out⟩)
  ·obtain ⟨j,rfl⟩:∃j,k=j+1:=⟨k-1,by omega⟩
   have hi:=hi1 j rfl
   subst hi
   have hjl:j<l.length:=by have:=HN.out;omega
   obtain ⟨b,off,xa,xc,hA',hb,q0,q1,q2,q3,hs⟩:=((HT.out.keep HBR.out).mono HBR.out.size).get j hjl
   have hx:=HLF.out _ (List.getElem_mem hjl)
   obtain ⟨x,HX⟩:=lz (l[j])
   rw [←HX.out] at q0 q1 q2 q3 hs hx
   have hx0:x.args.length=0:=by rw [hx];rfl
   rw [hx0] at q3
   have HXN:Hid (x.args=[]):=zq hx
   have k0:(0:Int)≤(j:Int):=by omega
   have k1:(j:Int)<(n:Nat):=by omega
   have HU2:Hid (consA x u=lisA (l.drop j)):=zq (by rw [HU.out,HX.out];exact (lisA_drop l j hjl).symm)
   have HFF:=zq (fun A n c W=>l_f ⟨#[46]⟩ A n c W)
   cases hA'
   clear hx hx0 hs hi0 hi1 HU HX
   have u0:=HTR.out.all0
   simp only [bkAll,Nat.zero_add,Nat.reduceAdd,and_true] at u0
   go_wp2_with fail
   rename_i K9 hK9
   refine region_last (w0:=wr) [rPure [] [0] (fun | [v]=>v=.slice (some ⟨b,off,none⟩) n cap | _=>False),
     rPure [] [1] (fun | [v]=>v=.int .i64 (j:Int) | _=>False),
     rPure [0,1] [2] (fun | [v]=>v=.pointer (some ⟨b,off+j * 4,none⟩) | _=>False),
     rVal (List.range 3) [3] (fun | [v]=>v=.agg #[.int .i64 x.kind,.int .i64 x.num,.string x.name,.slice xa 0 xc] | _=>False),
     rVal [] [4] (fun | [v]=>v=.agg #[.int .i64 u.kind,.int .i64 u.num,.string u.name,.slice ua u.args.length uc] | _=>False),
     rRowK (List.range 5) 5 2 [x,u] (fun b=>w.heap.size<b∧b≠gt),
     rCall (List.range 6) [6,5] (fun | [v,z]=>∃g,z=.slice (some ⟨g,0,none⟩) 2 2∧v=.agg #[.int .i64 3,.int .i64 0,.string ⟨#[46]⟩,.slice (some ⟨g,0,none⟩) 2 2] | _=>False) (fun _ _ _=>True) (fun _ _ _ _ _ _ _ _ _=>trivial),
     rLast (List.range 7) [] (fun _=>True)]
     [some 13,some 14,some 15,some 16,some 17,some 18,some 19,none] (fun _=>True) (wr.heap.size) 7 (tLisL w wr gt (consA x u)) (by kernel_rfl) (Nat.le_refl _) (by kernel_rfl) (by kernel_rfl) ⟨by decide,rfl⟩ (fun j o ho=>?srv9) (fun val Y hv HF=>?fin9)
   case srv9=>
     have hlt:j<8:=(Array.getElem?_eq_some_iff.1 ho).1
     rcases (show j=0∨j=1∨j=2∨j=3∨j=4∨j=5∨j=6∨j=7 by omega) with rfl | rfl | rfl | rfl | rfl | rfl | rfl | rfl
     ·cases ho
      refine srv_pure rfl rfl (fun val E hE hA=>?_)
      have e0:=hE.t 0 (.slice (some ⟨b,off,none⟩) n cap) rfl
      exact ⟨.slice (some ⟨b,off,none⟩) n cap,fun X=>by simp [execOp,go_sem,e0],rfl⟩
     ·cases ho
      refine srv_pure rfl rfl (fun val E hE hA=>?_)
      have e4:=hE.t 4 (.int .i64 (j:Int)) rfl
      exact ⟨.int .i64 (j:Int),fun X=>by simp [execOp,go_sem,e4],rfl⟩
     ·cases ho
      refine srv_pure rfl rfl (fun val E hE hA=>?_)
      have e13:=hE.t 13 (val 0) rfl
      have h0:val 0=.slice (some ⟨b,off,none⟩) n cap:=hA 0 (oz rfl)
      have e14:=hE.t 14 (val 1) rfl
      have h1:val 1=.int .i64 (j:Int):=hA 1 (oz rfl)
      have kk:¬n≤j:=by omega
      exact ⟨.pointer (some ⟨b,off+j * 4,none⟩),fun X=>by simp [execOp,go_sem,e13,h0,e14,h1,kk],rfl⟩
     ·cases ho
      refine srv_val rfl rfl (fun _ _ _=>trivial) (fun val E X hE hB hA=>?_)
      have e15:=hE.t 15 (val 2) rfl
      have h2:val 2=.pointer (some ⟨b,off+j * 4,none⟩):=hA 2 (oz rfl)
      have z0:=(hB.cell (p:=⟨b,off+j * 4,none⟩) hb).trans q0
      have z1:=(hB.cell (p:=⟨b,off+j * 4+1,none⟩) hb).trans q1
      have z2:=(hB.cell (p:=⟨b,off+j * 4+2,none⟩) hb).trans q2
      have z3:=(hB.cell (p:=⟨b,off+j * 4+3,none⟩) hb).trans q3
      exact ⟨.agg #[.int .i64 x.kind,.int .i64 x.num,.string x.name,.slice xa 0 xc],by simp [execOp,go_sem,e15,h2,z0,z1,z2,z3],rfl⟩
     ·cases ho
      refine srv_val rfl rfl (fun _ _ _=>trivial) (fun val E X hE hB hA=>?_)
      have e3:=hE.t 3 (.pointer (some ⟨gt,0,none⟩)) rfl
      have HX:=(HTR.out.call hB).all0
      simp only [bkAll,Nat.zero_add,Nat.reduceAdd,and_true] at HX
      exact ⟨.agg #[.int .i64 u.kind,.int .i64 u.num,.string u.name,.slice ua u.args.length uc],by simp [execOp,go_sem,e3,HX],rfl⟩
     ·cases ho
      refine srv_mk rfl rfl fun val E X N hE hC hA hc=>?_
      have e16:=hE.t 16 (val 3) rfl
      have e17:=hE.t 17 (val 4) rfl
      have h3:val 3=.agg #[.int .i64 x.kind,.int .i64 x.num,.string x.name,.slice xa 0 xc]:=hA 3 (oz rfl)
      have h4:val 4=.agg #[.int .i64 u.kind,.int .i64 u.num,.string u.name,.slice ua u.args.length uc]:=hA 4 (oz rfl)
      have hgt:=HTR.out.lt
      have hbs:=hC.bel.size
      have hXL:x.args.length=0:=by rw [HXN.out];rfl
      have hrow:∀N':Nat→Prop,(∀b,N b→N' b)→N' X.heap.size→TmsK (fun b=>N' b∧(fun b=>w.heap.size<b∧b≠gt) b) (X.alloc (.cells #[.int .i64 x.kind,.int .i64 x.num,.string x.name,.slice xa 0 xc,.int .i64 u.kind,.int .i64 u.num,.string u.name,.slice ua u.args.length uc] 32)) (some ⟨X.heap.size,0,none⟩) [x,u]:=fun N' h1 h2=>by
       have:=TmsK.rows (K:=fun b=>N' b∧(fun b=>w.heap.size<b∧b≠gt) b) (w:=X) (rs:=[(x,xa,xc),(u,ua,uc)]) (e:=32) ⟨h2,by have:=HBR.out.size;have:=HGT.out;omega,by omega⟩ (by simp [maxLen]) (fun r hr=>by
        simp only [List.mem_cons,List.mem_nil_iff,or_false] at hr
        rcases hr with rfl | rfl
        ·rw [HXN.out];exact TmsK.nil
        ·exact HMR.out.keep (fun b hb=>((hC.bel.trans ((Below.refl _ X).alloc hC.bel.size _)).block b hb.1)) (fun b hb=>⟨h1 b (hC.old b hb.1),hb.2⟩))
       have e0:rowsC [(x,xa,xc),(u,ua,uc)]=[.int .i64 x.kind,.int .i64 x.num,.string x.name,.slice xa 0 xc,.int .i64 u.kind,.int .i64 u.num,.string u.name,.slice ua u.args.length uc]:=by
        show [Value.int .i64 x.kind,.int .i64 x.num,.string x.name,.slice xa x.args.length xc,_,_,_,_]=_
        rw [hXL]
       rw [e0] at this
       exact this
      exact ⟨.slice (some ⟨X.heap.size,0,none⟩) 2 2,X.alloc (.cells #[.int .i64 x.kind,.int .i64 x.num,.string x.name,.slice xa 0 xc,.int .i64 u.kind,.int .i64 u.num,.string u.name,.slice ua u.args.length uc] 32),by simp [execOp,go_sem,e16,e17,h3,h4],(Below.refl _ _).alloc (Nat.le_refl _) _,⟨_,rfl⟩,fun N' h1 h2=>⟨_,rfl,hrow N' h1 (h2 _ (Nat.le_refl _) (by simp))⟩⟩
     ·cases ho
      refine srv_cal rfl rfl fun val E X N hE hC hA hc=>?_
      have e18:=hE.t 18 (val 5) rfl
      obtain ⟨g,h5⟩:∃g,val 5=.slice (some ⟨g,0,none⟩) 2 2:=hA 5 (oz rfl)
      exact ⟨_,_,by simp [execOp,go_sem,hE.c,hE.f,e18,h5] <;> rfl,(HFF.out _ _ _ X).mono fun e w' h=>⟨_,h.1,h.2,⟨g,h5,rfl⟩,fun _ _ _=>trivial⟩⟩
     ·cases ho
      refine srv_last rfl rfl fun val E X N hE hC hA hc _=>?_
      obtain ⟨g,h5,ht⟩:∃g,val 5=.slice (some ⟨g,0,none⟩) 2 2∧TmsK (fun b=>N b∧w.heap.size<b∧b≠gt) X (some ⟨g,0,none⟩) [x,u]:=hc 5 (oz rfl) rfl
      obtain ⟨g',k6,h6⟩:∃g,val 5=.slice (some ⟨g,0,none⟩) 2 2∧val 6=.agg #[.int .i64 3,.int .i64 0,.string ⟨#[46]⟩,.slice (some ⟨g,0,none⟩) 2 2]:=hA 6 (oz rfl)
      rw [h5] at k6
      injection k6 with k6 _ _
      injection k6 with k6
      injection k6 with k6 _ _
      subst k6
      have e3:=hE.t 3 (.pointer (some ⟨gt,0,none⟩)) rfl
      have e19:=hE.t 19 (val 6) rfl
      have hk:=HTR.out.call hC.bel
      have z0:=hk.c 0 _ rfl
      have f0:=hk.f 0
      have z1:=hk.c 1 _ rfl
      have f1:=hk.f 1
      have z2:=hk.c 2 _ rfl
      have f2:=hk.f 2
      have z3:=hk.c 3 _ rfl
      have f3:=hk.f 3
      have hgw:w.heap.size≤gt:=Nat.le_of_lt HGT.out
      have hgl:=HTR.out.lt
      have hbs:=hC.bel.size
      have hN:TmsK (fun b=>b<(((((X.setCell ⟨gt,0,none⟩ (.int .i64 3)).setCell ⟨gt,1,none⟩ (.int .i64 0)).setCell ⟨gt,2,none⟩ (.string ⟨#[46]⟩)).setCell ⟨gt,3,none⟩ (.slice (some ⟨g,0,none⟩) 2 2))).heap.size∧w.heap.size<b∧b≠gt) (((((X.setCell ⟨gt,0,none⟩ (.int .i64 3)).setCell ⟨gt,1,none⟩ (.int .i64 0)).setCell ⟨gt,2,none⟩ (.string ⟨#[46]⟩)).setCell ⟨gt,3,none⟩ (.slice (some ⟨g,0,none⟩) 2 2))) (some ⟨g,0,none⟩) [x,u]:=ht.keep (fun b hb=>by
       have hne:b≠gt:=hb.2.2
       rw [heap_setCell_other _ _ _ _ hne,heap_setCell_other _ _ _ _ hne,heap_setCell_other _ _ _ _ hne,heap_setCell_other _ _ _ _ hne]) (fun b hb=>⟨by simpa using hC.lt b hb.1,hb.2⟩)
      have hbw:Below w.heap.size w (((((X.setCell ⟨gt,0,none⟩ (.int .i64 3)).setCell ⟨gt,1,none⟩ (.int .i64 0)).setCell ⟨gt,2,none⟩ (.string ⟨#[46]⟩)).setCell ⟨gt,3,none⟩ (.slice (some ⟨g,0,none⟩) 2 2))):=((((HBR.out.trans (hC.bel.mono HBR.out.size)).setCell (p:=⟨gt,0,none⟩) hgw _).setCell (p:=⟨gt,1,none⟩) hgw _).setCell (p:=⟨gt,2,none⟩) hgw _).setCell (p:=⟨gt,3,none⟩) hgw _
      have hot:∀b,b<wr.heap.size→b≠gt→(((((X.setCell ⟨gt,0,none⟩ (.int .i64 3)).setCell ⟨gt,1,none⟩ (.int .i64 0)).setCell ⟨gt,2,none⟩ (.string ⟨#[46]⟩)).setCell ⟨gt,3,none⟩ (.slice (some ⟨g,0,none⟩) 2 2))).heap[b]? = wr.heap[b]?:=fun b hb hne=>by
       rw [heap_setCell_other _ _ _ _ hne,heap_setCell_other _ _ _ _ hne,heap_setCell_other _ _ _ _ hne,heap_setCell_other _ _ _ _ hne]
       exact hC.bel.block b hb
      exact .inr (.inl ⟨((((X.setCell ⟨gt,0,none⟩ (.int .i64 3)).setCell ⟨gt,1,none⟩ (.int .i64 0)).setCell ⟨gt,2,none⟩ (.string ⟨#[46]⟩)).setCell ⟨gt,3,none⟩ (.slice (some ⟨g,0,none⟩) 2 2)),by simp [execOp,go_sem,e3,e19,h6,z0,z1,z2,z3,f0,f1,f2,f3],trivial,g,hbw,hot,(((hk.set 0 _).set 1 _).set 2 _).set 3 _,hN⟩)
   case fin9=>
    have h0:val 0=.slice (some ⟨b,off,none⟩) n cap:=hv 0 (by decide)
    have h1:val 1=.int .i64 (j:Int):=hv 1 (by decide)
    have h2:val 2=.pointer (some ⟨b,off+j * 4,none⟩):=hv 2 (by decide)
    have h3:val 3=.agg #[.int .i64 x.kind,.int .i64 x.num,.string x.name,.slice xa 0 xc]:=hv 3 (by decide)
    have h4:val 4=.agg #[.int .i64 u.kind,.int .i64 u.num,.string u.name,.slice ua u.args.length uc]:=hv 4 (by decide)
    obtain ⟨_,h5⟩:∃g,val 5=.slice (some ⟨g,0,none⟩) 2 2:=hv 5 (by decide)
    obtain ⟨_,_,h6⟩:∃g,val 5=.slice (some ⟨g,0,none⟩) 2 2∧val 6=.agg #[.int .i64 3,.int .i64 0,.string ⟨#[46]⟩,.slice (some ⟨g,0,none⟩) 2 2]:=hv 6 (by decide)
    obtain ⟨g9,hb9,ho9,hk9,ht9⟩:=HF
    refine hK9 _ _ ?_
    simp only [fillD,List.set_cons_zero,List.set_cons_succ,Nat.reduceAdd,Nat.zero_add,h0,h1,h2,h3,h4,h5,h6]
    have HT_90:=zq hk9
    have HM_90:=zq ht9
    have HB_90:=zq hb9
    have HK_90:Hid (Bks Y [(w.heap.size,[.int .i64 0,.int .i64 0,.string ⟨#[]⟩,.slice none 0 0])]):=zq (HKR.out.keep (fun z hz=>by
     have hlt:=(HKR.out.bk z hz).lt
     rw [List.mem_singleton] at hz
     subst hz
     exact ho9 _ hlt (Nat.ne_of_lt HGT.out)))
    have hw0:wrap64 ((j:Int)-1)=(j:Int)-1:=IntWalk.wrap64_in _ (by have:=HNB.out;omega)
    clear hv hK9 h0 h1 h2 h3 h4 h5 h6 hk9 ht9 hb9 ho9 HBR HKR HTR HMR u0 HXN q0 q1 q2 q3
    go_wp2_with fail
    go_roundw
    case rel=>exact ⟨j,by omega,fun h=>by subst h;rfl,fun i h=>by congr 1;omega,consA x u,_,2,HU2,HB_90,HK_90,HT_90,HM_90⟩
    case measure=>simp [intOf] <;> omega
end Go.Proofs.YtpokpgkjaifccaaGreatDoorRR
namespace Hb
open Go Go.RowKit
theorem extract_one (s:ByteArray) (k:Nat) (h:k<s.size):s.extract k (k+1)=⟨#[s.data[k]'h]⟩:=by
 apply ByteArray.ext
 rw [ByteArray.data_extract]
 apply Array.ext
 ·simp;have:k<s.data.size:=h;omega
 ·intro i h1 h2
  have h0:i=0:=by simp at h2;omega
  subst h0
  simp
end Hb
namespace Go.Proofs.YtpokpgkjaifccaaGreatDoorRR
open Go.RowKit Hb Go.Shelf
set_option maxRecDepth 100000
set_option linter.unusedSimpArgs false
theorem wpList_app_leaf {w:World} {ops:Array Oper} {rest:List Oper} {o:Oper} {a:Act} {Q:Exit→Act→World→Prop} (hgd:o.guard=none) (s x:Operand)
  (ho:o.op=.call { callee:=.builtin .append,args:=#[s,x],argTypes:=#[30,30] }) (lo:Nat) (wl:World) (v:Value) (rs:List TR) (hs:a.eval s=v) (hO:OwnR lo 32 w v rs) (hB:Below lo wl w) (hlo:lo≤w.heap.size)
  (g:Nat) (r:TR) (hx:a.eval x=.slice (some ⟨g,0,none⟩) 1 1) (hg:Bk w g (rowC r)) (hr:r.1.args=[]) (hn:rs.length≤100000)
  (h:∀v' w',Hid (OwnR lo 32 w' v' (rs++[r]))→Hid (Below lo wl w')→wpList Tryz.prog ops Q rest (a.put o.dst v') w'):wpList Tryz.prog ops Q (o::rest) a w:=by
 obtain ⟨i,hi,hz0,hz1,hz2⟩:=info_parts infoTm
 refine wpList_append_own_at _ hgd s x 30 ho lo 32 i _ 4 56 Tryz.underlying30 hi hz0 hz1 hz2 rfl (by decide) v rs.length (rowsC rs) hs hO.own ⟨g,0,none⟩ 1 1 (rowC r) hx rfl ?_ (rowC_one _) (by unfold maxLen;omega) (by omega) hlo ?_
 ·intro j u hu
  rw [addr_add,Nat.zero_add]
  exact hg.c j u hu
 ·intro v' w' hown hgr _ hat
  exact h v' w' (zq (hO.snoc r (by rw [hr];exact TmsK.nil) hown hgr hat)) (zq (below_grown hB hlo hO.own hgr))
set_option maxHeartbeats 1600000 in
theorem l_chars (s:ByteArray) (w:World) (hs:s.size≤900):Calls Tryz.prog 19 #[.string s] w fun e w'=>∃A c,e=.returned (tmV (textT false s.data.toList) A c)∧Below w.heap.size w w'∧NewT w w' A (textT false s.data.toList).args:=by
 have HAA:=zq (fun s W=>l_a s W)
 have HLI:=zq (fun (A:Option Addr) n cap l W hn hm hl hT=>l_list A n cap l W hn hm hl hT)
 have HB0:=zq ((Below.refl w.heap.size w).alloc (Nat.le_refl _) (.cells #[.int .i64 0,.int .i64 0,.string ⟨#[]⟩,.slice none 0 0] 32))
 have HK0:Hid (Bk (w.alloc (.cells #[.int .i64 0,.int .i64 0,.string ⟨#[]⟩,.slice none 0 0] 32)) w.heap.size [.int .i64 0,.int .i64 0,.string ⟨#[]⟩,.slice none 0 0]):=zq (Bk.new w [.int .i64 0,.int .i64 0,.string ⟨#[]⟩,.slice none 0 0] 32)
 obtain ⟨n,HN⟩:=lz (s.size)
 have hn9:n≤900:=by rw [HN.out];exact hs
 clear hs
 obtain ⟨R,HR⟩:=lz (textT false s.data.toList)
 rw [←HR.out]
 go_enter Tryz.func19,Tryz.ntmps19
 go_wp2_with fail
 obtain ⟨wl,HWL⟩:=lz (w.alloc (.cells #[.int .i64 0,.int .i64 0,.string ⟨#[]⟩,.slice none 0 0] 32))
 rw [←HWL.out] at HB0 HK0 ⊢
 clear HWL
 go_loopw [3,4] (fun v i wr=>∃(k:Nat) (rs:List TR),k≤n∧i=.int .i64 k∧Hid (rs.map (fun r:TR=>r.1)=(s.data.toList.take k).map (chT false))∧Hid (OwnR wl.heap.size 32 wr v rs)∧Hid (Below wl.heap.size wl wr)) (fun _ i _=>n-(intOf i).toNat)
 case atStart=>exact ⟨0,[],Nat.zero_le _,rfl,zq rfl,zq (OwnR.nul _ _ _),zq (Below.refl _ _)⟩
 case round=>
  obtain ⟨k,rs,hk,rfl,HRS,HO4,HB4⟩:=hrel
  obtain ⟨rv,hrv⟩:∃v,v=u3:=⟨_,rfl⟩
  subst hrv
  by_cases hlt:k<n
  ·have hks:k<s.size:=by rw [←HN.out];exact hlt
   obtain ⟨bb,HBY⟩:=lz (s[k]'hks)
   obtain ⟨x,HX⟩:=lz (chT false bb)
   have HRT:Hid ((rs++[((x,none,0):TR)]).map (fun r:TR=>r.1)=(s.data.toList.take (k+1)).map (chT false)):=zq (by rw [List.map_append,HRS.out,ba_take s _ k hks,HX.out,HBY.out];rfl)
   have HRL:Hid (rs.length≤100000):=zq (by
    have:=congrArg List.length HRS.out
    rw [List.length_map,List.length_map,List.length_take] at this
    omega)
   have HXA:Hid (x.args=[]):=zq (by rw [HX.out];exact chT_args _ _)
   have k0:(0:Int)≤(k:Int):=by omega
   have k1:(k:Int)<(s.size:Int):=by omega
   have k3:(k:Int)≤(k:Int)+1:=by omega
   have k2:(k:Int)+1≤(s.size:Int):=by omega
   have hw2:wrap64 ((k:Int)+1)=(k:Int)+1:=IntWalk.wrap64_in _ (by omega)
   obtain ⟨sb,HSB⟩:=lz (s.extract k (k+1))
   have HXC:Hid (rowC (x,none,0)=[.int .i64 2,.int .i64 0,.string sb,.slice none 0 0]):=zq (by rw [HX.out,HSB.out,extract_one s k hks,HBY.out];rfl)
   clear hks HRS HX HBY
   go_wp2_with fail
   rw [←HSB.out]
   refine (HAA.out _ _).mono ?_;rintro e w1 ⟨rfl,hB⟩
   have HO5:=zq ((HO4.out.below hB).below ((Below.refl _ w1).alloc (Nat.le_refl _) (.cells #[.int .i64 2,.int .i64 0,.string sb,.slice none 0 0] 32)))
   have HB5:Hid (Below wl.heap.size wl (w1.alloc (.cells #[.int .i64 2,.int .i64 0,.string sb,.slice none 0 0] 32))):=zq ((HB4.out.trans (hB.mono HB4.out.size)).alloc (HB4.out.trans (hB.mono HB4.out.size)).size _)
   have HKN:Hid (Bk (w1.alloc (.cells #[.int .i64 2,.int .i64 0,.string sb,.slice none 0 0] 32)) w1.heap.size (rowC (x,none,0))):=zq (by rw [HXC.out];exact Bk.new w1 [.int .i64 2,.int .i64 0,.string sb,.slice none 0 0] 32)
   clear hB HO4 HB4 HXC
   go_wp2_with (at_builtin;go_must (refine wpList_app_leaf rfl _ _ rfl wl.heap.size wl rv rs rfl HO5.out HB5.out HB5.out.size w1.heap.size (x,none,0) rfl HKN.out HXA.out HRL.out ?_;intro v9 w9 HO9 HB9))
   go_wp2_with fail
   go_roundw
   case rel=>exact ⟨k+1,_,Nat.succ_le_of_lt hlt,by go_num,HRT,HO9,HB9⟩
   case measure=>first | exact spM k _ _ rfl hlt | exact spM k _ _ hw2 hlt
  ·have hkn:k=n:=Nat.le_antisymm hk (Nat.le_of_not_lt hlt)
   subst hkn
   have hge:¬(k:Int)<(s.size:Int):=by rw [←HN.out];omega
   have hge2:¬k<s.size:=by rw [←HN.out];omega
   obtain ⟨VA,vc,hav,hvt⟩:=HO4.out.tms
   subst hav
   have hfull:s.data.toList.take k=s.data.toList:=List.take_of_length_le (by rw [HN.out];exact Nat.le_refl _)
   obtain ⟨rl,HRLE⟩:=lz (rs.length)
   have HCL:Hid (Calls Tryz.prog 30 #[.slice VA rl vc] wr fun e w'=>∃A' c',e=.returned (tmV (textT false s.data.toList) A' c')∧Below wr.heap.size wr w'∧NewT wr w' A' (textT false s.data.toList).args):=zq (by
    refine HLI.out VA rl vc (s.data.toList.map (chT false)) wr ?_ ?_ (fun x hx=>?_) ?_
    ·rw [HRLE.out,←hfull,←HRS.out,List.length_map]
    ·rw [HRLE.out]
     have:=congrArg List.length HRS.out
     rw [List.length_map,List.length_map,List.length_take] at this
     omega
    ·obtain ⟨y,_,rfl⟩:=List.mem_map.1 hx
     exact chT_args _ _
    ·rw [←hfull,←HRS.out]
     exact hvt.keep (fun _ _=>rfl) (fun b hb=>hb.2))
   have HKL:=zq (HK0.out.keeps (HB4.out.block _ HK0.out.lt))
   have HBL:=zq (HB0.out.trans (HB4.out.mono HB0.out.size))
   rw [←HRLE.out]
   clear hvt hfull HRS HO4 HB4 HB0 HK0 HRLE
   rw [←HR.out] at HCL
   unfold tmV at *
   go_wp2_with fail
   refine HCL.out.mono ?_;rintro e w1 ⟨RA,rc,rfl,hB,hNT⟩
   have HB5:=bz HBL hB
   have HK5:=zq (HKL.out.call hB)
   have HNT:Hid (TmsK (fun b=>w.heap.size<b∧b<w1.heap.size) w1 RA R.args):=zq (hNT.keep (fun _ _=>rfl) (fun b hb=>⟨Nat.lt_of_lt_of_le HKL.out.lt hb.1,hb.2⟩))
   clear hB hNT HBL HKL HCL
   have z0:=HK5.out.c 0 _ rfl
   have z1:=HK5.out.c 1 _ rfl
   have z2:=HK5.out.c 2 _ rfl
   have z3:=HK5.out.c 3 _ rfl
   have f0:=HK5.out.f 0
   have f1:=HK5.out.f 1
   have f2:=HK5.out.f 2
   have f3:=HK5.out.f 3
   obtain ⟨wz,HWZ⟩:=lz (((((w1.setCell ⟨w.heap.size,0,none⟩ (.int .i64 R.kind)).setCell ⟨w.heap.size,1,none⟩ (.int .i64 R.num)).setCell ⟨w.heap.size,2,none⟩ (.string R.name)).setCell ⟨w.heap.size,3,none⟩ (.slice RA R.args.length rc)))
   have HBZ:Hid (Below w.heap.size w wz):=zq (by rw [HWZ.out];exact (((HB5.out.setCell (p:=⟨w.heap.size,_,none⟩) (Nat.le_refl _) _).setCell (p:=⟨w.heap.size,_,none⟩) (Nat.le_refl _) _).setCell (p:=⟨w.heap.size,_,none⟩) (Nat.le_refl _) _).setCell (p:=⟨w.heap.size,_,none⟩) (Nat.le_refl _) _)
   have HKZ:Hid (Bk wz w.heap.size [.int .i64 R.kind,.int .i64 R.num,.string R.name,.slice RA R.args.length rc]):=zq (by rw [HWZ.out];exact (((HK5.out.set 0 _).set 1 _).set 2 _).set 3 _)
   have HNZ:Hid (NewT w wz RA R.args):=zq (HNT.out.keep (fun b hb=>by
    have hne:b≠w.heap.size:=Nat.ne_of_gt hb.1
    rw [HWZ.out,heap_setCell_other _ _ _ _ hne,heap_setCell_other _ _ _ _ hne,heap_setCell_other _ _ _ _ hne,heap_setCell_other _ _ _ _ hne]) (fun b hb=>⟨Nat.le_of_lt hb.1,by rw [HWZ.out];simpa using hb.2⟩))
   go_wp2_with fail
   rw [←HWZ.out]
   have c0:=HKZ.out.c 0 _ rfl
   have c1:=HKZ.out.c 1 _ rfl
   have c2:=HKZ.out.c 2 _ rfl
   have c3:=HKZ.out.c 3 _ rfl
   exact bodyPost_ret (v:=.agg #[.int .i64 R.kind,.int .i64 R.num,.string R.name,.slice RA R.args.length rc]) (by simp [results,Tryz.results19,go_sem,c0,c1,c2,c3]) rfl ⟨RA,rc,rfl,HBZ.out,HNZ.out⟩
set_option maxHeartbeats 1600000 in
theorem l_codes (s:ByteArray) (w:World) (hs:s.size≤900):Calls Tryz.prog 20 #[.string s] w fun e w'=>∃A c,e=.returned (tmV (textT true s.data.toList) A c)∧Below w.heap.size w w'∧NewT w w' A (textT true s.data.toList).args:=by
 have HAA:=zq (fun (n:Int) W=>l_n n W)
 have HLI:=zq (fun (A:Option Addr) n cap l W hn hm hl hT=>l_list A n cap l W hn hm hl hT)
 have HB0:=zq ((Below.refl w.heap.size w).alloc (Nat.le_refl _) (.cells #[.int .i64 0,.int .i64 0,.string ⟨#[]⟩,.slice none 0 0] 32))
 have HK0:Hid (Bk (w.alloc (.cells #[.int .i64 0,.int .i64 0,.string ⟨#[]⟩,.slice none 0 0] 32)) w.heap.size [.int .i64 0,.int .i64 0,.string ⟨#[]⟩,.slice none 0 0]):=zq (Bk.new w [.int .i64 0,.int .i64 0,.string ⟨#[]⟩,.slice none 0 0] 32)
 obtain ⟨n,HN⟩:=lz (s.size)
 have hn9:n≤900:=by rw [HN.out];exact hs
 clear hs
 obtain ⟨R,HR⟩:=lz (textT true s.data.toList)
 rw [←HR.out]
 go_enter Tryz.func20,Tryz.ntmps20
 go_wp2_with fail
 obtain ⟨wl,HWL⟩:=lz (w.alloc (.cells #[.int .i64 0,.int .i64 0,.string ⟨#[]⟩,.slice none 0 0] 32))
 rw [←HWL.out] at HB0 HK0 ⊢
 clear HWL
 go_loopw [3,4] (fun v i wr=>∃(k:Nat) (rs:List TR),k≤n∧i=.int .i64 k∧Hid (rs.map (fun r:TR=>r.1)=(s.data.toList.take k).map (chT true))∧Hid (OwnR wl.heap.size 32 wr v rs)∧Hid (Below wl.heap.size wl wr)) (fun _ i _=>n-(intOf i).toNat)
 case atStart=>exact ⟨0,[],Nat.zero_le _,rfl,zq rfl,zq (OwnR.nul _ _ _),zq (Below.refl _ _)⟩
 case round=>
  obtain ⟨k,rs,hk,rfl,HRS,HO4,HB4⟩:=hrel
  obtain ⟨rv,hrv⟩:∃v,v=u3:=⟨_,rfl⟩
  subst hrv
  by_cases hlt:k<n
  ·have hks:k<s.size:=by rw [←HN.out];exact hlt
   obtain ⟨bb,HBY⟩:=lz (s[k]'hks)
   obtain ⟨x,HX⟩:=lz (chT true bb)
   have HRT:Hid ((rs++[((x,none,0):TR)]).map (fun r:TR=>r.1)=(s.data.toList.take (k+1)).map (chT true)):=zq (by rw [List.map_append,HRS.out,ba_take s _ k hks,HX.out,HBY.out];rfl)
   have HRL:Hid (rs.length≤100000):=zq (by
    have:=congrArg List.length HRS.out
    rw [List.length_map,List.length_map,List.length_take] at this
    omega)
   have HXA:Hid (x.args=[]):=zq (by rw [HX.out];exact chT_args _ _)
   have k0:(0:Int)≤(k:Int):=by omega
   have k1:(k:Int)<(s.size:Int):=by omega
   have k3:(k:Int)≤(k:Int)+1:=by omega
   have k2:(k:Int)+1≤(s.size:Int):=by omega
   have hw2:wrap64 ((k:Int)+1)=(k:Int)+1:=IntWalk.wrap64_in _ (by omega)
   have hix:∀X,(Instr.index 9 (.string s) (.int .i64 (k:Int))).run Tryz.prog X=.ok (.int .u8 (bb.toNat:Int)) X:=fun X=>by
    rw [run_index_string X 9 s .i64 (k:Int) Tryz.underlying9,dif_pos ⟨by omega,by omega⟩,HBY.out]
    rfl
   have hcv:IntKind.i64.wrap ((bb.toNat:Int))=(bb.toNat:Int):=IntWalk.i64_in _ (by have:=bb.toNat_lt;omega)
   have HXC:Hid (rowC (x,none,0)=[.int .i64 1,.int .i64 (bb.toNat:Int),.string ⟨#[]⟩,.slice none 0 0]):=zq (by rw [HX.out];rfl)
   clear hks HRS HX HBY
   go_wp2_with fail
   refine (HAA.out _ _).mono ?_;rintro e w1 ⟨rfl,hB⟩
   have HO5:=zq ((HO4.out.below hB).below ((Below.refl _ w1).alloc (Nat.le_refl _) (.cells #[.int .i64 1,.int .i64 (bb.toNat:Int),.string ⟨#[]⟩,.slice none 0 0] 32)))
   have HB5:Hid (Below wl.heap.size wl (w1.alloc (.cells #[.int .i64 1,.int .i64 (bb.toNat:Int),.string ⟨#[]⟩,.slice none 0 0] 32))):=zq ((HB4.out.trans (hB.mono HB4.out.size)).alloc (HB4.out.trans (hB.mono HB4.out.size)).size _)
   have HKN:Hid (Bk (w1.alloc (.cells #[.int .i64 1,.int .i64 (bb.toNat:Int),.string ⟨#[]⟩,.slice none 0 0] 32)) w1.heap.size (rowC (x,none,0))):=zq (by rw [HXC.out];exact Bk.new w1 [.int .i64 1,.int .i64 (bb.toNat:Int),.string ⟨#[]⟩,.slice none 0 0] 32)
   clear hB HO4 HB4 HXC
   go_wp2_with (at_builtin;go_must (refine wpList_app_leaf rfl _ _ rfl wl.heap.size wl rv rs rfl HO5.out HB5.out HB5.out.size w1.heap.size (x,none,0) rfl HKN.out HXA.out HRL.out ?_;intro v9 w9 HO9 HB9))
   go_wp2_with fail
   go_roundw
   case rel=>exact ⟨k+1,_,Nat.succ_le_of_lt hlt,by go_num,HRT,HO9,HB9⟩
   case measure=>first | exact spM k _ _ rfl hlt | exact spM k _ _ hw2 hlt
  ·have hkn:k=n:=Nat.le_antisymm hk (Nat.le_of_not_lt hlt)
   subst hkn
   have hge:¬(k:Int)<(s.size:Int):=by rw [←HN.out];omega
   have hge2:¬k<s.size:=by rw [←HN.out];omega
   obtain ⟨VA,vc,hav,hvt⟩:=HO4.out.tms
   subst hav
   have hfull:s.data.toList.take k=s.data.toList:=List.take_of_length_le (by rw [HN.out];exact Nat.le_refl _)
   obtain ⟨rl,HRLE⟩:=lz (rs.length)
   have HCL:Hid (Calls Tryz.prog 30 #[.slice VA rl vc] wr fun e w'=>∃A' c',e=.returned (tmV (textT true s.data.toList) A' c')∧Below wr.heap.size wr w'∧NewT wr w' A' (textT true s.data.toList).args):=zq (by
    refine HLI.out VA rl vc (s.data.toList.map (chT true)) wr ?_ ?_ (fun x hx=>?_) ?_
    ·rw [HRLE.out,←hfull,←HRS.out,List.length_map]
    ·rw [HRLE.out]
     have:=congrArg List.length HRS.out
     rw [List.length_map,List.length_map,List.length_take] at this
     omega
    ·obtain ⟨y,_,rfl⟩:=List.mem_map.1 hx
     exact chT_args _ _
    ·rw [←hfull,←HRS.out]
     exact hvt.keep (fun _ _=>rfl) (fun b hb=>hb.2))
   have HKL:=zq (HK0.out.keeps (HB4.out.block _ HK0.out.lt))
   have HBL:=zq (HB0.out.trans (HB4.out.mono HB0.out.size))
   rw [←HRLE.out]
   clear hvt hfull HRS HO4 HB4 HB0 HK0 HRLE
   rw [←HR.out] at HCL
   unfold tmV at *
   go_wp2_with fail
   refine HCL.out.mono ?_;rintro e w1 ⟨RA,rc,rfl,hB,hNT⟩
   have HB5:=bz HBL hB
   have HK5:=zq (HKL.out.call hB)
   have HNT:Hid (TmsK (fun b=>w.heap.size<b∧b<w1.heap.size) w1 RA R.args):=zq (hNT.keep (fun _ _=>rfl) (fun b hb=>⟨Nat.lt_of_lt_of_le HKL.out.lt hb.1,hb.2⟩))
   clear hB hNT HBL HKL HCL
   have z0:=HK5.out.c 0 _ rfl
   have z1:=HK5.out.c 1 _ rfl
   have z2:=HK5.out.c 2 _ rfl
   have z3:=HK5.out.c 3 _ rfl
   have f0:=HK5.out.f 0
   have f1:=HK5.out.f 1
   have f2:=HK5.out.f 2
   have f3:=HK5.out.f 3
   obtain ⟨wz,HWZ⟩:=lz (((((w1.setCell ⟨w.heap.size,0,none⟩ (.int .i64 R.kind)).setCell ⟨w.heap.size,1,none⟩ (.int .i64 R.num)).setCell ⟨w.heap.size,2,none⟩ (.string R.name)).setCell ⟨w.heap.size,3,none⟩ (.slice RA R.args.length rc)))
   have HBZ:Hid (Below w.heap.size w wz):=zq (by rw [HWZ.out];exact (((HB5.out.setCell (p:=⟨w.heap.size,_,none⟩) (Nat.le_refl _) _).setCell (p:=⟨w.heap.size,_,none⟩) (Nat.le_refl _) _).setCell (p:=⟨w.heap.size,_,none⟩) (Nat.le_refl _) _).setCell (p:=⟨w.heap.size,_,none⟩) (Nat.le_refl _) _)
   have HKZ:Hid (Bk wz w.heap.size [.int .i64 R.kind,.int .i64 R.num,.string R.name,.slice RA R.args.length rc]):=zq (by rw [HWZ.out];exact (((HK5.out.set 0 _).set 1 _).set 2 _).set 3 _)
   have HNZ:Hid (NewT w wz RA R.args):=zq (HNT.out.keep (fun b hb=>by
    have hne:b≠w.heap.size:=Nat.ne_of_gt hb.1
    rw [HWZ.out,heap_setCell_other _ _ _ _ hne,heap_setCell_other _ _ _ _ hne,heap_setCell_other _ _ _ _ hne,heap_setCell_other _ _ _ _ hne]) (fun b hb=>⟨Nat.le_of_lt hb.1,by rw [HWZ.out];simpa using hb.2⟩))
   go_wp2_with fail
   rw [←HWZ.out]
   have c0:=HKZ.out.c 0 _ rfl
   have c1:=HKZ.out.c 1 _ rfl
   have c2:=HKZ.out.c 2 _ rfl
   have c3:=HKZ.out.c 3 _ rfl
   exact bodyPost_ret (v:=.agg #[.int .i64 R.kind,.int .i64 R.num,.string R.name,.slice RA R.args.length rc]) (by simp [results,Tryz.results20,go_sem,c0,c1,c2,c3]) rfl ⟨RA,rc,rfl,HBZ.out,HNZ.out⟩
end Go.Proofs.YtpokpgkjaifccaaGreatDoorRR
