/- Parts of the proof. -/
import Derived.Test.YtbojljpldcijgaaGreatH01
import Derived.Test.YtbojljpldcijgaaGreatH02
import Derived.Test.YtbojljpldcijgaaGreatH03
import Derived.Test.YtbojljpldcijgaaGreatH04
import Derived.Test.YtbojljpldcijgaaGreatH05
import Derived.Test.YtbojljpldcijgaaGreatH06
import Derived.Test.YtbojljpldcijgaaGreatH07
import Derived.Test.YtbojljpldcijgaaGreatH08
import Derived.Test.YtbojljpldcijgaaGreatH09
import Derived.Test.YtbojljpldcijgaaGreatH10
import Derived.Test.YtbojljpldcijgaaGreatH11
import Derived.Test.YtbojljpldcijgaaGreatH12
import Derived.Test.YtbojljpldcijgaaGreatH13
import Derived.Test.YtbojljpldcijgaaGreatH14
import Derived.Test.YtbojljpldcijgaaGreatH15
import Derived.Test.YtbojljpldcijgaaGreatH16
import Derived.Test.YtbojljpldcijgaaGreatH17
import Derived.Test.YtbojljpldcijgaaGreatH18
import Derived.Test.YtbojljpldcijgaaGreatH19
import Derived.Test.YtbojljpldcijgaaGreatH20
import Derived.Test.YtbojljpldcijgaaGreatH21
import Derived.Test.YtbojljpldcijgaaGreatH22
import Derived.Test.YtbojljpldcijgaaGreatH23
import Derived.Test.YtbojljpldcijgaaGreatH24
import Derived.Test.YtbojljpldcijgaaGreatH25
import Derived.Test.YtbojljpldcijgaaGreatH26
import Derived.Test.YtbojljpldcijgaaGreatH27
import Derived.Test.YtbojljpldcijgaaGreatG01
import Derived.Test.YtbojljpldcijgaaGreatG02
namespace Hb
open Go Go.RowKit
theorem str_ne {p q:List UInt8} (h:p≠q):¬(⟨p.toArray⟩:ByteArray)=⟨q.toArray⟩:=fun e=>by
 injection e with e
 injection e with e
 exact h e
end Hb
namespace Go.Proofs.YtbojljpldcijgaaGreat
open Go.RowKit Hb
set_option maxRecDepth 100000
set_option linter.unusedSimpArgs false
attribute [local go_sem] Oper.semAt_some
set_option maxHeartbeats 6400000 in
theorem law_canonical (text:ByteArray) (at_:Int) (OA:Option Addr) (on oc:Nat) (q u:Int) (c d:Bool) (CA:Option Addr) (cn cc:Nat) (ol:List OpR) (cl:List (Int×Int)) (w:World) (hO:Tab w OA on oc ol) (hcl:cn=cl.length) (hcn:cn≤maxLen) (hC:Pairs w CA cl) (hs:text.size≤maxLen):Calls Tryz.prog 4 #[.string text,.int .i64 at_,.agg #[.slice OA on oc,.int .i64 q,.int .i64 u,.bool c,.bool d,.slice CA cn cc]] w fun e w'=>e=.returned (.bool true)∧Below w.heap.size w w':=by
 have HAW:=Lib.hid (fun W=>l_awake W)
 have HB0:=Lib.hid ((Below.refl w.heap.size w).alloc (Nat.le_refl _) (.cells #[.slice OA on oc,.int .i64 q,.int .i64 u,.bool c,.bool d,.slice CA cn cc] 27))
 obtain ⟨r,HR⟩:∃r,Hid (r=readS text.data.toList at_ ⟨ol,q,u,c,d,cl⟩):=⟨_,Lib.hid rfl⟩
 have HC1:Hid (∀X,Below w.heap.size w X→Calls Tryz.prog 11 #[.string text,.int .i64 at_,.agg #[.slice OA on oc,.int .i64 q,.int .i64 u,.bool c,.bool d,.slice CA cn cc]] X (ROk X r)):=Lib.hid fun X hX=>by
  rw [HR.out];exact rd_Term text at_ OA on oc q u c d CA cn cc ol cl X (hO.below hX) hcl hcn (hC.below hX) hs
 have HFW:=Lib.hid (read_few text.data.toList at_ ⟨ol,q,u,c,d,cl⟩)
 have hsum:=can_sum text.data.toList at_ ⟨ol,q,u,c,d,cl⟩
 dsimp only at hsum
 rw [←HR.out,size_data] at hsum
 rw [←HR.out] at HFW
 have HS1:=Lib.hid hsum.1
 have HS2:=Lib.hid hsum.2
 clear hO hcl hcn hC hs HR hsum
 go_enter Tryz.func4,Tryz.ntmps4
 go_wp2_with fail
 refine (HC1.out _ HB0.out).mono ?_;rintro e x1 ⟨A,cap,NA,nc,SA,sn,rfl,hB,h1,h2,h3⟩
 have HB1:=Lib.hid (HB0.out.trans (hB.mono HB0.out.size))
 have HRA:=Lib.hid (⟨h1.keep (fun _ _=>rfl) fun _ hb=>hb.2,h2.keep (fun _ _=>rfl) fun _ hb=>hb.2,h3.keep (fun _ _=>rfl) fun _ hb=>hb.2⟩:RdAt x1 r A NA SA)
 clear hB h1 h2 h3 HB0 HC1
 obtain ⟨W,HW⟩:∃x,Hid (x=x1.alloc (.cells #[.int .i64 r.t.kind,.int .i64 r.t.num,.string r.t.name,.slice A r.t.args.length cap,.slice NA r.names.length nc,.slice SA r.singles.length sn,.int .i64 r.end_] 33)):=⟨_,Lib.hid rfl⟩
 obtain ⟨g,HG⟩:∃x,Hid (x=x1.heap.size):=⟨_,Lib.hid rfl⟩
 have hB:Below x1.heap.size x1 W:=by rw [HW.out];exact (Below.refl _ _).alloc (Nat.le_refl _) _
 have HQ:Hid (Bk W g [.int .i64 r.t.kind,.int .i64 r.t.num,.string r.t.name,.slice A r.t.args.length cap,.slice NA r.names.length nc,.slice SA r.singles.length sn,.int .i64 r.end_]):=Lib.hid (by rw [HW.out,HG.out];exact Bk.new x1 [.int .i64 r.t.kind,.int .i64 r.t.num,.string r.t.name,.slice A r.t.args.length cap,.slice NA r.names.length nc,.slice SA r.singles.length sn,.int .i64 r.end_] 33)
 have HBW:=Lib.hid (HB1.out.trans (hB.mono HB1.out.size))
 have HRW:=Lib.hid (HRA.out.below hB)
 go_upto_region 2 with fail
 rw [←HW.out,←HG.out]
 clear hB HB1 HRA HW HG
 have hq:=HQ.out.all0
 simp only [bkAll,Nat.zero_add,Nat.reduceAdd,and_true] at hq
 by_cases he:r.err=0
 rotate_left
 ·obtain ⟨h1,h2,h3⟩:=HS1.out he
  have HSM:Hid (Calls Tryz.prog 13 #[.agg #[.int .i64 r.t.kind,.int .i64 r.t.num,.string r.t.name,.slice A r.t.args.length cap,.slice NA r.names.length nc,.slice SA r.singles.length sn,.int .i64 r.end_],.agg #[.int .i64 0,.int .i64 0,.string ⟨#[]⟩,.slice none 0 0,.slice none 0 0,.slice none 0 0,.int .i64 0]] W fun e w'=>e=.returned (.bool true)∧Below W.heap.size W w'):=Lib.hid (by
   have h:=r10_same r (rdErr 0 0) A NA SA none none none cap nc sn 0 0 0 W HRW.out (zero_at W) HFW.out.1 HFW.out.2
   rw [show sameRd r (rdErr 0 0)=true by rw [h1];exact rd_zero _ _] at h
   exact h)
  have hb:(r.err != 0)=true:=by simpa using he
  have hw1:(0:Int)≤r.where_:=h2
  have hw2:r.where_≤(text.size:Int):=h3
  clear h1 h2 h3 he HS1 HS2
  go_wp2_with fail
  refine HSM.out.mono ?_;rintro e wy ⟨rfl,hB⟩
  have HBY:=Lib.hid (HBW.out.trans (hB.mono HBW.out.size))
  clear hB HBW HSM
  go_wp2_with fail
  refine (HAW.out _).mono ?_;rintro e wz ⟨rfl,hB⟩
  have HBZ:=Lib.hid (HBY.out.trans (hB.mono HBY.out.size))
  clear hB HBY
  go_wp2_with fail
  go_ret
  exact ⟨rfl,HBZ.out⟩
 obtain ⟨a,rfl,hlen,hr⟩:=HS2.out he
 have hb:(r.err != 0)=false:=by simpa using he
 obtain ⟨cv,hvs,hnm⟩:=hr.v
 have hw0:(r.where_ != 0)=false:=by simpa using hr.w
 have he1:¬r.end_≤(a:Int):=by have:=hr.e;omega
 have he2:¬(text.size:Int)<r.end_:=by have:=hr.e;rw [size_data] at this;omega
 obtain ⟨scf,hsc0,hsc1,hsc2,hsc3⟩:=sc_ex r.names (fun p=>(vl r.t).count (p.2:Int)==1)
 rw [←hr.s] at hsc1 hsc3
 have hvt:=hr.t
 have hnodes:r.t.nodes≤100000:=by unfold validT at hvt;rw [Bool.and_eq_true,decide_eq_true_iff] at hvt;omega
 have HCN:Hid (Calls Tryz.prog 15 #[.agg #[.int .i64 r.t.kind,.int .i64 r.t.num,.string r.t.name,.slice A r.t.args.length cap]] W fun e w'=>e=.returned (.bool true)∧Below W.heap.size W w'):=Lib.hid (by
  have h:=r3_isCanon r.t A cap W HRW.out.t
  rw [show canonB r.t=true by unfold canonB;rw [hr.c,same_refl hvt,hvt];rfl] at h
  exact h)
 have HVA:Hid (∀X,Below W.heap.size W X→Calls Tryz.prog 16 #[.agg #[.int .i64 r.t.kind,.int .i64 r.t.num,.string r.t.name,.slice A r.t.args.length cap]] X fun e w'=>∃B c,e=.returned (.slice B cv c)∧Below X.heap.size X w'):=Lib.hid fun X hX=>by
  have h:=r3_Vars r.t A cap X hvt (HRW.out.below hX).t
  rw [hvs,upto_len] at h
  exact h
 have HOC:Hid (∀X (n:Nat),Below W.heap.size W X→Calls Tryz.prog 17 #[.agg #[.int .i64 r.t.kind,.int .i64 r.t.num,.string r.t.name,.slice A r.t.args.length cap],.int .i64 (n:Int)] X fun e w'=>e=.returned (.int .i64 ((vl r.t).count (n:Int):Nat))∧Below X.heap.size X w'):=Lib.hid fun X n hX=>r3_occ n r.t A cap X hnodes (HRW.out.below hX).t
 have HNM:=Lib.hid hnm
 have HDI:=Lib.hid (fun i k (hi:i<r.names.length) (hk:k<i)=>List.pairwise_iff_getElem.1 hr.d k i (by omega) hi hk)
 have HC0:=Lib.hid hsc0
 have HCE:=Lib.hid hsc1
 have HCL:=Lib.hid hsc2
 have HCS:=Lib.hid hsc3
 clear hr hvs hnm hsc0 hsc1 hsc2 hsc3 hvt hnodes he HS1 HS2 hlen
 go_wp2_with fail
 refine HCN.out.mono ?_;rintro e w2 ⟨rfl,hB⟩
 have HB2:=Lib.hid hB
 clear hB hq HCN
 have hq:=(HQ.out.call HB2.out).all0
 simp only [bkAll,Nat.zero_add,Nat.reduceAdd,and_true] at hq
 go_wp2_with fail
 refine (HVA.out _ HB2.out).mono ?_;rintro e w3 ⟨VB,vc,rfl,hB⟩
 have HB3:=Lib.hid (HB2.out.trans (hB.mono HB2.out.size))
 clear hB hq HVA HB2 hb hw0 he1 he2
 go_wp2_with fail
 go_loopw [11,12] (fun sv iv wr=>∃i:Nat,iv=.int .i64 i∧i≤r.names.length∧sv=.int .i64 (scf i:Nat)∧Hid (Below W.heap.size W wr)) (fun _ iv _=>r.names.length-(intOf iv).toNat)
 case atStart=>exact ⟨0,rfl,Nat.zero_le _,by rw [HC0.out];rfl,HB3⟩
 case round=>
  obtain ⟨i,rfl,hi,rfl,HB⟩:=hrel
  have hq:=(HQ.out.call HB.out).all0
  simp only [bkAll,Nat.zero_add,Nat.reduceAdd,and_true] at hq
  by_cases hin:i<r.names.length
  ·obtain ⟨b,off,rfl,hb,c0,c1⟩:=HRW.out.n.2 i hin
   obtain ⟨p,HP⟩:∃p,Hid (p=r.names[i]):=⟨_,Lib.hid rfl⟩
   rw [←HP.out] at c0 c1
   obtain ⟨sv,HSV⟩:∃t:ByteArray,Hid (t=⟨p.1.toArray⟩):=⟨_,Lib.hid rfl⟩
   rw [←HSV.out] at c0
   obtain ⟨m1,m2,m3⟩:=HNM.out p (by rw [HP.out];exact List.getElem_mem hin)
   obtain ⟨pn,HPN⟩:∃n:Nat,Hid (n=p.2):=⟨_,Lib.hid rfl⟩
   rw [←HPN.out] at c1 m1
   have c0:=(HB.out.cell (p:=⟨b,off+i * 2,none⟩) hb).trans c0
   have c1:=(HB.out.cell (p:=⟨b,off+i * 2+1,none⟩) hb).trans c1
   have hs0:¬sv.toList=[]:=by rw [HSV.out,tl_dataR];simpa using m3
   have hs2:sv.toList.isEmpty=false:=by simpa using hs0
   have hs1:(sv.toList==[95])=false:=by rw [HSV.out,tl_dataR];simpa using m2
   have hn0:¬(pn:Int)<0:=by omega
   have hn1:¬(cv:Int)≤(pn:Int):=by omega
   have hdl:=dltT hin
   obtain ⟨k0,k1⟩:=natLt hin
   obtain ⟨w4,HW4⟩:∃x,Hid (x=wr.alloc (.cells #[.string sv,.int .i64 (pn:Int)] 44)):=⟨_,Lib.hid rfl⟩
   obtain ⟨gv,HGV⟩:∃x,Hid (x=wr.heap.size):=⟨_,Lib.hid rfl⟩
   have hB:Below wr.heap.size wr w4:=by rw [HW4.out];exact (Below.refl _ _).alloc (Nat.le_refl _) _
   have HK4:Hid (Bk w4 gv [.string sv,.int .i64 (pn:Int)]):=Lib.hid (by rw [HW4.out,HGV.out];exact Bk.new wr [.string sv,.int .i64 (pn:Int)] 44)
   have HB4:=Lib.hid (HB.out.trans (hB.mono HB.out.size))
   clear m1 m2 m3 hb
   go_upto_region 12 with fail
   rw [←HW4.out,←HGV.out]
   clear hB HW4 HGV hq c0 c1
   have hv:=HK4.out.all0
   simp only [bkAll,Nat.zero_add,Nat.reduceAdd,and_true] at hv
   go_wp2_with fail
   clear hs0 hs1 hs2 hn0 hn1
   go_loopw [14] (fun kv wq=>∃k:Nat,kv=.int .i64 k∧k≤i∧Hid (Below w4.heap.size w4 wq)) (fun kv _=>i-(intOf kv).toNat)
   case atStart=>exact ⟨0,rfl,Nat.zero_le _,Lib.hid (Below.refl _ _)⟩
   case round=>
    obtain ⟨k,rfl,hk,HBQ⟩:=hrel
    have HBU:=Lib.hid (HB4.out.trans (HBQ.out.mono HB4.out.size))
    have hq:=(HQ.out.call HBU.out).all0
    simp only [bkAll,Nat.zero_add,Nat.reduceAdd,and_true] at hq
    have hv:=(HK4.out.call HBQ.out).all0
    simp only [bkAll,Nat.zero_add,Nat.reduceAdd,and_true] at hv
    by_cases hki:k<i
    ·have hkn:k<r.names.length:=Nat.lt_trans hki hin
     obtain ⟨b2,off2,hbe,hb,y0,y1⟩:=HRW.out.n.2 k hkn
     obtain ⟨rfl,rfl⟩:b2=b∧off2=off:=by injection hbe with e;injection e with e1 e2;exact ⟨e1.symm,e2.symm⟩
     clear hbe
     obtain ⟨z,HZ⟩:∃z,Hid (z=r.names[k]):=⟨_,Lib.hid rfl⟩
     rw [←HZ.out] at y0 y1
     obtain ⟨sq,HSQ⟩:∃t:ByteArray,Hid (t=⟨z.1.toArray⟩):=⟨_,Lib.hid rfl⟩
     rw [←HSQ.out] at y0
     obtain ⟨m1,m2⟩:=HDI.out i k hin hki
     rw [←HZ.out,←HP.out] at m1 m2
     have hsq:¬sq=sv:=by rw [HSQ.out,HSV.out];exact str_ne m1
     have hsl:¬sq.toList=sv.toList:=by rw [HSQ.out,HSV.out,tl_dataR,tl_dataR];simpa using m1
     have hsb:(sq.toList==sv.toList)=false:=by simpa using hsl
     have hsd:decide (sq=sv)=false:=decide_eq_false hsq
     have hnn:¬(pn:Int)≤(z.2:Int):=by rw [HPN.out];omega
     have y0:=(HBU.out.cell (p:=⟨_,_,none⟩) hb).trans y0
     have y1:=(HBU.out.cell (p:=⟨_,_,none⟩) hb).trans y1
     have hdk:=dltT hki
     obtain ⟨j0,j1⟩:=natLt hkn
     have hw1:=Lib.hid (wrapN hki (by have:=HFW.out.1;omega))
     clear m1 m2 hb
     go_wp2_with fail
     go_region
     all_goals
      go_wp2_with fail
      go_roundw
      case rel=>exact ⟨k+1,congrArg (Value.int IntKind.i64) hw1.out,hki,Lib.hid HBQ.out.drew⟩
      case measure=>exact measW hw1.out hki
    ·have hke:=(notlt hki hk).symm
     subst hke
     have hdk:=dltF hki
     obtain ⟨cnt,HCT⟩:∃n,Hid (n=(vl r.t).count (pn:Int)):=⟨_,Lib.hid rfl⟩
     have HO5:=Lib.hid (HOC.out _ pn HBU.out)
     rw [←HCT.out] at HO5
     have hcs:=HCS.out i hin
     rw [←HP.out] at hcs
     have HCY:=Lib.hid hcs.1
     have HCN:=Lib.hid hcs.2
     have hw1:=Lib.hid (wrapN hin HFW.out.1)
     clear hcs
     go_wp2_with fail
     refine HO5.out.mono ?_;rintro e w6 ⟨rfl,hB⟩
     have HB6:=Lib.hid (HBQ.out.trans (hB.mono HBQ.out.size))
     have HBV:=Lib.hid (HB4.out.trans (HB6.out.mono HB4.out.size))
     clear hB hq hv HBQ HBU HO5 hdk
     have hq:=(HQ.out.call HBV.out).all0
     simp only [bkAll,Nat.zero_add,Nat.reduceAdd,and_true] at hq
     have hv:=(HK4.out.call HB6.out).all0
     simp only [bkAll,Nat.zero_add,Nat.reduceAdd,and_true] at hv
     have hcp:((vl r.t).count (p.2:Int)==1)=(cnt==1):=by rw [HCT.out,HPN.out]
     by_cases hc:cnt=1
     ·have hct:=oneT hc
      obtain ⟨hsc,hsl,hsg⟩:=HCY.out (by show ((vl r.t).count (p.2:Int)==1)=true;rw [hcp];simpa using hc)
      obtain ⟨sb,so,rfl,hb,d0,d1⟩:=HRW.out.s.2 (scf i) hsl
      rw [hsg,←HSV.out] at d0
      rw [hsg,←HPN.out] at d1
      have d0:=(HBV.out.cell (p:=⟨_,_,none⟩) hb).trans d0
      have d1:=(HBV.out.cell (p:=⟨_,_,none⟩) hb).trans d1
      have HSC:=Lib.hid hsc
      have hdn:¬r.singles.length≤scf i:=by omega
      have hdb:decide (r.singles.length≤scf i)=false:=decide_eq_false hdn
      obtain ⟨j0,j1⟩:=natLt hsl
      have hw2:=Lib.hid (wrapN hsl HFW.out.2)
      clear hsc hsg hb hcp hc
      go_wp2_with fail
      go_region
      all_goals
       go_wp2_with fail
       go_roundw
       case rel=>exact ⟨i+1,congrArg (Value.int IntKind.i64) hw1.out,hin,by rw [HSC.out];exact congrArg (Value.int IntKind.i64) hw2.out,Lib.hid HBV.out.drew⟩
       case measure=>exact measW hw1.out hin
     ·have hct:=oneF hc
      have HSC:=Lib.hid (HCN.out (by show ((vl r.t).count (p.2:Int)==1)=false;rw [hcp];simpa using hc))
      clear hcp hc
      go_wp2_with fail
      go_roundw
      case rel=>exact ⟨i+1,congrArg (Value.int IntKind.i64) hw1.out,hin,by rw [HSC.out],HBV⟩
      case measure=>exact measW hw1.out hin
  ·have hie:=notlt hin hi
   subst hie
   have hdl:=dltF hin
   rw [HCE.out]
   clear hin hi
   go_wp2_with fail
   refine (HAW.out _).mono ?_;rintro e wz ⟨rfl,hB⟩
   have HBZ:=Lib.hid (HBW.out.trans ((HB.out.trans (hB.mono HB.out.size)).mono HBW.out.size))
   clear hB HB hq
   go_wp2_with fail
   go_ret
   exact ⟨rfl,HBZ.out⟩
end Go.Proofs.YtbojljpldcijgaaGreat
