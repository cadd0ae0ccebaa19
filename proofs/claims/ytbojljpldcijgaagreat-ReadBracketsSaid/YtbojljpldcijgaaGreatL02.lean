/- Parts of the proof. -/
import Derived.Test.YtbojljpldcijgaaGreatH01
import Derived.Test.YtbojljpldcijgaaGreatH02
import Derived.Test.YtbojljpldcijgaaGreatH03
import Derived.Test.YtbojljpldcijgaaGreatH04
import Derived.Test.YtbojljpldcijgaaGreatH05
import Derived.Test.YtbojljpldcijgaaGreatH06
import Derived.Test.YtbojljpldcijgaaGreatH07
import Derived.Test.YtbojljpldcijgaaGreatH08
import Derived.Test.YtbojljpldcijgaaGreatH09
import Derived.Test.YtbojljpldcijgaaGreatH10
import Derived.Test.YtbojljpldcijgaaGreatH11
import Derived.Test.YtbojljpldcijgaaGreatH12
import Derived.Test.YtbojljpldcijgaaGreatH13
import Derived.Test.YtbojljpldcijgaaGreatH14
import Derived.Test.YtbojljpldcijgaaGreatH15
import Derived.Test.YtbojljpldcijgaaGreatH16
import Derived.Test.YtbojljpldcijgaaGreatH17
import Derived.Test.YtbojljpldcijgaaGreatH18
import Derived.Test.YtbojljpldcijgaaGreatH21
import Derived.Test.YtbojljpldcijgaaGreatH22
import Derived.Test.YtbojljpldcijgaaGreatH23
import Derived.Test.YtbojljpldcijgaaGreatH24
import Derived.Test.YtbojljpldcijgaaGreatH25
import Derived.Test.YtbojljpldcijgaaGreatH26
import Derived.Test.YtbojljpldcijgaaGreatH27
import Derived.Test.YtbojljpldcijgaaGreatL01
namespace Hb
open Go Go.RowKit
theorem add5 {n:Nat} (h:n≤16384):wrap64 ((n:Int)+5)=(n:Int)+5:=IntWalk.wrap64_in _ (by omega)
theorem add2 {e:Int} {n:Nat} (h:e=(n:Int)+1) (hn:n≤16384):wrap64 (e+2)=(n:Int)+1+2:=by
 subst h
 exact IntWalk.wrap64_in _ (by omega)
theorem take_data (s:ByteArray) (k:Nat) (_:k≤s.size):(s.extract 0 k).data.toList=s.data.toList.take k:=by
 simp
theorem body_one (b:ByteArray):((⟨#[40]⟩:ByteArray)++b++⟨#[41,46]⟩).data.toList=40::(b.data.toList++[41,46]):=by
 simp
theorem body_two (b:ByteArray):((⟨#[102,40,40]⟩:ByteArray)++b++⟨#[41,41,46]⟩).data.toList=102::40::40::(b.data.toList++[41,41,46]):=by
 simp
end Hb
namespace Go.Proofs.YtbojljpldcijgaaGreat
open Go.RowKit Hb
set_option maxRecDepth 100000
set_option linter.unusedSimpArgs false
attribute [local go_sem] Oper.semAt_some
set_option maxHeartbeats 6400000 in
theorem law_brackets (text:ByteArray) (OA:Option Addr) (on oc:Nat) (q u:Int) (c d:Bool) (CA:Option Addr) (cn cc:Nat) (ol:List OpR) (cl:List (Int×Int)) (w:World) (hO:Tab w OA on oc ol) (hcl:cn=cl.length) (hcn:cn≤maxLen) (hC:Pairs w CA cl) (hs:text.size≤maxLen):Calls Tryz.prog 6 #[.string text,.agg #[.slice OA on oc,.int .i64 q,.int .i64 u,.bool c,.bool d,.slice CA cn cc]] w fun e w'=>e=.returned (.bool true)∧Below w.heap.size w w':=by
 have HAW:=Lib.hid (fun W=>l_awake W)
 have HLF:=Lib.hid (fun s A n c W=>l_f s A n c W)
 have HB0:=Lib.hid ((Below.refl w.heap.size w).alloc (Nat.le_refl _) (.cells #[.slice OA on oc,.int .i64 q,.int .i64 u,.bool false,.bool d,.slice CA cn cc] 27))
 have HKS0:=Lib.hid (Bk.new w [.slice OA on oc,.int .i64 q,.int .i64 u,.bool false,.bool d,.slice CA cn cc] 27)
 have HRD:Hid (∀(tx:ByteArray) X,tx.size≤maxLen→Below w.heap.size w X→Calls Tryz.prog 11 #[.string tx,.int .i64 0,.agg #[.slice OA on oc,.int .i64 q,.int .i64 u,.bool false,.bool d,.slice CA cn cc]] X (ROk X (readS tx.data.toList 0 ⟨ol,q,u,false,d,cl⟩))):=Lib.hid fun tx X hx hX=>
  rd_Term tx 0 OA on oc q u false d CA cn cc ol cl X (hO.below hX) hcl hcn (hC.below hX) hx
 obtain ⟨r,HR⟩:∃r,Hid (r=readS text.data.toList 0 ⟨ol,q,u,false,d,cl⟩):=⟨_,Lib.hid rfl⟩
 have HC1:Hid (∀X,Below w.heap.size w X→Calls Tryz.prog 11 #[.string text,.int .i64 0,.agg #[.slice OA on oc,.int .i64 q,.int .i64 u,.bool false,.bool d,.slice CA cn cc]] X (ROk X r)):=Lib.hid fun X hX=>by
  rw [HR.out];exact HRD.out text X hs hX
 have hsum:=fun h1 h2=>brackets_sum (L:=text.data.toList) (s:=⟨ol,q,u,false,d,cl⟩) rfl h1 h2
 rw [←HR.out,size_data] at hsum
 have HSU:=Lib.hid hsum
 have HSZ:Hid (r.err=0→text.size≤16384):=Lib.hid (fun h=>by
  rw [HR.out] at h
  have h1:=(bad_no (read_ok h).1).1
  rwa [size_data] at h1)
 clear hO hcl hcn hC hs hsum
 go_enter Tryz.func6,Tryz.ntmps6
 go_wp2_with fail
 refine (HC1.out _ HB0.out).mono ?_;rintro e x1 ⟨A,cap,NA,nc,SA,sn,rfl,hB,h1,h2,h3⟩
 have HB1:=Lib.hid (HB0.out.trans (hB.mono HB0.out.size))
 have HKS1:=Lib.hid (HKS0.out.call hB)
 have HRA:=Lib.hid (⟨h1.keep (fun _ _=>rfl) fun _ hb=>hb.2,h2.keep (fun _ _=>rfl) fun _ hb=>hb.2,h3.keep (fun _ _=>rfl) fun _ hb=>hb.2⟩:RdAt x1 r A NA SA)
 clear hB h1 h2 h3 HB0 HC1 HKS0
 obtain ⟨W,HW⟩:∃x,Hid (x=x1.alloc (.cells #[.int .i64 r.t.kind,.int .i64 r.t.num,.string r.t.name,.slice A r.t.args.length cap,.slice NA r.names.length nc,.slice SA r.singles.length sn,.int .i64 r.end_] 33)):=⟨_,Lib.hid rfl⟩
 obtain ⟨g,HG⟩:∃x,Hid (x=x1.heap.size):=⟨_,Lib.hid rfl⟩
 have hB:Below x1.heap.size x1 W:=by rw [HW.out];exact (Below.refl _ _).alloc (Nat.le_refl _) _
 have HQ:Hid (Bk W g [.int .i64 r.t.kind,.int .i64 r.t.num,.string r.t.name,.slice A r.t.args.length cap,.slice NA r.names.length nc,.slice SA r.singles.length sn,.int .i64 r.end_]):=Lib.hid (by rw [HW.out,HG.out];exact Bk.new x1 [.int .i64 r.t.kind,.int .i64 r.t.num,.string r.t.name,.slice A r.t.args.length cap,.slice NA r.names.length nc,.slice SA r.singles.length sn,.int .i64 r.end_] 33)
 have HBW:=Lib.hid (HB1.out.trans (hB.mono HB1.out.size))
 have HKS:=Lib.hid (HKS1.out.call hB)
 have HRW:=Lib.hid (HRA.out.below hB)
 go_upto_region 3 with fail
 rw [←HW.out,←HG.out]
 clear hB HB1 HRA HW HG HKS1
 by_cases he:r.err=0
 rotate_left
 ·have hb:(r.err != 0)=true:=by simpa using he
  clear he HSU HR
  go_wp2_with fail
  refine (HAW.out _).mono ?_;rintro e wz ⟨rfl,hB⟩
  have HBZ:=Lib.hid (HBW.out.trans (hB.mono HBW.out.size))
  clear hB HBW
  go_wp2_with fail
  go_ret
  exact ⟨rfl,HBZ.out⟩
 have hb:(r.err != 0)=false:=by simpa using he
 have hw5:=add5 (HSZ.out he)
 by_cases hl:(16384:Int)<(text.size:Int)+5
 ·clear he HSU HR
  go_wp2_with fail
  refine (HAW.out _).mono ?_;rintro e wz ⟨rfl,hB⟩
  have HBZ:=Lib.hid (HBW.out.trans (hB.mono HBW.out.size))
  clear hB HBW
  go_wp2_with fail
  go_ret
  exact ⟨rfl,HBZ.out⟩
 obtain ⟨B,hS⟩:=HSU.out he (by omega)
 have HB:=Lib.hid hS
 obtain ⟨nb,HNB⟩:∃n,Hid (n=B.length):=⟨_,Lib.hid rfl⟩
 have hE:r.end_=(nb:Int)+1:=by rw [HNB.out];have:=HB.out.e;rwa [←HR.out] at this
 have hnl:nb<text.size:=by rw [HNB.out];have:=HB.out.el;rwa [size_data] at this
 have hts:text.size≤16384:=by omega
 have hq:=HQ.out.all0
 simp only [bkAll,Nat.zero_add,Nat.reduceAdd,and_true] at hq
 have e1:¬r.end_<1:=by omega
 have e2:¬(text.size:Int)<r.end_:=by omega
 have HE:=Lib.hid hE
 have HNL:=Lib.hid (show nb≤16384∧nb≤text.size by omega)
 clear hE hnl hts he hS HSU
 go_upto_region 8 with fail
 obtain ⟨bd,HBD⟩:∃b,Hid (b=text.extract 0 (r.end_.toNat-1)):=⟨_,Lib.hid rfl⟩
 rw [←HBD.out]
 have hbd:bd.data.toList=B:=by
  rw [HBD.out,show r.end_.toNat-1=nb from by have:=HE.out;omega,take_data _ _ HNL.out.2,HNB.out];exact HB.out.b.symm
 have HBL:=Lib.hid hbd
 have hbs:bd.size≤16384:=by
  have h:=congrArg List.length hbd
  rw [size_data] at h
  have:=HNL.out.1
  rw [HNB.out] at this
  omega
 clear hbd HBD e1 e2 hq hl hb hw5
 obtain ⟨t1,HT1⟩:∃t,Hid (t=(⟨#[40]⟩:ByteArray)++bd++⟨#[41,46]⟩):=⟨_,Lib.hid rfl⟩
 obtain ⟨t2,HT2⟩:∃t,Hid (t=(⟨#[102,40,40]⟩:ByteArray)++bd++⟨#[41,41,46]⟩):=⟨_,Lib.hid rfl⟩
 have h1s:t1.data.toList=40::(B++[41,46]):=by rw [HT1.out,body_one,HBL.out]
 have h2s:t2.data.toList=102::40::40::(B++[41,41,46]):=by rw [HT2.out,body_two,HBL.out]
 have hbl:B.length=nb:=HNB.out.symm
 have hz1:t1.size≤maxLen:=by
  have h:=congrArg List.length h1s
  rw [size_data] at h
  have:=HNL.out.1
  simp at h
  unfold maxLen;omega
 have hz2:t2.size≤maxLen:=by
  have h:=congrArg List.length h2s
  rw [size_data] at h
  have:=HNL.out.1
  simp at h
  unfold maxLen;omega
 obtain ⟨vw,hv⟩:∃vw,readS t1.data.toList 0 ⟨ol,q,u,false,d,cl⟩=⟨r.t,r.names,r.singles,(nb:Int)+1+2,vw,0⟩:=by
  have hb:=HB.out
  have h1:=hb.q0;have h2:=hb.qt;have h3:=hb.qn;have h4:=hb.qs;have h5:=hb.qe
  rw [←h1s] at h1 h2 h3 h4 h5
  rw [←HR.out] at h2 h3 h4
  rw [hbl] at h5
  obtain ⟨X,hX⟩:∃X,readS t1.data.toList 0 ⟨ol,q,u,false,d,cl⟩=X:=⟨_,rfl⟩
  rw [hX] at h1 h2 h3 h4 h5 ⊢
  obtain ⟨a1,a2,a3,a4,a5,a6⟩:=X
  dsimp only at h1 h2 h3 h4 h5
  subst h1 h2 h3 h4 h5
  exact ⟨a5,rfl⟩
 have HC2:Hid (∀X,Below w.heap.size w X→Calls Tryz.prog 11 #[.string t1,.int .i64 0,.agg #[.slice OA on oc,.int .i64 q,.int .i64 u,.bool false,.bool d,.slice CA cn cc]] X fun e w'=>∃A2 cap2 NA2 nc2 SA2 sn2,e=.returned (.tuple #[.agg #[.int .i64 r.t.kind,.int .i64 r.t.num,.string r.t.name,.slice A2 r.t.args.length cap2,.slice NA2 r.names.length nc2,.slice SA2 r.singles.length sn2,.int .i64 ((nb:Int)+1+2)],.int .i64 vw,.int .i64 0])∧Below X.heap.size X w'∧TmsAt w'.heap.size w' A2 r.t.args):=Lib.hid fun X hX=>by
  have h:=HRD.out t1 X hz1 hX
  rw [hv] at h
  exact h.mono fun e w' ⟨A,cap,NA,nc,SA,sn,he,hB,h1,_⟩=>⟨A,cap,NA,nc,SA,sn,he,hB,h1.keep (fun _ _=>rfl) fun _ hb=>hb.2⟩
 obtain ⟨y,HY⟩:∃y,Hid (y=readS t2.data.toList 0 ⟨ol,q,u,false,d,cl⟩):=⟨_,Lib.hid rfl⟩
 have HC3:Hid (∀X,Below w.heap.size w X→Calls Tryz.prog 11 #[.string t2,.int .i64 0,.agg #[.slice OA on oc,.int .i64 q,.int .i64 u,.bool false,.bool d,.slice CA cn cc]] X (ROk X y)):=Lib.hid fun X hX=>by
  rw [HY.out];exact HRD.out t2 X hz2 hX
 obtain ⟨tt,HTT⟩:∃tt,Hid (tt=stT ⟨#[102]⟩ [r.t]):=⟨_,Lib.hid rfl⟩
 have HYY:Hid (validT tt=true→y.err=0∧y.t=tt):=Lib.hid (by
  intro h
  have hb:=HB.out.uy
  rw [←h2s,←HY.out,←HR.out,←HTT.out] at hb
  exact hb h)
 have HYN:Hid (validT tt=false→y.err=2∧y.where_=0):=Lib.hid (by
  intro h
  have hb:=HB.out.un
  rw [←h2s,←HY.out,←HR.out,←HTT.out] at hb
  exact hb h)
 have HVR:Hid (validT r.t=true):=Lib.hid (by have:=HB.out.v;rwa [←HR.out] at this)
 have hs0:=HKS.out.all0
 simp only [bkAll,Nat.zero_add,Nat.reduceAdd,and_true] at hs0
 clear h1s h2s hbl hz1 hz2 hv HY HB HNB HBL HR HRD
 go_wp2_with fail
 rw [←HT1.out]
 refine (HC2.out _ HBW.out).mono ?_;rintro e x2 ⟨A2,cap2,NA2,nc2,SA2,sn2,rfl,hB,h1⟩
 have HB2:=Lib.hid (HBW.out.trans (hB.mono HBW.out.size))
 have HKS2:=Lib.hid (HKS.out.call hB)
 have HQ2:=Lib.hid (HQ.out.call hB)
 have HRT2:=Lib.hid (((HRW.out.t.keep hB).mono hB.size))
 have HV2:=Lib.hid h1
 clear hB h1 HBW HKS HQ HRW HC2 hs0
 obtain ⟨W2,HW2⟩:∃x,Hid (x=x2.alloc (.cells #[.int .i64 r.t.kind,.int .i64 r.t.num,.string r.t.name,.slice A2 r.t.args.length cap2,.slice NA2 r.names.length nc2,.slice SA2 r.singles.length sn2,.int .i64 ((nb:Int)+1+2)] 33)):=⟨_,Lib.hid rfl⟩
 obtain ⟨g2,HG2⟩:∃x,Hid (x=x2.heap.size):=⟨_,Lib.hid rfl⟩
 have hB:Below x2.heap.size x2 W2:=by rw [HW2.out];exact (Below.refl _ _).alloc (Nat.le_refl _) _
 have HQV:Hid (Bk W2 g2 [.int .i64 r.t.kind,.int .i64 r.t.num,.string r.t.name,.slice A2 r.t.args.length cap2,.slice NA2 r.names.length nc2,.slice SA2 r.singles.length sn2,.int .i64 ((nb:Int)+1+2)]):=Lib.hid (by rw [HW2.out,HG2.out];exact Bk.new x2 [.int .i64 r.t.kind,.int .i64 r.t.num,.string r.t.name,.slice A2 r.t.args.length cap2,.slice NA2 r.names.length nc2,.slice SA2 r.singles.length sn2,.int .i64 ((nb:Int)+1+2)] 33)
 have HBW:=Lib.hid (HB2.out.trans (hB.mono HB2.out.size))
 have HKS:=Lib.hid (HKS2.out.call hB)
 have HQ:=Lib.hid (HQ2.out.call hB)
 have HRT:=Lib.hid ((HRT2.out.keep hB).mono hB.size)
 have HVT:=Lib.hid ((HV2.out.keep hB).mono hB.size)
 go_upto_region 9 with fail
 rw [←HW2.out,←HG2.out]
 clear hB HB2 HKS2 HQ2 HRT2 HV2 HW2 HG2
 have HSM:Hid (Calls Tryz.prog 18 #[.agg #[.int .i64 r.t.kind,.int .i64 r.t.num,.string r.t.name,.slice A2 r.t.args.length cap2],.agg #[.int .i64 r.t.kind,.int .i64 r.t.num,.string r.t.name,.slice A r.t.args.length cap]] W2 fun e w'=>e=.returned (.bool true)∧Below W2.heap.size W2 w'):=Lib.hid (by
  have h:=r3_same r.t r.t A2 A cap2 cap W2 HVT.out HRT.out
  rw [same_refl HVR.out] at h
  exact h)
 have hq:=HQ.out.all0
 simp only [bkAll,Nat.zero_add,Nat.reduceAdd,and_true] at hq
 have hv:=HQV.out.all0
 simp only [bkAll,Nat.zero_add,Nat.reduceAdd,and_true] at hv
 go_wp2_with fail
 refine HSM.out.mono ?_;rintro e w3 ⟨rfl,hB⟩
 have HB3:=Lib.hid (HBW.out.trans (hB.mono HBW.out.size))
 have HKS3:=Lib.hid (HKS.out.call hB)
 have HQ3:=Lib.hid (HQ.out.call hB)
 have HQV3:=Lib.hid (HQV.out.call hB)
 have HRT3:=Lib.hid ((HRT.out.keep hB).mono hB.size)
 clear hB hq hv HBW HKS HQ HQV HRT HVT HSM HVR
 have hq:=HQ3.out.all0
 simp only [bkAll,Nat.zero_add,Nat.reduceAdd,and_true] at hq
 have hv:=HQV3.out.all0
 simp only [bkAll,Nat.zero_add,Nat.reduceAdd,and_true] at hv
 have he2:=add2 HE.out HNL.out.1
 have hs0:=HKS3.out.all0
 simp only [bkAll,Nat.zero_add,Nat.reduceAdd,and_true] at hs0
 go_wp2_with fail
 rw [←HT2.out]
 refine (HC3.out _ HB3.out).mono ?_;rintro e x4 ⟨A4,cap4,NA4,nc4,SA4,sn4,rfl,hB,h1,_,_⟩
 have HB4:=Lib.hid (HB3.out.trans (hB.mono HB3.out.size))
 have HQ4:=Lib.hid (HQ3.out.call hB)
 have HRT4:=Lib.hid ((HRT3.out.keep hB).mono hB.size)
 have HYT4:Hid (TmsAt x4.heap.size x4 A4 y.t.args):=Lib.hid (h1.keep (fun _ _=>rfl) fun _ hb=>hb.2)
 clear hB h1 hq hv hs0 he2 HB3 HKS3 HQ3 HQV3 HRT3 HC3 HT1 HT2 hbs
 obtain ⟨W5,HW5⟩:∃x,Hid (x=x4.alloc (.cells #[.int .i64 y.t.kind,.int .i64 y.t.num,.string y.t.name,.slice A4 y.t.args.length cap4,.slice NA4 y.names.length nc4,.slice SA4 y.singles.length sn4,.int .i64 y.end_] 33)):=⟨_,Lib.hid rfl⟩
 obtain ⟨g5,HG5⟩:∃x,Hid (x=x4.heap.size):=⟨_,Lib.hid rfl⟩
 have hB:Below x4.heap.size x4 W5:=by rw [HW5.out];exact (Below.refl _ _).alloc (Nat.le_refl _) _
 have HQY:Hid (Bk W5 g5 [.int .i64 y.t.kind,.int .i64 y.t.num,.string y.t.name,.slice A4 y.t.args.length cap4,.slice NA4 y.names.length nc4,.slice SA4 y.singles.length sn4,.int .i64 y.end_]):=Lib.hid (by rw [HW5.out,HG5.out];exact Bk.new x4 [.int .i64 y.t.kind,.int .i64 y.t.num,.string y.t.name,.slice A4 y.t.args.length cap4,.slice NA4 y.names.length nc4,.slice SA4 y.singles.length sn4,.int .i64 y.end_] 33)
 have HB5:=Lib.hid (HB4.out.trans (hB.mono HB4.out.size))
 have HQ5:=Lib.hid (HQ4.out.call hB)
 have HRT5:=Lib.hid ((HRT4.out.keep hB).mono hB.size)
 have HYT5:=Lib.hid ((HYT4.out.keep hB).mono hB.size)
 go_upto_region 12 with fail
 rw [←HW5.out,←HG5.out]
 clear hB HB4 HQ4 HRT4 HYT4 HW5 HG5
 have hq:=HQ5.out.all0
 simp only [bkAll,Nat.zero_add,Nat.reduceAdd,and_true] at hq
 obtain ⟨W6,HW6⟩:∃x,Hid (x=W5.alloc (.cells #[.int .i64 r.t.kind,.int .i64 r.t.num,.string r.t.name,.slice A r.t.args.length cap] 30)):=⟨_,Lib.hid rfl⟩
 have hB:Below W5.heap.size W5 W6:=by rw [HW6.out];exact (Below.refl _ _).alloc (Nat.le_refl _) _
 have HTW:Hid (TmsAt W6.heap.size W6 (some ⟨W5.heap.size,0,none⟩) [r.t]):=Lib.hid (by
  rw [HW6.out]
  exact row_new W5 [(r.t,A,cap)] 30 (by simp [maxLen]) (fun x hx=>by
   simp only [List.mem_cons,List.mem_nil_iff,or_false] at hx
   rw [hx]
   exact HRT5.out))
 have HB6:=Lib.hid (HB5.out.trans (hB.mono HB5.out.size))
 have HQY6:=Lib.hid (HQY.out.call hB)
 have HYT6:=Lib.hid ((HYT5.out.keep hB).mono hB.size)
 go_wp2_with fail
 rw [←HW6.out]
 refine (HLF.out ⟨#[102]⟩ _ _ _ W6).mono ?_;rintro e w7 ⟨rfl,hB7⟩
 have HB7:=Lib.hid (HB6.out.trans (hB7.mono HB6.out.size))
 have HQY7:=Lib.hid (HQY6.out.call hB7)
 have HYT7:=Lib.hid ((HYT6.out.keep hB7).mono hB7.size)
 have HTW7:=Lib.hid ((HTW.out.keep hB7).mono hB7.size)
 clear hB hB7 hq HB5 HQ5 HQY HRT5 HYT5 HTW HB6 HQY6 HYT6 HW6
 obtain ⟨gr,HGR⟩:∃x,Hid (x=W5.heap.size):=⟨_,Lib.hid rfl⟩
 rw [←HGR.out] at HTW7 ⊢
 clear HGR
 obtain ⟨W8,HW8⟩:∃x,Hid (x=w7.alloc (.cells #[.int .i64 3,.int .i64 0,.string ⟨#[102]⟩,.slice (some ⟨gr,0,none⟩) 1 1] 30)):=⟨_,Lib.hid rfl⟩
 obtain ⟨g8,HG8⟩:∃x,Hid (x=w7.heap.size):=⟨_,Lib.hid rfl⟩
 have hB:Below w7.heap.size w7 W8:=by rw [HW8.out];exact (Below.refl _ _).alloc (Nat.le_refl _) _
 have HQW:Hid (Bk W8 g8 [.int .i64 3,.int .i64 0,.string ⟨#[102]⟩,.slice (some ⟨gr,0,none⟩) 1 1]):=Lib.hid (by rw [HW8.out,HG8.out];exact Bk.new w7 [.int .i64 3,.int .i64 0,.string ⟨#[102]⟩,.slice (some ⟨gr,0,none⟩) 1 1] 30)
 have HB8:=Lib.hid (HB7.out.trans (hB.mono HB7.out.size))
 have HQY8:=Lib.hid (HQY7.out.call hB)
 have HYT8:=Lib.hid ((HYT7.out.keep hB).mono hB.size)
 have HTW8:=Lib.hid ((HTW7.out.keep hB).mono hB.size)
 go_upto_region 13 with fail
 rw [←HW8.out,←HG8.out]
 clear hB HB7 HQY7 HYT7 HTW7 HW8 HG8
 have HVL:Hid (Calls Tryz.prog 20 #[.agg #[.int .i64 3,.int .i64 0,.string ⟨#[102]⟩,.slice (some ⟨gr,0,none⟩) 1 1]] W8 fun e w'=>e=.returned (.bool (validT tt))∧Below W8.heap.size W8 w'):=Lib.hid (by
  rw [HTT.out]
  exact ref_tvalid (stT ⟨#[102]⟩ [r.t]) (some ⟨gr,0,none⟩) 1 W8 HTW8.out)
 have hq:=HQW.out.all0
 simp only [bkAll,Nat.zero_add,Nat.reduceAdd,and_true] at hq
 go_wp2_with fail
 refine HVL.out.mono ?_;rintro e w9 ⟨rfl,hB⟩
 have HB9:=Lib.hid (HB8.out.trans (hB.mono HB8.out.size))
 have HQY9:=Lib.hid (HQY8.out.call hB)
 have HQW9:=Lib.hid (HQW.out.call hB)
 have HYT9:=Lib.hid ((HYT8.out.keep hB).mono hB.size)
 have HTW9:=Lib.hid ((HTW8.out.keep hB).mono hB.size)
 clear hB hq HB8 HQY8 HQW HYT8 HTW8 HVL
 by_cases hvt:validT tt=true
 rotate_left
 ·have hvf:validT tt=false:=by simpa using hvt
  rw [hvf]
  obtain ⟨hy1,hy2⟩:=HYN.out hvf
  have b1:(y.err==2)=true:=by simpa using hy1
  have b2:(y.where_==0)=true:=by simpa using hy2
  clear hvt hvf hy1 hy2 HYY HYN
  go_wp2_with fail
  refine (HAW.out _).mono ?_;rintro e wz ⟨rfl,hB⟩
  have HBZ:=Lib.hid (HB9.out.trans (hB.mono HB9.out.size))
  clear hB HB9
  go_wp2_with fail
  go_ret
  exact ⟨rfl,HBZ.out⟩
 rw [hvt]
 obtain ⟨hy1,hy2⟩:=HYY.out hvt
 have b1:(y.err==0)=true:=by simpa using hy1
 have HSM:Hid (Calls Tryz.prog 18 #[.agg #[.int .i64 y.t.kind,.int .i64 y.t.num,.string y.t.name,.slice A4 y.t.args.length cap4],.agg #[.int .i64 3,.int .i64 0,.string ⟨#[102]⟩,.slice (some ⟨gr,0,none⟩) 1 1]] w9 fun e w'=>e=.returned (.bool true)∧Below w9.heap.size w9 w'):=Lib.hid (by
  have h:=r3_same y.t (stT ⟨#[102]⟩ [r.t]) A4 (some ⟨gr,0,none⟩) cap4 1 w9 HYT9.out HTW9.out
  rw [show sameT y.t (stT ⟨#[102]⟩ [r.t])=true by rw [hy2,HTT.out];exact same_refl (by rw [←HTT.out];exact hvt)] at h
  exact h)
 clear hvt hy1 hy2 HYY HYN
 have hq:=HQW9.out.all0
 simp only [bkAll,Nat.zero_add,Nat.reduceAdd,and_true] at hq
 have hv:=HQY9.out.all0
 simp only [bkAll,Nat.zero_add,Nat.reduceAdd,and_true] at hv
 go_wp2_with fail
 refine HSM.out.mono ?_;rintro e wx ⟨rfl,hB⟩
 have HBX:=Lib.hid (HB9.out.trans (hB.mono HB9.out.size))
 clear hB hq hv HB9 HQY9 HQW9 HYT9 HTW9 HSM
 go_wp2_with fail
 refine (HAW.out _).mono ?_;rintro e wz ⟨rfl,hB⟩
 have HBZ:=Lib.hid (HBX.out.trans (hB.mono HBX.out.size))
 clear hB HBX
 go_wp2_with fail
 go_ret
 exact ⟨rfl,HBZ.out⟩
end Go.Proofs.YtbojljpldcijgaaGreat
