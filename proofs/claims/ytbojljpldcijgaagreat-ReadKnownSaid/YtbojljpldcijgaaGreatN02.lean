/- Parts of the proof. -/
import Derived.Test.YtbojljpldcijgaaGreatH01
import Derived.Test.YtbojljpldcijgaaGreatH02
import Derived.Test.YtbojljpldcijgaaGreatH03
import Derived.Test.YtbojljpldcijgaaGreatH04
import Derived.Test.YtbojljpldcijgaaGreatH05
import Derived.Test.YtbojljpldcijgaaGreatH06
import Derived.Test.YtbojljpldcijgaaGreatH07
import Derived.Test.YtbojljpldcijgaaGreatH08
import Derived.Test.YtbojljpldcijgaaGreatH09
import Derived.Test.YtbojljpldcijgaaGreatH10
import Derived.Test.YtbojljpldcijgaaGreatH11
import Derived.Test.YtbojljpldcijgaaGreatH12
import Derived.Test.YtbojljpldcijgaaGreatH13
import Derived.Test.YtbojljpldcijgaaGreatH14
import Derived.Test.YtbojljpldcijgaaGreatH15
import Derived.Test.YtbojljpldcijgaaGreatH16
import Derived.Test.YtbojljpldcijgaaGreatH17
import Derived.Test.YtbojljpldcijgaaGreatH18
import Derived.Test.YtbojljpldcijgaaGreatH21
import Derived.Test.YtbojljpldcijgaaGreatH22
import Derived.Test.YtbojljpldcijgaaGreatH23
import Derived.Test.YtbojljpldcijgaaGreatH24
import Derived.Test.YtbojljpldcijgaaGreatH25
import Derived.Test.YtbojljpldcijgaaGreatH26
import Derived.Test.YtbojljpldcijgaaGreatH27
import Derived.Test.YtbojljpldcijgaaGreatN01
namespace Go.Proofs.YtbojljpldcijgaaGreat
open Go.RowKit Hb
set_option maxRecDepth 100000
set_option linter.unusedSimpArgs false
attribute [local go_sem] Oper.semAt_some
set_option maxHeartbeats 6400000 in
theorem rd_All (text:ByteArray) (OA:Option Addr) (on oc:Nat) (q u:Int) (c d:Bool) (CA:Option Addr) (cn cc:Nat) (ol:List OpR) (cl:List (Int×Int)) (w:World) (hO:Tab w OA on oc ol) (hcl:cn=cl.length) (hcn:cn≤maxLen) (hC:Pairs w CA cl) (hs:text.size≤maxLen):Calls Tryz.prog 21 #[.string text,.agg #[.slice OA on oc,.int .i64 q,.int .i64 u,.bool c,.bool d,.slice CA cn cc]] w fun e w'=>∃v rs,e=.returned (.tuple #[v,.int .i64 (allS text.data.toList ⟨ol,q,u,c,d,cl⟩).2.1,.int .i64 (allS text.data.toList ⟨ol,q,u,c,d,cl⟩).2.2])∧Below w.heap.size w w'∧OwnRd w.heap.size 33 w' v rs∧rs.map (·.r)=(allS text.data.toList ⟨ol,q,u,c,d,cl⟩).1:=by
 obtain ⟨R,HR⟩:∃R,Hid (R=allS text.data.toList ⟨ol,q,u,c,d,cl⟩):=⟨_,Lib.hid rfl⟩
 rw [←HR.out]
 have HC1:Hid (∀(a:Nat) X,Below w.heap.size w X→Calls Tryz.prog 11 #[.string text,.int .i64 (a:Int),.agg #[.slice OA on oc,.int .i64 q,.int .i64 u,.bool c,.bool d,.slice CA cn cc]] X (ROk X (readS text.data.toList a ⟨ol,q,u,c,d,cl⟩))):=Lib.hid fun a X hX=>rd_Term text a OA on oc q u c d CA cn cc ol cl X (hO.below hX) hcl hcn (hC.below hX) hs
 have HB0:=Lib.hid ((Below.refl w.heap.size w).alloc (Nat.le_refl _) (.cells #[.slice OA on oc,.int .i64 q,.int .i64 u,.bool c,.bool d,.slice CA cn cc] 27))
 have HKS0:=Lib.hid (Bk.new w [.slice OA on oc,.int .i64 q,.int .i64 u,.bool c,.bool d,.slice CA cn cc] 27)
 have HE0:Hid (R=allP text.data.toList ⟨ol,q,u,c,d,cl⟩ (text.size+1) ((0:Nat):Int) []):=Lib.hid (by rw [HR.out,←size_data];rfl)
 clear hO hcl hcn hC hs HR
 go_enter Tryz.func21,Tryz.ntmps21
 go_wp2_with fail
 go_loopw [4,7] (fun v4 v7 wr=>∃(rs:List RW) (a f:Nat),v7=.int .i64 (a:Int)∧a≤text.size∧rs.length≤a∧text.size+1≤f+a∧Hid (Below w.heap.size w wr)∧Hid (Bk wr w.heap.size [.slice OA on oc,.int .i64 q,.int .i64 u,.bool c,.bool d,.slice CA cn cc])∧Hid (OwnRd (w.heap.size+1) 33 wr v4 rs)∧Hid (R=allP text.data.toList ⟨ol,q,u,c,d,cl⟩ f (a:Int) (rs.map (·.r)))) (fun _ v7 _=>text.size-(intOf v7).toNat)
 case atStart=>exact ⟨[],0,text.size+1,rfl,Nat.zero_le _,Nat.zero_le _,Nat.le_refl _,HB0,HKS0,Lib.hid (OwnRd.nul _ _ _),HE0⟩
 case round=>
  obtain ⟨rs,a,f,rfl,ha,hra,hf,HB,HKS,HO,HE⟩:=hrel
  obtain ⟨f,rfl⟩:∃g,f=g+1:=⟨f-1,by omega⟩
  obtain ⟨r,HRR⟩:∃r,Hid (r=readS text.data.toList a ⟨ol,q,u,c,d,cl⟩):=⟨_,Lib.hid rfl⟩
  have HC:=Lib.hid (HC1.out a wr HB.out)
  rw [←HRR.out] at HC
  have HE1:Hid (R=if r.err=14 then (rs.map (·.r),0,0) else if ¬r.err=0 then ([],r.where_,r.err) else allP text.data.toList ⟨ol,q,u,c,d,cl⟩ f r.end_ (rs.map (·.r)++[r])):=Lib.hid (by rw [HE.out,HRR.out];rfl)
  have hmore:=fun h=>read_more (L:=text.data.toList) (a:=a) (s:=⟨ol,q,u,c,d,cl⟩) h
  rw [←HRR.out,size_data] at hmore
  have HMO:=Lib.hid hmore
  have HNN:=Lib.hid (⟨ha,hra,hf⟩:_∧_∧_)
  have hkb:=HKS.out.all0
  simp only [bkAll,Nat.zero_add,Nat.reduceAdd,and_true] at hkb
  clear hmore ha hra hf HE
  go_wp2_with fail
  refine HC.out.mono ?_;rintro e x1 ⟨A,cap,NA,nc,SA,sn,rfl,hB,h1,h2,h3⟩
  have hlo:=HB.out.size
  have HB1:=Lib.hid (HB.out.trans (hB.mono HB.out.size))
  have HKS1:=Lib.hid (HKS.out.call hB)
  have HO1:=Lib.hid (HO.out.call hB)
  have HRK:Hid (RdK (fun b=>w.heap.size+1≤b∧b<x1.heap.size∧u4.ownBlock≠some b) x1 ⟨r,A,cap,NA,nc,SA,sn⟩):=Lib.hid (by
   have hk:∀b,wr.heap.size≤b∧b<x1.heap.size→w.heap.size+1≤b∧b<x1.heap.size∧u4.ownBlock≠some b:=fun b hb=>⟨by have:=HKS.out.lt;have:=hb.1;omega,hb.2,fun e=>by have:=(HO.out.own.lt b e).2;have:=hb.1;omega⟩
   exact ⟨h1.keep (fun _ _=>rfl) hk,h2.keep (fun _ _=>rfl) hk,h3.keep (fun _ _=>rfl) hk⟩)
  clear hB h1 h2 h3 HB HKS HC HO hkb hlo
  obtain ⟨W,HW⟩:∃x,Hid (x=x1.alloc (.cells #[.int .i64 r.t.kind,.int .i64 r.t.num,.string r.t.name,.slice A r.t.args.length cap,.slice NA r.names.length nc,.slice SA r.singles.length sn,.int .i64 r.end_] 33)):=⟨_,Lib.hid rfl⟩
  obtain ⟨g,HG⟩:∃x,Hid (x=x1.heap.size):=⟨_,Lib.hid rfl⟩
  have hB:Below x1.heap.size x1 W:=by rw [HW.out];exact (Below.refl _ _).alloc (Nat.le_refl _) _
  have HQ:Hid (Bk W g [.int .i64 r.t.kind,.int .i64 r.t.num,.string r.t.name,.slice A r.t.args.length cap,.slice NA r.names.length nc,.slice SA r.singles.length sn,.int .i64 r.end_]):=Lib.hid (by rw [HW.out,HG.out];exact Bk.new x1 [.int .i64 r.t.kind,.int .i64 r.t.num,.string r.t.name,.slice A r.t.args.length cap,.slice NA r.names.length nc,.slice SA r.singles.length sn,.int .i64 r.end_] 33)
  have HBW:=Lib.hid (HB1.out.trans (hB.mono HB1.out.size))
  have HKW:=Lib.hid (HKS1.out.call hB)
  have HOW:=Lib.hid (HO1.out.call hB)
  have HRW:=Lib.hid (HRK.out.keep (fun b hb=>hB.block b hb.2.1) fun b hb=>(⟨hb.1,Nat.lt_of_lt_of_le hb.2.1 hB.size,hb.2.2⟩:w.heap.size+1≤b∧b<W.heap.size∧u4.ownBlock≠some b))
  have HGO:Hid (u4.ownBlock≠some g):=Lib.hid (fun e=>by have:=(HO1.out.own.lt g e).2;rw [HG.out] at this;omega)
  go_upto_region 3 with fail
  rw [←HW.out,←HG.out]
  clear hB HB1 HKS1 HO1 HRK HW HG
  have hq:=HQ.out.all0
  simp only [bkAll,Nat.zero_add,Nat.reduceAdd,and_true] at hq
  by_cases e14:r.err=14
  ·have b14:(r.err==14)=true:=by simpa using e14
   have HV:Hid (R=(rs.map (·.r),0,0)):=Lib.hid (by rw [HE1.out,if_pos e14])
   clear e14 HE1 HMO
   go_wp2_with fail
   refine bodyPost_ret (v:=.tuple #[u4,.int .i64 0,.int .i64 0]) (by simp [results,Tryz.results21,go_sem]) rfl ?_
   exact ⟨u4,rs,by rw [HV.out],HBW.out,OwnRd.mono (Nat.le_succ _) HOW.out,by rw [HV.out]⟩
  have b14:(r.err==14)=false:=by simpa using e14
  by_cases e0:r.err=0
  rotate_left
  ·have b0:(r.err != 0)=true:=by simpa using e0
   have HV:Hid (R=([],r.where_,r.err)):=Lib.hid (by rw [HE1.out,if_neg e14,if_pos e0])
   clear e14 e0 HE1 HMO
   go_wp2_with fail
   refine bodyPost_ret (v:=.tuple #[.slice none 0 0,.int .i64 r.where_,.int .i64 r.err]) (by simp [results,Tryz.results21,go_sem]) rfl ?_
   exact ⟨.slice none 0 0,[],by rw [HV.out],HBW.out,OwnRd.nul _ _ _,by rw [HV.out];rfl⟩
  have b0:(r.err != 0)=false:=by simpa using e0
  obtain ⟨e',he',hae,hel,hel2⟩:=HMO.out e0
  have HV:Hid (R=allP text.data.toList ⟨ol,q,u,c,d,cl⟩ f (e':Int) ((rs++[(⟨r,A,cap,NA,nc,SA,sn⟩:RW)]).map (·.r))):=Lib.hid (by rw [HE1.out,if_neg e14,if_neg (fun h=>h e0),he',List.map_append];rfl)
  have HEE:=Lib.hid he'
  have HN2:Hid (a<e'∧e'≤text.size∧rs.length≤100000):=Lib.hid ⟨hae,hel,by have:=HNN.out;omega⟩
  clear e14 e0 HE1 HMO he' hae hel hel2
  go_upto_region 7 with fail
  have hsz:w.heap.size+1≤W.heap.size:=HKW.out.lt
  go_wp2_with (at_builtin;go_must (refine wpList_app_rd rfl _ _ rfl (w.heap.size+1) u4 rs rfl HOW.out hsz ⟨r,A,cap,NA,nc,SA,sn⟩ HRW.out _ rfl rfl rfl HN2.out.2.2 ?_;intro v5 w5 HO5 HG5;have hgb:Below w.heap.size w (W.alloc (.cells #[.int .i64 r.t.kind,.int .i64 r.t.num,.string r.t.name,.slice A r.t.args.length cap,.slice NA r.names.length nc,.slice SA r.singles.length sn,.int .i64 r.end_] 33)):=HBW.out.alloc (by omega) _;have HB5:=Lib.hid (hgb.grown HG5.out (by have:=hgb.size;omega) (fun k hk=>by have:=(HOW.out.own.lt k hk).1;omega));have HK5:=Lib.hid ((HKW.out.call ((Below.refl _ _).alloc (Nat.le_refl _) (.cells #[.int .i64 r.t.kind,.int .i64 r.t.num,.string r.t.name,.slice A r.t.args.length cap,.slice NA r.names.length nc,.slice SA r.singles.length sn,.int .i64 r.end_] 33))).keeps (HG5.out.block w.heap.size (by have:=HKW.out.lt;simp;omega) (fun e=>by have:=(HOW.out.own.lt _ e.symm).1;omega)));have HQ5:=Lib.hid ((HQ.out.call ((Below.refl _ _).alloc (Nat.le_refl _) (.cells #[.int .i64 r.t.kind,.int .i64 r.t.num,.string r.t.name,.slice A r.t.args.length cap,.slice NA r.names.length nc,.slice SA r.singles.length sn,.int .i64 r.end_] 33))).keeps (HG5.out.block g (by have:=HQ.out.lt;simp;omega) (fun e=>HGO.out e.symm)));have hq5:=HQ5.out.all0;simp only [bkAll,Nat.zero_add,Nat.reduceAdd,and_true] at hq5;rw [HEE.out] at hq5;clear hgb HG5))
  clear hq HQ HBW HKW HOW HRW HGO hsz
  go_roundw
  case rel=>exact ⟨rs++[⟨r,A,cap,NA,nc,SA,sn⟩],e',f,rfl,HN2.out.2.1,by rw [List.length_append];have:=HN2.out.1;have:=HNN.out;simp;omega,by have:=HN2.out.1;have:=HNN.out;omega,HB5,HK5,HO5,HV⟩
  case measure=>have:=HN2.out;simp [intOf];omega
end Go.Proofs.YtbojljpldcijgaaGreat
