/- Parts of the proof. -/
import Derived.Test.YtbojljpldcijgaaGreatH01
import Derived.Test.YtbojljpldcijgaaGreatH16
import Derived.Laws.OwnMore
import Derived.Defers
import Derived.Recover
namespace Go.Proofs.YtbojljpldcijgaaGreat
open Go.RowKit Hb
set_option maxRecDepth 100000
set_option linter.unusedSimpArgs false
theorem opdG_eq (E:RE) (S:PT) (most:Int) (n:Nat) (t:NextR) (ht:t=E.at n):opdG E S most n =
 if t.r.kind=4∧0≤t.r.n then .ok (inT t.r.n,0,n+1)
 else if t.r.kind=3 then .ok (vaT ((vsAt E.T n).num t.r.text),0,n+1)
 else if t.r.kind=5 then .ok (sgT E.q t.r.text,0,n+1)
 else if isBrk t=true then (match brkG E S t.r.text (n+1) with
  | .error e=>.error e
  | .ok (u,m)=>.ok (u,0,m))
 else if isNam t=true then nmdG E S t most (n+1)
 else .error n:=by subst ht;rfl
theorem tok_in {c:PC} {n:Nat} (hn:n<c.E.T.length):c.E.at n∈c.E.T:=by rw [c.E.at_get hn];exact List.getElem_mem _
set_option maxHeartbeats 6400000 in
theorem rd_operand {c:PC} {S:PT} {k n:Nat} {nv:Value} {w:World} (hS:TrmOk c S k) (hk:k≤n+1) (p:PsAt c n (vsAt c.E.T n) nv w) (most:Int) :
  Calls Tryz.prog 94 #[.pointer (some ⟨c.P,0,none⟩),.int .i64 most] w (TOut c n nv w (opdG c.E S most n)):=by
 obtain ⟨R,HR⟩:=lz (opdG c.E S most n)
 rw [←HR.out]
 obtain ⟨t,HT⟩:=lz (c.E.at n)
 have HE:=zq (HR.out.trans (opdG_eq c.E S most n t HT.out))
 have HTI:=zq (p.ok.txt _ (tok_in p.n1))
 have HNL:=zq (p.ok.nms _ (tok_in p.n1))
 have HQ0:=zq ((Wk.start p).new [.int .i64 0,.int .i64 0,.string ⟨#[]⟩,.slice none 0 0] 30 rfl)
 have HPK:=zq (rd_peek HQ0.out.p 0 (by decide))
 rw [Nat.add_zero] at HPK
 have HMO:=zq p.more
 have HVN:=zq p.vn
 have HN1:=zq p.n1
 have HI:=zq (inc64 (n:=n) (by have:=p.n1;have:=p.ok.len;omega))
 have HVT:=zq (fun h:isV (c.E.at n)=true=>vs_take p.n1 h)
 rw [←HT.out] at HTI HNL HPK HMO HVT
 have HSV:Hid (isV t=false→∀nv' W,PsAt c (n+1) (vsAt c.E.T n) nv' W→PsAt c (n+1) (vsAt c.E.T (n+1)) nv' W):=zq fun h nv' W hp=>PsAt.skip (by rw [←HT.out];exact h) HN1.out hp
 have HSS:=zq hS
 have HKK:=zq hk
 clear p HR hS hk
 by_cases h4:t.r.kind=4
 ·have b4:(t.r.kind==4)=true:=by simpa using h4
  by_cases h0:0≤t.r.n
  ·have d0:decide (0≤t.r.n)=true:=decide_eq_true h0
   have HV:=zq (HE.out.trans (if_pos ⟨h4,h0⟩))
   have HM1:=zq (HMO.out (by rw [h4];decide))
   have HIV:=zq (isV_kind h4 (by decide))
   clear h4 h0 HE HTI HNL HMO HVN HVT HSS HKK HT HN1
   go_enter Tryz.func94,Tryz.ntmps94
   go_wp2_with fail
   refine HPK.out.mono ?_;rintro e w1 ⟨rfl,hB1⟩
   have HQ1:=zq ((HQ0.out.call hB1).new [.int .i64 t.r.kind,.string t.txt,.int .i64 t.r.n,.int .i64 t.r.at_,.int .i64 t.r.end_,.bool t.lay] 76 rfl)
   clear hB1 HQ0 HPK
   obtain ⟨g1,HG1⟩:=lz (w1.heap.size)
   obtain ⟨wb,HWB⟩:=lz (w1.alloc (.cells #[.int .i64 t.r.kind,.string t.txt,.int .i64 t.r.n,.int .i64 t.r.at_,.int .i64 t.r.end_,.bool t.lay] 76))
   unfold tkV
   go_upto_region 2 with fail
   rw [←HWB.out] at HQ1 ⊢
   rw [←HG1.out] at HQ1 ⊢
   clear HWB HG1
   have cc2:=HQ1.out.b.all
   simp only [PC.cells,List.cons_append,List.nil_append,List.append_nil,bksAll,bkAll,Nat.zero_add,Nat.reduceAdd,and_true] at cc2
   clear cc2
   have cc3:=HQ1.out.b.all
   simp only [PC.cells,List.cons_append,List.nil_append,List.append_nil,bksAll,bkAll,Nat.zero_add,Nat.reduceAdd,and_true] at cc3
   have hi:=HI.out
   go_upto_region 4 with fail
   have hq:=HQ1.out.inc HM1.out
   obtain ⟨wn,HWN⟩:=lz (wb.setCell ⟨c.P,1,none⟩ (.int .i64 ((n:Int)+1)))
   rw [←HWN.out] at hq ⊢
   have HQn:=zq (hq.step (HSV.out HIV.out nv _ hq.p) (Stp.refl c nv wn))
   clear hq HWN HQ1 cc3 hi
   have cc4:=HQn.out.b.all
   simp only [PC.cells,List.cons_append,List.nil_append,List.append_nil,bksAll,bkAll,Nat.zero_add,Nat.reduceAdd,and_true] at cc4
   go_wp2_with fail
   refine (t_int t.r.n _).mono ?_;rintro e w5 ⟨rfl,hB⟩
   have HQ6:=zq (HQn.out.call hB)
   clear HQn cc4
   clear hB 
   have cc7:=HQ6.out.b.all
   simp only [PC.cells,List.cons_append,List.nil_append,List.append_nil,bksAll,bkAll,Nat.zero_add,Nat.reduceAdd,and_true] at cc7
   go_wp2_with fail
   have hz:=HQ6.out.put4 1 rfl (.int .i64 1) (.int .i64 t.r.n) (.string ⟨#[]⟩) (.slice none 0 0) (Nat.le_refl _)
   refine bodyPost_ret (v:=.tuple #[.agg #[.int .i64 1,.int .i64 t.r.n,.string ⟨#[]⟩,.slice none 0 0],.int .i64 0]) (by simp [results,Tryz.results94,go_sem,cc7]) rfl ?_
   rw [HV.out]
   exact ⟨Nat.lt_succ_self _,none,0,nv,rfl,hz.p,hz.s,TmsK.nil⟩
  ·have d0:decide (0≤t.r.n)=false:=decide_eq_false h0
   have b3:(t.r.kind==3)=false:=by simp;omega
   have b5:(t.r.kind==5)=false:=by simp;omega
   have b6:(t.r.kind==6)=false:=by simp;omega
   have b1:(t.r.kind==1)=false:=by simp;omega
   have b2:(t.r.kind==2)=false:=by simp;omega
   have hP:∀s,isP t s=false:=fun s=>by unfold isP;rw [b6];rfl
   have hN:isNam t=false:=by unfold isNam;rw [b1,b2];rfl
   have HV:Hid (R=.error n):=zq (by rw [HE.out,if_neg (fun h=>h0 h.2),if_neg (by omega),if_neg (by omega),if_neg (by unfold isBrk;rw [hP,hP,hP];simp),if_neg (by rw [hN];simp)])
   have HU1:=zq fun W=>rd_punct t ⟨#[40]⟩ W
   have HU2:=zq fun W=>rd_punct t ⟨#[91]⟩ W
   have HU3:=zq fun W=>rd_punct t ⟨#[123]⟩ W
   have HNA:=zq fun W=>rd_name t W
   rw [show isP t (⟨#[40]⟩:ByteArray).data.toList=false from hP _] at HU1
   rw [show isP t (⟨#[91]⟩:ByteArray).data.toList=false from hP _] at HU2
   rw [show isP t (⟨#[123]⟩:ByteArray).data.toList=false from hP _] at HU3
   rw [hN] at HNA
   clear h4 h0 HE HTI HNL HMO HVN HVT HSS HKK HT HN1 HSV hP hN b6 b1 b2 HI
   go_enter Tryz.func94,Tryz.ntmps94
   go_wp2_with fail
   refine HPK.out.mono ?_;rintro e w1 ⟨rfl,hB1⟩
   have HQ1:=zq ((HQ0.out.call hB1).new [.int .i64 t.r.kind,.string t.txt,.int .i64 t.r.n,.int .i64 t.r.at_,.int .i64 t.r.end_,.bool t.lay] 76 rfl)
   clear hB1 HQ0 HPK
   obtain ⟨g1,HG1⟩:=lz (w1.heap.size)
   obtain ⟨wb,HWB⟩:=lz (w1.alloc (.cells #[.int .i64 t.r.kind,.string t.txt,.int .i64 t.r.n,.int .i64 t.r.at_,.int .i64 t.r.end_,.bool t.lay] 76))
   unfold tkV
   go_upto_region 2 with fail
   rw [←HWB.out] at HQ1 ⊢
   rw [←HG1.out] at HQ1 ⊢
   clear HWB HG1
   have cc2:=HQ1.out.b.all
   simp only [PC.cells,List.cons_append,List.nil_append,List.append_nil,bksAll,bkAll,Nat.zero_add,Nat.reduceAdd,and_true] at cc2
   go_wp2_with fail
   refine (HU1.out _).mono ?_;rintro e w3 ⟨rfl,hB⟩
   have HQ4:=zq (HQ1.out.call hB)
   clear HQ1 cc2
   clear hB 
   have cc5:=HQ4.out.b.all
   simp only [PC.cells,List.cons_append,List.nil_append,List.append_nil,bksAll,bkAll,Nat.zero_add,Nat.reduceAdd,and_true] at cc5
   go_wp2_with fail
   refine (HU2.out _).mono ?_;rintro e w6 ⟨rfl,hB⟩
   have HQ7:=zq (HQ4.out.call hB)
   clear HQ4 cc5
   clear hB 
   have cc8:=HQ7.out.b.all
   simp only [PC.cells,List.cons_append,List.nil_append,List.append_nil,bksAll,bkAll,Nat.zero_add,Nat.reduceAdd,and_true] at cc8
   go_wp2_with fail
   refine (HU3.out _).mono ?_;rintro e w9 ⟨rfl,hB⟩
   have HQ10:=zq (HQ7.out.call hB)
   clear HQ7 cc8
   clear hB 
   have cc11:=HQ10.out.b.all
   simp only [PC.cells,List.cons_append,List.nil_append,List.append_nil,bksAll,bkAll,Nat.zero_add,Nat.reduceAdd,and_true] at cc11
   go_wp2_with fail
   refine (HNA.out _).mono ?_;rintro e w12 ⟨rfl,hB⟩
   have HQ13:=zq (HQ10.out.call hB)
   clear HQ10 cc11
   clear hB 
   have cc14:=HQ13.out.b.all
   simp only [PC.cells,List.cons_append,List.nil_append,List.append_nil,bksAll,bkAll,Nat.zero_add,Nat.reduceAdd,and_true] at cc14
   go_wp2_with fail
   refine (rd_fail HQ13.out.p).mono ?_;rintro e w9 ⟨rfl,hB9⟩
   exact ⟨rfl,TOut.bad HV.out ⟨rfl,HQ13.out.fall hB9⟩⟩
 have b4:(t.r.kind==4)=false:=by simpa using h4
 replace HE:=zq (HE.out.trans (if_neg (fun h=>h4 h.1)))
 by_cases h3:t.r.kind=3
 ·have b3:(t.r.kind==3)=true:=by simpa using h3
  have HV:=zq (HE.out.trans (if_pos h3))
  have HM1:=zq (HMO.out (by rw [h3];decide))
  have HIV:Hid (isV t=true):=zq (by unfold isV;rw [b3])
  clear h4 h3 HE HNL HMO HSS HKK HN1 HSV
  go_enter Tryz.func94,Tryz.ntmps94
  go_wp2_with fail
  refine HPK.out.mono ?_;rintro e w1 ⟨rfl,hB1⟩
  have HQ1:=zq ((HQ0.out.call hB1).new [.int .i64 t.r.kind,.string t.txt,.int .i64 t.r.n,.int .i64 t.r.at_,.int .i64 t.r.end_,.bool t.lay] 76 rfl)
  clear hB1 HQ0 HPK
  obtain ⟨g1,HG1⟩:=lz (w1.heap.size)
  obtain ⟨wb,HWB⟩:=lz (w1.alloc (.cells #[.int .i64 t.r.kind,.string t.txt,.int .i64 t.r.n,.int .i64 t.r.at_,.int .i64 t.r.end_,.bool t.lay] 76))
  unfold tkV
  go_upto_region 2 with fail
  rw [←HWB.out] at HQ1 ⊢
  rw [←HG1.out] at HQ1 ⊢
  clear HWB HG1
  have cc2:=HQ1.out.b.all
  simp only [PC.cells,List.cons_append,List.nil_append,List.append_nil,bksAll,bkAll,Nat.zero_add,Nat.reduceAdd,and_true] at cc2
  clear cc2
  have cc3:=HQ1.out.b.all
  simp only [PC.cells,List.cons_append,List.nil_append,List.append_nil,bksAll,bkAll,Nat.zero_add,Nat.reduceAdd,and_true] at cc3
  have hi:=HI.out
  go_upto_region 7 with fail
  have hq:=HQ1.out.inc HM1.out
  obtain ⟨wn,HWN⟩:=lz (wb.setCell ⟨c.P,1,none⟩ (.int .i64 ((n:Int)+1)))
  rw [←HWN.out] at hq ⊢
  have HQn:=zq (hq)
  clear hq HWN HQ1 cc3 hi
  have cc4:=HQn.out.b.all
  simp only [PC.cells,List.cons_append,List.nil_append,List.append_nil,bksAll,bkAll,Nat.zero_add,Nat.reduceAdd,and_true] at cc4
  have hX:=rd_variable HQn.out.p t.txt (by show t.r.text.toArray.size≤20000;simpa using HTI.out.1) (Nat.lt_succ_of_le HVN.out)
  rw [show t.txt.data.toList=t.r.text from rfl] at hX
  have HX:=zq hX
  clear hX
  go_wp2_with fail
  refine (HX.out).mono ?_;rintro e w5 ⟨rfl,nv1,hp,hs⟩
  have HQ6:=zq (HQn.out.step hp hs)
  clear HQn cc4
  clear hp hs
  have cc7:=HQ6.out.b.all
  simp only [PC.cells,List.cons_append,List.nil_append,List.append_nil,bksAll,bkAll,Nat.zero_add,Nat.reduceAdd,and_true] at cc7
  go_wp2_with fail
  have hz:=HQ6.out.put4 1 rfl (.int .i64 0) (.int .i64 ((vsAt c.E.T n).num t.r.text:Nat)) (.string ⟨#[]⟩) (.slice none 0 0) (Nat.le_refl _)
  refine bodyPost_ret (v:=.tuple #[.agg #[.int .i64 0,.int .i64 ((vsAt c.E.T n).num t.r.text:Nat),.string ⟨#[]⟩,.slice none 0 0],.int .i64 0]) (by simp [results,Tryz.results94,go_sem,cc7]) rfl ?_
  rw [HV.out]
  exact ⟨Nat.lt_succ_self _,none,0,nv1,rfl,by rw [HVT.out HIV.out];exact hz.p,hz.s,TmsK.nil⟩
 have b3:(t.r.kind==3)=false:=by simpa using h3
 replace HE:=zq (HE.out.trans (if_neg h3))
 clear HVT HVN
 by_cases h5:t.r.kind=5
 ·have b5:(t.r.kind==5)=true:=by simpa using h5
  have HV:=zq (HE.out.trans (if_pos h5))
  have HM1:=zq (HMO.out (by rw [h5];decide))
  have HIV:=zq (isV_kind h5 (by decide))
  clear h4 h3 h5 HE HNL HMO HSS HKK HT HN1
  go_enter Tryz.func94,Tryz.ntmps94
  go_wp2_with fail
  refine HPK.out.mono ?_;rintro e w1 ⟨rfl,hB1⟩
  have HQ1:=zq ((HQ0.out.call hB1).new [.int .i64 t.r.kind,.string t.txt,.int .i64 t.r.n,.int .i64 t.r.at_,.int .i64 t.r.end_,.bool t.lay] 76 rfl)
  clear hB1 HQ0 HPK
  obtain ⟨g1,HG1⟩:=lz (w1.heap.size)
  obtain ⟨wb,HWB⟩:=lz (w1.alloc (.cells #[.int .i64 t.r.kind,.string t.txt,.int .i64 t.r.n,.int .i64 t.r.at_,.int .i64 t.r.end_,.bool t.lay] 76))
  unfold tkV
  go_upto_region 2 with fail
  rw [←HWB.out] at HQ1 ⊢
  rw [←HG1.out] at HQ1 ⊢
  clear HWB HG1
  have cc2:=HQ1.out.b.all
  simp only [PC.cells,List.cons_append,List.nil_append,List.append_nil,bksAll,bkAll,Nat.zero_add,Nat.reduceAdd,and_true] at cc2
  clear cc2
  have cc3:=HQ1.out.b.all
  simp only [PC.cells,List.cons_append,List.nil_append,List.append_nil,bksAll,bkAll,Nat.zero_add,Nat.reduceAdd,and_true] at cc3
  have hi:=HI.out
  go_upto_region 10 with fail
  have hq:=HQ1.out.inc HM1.out
  obtain ⟨wn,HWN⟩:=lz (wb.setCell ⟨c.P,1,none⟩ (.int .i64 ((n:Int)+1)))
  rw [←HWN.out] at hq ⊢
  have HQn:=zq (hq.step (HSV.out HIV.out nv _ hq.p) (Stp.refl c nv wn))
  clear hq HWN HQ1 cc3 hi
  have cc4:=HQn.out.b.all
  simp only [PC.cells,List.cons_append,List.nil_append,List.append_nil,bksAll,bkAll,Nat.zero_add,Nat.reduceAdd,and_true] at cc4
  go_wp2_with fail
  obtain ⟨RT,HRT⟩:=lz (sgT c.E.q t.r.text)
  have hX:=rd_str HQn.out.p t.txt (by show t.r.text.toArray.size≤20000;simpa using HTI.out.1)
  rw [show t.txt.data.toList=t.r.text from rfl,←HRT.out] at hX
  rw [←HRT.out] at HV
  refine hX.mono ?_;rintro e w5 ⟨A5,c5,rfl,hB5,hT5⟩
  have HQ5:=zq (HQn.out.call hB5)
  have HT5:Hid (Trm c nv w w5 [w.heap.size] A5 RT.args):=zq (hT5.keep (fun _ _=>rfl) fun b hb=>⟨⟨by have:=HQn.out.s.size;omega,hb.2,fun hm=>by have:=HQn.out.p.lts hm;omega⟩,fun e=>by rw [List.mem_singleton] at e;have:=HQn.out.b.lt 1 rfl;omega⟩)
  clear hX hB5 hT5 HQn cc4 HRT
  unfold tmV
  have cc5:=HQ5.out.b.all
  simp only [PC.cells,List.cons_append,List.nil_append,List.append_nil,bksAll,bkAll,Nat.zero_add,Nat.reduceAdd,and_true] at cc5
  go_wp2_with fail
  have hz:=HQ5.out.put4 1 rfl (.int .i64 RT.kind) (.int .i64 RT.num) (.string RT.name) (.slice A5 RT.args.length c5) (Nat.le_refl _)
  refine bodyPost_ret (v:=.tuple #[.agg #[.int .i64 RT.kind,.int .i64 RT.num,.string RT.name,.slice A5 RT.args.length c5],.int .i64 0]) (by simp [results,Tryz.results94,go_sem,cc5]) rfl ?_
  rw [HV.out]
  exact ⟨Nat.lt_succ_self _,A5,c5,nv,rfl,hz.p,hz.s,(HT5.out.put (g:=w.heap.size) (by simp) (fun b hb=>put4_block _ _ (.int .i64 RT.kind) (.int .i64 RT.num) (.string RT.name) (.slice A5 RT.args.length c5) b hb) (by simp)).out⟩
 have b5:(t.r.kind==5)=false:=by simpa using h5
 replace HE:=zq (HE.out.trans (if_neg h5))
 have HU1:=zq fun W=>rd_punct t ⟨#[40]⟩ W
 have HU2:=zq fun W=>rd_punct t ⟨#[91]⟩ W
 have HU3:=zq fun W=>rd_punct t ⟨#[123]⟩ W
 have HNA:=zq fun W=>rd_name t W
 by_cases hbk:isBrk t=true
 ·have HE2:Hid (R=match brkG c.E S t.r.text (n+1) with | .error e=>.error e | .ok (u,m)=>.ok (u,0,m)):=zq (by rw [HE.out,if_pos hbk])
  have hk6:t.r.kind=6:=by unfold isBrk isP at hbk;simp at hbk;omega
  have HM1:=zq (HMO.out (by rw [hk6];decide))
  have HIV:=zq (isV_kind hk6 (by decide))
  have b6:(t.r.kind==6)=true:=by simpa using hk6
  have hP:∀s,isP t s=(t.r.text==s):=fun s=>by unfold isP;rw [b6];rfl
  have htx:t.r.text=[40]∨t.r.text=[91]∨t.r.text=[123]:=by unfold isBrk at hbk;rw [hP,hP,hP] at hbk;simpa using hbk
  clear h4 h3 h5 HE HNL HMO HT HN1 HTI hk6 hbk b6
  rcases htx with htx | htx | htx
  ·skip
   rw [show isP t (⟨#[40]⟩:ByteArray).data.toList=true from (hP _).trans (by rw [htx];rfl)] at HU1
   rw [show isP t (⟨#[91]⟩:ByteArray).data.toList=false from (hP _).trans (by rw [htx];rfl)] at HU2
   rw [show isP t (⟨#[123]⟩:ByteArray).data.toList=false from (hP _).trans (by rw [htx];rfl)] at HU3
   clear hP HNA
   go_enter Tryz.func94,Tryz.ntmps94
   go_wp2_with fail
   refine HPK.out.mono ?_;rintro e w1 ⟨rfl,hB1⟩
   have HQ1:=zq ((HQ0.out.call hB1).new [.int .i64 t.r.kind,.string t.txt,.int .i64 t.r.n,.int .i64 t.r.at_,.int .i64 t.r.end_,.bool t.lay] 76 rfl)
   clear hB1 HQ0 HPK
   obtain ⟨g1,HG1⟩:=lz (w1.heap.size)
   obtain ⟨wb,HWB⟩:=lz (w1.alloc (.cells #[.int .i64 t.r.kind,.string t.txt,.int .i64 t.r.n,.int .i64 t.r.at_,.int .i64 t.r.end_,.bool t.lay] 76))
   unfold tkV
   go_upto_region 2 with fail
   rw [←HWB.out] at HQ1 ⊢
   rw [←HG1.out] at HQ1 ⊢
   clear HWB HG1
   have cc2:=HQ1.out.b.all
   simp only [PC.cells,List.cons_append,List.nil_append,List.append_nil,bksAll,bkAll,Nat.zero_add,Nat.reduceAdd,and_true] at cc2
   go_wp2_with fail
   refine (HU1.out _).mono ?_;rintro e w3 ⟨rfl,hB⟩
   have HQ4:=zq (HQ1.out.call hB)
   clear HQ1 cc2
   clear hB 
   have cc5:=HQ4.out.b.all
   simp only [PC.cells,List.cons_append,List.nil_append,List.append_nil,bksAll,bkAll,Nat.zero_add,Nat.reduceAdd,and_true] at cc5
   clear cc5
   have cc6:=HQ4.out.b.all
   simp only [PC.cells,List.cons_append,List.nil_append,List.append_nil,bksAll,bkAll,Nat.zero_add,Nat.reduceAdd,and_true] at cc6
   have hi:=HI.out
   go_upto_region 15 with fail
   have hq:=HQ4.out.inc HM1.out
   obtain ⟨wn,HWN⟩:=lz (w3.setCell ⟨c.P,1,none⟩ (.int .i64 ((n:Int)+1)))
   rw [←HWN.out] at hq ⊢
   have HQn:=zq (hq.step (HSV.out HIV.out nv _ hq.p) (Stp.refl c nv wn))
   clear hq HWN HQ4 cc6 hi
   have cc7:=HQn.out.b.all
   simp only [PC.cells,List.cons_append,List.nil_append,List.append_nil,bksAll,bkAll,Nat.zero_add,Nat.reduceAdd,and_true] at cc7
   have hX:=rd_brackets HSS.out HKK.out HQn.out.p t.txt (.inl htx)
   rw [show t.txt.data.toList=t.r.text from rfl] at hX
   have HX:=zq hX
   clear hX htx
   rcases hx:brkG c.E S t.r.text (n+1) with e | ⟨u,m⟩
   ·skip
    rw [hx] at HX HE2
    clear hx
    have HV:Hid (R=.error e):=HE2
    go_wp2_with fail
    refine HX.out.mono ?_;rintro e w9 ⟨rfl,hB9⟩
    exact ⟨rfl,TOut.bad HV.out ⟨rfl,HQn.out.fall hB9⟩⟩
   ·skip
    rw [hx] at HX HE2
    clear hx
    have HV:Hid (R=.ok (u,0,m)):=HE2
    go_wp2_with fail
    refine (HX.out).mono ?_;rintro e w8 ⟨hnm,At,ct,nv1,rfl,hp,hs,ht⟩
    have HT0:=zq (Trm.sub (w0:=w) (F:=[w.heap.size]) ht HQn.out.s.size (by intro b hb;rw [List.mem_singleton] at hb;subst hb;exact HQn.out.b.lt 1 rfl))
    have HNM:=zq hnm
    clear ht hnm
    have HQ9:=zq (HQn.out.step hp hs)
    clear HQn cc7
    clear hp hs
    unfold tmV
    have cc10:=HQ9.out.b.all
    simp only [PC.cells,List.cons_append,List.nil_append,List.append_nil,bksAll,bkAll,Nat.zero_add,Nat.reduceAdd,and_true] at cc10
    go_wp2_with fail
    have hz:=HQ9.out.put4 1 rfl (.int .i64 u.kind) (.int .i64 u.num) (.string u.name) (.slice At u.args.length ct) (Nat.le_refl _)
    refine bodyPost_ret (v:=.tuple #[.agg #[.int .i64 u.kind,.int .i64 u.num,.string u.name,.slice At u.args.length ct],.int .i64 0]) (by simp [results,Tryz.results94,go_sem,cc10]) rfl ?_
    rw [HV.out]
    exact ⟨by have:=HNM.out;omega,At,ct,nv1,rfl,hz.p,hz.s,(HT0.out.put (g:=w.heap.size) (by simp) (fun b hb=>put4_block _ _ (.int .i64 u.kind) (.int .i64 u.num) (.string u.name) (.slice At u.args.length ct) b hb) (by simp)).out⟩
  ·skip
   rw [show isP t (⟨#[40]⟩:ByteArray).data.toList=false from (hP _).trans (by rw [htx];rfl)] at HU1
   rw [show isP t (⟨#[91]⟩:ByteArray).data.toList=true from (hP _).trans (by rw [htx];rfl)] at HU2
   rw [show isP t (⟨#[123]⟩:ByteArray).data.toList=false from (hP _).trans (by rw [htx];rfl)] at HU3
   clear hP HNA
   go_enter Tryz.func94,Tryz.ntmps94
   go_wp2_with fail
   refine HPK.out.mono ?_;rintro e w1 ⟨rfl,hB1⟩
   have HQ1:=zq ((HQ0.out.call hB1).new [.int .i64 t.r.kind,.string t.txt,.int .i64 t.r.n,.int .i64 t.r.at_,.int .i64 t.r.end_,.bool t.lay] 76 rfl)
   clear hB1 HQ0 HPK
   obtain ⟨g1,HG1⟩:=lz (w1.heap.size)
   obtain ⟨wb,HWB⟩:=lz (w1.alloc (.cells #[.int .i64 t.r.kind,.string t.txt,.int .i64 t.r.n,.int .i64 t.r.at_,.int .i64 t.r.end_,.bool t.lay] 76))
   unfold tkV
   go_upto_region 2 with fail
   rw [←HWB.out] at HQ1 ⊢
   rw [←HG1.out] at HQ1 ⊢
   clear HWB HG1
   have cc2:=HQ1.out.b.all
   simp only [PC.cells,List.cons_append,List.nil_append,List.append_nil,bksAll,bkAll,Nat.zero_add,Nat.reduceAdd,and_true] at cc2
   go_wp2_with fail
   refine (HU1.out _).mono ?_;rintro e w3 ⟨rfl,hB⟩
   have HQ4:=zq (HQ1.out.call hB)
   clear HQ1 cc2
   clear hB 
   have cc5:=HQ4.out.b.all
   simp only [PC.cells,List.cons_append,List.nil_append,List.append_nil,bksAll,bkAll,Nat.zero_add,Nat.reduceAdd,and_true] at cc5
   go_wp2_with fail
   refine (HU2.out _).mono ?_;rintro e w6 ⟨rfl,hB⟩
   have HQ7:=zq (HQ4.out.call hB)
   clear HQ4 cc5
   clear hB 
   have cc8:=HQ7.out.b.all
   simp only [PC.cells,List.cons_append,List.nil_append,List.append_nil,bksAll,bkAll,Nat.zero_add,Nat.reduceAdd,and_true] at cc8
   clear cc8
   have cc9:=HQ7.out.b.all
   simp only [PC.cells,List.cons_append,List.nil_append,List.append_nil,bksAll,bkAll,Nat.zero_add,Nat.reduceAdd,and_true] at cc9
   have hi:=HI.out
   go_upto_region 15 with fail
   have hq:=HQ7.out.inc HM1.out
   obtain ⟨wn,HWN⟩:=lz (w6.setCell ⟨c.P,1,none⟩ (.int .i64 ((n:Int)+1)))
   rw [←HWN.out] at hq ⊢
   have HQn:=zq (hq.step (HSV.out HIV.out nv _ hq.p) (Stp.refl c nv wn))
   clear hq HWN HQ7 cc9 hi
   have cc10:=HQn.out.b.all
   simp only [PC.cells,List.cons_append,List.nil_append,List.append_nil,bksAll,bkAll,Nat.zero_add,Nat.reduceAdd,and_true] at cc10
   have hX:=rd_brackets HSS.out HKK.out HQn.out.p t.txt (.inr (.inl htx))
   rw [show t.txt.data.toList=t.r.text from rfl] at hX
   have HX:=zq hX
   clear hX htx
   rcases hx:brkG c.E S t.r.text (n+1) with e | ⟨u,m⟩
   ·skip
    rw [hx] at HX HE2
    clear hx
    have HV:Hid (R=.error e):=HE2
    go_wp2_with fail
    refine HX.out.mono ?_;rintro e w9 ⟨rfl,hB9⟩
    exact ⟨rfl,TOut.bad HV.out ⟨rfl,HQn.out.fall hB9⟩⟩
   ·skip
    rw [hx] at HX HE2
    clear hx
    have HV:Hid (R=.ok (u,0,m)):=HE2
    go_wp2_with fail
    refine (HX.out).mono ?_;rintro e w11 ⟨hnm,At,ct,nv1,rfl,hp,hs,ht⟩
    have HT0:=zq (Trm.sub (w0:=w) (F:=[w.heap.size]) ht HQn.out.s.size (by intro b hb;rw [List.mem_singleton] at hb;subst hb;exact HQn.out.b.lt 1 rfl))
    have HNM:=zq hnm
    clear ht hnm
    have HQ12:=zq (HQn.out.step hp hs)
    clear HQn cc10
    clear hp hs
    unfold tmV
    have cc13:=HQ12.out.b.all
    simp only [PC.cells,List.cons_append,List.nil_append,List.append_nil,bksAll,bkAll,Nat.zero_add,Nat.reduceAdd,and_true] at cc13
    go_wp2_with fail
    have hz:=HQ12.out.put4 1 rfl (.int .i64 u.kind) (.int .i64 u.num) (.string u.name) (.slice At u.args.length ct) (Nat.le_refl _)
    refine bodyPost_ret (v:=.tuple #[.agg #[.int .i64 u.kind,.int .i64 u.num,.string u.name,.slice At u.args.length ct],.int .i64 0]) (by simp [results,Tryz.results94,go_sem,cc13]) rfl ?_
    rw [HV.out]
    exact ⟨by have:=HNM.out;omega,At,ct,nv1,rfl,hz.p,hz.s,(HT0.out.put (g:=w.heap.size) (by simp) (fun b hb=>put4_block _ _ (.int .i64 u.kind) (.int .i64 u.num) (.string u.name) (.slice At u.args.length ct) b hb) (by simp)).out⟩
  ·skip
   rw [show isP t (⟨#[40]⟩:ByteArray).data.toList=false from (hP _).trans (by rw [htx];rfl)] at HU1
   rw [show isP t (⟨#[91]⟩:ByteArray).data.toList=false from (hP _).trans (by rw [htx];rfl)] at HU2
   rw [show isP t (⟨#[123]⟩:ByteArray).data.toList=true from (hP _).trans (by rw [htx];rfl)] at HU3
   clear hP HNA
   go_enter Tryz.func94,Tryz.ntmps94
   go_wp2_with fail
   refine HPK.out.mono ?_;rintro e w1 ⟨rfl,hB1⟩
   have HQ1:=zq ((HQ0.out.call hB1).new [.int .i64 t.r.kind,.string t.txt,.int .i64 t.r.n,.int .i64 t.r.at_,.int .i64 t.r.end_,.bool t.lay] 76 rfl)
   clear hB1 HQ0 HPK
   obtain ⟨g1,HG1⟩:=lz (w1.heap.size)
   obtain ⟨wb,HWB⟩:=lz (w1.alloc (.cells #[.int .i64 t.r.kind,.string t.txt,.int .i64 t.r.n,.int .i64 t.r.at_,.int .i64 t.r.end_,.bool t.lay] 76))
   unfold tkV
   go_upto_region 2 with fail
   rw [←HWB.out] at HQ1 ⊢
   rw [←HG1.out] at HQ1 ⊢
   clear HWB HG1
   have cc2:=HQ1.out.b.all
   simp only [PC.cells,List.cons_append,List.nil_append,List.append_nil,bksAll,bkAll,Nat.zero_add,Nat.reduceAdd,and_true] at cc2
   go_wp2_with fail
   refine (HU1.out _).mono ?_;rintro e w3 ⟨rfl,hB⟩
   have HQ4:=zq (HQ1.out.call hB)
   clear HQ1 cc2
   clear hB 
   have cc5:=HQ4.out.b.all
   simp only [PC.cells,List.cons_append,List.nil_append,List.append_nil,bksAll,bkAll,Nat.zero_add,Nat.reduceAdd,and_true] at cc5
   go_wp2_with fail
   refine (HU2.out _).mono ?_;rintro e w6 ⟨rfl,hB⟩
   have HQ7:=zq (HQ4.out.call hB)
   clear HQ4 cc5
   clear hB 
   have cc8:=HQ7.out.b.all
   simp only [PC.cells,List.cons_append,List.nil_append,List.append_nil,bksAll,bkAll,Nat.zero_add,Nat.reduceAdd,and_true] at cc8
   go_wp2_with fail
   refine (HU3.out _).mono ?_;rintro e w9 ⟨rfl,hB⟩
   have HQ10:=zq (HQ7.out.call hB)
   clear HQ7 cc8
   clear hB 
   have cc11:=HQ10.out.b.all
   simp only [PC.cells,List.cons_append,List.nil_append,List.append_nil,bksAll,bkAll,Nat.zero_add,Nat.reduceAdd,and_true] at cc11
   clear cc11
   have cc12:=HQ10.out.b.all
   simp only [PC.cells,List.cons_append,List.nil_append,List.append_nil,bksAll,bkAll,Nat.zero_add,Nat.reduceAdd,and_true] at cc12
   have hi:=HI.out
   go_upto_region 15 with fail
   have hq:=HQ10.out.inc HM1.out
   obtain ⟨wn,HWN⟩:=lz (w9.setCell ⟨c.P,1,none⟩ (.int .i64 ((n:Int)+1)))
   rw [←HWN.out] at hq ⊢
   have HQn:=zq (hq.step (HSV.out HIV.out nv _ hq.p) (Stp.refl c nv wn))
   clear hq HWN HQ10 cc12 hi
   have cc13:=HQn.out.b.all
   simp only [PC.cells,List.cons_append,List.nil_append,List.append_nil,bksAll,bkAll,Nat.zero_add,Nat.reduceAdd,and_true] at cc13
   have hX:=rd_brackets HSS.out HKK.out HQn.out.p t.txt (.inr (.inr htx))
   rw [show t.txt.data.toList=t.r.text from rfl] at hX
   have HX:=zq hX
   clear hX htx
   rcases hx:brkG c.E S t.r.text (n+1) with e | ⟨u,m⟩
   ·skip
    rw [hx] at HX HE2
    clear hx
    have HV:Hid (R=.error e):=HE2
    go_wp2_with fail
    refine HX.out.mono ?_;rintro e w9 ⟨rfl,hB9⟩
    exact ⟨rfl,TOut.bad HV.out ⟨rfl,HQn.out.fall hB9⟩⟩
   ·skip
    rw [hx] at HX HE2
    clear hx
    have HV:Hid (R=.ok (u,0,m)):=HE2
    go_wp2_with fail
    refine (HX.out).mono ?_;rintro e w14 ⟨hnm,At,ct,nv1,rfl,hp,hs,ht⟩
    have HT0:=zq (Trm.sub (w0:=w) (F:=[w.heap.size]) ht HQn.out.s.size (by intro b hb;rw [List.mem_singleton] at hb;subst hb;exact HQn.out.b.lt 1 rfl))
    have HNM:=zq hnm
    clear ht hnm
    have HQ15:=zq (HQn.out.step hp hs)
    clear HQn cc13
    clear hp hs
    unfold tmV
    have cc16:=HQ15.out.b.all
    simp only [PC.cells,List.cons_append,List.nil_append,List.append_nil,bksAll,bkAll,Nat.zero_add,Nat.reduceAdd,and_true] at cc16
    go_wp2_with fail
    have hz:=HQ15.out.put4 1 rfl (.int .i64 u.kind) (.int .i64 u.num) (.string u.name) (.slice At u.args.length ct) (Nat.le_refl _)
    refine bodyPost_ret (v:=.tuple #[.agg #[.int .i64 u.kind,.int .i64 u.num,.string u.name,.slice At u.args.length ct],.int .i64 0]) (by simp [results,Tryz.results94,go_sem,cc16]) rfl ?_
    rw [HV.out]
    exact ⟨by have:=HNM.out;omega,At,ct,nv1,rfl,hz.p,hz.s,(HT0.out.put (g:=w.heap.size) (by simp) (fun b hb=>put4_block _ _ (.int .i64 u.kind) (.int .i64 u.num) (.string u.name) (.slice At u.args.length ct) b hb) (by simp)).out⟩
 replace HE:=zq (HE.out.trans (if_neg hbk))
 have hPf:isP t [40]=false∧isP t [91]=false∧isP t [123]=false:=by unfold isBrk at hbk;simpa using hbk
 rw [show isP t (⟨#[40]⟩:ByteArray).data.toList=false from hPf.1] at HU1
 rw [show isP t (⟨#[91]⟩:ByteArray).data.toList=false from hPf.2.1] at HU2
 rw [show isP t (⟨#[123]⟩:ByteArray).data.toList=false from hPf.2.2] at HU3
 clear hPf hbk
 cases hnn:isNam t
 ·have HV:Hid (R=.error n):=zq (HE.out.trans (if_neg (by rw [hnn];simp)))
  rw [hnn] at HNA
  clear h4 h3 h5 HE HTI HNL HMO HSS HKK HT HN1 HSV HI hnn
  go_enter Tryz.func94,Tryz.ntmps94
  go_wp2_with fail
  refine HPK.out.mono ?_;rintro e w1 ⟨rfl,hB1⟩
  have HQ1:=zq ((HQ0.out.call hB1).new [.int .i64 t.r.kind,.string t.txt,.int .i64 t.r.n,.int .i64 t.r.at_,.int .i64 t.r.end_,.bool t.lay] 76 rfl)
  clear hB1 HQ0 HPK
  obtain ⟨g1,HG1⟩:=lz (w1.heap.size)
  obtain ⟨wb,HWB⟩:=lz (w1.alloc (.cells #[.int .i64 t.r.kind,.string t.txt,.int .i64 t.r.n,.int .i64 t.r.at_,.int .i64 t.r.end_,.bool t.lay] 76))
  unfold tkV
  go_upto_region 2 with fail
  rw [←HWB.out] at HQ1 ⊢
  rw [←HG1.out] at HQ1 ⊢
  clear HWB HG1
  have cc2:=HQ1.out.b.all
  simp only [PC.cells,List.cons_append,List.nil_append,List.append_nil,bksAll,bkAll,Nat.zero_add,Nat.reduceAdd,and_true] at cc2
  go_wp2_with fail
  refine (HU1.out _).mono ?_;rintro e w3 ⟨rfl,hB⟩
  have HQ4:=zq (HQ1.out.call hB)
  clear HQ1 cc2
  clear hB 
  have cc5:=HQ4.out.b.all
  simp only [PC.cells,List.cons_append,List.nil_append,List.append_nil,bksAll,bkAll,Nat.zero_add,Nat.reduceAdd,and_true] at cc5
  go_wp2_with fail
  refine (HU2.out _).mono ?_;rintro e w6 ⟨rfl,hB⟩
  have HQ7:=zq (HQ4.out.call hB)
  clear HQ4 cc5
  clear hB 
  have cc8:=HQ7.out.b.all
  simp only [PC.cells,List.cons_append,List.nil_append,List.append_nil,bksAll,bkAll,Nat.zero_add,Nat.reduceAdd,and_true] at cc8
  go_wp2_with fail
  refine (HU3.out _).mono ?_;rintro e w9 ⟨rfl,hB⟩
  have HQ10:=zq (HQ7.out.call hB)
  clear HQ7 cc8
  clear hB 
  have cc11:=HQ10.out.b.all
  simp only [PC.cells,List.cons_append,List.nil_append,List.append_nil,bksAll,bkAll,Nat.zero_add,Nat.reduceAdd,and_true] at cc11
  go_wp2_with fail
  refine (HNA.out _).mono ?_;rintro e w12 ⟨rfl,hB⟩
  have HQ13:=zq (HQ10.out.call hB)
  clear HQ10 cc11
  clear hB 
  have cc14:=HQ13.out.b.all
  simp only [PC.cells,List.cons_append,List.nil_append,List.append_nil,bksAll,bkAll,Nat.zero_add,Nat.reduceAdd,and_true] at cc14
  go_wp2_with fail
  refine (rd_fail HQ13.out.p).mono ?_;rintro e w9 ⟨rfl,hB9⟩
  exact ⟨rfl,TOut.bad HV.out ⟨rfl,HQ13.out.fall hB9⟩⟩
 ·have HE2:Hid (R=nmdG c.E S t most (n+1)):=zq (HE.out.trans (if_pos hnn))
  have hk7:¬t.r.kind=7:=by unfold isNam at hnn;simp at hnn;omega
  have HM1:=zq (HMO.out hk7)
  have HIV:=zq (isV_nam hnn)
  have HNN:=zq hnn
  rw [hnn] at HNA
  clear h4 h3 h5 HE HTI HMO HT HN1 hnn hk7
  go_enter Tryz.func94,Tryz.ntmps94
  go_wp2_with fail
  refine HPK.out.mono ?_;rintro e w1 ⟨rfl,hB1⟩
  have HQ1:=zq ((HQ0.out.call hB1).new [.int .i64 t.r.kind,.string t.txt,.int .i64 t.r.n,.int .i64 t.r.at_,.int .i64 t.r.end_,.bool t.lay] 76 rfl)
  clear hB1 HQ0 HPK
  obtain ⟨g1,HG1⟩:=lz (w1.heap.size)
  obtain ⟨wb,HWB⟩:=lz (w1.alloc (.cells #[.int .i64 t.r.kind,.string t.txt,.int .i64 t.r.n,.int .i64 t.r.at_,.int .i64 t.r.end_,.bool t.lay] 76))
  unfold tkV
  go_upto_region 2 with fail
  rw [←HWB.out] at HQ1 ⊢
  rw [←HG1.out] at HQ1 ⊢
  clear HWB HG1
  have cc2:=HQ1.out.b.all
  simp only [PC.cells,List.cons_append,List.nil_append,List.append_nil,bksAll,bkAll,Nat.zero_add,Nat.reduceAdd,and_true] at cc2
  go_wp2_with fail
  refine (HU1.out _).mono ?_;rintro e w3 ⟨rfl,hB⟩
  have HQ4:=zq (HQ1.out.call hB)
  clear HQ1 cc2
  clear hB 
  have cc5:=HQ4.out.b.all
  simp only [PC.cells,List.cons_append,List.nil_append,List.append_nil,bksAll,bkAll,Nat.zero_add,Nat.reduceAdd,and_true] at cc5
  go_wp2_with fail
  refine (HU2.out _).mono ?_;rintro e w6 ⟨rfl,hB⟩
  have HQ7:=zq (HQ4.out.call hB)
  clear HQ4 cc5
  clear hB 
  have cc8:=HQ7.out.b.all
  simp only [PC.cells,List.cons_append,List.nil_append,List.append_nil,bksAll,bkAll,Nat.zero_add,Nat.reduceAdd,and_true] at cc8
  go_wp2_with fail
  refine (HU3.out _).mono ?_;rintro e w9 ⟨rfl,hB⟩
  have HQ10:=zq (HQ7.out.call hB)
  clear HQ7 cc8
  clear hB 
  have cc11:=HQ10.out.b.all
  simp only [PC.cells,List.cons_append,List.nil_append,List.append_nil,bksAll,bkAll,Nat.zero_add,Nat.reduceAdd,and_true] at cc11
  go_wp2_with fail
  refine (HNA.out _).mono ?_;rintro e w12 ⟨rfl,hB⟩
  have HQ13:=zq (HQ10.out.call hB)
  clear HQ10 cc11
  clear hB 
  clear HU1 HU2 HU3 HNA
  have cc14:=HQ13.out.b.all
  simp only [PC.cells,List.cons_append,List.nil_append,List.append_nil,bksAll,bkAll,Nat.zero_add,Nat.reduceAdd,and_true] at cc14
  have hi:=HI.out
  go_upto_region 18 with fail
  have hq:=HQ13.out.inc HM1.out
  obtain ⟨wn,HWN⟩:=lz (w12.setCell ⟨c.P,1,none⟩ (.int .i64 ((n:Int)+1)))
  rw [←HWN.out] at hq ⊢
  have HQn:=zq (hq.step (HSV.out HIV.out nv _ hq.p) (Stp.refl c nv wn))
  clear hq HWN HQ13 cc14 hi
  have cc15:=HQn.out.b.all
  simp only [PC.cells,List.cons_append,List.nil_append,List.append_nil,bksAll,bkAll,Nat.zero_add,Nat.reduceAdd,and_true] at cc15
  have hX:=rd_named HSS.out HKK.out (Nat.lt_succ_self n) HQn.out.p t (HNL.out HNN.out) most
  have HX:=zq hX
  clear hX
  rcases hx:nmdG c.E S t most (n+1) with e | ⟨u,pr,m⟩
  ·skip
   rw [hx] at HX HE2
   clear hx
   have HV:Hid (R=.error e):=HE2
   unfold tkV at HX
   go_wp2_with fail
   refine HX.out.mono ?_;rintro e w9 ⟨rfl,hB9⟩
   exact ⟨rfl,TOut.bad HV.out ⟨rfl,HQn.out.fall hB9⟩⟩
  ·skip
   rw [hx] at HX HE2
   clear hx
   have HV:Hid (R=.ok (u,pr,m)):=HE2
   unfold tkV at HX
   go_wp2_with fail
   refine (HX.out).mono ?_;rintro e w16 ⟨hnm,At,ct,nv1,rfl,hp,hs,ht⟩
   have HT0:=zq (Trm.sub (w0:=w) (F:=[w.heap.size]) ht HQn.out.s.size (by intro b hb;rw [List.mem_singleton] at hb;subst hb;exact HQn.out.b.lt 1 rfl))
   have HNM:=zq hnm
   clear ht hnm
   have HQ17:=zq (HQn.out.step hp hs)
   clear HQn cc15
   clear hp hs
   unfold tmV
   have cc18:=HQ17.out.b.all
   simp only [PC.cells,List.cons_append,List.nil_append,List.append_nil,bksAll,bkAll,Nat.zero_add,Nat.reduceAdd,and_true] at cc18
   go_wp2_with fail
   have hz:=HQ17.out.put4 1 rfl (.int .i64 u.kind) (.int .i64 u.num) (.string u.name) (.slice At u.args.length ct) (Nat.le_refl _)
   refine bodyPost_ret (v:=.tuple #[.agg #[.int .i64 u.kind,.int .i64 u.num,.string u.name,.slice At u.args.length ct],.int .i64 pr]) (by simp [results,Tryz.results94,go_sem,cc18]) rfl ?_
   rw [HV.out]
   exact ⟨by have:=HNM.out;omega,At,ct,nv1,rfl,hz.p,hz.s,(HT0.out.put (g:=w.heap.size) (by simp) (fun b hb=>put4_block _ _ (.int .i64 u.kind) (.int .i64 u.num) (.string u.name) (.slice At u.args.length ct) b hb) (by simp)).out⟩
end Go.Proofs.YtbojljpldcijgaaGreat
namespace Hb
open Go Go.RowKit
theorem loopG_succ (E:RE) (S:PT) (most:Int) (k:Nat) (t:Tm) (prec:Int) (n:Nat):loopG E S most (k+1) t prec n =
  if endsG (oprG E n) most prec=true then .ok (t,prec,n)
  else if postG (oprG E n).1=true then loopG E S most k (stT (oprG E n).1.name [t]) (oprG E n).1.prec (n+1)
  else match S (sideR (oprG E n).1) (n+1) with
   | .error e=>.error e
   | .ok (u,_,m)=>loopG E S most k (stT (oprG E n).1.name [t,u]) (oprG E n).1.prec m:=rfl
theorem opr_tok {E:RE} {n:Nat} (h:(oprG E n).2=true):¬(E.at n).r.kind=7∧isV (E.at n)=false:=by
 have hc:isNam (E.at n)=true∨isP (E.at n) [44]=true∨isP (E.at n) [124]=true:=by
  unfold oprG at h
  cases h1:isNam (E.at n) <;> cases h2:isP (E.at n) [44] <;> cases h3:isP (E.at n) [124] <;> simp [h1,h2,h3] at h ⊢
 rcases hc with h | h | h
 ·exact ⟨by unfold isNam at h;simp at h;omega,isV_nam h⟩
 ·exact ⟨by unfold isP at h;simp at h;omega,isV_punct h⟩
 ·exact ⟨by unfold isP at h;simp at h;omega,isV_punct h⟩
end Hb
namespace Go.Proofs.YtbojljpldcijgaaGreat
open Go.RowKit Hb
set_option maxRecDepth 100000
set_option linter.unusedSimpArgs false
theorem opr_prec (E:RE) (n:Nat):-9223372036854775808≤(oprG E n).1.prec∧(oprG E n).1.prec≤9223372036854775807:=by
 unfold oprG
 simp only
 split
 ·exact ⟨by show (-9223372036854775808:Int)≤0;omega,by show (0:Int)≤9223372036854775807;omega⟩
 ·split
  ·exact op_prec_le _ _ _
  ·exact op_prec_le _ _ _
theorem OwnT.lit {c:PC} {n:Nat} {v:VS} {nv:Value} {w0 w:World} {F:List Nat} (p:PsAt c n v nv w) (hw:w0.heap.size≤w.heap.size) (hF:∀b∈F,b<w.heap.size) (r:TR) (hr:Trm c nv w0 w F r.2.1 r.1.args):OwnT c nv w0 (w.alloc (.cells (rowC r).toArray 30)) F (.slice (some ⟨w.heap.size,0,none⟩) 1 1) [r]:=by
 have hB:Below w.heap.size w (w.alloc (.cells (rowC r).toArray 30)):=(Below.refl _ _).alloc (Nat.le_refl _) _
 refine ⟨?_,fun g hg=>?_,fun q hq=>?_⟩
 ·have e1:rowsC [r]=(rowC r).toArray.toList:=by unfold rowsC;simp
  rw [e1]
  exact World.ownsRow_lit w (rowC r).toArray 1 hw (by unfold maxLen;omega) rfl
 ·have e:w.heap.size=g:=by simpa [Value.ownBlock] using hg
  subst e
  exact ⟨fun hm=>by have:=p.lts hm;omega,fun hm=>by have:=hF _ hm;omega⟩
 ·rw [List.mem_singleton] at hq
  subst hq
  refine hr.keep (fun b hb=>hB.block b hb.1.2.1) fun b hb=>⟨⟨⟨hb.1.1,Nat.lt_of_lt_of_le hb.1.2.1 hB.size,hb.1.2.2⟩,hb.2⟩,fun e=>?_⟩
  have e2:w.heap.size=b:=by simpa [Value.ownBlock] using e
  have:=hb.1.2.1
  omega
set_option maxHeartbeats 6400000 in
theorem rd_trm {c:PC} {S:PT} {k n:Nat} {nv:Value} {w:World} (hS:TrmOk c S k) (hk:k≤n+1) (p:PsAt c n (vsAt c.E.T n) nv w) (most:Int) :
  Calls Tryz.prog 56 #[.pointer (some ⟨c.P,0,none⟩),.int .i64 most] w (TOut c n nv w (trmG c.E S most n)):=by
 obtain ⟨R,HR⟩:=lz (trmG c.E S most n)
 rw [←HR.out]
 have HQ0:=zq ((Wk.start p).new [.int .i64 0,.int .i64 0,.string ⟨#[]⟩,.slice none 0 0] 30 rfl)
 have HX:=zq (rd_operand hS hk HQ0.out.p most)
 have HS:=zq (fun (m:Int) (i:Nat) nv' W (hi:n<i) (h:PsAt c i (vsAt c.E.T i) nv' W)=>hS m i nv' W (Nat.le_trans hk hi) h)
 have HRS:=zq (fun (f:ByteArray) (A:Option Addr) (m cap:Nat) (W:World)=>rd_structure f A m cap W)
 have HLN:=zq p.ok.len
 have HE:Hid (R=match opdG c.E S most n with | .error e=>.error e | .ok (t,p,m)=>loopG c.E S most c.E.T.length t p m):=zq HR.out
 clear p HR hS hk
 rcases hx:opdG c.E S most n with e | ⟨t0,p0,n0⟩
 ·rw [hx] at HX HE
  have HV:Hid (R=.error e):=HE
  clear hx
  go_enter Tryz.func56,Tryz.ntmps56
  go_wp2_with fail
  refine HX.out.mono ?_;rintro e w9 ⟨rfl,hB9⟩
  exact ⟨rfl,TOut.bad HV.out ⟨rfl,HQ0.out.fall hB9⟩⟩
 rw [hx] at HX HE
 have HE0:Hid (R=loopG c.E S most c.E.T.length t0 p0 n0):=HE
 clear hx HE
 go_enter Tryz.func56,Tryz.ntmps56
 go_wp2_with fail
 refine (HX.out).mono ?_;rintro e w1 ⟨hnm,At,ct,nv1,rfl,hp,hs,ht⟩
 have HT0:=zq (Trm.sub (w0:=w) (F:=[w.heap.size]) ht HQ0.out.s.size (by intro b hb;rw [List.mem_singleton] at hb;subst hb;exact HQ0.out.b.lt 0 rfl))
 have HNM:=zq hnm
 clear ht hnm
 have HQ2:=zq (HQ0.out.step hp hs)
 clear HQ0
 clear hp hs
 clear HX
 unfold tmV
 have HQ3:=zq (HQ2.out.new [.int .i64 t0.kind,.int .i64 t0.num,.string t0.name,.slice At t0.args.length ct] 30 (g:=w1.heap.size) (by simp))
 have HT0_3:=zq (HT0.out.new (.cells #[.int .i64 t0.kind,.int .i64 t0.num,.string t0.name,.slice At t0.args.length ct] 30) (g:=w1.heap.size) (by simp))
 clear HQ2 HT0
 obtain ⟨wb,HWB⟩:=lz ((w1.alloc (.cells #[.int .i64 t0.kind,.int .i64 t0.num,.string t0.name,.slice At t0.args.length ct] 30)))
 obtain ⟨g6,HG6⟩:=lz (w1.heap.size)
 go_upto_block 1 with fail
 rw [←HWB.out] at HQ3 HT0_3 ⊢
 rw [←HG6.out] at HQ3 HT0_3 ⊢
 clear HWB HG6
 have HGW:Hid (w.heap.size≤g6):=zq (by
  have hord:=HQ3.out.b.ord
  simp only [List.cons_append,List.nil_append,List.map_cons,List.map_nil,List.pairwise_cons,List.mem_cons,List.mem_nil_iff,or_false,forall_eq_or_imp,forall_eq] at hord
  omega)
 go_loopw [7] (fun v7 wr=>∃(prec:Int) (n':Nat) (nv':Value) (t:Tm) (A:Option Addr) (cap j:Nat),v7=.int .i64 prec∧n<n'∧c.E.T.length≤n'+j∧Hid (Wk c n' (vsAt c.E.T n') nv w nv' wr [(g6,[.int .i64 t.kind,.int .i64 t.num,.string t.name,.slice A t.args.length cap]),(w.heap.size,[.int .i64 0,.int .i64 0,.string ⟨#[]⟩,.slice none 0 0])])∧Hid (Trm c nv' w wr [g6,w.heap.size] A t.args)∧Hid (R=loopG c.E S most j t prec n')) (fun _ wr=>match wr.cell? ⟨c.P,1,none⟩ with | some (.int _ i)=>c.E.T.length-i.toNat | _=>0)
 case atStart=>exact ⟨p0,n0,nv1,t0,At,ct,c.E.T.length,rfl,HNM.out,by omega,HQ3,HT0_3,HE0⟩
 case round=>
  obtain ⟨prec,n',nv',t,A,cap,j,rfl,hnn,hj,HQ5,HT,HE⟩:=hrel
  have hn1:=HQ5.out.p.n1
  obtain ⟨j,rfl⟩:∃i,j=i+1:=⟨j-1,by omega⟩
  have HNN:=zq (⟨hnn,hj,hn1⟩:_∧_∧_)
  have HPC:=zq (HQ5.out.p.bk.c 1 _ rfl:wr.cell? ⟨c.P,1,none⟩=some (.int .i64 (n':Int)))
  have HE2:=zq (HE.out.trans (loopG_succ c.E S most j t prec n'))
  have HOX:=zq (rd_operator HQ5.out.p)
  have HOT:=zq (fun h=>opr_tok (E:=c.E) (n:=n') h)
  have HSD:=zq (fun X=>ops_sides (oprG c.E n').1 X (opr_prec c.E n'))
  obtain ⟨en,HEN⟩:=lz (endsG (oprG c.E n') most prec)
  rw [←HEN.out] at HE2
  have HEN2:Hid (en=(!(oprG c.E n').2||(decide (most<(oprG c.E n').1.prec)||decide (sideL (oprG c.E n').1<prec)))):=zq HEN.out
  clear HEN HQ3 HT0_3 HE0 hnn hj hn1 HE
  obtain ⟨o,HO⟩:=lz ((oprG c.E n').1)
  obtain ⟨b,HB⟩:=lz ((oprG c.E n').2)
  rw [←HO.out,←HB.out] at HOX HEN2
  rw [←HO.out] at HE2 HSD
  rw [←HB.out] at HOT
  clear HO HB
  unfold opV at *
  obtain ⟨sl,HSL⟩:=lz (sideL o)
  obtain ⟨sr,HSR⟩:=lz (sideR o)
  rw [←HSL.out,←HSR.out] at HSD
  rw [←HSL.out] at HEN2
  rw [←HSR.out] at HE2
  clear HSL HSR
  go_wp2_with fail
  refine (HOX.out).mono ?_;rintro e w301 ⟨rfl,hB⟩
  have HQ302:=zq (HQ5.out.call hB)
  have HT_302:=zq (HT.out.call hB)
  clear HQ5 HT
  clear hB HOX
  have HQ303:=zq (HQ302.out.new [.string o.name,.int .i64 o.typ,.int .i64 o.prec] 61 (g:=w301.heap.size) (by simp))
  have HT_303:=zq (HT_302.out.new (.cells #[.string o.name,.int .i64 o.typ,.int .i64 o.prec] 61) (g:=w301.heap.size) (by simp))
  clear HQ302 HT_302
  obtain ⟨wq,HWQ⟩:=lz ((w301.alloc (.cells #[.string o.name,.int .i64 o.typ,.int .i64 o.prec] 61)))
  obtain ⟨g8,HG8⟩:=lz (w301.heap.size)
  go_upto_region 3 with fail
  rw [←HWQ.out] at HQ303 HT_303 ⊢
  rw [←HG8.out] at HQ303 HT_303 ⊢
  clear HWQ HG8
  have cc304:=HQ303.out.b.all
  simp only [PC.cells,List.cons_append,List.nil_append,List.append_nil,bksAll,bkAll,Nat.zero_add,Nat.reduceAdd,and_true] at cc304
  go_wp2_with fail
  refine (HSD.out _).mono ?_;rintro e w305 ⟨rfl,hB⟩
  have HQ306:=zq (HQ303.out.call hB)
  have HT_306:=zq (HT_303.out.call hB)
  clear HQ303 HT_303 cc304
  clear hB HSD
  go_upto_region 4 with fail
  go_cut [43] from 31 to 43 (fun x wc=>x=.bool en∧wc=w305)
  case first=>
   have cc307:=HQ306.out.b.all
   simp only [PC.cells,List.cons_append,List.nil_append,List.append_nil,bksAll,bkAll,Nat.zero_add,Nat.reduceAdd,and_true] at cc307
   have hen:=HEN2.out
   clear HE2 HS HRS HEN2 HOT
   cases b
   ·have hm:en=true:=hen
    clear hen
    subst hm
    go_wp2_with fail
    go_meet
    exact ⟨rfl,rfl⟩
   ·by_cases h1:most<o.prec
    ·have d1:decide (most<o.prec)=true:=decide_eq_true h1
     rw [d1] at hen
     have hm:en=true:=hen
     clear hen h1
     subst hm
     go_wp2_with fail
     go_meet
     exact ⟨rfl,rfl⟩
    ·have d1:decide (most<o.prec)=false:=decide_eq_false h1
     rw [d1] at hen
     have hm:en=decide (sl<prec):=hen
     clear hen h1
     subst hm
     go_wp2_with fail
     go_meet
     exact ⟨rfl,rfl⟩
  case rest=>
   obtain ⟨rfl,rfl⟩:=hcut
   cases en
   rotate_left
   ·skip
    have HV:Hid (R=.ok (t,prec,n')):=HE2
    clear HE2 HS HRS HEN2 HOT
    have cc307:=HQ306.out.b.all
    simp only [PC.cells,List.cons_append,List.nil_append,List.append_nil,bksAll,bkAll,Nat.zero_add,Nat.reduceAdd,and_true] at cc307
    go_wp2_with fail
    have hz:=HQ306.out.put4 2 rfl (.int .i64 t.kind) (.int .i64 t.num) (.string t.name) (.slice A t.args.length cap) (Nat.le_refl _)
    have ht:=HT_306.out.put (g:=w.heap.size) (by simp) (fun b hb=>put4_block _ _ (.int .i64 t.kind) (.int .i64 t.num) (.string t.name) (.slice A t.args.length cap) b hb) (by simp)
    refine bodyPost_ret (v:=.tuple #[.agg #[.int .i64 t.kind,.int .i64 t.num,.string t.name,.slice A t.args.length cap],.int .i64 prec]) (by simp [results,Tryz.results56,go_sem,cc307]) rfl ?_
    rw [HV.out]
    exact ⟨HNN.out.1,A,cap,nv',rfl,hz.p,hz.s,ht.out⟩
   have hb:b=true:=by
    have h:=HEN2.out
    cases b with
    | true=>rfl
    | false=>cases h
   subst hb
   have HE3:Hid (R=if postG o=true then loopG c.E S most j (stT o.name [t]) o.prec (n'+1) else match S sr (n'+1) with | .error e=>.error e | .ok (u,_,m)=>loopG c.E S most j (stT o.name [t,u]) o.prec m):=HE2
   have HIV:=zq (HOT.out rfl).2
   have HM1:=zq (HQ306.out.p.more (HOT.out rfl).1)
   clear HE2 HEN2 HOT
   have hi:=inc64 (n:=n') (by have:=HNN.out;have:=HLN.out;omega)
   have cc307:=HQ306.out.b.all
   simp only [PC.cells,List.cons_append,List.nil_append,List.append_nil,bksAll,bkAll,Nat.zero_add,Nat.reduceAdd,and_true] at cc307
   go_upto_region 7 with fail
   have hq:=HQ306.out.inc HM1.out
   obtain ⟨wn,HWN⟩:=lz (wc.setCell ⟨c.P,1,none⟩ (.int .i64 ((n':Int)+1)))
   have hstp:=(Stp.refl c nv' wc).put 1 (.int .i64 ((n':Int)+1))
   rw [←HWN.out] at hq hstp ⊢
   have HQn:=zq (hq.step (PsAt.skip HIV.out HNN.out.2.2 hq.p) (Stp.refl c nv' wn))
   have HTn:=zq (HT_306.out.step hstp)
   clear hq hstp HWN HQ306 HT_306 cc307 hi
   have cc308:=HQn.out.b.all
   simp only [PC.cells,List.cons_append,List.nil_append,List.append_nil,bksAll,bkAll,Nat.zero_add,Nat.reduceAdd,and_true] at cc308
   go_upto_region 9 with fail
   obtain ⟨wl,HWL⟩:=lz (wn.alloc (.cells #[.int .i64 t.kind,.int .i64 t.num,.string t.name,.slice A t.args.length cap] 30))
   obtain ⟨gl,HGL⟩:=lz (wn.heap.size)
   have hBl:Below wn.heap.size wn wl:=by rw [HWL.out];exact (Below.refl _ _).alloc (Nat.le_refl _) _
   have HQl:=zq (HQn.out.call hBl)
   have hol:=OwnT.lit (F:=[g8,g6,w.heap.size]) HQn.out.p HQn.out.s.size (by intro b hb;simp only [List.mem_cons,List.mem_nil_iff,or_false] at hb;rcases hb with rfl|rfl|rfl;exact HQn.out.b.lt 0 rfl;exact HQn.out.b.lt 1 rfl;exact HQn.out.b.lt 2 rfl) (t,A,cap) (HTn.out)
   have hol2:OwnT c nv' w wl [g8,g6,w.heap.size] (.slice (some ⟨gl,0,none⟩) 1 1) [(t,A,cap)]:=by rw [HWL.out,HGL.out];exact hol
   have HOl:=zq hol2
   rw [←HWL.out] at ⊢
   rw [←HGL.out] at ⊢
   clear hBl hol hol2 HWL HGL HQn HTn cc308
   obtain ⟨po,HPO⟩:=lz (postG o)
   rw [←HPO.out] at HE3
   go_cut [64] from 57 to 64 (fun x wc2=>x=.bool (!po)∧wc2=wl)
   case first=>
    have cc309:=HQl.out.b.all
    simp only [PC.cells,List.cons_append,List.nil_append,List.append_nil,bksAll,bkAll,Nat.zero_add,Nat.reduceAdd,and_true] at cc309
    have hpo:po=(o.typ==6||o.typ==7):=HPO.out
    clear HE3 HS HRS HPO
    by_cases h1:o.typ=6
    ·have d1:(o.typ==6)=true:=by simpa using h1
     have d2:(o.typ != 6)=false:=by simpa using h1
     rw [d1] at hpo
     clear d1
     have hm:po=true:=hpo
     clear hpo h1
     subst hm
     go_wp2_with fail
     go_meet
     exact ⟨rfl,rfl⟩
    ·have d1:(o.typ==6)=false:=by simpa using h1
     have d2:(o.typ != 6)=true:=by simpa using h1
     rw [d1] at hpo
     clear d1
     have hm:po=(o.typ==7):=hpo
     clear hpo h1
     subst hm
     go_wp2_with fail
     go_meet
     exact ⟨rfl,rfl⟩
   case rest=>
    obtain ⟨rfl,hcw⟩:=hcut
    rw [hcw]
    clear hcw HPO
    cases po
    rotate_left
    ·skip
     have HV:Hid (R=loopG c.E S most j (stT o.name [t]) o.prec (n'+1)):=HE3
     obtain ⟨Ar,cr,hvr,htr⟩:=HOl.out.tms
     obtain ⟨rfl,rfl⟩:some ⟨gl,0,none⟩=Ar∧1=cr:=by injection hvr with h1 _ h3;exact ⟨h1,h3⟩
     have HTr:Hid (Trm c nv' w wl [g8,g6,w.heap.size] (some ⟨gl,0,none⟩) [t]):=zq htr
     clear HE3 htr hvr HOl
     have HMN:Hid (n'<n'+1):=zq (Nat.lt_succ_self _)
     have cc309:=HQl.out.b.all
     simp only [PC.cells,List.cons_append,List.nil_append,List.append_nil,bksAll,bkAll,Nat.zero_add,Nat.reduceAdd,and_true] at cc309
     go_wp2_with fail
     refine (HRS.out _ _ _ _ _).mono ?_;rintro e w310 ⟨rfl,hB⟩
     have HQ311:=zq (HQl.out.call hB)
     have HTr_311:=zq (HTr.out.call hB)
     clear HQl HTr cc309
     clear hB 
     have cc312:=HQ311.out.b.all
     simp only [PC.cells,List.cons_append,List.nil_append,List.append_nil,bksAll,bkAll,Nat.zero_add,Nat.reduceAdd,and_true] at cc312
     have hz:Wk c (n'+1) (vsAt c.E.T (n'+1)) nv w nv' ((((w310.setCell ⟨g6,0,none⟩ (.int .i64 3)).setCell ⟨g6,1,none⟩ (.int .i64 0)).setCell ⟨g6,2,none⟩ (.string o.name)).setCell ⟨g6,3,none⟩ (.slice (some ⟨gl,0,none⟩) 1 1)) [(g6,[.int .i64 3,.int .i64 0,.string o.name,.slice (some ⟨gl,0,none⟩) 1 1]),(w.heap.size,[.int .i64 0,.int .i64 0,.string ⟨#[]⟩,.slice none 0 0])]:=(HQ311.out.tl).put4 0 rfl (.int .i64 3) (.int .i64 0) (.string o.name) (.slice (some ⟨gl,0,none⟩) 1 1) HGW.out
     have ht:=HTr_311.out.put (g:=g6) (by simp) (fun b hb=>put4_block _ _ (.int .i64 3) (.int .i64 0) (.string o.name) (.slice (some ⟨gl,0,none⟩) 1 1) b hb) (by simp)
     have HZ:=zq hz
     have HTZ:=zq ht
     have HPZ:=zq (hz.p.bk.c 1 _ rfl:_=some (.int .i64 (((n'+1):Nat):Int)))
     have HNZ:=zq hz.p.n1
     clear hz ht
     go_wp2_with fail
     go_roundw
     case rel=>exact ⟨o.prec,(n'+1),nv',stT o.name [t],(some ⟨gl,0,none⟩),1,j,rfl,by have:=HNN.out;have:=HMN.out;omega,by have:=HNN.out;have:=HMN.out;omega,HZ,zq (HTZ.out.fewer (by intro b hb;exact List.mem_cons_of_mem _ hb)),HV⟩
     case measure=>rw [HPZ.out,HPC.out];have:=HNN.out;have:=HMN.out;have:=HNZ.out;simp;omega
    have HE4:Hid (R=match S sr (n'+1) with | .error e=>.error e | .ok (u,_,m)=>loopG c.E S most j (stT o.name [t,u]) o.prec m):=HE3
    clear HE3
    have HX:=zq (HS.out sr (n'+1) nv' _ (by have:=HNN.out;omega) HQl.out.p)
    rcases hx:S sr (n'+1) with e | ⟨u,pu,m⟩
    ·skip
     rw [hx] at HX HE4
     clear hx
     have HV:Hid (R=.error e):=HE4
     go_wp2_with fail
     refine HX.out.mono ?_;rintro e w9 ⟨rfl,hB9⟩
     exact ⟨rfl,TOut.bad HV.out ⟨rfl,HQl.out.fall hB9⟩⟩
    ·skip
     rw [hx] at HX HE4
     clear hx
     have HV:Hid (R=loopG c.E S most j (stT o.name [t,u]) o.prec m):=HE4
     clear HE4
     go_wp2_with fail
     refine (HX.out).mono ?_;rintro e w309 ⟨hnm,Au,cu,nv2,rfl,hp,hs,ht⟩
     have HTu0:=zq (ht.keep (fun _ _=>rfl) fun b hb=>(⟨⟨⟨Nat.le_trans HQl.out.s.size hb.1,hb.2⟩,fun e=>by
       simp only [List.mem_cons,List.mem_nil_iff,or_false] at e
       have h0:=HQl.out.b.lt 0 rfl
       have h1:=HQl.out.b.lt 1 rfl
       have h2:=HQl.out.b.lt 2 rfl
       have:=hb.1
       rcases e with rfl|rfl|rfl <;> omega⟩,fun e=>by
       have:=(HOl.out.own.lt b e).2;have:=hb.1;omega⟩:(c.new nv2 w _ b∧b ∉ [g8,g6,w.heap.size])∧(Value.slice (some ⟨gl,0,none⟩) 1 1).ownBlock≠some b))
     have HNM2:=zq hnm
     clear ht hnm
     have HQ310:=zq (HQl.out.step hp hs)
     have HOl_310:=zq (HOl.out.step hs)
     clear HQl HOl
     clear hp hs
     clear HX
     unfold tmV
     obtain ⟨wb2,HWB⟩:=lz (w309.alloc (.cells #[.int .i64 u.kind,.int .i64 u.num,.string u.name,.slice Au u.args.length cu] 30))
     have hBb:Below w309.heap.size w309 wb2:=by rw [HWB.out];exact (Below.refl _ _).alloc (Nat.le_refl _) _
     have hBk:Bk wb2 w309.heap.size [.int .i64 u.kind,.int .i64 u.num,.string u.name,.slice Au u.args.length cu]:=by rw [HWB.out];exact Bk.new w309 _ _
     have HQ2:=zq (HQ310.out.call hBb)
     have HO2:=zq (HOl_310.out.call hBb)
     have HT2:=zq (HTu0.out.keep (fun b hb=>hBb.block b hb.1.1.2.1) fun b hb=>(⟨⟨⟨hb.1.1.1,Nat.lt_of_lt_of_le hb.1.1.2.1 hBb.size,hb.1.1.2.2⟩,hb.1.2⟩,hb.2⟩:(c.new nv2 w wb2 b∧b ∉ [g8,g6,w.heap.size])∧(Value.slice (some ⟨gl,0,none⟩) 1 1).ownBlock≠some b))
     have cb:=hBk.all0
     simp only [bkAll,Nat.zero_add,Nat.reduceAdd,and_true] at cb
     have HSZ:Hid (w.heap.size≤wb2.heap.size):=zq HQ2.out.s.size
     have HFF:Hid (∀b∈[g8,g6,w.heap.size],b<wb2.heap.size):=zq (by intro b hb;simp only [List.mem_cons,List.mem_nil_iff,or_false] at hb;rcases hb with rfl|rfl|rfl;exact HQ2.out.b.lt 0 rfl;exact HQ2.out.b.lt 1 rfl;exact HQ2.out.b.lt 2 rfl)
     clear hBb hBk HQ310 HOl_310 HTu0
     go_upto_region 11 with fail
     rw [←HWB.out]
     clear HWB
     go_wp2_with (at_builtin;go_must (refine wpList_app_term rfl _ _ rfl c m _ nv2 w [g8,g6,w.heap.size] _ [(t,A,cap)] rfl HO2.out HQ2.out.p HSZ.out HFF.out (u,Au,cu) HT2.out _ rfl rfl rfl (by simp) ?_;intro v4 w4 HO4 HG4;have HQ4:=zq ((HQ2.out.call ((Below.refl _ _).alloc (Nat.le_refl _) (.cells (rowC (u,Au,cu)).toArray 30))).grown (HO2.out.call ((Below.refl _ _).alloc (Nat.le_refl _) (.cells (rowC (u,Au,cu)).toArray 30))) (by simp) HG4.out);(obtain ⟨Ar,cr,hvr,htr⟩:=HO4.out.tms);subst hvr;(have HTr:Hid (Trm c nv2 w w4 [g8,g6,w.heap.size] Ar [t,u]):=zq htr);clear htr;have c4:=HQ4.out.b.all;simp only [PC.cells,List.cons_append,List.nil_append,List.append_nil,bksAll,bkAll,Nat.zero_add,Nat.reduceAdd,and_true] at c4))
     clear cb c4 HO2 HT2 HQ2 HSZ HFF HO4 HG4
     have HMN:Hid (n'<m):=zq (Nat.lt_of_succ_lt HNM2.out)
     refine (HRS.out _ _ _ _ _).mono ?_;rintro e w311 ⟨rfl,hB⟩
     have HQ312:=zq (HQ4.out.call hB)
     have HTr_312:=zq (HTr.out.call hB)
     clear HQ4 HTr
     clear hB 
     have cc313:=HQ312.out.b.all
     simp only [PC.cells,List.cons_append,List.nil_append,List.append_nil,bksAll,bkAll,Nat.zero_add,Nat.reduceAdd,and_true] at cc313
     have hz:Wk c m (vsAt c.E.T m) nv w nv2 ((((w311.setCell ⟨g6,0,none⟩ (.int .i64 3)).setCell ⟨g6,1,none⟩ (.int .i64 0)).setCell ⟨g6,2,none⟩ (.string o.name)).setCell ⟨g6,3,none⟩ (.slice Ar 2 cr)) [(g6,[.int .i64 3,.int .i64 0,.string o.name,.slice Ar 2 cr]),(w.heap.size,[.int .i64 0,.int .i64 0,.string ⟨#[]⟩,.slice none 0 0])]:=(HQ312.out.tl).put4 0 rfl (.int .i64 3) (.int .i64 0) (.string o.name) (.slice Ar 2 cr) HGW.out
     have ht:=HTr_312.out.put (g:=g6) (by simp) (fun b hb=>put4_block _ _ (.int .i64 3) (.int .i64 0) (.string o.name) (.slice Ar 2 cr) b hb) (by simp)
     have HZ:=zq hz
     have HTZ:=zq ht
     have HPZ:=zq (hz.p.bk.c 1 _ rfl:_=some (.int .i64 ((m:Nat):Int)))
     have HNZ:=zq hz.p.n1
     clear hz ht
     go_wp2_with fail
     go_roundw
     case rel=>exact ⟨o.prec,m,nv2,stT o.name [t,u],Ar,cr,j,rfl,by have:=HNN.out;have:=HMN.out;omega,by have:=HNN.out;have:=HMN.out;omega,HZ,zq (HTZ.out.fewer (by intro b hb;exact List.mem_cons_of_mem _ hb)),HV⟩
     case measure=>rw [HPZ.out,HPC.out];have:=HNN.out;have:=HMN.out;have:=HNZ.out;simp;omega
theorem rd_all (c:PC):∀f,TrmOk c (trmF c.E f) (c.E.T.length-f):=by
 intro f
 induction f with
 | zero=>intro most n nv w hk p;exact absurd p.n1 (by omega)
 | succ f ih=>intro most n nv w hk p;exact rd_trm ih (by omega) p most
theorem wcatch_idle (g2 g3 g4:Nat) (w:World):CallsD Tryz.prog 55 #[.pointer (some ⟨g2,0,none⟩),.pointer (some ⟨g3,0,none⟩),.pointer (some ⟨g4,0,none⟩)] .returning w fun e u' w'=>e=.returned (.tuple #[])∧u'=.returning∧Below w.heap.size w w':=by
 have hta:∀w,(Instr.typeAssert .nilIface 20 102 true).run Tryz.prog w=.ok (.tuple #[.agg #[.int .i64 0],.bool false]) w:=fun w=>by kernel_rfl
 refine callsD_of_wpS Tryz.func55 rfl fun c₀ cs hu=>?_
 apply wpS_seq
 apply wpS_region
 simp [wpOpsS,go_sem,recoverD,hu,Tryz.ntmps55,Exit.thenS,hta]
 apply wpS_seq
 apply wpS_region
 simp [wpOpsS,go_sem,Exit.thenS]
 refine wpS_cond (t:=false) (by simp [Act.eval,Array.replicate]) ?_
 simp only [Bool.false_eq_true,if_false]
 refine wpS_of_wp (wp_skip ?_)
 have hB:=(Below.refl w.heap.size w).alloc (Nat.le_refl _) (.cells #[.int .i64 0] 102)
 cases c₀
 simp_all [bodyPostS,results,Tryz.results55]
theorem wcatch (g2 g3 g4:Nat) (k:Int) (x0 x1 x2 x3 y z:Value) (w:World) (k2:Bk w g2 [x0,x1,x2,x3]) (k3:Bk w g3 [y]) (k4:Bk w g4 [z]) (n23:g2≠g3) (n24:g2≠g4) (n34:g3≠g4) :
  CallsD Tryz.prog 55 #[.pointer (some ⟨g2,0,none⟩),.pointer (some ⟨g3,0,none⟩),.pointer (some ⟨g4,0,none⟩)] (.panicking [{ v:=.iface 102 (.agg #[.int .i64 k]),recovered:=false }]) w fun e u' w'=>
   e=.returned (.tuple #[])∧u'=.panicking [{ v:=.iface 102 (.agg #[.int .i64 k]),recovered:=true }] ∧
   w'=(((((((w.alloc (.cells #[.int .i64 k] 102)).setCell ⟨g2,0,none⟩ (.int .i64 0)).setCell ⟨g2,1,none⟩ (.int .i64 0)).setCell ⟨g2,2,none⟩ (.string ⟨#[]⟩)).setCell ⟨g2,3,none⟩ (.slice none 0 0)).setCell ⟨g3,0,none⟩ (.int .i64 k)).setCell ⟨g4,0,none⟩ (.bool false)).drew:=by
 have hta:∀(v:Value) w,(Instr.typeAssert (.iface 102 v) 20 102 true).run Tryz.prog w=.ok (.tuple #[v,.bool true]) w:=fun v w=>by kernel_rfl
 refine callsD_of_wpS Tryz.func55 rfl fun c₀ cs hu=>?_
 apply wpS_seq
 apply wpS_region
 simp [wpOpsS,go_sem,recoverD,hu,Tryz.ntmps55,Exit.thenS,hta]
 apply wpS_seq
 apply wpS_region
 simp [wpOpsS,go_sem,Exit.thenS]
 refine wpS_cond (t:=true) (by simp [Act.eval,Array.replicate]) ?_
 simp only [if_true]
 have k5:=Bk.new w [.int .i64 k] 102
 have j2:=k2.al (.cells #[.int .i64 k] 102)
 have j3:=k3.al (.cells #[.int .i64 k] 102)
 have j4:=k4.al (.cells #[.int .i64 k] 102)
 have HK5:Hid (g2≠w.heap.size∧g3≠w.heap.size∧g4≠w.heap.size):=zq ⟨Nat.ne_of_lt k2.lt,Nat.ne_of_lt k3.lt,Nat.ne_of_lt k4.lt⟩
 clear k2 k3 k4 hta
 refine wpS_of_wp ?_
 simp only [Array.replicate_succ,Array.replicate_zero,List.push_toArray,List.append_toArray,List.nil_append,List.cons_append,List.setIfInBounds_toArray,List.set_cons_zero,List.set_cons_succ]
 generalize w.alloc (.cells #[.int .i64 k] 102)=W at *
 obtain ⟨d2,d3,d4⟩:=HK5.out
 have d2':=d2.symm
 have d3':=d3.symm
 have d4':=d4.symm
 have n23':=n23.symm
 have n24':=n24.symm
 have n34':=n34.symm
 clear HK5
 have c30:=j3.c 0 _ rfl
 have f30:=j3.f 0
 have c40:=j4.c 0 _ rfl
 have f40:=j4.f 0
 have c20:=j2.c 0 _ rfl
 have c21:=j2.c 1 _ rfl
 have c22:=j2.c 2 _ rfl
 have c23:=j2.c 3 _ rfl
 have f20:=j2.f 0
 have f21:=j2.f 1
 have f22:=j2.f 2
 have f23:=j2.f 3
 have c50:=k5.c 0 _ rfl
 go_region
 all_goals
  cases c₀
  simp [bodyPostS,results,Tryz.results55]
def WOut (c:PC) (nv:Value) (w0:World) (r:RR (Tm×Nat)) (e:Ending) (w':World):Prop:=match r with
 | .error k=>e=.returned (.tuple #[.agg #[.int .i64 0,.int .i64 0,.string ⟨#[]⟩,.slice none 0 0],.int .i64 (c.E.at k).r.at_,.bool false])∧Below c.B1 w0 w'
 | .ok (t,m)=>∃A cap nv',e=.returned (.tuple #[tmV t A cap,.int .i64 0,.bool true])∧PsAt c m (vsAt c.E.T m) nv' w'∧Stp c nv w0 nv' w'∧TmsK (c.new nv' w0 w') w' A t.args
theorem WOut.bad {c:PC} {nv:Value} {w0 w:World} {R:RR (Tm×Nat)} {k:Nat} {e:Ending} (hR:R=.error k) (he:e=.returned (.tuple #[.agg #[.int .i64 0,.int .i64 0,.string ⟨#[]⟩,.slice none 0 0],.int .i64 (c.E.at k).r.at_,.bool false])) (h:Below c.B1 w0 w):WOut c nv w0 R e w:=by rw [hR];exact ⟨he,h⟩
theorem Wk.left {c:PC} {n:Nat} {v:VS} {nv0 nv:Value} {w0 w w':World} {L:List (Nat×List Value)} (h:Wk c n v nv0 w0 nv w L) (f:Fall c nv w w') (j:Nat) {g:Nat} {vs:List Value} (hx:L[j]? = some (g,vs)):Bk w' g vs:=by
 obtain ⟨nv',s⟩:=f.2
 have hm:=List.mem_of_getElem? hx
 have hk:=h.b.bk (g,vs) (List.mem_append_left _ hm)
 exact hk.keeps (s.block _ hk.lt (h.off _ hm))
theorem below_six {B:Nat} {a w:World} (h:Below B a w) {g2 g3 g4:Nat} (h2:B≤g2) (h3:B≤g3) (h4:B≤g4) (x0 x1 x2 x3 y z:Value):Below B a ((((((w.setCell ⟨g2,0,none⟩ x0).setCell ⟨g2,1,none⟩ x1).setCell ⟨g2,2,none⟩ x2).setCell ⟨g2,3,none⟩ x3).setCell ⟨g3,0,none⟩ y).setCell ⟨g4,0,none⟩ z) :=
 ((put4_belowF h g2 h2 x0 x1 x2 x3).setCell (p:=⟨g3,0,none⟩) h3 y).setCell (p:=⟨g4,0,none⟩) h4 z
set_option maxHeartbeats 6400000 in
theorem rd_whole {c:PC} {nv:Value} {w:World} (p:PsAt c 0 (vsAt c.E.T 0) nv w):Calls Tryz.prog 33 #[.pointer (some ⟨c.P,0,none⟩)] w (WOut c nv w (wholeG c.E)):=by
 obtain ⟨R,HR⟩:=lz (wholeG c.E)
 rw [←HR.out]
 have HQ0:Hid (Wk c 0 (vsAt c.E.T 0) nv w nv (((w.alloc (.cells #[.int .i64 0,.int .i64 0,.string ⟨#[]⟩,.slice none 0 0] 30)).alloc (.cells #[.int .i64 0] 3)).alloc (.cells #[.bool false] 4)) [(w.heap.size+1+1,[.bool false]),(w.heap.size+1,[.int .i64 0]),(w.heap.size,[.int .i64 0,.int .i64 0,.string ⟨#[]⟩,.slice none 0 0])]):=zq ((((Wk.start p).new [.int .i64 0,.int .i64 0,.string ⟨#[]⟩,.slice none 0 0] 30 rfl).new [.int .i64 0] 3 (g:=w.heap.size+1) (by simp)).new [.bool false] 4 (g:=w.heap.size+1+1) (by simp))
 have HS:=zq (fun nv' W (h:PsAt c 0 (vsAt c.E.T 0) nv' W)=>rd_all c c.E.T.length 1200 0 nv' W (by omega) h)
 have HE:Hid (R=match trmF c.E c.E.T.length 1200 0 with | .error e=>.error e | .ok (t,_,m)=>if (c.E.at m).r.kind=7 then .ok (t,m) else .error m):=zq HR.out
 have HB1:=zq (show c.B1≤w.heap.size by have:=p.low;have:=p.ok.p1;omega)
 clear p HR
 go_enter_defers Tryz.func33,Tryz.ntmps33
 go_upto_region 1 with fail
 obtain ⟨w1,HW1⟩:=lz (((w.alloc (.cells #[.int .i64 0,.int .i64 0,.string ⟨#[]⟩,.slice none 0 0] 30)).alloc (.cells #[.int .i64 0] 3)).alloc (.cells #[.bool false] 4))
 rw [←HW1.out] at HQ0 ⊢
 clear HW1
 have HX:=zq (HS.out nv w1 HQ0.out.p)
 clear HS
 rcases hx:trmF c.E c.E.T.length 1200 0 with k | ⟨t,pr,m⟩
 ·skip
  rw [hx] at HX HE
  clear hx
  have HV:Hid (R=.error k):=HE
  go_wp2_with fail
  refine HX.out.mono ?_;rintro e w2 ⟨rfl,hB2⟩
  have n23:w.heap.size≠w.heap.size+1:=Nat.ne_of_lt (Nat.lt_succ_self _)
  have n34:w.heap.size+1≠w.heap.size+1+1:=Nat.ne_of_lt (Nat.lt_succ_self _)
  have n24:w.heap.size≠w.heap.size+1+1:=Nat.ne_of_lt (Nat.lt_succ_of_lt (Nat.lt_succ_self _))
  have k2:Bk w2 (w.heap.size) [.int .i64 0,.int .i64 0,.string ⟨#[]⟩,.slice none 0 0]:=HQ0.out.left hB2 2 rfl
  have k3:Bk w2 (w.heap.size+1) [.int .i64 0]:=HQ0.out.left hB2 1 rfl
  have k4:Bk w2 (w.heap.size+1+1) [.bool false]:=HQ0.out.left hB2 0 rfl
  show bodyPostD _ _ _ (.panic _) _ _
  refine leaves_cons (f:=55) (args:=#[.pointer (some ⟨w.heap.size,0,none⟩),.pointer (some ⟨w.heap.size+1,0,none⟩),.pointer (some ⟨w.heap.size+1+1,0,none⟩)]) (by simp) (by simp [go_sem]) ?_
  refine (wcatch _ _ _ (c.E.at k).r.at_ _ _ _ _ _ _ w2 k2 k3 k4 n23 n24 n34).mono ?_
  rintro e u' wq ⟨rfl,rfl,hwq⟩
  have hA:=(HQ0.out.fall hB2).1.alloc (Nat.le_trans HB1.out (by have:=k2.lt;omega)) (.cells #[.int .i64 (c.E.at k).r.at_] 102)
  have hz:=(below_six hA HB1.out (Nat.le_succ_of_le HB1.out) (Nat.le_succ_of_le (Nat.le_succ_of_le HB1.out)) (.int .i64 0) (.int .i64 0) (.string ⟨#[]⟩) (.slice none 0 0) (.int .i64 (c.E.at k).r.at_) (.bool false)).drew
  rw [←hwq] at hz
  have j2:=((((k2.al (.cells #[.int .i64 (c.E.at k).r.at_] 102)).set 0 (.int .i64 0)).set 1 (.int .i64 0)).set 2 (.string ⟨#[]⟩)).set 3 (.slice none 0 0)
  have q2:Bk wq (w.heap.size) [.int .i64 0,.int .i64 0,.string ⟨#[]⟩,.slice none 0 0]:=by rw [hwq];exact ((j2.other n23 0 (.int .i64 (c.E.at k).r.at_)).other n24 0 (.bool false)).dr
  have j3:=(((((k3.al (.cells #[.int .i64 (c.E.at k).r.at_] 102)).other n23.symm 0 (.int .i64 0)).other n23.symm 1 (.int .i64 0)).other n23.symm 2 (.string ⟨#[]⟩)).other n23.symm 3 (.slice none 0 0)).set 0 (.int .i64 (c.E.at k).r.at_)
  have q3:Bk wq (w.heap.size+1) [.int .i64 (c.E.at k).r.at_]:=by rw [hwq];exact (j3.other n34 0 (.bool false)).dr
  have j4:=((((((k4.al (.cells #[.int .i64 (c.E.at k).r.at_] 102)).other n24.symm 0 (.int .i64 0)).other n24.symm 1 (.int .i64 0)).other n24.symm 2 (.string ⟨#[]⟩)).other n24.symm 3 (.slice none 0 0)).other n34.symm 0 (.int .i64 (c.E.at k).r.at_)).set 0 (.bool false)
  have q4:Bk wq (w.heap.size+1+1) [.bool false]:=by rw [hwq];exact j4.dr
  have c20:=q2.c 0 _ rfl
  have c21:=q2.c 1 _ rfl
  have c22:=q2.c 2 _ rfl
  have c23:=q2.c 3 _ rfl
  have c30:=q3.c 0 _ rfl
  have c40:=q4.c 0 _ rfl
  exact ⟨.tuple #[.agg #[.int .i64 0,.int .i64 0,.string ⟨#[]⟩,.slice none 0 0],.int .i64 (c.E.at k).r.at_,.bool false],by simp [results,Tryz.results33,go_sem,c20,c21,c22,c23,c30,c40],WOut.bad HV.out rfl hz⟩
 ·skip
  rw [hx] at HX HE
  clear hx
  have HE2:Hid (R=if (c.E.at m).r.kind=7 then .ok (t,m) else .error m):=HE
  go_wp2_with fail
  refine (HX.out).mono ?_;rintro e w1 ⟨hnm,At,ct,nv1,rfl,hp,hs,ht⟩
  have HT0:=zq (Trm.sub (w0:=w) (F:=[w.heap.size+1+1,w.heap.size+1,w.heap.size]) ht HQ0.out.s.size (by intro b hb;simp only [List.mem_cons,List.mem_nil_iff,or_false] at hb;rcases hb with rfl|rfl|rfl;exact HQ0.out.b.lt 0 rfl;exact HQ0.out.b.lt 1 rfl;exact HQ0.out.b.lt 2 rfl))
  clear ht hnm HE
  have HQ2:=zq (HQ0.out.step hp hs)
  clear HQ0
  clear hp hs
  clear HX
  unfold tmV
  have cc3:=HQ2.out.b.all
  simp only [PC.cells,List.cons_append,List.nil_append,List.append_nil,bksAll,bkAll,Nat.zero_add,Nat.reduceAdd,and_true] at cc3
  go_upto_region 3 with fail
  have hz:=HQ2.out.put4 2 rfl (.int .i64 t.kind) (.int .i64 t.num) (.string t.name) (.slice At t.args.length ct) (Nat.le_refl _)
  have ht:=HT0.out.put (g:=w.heap.size) (by simp) (fun b hb=>put4_block _ _ (.int .i64 t.kind) (.int .i64 t.num) (.string t.name) (.slice At t.args.length ct) b hb) (by simp)
  obtain ⟨wu,HWU⟩:=lz (((((w1.setCell ⟨w.heap.size,0,none⟩ (.int .i64 t.kind)).setCell ⟨w.heap.size,1,none⟩ (.int .i64 t.num)).setCell ⟨w.heap.size,2,none⟩ (.string t.name)).setCell ⟨w.heap.size,3,none⟩ (.slice At t.args.length ct)))
  rw [←HWU.out] at hz ht ⊢
  have HQu:Hid (Wk c m (vsAt c.E.T m) nv w nv1 wu [(w.heap.size+1+1,[.bool false]),(w.heap.size+1,[.int .i64 0]),(w.heap.size,[.int .i64 t.kind,.int .i64 t.num,.string t.name,.slice At t.args.length ct])]):=zq hz
  have HTu:=zq ht
  clear hz ht HWU HT0 HQ2 cc3
  have hf:∀(q:NextR) W,(Instr.field 76 (.agg #[.int .i64 q.r.kind,.string q.txt,.int .i64 q.r.n,.int .i64 q.r.at_,.int .i64 q.r.end_,.bool q.lay]) 0).run Tryz.prog W=.ok (.int .i64 q.r.kind) W:=fun q W=>by kernel_rfl
  have HPK:=zq (rd_peek HQu.out.p 0 (by decide))
  rw [Nat.add_zero] at HPK
  obtain ⟨q,HQT⟩:=lz (c.E.at m)
  rw [←HQT.out] at HPK HE2
  unfold tkV at HPK
  have hfq:=hf q
  clear hf
  go_wp2_with fail
  refine (HPK.out).mono ?_;rintro e w4 ⟨rfl,hB⟩
  have HQ5:=zq (HQu.out.call hB)
  have HTu_5:=zq (HTu.out.call hB)
  clear HQu HTu
  clear hB HPK
  by_cases h7:q.r.kind=7
  ·skip
   have b7:(q.r.kind != 7)=false:=by simpa using h7
   have HV:Hid (R=.ok (t,m)):=zq (by rw [HE2.out,if_pos h7])
   clear h7 HE2
   have cc6:=HQ5.out.b.all
   simp only [PC.cells,List.cons_append,List.nil_append,List.append_nil,bksAll,bkAll,Nat.zero_add,Nat.reduceAdd,and_true] at cc6
   go_wp2_with fail
   obtain ⟨wz,HWZ⟩:∃wz,wz=((((((w4.setCell ⟨w.heap.size,0,none⟩ (.int .i64 t.kind)).setCell ⟨w.heap.size,1,none⟩ (.int .i64 t.num)).setCell ⟨w.heap.size,2,none⟩ (.string t.name)).setCell ⟨w.heap.size,3,none⟩ (.slice At t.args.length ct)).setCell ⟨w.heap.size+1,0,none⟩ (.int .i64 0)).setCell ⟨w.heap.size+1+1,0,none⟩ (.bool true)):=⟨_,rfl⟩
   have hz:Wk c m (vsAt c.E.T m) nv w nv1 wz [(w.heap.size+1+1,[.bool true]),(w.heap.size+1,[.int .i64 0]),(w.heap.size,[.int .i64 t.kind,.int .i64 t.num,.string t.name,.slice At t.args.length ct])]:=by
    rw [HWZ]
    exact (((HQ5.out.put4 2 rfl (.int .i64 t.kind) (.int .i64 t.num) (.string t.name) (.slice At t.args.length ct) (Nat.le_refl _)).put 1 0 rfl (.int .i64 0) (Nat.le_succ _)).put 0 0 rfl (.bool true) (Nat.le_succ_of_le (Nat.le_succ _)))
   have ht:Trm c nv1 w wz [w.heap.size+1+1,w.heap.size+1,w.heap.size] At t.args:=by
    rw [HWZ]
    have t1:=HTu_5.out.put (g:=w.heap.size) (by simp) (fun b hb=>put4_block _ _ (.int .i64 t.kind) (.int .i64 t.num) (.string t.name) (.slice At t.args.length ct) b hb) (by simp)
    have t2:=t1.put (g:=w.heap.size+1) (by simp) (fun b hb=>heap_setCell_other _ ⟨w.heap.size+1,0,none⟩ b (.int .i64 0) hb) (by simp)
    exact t2.put (g:=w.heap.size+1+1) (by simp) (fun b hb=>heap_setCell_other _ ⟨w.heap.size+1+1,0,none⟩ b (.bool true) hb) (by simp)
   have HZ:=zq hz
   have HTZ:=zq ht
   rw [←HWZ]
   clear hz ht HWZ HQ5 HTu_5 cc6
   refine leaves_cons (f:=55) (args:=#[.pointer (some ⟨w.heap.size,0,none⟩),.pointer (some ⟨w.heap.size+1,0,none⟩),.pointer (some ⟨w.heap.size+1+1,0,none⟩)]) (by simp) (by simp [go_sem]) ?_
   refine (wcatch_idle _ _ _ _).mono ?_
   rintro e u' wq ⟨rfl,rfl,hBq⟩
   have HZ2:=zq (HZ.out.call hBq)
   have HT2:=zq (HTZ.out.call hBq)
   have cz:=HZ2.out.b.all
   simp only [PC.cells,List.cons_append,List.nil_append,List.append_nil,bksAll,bkAll,Nat.zero_add,Nat.reduceAdd,and_true] at cz
   refine ⟨.tuple #[.agg #[.int .i64 t.kind,.int .i64 t.num,.string t.name,.slice At t.args.length ct],.int .i64 0,.bool true],by simp [results,Tryz.results33,go_sem,cz],?_⟩
   rw [HV.out]
   exact ⟨At,ct,nv1,rfl,HZ2.out.p,HZ2.out.s,HT2.out.out⟩
  ·skip
   have b7:(q.r.kind != 7)=true:=by simpa using h7
   have HV:Hid (R=.error m):=zq (by rw [HE2.out,if_neg h7])
   clear h7 HE2
   have cc6:=HQ5.out.b.all
   simp only [PC.cells,List.cons_append,List.nil_append,List.append_nil,bksAll,bkAll,Nat.zero_add,Nat.reduceAdd,and_true] at cc6
   go_wp2_with fail
   refine (rd_fail HQ5.out.p).mono ?_;rintro e w9 ⟨rfl,hB9⟩
   have n23:w.heap.size≠w.heap.size+1:=Nat.ne_of_lt (Nat.lt_succ_self _)
   have n34:w.heap.size+1≠w.heap.size+1+1:=Nat.ne_of_lt (Nat.lt_succ_self _)
   have n24:w.heap.size≠w.heap.size+1+1:=Nat.ne_of_lt (Nat.lt_succ_of_lt (Nat.lt_succ_self _))
   have k2:Bk w9 (w.heap.size) [.int .i64 t.kind,.int .i64 t.num,.string t.name,.slice At t.args.length ct]:=HQ5.out.left hB9 2 rfl
   have k3:Bk w9 (w.heap.size+1) [.int .i64 0]:=HQ5.out.left hB9 1 rfl
   have k4:Bk w9 (w.heap.size+1+1) [.bool false]:=HQ5.out.left hB9 0 rfl
   show bodyPostD _ _ _ (.panic _) _ _
   refine leaves_cons (f:=55) (args:=#[.pointer (some ⟨w.heap.size,0,none⟩),.pointer (some ⟨w.heap.size+1,0,none⟩),.pointer (some ⟨w.heap.size+1+1,0,none⟩)]) (by simp) (by simp [go_sem]) ?_
   refine (wcatch _ _ _ (c.E.at m).r.at_ _ _ _ _ _ _ w9 k2 k3 k4 n23 n24 n34).mono ?_
   rintro e u' wq ⟨rfl,rfl,hwq⟩
   have hA:=(HQ5.out.fall hB9).1.alloc (Nat.le_trans HB1.out (by have:=k2.lt;omega)) (.cells #[.int .i64 (c.E.at m).r.at_] 102)
   have hz:=(below_six hA HB1.out (Nat.le_succ_of_le HB1.out) (Nat.le_succ_of_le (Nat.le_succ_of_le HB1.out)) (.int .i64 0) (.int .i64 0) (.string ⟨#[]⟩) (.slice none 0 0) (.int .i64 (c.E.at m).r.at_) (.bool false)).drew
   rw [←hwq] at hz
   have j2:=((((k2.al (.cells #[.int .i64 (c.E.at m).r.at_] 102)).set 0 (.int .i64 0)).set 1 (.int .i64 0)).set 2 (.string ⟨#[]⟩)).set 3 (.slice none 0 0)
   have q2:Bk wq (w.heap.size) [.int .i64 0,.int .i64 0,.string ⟨#[]⟩,.slice none 0 0]:=by rw [hwq];exact ((j2.other n23 0 (.int .i64 (c.E.at m).r.at_)).other n24 0 (.bool false)).dr
   have j3:=(((((k3.al (.cells #[.int .i64 (c.E.at m).r.at_] 102)).other n23.symm 0 (.int .i64 0)).other n23.symm 1 (.int .i64 0)).other n23.symm 2 (.string ⟨#[]⟩)).other n23.symm 3 (.slice none 0 0)).set 0 (.int .i64 (c.E.at m).r.at_)
   have q3:Bk wq (w.heap.size+1) [.int .i64 (c.E.at m).r.at_]:=by rw [hwq];exact (j3.other n34 0 (.bool false)).dr
   have j4:=((((((k4.al (.cells #[.int .i64 (c.E.at m).r.at_] 102)).other n24.symm 0 (.int .i64 0)).other n24.symm 1 (.int .i64 0)).other n24.symm 2 (.string ⟨#[]⟩)).other n24.symm 3 (.slice none 0 0)).other n34.symm 0 (.int .i64 (c.E.at m).r.at_)).set 0 (.bool false)
   have q4:Bk wq (w.heap.size+1+1) [.bool false]:=by rw [hwq];exact j4.dr
   have c20:=q2.c 0 _ rfl
   have c21:=q2.c 1 _ rfl
   have c22:=q2.c 2 _ rfl
   have c23:=q2.c 3 _ rfl
   have c30:=q3.c 0 _ rfl
   have c40:=q4.c 0 _ rfl
   exact ⟨.tuple #[.agg #[.int .i64 0,.int .i64 0,.string ⟨#[]⟩,.slice none 0 0],.int .i64 (c.E.at m).r.at_,.bool false],by simp [results,Tryz.results33,go_sem,c20,c21,c22,c23,c30,c40],WOut.bad HV.out rfl hz⟩
end Go.Proofs.YtbojljpldcijgaaGreat
