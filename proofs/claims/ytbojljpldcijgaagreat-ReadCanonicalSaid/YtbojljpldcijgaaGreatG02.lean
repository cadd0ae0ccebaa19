/- Parts of the proof. -/
import Derived.Test.YtbojljpldcijgaaGreatH01
import Derived.Test.YtbojljpldcijgaaGreatH02
import Derived.Test.YtbojljpldcijgaaGreatH03
import Derived.Test.YtbojljpldcijgaaGreatH04
import Derived.Test.YtbojljpldcijgaaGreatH05
import Derived.Test.YtbojljpldcijgaaGreatH06
import Derived.Test.YtbojljpldcijgaaGreatH07
import Derived.Test.YtbojljpldcijgaaGreatH08
import Derived.Test.YtbojljpldcijgaaGreatH09
import Derived.Test.YtbojljpldcijgaaGreatH10
import Derived.Test.YtbojljpldcijgaaGreatH11
import Derived.Test.YtbojljpldcijgaaGreatH12
import Derived.Test.YtbojljpldcijgaaGreatH13
import Derived.Test.YtbojljpldcijgaaGreatH14
import Derived.Test.YtbojljpldcijgaaGreatH15
import Derived.Test.YtbojljpldcijgaaGreatH16
import Derived.Test.YtbojljpldcijgaaGreatH17
import Derived.Test.YtbojljpldcijgaaGreatH18
import Derived.Test.YtbojljpldcijgaaGreatH19
import Derived.Test.YtbojljpldcijgaaGreatH20
import Derived.Test.YtbojljpldcijgaaGreatH21
import Derived.Test.YtbojljpldcijgaaGreatH22
import Derived.Test.YtbojljpldcijgaaGreatH23
import Derived.Test.YtbojljpldcijgaaGreatH24
import Derived.Test.YtbojljpldcijgaaGreatH25
import Derived.Test.YtbojljpldcijgaaGreatH26
import Derived.Test.YtbojljpldcijgaaGreatH27
import Derived.Test.YtbojljpldcijgaaGreatG01
namespace Hb
open Go Go.RowKit
noncomputable def canonB (g:Tm):Bool:=validT g&&sameT g (canT g)
theorem canonB_eq {t:Tm} (h:validT t=true):canonB t=eqT t (canT t):=by
 unfold canonB sameT
 rw [h,Bool.true_and,Bool.true_and]
 cases he:eqT t (canT t) with
 | false=>simp
 | true=>rw [←eqT_iff.1 he,h];rfl
end Hb
namespace Go.Proofs.YtbojljpldcijgaaGreat
open Go.RowKit Hb
set_option maxRecDepth 100000
set_option maxHeartbeats 3200000 in
theorem r3_isCanon (t:Tm) (A:Option Addr) (cap:Nat) (w:World) (hT:TmsAt w.heap.size w A t.args):Calls Tryz.prog 15 #[tmV t A cap] w fun e w'=>e=.returned (.bool (canonB t))∧Below w.heap.size w w':=by
 obtain ⟨q,HQ⟩:∃q,Hid (q=canT t):=⟨_,Lib.hid rfl⟩
 have HT:=Lib.hid hT
 have HB0:Hid (Below w.heap.size w (w.alloc (.cells #[.int .i64 t.kind,.int .i64 t.num,.string t.name,.slice A t.args.length cap] 30))):=Lib.hid ((Below.refl _ w).alloc (Nat.le_refl _) _)
 have HK0:Hid (Bks (w.alloc (.cells #[.int .i64 t.kind,.int .i64 t.num,.string t.name,.slice A t.args.length cap] 30)) [(w.heap.size,[.int .i64 t.kind,.int .i64 t.num,.string t.name,.slice A t.args.length cap])]):=Lib.hid ((Bks.nil w).new [.int .i64 t.kind,.int .i64 t.num,.string t.name,.slice A t.args.length cap] 30 rfl)
 have HVL:Hid (∀X,Below w.heap.size w X→Calls Tryz.prog 20 #[.agg #[.int .i64 t.kind,.int .i64 t.num,.string t.name,.slice A t.args.length cap]] X fun e w'=>e=.returned (.bool (validT t))∧Below X.heap.size X w'):=Lib.hid fun X hX=>ref_tvalid t A cap X ((HT.out.keep hX).mono hX.size)
 have HCN:Hid (∀X,Below w.heap.size w X→Calls Tryz.prog 43 #[.agg #[.int .i64 t.kind,.int .i64 t.num,.string t.name,.slice A t.args.length cap]] X fun e w'=>∃a c,e=.returned (.agg #[.int .i64 q.kind,.int .i64 q.num,.string q.name,.slice a q.args.length c])∧Below X.heap.size X w'∧NewT X w' a q.args):=Lib.hid fun X hX=>by rw [HQ.out];exact ref_canon t A cap X ((HT.out.keep hX).mono hX.size)
 have HID:Hid (∀X a c,Below w.heap.size w X→TmsAt X.heap.size X a q.args→Calls Tryz.prog 42 #[.agg #[.int .i64 t.kind,.int .i64 t.num,.string t.name,.slice A t.args.length cap],.agg #[.int .i64 q.kind,.int .i64 q.num,.string q.name,.slice a q.args.length c]] X fun e w'=>e=.returned (.bool (eqT t q))∧Below X.heap.size X w'):=Lib.hid fun X a c hX hq=>r3_identical t q A a cap c X ((HT.out.keep hX).mono hX.size) hq
 clear hT
 unfold tmV at *
 go_enter Tryz.func15,Tryz.ntmps15
 go_wp2_with fail
 obtain ⟨W0,HW0⟩:∃W0,Hid (W0=(w.alloc (.cells #[.int .i64 t.kind,.int .i64 t.num,.string t.name,.slice A t.args.length cap] 30))):=⟨_,Lib.hid rfl⟩
 rw [←HW0.out] at HB0 HK0 ⊢
 clear HW0
 rename_i K0 hK0
 have s0_0:=HK0.out.cell 0 0 rfl rfl
 have s0_1:=HK0.out.cell 0 1 rfl rfl
 have s0_2:=HK0.out.cell 0 2 rfl rfl
 have s0_3:=HK0.out.cell 0 3 rfl rfl
 have s0l:w.heap.size<W0.heap.size:=HK0.out.lt 0 rfl
 cases hv:validT t
 ·have HVT:Hid (∀X,Below W0.heap.size W0 X→Calls Tryz.prog 20 #[.agg #[.int .i64 t.kind,.int .i64 t.num,.string t.name,.slice A t.args.length cap]] X fun e w'=>e=.returned (.bool false)∧Below X.heap.size X w'):=Lib.hid fun X hX=>by
   have h:=HVL.out X (HB0.out.trans (hX.mono HB0.out.size))
   rw [hv] at h
   exact h
  refine region_own (w0:=W0) [rVal [] [0] (fun|[v]=>v=.agg #[.int .i64 t.kind,.int .i64 t.num,.string t.name,.slice A t.args.length cap]|_=>False),
    rVal [0] [1] (fun|[v]=>v=.bool false|_=>False),
    rPure [0,1] [2] (fun|[v]=>v=.bool false|_=>False),
    rVal (List.range 3) [3] (fun|[v]=>v=undef|_=>False),
    rVal (List.range 3) [4] (fun|[v]=>v=undef|_=>False),
    rVal [0,1,2,4] [5] (fun|[v]=>v=undef|_=>False),
    rVal (List.range 6) [6] (fun|[v]=>v=undef|_=>False),
    rPure (List.range 7) [7] (fun|[v]=>v=.bool false|_=>False),
    rPure (List.range 8) [8] (fun|[v]=>v=.bool false|_=>False)]
    [some 3,some 4,some 5,some 6,some 7,some 8,some 9,some 10,some 2] (fun _=>True) (W0.heap.size) (by kernel_rfl) (Nat.le_refl _) (by kernel_rfl) (by kernel_rfl) (by kernel_rfl) (fun j o ho=>?srv0) (fun val Y N hv5 HF=>?fin0)
  case srv0=>
    have hlt:j<9:=(Array.getElem?_eq_some_iff.1 ho).1
    rcases (show j=0∨j=1∨j=2∨j=3∨j=4∨j=5∨j=6∨j=7∨j=8 by omega) with rfl|rfl|rfl|rfl|rfl|rfl|rfl|rfl|rfl
    ·cases ho
     refine srv_val rfl rfl (fun _ _ _=>trivial) (fun val E X hE hB hA=>?_)
     have e1:E (.tmp 1)=.pointer (some ⟨w.heap.size,0,none⟩):=by rw [hE.eq];rfl
     have z0:X.cell? ⟨w.heap.size,0,none⟩=some (.int .i64 t.kind):=(hB.cell (p:=⟨_,0,none⟩) s0l).trans s0_0
     have z1:X.cell? ⟨w.heap.size,1,none⟩=some (.int .i64 t.num):=(hB.cell (p:=⟨_,1,none⟩) s0l).trans s0_1
     have z2:X.cell? ⟨w.heap.size,2,none⟩=some (.string t.name):=(hB.cell (p:=⟨_,2,none⟩) s0l).trans s0_2
     have z3:X.cell? ⟨w.heap.size,3,none⟩=some (.slice A t.args.length cap):=(hB.cell (p:=⟨_,3,none⟩) s0l).trans s0_3
     exact ⟨.agg #[.int .i64 t.kind,.int .i64 t.num,.string t.name,.slice A t.args.length cap],by simp [execOp,go_sem,e1,z0,z1,z2,z3],rfl⟩
    ·cases ho
     refine srv_calV rfl rfl (fun _ _ _=>trivial) (fun val E X hE hB hA=>?_)
     have e3:E (.tmp 3)=val 0:=by rw [hE.eq];rfl
     have h0:val 0=.agg #[.int .i64 t.kind,.int .i64 t.num,.string t.name,.slice A t.args.length cap]:=hA 0 (of_decide_eq_true rfl)
     exact ⟨_,_,_,by simp [execOp,go_sem,hE.f,e3,h0] <;> rfl,HVT.out X hB,rfl⟩
    ·cases ho
     refine srv_pure rfl rfl (fun val E hE hA=>?_)
     have e4:E (.tmp 4)=val 1:=by rw [hE.eq];rfl
     have h1:val 1=.bool false:=hA 1 (of_decide_eq_true rfl)
     exact ⟨.bool false,fun X=>by simp [execOp,go_sem,e4,h1],rfl⟩
    ·cases ho
     exact srv_valG false rfl rfl (fun _ _ _=>trivial) (fun val hA=>hA 2 (of_decide_eq_true rfl)) (fun h=>by cases h) fun _ val hA=>rfl
    ·cases ho
     exact srv_valG false rfl rfl (fun _ _ _=>trivial) (fun val hA=>hA 2 (of_decide_eq_true rfl)) (fun h=>by cases h) fun _ val hA=>rfl
    ·cases ho
     exact srv_calVG false rfl rfl (fun _ _ _=>trivial) (fun val hA=>hA 2 (of_decide_eq_true rfl)) (fun h=>by cases h) fun _ val hA=>rfl
    ·cases ho
     exact srv_calVG false rfl rfl (fun _ _ _=>trivial) (fun val hA=>hA 2 (of_decide_eq_true rfl)) (fun h=>by cases h) fun _ val hA=>rfl
    ·cases ho
     refine srv_pure rfl rfl (fun val E hE hA=>?_)
     have e5:E (.tmp 5)=val 2:=by rw [hE.eq];rfl
     have h2:val 2=.bool false:=hA 2 (of_decide_eq_true rfl)
     have e9:E (.tmp 9)=val 6:=by rw [hE.eq];rfl
     have h6:val 6=undef:=hA 6 (of_decide_eq_true rfl)
     exact ⟨.bool false,fun X=>by simp [execOp,go_sem,hE.c,e5,h2,e9,h6],rfl⟩
    ·cases ho
     refine srv_pure rfl rfl (fun val E hE hA=>?_)
     have e10:E (.tmp 10)=val 7:=by rw [hE.eq];rfl
     have h7:val 7=.bool false:=hA 7 (of_decide_eq_true rfl)
     exact ⟨.bool false,fun X=>by simp [execOp,go_sem,e10,h7],rfl⟩
  case fin0=>
   have h0:val 0=.agg #[.int .i64 t.kind,.int .i64 t.num,.string t.name,.slice A t.args.length cap]:=hv5 0 (show 0<9 by decide)
   have h1:val 1=.bool false:=hv5 1 (show 1<9 by decide)
   have h2:val 2=.bool false:=hv5 2 (show 2<9 by decide)
   have h3:val 3=undef:=hv5 3 (show 3<9 by decide)
   have h4:val 4=undef:=hv5 4 (show 4<9 by decide)
   have h5:val 5=undef:=hv5 5 (show 5<9 by decide)
   have h6:val 6=undef:=hv5 6 (show 6<9 by decide)
   have h7:val 7=.bool false:=hv5 7 (show 7<9 by decide)
   have h8:val 8=.bool false:=hv5 8 (show 8<9 by decide)
   have HBY:=Lib.hid (HB0.out.trans (HF.bel.mono HB0.out.size))
   refine hK0 _ _ ?_
   simp only [fillD,List.set_cons_zero,List.set_cons_succ,Nat.reduceAdd,Nat.zero_add,h0,h1,h2,h3,h4,h5,h6,h7,h8]
   clear hv5 h0 h1 h2 h3 h4 h5 h6 h7 h8 hK0 HF
   go_wp2_with fail
   go_ret
   exact ⟨by unfold canonB;rw [hv];rfl,HBY.out⟩
 ·have HVT:Hid (∀X,Below W0.heap.size W0 X→Calls Tryz.prog 20 #[.agg #[.int .i64 t.kind,.int .i64 t.num,.string t.name,.slice A t.args.length cap]] X fun e w'=>e=.returned (.bool true)∧Below X.heap.size X w'):=Lib.hid fun X hX=>by
   have h:=HVL.out X (HB0.out.trans (hX.mono HB0.out.size))
   rw [hv] at h
   exact h
  refine region_own (w0:=W0) [rVal [] [0] (fun|[v]=>v=.agg #[.int .i64 t.kind,.int .i64 t.num,.string t.name,.slice A t.args.length cap]|_=>False),
    rVal [0] [1] (fun|[v]=>v=.bool true|_=>False),
    rPure [0,1] [2] (fun|[v]=>v=.bool true|_=>False),
    rVal (List.range 3) [3] (fun|[v]=>v=.agg #[.int .i64 t.kind,.int .i64 t.num,.string t.name,.slice A t.args.length cap]|_=>False),
    rVal (List.range 3) [4] (fun|[v]=>v=.agg #[.int .i64 t.kind,.int .i64 t.num,.string t.name,.slice A t.args.length cap]|_=>False),
    rTm [0,1,2,4] 5 W0.heap.size q,
    rCall (List.range 6) [6] (fun|[v]=>v=.bool (eqT t q)|_=>False) (fun _ _ _=>True) (fun _ _ _ _ _ _ _ _ _=>trivial),
    rPure (List.range 7) [7] (fun|[v]=>v=.bool (eqT t q)|_=>False),
    rPure (List.range 8) [8] (fun|[v]=>v=.bool (eqT t q)|_=>False)]
    [some 3,some 4,some 5,some 6,some 7,some 8,some 9,some 10,some 2] (fun _=>True) (W0.heap.size) (by kernel_rfl) (Nat.le_refl _) (by kernel_rfl) (by kernel_rfl) (by kernel_rfl) (fun j o ho=>?srv1) (fun val Y N hv5 HF=>?fin1)
  case srv1=>
    have hlt:j<9:=(Array.getElem?_eq_some_iff.1 ho).1
    rcases (show j=0∨j=1∨j=2∨j=3∨j=4∨j=5∨j=6∨j=7∨j=8 by omega) with rfl|rfl|rfl|rfl|rfl|rfl|rfl|rfl|rfl
    ·cases ho
     refine srv_val rfl rfl (fun _ _ _=>trivial) (fun val E X hE hB hA=>?_)
     have e1:E (.tmp 1)=.pointer (some ⟨w.heap.size,0,none⟩):=by rw [hE.eq];rfl
     have z0:X.cell? ⟨w.heap.size,0,none⟩=some (.int .i64 t.kind):=(hB.cell (p:=⟨_,0,none⟩) s0l).trans s0_0
     have z1:X.cell? ⟨w.heap.size,1,none⟩=some (.int .i64 t.num):=(hB.cell (p:=⟨_,1,none⟩) s0l).trans s0_1
     have z2:X.cell? ⟨w.heap.size,2,none⟩=some (.string t.name):=(hB.cell (p:=⟨_,2,none⟩) s0l).trans s0_2
     have z3:X.cell? ⟨w.heap.size,3,none⟩=some (.slice A t.args.length cap):=(hB.cell (p:=⟨_,3,none⟩) s0l).trans s0_3
     exact ⟨.agg #[.int .i64 t.kind,.int .i64 t.num,.string t.name,.slice A t.args.length cap],by simp [execOp,go_sem,e1,z0,z1,z2,z3],rfl⟩
    ·cases ho
     refine srv_calV rfl rfl (fun _ _ _=>trivial) (fun val E X hE hB hA=>?_)
     have e3:E (.tmp 3)=val 0:=by rw [hE.eq];rfl
     have h0:val 0=.agg #[.int .i64 t.kind,.int .i64 t.num,.string t.name,.slice A t.args.length cap]:=hA 0 (of_decide_eq_true rfl)
     exact ⟨_,_,_,by simp [execOp,go_sem,hE.f,e3,h0] <;> rfl,HVT.out X hB,rfl⟩
    ·cases ho
     refine srv_pure rfl rfl (fun val E hE hA=>?_)
     have e4:E (.tmp 4)=val 1:=by rw [hE.eq];rfl
     have h1:val 1=.bool true:=hA 1 (of_decide_eq_true rfl)
     exact ⟨.bool true,fun X=>by simp [execOp,go_sem,e4,h1],rfl⟩
    ·cases ho
     refine srv_valG (true) rfl rfl (fun _ _ _=>trivial) (fun val hA=>hA 2 (of_decide_eq_true rfl)) (fun _ val E X hE hB hA=>?_) (fun h=>absurd rfl h)
     have e1:E (.tmp 1)=.pointer (some ⟨w.heap.size,0,none⟩):=by rw [hE.eq];rfl
     have z0:X.cell? ⟨w.heap.size,0,none⟩=some (.int .i64 t.kind):=(hB.cell (p:=⟨_,0,none⟩) s0l).trans s0_0
     have z1:X.cell? ⟨w.heap.size,1,none⟩=some (.int .i64 t.num):=(hB.cell (p:=⟨_,1,none⟩) s0l).trans s0_1
     have z2:X.cell? ⟨w.heap.size,2,none⟩=some (.string t.name):=(hB.cell (p:=⟨_,2,none⟩) s0l).trans s0_2
     have z3:X.cell? ⟨w.heap.size,3,none⟩=some (.slice A t.args.length cap):=(hB.cell (p:=⟨_,3,none⟩) s0l).trans s0_3
     exact ⟨.agg #[.int .i64 t.kind,.int .i64 t.num,.string t.name,.slice A t.args.length cap],by simp [execOp,go_sem,e1,z0,z1,z2,z3],rfl⟩
    ·cases ho
     refine srv_valG (true) rfl rfl (fun _ _ _=>trivial) (fun val hA=>hA 2 (of_decide_eq_true rfl)) (fun _ val E X hE hB hA=>?_) (fun h=>absurd rfl h)
     have e1:E (.tmp 1)=.pointer (some ⟨w.heap.size,0,none⟩):=by rw [hE.eq];rfl
     have z0:X.cell? ⟨w.heap.size,0,none⟩=some (.int .i64 t.kind):=(hB.cell (p:=⟨_,0,none⟩) s0l).trans s0_0
     have z1:X.cell? ⟨w.heap.size,1,none⟩=some (.int .i64 t.num):=(hB.cell (p:=⟨_,1,none⟩) s0l).trans s0_1
     have z2:X.cell? ⟨w.heap.size,2,none⟩=some (.string t.name):=(hB.cell (p:=⟨_,2,none⟩) s0l).trans s0_2
     have z3:X.cell? ⟨w.heap.size,3,none⟩=some (.slice A t.args.length cap):=(hB.cell (p:=⟨_,3,none⟩) s0l).trans s0_3
     exact ⟨.agg #[.int .i64 t.kind,.int .i64 t.num,.string t.name,.slice A t.args.length cap],by simp [execOp,go_sem,e1,z0,z1,z2,z3],rfl⟩
    ·cases ho
     refine srv_calG rfl rfl (fun val hA=>hA 2 (of_decide_eq_true rfl)) fun val E X N hE hC hA hc=>?_
     have e7:E (.tmp 7)=val 4:=by rw [hE.eq];rfl
     have h4:val 4=.agg #[.int .i64 t.kind,.int .i64 t.num,.string t.name,.slice A t.args.length cap]:=hA 4 (of_decide_eq_true rfl)
     exact ⟨_,_,by simp [execOp,go_sem,hE.f,e7,h4] <;> rfl,(HCN.out X (HB0.out.trans (hC.bel.mono HB0.out.size))).mono fun e w' h=>by
      obtain ⟨a,c,he,hB,hN⟩:=h
      exact ⟨_,he,hB,⟨a,c,rfl⟩,fun N' _ h2=>⟨a,c,rfl,hN.keep (fun _ _=>rfl) (fun b hb=>⟨h2 b hb.1 hb.2,Nat.le_trans hC.bel.size hb.1⟩)⟩⟩⟩
    ·cases ho
     refine srv_calG rfl rfl (fun val hA=>hA 2 (of_decide_eq_true rfl)) fun val E X N hE hC hA hc=>?_
     obtain ⟨a,c,h5,ht⟩:∃a c,val 5=.agg #[.int .i64 q.kind,.int .i64 q.num,.string q.name,.slice a q.args.length c]∧TmsK (fun b=>N b∧W0.heap.size≤b) X a q.args:=hc 5 (of_decide_eq_true rfl) rfl
     have e6:E (.tmp 6)=val 3:=by rw [hE.eq];rfl
     have e8:E (.tmp 8)=val 5:=by rw [hE.eq];rfl
     have h3:val 3=.agg #[.int .i64 t.kind,.int .i64 t.num,.string t.name,.slice A t.args.length cap]:=hA 3 (of_decide_eq_true rfl)
     exact ⟨_,_,by simp [execOp,go_sem,hE.f,e6,e8,h3,h5] <;> rfl,(HID.out X a c (HB0.out.trans (hC.bel.mono HB0.out.size)) (TmsK.at' (ht.keep (fun _ _=>rfl) (fun b hb=>hC.lt b hb.1)))).mono fun e w' h=>⟨_,h.1,h.2,rfl,fun _ _ _=>trivial⟩⟩
    ·cases ho
     refine srv_pure rfl rfl (fun val E hE hA=>?_)
     have e5:E (.tmp 5)=val 2:=by rw [hE.eq];rfl
     have h2:val 2=.bool true:=hA 2 (of_decide_eq_true rfl)
     have e9:E (.tmp 9)=val 6:=by rw [hE.eq];rfl
     have h6:val 6=.bool (eqT t q):=hA 6 (of_decide_eq_true rfl)
     exact ⟨.bool (eqT t q),fun X=>by simp [execOp,go_sem,hE.c,e5,h2,e9,h6],rfl⟩
    ·cases ho
     refine srv_pure rfl rfl (fun val E hE hA=>?_)
     have e10:E (.tmp 10)=val 7:=by rw [hE.eq];rfl
     have h7:val 7=.bool (eqT t q):=hA 7 (of_decide_eq_true rfl)
     exact ⟨.bool (eqT t q),fun X=>by simp [execOp,go_sem,e10,h7],rfl⟩
  case fin1=>
   have h0:val 0=.agg #[.int .i64 t.kind,.int .i64 t.num,.string t.name,.slice A t.args.length cap]:=hv5 0 (show 0<9 by decide)
   have h1:val 1=.bool true:=hv5 1 (show 1<9 by decide)
   have h2:val 2=.bool true:=hv5 2 (show 2<9 by decide)
   have h3:val 3=.agg #[.int .i64 t.kind,.int .i64 t.num,.string t.name,.slice A t.args.length cap]:=hv5 3 (show 3<9 by decide)
   have h4:val 4=.agg #[.int .i64 t.kind,.int .i64 t.num,.string t.name,.slice A t.args.length cap]:=hv5 4 (show 4<9 by decide)
   obtain ⟨_,_,h5⟩:∃a c,val 5=.agg #[.int .i64 q.kind,.int .i64 q.num,.string q.name,.slice a q.args.length c]:=hv5 5 (show 5<9 by decide)
   have h6:val 6=.bool (eqT t q):=hv5 6 (show 6<9 by decide)
   have h7:val 7=.bool (eqT t q):=hv5 7 (show 7<9 by decide)
   have h8:val 8=.bool (eqT t q):=hv5 8 (show 8<9 by decide)
   have HBY:=Lib.hid (HB0.out.trans (HF.bel.mono HB0.out.size))
   refine hK0 _ _ ?_
   simp only [fillD,List.set_cons_zero,List.set_cons_succ,Nat.reduceAdd,Nat.zero_add,h0,h1,h2,h3,h4,h5,h6,h7,h8]
   clear hv5 h0 h1 h2 h3 h4 h5 h6 h7 h8 hK0 HF
   go_wp2_with fail
   go_ret
   exact ⟨by rw [canonB_eq hv,←HQ.out];rfl,HBY.out⟩
end Go.Proofs.YtbojljpldcijgaaGreat
namespace Hb
open Go Go.RowKit
theorem vl_nodes:∀t:Tm,(vl t).length≤t.nodes:=Tm.ind fun t ih=>by
 rw [vl_eq,Tm.nodes_eq,List.length_append]
 have key:∀l:List Tm,(∀a∈l,a∈t.args)→(l.flatMap vl).length≤(l.map Tm.nodes).sum:=by
  intro l
  induction l with
  | nil=>intro _;exact Nat.le_refl _
  | cons a l il=>
   intro hl
   rw [List.flatMap_cons,List.length_append,List.map_cons,List.sum_cons]
   have:=ih a (hl a (List.mem_cons_self ..))
   have:=il fun x hx=>hl x (List.mem_cons_of_mem _ hx)
   omega
 have:=key t.args fun _ h=>h
 split
 ·simp only [List.length_cons,List.length_nil];omega
 ·simp only [List.length_nil];omega
theorem arg_nodes {t a:Tm} (h:a∈t.args):a.nodes≤t.nodes:=by
 rw [Tm.nodes_eq t]
 have key:∀l:List Tm,a∈l→a.nodes≤(l.map Tm.nodes).sum:=by
  intro l
  induction l with
  | nil=>intro h;cases h
  | cons b l il=>
   intro h
   rw [List.map_cons,List.sum_cons]
   rcases List.mem_cons.1 h with rfl | h
   ·omega
   ·have:=il h;omega
 have:=key t.args h
 omega
def occK (t:Tm) (x:Int) (k:Nat):Nat:=(if t.kind=0∧t.num=x then 1 else 0)+((t.args.take k).flatMap vl).count x
theorem occK_all (t:Tm) (x:Int) (k:Nat) (h:t.args.length≤k):occK t x k=(vl t).count x:=by
 unfold occK
 rw [vl_eq,List.count_append,List.take_of_length_le h]
 congr 1
 by_cases h0:t.kind=0
 ·rw [if_pos h0]
  by_cases h1:t.num=x
  ·rw [if_pos ⟨h0,h1⟩,h1];simp
  ·rw [if_neg (fun h=>h1 h.2)];simp [h1]
 ·rw [if_neg h0,if_neg (fun h=>h0 h.1)];rfl
theorem occK_succ (t:Tm) (x:Int) (k:Nat) (h:k<t.args.length):occK t x (k+1)=occK t x k+(vl t.args[k]).count x:=by
 unfold occK
 rw [List.take_succ_eq_append_getElem h,List.flatMap_append,List.count_append,List.flatMap_cons,List.flatMap_nil,List.append_nil]
 omega
theorem occK_le (t:Tm) (x:Int) (k:Nat):occK t x k≤t.nodes:=by
 have h1:=vl_nodes t
 have h2:∀j,t.args.length≤k+j→occK t x k≤(vl t).count x:=by
  intro j
  induction j generalizing k with
  | zero=>intro h;exact Nat.le_of_eq (occK_all t x k h)
  | succ j ij=>
   intro h
   by_cases hk:k<t.args.length
   ·have:=occK_succ t x k hk
    have:=ij (k+1) (by omega)
    omega
   ·exact Nat.le_of_eq (occK_all t x k (by omega))
 have:=h2 t.args.length (by omega)
 have:=List.count_le_length (a:=x) (l:=vl t)
 omega
end Hb
namespace Go.Proofs.YtbojljpldcijgaaGreat
open Go.RowKit Hb
set_option maxRecDepth 100000
set_option linter.unusedSimpArgs false
set_option maxHeartbeats 3200000 in
theorem r3_occ (x:Int):∀(t:Tm) (A:Option Addr) (cap:Nat) (w:World),t.nodes≤100000→TmsAt w.heap.size w A t.args →
  Calls Tryz.prog 17 #[tmV t A cap,.int .i64 x] w fun e w'=>e=.returned (.int .i64 ((vl t).count x:Nat))∧Below w.heap.size w w':=by
 refine Tm.ind fun t ih=>?_
 intro A cap w hn0 hT
 have HX:=Lib.hid (TBoxT.start w t A cap 30)
 have HT:=Lib.hid hT
 have hm:=hT.len
 unfold maxLen at hm
 have HIH:=Lib.hid ih
 have HOS:=Lib.hid (occK_succ t x)
 have HOA:=Lib.hid (occK_all t x)
 have HOL:=Lib.hid (fun k=>Nat.le_trans (occK_le t x k) hn0)
 have HNA:=Lib.hid (fun a (h:a∈t.args)=>Nat.le_trans (arg_nodes h) hn0)
 have HO0:Hid (occK t x 0=if t.kind=0∧t.num=x then 1 else 0):=Lib.hid rfl
 clear hT ih hn0
 obtain ⟨L,HL⟩:∃L,Hid (L=t.args.length):=⟨_,Lib.hid rfl⟩
 unfold tmV
 rw [←HL.out] at hm ⊢
 by_cases h0:t.kind=0
 all_goals by_cases h1:t.num=x
 all_goals
  obtain ⟨c0,hc0⟩:∃c0,c0=occK t x 0:=⟨_,rfl⟩
  have hc1:=HO0.out
  simp only [h0,h1,and_self,and_true,and_false,false_and,true_and,if_true,if_false] at hc1
  rw [←hc0] at hc1
  have HC0:=Lib.hid hc0
  clear hc0 HO0
  subst hc1
  have b0:=HX.out.c0
  have b1:=HX.out.c1
  rw [←HL.out] at HX
  try have hb:(t.num==x)=false:=by simpa using h1
  try have hkb:(t.kind==0)=false:=by simpa using h0
  try rw [h0] at HX b0 ⊢
  try rw [h1] at HX b1 ⊢
  go_enter Tryz.func17,Tryz.ntmps17
  go_wp2_with fail
  go_loopw [5,6] (fun c i wr=>∃k n:Nat,k≤L∧c=.int .i64 n∧i=.int .i64 k∧Hid (n=occK t x k)∧n≤100000∧Hid (TBoxT w wr t A cap)) (fun _ i _=>L-(intOf i).toNat)
  case atStart=>exact ⟨0,_,Nat.zero_le _,by first | rfl | (show _=Value.int .i64 ((1:Nat):Int);rfl),rfl,HC0,by decide,by first | exact HX | sorry⟩
  case round=>
   obtain ⟨k,n,hk,rfl,rfl,HN,hnm,HB⟩:=hrel
   have b3:=HB.out.c3
   rw [←HL.out] at b3
   by_cases hlt:k<L
   ·have hkl:k<t.args.length:=by have:=HL.out;omega
    obtain ⟨b,off,A',cap',rfl,hb,c0,c1,c2,c3,hs⟩:=(HT.out.keep HB.out.bel).get k hkl
    have hss:=hs.mono HB.out.bel.size
    have hC:=Lib.hid (HIH.out t.args[k] (List.getElem_mem hkl) A' cap' wr (HNA.out _ (List.getElem_mem hkl)) hss)
    have hsum:=HOS.out k hkl
    have hle:=HOL.out (k+1)
    unfold tmV at hC
    obtain ⟨q,hq⟩:∃q,q=(vl t.args[k]).count x:=⟨_,rfl⟩
    rw [←hq] at hC hsum
    rw [←HN.out] at hsum
    rw [hsum] at hle
    have HQ:=Lib.hid hsum.symm
    clear hs hss hq hsum
    generalize t.args[k].kind=a0 at *
    generalize t.args[k].num=a1 at *
    generalize t.args[k].name=a2 at *
    generalize t.args[k].args.length=a3 at *
    go_wp2_with fail
    refine hC.out.mono ?_;rintro e w1 ⟨rfl,hB1⟩
    have HB1:=Lib.hid (HB.out.call hB1)
    clear b3 c0 c1 c2 c3 hB1
    go_wp2_with fail
    go_roundw
    case rel=>exact ⟨k+1,n+q,by omega,by go_num,by go_num,HQ,hle,HB1⟩
    case measure=>simp [intOf] <;> omega
   ·have hend:n=(vl t).count x:=by rw [HN.out];exact HOA.out k (by have:=HL.out;omega)
    have HE:=Lib.hid hend
    have hbel:=HB.out.bel
    clear hend
    go_wp2_with fail
    go_ret
    exact ⟨ret_int (by rw [HE.out]),hbel⟩
end Go.Proofs.YtbojljpldcijgaaGreat
namespace Go.Proofs.YtbojljpldcijgaaGreat
open Go.RowKit Hb
set_option maxRecDepth 100000
theorem r3_Vars (t:Tm) (A:Option Addr) (cap:Nat) (w:World) (hv:validT t=true) (hT:TmsAt w.heap.size w A t.args):Calls Tryz.prog 16 #[tmV t A cap] w fun e w'=>∃B c,e=.returned (.slice B (varsT t []).length c)∧Below w.heap.size w w':=by
 have HX:=Lib.hid (TBoxT.start w t A cap 30)
 have hok:t.allOk=true∧t.nodes≤2000:=by unfold validT at hv;simpa [and_comm] using hv
 have HV:=Lib.hid (fun (w1:World) (h:TBoxT w w1 t A cap)=>by
  have h2:=ref_tvalid t A cap w1 ((hT.keep h.bel).mono h.bel.size)
  rw [hv] at h2
  exact h2)
 have HC:=Lib.hid (fun (w1:World) (h:TBoxT w w1 t A cap)=>(r3_vars w1 t hok.1 A cap w1 (.slice none 0 0) [] (Below.refl _ _) ((hT.keep h.bel).mono h.bel.size) (OwnI.nil _ _ _) (by simp;omega)).mono (R':=fun e w'=>∃B c,e=.returned (.slice B (varsT t []).length c)∧Below w1.heap.size w1 w') fun e w' h=>by
  obtain ⟨v',he,ho,hg,_⟩:=h
  obtain ⟨B,c,rfl,_⟩:=ho.ints
  exact ⟨B,c,he,(Below.refl w1.heap.size w1).grown hg (Nat.le_refl _) (fun k hk=>by cases hk)⟩)
 unfold tmV at *
 clear hT hv hok
 go_enter Tryz.func16,Tryz.ntmps16
 go_wp2_with fail
 refine (HV.out _ HX.out).mono ?_;rintro e w1 ⟨rfl,hB1⟩
 have HX1:=Lib.hid (HX.out.call hB1)
 clear hB1
 have b0:=HX1.out.c0
 have b1:=HX1.out.c1
 have b2:=HX1.out.c2
 have b3:=HX1.out.c3
 go_wp2_with fail
 refine (HC.out _ HX1.out).mono ?_;rintro e w2 ⟨B,c,rfl,hB2⟩
 have hbel:=(HX1.out.call hB2).bel
 go_wp2_with fail
 go_ret
 exact ⟨_,_,rfl,hbel⟩
end Go.Proofs.YtbojljpldcijgaaGreat
namespace Hb
open Go Go.RowKit
theorem can_sum (L:List UInt8) (at_:Int) (s:Sy) :
  let r:=readS L at_ s
  (¬r.err=0→r=rdErr r.where_ r.err∧0≤r.where_∧r.where_≤L.length)∧(r.err=0→∃a:Nat,at_=a∧L.length≤16384∧CanR L a r):=by
 intro r
 cases hb:badArgs L at_ s with
 | true=>
  have e:r=rdErr 0 1:=by show readS L at_ s=_;unfold readS;rw [if_pos hb]
  rw [e]
  exact ⟨fun _=>⟨rfl,Int.le_refl _,by show (0:Int)≤_;omega⟩,fun h=>absurd h (by show ¬(1:Int)=0;decide)⟩
 | false=>
  obtain ⟨h1,h2,h3,_⟩:=bad_no hb
  obtain ⟨a,rfl⟩:∃a:Nat,at_=a:=⟨at_.toNat,by omega⟩
  have hal:a≤L.length:=by omega
  obtain ⟨g1,_,_,_,_,g6⟩:=read_in L a s hal (by omega)
  exact ⟨fun h=>⟨g6 h,g1⟩,fun h=>⟨a,rfl,by omega,canR L a s hal (by omega) h⟩⟩
theorem rd_zero (k e:Int):sameRd (rdErr k e) (rdErr 0 0)=true:=by
 unfold sameRd rdErr
 simp only [same_refl zero_valid]
 simp
theorem sc_ex {α:Type} (m:List α) (f:α→Bool):∃sc:Nat→Nat,sc 0=0∧sc m.length=(m.filter f).length∧(∀i,sc i≤i)∧∀i (h:i<m.length),(f m[i]=true→sc (i+1)=sc i+1∧∃h2:sc i<(m.filter f).length,(m.filter f)[sc i]=m[i])∧(f m[i]=false→sc (i+1)=sc i):=by
 refine ⟨fun i=>((m.take i).filter f).length,rfl,by simp only [List.take_length],fun i=>?_,fun i h=>?_⟩
 ·have h1:=List.length_filter_le f (m.take i)
  rw [List.length_take] at h1
  show ((m.take i).filter f).length≤i
  omega
 ·have e:m.take (i+1)=m.take i++[m[i]]:=List.take_succ_eq_append_getElem h
  refine ⟨fun hf=>⟨?_,?_⟩,fun hf=>?_⟩
  ·show ((m.take (i+1)).filter f).length=_
   rw [e,List.filter_append,List.filter_cons,if_pos hf,List.length_append];rfl
  ·have e2:m.filter f=(m.take i).filter f++(m[i]::(m.drop (i+1)).filter f):=by
    conv=>lhs;rw [←List.take_append_drop i m,List.drop_eq_getElem_cons h]
    rw [List.filter_append,List.filter_cons,if_pos hf]
   refine ⟨by rw [e2];simp,?_⟩
   simp only [e2]
   rw [List.getElem_append_right (Nat.le_refl _)]
   simp
  ·show ((m.take (i+1)).filter f).length=_
   rw [e,List.filter_append,List.filter_cons,if_neg (by rw [hf];simp),List.length_append];rfl
end Hb
