/- Parts of the proof. -/
import Derived.Test.YtbojljpldcijgaaGreatH01
import Derived.Test.YtbojljpldcijgaaGreatH02
import Derived.Test.YtbojljpldcijgaaGreatH03
import Derived.Test.YtbojljpldcijgaaGreatH04
import Derived.Test.YtbojljpldcijgaaGreatH05
import Derived.Test.YtbojljpldcijgaaGreatH06
import Derived.Test.YtbojljpldcijgaaGreatH07
import Derived.Test.YtbojljpldcijgaaGreatH08
import Derived.Test.YtbojljpldcijgaaGreatH09
import Derived.Test.YtbojljpldcijgaaGreatH10
import Derived.Test.YtbojljpldcijgaaGreatH11
import Derived.Test.YtbojljpldcijgaaGreatH12
import Derived.Test.YtbojljpldcijgaaGreatH13
import Derived.Test.YtbojljpldcijgaaGreatH14
import Derived.Test.YtbojljpldcijgaaGreatH15
import Derived.Test.YtbojljpldcijgaaGreatH16
import Derived.Test.YtbojljpldcijgaaGreatH17
import Derived.Test.YtbojljpldcijgaaGreatH18
import Derived.Test.YtbojljpldcijgaaGreatH21
import Derived.Test.YtbojljpldcijgaaGreatH22
import Derived.Test.YtbojljpldcijgaaGreatH23
import Derived.Test.YtbojljpldcijgaaGreatH24
import Derived.Test.YtbojljpldcijgaaGreatH25
import Derived.Test.YtbojljpldcijgaaGreatH26
import Derived.Test.YtbojljpldcijgaaGreatH27
import Derived.Test.YtbojljpldcijgaaGreatK01
import Derived.Test.YtbojljpldcijgaaGreatK02
import Derived.Test.YtbojljpldcijgaaGreatK03
namespace Go.Proofs.YtbojljpldcijgaaGreat
open Go.RowKit Hb
set_option maxRecDepth 100000
set_option linter.unusedSimpArgs false
attribute [local go_sem] Oper.semAt_some
set_option maxHeartbeats 6400000 in
theorem law_priorities (a b c d:Int) (w:World) (ha:0≤a∧a≤65535) (hb:0≤b∧b≤65535) (hc:0≤c∧c≤65535) (hd:0≤d∧d≤65535):Calls Tryz.prog 10 #[.int .u16 a,.int .u16 b,.int .u16 c,.int .u16 d] w fun e w'=>e=.returned (.bool true)∧Below w.heap.size w w':=by
 have HAW:=Lib.hid (fun W (_:Below w.heap.size w W)=>l_awake W)
 have HLA:=Lib.hid (fun s W=>l_a s W)
 have HLX:=Lib.hid (fun n W=>l_x n W)
 have HLF:=Lib.hid (fun s A n c W=>l_f s A n c W)
 obtain ⟨mt,et,ht⟩:=rem_in (n:=3) ha (by decide) 1 (by decide)
 obtain ⟨nt,eu,hu⟩:=rem_in (n:=3) hb (by decide) 1 (by decide)
 obtain ⟨qt,ev,hv⟩:=rem_in (n:=2) ha (by decide) 4 (by decide)
 obtain ⟨mp,ep,hp⟩:=rem_in (n:=1200) hc (by decide) 1 (by decide)
 obtain ⟨np,eq,hq⟩:=rem_in (n:=1200) hd (by decide) 1 (by decide)
 have hT2:=tri_new (o:=⟨nMM,mt,mp⟩) (p:=⟨nNN,nt,np⟩) (q:=⟨nQQ,qt,mp⟩) ⟨ht.1,by show mt≤7;omega⟩ ⟨hp.1,by show mp≤1200;omega⟩ nm_mm ⟨hu.1,by show nt≤7;omega⟩ ⟨hq.1,by show np≤1200;omega⟩ nm_nn ⟨by show 1≤qt;omega,by show qt≤7;omega⟩ ⟨hp.1,by show mp≤1200;omega⟩ nm_qq no_mm no_nn no_qq ne_nm ne_qm ne_qn
 obtain ⟨P,HP⟩:∃P,Hid (P=newL (newL (newL defL ⟨nMM,mt,mp⟩) ⟨nNN,nt,np⟩) ⟨nQQ,qt,mp⟩):=⟨_,Lib.hid rfl⟩
 rw [←HP.out] at hT2
 have HT2:=Lib.hid hT2
 have HLT:=Lib.hid (fun hl=>prio_lt hT2 ⟨ht.1,by omega⟩ ⟨hu.1,by omega⟩ ⟨hv.1,by omega⟩ ⟨hp.1,by omega⟩ ⟨hq.1,by omega⟩ hl)
 have HGT:=Lib.hid (fun hl=>prio_gt hT2 ⟨ht.1,by omega⟩ ⟨hu.1,by omega⟩ ⟨hv.1,by omega⟩ ⟨hp.1,by omega⟩ ⟨hq.1,by omega⟩ hl)
 have HB1:Hid (Below w.heap.size w (w.alloc (.cells #[.string ⟨#[109,109]⟩,.int .i64 mt,.int .i64 mp,.string ⟨#[110,110]⟩,.int .i64 nt,.int .i64 np,.string ⟨#[113,113]⟩,.int .i64 qt,.int .i64 mp] 61))):=Lib.hid ((Below.refl _ _).alloc (Nat.le_refl _) _)
 have HWI:Hid (Calls Tryz.prog 29 #[.slice (some ⟨w.heap.size,0,none⟩) 3 3] (w.alloc (.cells #[.string ⟨#[109,109]⟩,.int .i64 mt,.int .i64 mp,.string ⟨#[110,110]⟩,.int .i64 nt,.int .i64 np,.string ⟨#[113,113]⟩,.int .i64 qt,.int .i64 mp] 61)) fun e w'=>∃A' n' c',e=.returned (.tuple #[.agg #[.slice A' n' c',.int .i64 1,.int .i64 1,.bool false,.bool false,.slice none 0 0],.bool true])∧Below (w.alloc (.cells #[.string ⟨#[109,109]⟩,.int .i64 mt,.int .i64 mp,.string ⟨#[110,110]⟩,.int .i64 nt,.int .i64 np,.string ⟨#[113,113]⟩,.int .i64 qt,.int .i64 mp] 61)).heap.size (w.alloc (.cells #[.string ⟨#[109,109]⟩,.int .i64 mt,.int .i64 mp,.string ⟨#[110,110]⟩,.int .i64 nt,.int .i64 np,.string ⟨#[113,113]⟩,.int .i64 qt,.int .i64 mp] 61)) w'∧Tab w' A' n' c' P):=Lib.hid (by
  have h:=l_with (some ⟨w.heap.size,0,none⟩) 3 3 [⟨nMM,mt,mp⟩,⟨nNN,nt,np⟩,⟨nQQ,qt,mp⟩] (w.alloc (.cells #[.string ⟨#[109,109]⟩,.int .i64 mt,.int .i64 mp,.string ⟨#[110,110]⟩,.int .i64 nt,.int .i64 np,.string ⟨#[113,113]⟩,.int .i64 qt,.int .i64 mp] 61)) rfl (by decide) (ops_bk (Bk.new w [.string ⟨#[109,109]⟩,.int .i64 mt,.int .i64 mp,.string ⟨#[110,110]⟩,.int .i64 nt,.int .i64 np,.string ⟨#[113,113]⟩,.int .i64 qt,.int .i64 mp] 61))
  rw [HT2.out.with_] at h
  exact h)
 have HET:=Lib.hid et
 have HEU:=Lib.hid eu
 have HEV:=Lib.hid ev
 have HEP:=Lib.hid ep
 have HEQ:=Lib.hid eq
 clear et eu ev ep eq ht hu hv hp hq hT2 HP HT2 ha hb hc hd
 go_enter Tryz.func10,Tryz.ntmps10
 go_wp2_with fail
 rw [HET.out,HEU.out,HEV.out,HEP.out,HEQ.out]
 refine HWI.out.mono ?_;rintro e w2 ⟨A1,n1,c1,rfl,hB,hT⟩
 have HB2:=Lib.hid (HB1.out.trans (hB.mono HB1.out.size))
 have HTB:=Lib.hid hT
 clear hB hT HB1 HWI HET HEP HEU HEQ HEV
 obtain ⟨w3,HW3⟩:∃x,Hid (x=w2.alloc (.cells #[.slice A1 n1 c1,.int .i64 1,.int .i64 1,.bool false,.bool false,.slice none 0 0] 27)):=⟨_,Lib.hid rfl⟩
 obtain ⟨g3,HG3⟩:∃x,Hid (x=w2.heap.size):=⟨_,Lib.hid rfl⟩
 have hB3:Below w2.heap.size w2 w3:=by rw [HW3.out];exact (Below.refl _ _).alloc (Nat.le_refl _) _
 have HK3:Hid (Bk w3 g3 [.slice A1 n1 c1,.int .i64 1,.int .i64 1,.bool false,.bool false,.slice none 0 0]):=Lib.hid (by rw [HW3.out,HG3.out];exact Bk.new w2 [.slice A1 n1 c1,.int .i64 1,.int .i64 1,.bool false,.bool false,.slice none 0 0] 27)
 have HB3:=Lib.hid (HB2.out.trans (hB3.mono HB2.out.size))
 have HT3:=Lib.hid (HTB.out.below hB3)
 go_upto_region 3 with fail
 rw [←HW3.out,←HG3.out]
 clear hB3 HB2 HTB HW3 HG3
 by_cases he:mp=np
 ·have e1:(mp==np)=true:=by simpa using he
  clear HLT HGT
  go_wp2_with fail
  refine (HAW.out _ HB3.out).mono ?_;rintro e w9 ⟨rfl,hB⟩
  have HBZ:=Lib.hid (HB3.out.trans (hB.mono HB3.out.size))
  clear hB HB3
  go_wp2_with fail
  go_ret
  exact ⟨rfl,HBZ.out⟩
 have e1:(mp==np)=false:=by simpa using he
 by_cases hl:mp<np
 ·have HLL:=Lib.hid hl
  clear HGT
  go_upto_region 8 with fail
  rename_i K9 hK9
  refine region_own (w0:=w3) [rVal [] [0] (fun|[v]=>v=.agg #[.slice A1 n1 c1,.int .i64 1,.int .i64 1,.bool false,.bool false,.slice none 0 0]|_=>False),
   rVal [] [1] (fun|[v]=>v=.agg #[.int .i64 2,.int .i64 0,.string ⟨#[97]⟩,.slice none 0 0]|_=>False),
   rVal [1] [2] (fun|[v]=>v=.agg #[.int .i64 2,.int .i64 0,.string ⟨#[98]⟩,.slice none 0 0]|_=>False),
   rRow [1,2] 3 2 [atomT ⟨#[97]⟩,atomT ⟨#[98]⟩],
   rGoal [1,2,3] 4 ⟨#[109,109]⟩ 2 [atomT ⟨#[97]⟩,atomT ⟨#[98]⟩],
   rVal [1,2,3,4] [5] (fun|[v]=>v=.agg #[.int .i64 2,.int .i64 0,.string ⟨#[99]⟩,.slice none 0 0]|_=>False),
   rRow [1,2,3,4,5] 6 2 [strT ⟨#[109,109]⟩ [atomT ⟨#[97]⟩,atomT ⟨#[98]⟩],atomT ⟨#[99]⟩],
   rGoal [1,2,3,4,5,6] 7 ⟨#[110,110]⟩ 2 [strT ⟨#[109,109]⟩ [atomT ⟨#[97]⟩,atomT ⟨#[98]⟩],atomT ⟨#[99]⟩],
   rVal (List.range 8) [8] (fun|[v]=>v=.bool true|_=>False),
   rPure (List.range 9) [9] (fun|[v]=>v=.bool true|_=>False),
   rVal (List.range 10) [10] (fun|[v]=>v=.agg #[.slice A1 n1 c1,.int .i64 1,.int .i64 1,.bool false,.bool false,.slice none 0 0]|_=>False),
   rVal (List.range 10) [11] (fun|[v]=>v=.agg #[.int .i64 2,.int .i64 0,.string ⟨#[97]⟩,.slice none 0 0]|_=>False),
   rVal [0,1,2,3,4,5,6,7,8,9,11] [12] (fun|[v]=>v=.agg #[.int .i64 2,.int .i64 0,.string ⟨#[98]⟩,.slice none 0 0]|_=>False),
   rVal [0,1,2,3,4,5,6,7,8,9,11,12] [13] (fun|[v]=>v=.agg #[.int .i64 2,.int .i64 0,.string ⟨#[99]⟩,.slice none 0 0]|_=>False),
   rRow [0,1,2,3,4,5,6,7,8,9,11,12,13] 14 2 [atomT ⟨#[98]⟩,atomT ⟨#[99]⟩],
   rGoal [0,1,2,3,4,5,6,7,8,9,11,12,13,14] 15 ⟨#[109,109]⟩ 2 [atomT ⟨#[98]⟩,atomT ⟨#[99]⟩],
   rRow [0,1,2,3,4,5,6,7,8,9,11,12,13,14,15] 16 2 [atomT ⟨#[97]⟩,strT ⟨#[109,109]⟩ [atomT ⟨#[98]⟩,atomT ⟨#[99]⟩]],
   rGoal [0,1,2,3,4,5,6,7,8,9,11,12,13,14,15,16] 17 ⟨#[110,110]⟩ 2 [atomT ⟨#[97]⟩,strT ⟨#[109,109]⟩ [atomT ⟨#[98]⟩,atomT ⟨#[99]⟩]],
   rVal (List.range 18) [18] (fun|[v]=>v=.bool true|_=>False),
   rPure (List.range 19) [19] (fun|[v]=>v=.bool true|_=>False),
   rPure (List.range 20) [20] (fun|[v]=>v=.bool true|_=>False),
   rVal (List.range 21) [21] (fun|[v]=>v=.agg #[.slice A1 n1 c1,.int .i64 1,.int .i64 1,.bool false,.bool false,.slice none 0 0]|_=>False),
   rVal (List.range 21) [22] (fun|[v]=>v=.agg #[.int .i64 2,.int .i64 0,.string ⟨#[97]⟩,.slice none 0 0]|_=>False),
   rRow [0,1,2,3,4,5,6,7,8,9,10,11,12,13,14,15,16,17,18,19,20,22] 23 1 [atomT ⟨#[97]⟩],
   rGoal [0,1,2,3,4,5,6,7,8,9,10,11,12,13,14,15,16,17,18,19,20,22,23] 24 ⟨#[113,113]⟩ 1 [atomT ⟨#[97]⟩],
   rVal [0,1,2,3,4,5,6,7,8,9,10,11,12,13,14,15,16,17,18,19,20,22,23,24] [25] (fun|[v]=>v=.agg #[.int .i64 2,.int .i64 0,.string ⟨#[98]⟩,.slice none 0 0]|_=>False),
   rRow [0,1,2,3,4,5,6,7,8,9,10,11,12,13,14,15,16,17,18,19,20,22,23,24,25] 26 2 [strT ⟨#[113,113]⟩ [atomT ⟨#[97]⟩],atomT ⟨#[98]⟩],
   rGoal [0,1,2,3,4,5,6,7,8,9,10,11,12,13,14,15,16,17,18,19,20,22,23,24,25,26] 27 ⟨#[110,110]⟩ 2 [strT ⟨#[113,113]⟩ [atomT ⟨#[97]⟩],atomT ⟨#[98]⟩],
   rVal (List.range 28) [28] (fun|[v]=>v=.bool true|_=>False),
   rPure (List.range 29) [29] (fun|[v]=>v=.bool true|_=>False),
   rPure (List.range 30) [30] (fun|[v]=>v=.bool true|_=>False),
   rVal (List.range 31) [31] (fun|[v]=>v=.bool true|_=>False),
   rPure (List.range 32) [32] (fun|[v]=>v=.bool true|_=>False),
   rPure (List.range 33) [33] (fun|[v]=>v=.bool true|_=>False)]
   [some 53,some 54,some 55,some 56,some 57,some 58,some 59,some 60,some 61,some 62,some 63,some 64,some 65,some 66,some 67,some 68,some 69,some 70,some 71,some 72,some 73,some 74,some 75,some 76,some 77,some 78,some 79,some 80,some 81,some 82,some 83,some 84,some 85,some 8] (fun _=>True) (w3.heap.size) (by kernel_rfl) (Nat.le_refl _) (by kernel_rfl) (by kernel_rfl) (by kernel_rfl) (fun j o ho=>?srva) (fun val Y N hv HF=>?fina)
  case srva=>
   have hlt:j<34:=(Array.getElem?_eq_some_iff.1 ho).1
   rcases (show j=0∨j=1∨j=2∨j=3∨j=4∨j=5∨j=6∨j=7∨j=8∨j=9∨j=10∨j=11∨j=12∨j=13∨j=14∨j=15∨j=16∨j=17∨j=18∨j=19∨j=20∨j=21∨j=22∨j=23∨j=24∨j=25∨j=26∨j=27∨j=28∨j=29∨j=30∨j=31∨j=32∨j=33 by omega) with rfl|rfl|rfl|rfl|rfl|rfl|rfl|rfl|rfl|rfl|rfl|rfl|rfl|rfl|rfl|rfl|rfl|rfl|rfl|rfl|rfl|rfl|rfl|rfl|rfl|rfl|rfl|rfl|rfl|rfl|rfl|rfl|rfl|rfl
   ·cases ho
    refine srv_val rfl rfl (fun _ _ _=>trivial) (fun val E X hE hB hA=>?_)
    have e11:E (.tmp 11)=.pointer (some ⟨g3,0,none⟩):=by rw [hE.eq];rfl
    have hk0:=(HK3.out.call hB).c 0 _ rfl
    have hk1:=(HK3.out.call hB).c 1 _ rfl
    have hk2:=(HK3.out.call hB).c 2 _ rfl
    have hk3:=(HK3.out.call hB).c 3 _ rfl
    have hk4:=(HK3.out.call hB).c 4 _ rfl
    have hk5:=(HK3.out.call hB).c 5 _ rfl
    exact ⟨.agg #[.slice A1 n1 c1,.int .i64 1,.int .i64 1,.bool false,.bool false,.slice none 0 0],by simp [execOp,go_sem,e11,hk0,hk1,hk2,hk3,hk4,hk5],rfl⟩
   ·cases ho
    refine srv_calV rfl rfl (fun _ _ _=>trivial) (fun val E X hE hB hA=>?_)
    exact ⟨_,_,_,by simp [execOp,go_sem,hE.c,hE.f] <;> rfl,HLA.out ⟨#[97]⟩ X,rfl⟩
   ·cases ho
    refine srv_calV rfl rfl (fun _ _ _=>trivial) (fun val E X hE hB hA=>?_)
    exact ⟨_,_,_,by simp [execOp,go_sem,hE.c,hE.f] <;> rfl,HLA.out ⟨#[98]⟩ X,rfl⟩
   ·cases ho
    refine srv_mk rfl rfl fun val E X N hE hC hA hc=>?_
    have e54:E (.tmp 54)=val 1:=by rw [hE.eq];rfl
    have h1:val 1=.agg #[.int .i64 2,.int .i64 0,.string ⟨#[97]⟩,.slice none 0 0]:=hA 1 (of_decide_eq_true rfl)
    have e55:E (.tmp 55)=val 2:=by rw [hE.eq];rfl
    have h2:val 2=.agg #[.int .i64 2,.int .i64 0,.string ⟨#[98]⟩,.slice none 0 0]:=hA 2 (of_decide_eq_true rfl)
    exact ⟨.slice (some ⟨X.heap.size,0,none⟩) 2 2,X.alloc (.cells #[.int .i64 2,.int .i64 0,.string ⟨#[97]⟩,.slice none 0 0,.int .i64 2,.int .i64 0,.string ⟨#[98]⟩,.slice none 0 0] 30),by simp [execOp,go_sem,e54,h1,e55,h2],(Below.refl _ _).alloc (Nat.le_refl _) _,⟨_,rfl⟩,fun N' h1 h2=>⟨_,rfl,TmsK.rows (K:=N') (w:=X) (rs:=[(atomT ⟨#[97]⟩,none,0),(atomT ⟨#[98]⟩,none,0)]) (e:=30) (h2 _ (Nat.le_refl _) (by simp)) (by simp [maxLen]) (fun x hx=>by
     simp only [List.mem_cons,List.mem_nil_iff,or_false] at hx
     rcases hx with rfl|rfl
     ·exact TmsK.nil
     ·exact TmsK.nil)⟩⟩
   ·cases ho
    refine srv_cal rfl rfl fun val E X N hE hC hA hc=>?_
    obtain ⟨g3,h3,ht3⟩:∃g,val 3=.slice (some ⟨g,0,none⟩) 2 2∧TmsK N X (some ⟨g,0,none⟩) [atomT ⟨#[97]⟩,atomT ⟨#[98]⟩]:=hc 3 (of_decide_eq_true rfl) rfl
    have e56:E (.tmp 56)=val 3:=by rw [hE.eq];rfl
    exact ⟨_,_,by simp [execOp,go_sem,hE.c,hE.f,e56,h3] <;> rfl,(HLF.out ⟨#[109,109]⟩ _ _ _ X).mono fun e w' h=>⟨_,h.1,h.2,⟨g3,rfl⟩,fun N' h1 _=>⟨g3,rfl,row_stab ht3 (fun b hb=>h.2.block b (hC.lt b hb)) h1⟩⟩⟩
   ·cases ho
    refine srv_calV rfl rfl (fun _ _ _=>trivial) (fun val E X hE hB hA=>?_)
    exact ⟨_,_,_,by simp [execOp,go_sem,hE.c,hE.f] <;> rfl,HLA.out ⟨#[99]⟩ X,rfl⟩
   ·cases ho
    refine srv_mk rfl rfl fun val E X N hE hC hA hc=>?_
    have e57:E (.tmp 57)=val 4:=by rw [hE.eq];rfl
    obtain ⟨g4,h4,ht4⟩:∃g,val 4=.agg #[.int .i64 3,.int .i64 0,.string ⟨#[109,109]⟩,.slice (some ⟨g,0,none⟩) 2 2]∧TmsK N X (some ⟨g,0,none⟩) [atomT ⟨#[97]⟩,atomT ⟨#[98]⟩]:=hc 4 (of_decide_eq_true rfl) rfl
    have e58:E (.tmp 58)=val 5:=by rw [hE.eq];rfl
    have h5:val 5=.agg #[.int .i64 2,.int .i64 0,.string ⟨#[99]⟩,.slice none 0 0]:=hA 5 (of_decide_eq_true rfl)
    exact ⟨.slice (some ⟨X.heap.size,0,none⟩) 2 2,X.alloc (.cells #[.int .i64 3,.int .i64 0,.string ⟨#[109,109]⟩,.slice (some ⟨g4,0,none⟩) 2 2,.int .i64 2,.int .i64 0,.string ⟨#[99]⟩,.slice none 0 0] 30),by simp [execOp,go_sem,e57,h4,e58,h5],(Below.refl _ _).alloc (Nat.le_refl _) _,⟨_,rfl⟩,fun N' h1 h2=>⟨_,rfl,TmsK.rows (K:=N') (w:=X) (rs:=[(strT ⟨#[109,109]⟩ [atomT ⟨#[97]⟩,atomT ⟨#[98]⟩],some ⟨g4,0,none⟩,2),(atomT ⟨#[99]⟩,none,0)]) (e:=30) (h2 _ (Nat.le_refl _) (by simp)) (by simp [maxLen]) (fun x hx=>by
     simp only [List.mem_cons,List.mem_nil_iff,or_false] at hx
     rcases hx with rfl|rfl
     ·exact row_stab ht4 (fun b hb=>((Below.refl X.heap.size X).alloc (Nat.le_refl _) _).block b (hC.lt b hb)) h1
     ·exact TmsK.nil)⟩⟩
   ·cases ho
    refine srv_cal rfl rfl fun val E X N hE hC hA hc=>?_
    obtain ⟨g6,h6,ht6⟩:∃g,val 6=.slice (some ⟨g,0,none⟩) 2 2∧TmsK N X (some ⟨g,0,none⟩) [strT ⟨#[109,109]⟩ [atomT ⟨#[97]⟩,atomT ⟨#[98]⟩],atomT ⟨#[99]⟩]:=hc 6 (of_decide_eq_true rfl) rfl
    have e59:E (.tmp 59)=val 6:=by rw [hE.eq];rfl
    exact ⟨_,_,by simp [execOp,go_sem,hE.c,hE.f,e59,h6] <;> rfl,(HLF.out ⟨#[110,110]⟩ _ _ _ X).mono fun e w' h=>⟨_,h.1,h.2,⟨g6,rfl⟩,fun N' h1 _=>⟨g6,rfl,row_stab ht6 (fun b hb=>h.2.block b (hC.lt b hb)) h1⟩⟩⟩
   ·cases ho
    refine srv_cal rfl rfl fun val E X N hE hC hA hc=>?_
    have h0:val 0=.agg #[.slice A1 n1 c1,.int .i64 1,.int .i64 1,.bool false,.bool false,.slice none 0 0]:=hA 0 (of_decide_eq_true rfl)
    have e53:E (.tmp 53)=val 0:=by rw [hE.eq];rfl
    obtain ⟨g7,h7,ht7⟩:∃g,val 7=.agg #[.int .i64 3,.int .i64 0,.string ⟨#[110,110]⟩,.slice (some ⟨g,0,none⟩) 2 2]∧TmsK N X (some ⟨g,0,none⟩) [strT ⟨#[109,109]⟩ [atomT ⟨#[97]⟩,atomT ⟨#[98]⟩],atomT ⟨#[99]⟩]:=hc 7 (of_decide_eq_true rfl) rfl
    have e60:E (.tmp 60)=val 7:=by rw [hE.eq];rfl
    have h:=l_is ⟨#[97,32,109,109,32,98,32,110,110,32,99,46]⟩ A1 n1 c1 1 1 false false none 0 0 (strT ⟨#[110,110]⟩ [strT ⟨#[109,109]⟩ [atomT ⟨#[97]⟩,atomT ⟨#[98]⟩],atomT ⟨#[99]⟩]) (some ⟨g7,0,none⟩) 2 (-1) P [] X (HT3.out.below hC.bel) rfl (Nat.zero_le _) (Pairs.nil _ _) (by decide) (TmsK.at' ht7)
    rw [show isR (⟨#[97,32,109,109,32,98,32,110,110,32,99,46]⟩:ByteArray).data.toList ⟨P,1,1,false,false,[]⟩ (strT ⟨#[110,110]⟩ [strT ⟨#[109,109]⟩ [atomT ⟨#[97]⟩,atomT ⟨#[98]⟩],atomT ⟨#[99]⟩]) (-1)=true from (HLT.out HLL.out).1] at h
    exact ⟨_,_,by simp [execOp,go_sem,hE.c,hE.f,e53,h0,e60,h7] <;> first | rfl | exact ⟨rfl,rfl⟩ | exact ⟨rfl,rfl,rfl⟩ | exact ⟨rfl,rfl,rfl,rfl⟩,h.mono fun e w' h=>⟨_,h.1,h.2,rfl,fun _ _ _=>trivial⟩⟩
   ·cases ho
    refine srv_pure rfl rfl (fun val E hE hA=>?_)
    have e61:E (.tmp 61)=val 8:=by rw [hE.eq];rfl
    have h8:val 8=.bool true:=hA 8 (of_decide_eq_true rfl)
    exact ⟨.bool true,fun X=>by simp [execOp,go_sem,e61,h8],rfl⟩
   ·cases ho
    refine srv_valG (true) rfl rfl (fun _ _ _=>trivial) (fun val hA=>hA 9 (of_decide_eq_true rfl)) (fun _ val E X hE hB hA=>?_) (fun h=>absurd rfl h)
    have e11:E (.tmp 11)=.pointer (some ⟨g3,0,none⟩):=by rw [hE.eq];rfl
    have hk0:=(HK3.out.call hB).c 0 _ rfl
    have hk1:=(HK3.out.call hB).c 1 _ rfl
    have hk2:=(HK3.out.call hB).c 2 _ rfl
    have hk3:=(HK3.out.call hB).c 3 _ rfl
    have hk4:=(HK3.out.call hB).c 4 _ rfl
    have hk5:=(HK3.out.call hB).c 5 _ rfl
    exact ⟨.agg #[.slice A1 n1 c1,.int .i64 1,.int .i64 1,.bool false,.bool false,.slice none 0 0],by simp [execOp,go_sem,e11,hk0,hk1,hk2,hk3,hk4,hk5],rfl⟩
   ·cases ho
    refine srv_calVG (true) rfl rfl (fun _ _ _=>trivial) (fun val hA=>hA 9 (of_decide_eq_true rfl)) (fun _ val E X hE hB hA=>?_) (fun h=>absurd rfl h)
    exact ⟨_,_,_,by simp [execOp,go_sem,hE.c,hE.f] <;> rfl,HLA.out ⟨#[97]⟩ X,rfl⟩
   ·cases ho
    refine srv_calVG (true) rfl rfl (fun _ _ _=>trivial) (fun val hA=>hA 9 (of_decide_eq_true rfl)) (fun _ val E X hE hB hA=>?_) (fun h=>absurd rfl h)
    exact ⟨_,_,_,by simp [execOp,go_sem,hE.c,hE.f] <;> rfl,HLA.out ⟨#[98]⟩ X,rfl⟩
   ·cases ho
    refine srv_calVG (true) rfl rfl (fun _ _ _=>trivial) (fun val hA=>hA 9 (of_decide_eq_true rfl)) (fun _ val E X hE hB hA=>?_) (fun h=>absurd rfl h)
    exact ⟨_,_,_,by simp [execOp,go_sem,hE.c,hE.f] <;> rfl,HLA.out ⟨#[99]⟩ X,rfl⟩
   ·cases ho
    refine srv_mkG rfl rfl (fun val hA=>hA 9 (of_decide_eq_true rfl)) fun val E X N hE hC hA hc=>?_
    have e65:E (.tmp 65)=val 12:=by rw [hE.eq];rfl
    have h12:val 12=.agg #[.int .i64 2,.int .i64 0,.string ⟨#[98]⟩,.slice none 0 0]:=hA 12 (of_decide_eq_true rfl)
    have e66:E (.tmp 66)=val 13:=by rw [hE.eq];rfl
    have h13:val 13=.agg #[.int .i64 2,.int .i64 0,.string ⟨#[99]⟩,.slice none 0 0]:=hA 13 (of_decide_eq_true rfl)
    exact ⟨.slice (some ⟨X.heap.size,0,none⟩) 2 2,X.alloc (.cells #[.int .i64 2,.int .i64 0,.string ⟨#[98]⟩,.slice none 0 0,.int .i64 2,.int .i64 0,.string ⟨#[99]⟩,.slice none 0 0] 30),by simp [execOp,go_sem,e65,h12,e66,h13],(Below.refl _ _).alloc (Nat.le_refl _) _,⟨_,rfl⟩,fun N' h1 h2=>⟨_,rfl,TmsK.rows (K:=N') (w:=X) (rs:=[(atomT ⟨#[98]⟩,none,0),(atomT ⟨#[99]⟩,none,0)]) (e:=30) (h2 _ (Nat.le_refl _) (by simp)) (by simp [maxLen]) (fun x hx=>by
     simp only [List.mem_cons,List.mem_nil_iff,or_false] at hx
     rcases hx with rfl|rfl
     ·exact TmsK.nil
     ·exact TmsK.nil)⟩⟩
   ·cases ho
    refine srv_calG rfl rfl (fun val hA=>hA 9 (of_decide_eq_true rfl)) fun val E X N hE hC hA hc=>?_
    obtain ⟨g14,h14,ht14⟩:∃g,val 14=.slice (some ⟨g,0,none⟩) 2 2∧TmsK N X (some ⟨g,0,none⟩) [atomT ⟨#[98]⟩,atomT ⟨#[99]⟩]:=hc 14 (of_decide_eq_true rfl) rfl
    have e67:E (.tmp 67)=val 14:=by rw [hE.eq];rfl
    exact ⟨_,_,by simp [execOp,go_sem,hE.c,hE.f,e67,h14] <;> rfl,(HLF.out ⟨#[109,109]⟩ _ _ _ X).mono fun e w' h=>⟨_,h.1,h.2,⟨g14,rfl⟩,fun N' h1 _=>⟨g14,rfl,row_stab ht14 (fun b hb=>h.2.block b (hC.lt b hb)) h1⟩⟩⟩
   ·cases ho
    refine srv_mkG rfl rfl (fun val hA=>hA 9 (of_decide_eq_true rfl)) fun val E X N hE hC hA hc=>?_
    have e64:E (.tmp 64)=val 11:=by rw [hE.eq];rfl
    have h11:val 11=.agg #[.int .i64 2,.int .i64 0,.string ⟨#[97]⟩,.slice none 0 0]:=hA 11 (of_decide_eq_true rfl)
    have e68:E (.tmp 68)=val 15:=by rw [hE.eq];rfl
    obtain ⟨g15,h15,ht15⟩:∃g,val 15=.agg #[.int .i64 3,.int .i64 0,.string ⟨#[109,109]⟩,.slice (some ⟨g,0,none⟩) 2 2]∧TmsK N X (some ⟨g,0,none⟩) [atomT ⟨#[98]⟩,atomT ⟨#[99]⟩]:=hc 15 (of_decide_eq_true rfl) rfl
    exact ⟨.slice (some ⟨X.heap.size,0,none⟩) 2 2,X.alloc (.cells #[.int .i64 2,.int .i64 0,.string ⟨#[97]⟩,.slice none 0 0,.int .i64 3,.int .i64 0,.string ⟨#[109,109]⟩,.slice (some ⟨g15,0,none⟩) 2 2] 30),by simp [execOp,go_sem,e64,h11,e68,h15],(Below.refl _ _).alloc (Nat.le_refl _) _,⟨_,rfl⟩,fun N' h1 h2=>⟨_,rfl,TmsK.rows (K:=N') (w:=X) (rs:=[(atomT ⟨#[97]⟩,none,0),(strT ⟨#[109,109]⟩ [atomT ⟨#[98]⟩,atomT ⟨#[99]⟩],some ⟨g15,0,none⟩,2)]) (e:=30) (h2 _ (Nat.le_refl _) (by simp)) (by simp [maxLen]) (fun x hx=>by
     simp only [List.mem_cons,List.mem_nil_iff,or_false] at hx
     rcases hx with rfl|rfl
     ·exact TmsK.nil
     ·exact row_stab ht15 (fun b hb=>((Below.refl X.heap.size X).alloc (Nat.le_refl _) _).block b (hC.lt b hb)) h1)⟩⟩
   ·cases ho
    refine srv_calG rfl rfl (fun val hA=>hA 9 (of_decide_eq_true rfl)) fun val E X N hE hC hA hc=>?_
    obtain ⟨g16,h16,ht16⟩:∃g,val 16=.slice (some ⟨g,0,none⟩) 2 2∧TmsK N X (some ⟨g,0,none⟩) [atomT ⟨#[97]⟩,strT ⟨#[109,109]⟩ [atomT ⟨#[98]⟩,atomT ⟨#[99]⟩]]:=hc 16 (of_decide_eq_true rfl) rfl
    have e69:E (.tmp 69)=val 16:=by rw [hE.eq];rfl
    exact ⟨_,_,by simp [execOp,go_sem,hE.c,hE.f,e69,h16] <;> rfl,(HLF.out ⟨#[110,110]⟩ _ _ _ X).mono fun e w' h=>⟨_,h.1,h.2,⟨g16,rfl⟩,fun N' h1 _=>⟨g16,rfl,row_stab ht16 (fun b hb=>h.2.block b (hC.lt b hb)) h1⟩⟩⟩
   ·cases ho
    refine srv_calG rfl rfl (fun val hA=>hA 9 (of_decide_eq_true rfl)) fun val E X N hE hC hA hc=>?_
    have h10:val 10=.agg #[.slice A1 n1 c1,.int .i64 1,.int .i64 1,.bool false,.bool false,.slice none 0 0]:=hA 10 (of_decide_eq_true rfl)
    have e63:E (.tmp 63)=val 10:=by rw [hE.eq];rfl
    obtain ⟨g17,h17,ht17⟩:∃g,val 17=.agg #[.int .i64 3,.int .i64 0,.string ⟨#[110,110]⟩,.slice (some ⟨g,0,none⟩) 2 2]∧TmsK N X (some ⟨g,0,none⟩) [atomT ⟨#[97]⟩,strT ⟨#[109,109]⟩ [atomT ⟨#[98]⟩,atomT ⟨#[99]⟩]]:=hc 17 (of_decide_eq_true rfl) rfl
    have e70:E (.tmp 70)=val 17:=by rw [hE.eq];rfl
    have h:=l_is ⟨#[97,32,110,110,32,98,32,109,109,32,99,46]⟩ A1 n1 c1 1 1 false false none 0 0 (strT ⟨#[110,110]⟩ [atomT ⟨#[97]⟩,strT ⟨#[109,109]⟩ [atomT ⟨#[98]⟩,atomT ⟨#[99]⟩]]) (some ⟨g17,0,none⟩) 2 (-1) P [] X (HT3.out.below hC.bel) rfl (Nat.zero_le _) (Pairs.nil _ _) (by decide) (TmsK.at' ht17)
    rw [show isR (⟨#[97,32,110,110,32,98,32,109,109,32,99,46]⟩:ByteArray).data.toList ⟨P,1,1,false,false,[]⟩ (strT ⟨#[110,110]⟩ [atomT ⟨#[97]⟩,strT ⟨#[109,109]⟩ [atomT ⟨#[98]⟩,atomT ⟨#[99]⟩]]) (-1)=true from (HLT.out HLL.out).2.1] at h
    exact ⟨_,_,by simp [execOp,go_sem,hE.c,hE.f,e63,h10,e70,h17] <;> first | rfl | exact ⟨rfl,rfl⟩ | exact ⟨rfl,rfl,rfl⟩ | exact ⟨rfl,rfl,rfl,rfl⟩,h.mono fun e w' h=>⟨_,h.1,h.2,rfl,fun _ _ _=>trivial⟩⟩
   ·cases ho
    refine srv_pure rfl rfl (fun val E hE hA=>?_)
    have e62:E (.tmp 62)=val 9:=by rw [hE.eq];rfl
    have h9:val 9=.bool true:=hA 9 (of_decide_eq_true rfl)
    have e71:E (.tmp 71)=val 18:=by rw [hE.eq];rfl
    have h18:val 18=.bool true:=hA 18 (of_decide_eq_true rfl)
    exact ⟨.bool true,fun X=>by simp [execOp,go_sem,hE.c,e62,h9,e71,h18],rfl⟩
   ·cases ho
    refine srv_pure rfl rfl (fun val E hE hA=>?_)
    have e72:E (.tmp 72)=val 19:=by rw [hE.eq];rfl
    have h19:val 19=.bool true:=hA 19 (of_decide_eq_true rfl)
    exact ⟨.bool true,fun X=>by simp [execOp,go_sem,e72,h19],rfl⟩
   ·cases ho
    refine srv_valG (true) rfl rfl (fun _ _ _=>trivial) (fun val hA=>hA 20 (of_decide_eq_true rfl)) (fun _ val E X hE hB hA=>?_) (fun h=>absurd rfl h)
    have e11:E (.tmp 11)=.pointer (some ⟨g3,0,none⟩):=by rw [hE.eq];rfl
    have hk0:=(HK3.out.call hB).c 0 _ rfl
    have hk1:=(HK3.out.call hB).c 1 _ rfl
    have hk2:=(HK3.out.call hB).c 2 _ rfl
    have hk3:=(HK3.out.call hB).c 3 _ rfl
    have hk4:=(HK3.out.call hB).c 4 _ rfl
    have hk5:=(HK3.out.call hB).c 5 _ rfl
    exact ⟨.agg #[.slice A1 n1 c1,.int .i64 1,.int .i64 1,.bool false,.bool false,.slice none 0 0],by simp [execOp,go_sem,e11,hk0,hk1,hk2,hk3,hk4,hk5],rfl⟩
   ·cases ho
    refine srv_calVG (true) rfl rfl (fun _ _ _=>trivial) (fun val hA=>hA 20 (of_decide_eq_true rfl)) (fun _ val E X hE hB hA=>?_) (fun h=>absurd rfl h)
    exact ⟨_,_,_,by simp [execOp,go_sem,hE.c,hE.f] <;> rfl,HLA.out ⟨#[97]⟩ X,rfl⟩
   ·cases ho
    refine srv_mkG rfl rfl (fun val hA=>hA 20 (of_decide_eq_true rfl)) fun val E X N hE hC hA hc=>?_
    have e75:E (.tmp 75)=val 22:=by rw [hE.eq];rfl
    have h22:val 22=.agg #[.int .i64 2,.int .i64 0,.string ⟨#[97]⟩,.slice none 0 0]:=hA 22 (of_decide_eq_true rfl)
    exact ⟨.slice (some ⟨X.heap.size,0,none⟩) 1 1,X.alloc (.cells #[.int .i64 2,.int .i64 0,.string ⟨#[97]⟩,.slice none 0 0] 30),by simp [execOp,go_sem,e75,h22],(Below.refl _ _).alloc (Nat.le_refl _) _,⟨_,rfl⟩,fun N' h1 h2=>⟨_,rfl,TmsK.rows (K:=N') (w:=X) (rs:=[(atomT ⟨#[97]⟩,none,0)]) (e:=30) (h2 _ (Nat.le_refl _) (by simp)) (by simp [maxLen]) (fun x hx=>by
     simp only [List.mem_cons,List.mem_nil_iff,or_false] at hx
     rcases hx with rfl
     ·exact TmsK.nil)⟩⟩
   ·cases ho
    refine srv_calG rfl rfl (fun val hA=>hA 20 (of_decide_eq_true rfl)) fun val E X N hE hC hA hc=>?_
    obtain ⟨g23,h23,ht23⟩:∃g,val 23=.slice (some ⟨g,0,none⟩) 1 1∧TmsK N X (some ⟨g,0,none⟩) [atomT ⟨#[97]⟩]:=hc 23 (of_decide_eq_true rfl) rfl
    have e76:E (.tmp 76)=val 23:=by rw [hE.eq];rfl
    exact ⟨_,_,by simp [execOp,go_sem,hE.c,hE.f,e76,h23] <;> rfl,(HLF.out ⟨#[113,113]⟩ _ _ _ X).mono fun e w' h=>⟨_,h.1,h.2,⟨g23,rfl⟩,fun N' h1 _=>⟨g23,rfl,row_stab ht23 (fun b hb=>h.2.block b (hC.lt b hb)) h1⟩⟩⟩
   ·cases ho
    refine srv_calVG (true) rfl rfl (fun _ _ _=>trivial) (fun val hA=>hA 20 (of_decide_eq_true rfl)) (fun _ val E X hE hB hA=>?_) (fun h=>absurd rfl h)
    exact ⟨_,_,_,by simp [execOp,go_sem,hE.c,hE.f] <;> rfl,HLA.out ⟨#[98]⟩ X,rfl⟩
   ·cases ho
    refine srv_mkG rfl rfl (fun val hA=>hA 20 (of_decide_eq_true rfl)) fun val E X N hE hC hA hc=>?_
    have e77:E (.tmp 77)=val 24:=by rw [hE.eq];rfl
    obtain ⟨g24,h24,ht24⟩:∃g,val 24=.agg #[.int .i64 3,.int .i64 0,.string ⟨#[113,113]⟩,.slice (some ⟨g,0,none⟩) 1 1]∧TmsK N X (some ⟨g,0,none⟩) [atomT ⟨#[97]⟩]:=hc 24 (of_decide_eq_true rfl) rfl
    have e78:E (.tmp 78)=val 25:=by rw [hE.eq];rfl
    have h25:val 25=.agg #[.int .i64 2,.int .i64 0,.string ⟨#[98]⟩,.slice none 0 0]:=hA 25 (of_decide_eq_true rfl)
    exact ⟨.slice (some ⟨X.heap.size,0,none⟩) 2 2,X.alloc (.cells #[.int .i64 3,.int .i64 0,.string ⟨#[113,113]⟩,.slice (some ⟨g24,0,none⟩) 1 1,.int .i64 2,.int .i64 0,.string ⟨#[98]⟩,.slice none 0 0] 30),by simp [execOp,go_sem,e77,h24,e78,h25],(Below.refl _ _).alloc (Nat.le_refl _) _,⟨_,rfl⟩,fun N' h1 h2=>⟨_,rfl,TmsK.rows (K:=N') (w:=X) (rs:=[(strT ⟨#[113,113]⟩ [atomT ⟨#[97]⟩],some ⟨g24,0,none⟩,1),(atomT ⟨#[98]⟩,none,0)]) (e:=30) (h2 _ (Nat.le_refl _) (by simp)) (by simp [maxLen]) (fun x hx=>by
     simp only [List.mem_cons,List.mem_nil_iff,or_false] at hx
     rcases hx with rfl|rfl
     ·exact row_stab ht24 (fun b hb=>((Below.refl X.heap.size X).alloc (Nat.le_refl _) _).block b (hC.lt b hb)) h1
     ·exact TmsK.nil)⟩⟩
   ·cases ho
    refine srv_calG rfl rfl (fun val hA=>hA 20 (of_decide_eq_true rfl)) fun val E X N hE hC hA hc=>?_
    obtain ⟨g26,h26,ht26⟩:∃g,val 26=.slice (some ⟨g,0,none⟩) 2 2∧TmsK N X (some ⟨g,0,none⟩) [strT ⟨#[113,113]⟩ [atomT ⟨#[97]⟩],atomT ⟨#[98]⟩]:=hc 26 (of_decide_eq_true rfl) rfl
    have e79:E (.tmp 79)=val 26:=by rw [hE.eq];rfl
    exact ⟨_,_,by simp [execOp,go_sem,hE.c,hE.f,e79,h26] <;> rfl,(HLF.out ⟨#[110,110]⟩ _ _ _ X).mono fun e w' h=>⟨_,h.1,h.2,⟨g26,rfl⟩,fun N' h1 _=>⟨g26,rfl,row_stab ht26 (fun b hb=>h.2.block b (hC.lt b hb)) h1⟩⟩⟩
   ·cases ho
    refine srv_calG rfl rfl (fun val hA=>hA 20 (of_decide_eq_true rfl)) fun val E X N hE hC hA hc=>?_
    have h21:val 21=.agg #[.slice A1 n1 c1,.int .i64 1,.int .i64 1,.bool false,.bool false,.slice none 0 0]:=hA 21 (of_decide_eq_true rfl)
    have e74:E (.tmp 74)=val 21:=by rw [hE.eq];rfl
    obtain ⟨g27,h27,ht27⟩:∃g,val 27=.agg #[.int .i64 3,.int .i64 0,.string ⟨#[110,110]⟩,.slice (some ⟨g,0,none⟩) 2 2]∧TmsK N X (some ⟨g,0,none⟩) [strT ⟨#[113,113]⟩ [atomT ⟨#[97]⟩],atomT ⟨#[98]⟩]:=hc 27 (of_decide_eq_true rfl) rfl
    have e80:E (.tmp 80)=val 27:=by rw [hE.eq];rfl
    have h:=l_is ⟨#[113,113,32,97,32,110,110,32,98,46]⟩ A1 n1 c1 1 1 false false none 0 0 (strT ⟨#[110,110]⟩ [strT ⟨#[113,113]⟩ [atomT ⟨#[97]⟩],atomT ⟨#[98]⟩]) (some ⟨g27,0,none⟩) 2 (-1) P [] X (HT3.out.below hC.bel) rfl (Nat.zero_le _) (Pairs.nil _ _) (by decide) (TmsK.at' ht27)
    rw [show isR (⟨#[113,113,32,97,32,110,110,32,98,46]⟩:ByteArray).data.toList ⟨P,1,1,false,false,[]⟩ (strT ⟨#[110,110]⟩ [strT ⟨#[113,113]⟩ [atomT ⟨#[97]⟩],atomT ⟨#[98]⟩]) (-1)=true from (HLT.out HLL.out).2.2] at h
    exact ⟨_,_,by simp [execOp,go_sem,hE.c,hE.f,e74,h21,e80,h27] <;> first | rfl | exact ⟨rfl,rfl⟩ | exact ⟨rfl,rfl,rfl⟩ | exact ⟨rfl,rfl,rfl,rfl⟩,h.mono fun e w' h=>⟨_,h.1,h.2,rfl,fun _ _ _=>trivial⟩⟩
   ·cases ho
    refine srv_pure rfl rfl (fun val E hE hA=>?_)
    have e73:E (.tmp 73)=val 20:=by rw [hE.eq];rfl
    have h20:val 20=.bool true:=hA 20 (of_decide_eq_true rfl)
    have e81:E (.tmp 81)=val 28:=by rw [hE.eq];rfl
    have h28:val 28=.bool true:=hA 28 (of_decide_eq_true rfl)
    exact ⟨.bool true,fun X=>by simp [execOp,go_sem,hE.c,e73,h20,e81,h28],rfl⟩
   ·cases ho
    refine srv_pure rfl rfl (fun val E hE hA=>?_)
    have e82:E (.tmp 82)=val 29:=by rw [hE.eq];rfl
    have h29:val 29=.bool true:=hA 29 (of_decide_eq_true rfl)
    exact ⟨.bool true,fun X=>by simp [execOp,go_sem,e82,h29],rfl⟩
   ·cases ho
    refine srv_calVG (true) rfl rfl (fun _ _ _=>trivial) (fun val hA=>hA 30 (of_decide_eq_true rfl)) (fun _ val E X hE hB hA=>?_) (fun h=>absurd rfl h)
    exact ⟨_,_,_,by simp [execOp,go_sem,hE.f] <;> rfl,HAW.out X (HB3.out.trans (hB.mono HB3.out.size)),rfl⟩
   ·cases ho
    refine srv_pure rfl rfl (fun val E hE hA=>?_)
    have e83:E (.tmp 83)=val 30:=by rw [hE.eq];rfl
    have h30:val 30=.bool true:=hA 30 (of_decide_eq_true rfl)
    have e84:E (.tmp 84)=val 31:=by rw [hE.eq];rfl
    have h31:val 31=.bool true:=hA 31 (of_decide_eq_true rfl)
    exact ⟨.bool true,fun X=>by simp [execOp,go_sem,hE.c,e83,h30,e84,h31],rfl⟩
   ·cases ho
    refine srv_pure rfl rfl (fun val E hE hA=>?_)
    have e85:E (.tmp 85)=val 32:=by rw [hE.eq];rfl
    have h32:val 32=.bool true:=hA 32 (of_decide_eq_true rfl)
    exact ⟨.bool true,fun X=>by simp [execOp,go_sem,e85,h32],rfl⟩
  case fina=>
   have h0:val 0=.agg #[.slice A1 n1 c1,.int .i64 1,.int .i64 1,.bool false,.bool false,.slice none 0 0]:=hv 0 (show 0<34 by decide)
   have h1:val 1=.agg #[.int .i64 2,.int .i64 0,.string ⟨#[97]⟩,.slice none 0 0]:=hv 1 (show 1<34 by decide)
   have h2:val 2=.agg #[.int .i64 2,.int .i64 0,.string ⟨#[98]⟩,.slice none 0 0]:=hv 2 (show 2<34 by decide)
   obtain ⟨g3,h3⟩:∃g,val 3=.slice (some ⟨g,0,none⟩) 2 2:=hv 3 (show 3<34 by decide)
   obtain ⟨gg4,h4⟩:∃g,val 4=.agg #[.int .i64 3,.int .i64 0,.string ⟨#[109,109]⟩,.slice (some ⟨g,0,none⟩) 2 2]:=hv 4 (show 4<34 by decide)
   have h5:val 5=.agg #[.int .i64 2,.int .i64 0,.string ⟨#[99]⟩,.slice none 0 0]:=hv 5 (show 5<34 by decide)
   obtain ⟨g6,h6⟩:∃g,val 6=.slice (some ⟨g,0,none⟩) 2 2:=hv 6 (show 6<34 by decide)
   obtain ⟨gg7,h7⟩:∃g,val 7=.agg #[.int .i64 3,.int .i64 0,.string ⟨#[110,110]⟩,.slice (some ⟨g,0,none⟩) 2 2]:=hv 7 (show 7<34 by decide)
   have h8:val 8=.bool true:=hv 8 (show 8<34 by decide)
   have h9:val 9=.bool true:=hv 9 (show 9<34 by decide)
   have h10:val 10=.agg #[.slice A1 n1 c1,.int .i64 1,.int .i64 1,.bool false,.bool false,.slice none 0 0]:=hv 10 (show 10<34 by decide)
   have h11:val 11=.agg #[.int .i64 2,.int .i64 0,.string ⟨#[97]⟩,.slice none 0 0]:=hv 11 (show 11<34 by decide)
   have h12:val 12=.agg #[.int .i64 2,.int .i64 0,.string ⟨#[98]⟩,.slice none 0 0]:=hv 12 (show 12<34 by decide)
   have h13:val 13=.agg #[.int .i64 2,.int .i64 0,.string ⟨#[99]⟩,.slice none 0 0]:=hv 13 (show 13<34 by decide)
   obtain ⟨g14,h14⟩:∃g,val 14=.slice (some ⟨g,0,none⟩) 2 2:=hv 14 (show 14<34 by decide)
   obtain ⟨gg15,h15⟩:∃g,val 15=.agg #[.int .i64 3,.int .i64 0,.string ⟨#[109,109]⟩,.slice (some ⟨g,0,none⟩) 2 2]:=hv 15 (show 15<34 by decide)
   obtain ⟨g16,h16⟩:∃g,val 16=.slice (some ⟨g,0,none⟩) 2 2:=hv 16 (show 16<34 by decide)
   obtain ⟨gg17,h17⟩:∃g,val 17=.agg #[.int .i64 3,.int .i64 0,.string ⟨#[110,110]⟩,.slice (some ⟨g,0,none⟩) 2 2]:=hv 17 (show 17<34 by decide)
   have h18:val 18=.bool true:=hv 18 (show 18<34 by decide)
   have h19:val 19=.bool true:=hv 19 (show 19<34 by decide)
   have h20:val 20=.bool true:=hv 20 (show 20<34 by decide)
   have h21:val 21=.agg #[.slice A1 n1 c1,.int .i64 1,.int .i64 1,.bool false,.bool false,.slice none 0 0]:=hv 21 (show 21<34 by decide)
   have h22:val 22=.agg #[.int .i64 2,.int .i64 0,.string ⟨#[97]⟩,.slice none 0 0]:=hv 22 (show 22<34 by decide)
   obtain ⟨g23,h23⟩:∃g,val 23=.slice (some ⟨g,0,none⟩) 1 1:=hv 23 (show 23<34 by decide)
   obtain ⟨gg24,h24⟩:∃g,val 24=.agg #[.int .i64 3,.int .i64 0,.string ⟨#[113,113]⟩,.slice (some ⟨g,0,none⟩) 1 1]:=hv 24 (show 24<34 by decide)
   have h25:val 25=.agg #[.int .i64 2,.int .i64 0,.string ⟨#[98]⟩,.slice none 0 0]:=hv 25 (show 25<34 by decide)
   obtain ⟨g26,h26⟩:∃g,val 26=.slice (some ⟨g,0,none⟩) 2 2:=hv 26 (show 26<34 by decide)
   obtain ⟨gg27,h27⟩:∃g,val 27=.agg #[.int .i64 3,.int .i64 0,.string ⟨#[110,110]⟩,.slice (some ⟨g,0,none⟩) 2 2]:=hv 27 (show 27<34 by decide)
   have h28:val 28=.bool true:=hv 28 (show 28<34 by decide)
   have h29:val 29=.bool true:=hv 29 (show 29<34 by decide)
   have h30:val 30=.bool true:=hv 30 (show 30<34 by decide)
   have h31:val 31=.bool true:=hv 31 (show 31<34 by decide)
   have h32:val 32=.bool true:=hv 32 (show 32<34 by decide)
   have h33:val 33=.bool true:=hv 33 (show 33<34 by decide)
   refine hK9 _ _ ?_
   simp only [fillD,List.set_cons_zero,List.set_cons_succ,Nat.reduceAdd,Nat.zero_add,h0,h1,h2,h3,h4,h5,h6,h7,h8,h9,h10,h11,h12,h13,h14,h15,h16,h17,h18,h19,h20,h21,h22,h23,h24,h25,h26,h27,h28,h29,h30,h31,h32,h33]
   have HBY:=Lib.hid (HB3.out.trans (HF.bel.mono HB3.out.size))
   clear hv HF hK9 h0 h1 h2 h3 h4 h5 h6 h7 h8 h9 h10 h11 h12 h13 h14 h15 h16 h17 h18 h19 h20 h21 h22 h23 h24 h25 h26 h27 h28 h29 h30 h31 h32 h33 HB3 HT3 HK3
   go_wp2_with fail
   go_ret
   exact ⟨rfl,HBY.out⟩
 ·have HLL:=Lib.hid (show np<mp by omega)
  clear HLT
  go_upto_region 9 with fail
  rename_i K9 hK9
  refine region_own (w0:=w3) [rVal [] [0] (fun|[v]=>v=.agg #[.slice A1 n1 c1,.int .i64 1,.int .i64 1,.bool false,.bool false,.slice none 0 0]|_=>False),
   rVal [] [1] (fun|[v]=>v=.agg #[.int .i64 2,.int .i64 0,.string ⟨#[97]⟩,.slice none 0 0]|_=>False),
   rVal [1] [2] (fun|[v]=>v=.agg #[.int .i64 2,.int .i64 0,.string ⟨#[98]⟩,.slice none 0 0]|_=>False),
   rVal [1,2] [3] (fun|[v]=>v=.agg #[.int .i64 2,.int .i64 0,.string ⟨#[99]⟩,.slice none 0 0]|_=>False),
   rRow [1,2,3] 4 2 [atomT ⟨#[98]⟩,atomT ⟨#[99]⟩],
   rGoal [1,2,3,4] 5 ⟨#[110,110]⟩ 2 [atomT ⟨#[98]⟩,atomT ⟨#[99]⟩],
   rRow [1,2,3,4,5] 6 2 [atomT ⟨#[97]⟩,strT ⟨#[110,110]⟩ [atomT ⟨#[98]⟩,atomT ⟨#[99]⟩]],
   rGoal [1,2,3,4,5,6] 7 ⟨#[109,109]⟩ 2 [atomT ⟨#[97]⟩,strT ⟨#[110,110]⟩ [atomT ⟨#[98]⟩,atomT ⟨#[99]⟩]],
   rVal (List.range 8) [8] (fun|[v]=>v=.bool true|_=>False),
   rPure (List.range 9) [9] (fun|[v]=>v=.bool true|_=>False),
   rVal (List.range 10) [10] (fun|[v]=>v=.agg #[.slice A1 n1 c1,.int .i64 1,.int .i64 1,.bool false,.bool false,.slice none 0 0]|_=>False),
   rVal (List.range 10) [11] (fun|[v]=>v=.agg #[.int .i64 2,.int .i64 0,.string ⟨#[97]⟩,.slice none 0 0]|_=>False),
   rVal [0,1,2,3,4,5,6,7,8,9,11] [12] (fun|[v]=>v=.agg #[.int .i64 2,.int .i64 0,.string ⟨#[98]⟩,.slice none 0 0]|_=>False),
   rRow [0,1,2,3,4,5,6,7,8,9,11,12] 13 2 [atomT ⟨#[97]⟩,atomT ⟨#[98]⟩],
   rGoal [0,1,2,3,4,5,6,7,8,9,11,12,13] 14 ⟨#[110,110]⟩ 2 [atomT ⟨#[97]⟩,atomT ⟨#[98]⟩],
   rVal [0,1,2,3,4,5,6,7,8,9,11,12,13,14] [15] (fun|[v]=>v=.agg #[.int .i64 2,.int .i64 0,.string ⟨#[99]⟩,.slice none 0 0]|_=>False),
   rRow [0,1,2,3,4,5,6,7,8,9,11,12,13,14,15] 16 2 [strT ⟨#[110,110]⟩ [atomT ⟨#[97]⟩,atomT ⟨#[98]⟩],atomT ⟨#[99]⟩],
   rGoal [0,1,2,3,4,5,6,7,8,9,11,12,13,14,15,16] 17 ⟨#[109,109]⟩ 2 [strT ⟨#[110,110]⟩ [atomT ⟨#[97]⟩,atomT ⟨#[98]⟩],atomT ⟨#[99]⟩],
   rVal (List.range 18) [18] (fun|[v]=>v=.bool true|_=>False),
   rPure (List.range 19) [19] (fun|[v]=>v=.bool true|_=>False),
   rPure (List.range 20) [20] (fun|[v]=>v=.bool true|_=>False),
   rVal (List.range 21) [21] (fun|[v]=>v=.agg #[.slice A1 n1 c1,.int .i64 1,.int .i64 1,.bool false,.bool false,.slice none 0 0]|_=>False),
   rVal (List.range 21) [22] (fun|[v]=>v=.agg #[.int .i64 2,.int .i64 0,.string ⟨#[97]⟩,.slice none 0 0]|_=>False),
   rVal [0,1,2,3,4,5,6,7,8,9,10,11,12,13,14,15,16,17,18,19,20,22] [23] (fun|[v]=>v=.agg #[.int .i64 2,.int .i64 0,.string ⟨#[98]⟩,.slice none 0 0]|_=>False),
   rRow [0,1,2,3,4,5,6,7,8,9,10,11,12,13,14,15,16,17,18,19,20,22,23] 24 2 [atomT ⟨#[97]⟩,atomT ⟨#[98]⟩],
   rGoal [0,1,2,3,4,5,6,7,8,9,10,11,12,13,14,15,16,17,18,19,20,22,23,24] 25 ⟨#[110,110]⟩ 2 [atomT ⟨#[97]⟩,atomT ⟨#[98]⟩],
   rRow [0,1,2,3,4,5,6,7,8,9,10,11,12,13,14,15,16,17,18,19,20,22,23,24,25] 26 1 [strT ⟨#[110,110]⟩ [atomT ⟨#[97]⟩,atomT ⟨#[98]⟩]],
   rGoal [0,1,2,3,4,5,6,7,8,9,10,11,12,13,14,15,16,17,18,19,20,22,23,24,25,26] 27 ⟨#[113,113]⟩ 1 [strT ⟨#[110,110]⟩ [atomT ⟨#[97]⟩,atomT ⟨#[98]⟩]],
   rVal (List.range 28) [28] (fun|[v]=>v=.bool true|_=>False),
   rPure (List.range 29) [29] (fun|[v]=>v=.bool true|_=>False),
   rPure (List.range 30) [30] (fun|[v]=>v=.bool true|_=>False),
   rVal (List.range 31) [31] (fun|[v]=>v=.bool true|_=>False),
   rPure (List.range 32) [32] (fun|[v]=>v=.bool true|_=>False),
   rPure (List.range 33) [33] (fun|[v]=>v=.bool true|_=>False)]
   [some 86,some 87,some 88,some 89,some 90,some 91,some 92,some 93,some 94,some 95,some 96,some 97,some 98,some 99,some 100,some 101,some 102,some 103,some 104,some 105,some 106,some 107,some 108,some 109,some 110,some 111,some 112,some 113,some 114,some 115,some 116,some 117,some 118,some 8] (fun _=>True) (w3.heap.size) (by kernel_rfl) (Nat.le_refl _) (by kernel_rfl) (by kernel_rfl) (by kernel_rfl) (fun j o ho=>?srvb) (fun val Y N hv HF=>?finb)
  case srvb=>
   have hlt:j<34:=(Array.getElem?_eq_some_iff.1 ho).1
   rcases (show j=0∨j=1∨j=2∨j=3∨j=4∨j=5∨j=6∨j=7∨j=8∨j=9∨j=10∨j=11∨j=12∨j=13∨j=14∨j=15∨j=16∨j=17∨j=18∨j=19∨j=20∨j=21∨j=22∨j=23∨j=24∨j=25∨j=26∨j=27∨j=28∨j=29∨j=30∨j=31∨j=32∨j=33 by omega) with rfl|rfl|rfl|rfl|rfl|rfl|rfl|rfl|rfl|rfl|rfl|rfl|rfl|rfl|rfl|rfl|rfl|rfl|rfl|rfl|rfl|rfl|rfl|rfl|rfl|rfl|rfl|rfl|rfl|rfl|rfl|rfl|rfl|rfl
   ·cases ho
    refine srv_val rfl rfl (fun _ _ _=>trivial) (fun val E X hE hB hA=>?_)
    have e11:E (.tmp 11)=.pointer (some ⟨g3,0,none⟩):=by rw [hE.eq];rfl
    have hk0:=(HK3.out.call hB).c 0 _ rfl
    have hk1:=(HK3.out.call hB).c 1 _ rfl
    have hk2:=(HK3.out.call hB).c 2 _ rfl
    have hk3:=(HK3.out.call hB).c 3 _ rfl
    have hk4:=(HK3.out.call hB).c 4 _ rfl
    have hk5:=(HK3.out.call hB).c 5 _ rfl
    exact ⟨.agg #[.slice A1 n1 c1,.int .i64 1,.int .i64 1,.bool false,.bool false,.slice none 0 0],by simp [execOp,go_sem,e11,hk0,hk1,hk2,hk3,hk4,hk5],rfl⟩
   ·cases ho
    refine srv_calV rfl rfl (fun _ _ _=>trivial) (fun val E X hE hB hA=>?_)
    exact ⟨_,_,_,by simp [execOp,go_sem,hE.c,hE.f] <;> rfl,HLA.out ⟨#[97]⟩ X,rfl⟩
   ·cases ho
    refine srv_calV rfl rfl (fun _ _ _=>trivial) (fun val E X hE hB hA=>?_)
    exact ⟨_,_,_,by simp [execOp,go_sem,hE.c,hE.f] <;> rfl,HLA.out ⟨#[98]⟩ X,rfl⟩
   ·cases ho
    refine srv_calV rfl rfl (fun _ _ _=>trivial) (fun val E X hE hB hA=>?_)
    exact ⟨_,_,_,by simp [execOp,go_sem,hE.c,hE.f] <;> rfl,HLA.out ⟨#[99]⟩ X,rfl⟩
   ·cases ho
    refine srv_mk rfl rfl fun val E X N hE hC hA hc=>?_
    have e88:E (.tmp 88)=val 2:=by rw [hE.eq];rfl
    have h2:val 2=.agg #[.int .i64 2,.int .i64 0,.string ⟨#[98]⟩,.slice none 0 0]:=hA 2 (of_decide_eq_true rfl)
    have e89:E (.tmp 89)=val 3:=by rw [hE.eq];rfl
    have h3:val 3=.agg #[.int .i64 2,.int .i64 0,.string ⟨#[99]⟩,.slice none 0 0]:=hA 3 (of_decide_eq_true rfl)
    exact ⟨.slice (some ⟨X.heap.size,0,none⟩) 2 2,X.alloc (.cells #[.int .i64 2,.int .i64 0,.string ⟨#[98]⟩,.slice none 0 0,.int .i64 2,.int .i64 0,.string ⟨#[99]⟩,.slice none 0 0] 30),by simp [execOp,go_sem,e88,h2,e89,h3],(Below.refl _ _).alloc (Nat.le_refl _) _,⟨_,rfl⟩,fun N' h1 h2=>⟨_,rfl,TmsK.rows (K:=N') (w:=X) (rs:=[(atomT ⟨#[98]⟩,none,0),(atomT ⟨#[99]⟩,none,0)]) (e:=30) (h2 _ (Nat.le_refl _) (by simp)) (by simp [maxLen]) (fun x hx=>by
     simp only [List.mem_cons,List.mem_nil_iff,or_false] at hx
     rcases hx with rfl|rfl
     ·exact TmsK.nil
     ·exact TmsK.nil)⟩⟩
   ·cases ho
    refine srv_cal rfl rfl fun val E X N hE hC hA hc=>?_
    obtain ⟨g4,h4,ht4⟩:∃g,val 4=.slice (some ⟨g,0,none⟩) 2 2∧TmsK N X (some ⟨g,0,none⟩) [atomT ⟨#[98]⟩,atomT ⟨#[99]⟩]:=hc 4 (of_decide_eq_true rfl) rfl
    have e90:E (.tmp 90)=val 4:=by rw [hE.eq];rfl
    exact ⟨_,_,by simp [execOp,go_sem,hE.c,hE.f,e90,h4] <;> rfl,(HLF.out ⟨#[110,110]⟩ _ _ _ X).mono fun e w' h=>⟨_,h.1,h.2,⟨g4,rfl⟩,fun N' h1 _=>⟨g4,rfl,row_stab ht4 (fun b hb=>h.2.block b (hC.lt b hb)) h1⟩⟩⟩
   ·cases ho
    refine srv_mk rfl rfl fun val E X N hE hC hA hc=>?_
    have e87:E (.tmp 87)=val 1:=by rw [hE.eq];rfl
    have h1:val 1=.agg #[.int .i64 2,.int .i64 0,.string ⟨#[97]⟩,.slice none 0 0]:=hA 1 (of_decide_eq_true rfl)
    have e91:E (.tmp 91)=val 5:=by rw [hE.eq];rfl
    obtain ⟨g5,h5,ht5⟩:∃g,val 5=.agg #[.int .i64 3,.int .i64 0,.string ⟨#[110,110]⟩,.slice (some ⟨g,0,none⟩) 2 2]∧TmsK N X (some ⟨g,0,none⟩) [atomT ⟨#[98]⟩,atomT ⟨#[99]⟩]:=hc 5 (of_decide_eq_true rfl) rfl
    exact ⟨.slice (some ⟨X.heap.size,0,none⟩) 2 2,X.alloc (.cells #[.int .i64 2,.int .i64 0,.string ⟨#[97]⟩,.slice none 0 0,.int .i64 3,.int .i64 0,.string ⟨#[110,110]⟩,.slice (some ⟨g5,0,none⟩) 2 2] 30),by simp [execOp,go_sem,e87,h1,e91,h5],(Below.refl _ _).alloc (Nat.le_refl _) _,⟨_,rfl⟩,fun N' h1 h2=>⟨_,rfl,TmsK.rows (K:=N') (w:=X) (rs:=[(atomT ⟨#[97]⟩,none,0),(strT ⟨#[110,110]⟩ [atomT ⟨#[98]⟩,atomT ⟨#[99]⟩],some ⟨g5,0,none⟩,2)]) (e:=30) (h2 _ (Nat.le_refl _) (by simp)) (by simp [maxLen]) (fun x hx=>by
     simp only [List.mem_cons,List.mem_nil_iff,or_false] at hx
     rcases hx with rfl|rfl
     ·exact TmsK.nil
     ·exact row_stab ht5 (fun b hb=>((Below.refl X.heap.size X).alloc (Nat.le_refl _) _).block b (hC.lt b hb)) h1)⟩⟩
   ·cases ho
    refine srv_cal rfl rfl fun val E X N hE hC hA hc=>?_
    obtain ⟨g6,h6,ht6⟩:∃g,val 6=.slice (some ⟨g,0,none⟩) 2 2∧TmsK N X (some ⟨g,0,none⟩) [atomT ⟨#[97]⟩,strT ⟨#[110,110]⟩ [atomT ⟨#[98]⟩,atomT ⟨#[99]⟩]]:=hc 6 (of_decide_eq_true rfl) rfl
    have e92:E (.tmp 92)=val 6:=by rw [hE.eq];rfl
    exact ⟨_,_,by simp [execOp,go_sem,hE.c,hE.f,e92,h6] <;> rfl,(HLF.out ⟨#[109,109]⟩ _ _ _ X).mono fun e w' h=>⟨_,h.1,h.2,⟨g6,rfl⟩,fun N' h1 _=>⟨g6,rfl,row_stab ht6 (fun b hb=>h.2.block b (hC.lt b hb)) h1⟩⟩⟩
   ·cases ho
    refine srv_cal rfl rfl fun val E X N hE hC hA hc=>?_
    have h0:val 0=.agg #[.slice A1 n1 c1,.int .i64 1,.int .i64 1,.bool false,.bool false,.slice none 0 0]:=hA 0 (of_decide_eq_true rfl)
    have e86:E (.tmp 86)=val 0:=by rw [hE.eq];rfl
    obtain ⟨g7,h7,ht7⟩:∃g,val 7=.agg #[.int .i64 3,.int .i64 0,.string ⟨#[109,109]⟩,.slice (some ⟨g,0,none⟩) 2 2]∧TmsK N X (some ⟨g,0,none⟩) [atomT ⟨#[97]⟩,strT ⟨#[110,110]⟩ [atomT ⟨#[98]⟩,atomT ⟨#[99]⟩]]:=hc 7 (of_decide_eq_true rfl) rfl
    have e93:E (.tmp 93)=val 7:=by rw [hE.eq];rfl
    have h:=l_is ⟨#[97,32,109,109,32,98,32,110,110,32,99,46]⟩ A1 n1 c1 1 1 false false none 0 0 (strT ⟨#[109,109]⟩ [atomT ⟨#[97]⟩,strT ⟨#[110,110]⟩ [atomT ⟨#[98]⟩,atomT ⟨#[99]⟩]]) (some ⟨g7,0,none⟩) 2 (-1) P [] X (HT3.out.below hC.bel) rfl (Nat.zero_le _) (Pairs.nil _ _) (by decide) (TmsK.at' ht7)
    rw [show isR (⟨#[97,32,109,109,32,98,32,110,110,32,99,46]⟩:ByteArray).data.toList ⟨P,1,1,false,false,[]⟩ (strT ⟨#[109,109]⟩ [atomT ⟨#[97]⟩,strT ⟨#[110,110]⟩ [atomT ⟨#[98]⟩,atomT ⟨#[99]⟩]]) (-1)=true from (HGT.out HLL.out).1] at h
    exact ⟨_,_,by simp [execOp,go_sem,hE.c,hE.f,e86,h0,e93,h7] <;> first | rfl | exact ⟨rfl,rfl⟩ | exact ⟨rfl,rfl,rfl⟩ | exact ⟨rfl,rfl,rfl,rfl⟩,h.mono fun e w' h=>⟨_,h.1,h.2,rfl,fun _ _ _=>trivial⟩⟩
   ·cases ho
    refine srv_pure rfl rfl (fun val E hE hA=>?_)
    have e94:E (.tmp 94)=val 8:=by rw [hE.eq];rfl
    have h8:val 8=.bool true:=hA 8 (of_decide_eq_true rfl)
    exact ⟨.bool true,fun X=>by simp [execOp,go_sem,e94,h8],rfl⟩
   ·cases ho
    refine srv_valG (true) rfl rfl (fun _ _ _=>trivial) (fun val hA=>hA 9 (of_decide_eq_true rfl)) (fun _ val E X hE hB hA=>?_) (fun h=>absurd rfl h)
    have e11:E (.tmp 11)=.pointer (some ⟨g3,0,none⟩):=by rw [hE.eq];rfl
    have hk0:=(HK3.out.call hB).c 0 _ rfl
    have hk1:=(HK3.out.call hB).c 1 _ rfl
    have hk2:=(HK3.out.call hB).c 2 _ rfl
    have hk3:=(HK3.out.call hB).c 3 _ rfl
    have hk4:=(HK3.out.call hB).c 4 _ rfl
    have hk5:=(HK3.out.call hB).c 5 _ rfl
    exact ⟨.agg #[.slice A1 n1 c1,.int .i64 1,.int .i64 1,.bool false,.bool false,.slice none 0 0],by simp [execOp,go_sem,e11,hk0,hk1,hk2,hk3,hk4,hk5],rfl⟩
   ·cases ho
    refine srv_calVG (true) rfl rfl (fun _ _ _=>trivial) (fun val hA=>hA 9 (of_decide_eq_true rfl)) (fun _ val E X hE hB hA=>?_) (fun h=>absurd rfl h)
    exact ⟨_,_,_,by simp [execOp,go_sem,hE.c,hE.f] <;> rfl,HLA.out ⟨#[97]⟩ X,rfl⟩
   ·cases ho
    refine srv_calVG (true) rfl rfl (fun _ _ _=>trivial) (fun val hA=>hA 9 (of_decide_eq_true rfl)) (fun _ val E X hE hB hA=>?_) (fun h=>absurd rfl h)
    exact ⟨_,_,_,by simp [execOp,go_sem,hE.c,hE.f] <;> rfl,HLA.out ⟨#[98]⟩ X,rfl⟩
   ·cases ho
    refine srv_mkG rfl rfl (fun val hA=>hA 9 (of_decide_eq_true rfl)) fun val E X N hE hC hA hc=>?_
    have e97:E (.tmp 97)=val 11:=by rw [hE.eq];rfl
    have h11:val 11=.agg #[.int .i64 2,.int .i64 0,.string ⟨#[97]⟩,.slice none 0 0]:=hA 11 (of_decide_eq_true rfl)
    have e98:E (.tmp 98)=val 12:=by rw [hE.eq];rfl
    have h12:val 12=.agg #[.int .i64 2,.int .i64 0,.string ⟨#[98]⟩,.slice none 0 0]:=hA 12 (of_decide_eq_true rfl)
    exact ⟨.slice (some ⟨X.heap.size,0,none⟩) 2 2,X.alloc (.cells #[.int .i64 2,.int .i64 0,.string ⟨#[97]⟩,.slice none 0 0,.int .i64 2,.int .i64 0,.string ⟨#[98]⟩,.slice none 0 0] 30),by simp [execOp,go_sem,e97,h11,e98,h12],(Below.refl _ _).alloc (Nat.le_refl _) _,⟨_,rfl⟩,fun N' h1 h2=>⟨_,rfl,TmsK.rows (K:=N') (w:=X) (rs:=[(atomT ⟨#[97]⟩,none,0),(atomT ⟨#[98]⟩,none,0)]) (e:=30) (h2 _ (Nat.le_refl _) (by simp)) (by simp [maxLen]) (fun x hx=>by
     simp only [List.mem_cons,List.mem_nil_iff,or_false] at hx
     rcases hx with rfl|rfl
     ·exact TmsK.nil
     ·exact TmsK.nil)⟩⟩
   ·cases ho
    refine srv_calG rfl rfl (fun val hA=>hA 9 (of_decide_eq_true rfl)) fun val E X N hE hC hA hc=>?_
    obtain ⟨g13,h13,ht13⟩:∃g,val 13=.slice (some ⟨g,0,none⟩) 2 2∧TmsK N X (some ⟨g,0,none⟩) [atomT ⟨#[97]⟩,atomT ⟨#[98]⟩]:=hc 13 (of_decide_eq_true rfl) rfl
    have e99:E (.tmp 99)=val 13:=by rw [hE.eq];rfl
    exact ⟨_,_,by simp [execOp,go_sem,hE.c,hE.f,e99,h13] <;> rfl,(HLF.out ⟨#[110,110]⟩ _ _ _ X).mono fun e w' h=>⟨_,h.1,h.2,⟨g13,rfl⟩,fun N' h1 _=>⟨g13,rfl,row_stab ht13 (fun b hb=>h.2.block b (hC.lt b hb)) h1⟩⟩⟩
   ·cases ho
    refine srv_calVG (true) rfl rfl (fun _ _ _=>trivial) (fun val hA=>hA 9 (of_decide_eq_true rfl)) (fun _ val E X hE hB hA=>?_) (fun h=>absurd rfl h)
    exact ⟨_,_,_,by simp [execOp,go_sem,hE.c,hE.f] <;> rfl,HLA.out ⟨#[99]⟩ X,rfl⟩
   ·cases ho
    refine srv_mkG rfl rfl (fun val hA=>hA 9 (of_decide_eq_true rfl)) fun val E X N hE hC hA hc=>?_
    have e100:E (.tmp 100)=val 14:=by rw [hE.eq];rfl
    obtain ⟨g14,h14,ht14⟩:∃g,val 14=.agg #[.int .i64 3,.int .i64 0,.string ⟨#[110,110]⟩,.slice (some ⟨g,0,none⟩) 2 2]∧TmsK N X (some ⟨g,0,none⟩) [atomT ⟨#[97]⟩,atomT ⟨#[98]⟩]:=hc 14 (of_decide_eq_true rfl) rfl
    have e101:E (.tmp 101)=val 15:=by rw [hE.eq];rfl
    have h15:val 15=.agg #[.int .i64 2,.int .i64 0,.string ⟨#[99]⟩,.slice none 0 0]:=hA 15 (of_decide_eq_true rfl)
    exact ⟨.slice (some ⟨X.heap.size,0,none⟩) 2 2,X.alloc (.cells #[.int .i64 3,.int .i64 0,.string ⟨#[110,110]⟩,.slice (some ⟨g14,0,none⟩) 2 2,.int .i64 2,.int .i64 0,.string ⟨#[99]⟩,.slice none 0 0] 30),by simp [execOp,go_sem,e100,h14,e101,h15],(Below.refl _ _).alloc (Nat.le_refl _) _,⟨_,rfl⟩,fun N' h1 h2=>⟨_,rfl,TmsK.rows (K:=N') (w:=X) (rs:=[(strT ⟨#[110,110]⟩ [atomT ⟨#[97]⟩,atomT ⟨#[98]⟩],some ⟨g14,0,none⟩,2),(atomT ⟨#[99]⟩,none,0)]) (e:=30) (h2 _ (Nat.le_refl _) (by simp)) (by simp [maxLen]) (fun x hx=>by
     simp only [List.mem_cons,List.mem_nil_iff,or_false] at hx
     rcases hx with rfl|rfl
     ·exact row_stab ht14 (fun b hb=>((Below.refl X.heap.size X).alloc (Nat.le_refl _) _).block b (hC.lt b hb)) h1
     ·exact TmsK.nil)⟩⟩
   ·cases ho
    refine srv_calG rfl rfl (fun val hA=>hA 9 (of_decide_eq_true rfl)) fun val E X N hE hC hA hc=>?_
    obtain ⟨g16,h16,ht16⟩:∃g,val 16=.slice (some ⟨g,0,none⟩) 2 2∧TmsK N X (some ⟨g,0,none⟩) [strT ⟨#[110,110]⟩ [atomT ⟨#[97]⟩,atomT ⟨#[98]⟩],atomT ⟨#[99]⟩]:=hc 16 (of_decide_eq_true rfl) rfl
    have e102:E (.tmp 102)=val 16:=by rw [hE.eq];rfl
    exact ⟨_,_,by simp [execOp,go_sem,hE.c,hE.f,e102,h16] <;> rfl,(HLF.out ⟨#[109,109]⟩ _ _ _ X).mono fun e w' h=>⟨_,h.1,h.2,⟨g16,rfl⟩,fun N' h1 _=>⟨g16,rfl,row_stab ht16 (fun b hb=>h.2.block b (hC.lt b hb)) h1⟩⟩⟩
   ·cases ho
    refine srv_calG rfl rfl (fun val hA=>hA 9 (of_decide_eq_true rfl)) fun val E X N hE hC hA hc=>?_
    have h10:val 10=.agg #[.slice A1 n1 c1,.int .i64 1,.int .i64 1,.bool false,.bool false,.slice none 0 0]:=hA 10 (of_decide_eq_true rfl)
    have e96:E (.tmp 96)=val 10:=by rw [hE.eq];rfl
    obtain ⟨g17,h17,ht17⟩:∃g,val 17=.agg #[.int .i64 3,.int .i64 0,.string ⟨#[109,109]⟩,.slice (some ⟨g,0,none⟩) 2 2]∧TmsK N X (some ⟨g,0,none⟩) [strT ⟨#[110,110]⟩ [atomT ⟨#[97]⟩,atomT ⟨#[98]⟩],atomT ⟨#[99]⟩]:=hc 17 (of_decide_eq_true rfl) rfl
    have e103:E (.tmp 103)=val 17:=by rw [hE.eq];rfl
    have h:=l_is ⟨#[97,32,110,110,32,98,32,109,109,32,99,46]⟩ A1 n1 c1 1 1 false false none 0 0 (strT ⟨#[109,109]⟩ [strT ⟨#[110,110]⟩ [atomT ⟨#[97]⟩,atomT ⟨#[98]⟩],atomT ⟨#[99]⟩]) (some ⟨g17,0,none⟩) 2 (-1) P [] X (HT3.out.below hC.bel) rfl (Nat.zero_le _) (Pairs.nil _ _) (by decide) (TmsK.at' ht17)
    rw [show isR (⟨#[97,32,110,110,32,98,32,109,109,32,99,46]⟩:ByteArray).data.toList ⟨P,1,1,false,false,[]⟩ (strT ⟨#[109,109]⟩ [strT ⟨#[110,110]⟩ [atomT ⟨#[97]⟩,atomT ⟨#[98]⟩],atomT ⟨#[99]⟩]) (-1)=true from (HGT.out HLL.out).2.1] at h
    exact ⟨_,_,by simp [execOp,go_sem,hE.c,hE.f,e96,h10,e103,h17] <;> first | rfl | exact ⟨rfl,rfl⟩ | exact ⟨rfl,rfl,rfl⟩ | exact ⟨rfl,rfl,rfl,rfl⟩,h.mono fun e w' h=>⟨_,h.1,h.2,rfl,fun _ _ _=>trivial⟩⟩
   ·cases ho
    refine srv_pure rfl rfl (fun val E hE hA=>?_)
    have e95:E (.tmp 95)=val 9:=by rw [hE.eq];rfl
    have h9:val 9=.bool true:=hA 9 (of_decide_eq_true rfl)
    have e104:E (.tmp 104)=val 18:=by rw [hE.eq];rfl
    have h18:val 18=.bool true:=hA 18 (of_decide_eq_true rfl)
    exact ⟨.bool true,fun X=>by simp [execOp,go_sem,hE.c,e95,h9,e104,h18],rfl⟩
   ·cases ho
    refine srv_pure rfl rfl (fun val E hE hA=>?_)
    have e105:E (.tmp 105)=val 19:=by rw [hE.eq];rfl
    have h19:val 19=.bool true:=hA 19 (of_decide_eq_true rfl)
    exact ⟨.bool true,fun X=>by simp [execOp,go_sem,e105,h19],rfl⟩
   ·cases ho
    refine srv_valG (true) rfl rfl (fun _ _ _=>trivial) (fun val hA=>hA 20 (of_decide_eq_true rfl)) (fun _ val E X hE hB hA=>?_) (fun h=>absurd rfl h)
    have e11:E (.tmp 11)=.pointer (some ⟨g3,0,none⟩):=by rw [hE.eq];rfl
    have hk0:=(HK3.out.call hB).c 0 _ rfl
    have hk1:=(HK3.out.call hB).c 1 _ rfl
    have hk2:=(HK3.out.call hB).c 2 _ rfl
    have hk3:=(HK3.out.call hB).c 3 _ rfl
    have hk4:=(HK3.out.call hB).c 4 _ rfl
    have hk5:=(HK3.out.call hB).c 5 _ rfl
    exact ⟨.agg #[.slice A1 n1 c1,.int .i64 1,.int .i64 1,.bool false,.bool false,.slice none 0 0],by simp [execOp,go_sem,e11,hk0,hk1,hk2,hk3,hk4,hk5],rfl⟩
   ·cases ho
    refine srv_calVG (true) rfl rfl (fun _ _ _=>trivial) (fun val hA=>hA 20 (of_decide_eq_true rfl)) (fun _ val E X hE hB hA=>?_) (fun h=>absurd rfl h)
    exact ⟨_,_,_,by simp [execOp,go_sem,hE.c,hE.f] <;> rfl,HLA.out ⟨#[97]⟩ X,rfl⟩
   ·cases ho
    refine srv_calVG (true) rfl rfl (fun _ _ _=>trivial) (fun val hA=>hA 20 (of_decide_eq_true rfl)) (fun _ val E X hE hB hA=>?_) (fun h=>absurd rfl h)
    exact ⟨_,_,_,by simp [execOp,go_sem,hE.c,hE.f] <;> rfl,HLA.out ⟨#[98]⟩ X,rfl⟩
   ·cases ho
    refine srv_mkG rfl rfl (fun val hA=>hA 20 (of_decide_eq_true rfl)) fun val E X N hE hC hA hc=>?_
    have e108:E (.tmp 108)=val 22:=by rw [hE.eq];rfl
    have h22:val 22=.agg #[.int .i64 2,.int .i64 0,.string ⟨#[97]⟩,.slice none 0 0]:=hA 22 (of_decide_eq_true rfl)
    have e109:E (.tmp 109)=val 23:=by rw [hE.eq];rfl
    have h23:val 23=.agg #[.int .i64 2,.int .i64 0,.string ⟨#[98]⟩,.slice none 0 0]:=hA 23 (of_decide_eq_true rfl)
    exact ⟨.slice (some ⟨X.heap.size,0,none⟩) 2 2,X.alloc (.cells #[.int .i64 2,.int .i64 0,.string ⟨#[97]⟩,.slice none 0 0,.int .i64 2,.int .i64 0,.string ⟨#[98]⟩,.slice none 0 0] 30),by simp [execOp,go_sem,e108,h22,e109,h23],(Below.refl _ _).alloc (Nat.le_refl _) _,⟨_,rfl⟩,fun N' h1 h2=>⟨_,rfl,TmsK.rows (K:=N') (w:=X) (rs:=[(atomT ⟨#[97]⟩,none,0),(atomT ⟨#[98]⟩,none,0)]) (e:=30) (h2 _ (Nat.le_refl _) (by simp)) (by simp [maxLen]) (fun x hx=>by
     simp only [List.mem_cons,List.mem_nil_iff,or_false] at hx
     rcases hx with rfl|rfl
     ·exact TmsK.nil
     ·exact TmsK.nil)⟩⟩
   ·cases ho
    refine srv_calG rfl rfl (fun val hA=>hA 20 (of_decide_eq_true rfl)) fun val E X N hE hC hA hc=>?_
    obtain ⟨g24,h24,ht24⟩:∃g,val 24=.slice (some ⟨g,0,none⟩) 2 2∧TmsK N X (some ⟨g,0,none⟩) [atomT ⟨#[97]⟩,atomT ⟨#[98]⟩]:=hc 24 (of_decide_eq_true rfl) rfl
    have e110:E (.tmp 110)=val 24:=by rw [hE.eq];rfl
    exact ⟨_,_,by simp [execOp,go_sem,hE.c,hE.f,e110,h24] <;> rfl,(HLF.out ⟨#[110,110]⟩ _ _ _ X).mono fun e w' h=>⟨_,h.1,h.2,⟨g24,rfl⟩,fun N' h1 _=>⟨g24,rfl,row_stab ht24 (fun b hb=>h.2.block b (hC.lt b hb)) h1⟩⟩⟩
   ·cases ho
    refine srv_mkG rfl rfl (fun val hA=>hA 20 (of_decide_eq_true rfl)) fun val E X N hE hC hA hc=>?_
    have e111:E (.tmp 111)=val 25:=by rw [hE.eq];rfl
    obtain ⟨g25,h25,ht25⟩:∃g,val 25=.agg #[.int .i64 3,.int .i64 0,.string ⟨#[110,110]⟩,.slice (some ⟨g,0,none⟩) 2 2]∧TmsK N X (some ⟨g,0,none⟩) [atomT ⟨#[97]⟩,atomT ⟨#[98]⟩]:=hc 25 (of_decide_eq_true rfl) rfl
    exact ⟨.slice (some ⟨X.heap.size,0,none⟩) 1 1,X.alloc (.cells #[.int .i64 3,.int .i64 0,.string ⟨#[110,110]⟩,.slice (some ⟨g25,0,none⟩) 2 2] 30),by simp [execOp,go_sem,e111,h25],(Below.refl _ _).alloc (Nat.le_refl _) _,⟨_,rfl⟩,fun N' h1 h2=>⟨_,rfl,TmsK.rows (K:=N') (w:=X) (rs:=[(strT ⟨#[110,110]⟩ [atomT ⟨#[97]⟩,atomT ⟨#[98]⟩],some ⟨g25,0,none⟩,2)]) (e:=30) (h2 _ (Nat.le_refl _) (by simp)) (by simp [maxLen]) (fun x hx=>by
     simp only [List.mem_cons,List.mem_nil_iff,or_false] at hx
     rcases hx with rfl
     ·exact row_stab ht25 (fun b hb=>((Below.refl X.heap.size X).alloc (Nat.le_refl _) _).block b (hC.lt b hb)) h1)⟩⟩
   ·cases ho
    refine srv_calG rfl rfl (fun val hA=>hA 20 (of_decide_eq_true rfl)) fun val E X N hE hC hA hc=>?_
    obtain ⟨g26,h26,ht26⟩:∃g,val 26=.slice (some ⟨g,0,none⟩) 1 1∧TmsK N X (some ⟨g,0,none⟩) [strT ⟨#[110,110]⟩ [atomT ⟨#[97]⟩,atomT ⟨#[98]⟩]]:=hc 26 (of_decide_eq_true rfl) rfl
    have e112:E (.tmp 112)=val 26:=by rw [hE.eq];rfl
    exact ⟨_,_,by simp [execOp,go_sem,hE.c,hE.f,e112,h26] <;> rfl,(HLF.out ⟨#[113,113]⟩ _ _ _ X).mono fun e w' h=>⟨_,h.1,h.2,⟨g26,rfl⟩,fun N' h1 _=>⟨g26,rfl,row_stab ht26 (fun b hb=>h.2.block b (hC.lt b hb)) h1⟩⟩⟩
   ·cases ho
    refine srv_calG rfl rfl (fun val hA=>hA 20 (of_decide_eq_true rfl)) fun val E X N hE hC hA hc=>?_
    have h21:val 21=.agg #[.slice A1 n1 c1,.int .i64 1,.int .i64 1,.bool false,.bool false,.slice none 0 0]:=hA 21 (of_decide_eq_true rfl)
    have e107:E (.tmp 107)=val 21:=by rw [hE.eq];rfl
    obtain ⟨g27,h27,ht27⟩:∃g,val 27=.agg #[.int .i64 3,.int .i64 0,.string ⟨#[113,113]⟩,.slice (some ⟨g,0,none⟩) 1 1]∧TmsK N X (some ⟨g,0,none⟩) [strT ⟨#[110,110]⟩ [atomT ⟨#[97]⟩,atomT ⟨#[98]⟩]]:=hc 27 (of_decide_eq_true rfl) rfl
    have e113:E (.tmp 113)=val 27:=by rw [hE.eq];rfl
    have h:=l_is ⟨#[113,113,32,97,32,110,110,32,98,46]⟩ A1 n1 c1 1 1 false false none 0 0 (strT ⟨#[113,113]⟩ [strT ⟨#[110,110]⟩ [atomT ⟨#[97]⟩,atomT ⟨#[98]⟩]]) (some ⟨g27,0,none⟩) 1 (-1) P [] X (HT3.out.below hC.bel) rfl (Nat.zero_le _) (Pairs.nil _ _) (by decide) (TmsK.at' ht27)
    rw [show isR (⟨#[113,113,32,97,32,110,110,32,98,46]⟩:ByteArray).data.toList ⟨P,1,1,false,false,[]⟩ (strT ⟨#[113,113]⟩ [strT ⟨#[110,110]⟩ [atomT ⟨#[97]⟩,atomT ⟨#[98]⟩]]) (-1)=true from (HGT.out HLL.out).2.2] at h
    exact ⟨_,_,by simp [execOp,go_sem,hE.c,hE.f,e107,h21,e113,h27] <;> first | rfl | exact ⟨rfl,rfl⟩ | exact ⟨rfl,rfl,rfl⟩ | exact ⟨rfl,rfl,rfl,rfl⟩,h.mono fun e w' h=>⟨_,h.1,h.2,rfl,fun _ _ _=>trivial⟩⟩
   ·cases ho
    refine srv_pure rfl rfl (fun val E hE hA=>?_)
    have e106:E (.tmp 106)=val 20:=by rw [hE.eq];rfl
    have h20:val 20=.bool true:=hA 20 (of_decide_eq_true rfl)
    have e114:E (.tmp 114)=val 28:=by rw [hE.eq];rfl
    have h28:val 28=.bool true:=hA 28 (of_decide_eq_true rfl)
    exact ⟨.bool true,fun X=>by simp [execOp,go_sem,hE.c,e106,h20,e114,h28],rfl⟩
   ·cases ho
    refine srv_pure rfl rfl (fun val E hE hA=>?_)
    have e115:E (.tmp 115)=val 29:=by rw [hE.eq];rfl
    have h29:val 29=.bool true:=hA 29 (of_decide_eq_true rfl)
    exact ⟨.bool true,fun X=>by simp [execOp,go_sem,e115,h29],rfl⟩
   ·cases ho
    refine srv_calVG (true) rfl rfl (fun _ _ _=>trivial) (fun val hA=>hA 30 (of_decide_eq_true rfl)) (fun _ val E X hE hB hA=>?_) (fun h=>absurd rfl h)
    exact ⟨_,_,_,by simp [execOp,go_sem,hE.f] <;> rfl,HAW.out X (HB3.out.trans (hB.mono HB3.out.size)),rfl⟩
   ·cases ho
    refine srv_pure rfl rfl (fun val E hE hA=>?_)
    have e116:E (.tmp 116)=val 30:=by rw [hE.eq];rfl
    have h30:val 30=.bool true:=hA 30 (of_decide_eq_true rfl)
    have e117:E (.tmp 117)=val 31:=by rw [hE.eq];rfl
    have h31:val 31=.bool true:=hA 31 (of_decide_eq_true rfl)
    exact ⟨.bool true,fun X=>by simp [execOp,go_sem,hE.c,e116,h30,e117,h31],rfl⟩
   ·cases ho
    refine srv_pure rfl rfl (fun val E hE hA=>?_)
    have e118:E (.tmp 118)=val 32:=by rw [hE.eq];rfl
    have h32:val 32=.bool true:=hA 32 (of_decide_eq_true rfl)
    exact ⟨.bool true,fun X=>by simp [execOp,go_sem,e118,h32],rfl⟩
  case finb=>
   have h0:val 0=.agg #[.slice A1 n1 c1,.int .i64 1,.int .i64 1,.bool false,.bool false,.slice none 0 0]:=hv 0 (show 0<34 by decide)
   have h1:val 1=.agg #[.int .i64 2,.int .i64 0,.string ⟨#[97]⟩,.slice none 0 0]:=hv 1 (show 1<34 by decide)
   have h2:val 2=.agg #[.int .i64 2,.int .i64 0,.string ⟨#[98]⟩,.slice none 0 0]:=hv 2 (show 2<34 by decide)
   have h3:val 3=.agg #[.int .i64 2,.int .i64 0,.string ⟨#[99]⟩,.slice none 0 0]:=hv 3 (show 3<34 by decide)
   obtain ⟨g4,h4⟩:∃g,val 4=.slice (some ⟨g,0,none⟩) 2 2:=hv 4 (show 4<34 by decide)
   obtain ⟨gg5,h5⟩:∃g,val 5=.agg #[.int .i64 3,.int .i64 0,.string ⟨#[110,110]⟩,.slice (some ⟨g,0,none⟩) 2 2]:=hv 5 (show 5<34 by decide)
   obtain ⟨g6,h6⟩:∃g,val 6=.slice (some ⟨g,0,none⟩) 2 2:=hv 6 (show 6<34 by decide)
   obtain ⟨gg7,h7⟩:∃g,val 7=.agg #[.int .i64 3,.int .i64 0,.string ⟨#[109,109]⟩,.slice (some ⟨g,0,none⟩) 2 2]:=hv 7 (show 7<34 by decide)
   have h8:val 8=.bool true:=hv 8 (show 8<34 by decide)
   have h9:val 9=.bool true:=hv 9 (show 9<34 by decide)
   have h10:val 10=.agg #[.slice A1 n1 c1,.int .i64 1,.int .i64 1,.bool false,.bool false,.slice none 0 0]:=hv 10 (show 10<34 by decide)
   have h11:val 11=.agg #[.int .i64 2,.int .i64 0,.string ⟨#[97]⟩,.slice none 0 0]:=hv 11 (show 11<34 by decide)
   have h12:val 12=.agg #[.int .i64 2,.int .i64 0,.string ⟨#[98]⟩,.slice none 0 0]:=hv 12 (show 12<34 by decide)
   obtain ⟨g13,h13⟩:∃g,val 13=.slice (some ⟨g,0,none⟩) 2 2:=hv 13 (show 13<34 by decide)
   obtain ⟨gg14,h14⟩:∃g,val 14=.agg #[.int .i64 3,.int .i64 0,.string ⟨#[110,110]⟩,.slice (some ⟨g,0,none⟩) 2 2]:=hv 14 (show 14<34 by decide)
   have h15:val 15=.agg #[.int .i64 2,.int .i64 0,.string ⟨#[99]⟩,.slice none 0 0]:=hv 15 (show 15<34 by decide)
   obtain ⟨g16,h16⟩:∃g,val 16=.slice (some ⟨g,0,none⟩) 2 2:=hv 16 (show 16<34 by decide)
   obtain ⟨gg17,h17⟩:∃g,val 17=.agg #[.int .i64 3,.int .i64 0,.string ⟨#[109,109]⟩,.slice (some ⟨g,0,none⟩) 2 2]:=hv 17 (show 17<34 by decide)
   have h18:val 18=.bool true:=hv 18 (show 18<34 by decide)
   have h19:val 19=.bool true:=hv 19 (show 19<34 by decide)
   have h20:val 20=.bool true:=hv 20 (show 20<34 by decide)
   have h21:val 21=.agg #[.slice A1 n1 c1,.int .i64 1,.int .i64 1,.bool false,.bool false,.slice none 0 0]:=hv 21 (show 21<34 by decide)
   have h22:val 22=.agg #[.int .i64 2,.int .i64 0,.string ⟨#[97]⟩,.slice none 0 0]:=hv 22 (show 22<34 by decide)
   have h23:val 23=.agg #[.int .i64 2,.int .i64 0,.string ⟨#[98]⟩,.slice none 0 0]:=hv 23 (show 23<34 by decide)
   obtain ⟨g24,h24⟩:∃g,val 24=.slice (some ⟨g,0,none⟩) 2 2:=hv 24 (show 24<34 by decide)
   obtain ⟨gg25,h25⟩:∃g,val 25=.agg #[.int .i64 3,.int .i64 0,.string ⟨#[110,110]⟩,.slice (some ⟨g,0,none⟩) 2 2]:=hv 25 (show 25<34 by decide)
   obtain ⟨g26,h26⟩:∃g,val 26=.slice (some ⟨g,0,none⟩) 1 1:=hv 26 (show 26<34 by decide)
   obtain ⟨gg27,h27⟩:∃g,val 27=.agg #[.int .i64 3,.int .i64 0,.string ⟨#[113,113]⟩,.slice (some ⟨g,0,none⟩) 1 1]:=hv 27 (show 27<34 by decide)
   have h28:val 28=.bool true:=hv 28 (show 28<34 by decide)
   have h29:val 29=.bool true:=hv 29 (show 29<34 by decide)
   have h30:val 30=.bool true:=hv 30 (show 30<34 by decide)
   have h31:val 31=.bool true:=hv 31 (show 31<34 by decide)
   have h32:val 32=.bool true:=hv 32 (show 32<34 by decide)
   have h33:val 33=.bool true:=hv 33 (show 33<34 by decide)
   refine hK9 _ _ ?_
   simp only [fillD,List.set_cons_zero,List.set_cons_succ,Nat.reduceAdd,Nat.zero_add,h0,h1,h2,h3,h4,h5,h6,h7,h8,h9,h10,h11,h12,h13,h14,h15,h16,h17,h18,h19,h20,h21,h22,h23,h24,h25,h26,h27,h28,h29,h30,h31,h32,h33]
   have HBY:=Lib.hid (HB3.out.trans (HF.bel.mono HB3.out.size))
   clear hv HF hK9 h0 h1 h2 h3 h4 h5 h6 h7 h8 h9 h10 h11 h12 h13 h14 h15 h16 h17 h18 h19 h20 h21 h22 h23 h24 h25 h26 h27 h28 h29 h30 h31 h32 h33 HB3 HT3 HK3
   go_wp2_with fail
   go_ret
   exact ⟨rfl,HBY.out⟩
end Go.Proofs.YtbojljpldcijgaaGreat
