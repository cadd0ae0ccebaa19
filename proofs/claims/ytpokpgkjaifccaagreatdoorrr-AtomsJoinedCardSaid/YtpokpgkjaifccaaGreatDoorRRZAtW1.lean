/- Atoms: the law AtomsJoined. -/
import Derived.Test.YtpokpgkjaifccaaGreatDoorRRH01
import Derived.Test.YtpokpgkjaifccaaGreatDoorRRH30
import Derived.Test.YtpokpgkjaifccaaGreatDoorRRZAtW0
import Derived.Test.YtpokpgkjaifccaaGreatDoorRRZRw
namespace Go.Proofs.YtpokpgkjaifccaaGreatDoorRR
open Go.RowKit Hb Go.Shelf
set_option maxRecDepth 100000
set_option maxHeartbeats 3200000 in
theorem law_joined (p q:ByteArray) (hpq0:p.size+q.size≤1152921504606846976) (w:World) (hD:DoorOk w):Calls Tryz.prog 6 #[.string p,.string q] w fun e w'=>e=.returned (.bool true)∧Below w.heap.size w w':=by
 have HDO:=zq hD
 have HLA:=zq (fun s W=>l_a s W)
 have HLX:=zq (fun n W=>l_x n W)
 have HLN:=zq (fun n W=>l_n n W)
 have HLF:=zq (fun s A n c W=>l_f s A n c W)
 have HAW:=zq (fun W (h:Below w.heap.size w W)=>l_awake W (hD.below h))
 have HB0:=zq (Below.refl w.heap.size w)
 have hw0:wrap64 ((p.size:Int)+(q.size:Int))=(p.size:Int)+(q.size:Int):=IntWalk.wrap64_in _ (by omega)
 have hv0:IntKind.i64.wrap ((p.size:Int)+(q.size:Int))=(p.size:Int)+(q.size:Int):=IntWalk.i64_in _ (by omega)
 clear hD
 by_cases hs:p.size+q.size≤100
 rotate_left
 ·have hs':(100:Int)<(p.size:Int)+(q.size:Int):=by omega
  clear hs hpq0
  go_enter Tryz.func6,Tryz.ntmps6
  go_wp2_with fail
  refine (HAW.out _ HB0.out).mono ?_;rintro e wz ⟨rfl,hB⟩
  have HBZ:=bz HB0 hB
  clear hB HB0
  go_wp2_with fail
  go_ret
  exact ⟨rfl,HBZ.out⟩
 ·obtain ⟨pq,hpq⟩:∃t,p++q=t:=⟨_,rfl⟩
  have hsz:pq.size=p.size+q.size:=by rw [←hpq,ByteArray.size_append]
  have HPQ:=zq hpq
  have HSZ:=zq (show pq.size≤100 by omega)
  have HSQ:=zq hsz
  have hs':¬(100:Int)<(p.size:Int)+(q.size:Int):=by omega
  have hps:p.size+q.size≤9223372036854775807:=by omega
  have hI64:Hid (I64 ((p.size:Int)+(q.size:Int))):=zq ⟨by omega,by omega⟩
  clear hs hpq0 hsz
  go_enter Tryz.func6,Tryz.ntmps6
  go_wp2_with fail
  have HLA0:Hid (∀W,Calls Tryz.prog 17 #[.string pq] W fun e w'=>e=.returned (.agg #[.int .i64 2,.int .i64 0,.string pq,.slice none 0 0])∧Below W.heap.size W w'):=zq fun W=>HLA.out pq W
  refine (HLA0.out _).mono ?_;rintro e w1 ⟨rfl,hB⟩
  obtain ⟨y1,HY1⟩:=lz (w1.alloc (.cells #[.int .i64 2,.int .i64 0,.string pq,.slice none 0 0] 32))
  have HZ1:Hid (Below w1.heap.size w1 y1):=zq (by rw [HY1.out];exact (Below.refl _ _).alloc (Nat.le_refl _) _)
  have HBA:=bz HB0 hB
  have HB1:=zq (HBA.out.trans (HZ1.out.mono HBA.out.size))
  have HK1:Hid (Bk y1 w1.heap.size [.int .i64 2,.int .i64 0,.string pq,.slice none 0 0]):=zq (by rw [HY1.out];exact Bk.new w1 [.int .i64 2,.int .i64 0,.string pq,.slice none 0 0] 32)
  obtain ⟨g5,hg5⟩:∃g,g=w1.heap.size:=⟨_,rfl⟩
  clear hB HB0 HBA HZ1
  go_upto_region 4 with fail
  rw [←HY1.out]
  clear HY1
  go_cut [91] from 21 to 90 (fun v wc=>v=.bool false∧Hid (Below w.heap.size w wc)∧Hid (Bk wc w1.heap.size [.int .i64 2,.int .i64 0,.string pq,.slice none 0 0]))
  case first=>
   go_wp2_with fail
   rename_i K4 hK4
   refine region_own (w0:=y1) [rPure [] [0] (fun | [v]=>v=.string p | _=>False),
     rVal [0] [1] (fun | [v]=>v=.agg #[.int .i64 2,.int .i64 0,.string p,.slice none 0 0] | _=>False),
     rPure [] [2] (fun | [v]=>v=.string q | _=>False),
     rVal (List.range 3) [3] (fun | [v]=>v=.agg #[.int .i64 2,.int .i64 0,.string q,.slice none 0 0] | _=>False),
     rVal (List.range 4) [4] (fun | [v]=>v=.agg #[.int .i64 0,.int .i64 0,.string ⟨#[]⟩,.slice none 0 0] | _=>False),
     rRow (List.range 5) 5 3 [atomT p,atomT q,varT 0],
     rGoal (List.range 6) 6 ⟨#[97,116,111,109,95,99,111,110,99,97,116]⟩ 3 [atomT p,atomT q,varT 0],
     rPure [] [7] (fun | [v]=>v=.string p | _=>False),
     rVal (List.range 8) [8] (fun | [v]=>v=.agg #[.int .i64 2,.int .i64 0,.string p,.slice none 0 0] | _=>False),
     rPure [] [9] (fun | [v]=>v=.string q | _=>False),
     rVal (List.range 10) [10] (fun | [v]=>v=.agg #[.int .i64 2,.int .i64 0,.string q,.slice none 0 0] | _=>False),
     rVal [] [11] (fun | [v]=>v=.agg #[.int .i64 2,.int .i64 0,.string pq,.slice none 0 0] | _=>False),
     rRow (List.range 12) 12 3 [atomT p,atomT q,atomT pq],
     rGoal (List.range 13) 13 ⟨#[97,116,111,109,95,99,111,110,99,97,116]⟩ 3 [atomT p,atomT q,atomT pq],
     rRow (List.range 14) 14 1 [strT ⟨#[97,116,111,109,95,99,111,110,99,97,116]⟩ [atomT p,atomT q,atomT pq]],
     rVal (List.range 15) [15] (fun | [v]=>v=.bool true | _=>False),
     rPure (List.range 16) [16] (fun | [v]=>v=.bool false | _=>False),
     rPure (List.range 17) [17] (fun | [v]=>v=.bool false | _=>False),
     rPure (List.range 18) [18] (fun | [v]=>v=.string p | _=>False),
     rVal (List.range 19) [19] (fun | [v]=>v=.agg #[.int .i64 2,.int .i64 0,.string p,.slice none 0 0] | _=>False),
     rVal (List.range 20) [20] (fun | [v]=>v=.agg #[.int .i64 0,.int .i64 0,.string ⟨#[]⟩,.slice none 0 0] | _=>False),
     rVal (List.range 18) [21] (fun | [v]=>v=.agg #[.int .i64 2,.int .i64 0,.string pq,.slice none 0 0] | _=>False),
     rRow (List.range 22) 22 3 [atomT p,varT 0,atomT pq],
     rGoal (List.range 23) 23 ⟨#[97,116,111,109,95,99,111,110,99,97,116]⟩ 3 [atomT p,varT 0,atomT pq],
     rPure (List.range 18) [24] (fun | [v]=>v=.string p | _=>False),
     rVal (List.range 25) [25] (fun | [v]=>v=.agg #[.int .i64 2,.int .i64 0,.string p,.slice none 0 0] | _=>False),
     rPure (List.range 18) [26] (fun | [v]=>v=.string q | _=>False),
     rVal (List.range 27) [27] (fun | [v]=>v=.agg #[.int .i64 2,.int .i64 0,.string q,.slice none 0 0] | _=>False),
     rVal (List.range 18) [28] (fun | [v]=>v=.agg #[.int .i64 2,.int .i64 0,.string pq,.slice none 0 0] | _=>False),
     rRow (List.range 29) 29 3 [atomT p,atomT q,atomT pq],
     rGoal (List.range 30) 30 ⟨#[97,116,111,109,95,99,111,110,99,97,116]⟩ 3 [atomT p,atomT q,atomT pq],
     rRow (List.range 31) 31 1 [strT ⟨#[97,116,111,109,95,99,111,110,99,97,116]⟩ [atomT p,atomT q,atomT pq]],
     rVal (List.range 32) [32] (fun | [v]=>v=.bool true | _=>False),
     rPure (List.range 33) [33] (fun | [v]=>v=.bool false | _=>False),
     rPure (List.range 34) [34] (fun | [v]=>v=.bool false | _=>False),
     rPure (List.range 35) [35] (fun | [v]=>v=.bool false | _=>False),
     rVal (List.range 36) [36] (fun | [v]=>v=.agg #[.int .i64 0,.int .i64 0,.string ⟨#[]⟩,.slice none 0 0] | _=>False),
     rPure (List.range 36) [37] (fun | [v]=>v=.string q | _=>False),
     rVal (List.range 38) [38] (fun | [v]=>v=.agg #[.int .i64 2,.int .i64 0,.string q,.slice none 0 0] | _=>False),
     rVal (List.range 36) [39] (fun | [v]=>v=.agg #[.int .i64 2,.int .i64 0,.string pq,.slice none 0 0] | _=>False),
     rRow (List.range 40) 40 3 [varT 0,atomT q,atomT pq],
     rGoal (List.range 41) 41 ⟨#[97,116,111,109,95,99,111,110,99,97,116]⟩ 3 [varT 0,atomT q,atomT pq],
     rPure (List.range 36) [42] (fun | [v]=>v=.string p | _=>False),
     rVal (List.range 43) [43] (fun | [v]=>v=.agg #[.int .i64 2,.int .i64 0,.string p,.slice none 0 0] | _=>False),
     rPure (List.range 36) [44] (fun | [v]=>v=.string q | _=>False),
     rVal (List.range 45) [45] (fun | [v]=>v=.agg #[.int .i64 2,.int .i64 0,.string q,.slice none 0 0] | _=>False),
     rVal (List.range 36) [46] (fun | [v]=>v=.agg #[.int .i64 2,.int .i64 0,.string pq,.slice none 0 0] | _=>False),
     rRow (List.range 47) 47 3 [atomT p,atomT q,atomT pq],
     rGoal (List.range 48) 48 ⟨#[97,116,111,109,95,99,111,110,99,97,116]⟩ 3 [atomT p,atomT q,atomT pq],
     rRow (List.range 49) 49 1 [strT ⟨#[97,116,111,109,95,99,111,110,99,97,116]⟩ [atomT p,atomT q,atomT pq]],
     rVal (List.range 50) [50] (fun | [v]=>v=.bool true | _=>False),
     rPure (List.range 51) [51] (fun | [v]=>v=.bool false | _=>False),
     rPure (List.range 52) [52] (fun | [v]=>v=.bool false | _=>False),
     rPure (List.range 53) [53] (fun | [v]=>v=.bool false | _=>False),
     rVal (List.range 54) [54] (fun | [v]=>v=.agg #[.int .i64 2,.int .i64 0,.string pq,.slice none 0 0] | _=>False),
     rVal (List.range 54) [55] (fun | [v]=>v=.agg #[.int .i64 0,.int .i64 0,.string ⟨#[]⟩,.slice none 0 0] | _=>False),
     rRow (List.range 56) 56 2 [atomT pq,varT 0],
     rGoal (List.range 57) 57 ⟨#[97,116,111,109,95,108,101,110,103,116,104]⟩ 2 [atomT pq,varT 0],
     rVal (List.range 54) [58] (fun | [v]=>v=.agg #[.int .i64 2,.int .i64 0,.string pq,.slice none 0 0] | _=>False),
     rPure (List.range 54) [59] (fun | [v]=>v=.string p | _=>False),
     rPure [0,1,2,3,4,5,6,7,8,9,10,11,12,13,14,15,16,17,18,19,20,21,22,23,24,25,26,27,28,29,30,31,32,33,34,35,36,37,38,39,40,41,42,43,44,45,46,47,48,49,50,51,52,53,59] [60] (fun | [v]=>v=.int .i64 (p.size:Int) | _=>False),
     rPure (List.range 54) [61] (fun | [v]=>v=.string q | _=>False),
     rPure [0,1,2,3,4,5,6,7,8,9,10,11,12,13,14,15,16,17,18,19,20,21,22,23,24,25,26,27,28,29,30,31,32,33,34,35,36,37,38,39,40,41,42,43,44,45,46,47,48,49,50,51,52,53,61] [62] (fun | [v]=>v=.int .i64 (q.size:Int) | _=>False),
     rPure [0,1,2,3,4,5,6,7,8,9,10,11,12,13,14,15,16,17,18,19,20,21,22,23,24,25,26,27,28,29,30,31,32,33,34,35,36,37,38,39,40,41,42,43,44,45,46,47,48,49,50,51,52,53,59,60,61,62] [63] (fun | [v]=>v=.int .i64 ((p.size:Int)+(q.size:Int)) | _=>False),
     rVal [0,1,2,3,4,5,6,7,8,9,10,11,12,13,14,15,16,17,18,19,20,21,22,23,24,25,26,27,28,29,30,31,32,33,34,35,36,37,38,39,40,41,42,43,44,45,46,47,48,49,50,51,52,53,54,55,56,57,59,60,61,62,63] [64] (fun | [v]=>v=.agg #[.int .i64 1,.int .i64 ((p.size:Int)+(q.size:Int)),.string ⟨#[]⟩,.slice none 0 0] | _=>False),
     rRow (List.range 65) 65 2 [atomT pq,intT ((p.size:Int)+(q.size:Int))],
     rGoal (List.range 66) 66 ⟨#[97,116,111,109,95,108,101,110,103,116,104]⟩ 2 [atomT pq,intT ((p.size:Int)+(q.size:Int))],
     rRow (List.range 67) 67 1 [strT ⟨#[97,116,111,109,95,108,101,110,103,116,104]⟩ [atomT pq,intT ((p.size:Int)+(q.size:Int))]],
     rVal (List.range 68) [68] (fun | [v]=>v=.bool true | _=>False),
     rPure (List.range 69) [69] (fun | [v]=>v=.bool false | _=>False),
     rPure (List.range 70) [70] (fun | [v]=>v=.bool false | _=>False)]
     [some 21,some 22,some 23,some 24,some 25,some 26,some 27,some 28,some 29,some 30,some 31,some 32,some 33,some 34,some 35,some 36,some 37,some 38,some 39,some 40,some 41,some 42,some 43,some 44,some 45,some 46,some 47,some 48,some 49,some 50,some 51,some 52,some 53,some 54,some 55,some 56,some 57,some 58,some 59,some 60,some 61,some 62,some 63,some 64,some 65,some 66,some 67,some 68,some 69,some 70,some 71,some 72,some 73,some 74,some 75,some 76,some 77,some 78,some 79,some 80,some 81,some 82,some 83,some 84,some 85,some 86,some 87,some 88,some 89,some 90,some 91] (fun _=>True) (y1.heap.size) (by kernel_rfl) (Nat.le_refl _) (by kernel_rfl) (by kernel_rfl) (by kernel_rfl) (fun j o ho=>?srv4) (fun val Y4 N hv HF=>?fin4)
   case srv4=>
     have hlt:j<71:=(Array.getElem?_eq_some_iff.1 ho).1
     rcases (show j=0∨j=1∨j=2∨j=3∨j=4∨j=5∨j=6∨j=7∨j=8∨j=9∨j=10∨j=11∨j=12∨j=13∨j=14∨j=15∨j=16∨j=17∨j=18∨j=19∨j=20∨j=21∨j=22∨j=23∨j=24∨j=25∨j=26∨j=27∨j=28∨j=29∨j=30∨j=31∨j=32∨j=33∨j=34∨j=35∨j=36∨j=37∨j=38∨j=39∨j=40∨j=41∨j=42∨j=43∨j=44∨j=45∨j=46∨j=47∨j=48∨j=49∨j=50∨j=51∨j=52∨j=53∨j=54∨j=55∨j=56∨j=57∨j=58∨j=59∨j=60∨j=61∨j=62∨j=63∨j=64∨j=65∨j=66∨j=67∨j=68∨j=69∨j=70 by omega) with rfl | rfl | rfl | rfl | rfl | rfl | rfl | rfl | rfl | rfl | rfl | rfl | rfl | rfl | rfl | rfl | rfl | rfl | rfl | rfl | rfl | rfl | rfl | rfl | rfl | rfl | rfl | rfl | rfl | rfl | rfl | rfl | rfl | rfl | rfl | rfl | rfl | rfl | rfl | rfl | rfl | rfl | rfl | rfl | rfl | rfl | rfl | rfl | rfl | rfl | rfl | rfl | rfl | rfl | rfl | rfl | rfl | rfl | rfl | rfl | rfl | rfl | rfl | rfl | rfl | rfl | rfl | rfl | rfl | rfl | rfl
     ·cases ho
      refine srv_pure rfl rfl (fun val E hE hA=>?_)
      have e0:=hE.t 0 (.string p) rfl
      exact ⟨.string p,fun X=>by simp [execOp,go_sem,e0],rfl⟩
     ·cases ho
      refine srv_calV rfl rfl (fun _ _ _=>trivial) (fun val E X hE hB hA=>?_)
      have e21:=hE.t 21 (val 0) rfl
      have h0:val 0=.string p:=hA 0 (oz rfl)
      exact ⟨_,_,_,by simp [execOp,go_sem,hE.f,e21,h0] <;> rfl,HLA.out p X,rfl⟩
     ·cases ho
      refine srv_pure rfl rfl (fun val E hE hA=>?_)
      have e1:=hE.t 1 (.string q) rfl
      exact ⟨.string q,fun X=>by simp [execOp,go_sem,e1],rfl⟩
     ·cases ho
      refine srv_calV rfl rfl (fun _ _ _=>trivial) (fun val E X hE hB hA=>?_)
      have e23:=hE.t 23 (val 2) rfl
      have h2:val 2=.string q:=hA 2 (oz rfl)
      exact ⟨_,_,_,by simp [execOp,go_sem,hE.f,e23,h2] <;> rfl,HLA.out q X,rfl⟩
     ·cases ho
      refine srv_calV rfl rfl (fun _ _ _=>trivial) (fun val E X hE hB hA=>?_)
      exact ⟨_,_,_,by simp [execOp,go_sem,hE.c,hE.f] <;> rfl,HLX.out 0 X,rfl⟩
     ·cases ho
      refine srv_mk rfl rfl fun val E X N hE hC hA hc=>?_
      have e22:=hE.t 22 (val 1) rfl
      have h1:val 1=.agg #[.int .i64 2,.int .i64 0,.string p,.slice none 0 0]:=hA 1 (oz rfl)
      have e24:=hE.t 24 (val 3) rfl
      have h3:val 3=.agg #[.int .i64 2,.int .i64 0,.string q,.slice none 0 0]:=hA 3 (oz rfl)
      have e25:=hE.t 25 (val 4) rfl
      have h4:val 4=.agg #[.int .i64 0,.int .i64 0,.string ⟨#[]⟩,.slice none 0 0]:=hA 4 (oz rfl)
      exact ⟨.slice (some ⟨X.heap.size,0,none⟩) 3 3,X.alloc (.cells #[.int .i64 2,.int .i64 0,.string p,.slice none 0 0,.int .i64 2,.int .i64 0,.string q,.slice none 0 0,.int .i64 0,.int .i64 0,.string ⟨#[]⟩,.slice none 0 0] 32),by simp [execOp,go_sem,e22,h1,e24,h3,e25,h4],(Below.refl _ _).alloc (Nat.le_refl _) _,⟨_,rfl⟩,fun N' h1 h2=>⟨_,rfl,TmsK.rows (K:=N') (w:=X) (rs:=[(atomT p,none,0),(atomT q,none,0),(varT 0,none,0)]) (e:=32) (h2 _ (Nat.le_refl _) (by simp)) (by simp [maxLen]) (fun x hx=>by
       simp only [List.mem_cons,List.mem_nil_iff,or_false] at hx
       rcases hx with rfl | rfl | rfl
       ·exact TmsK.nil
       ·exact TmsK.nil
       ·exact TmsK.nil)⟩⟩
     ·cases ho
      refine srv_cal rfl rfl fun val E X N hE hC hA hc=>?_
      obtain ⟨g5,h5,ht5⟩:∃g,val 5=.slice (some ⟨g,0,none⟩) 3 3∧TmsK N X (some ⟨g,0,none⟩) [atomT p,atomT q,varT 0]:=hc 5 (oz rfl) rfl
      have e26:=hE.t 26 (val 5) rfl
      exact ⟨_,_,by simp [execOp,go_sem,hE.c,hE.f,e26,h5] <;> rfl,(HLF.out ⟨#[97,116,111,109,95,99,111,110,99,97,116]⟩ _ _ _ X).mono fun e w' h=>⟨_,h.1,h.2,⟨g5,rfl⟩,fun N' h1 _=>⟨g5,rfl,row_stab ht5 (fun b hb=>h.2.block b (hC.lt b hb)) h1⟩⟩⟩
     ·cases ho
      refine srv_pure rfl rfl (fun val E hE hA=>?_)
      have e0:=hE.t 0 (.string p) rfl
      exact ⟨.string p,fun X=>by simp [execOp,go_sem,e0],rfl⟩
     ·cases ho
      refine srv_calV rfl rfl (fun _ _ _=>trivial) (fun val E X hE hB hA=>?_)
      have e28:=hE.t 28 (val 7) rfl
      have h7:val 7=.string p:=hA 7 (oz rfl)
      exact ⟨_,_,_,by simp [execOp,go_sem,hE.f,e28,h7] <;> rfl,HLA.out p X,rfl⟩
     ·cases ho
      refine srv_pure rfl rfl (fun val E hE hA=>?_)
      have e1:=hE.t 1 (.string q) rfl
      exact ⟨.string q,fun X=>by simp [execOp,go_sem,e1],rfl⟩
     ·cases ho
      refine srv_calV rfl rfl (fun _ _ _=>trivial) (fun val E X hE hB hA=>?_)
      have e30:=hE.t 30 (val 9) rfl
      have h9:val 9=.string q:=hA 9 (oz rfl)
      exact ⟨_,_,_,by simp [execOp,go_sem,hE.f,e30,h9] <;> rfl,HLA.out q X,rfl⟩
     ·cases ho
      refine srv_val rfl rfl (fun _ _ _=>trivial) (fun val E X hE hB hA=>?_)
      have e5:=hE.t 5 (.pointer (some ⟨w1.heap.size,0,none⟩)) rfl
      have hk5:=(HK1.out.call hB).all0
      simp only [bkAll,Nat.zero_add,Nat.reduceAdd,and_true] at hk5
      exact ⟨.agg #[.int .i64 2,.int .i64 0,.string pq,.slice none 0 0],by simp [execOp,go_sem,e5,hk5],rfl⟩
     ·cases ho
      refine srv_mk rfl rfl fun val E X N hE hC hA hc=>?_
      have e29:=hE.t 29 (val 8) rfl
      have h8:val 8=.agg #[.int .i64 2,.int .i64 0,.string p,.slice none 0 0]:=hA 8 (oz rfl)
      have e31:=hE.t 31 (val 10) rfl
      have h10:val 10=.agg #[.int .i64 2,.int .i64 0,.string q,.slice none 0 0]:=hA 10 (oz rfl)
      have e32:=hE.t 32 (val 11) rfl
      have h11:val 11=.agg #[.int .i64 2,.int .i64 0,.string pq,.slice none 0 0]:=hA 11 (oz rfl)
      exact ⟨.slice (some ⟨X.heap.size,0,none⟩) 3 3,X.alloc (.cells #[.int .i64 2,.int .i64 0,.string p,.slice none 0 0,.int .i64 2,.int .i64 0,.string q,.slice none 0 0,.int .i64 2,.int .i64 0,.string pq,.slice none 0 0] 32),by simp [execOp,go_sem,e29,h8,e31,h10,e32,h11],(Below.refl _ _).alloc (Nat.le_refl _) _,⟨_,rfl⟩,fun N' h1 h2=>⟨_,rfl,TmsK.rows (K:=N') (w:=X) (rs:=[(atomT p,none,0),(atomT q,none,0),(atomT pq,none,0)]) (e:=32) (h2 _ (Nat.le_refl _) (by simp)) (by simp [maxLen]) (fun x hx=>by
       simp only [List.mem_cons,List.mem_nil_iff,or_false] at hx
       rcases hx with rfl | rfl | rfl
       ·exact TmsK.nil
       ·exact TmsK.nil
       ·exact TmsK.nil)⟩⟩
     ·cases ho
      refine srv_cal rfl rfl fun val E X N hE hC hA hc=>?_
      obtain ⟨g12,h12,ht12⟩:∃g,val 12=.slice (some ⟨g,0,none⟩) 3 3∧TmsK N X (some ⟨g,0,none⟩) [atomT p,atomT q,atomT pq]:=hc 12 (oz rfl) rfl
      have e33:=hE.t 33 (val 12) rfl
      exact ⟨_,_,by simp [execOp,go_sem,hE.c,hE.f,e33,h12] <;> rfl,(HLF.out ⟨#[97,116,111,109,95,99,111,110,99,97,116]⟩ _ _ _ X).mono fun e w' h=>⟨_,h.1,h.2,⟨g12,rfl⟩,fun N' h1 _=>⟨g12,rfl,row_stab ht12 (fun b hb=>h.2.block b (hC.lt b hb)) h1⟩⟩⟩
     ·cases ho
      refine srv_mk rfl rfl fun val E X N hE hC hA hc=>?_
      have e34:=hE.t 34 (val 13) rfl
      obtain ⟨g13,h13,ht13⟩:∃g,val 13=.agg #[.int .i64 3,.int .i64 0,.string ⟨#[97,116,111,109,95,99,111,110,99,97,116]⟩,.slice (some ⟨g,0,none⟩) 3 3]∧TmsK N X (some ⟨g,0,none⟩) [atomT p,atomT q,atomT pq]:=hc 13 (oz rfl) rfl
      exact ⟨.slice (some ⟨X.heap.size,0,none⟩) 1 1,X.alloc (.cells #[.int .i64 3,.int .i64 0,.string ⟨#[97,116,111,109,95,99,111,110,99,97,116]⟩,.slice (some ⟨g13,0,none⟩) 3 3] 32),by simp [execOp,go_sem,e34,h13],(Below.refl _ _).alloc (Nat.le_refl _) _,⟨_,rfl⟩,fun N' h1 h2=>⟨_,rfl,TmsK.rows (K:=N') (w:=X) (rs:=[(strT ⟨#[97,116,111,109,95,99,111,110,99,97,116]⟩ [atomT p,atomT q,atomT pq],some ⟨g13,0,none⟩,3)]) (e:=32) (h2 _ (Nat.le_refl _) (by simp)) (by simp [maxLen]) (fun x hx=>by
       simp only [List.mem_cons,List.mem_nil_iff,or_false] at hx
       rcases hx with rfl
       ·exact row_stab ht13 (fun b hb=>((Below.refl X.heap.size X).alloc (Nat.le_refl _) _).block b (hC.lt b hb)) h1)⟩⟩
     ·cases ho
      refine srv_cal rfl rfl fun val E X N hE hC hA hc=>?_
      obtain ⟨g6,h6,ht6⟩:∃g,val 6=.agg #[.int .i64 3,.int .i64 0,.string ⟨#[97,116,111,109,95,99,111,110,99,97,116]⟩,.slice (some ⟨g,0,none⟩) 3 3]∧TmsK N X (some ⟨g,0,none⟩) [atomT p,atomT q,varT 0]:=hc 6 (oz rfl) rfl
      have e27:=hE.t 27 (val 6) rfl
      obtain ⟨g14,h14,ht14⟩:∃g,val 14=.slice (some ⟨g,0,none⟩) 1 1∧TmsK N X (some ⟨g,0,none⟩) [strT ⟨#[97,116,111,109,95,99,111,110,99,97,116]⟩ [atomT p,atomT q,atomT pq]]:=hc 14 (oz rfl) rfl
      have e35:=hE.t 35 (val 14) rfl
      have h:=l_gives (strT ⟨#[97,116,111,109,95,99,111,110,99,97,116]⟩ [atomT p,atomT q,varT 0]) (some ⟨g6,0,none⟩) 3 [strT ⟨#[97,116,111,109,95,99,111,110,99,97,116]⟩ [atomT p,atomT q,atomT pq]] (some ⟨g14,0,none⟩) 1 1 X (HDO.out.below (HB1.out.trans (hC.bel.mono HB1.out.size))) (i64_of ⟨i64_zero,i64_zero,⟨by decide,by decide⟩,trivial⟩) (Nat.le_refl _) (TmsK.at' ht6) rfl (TmsK.at' ht14)
      rw [show givesB (strT ⟨#[97,116,111,109,95,99,111,110,99,97,116]⟩ [atomT p,atomT q,varT 0]) [strT ⟨#[97,116,111,109,95,99,111,110,99,97,116]⟩ [atomT p,atomT q,atomT pq]]=true from jo1 HPQ.out HSZ.out] at h
      exact ⟨_,_,by simp [execOp,go_sem,hE.f,e27,h6,e35,h14] <;> first | rfl | exact ⟨rfl,rfl⟩,h.mono fun e w' h=>⟨_,h.1,h.2,rfl,fun _ _ _=>trivial⟩⟩
     ·cases ho
      refine srv_pure rfl rfl (fun val E hE hA=>?_)
      have e36:=hE.t 36 (val 15) rfl
      have h15:val 15=.bool true:=hA 15 (oz rfl)
      exact ⟨.bool false,fun X=>by simp [execOp,go_sem,e36,h15],rfl⟩
     ·cases ho
      refine srv_pure rfl rfl (fun val E hE hA=>?_)
      have e37:=hE.t 37 (val 16) rfl
      have h16:val 16=.bool false:=hA 16 (oz rfl)
      exact ⟨.bool false,fun X=>by simp [execOp,go_sem,e37,h16],rfl⟩
     ·cases ho
      refine srv_pureG (false) rfl rfl (fun val hA=>hA 17 (oz rfl)) (fun _ val E hE hA=>?_) (fun h=>absurd rfl h)
      have e0:=hE.t 0 (.string p) rfl
      exact ⟨.string p,fun X=>by simp [execOp,go_sem,e0],rfl⟩
     ·cases ho
      refine srv_calVG (false) rfl rfl (fun _ _ _=>trivial) (fun val hA=>hA 17 (oz rfl)) (fun _ val E X hE hB hA=>?_) (fun h=>absurd rfl h)
      have e39:=hE.t 39 (val 18) rfl
      have h18:val 18=.string p:=hA 18 (oz rfl)
      exact ⟨_,_,_,by simp [execOp,go_sem,hE.f,e39,h18] <;> rfl,HLA.out p X,rfl⟩
     ·cases ho
      refine srv_calVG (false) rfl rfl (fun _ _ _=>trivial) (fun val hA=>hA 17 (oz rfl)) (fun _ val E X hE hB hA=>?_) (fun h=>absurd rfl h)
      exact ⟨_,_,_,by simp [execOp,go_sem,hE.c,hE.f] <;> rfl,HLX.out 0 X,rfl⟩
     ·cases ho
      refine srv_valG (false) rfl rfl (fun _ _ _=>trivial) (fun val hA=>hA 17 (oz rfl)) (fun _ val E X hE hB hA=>?_) (fun h=>absurd rfl h)
      have e5:=hE.t 5 (.pointer (some ⟨w1.heap.size,0,none⟩)) rfl
      have hk5:=(HK1.out.call hB).all0
      simp only [bkAll,Nat.zero_add,Nat.reduceAdd,and_true] at hk5
      exact ⟨.agg #[.int .i64 2,.int .i64 0,.string pq,.slice none 0 0],by simp [execOp,go_sem,e5,hk5],rfl⟩
     ·cases ho
      refine srv_mkG rfl rfl (fun val hA=>hA 17 (oz rfl)) fun val E X N hE hC hA hc=>?_
      have e40:=hE.t 40 (val 19) rfl
      have h19:val 19=.agg #[.int .i64 2,.int .i64 0,.string p,.slice none 0 0]:=hA 19 (oz rfl)
      have e41:=hE.t 41 (val 20) rfl
      have h20:val 20=.agg #[.int .i64 0,.int .i64 0,.string ⟨#[]⟩,.slice none 0 0]:=hA 20 (oz rfl)
      have e42:=hE.t 42 (val 21) rfl
      have h21:val 21=.agg #[.int .i64 2,.int .i64 0,.string pq,.slice none 0 0]:=hA 21 (oz rfl)
      exact ⟨.slice (some ⟨X.heap.size,0,none⟩) 3 3,X.alloc (.cells #[.int .i64 2,.int .i64 0,.string p,.slice none 0 0,.int .i64 0,.int .i64 0,.string ⟨#[]⟩,.slice none 0 0,.int .i64 2,.int .i64 0,.string pq,.slice none 0 0] 32),by simp [execOp,go_sem,e40,h19,e41,h20,e42,h21],(Below.refl _ _).alloc (Nat.le_refl _) _,⟨_,rfl⟩,fun N' h1 h2=>⟨_,rfl,TmsK.rows (K:=N') (w:=X) (rs:=[(atomT p,none,0),(varT 0,none,0),(atomT pq,none,0)]) (e:=32) (h2 _ (Nat.le_refl _) (by simp)) (by simp [maxLen]) (fun x hx=>by
       simp only [List.mem_cons,List.mem_nil_iff,or_false] at hx
       rcases hx with rfl | rfl | rfl
       ·exact TmsK.nil
       ·exact TmsK.nil
       ·exact TmsK.nil)⟩⟩
     ·cases ho
      refine srv_calG rfl rfl (fun val hA=>hA 17 (oz rfl)) fun val E X N hE hC hA hc=>?_
      obtain ⟨g22,h22,ht22⟩:∃g,val 22=.slice (some ⟨g,0,none⟩) 3 3∧TmsK N X (some ⟨g,0,none⟩) [atomT p,varT 0,atomT pq]:=hc 22 (oz rfl) rfl
      have e43:=hE.t 43 (val 22) rfl
      exact ⟨_,_,by simp [execOp,go_sem,hE.c,hE.f,e43,h22] <;> rfl,(HLF.out ⟨#[97,116,111,109,95,99,111,110,99,97,116]⟩ _ _ _ X).mono fun e w' h=>⟨_,h.1,h.2,⟨g22,rfl⟩,fun N' h1 _=>⟨g22,rfl,row_stab ht22 (fun b hb=>h.2.block b (hC.lt b hb)) h1⟩⟩⟩
     ·cases ho
      refine srv_pureG (false) rfl rfl (fun val hA=>hA 17 (oz rfl)) (fun _ val E hE hA=>?_) (fun h=>absurd rfl h)
      have e0:=hE.t 0 (.string p) rfl
      exact ⟨.string p,fun X=>by simp [execOp,go_sem,e0],rfl⟩
     ·cases ho
      refine srv_calVG (false) rfl rfl (fun _ _ _=>trivial) (fun val hA=>hA 17 (oz rfl)) (fun _ val E X hE hB hA=>?_) (fun h=>absurd rfl h)
      have e45:=hE.t 45 (val 24) rfl
      have h24:val 24=.string p:=hA 24 (oz rfl)
      exact ⟨_,_,_,by simp [execOp,go_sem,hE.f,e45,h24] <;> rfl,HLA.out p X,rfl⟩
     ·cases ho
      refine srv_pureG (false) rfl rfl (fun val hA=>hA 17 (oz rfl)) (fun _ val E hE hA=>?_) (fun h=>absurd rfl h)
      have e1:=hE.t 1 (.string q) rfl
      exact ⟨.string q,fun X=>by simp [execOp,go_sem,e1],rfl⟩
     ·cases ho
      refine srv_calVG (false) rfl rfl (fun _ _ _=>trivial) (fun val hA=>hA 17 (oz rfl)) (fun _ val E X hE hB hA=>?_) (fun h=>absurd rfl h)
      have e47:=hE.t 47 (val 26) rfl
      have h26:val 26=.string q:=hA 26 (oz rfl)
      exact ⟨_,_,_,by simp [execOp,go_sem,hE.f,e47,h26] <;> rfl,HLA.out q X,rfl⟩
     ·cases ho
      refine srv_valG (false) rfl rfl (fun _ _ _=>trivial) (fun val hA=>hA 17 (oz rfl)) (fun _ val E X hE hB hA=>?_) (fun h=>absurd rfl h)
      have e5:=hE.t 5 (.pointer (some ⟨w1.heap.size,0,none⟩)) rfl
      have hk5:=(HK1.out.call hB).all0
      simp only [bkAll,Nat.zero_add,Nat.reduceAdd,and_true] at hk5
      exact ⟨.agg #[.int .i64 2,.int .i64 0,.string pq,.slice none 0 0],by simp [execOp,go_sem,e5,hk5],rfl⟩
     ·cases ho
      refine srv_mkG rfl rfl (fun val hA=>hA 17 (oz rfl)) fun val E X N hE hC hA hc=>?_
      have e46:=hE.t 46 (val 25) rfl
      have h25:val 25=.agg #[.int .i64 2,.int .i64 0,.string p,.slice none 0 0]:=hA 25 (oz rfl)
      have e48:=hE.t 48 (val 27) rfl
      have h27:val 27=.agg #[.int .i64 2,.int .i64 0,.string q,.slice none 0 0]:=hA 27 (oz rfl)
      have e49:=hE.t 49 (val 28) rfl
      have h28:val 28=.agg #[.int .i64 2,.int .i64 0,.string pq,.slice none 0 0]:=hA 28 (oz rfl)
      exact ⟨.slice (some ⟨X.heap.size,0,none⟩) 3 3,X.alloc (.cells #[.int .i64 2,.int .i64 0,.string p,.slice none 0 0,.int .i64 2,.int .i64 0,.string q,.slice none 0 0,.int .i64 2,.int .i64 0,.string pq,.slice none 0 0] 32),by simp [execOp,go_sem,e46,h25,e48,h27,e49,h28],(Below.refl _ _).alloc (Nat.le_refl _) _,⟨_,rfl⟩,fun N' h1 h2=>⟨_,rfl,TmsK.rows (K:=N') (w:=X) (rs:=[(atomT p,none,0),(atomT q,none,0),(atomT pq,none,0)]) (e:=32) (h2 _ (Nat.le_refl _) (by simp)) (by simp [maxLen]) (fun x hx=>by
       simp only [List.mem_cons,List.mem_nil_iff,or_false] at hx
       rcases hx with rfl | rfl | rfl
       ·exact TmsK.nil
       ·exact TmsK.nil
       ·exact TmsK.nil)⟩⟩
     ·cases ho
      refine srv_calG rfl rfl (fun val hA=>hA 17 (oz rfl)) fun val E X N hE hC hA hc=>?_
      obtain ⟨g29,h29,ht29⟩:∃g,val 29=.slice (some ⟨g,0,none⟩) 3 3∧TmsK N X (some ⟨g,0,none⟩) [atomT p,atomT q,atomT pq]:=hc 29 (oz rfl) rfl
      have e50:=hE.t 50 (val 29) rfl
      exact ⟨_,_,by simp [execOp,go_sem,hE.c,hE.f,e50,h29] <;> rfl,(HLF.out ⟨#[97,116,111,109,95,99,111,110,99,97,116]⟩ _ _ _ X).mono fun e w' h=>⟨_,h.1,h.2,⟨g29,rfl⟩,fun N' h1 _=>⟨g29,rfl,row_stab ht29 (fun b hb=>h.2.block b (hC.lt b hb)) h1⟩⟩⟩
     ·cases ho
      refine srv_mkG rfl rfl (fun val hA=>hA 17 (oz rfl)) fun val E X N hE hC hA hc=>?_
      have e51:=hE.t 51 (val 30) rfl
      obtain ⟨g30,h30,ht30⟩:∃g,val 30=.agg #[.int .i64 3,.int .i64 0,.string ⟨#[97,116,111,109,95,99,111,110,99,97,116]⟩,.slice (some ⟨g,0,none⟩) 3 3]∧TmsK N X (some ⟨g,0,none⟩) [atomT p,atomT q,atomT pq]:=hc 30 (oz rfl) rfl
      exact ⟨.slice (some ⟨X.heap.size,0,none⟩) 1 1,X.alloc (.cells #[.int .i64 3,.int .i64 0,.string ⟨#[97,116,111,109,95,99,111,110,99,97,116]⟩,.slice (some ⟨g30,0,none⟩) 3 3] 32),by simp [execOp,go_sem,e51,h30],(Below.refl _ _).alloc (Nat.le_refl _) _,⟨_,rfl⟩,fun N' h1 h2=>⟨_,rfl,TmsK.rows (K:=N') (w:=X) (rs:=[(strT ⟨#[97,116,111,109,95,99,111,110,99,97,116]⟩ [atomT p,atomT q,atomT pq],some ⟨g30,0,none⟩,3)]) (e:=32) (h2 _ (Nat.le_refl _) (by simp)) (by simp [maxLen]) (fun x hx=>by
       simp only [List.mem_cons,List.mem_nil_iff,or_false] at hx
       rcases hx with rfl
       ·exact row_stab ht30 (fun b hb=>((Below.refl X.heap.size X).alloc (Nat.le_refl _) _).block b (hC.lt b hb)) h1)⟩⟩
     ·cases ho
      refine srv_calG rfl rfl (fun val hA=>hA 17 (oz rfl)) fun val E X N hE hC hA hc=>?_
      obtain ⟨g23,h23,ht23⟩:∃g,val 23=.agg #[.int .i64 3,.int .i64 0,.string ⟨#[97,116,111,109,95,99,111,110,99,97,116]⟩,.slice (some ⟨g,0,none⟩) 3 3]∧TmsK N X (some ⟨g,0,none⟩) [atomT p,varT 0,atomT pq]:=hc 23 (oz rfl) rfl
      have e44:=hE.t 44 (val 23) rfl
      obtain ⟨g31,h31,ht31⟩:∃g,val 31=.slice (some ⟨g,0,none⟩) 1 1∧TmsK N X (some ⟨g,0,none⟩) [strT ⟨#[97,116,111,109,95,99,111,110,99,97,116]⟩ [atomT p,atomT q,atomT pq]]:=hc 31 (oz rfl) rfl
      have e52:=hE.t 52 (val 31) rfl
      have h:=l_gives (strT ⟨#[97,116,111,109,95,99,111,110,99,97,116]⟩ [atomT p,varT 0,atomT pq]) (some ⟨g23,0,none⟩) 3 [strT ⟨#[97,116,111,109,95,99,111,110,99,97,116]⟩ [atomT p,atomT q,atomT pq]] (some ⟨g31,0,none⟩) 1 1 X (HDO.out.below (HB1.out.trans (hC.bel.mono HB1.out.size))) (i64_of ⟨i64_zero,⟨by decide,by decide⟩,i64_zero,trivial⟩) (Nat.le_refl _) (TmsK.at' ht23) rfl (TmsK.at' ht31)
      rw [show givesB (strT ⟨#[97,116,111,109,95,99,111,110,99,97,116]⟩ [atomT p,varT 0,atomT pq]) [strT ⟨#[97,116,111,109,95,99,111,110,99,97,116]⟩ [atomT p,atomT q,atomT pq]]=true from jo2 HPQ.out HSZ.out] at h
      exact ⟨_,_,by simp [execOp,go_sem,hE.f,e44,h23,e52,h31] <;> first | rfl | exact ⟨rfl,rfl⟩,h.mono fun e w' h=>⟨_,h.1,h.2,rfl,fun _ _ _=>trivial⟩⟩
     ·cases ho
      refine srv_pureG (false) rfl rfl (fun val hA=>hA 17 (oz rfl)) (fun _ val E hE hA=>?_) (fun h=>absurd rfl h)
      have e53:=hE.t 53 (val 32) rfl
      have h32:val 32=.bool true:=hA 32 (oz rfl)
      exact ⟨.bool false,fun X=>by simp [execOp,go_sem,e53,h32],rfl⟩
     ·cases ho
      refine srv_pure rfl rfl (fun val E hE hA=>?_)
      have e38:=hE.t 38 (val 17) rfl
      have h17:val 17=.bool false:=hA 17 (oz rfl)
      have e54:=hE.t 54 (val 33) rfl
      have h33:val 33=.bool false:=hA 33 (oz rfl)
      exact ⟨.bool false,fun X=>by simp [execOp,go_sem,hE.c,e38,h17,e54,h33],rfl⟩
     ·cases ho
      refine srv_pure rfl rfl (fun val E hE hA=>?_)
      have e55:=hE.t 55 (val 34) rfl
      have h34:val 34=.bool false:=hA 34 (oz rfl)
      exact ⟨.bool false,fun X=>by simp [execOp,go_sem,e55,h34],rfl⟩
     ·cases ho
      refine srv_calVG (false) rfl rfl (fun _ _ _=>trivial) (fun val hA=>hA 35 (oz rfl)) (fun _ val E X hE hB hA=>?_) (fun h=>absurd rfl h)
      exact ⟨_,_,_,by simp [execOp,go_sem,hE.c,hE.f] <;> rfl,HLX.out 0 X,rfl⟩
     ·cases ho
      refine srv_pureG (false) rfl rfl (fun val hA=>hA 35 (oz rfl)) (fun _ val E hE hA=>?_) (fun h=>absurd rfl h)
      have e1:=hE.t 1 (.string q) rfl
      exact ⟨.string q,fun X=>by simp [execOp,go_sem,e1],rfl⟩
     ·cases ho
      refine srv_calVG (false) rfl rfl (fun _ _ _=>trivial) (fun val hA=>hA 35 (oz rfl)) (fun _ val E X hE hB hA=>?_) (fun h=>absurd rfl h)
      have e58:=hE.t 58 (val 37) rfl
      have h37:val 37=.string q:=hA 37 (oz rfl)
      exact ⟨_,_,_,by simp [execOp,go_sem,hE.f,e58,h37] <;> rfl,HLA.out q X,rfl⟩
     ·cases ho
      refine srv_valG (false) rfl rfl (fun _ _ _=>trivial) (fun val hA=>hA 35 (oz rfl)) (fun _ val E X hE hB hA=>?_) (fun h=>absurd rfl h)
      have e5:=hE.t 5 (.pointer (some ⟨w1.heap.size,0,none⟩)) rfl
      have hk5:=(HK1.out.call hB).all0
      simp only [bkAll,Nat.zero_add,Nat.reduceAdd,and_true] at hk5
      exact ⟨.agg #[.int .i64 2,.int .i64 0,.string pq,.slice none 0 0],by simp [execOp,go_sem,e5,hk5],rfl⟩
     ·cases ho
      refine srv_mkG rfl rfl (fun val hA=>hA 35 (oz rfl)) fun val E X N hE hC hA hc=>?_
      have e57:=hE.t 57 (val 36) rfl
      have h36:val 36=.agg #[.int .i64 0,.int .i64 0,.string ⟨#[]⟩,.slice none 0 0]:=hA 36 (oz rfl)
      have e59:=hE.t 59 (val 38) rfl
      have h38:val 38=.agg #[.int .i64 2,.int .i64 0,.string q,.slice none 0 0]:=hA 38 (oz rfl)
      have e60:=hE.t 60 (val 39) rfl
      have h39:val 39=.agg #[.int .i64 2,.int .i64 0,.string pq,.slice none 0 0]:=hA 39 (oz rfl)
      exact ⟨.slice (some ⟨X.heap.size,0,none⟩) 3 3,X.alloc (.cells #[.int .i64 0,.int .i64 0,.string ⟨#[]⟩,.slice none 0 0,.int .i64 2,.int .i64 0,.string q,.slice none 0 0,.int .i64 2,.int .i64 0,.string pq,.slice none 0 0] 32),by simp [execOp,go_sem,e57,h36,e59,h38,e60,h39],(Below.refl _ _).alloc (Nat.le_refl _) _,⟨_,rfl⟩,fun N' h1 h2=>⟨_,rfl,TmsK.rows (K:=N') (w:=X) (rs:=[(varT 0,none,0),(atomT q,none,0),(atomT pq,none,0)]) (e:=32) (h2 _ (Nat.le_refl _) (by simp)) (by simp [maxLen]) (fun x hx=>by
       simp only [List.mem_cons,List.mem_nil_iff,or_false] at hx
       rcases hx with rfl | rfl | rfl
       ·exact TmsK.nil
       ·exact TmsK.nil
       ·exact TmsK.nil)⟩⟩
     ·cases ho
      refine srv_calG rfl rfl (fun val hA=>hA 35 (oz rfl)) fun val E X N hE hC hA hc=>?_
      obtain ⟨g40,h40,ht40⟩:∃g,val 40=.slice (some ⟨g,0,none⟩) 3 3∧TmsK N X (some ⟨g,0,none⟩) [varT 0,atomT q,atomT pq]:=hc 40 (oz rfl) rfl
      have e61:=hE.t 61 (val 40) rfl
      exact ⟨_,_,by simp [execOp,go_sem,hE.c,hE.f,e61,h40] <;> rfl,(HLF.out ⟨#[97,116,111,109,95,99,111,110,99,97,116]⟩ _ _ _ X).mono fun e w' h=>⟨_,h.1,h.2,⟨g40,rfl⟩,fun N' h1 _=>⟨g40,rfl,row_stab ht40 (fun b hb=>h.2.block b (hC.lt b hb)) h1⟩⟩⟩
     ·cases ho
      refine srv_pureG (false) rfl rfl (fun val hA=>hA 35 (oz rfl)) (fun _ val E hE hA=>?_) (fun h=>absurd rfl h)
      have e0:=hE.t 0 (.string p) rfl
      exact ⟨.string p,fun X=>by simp [execOp,go_sem,e0],rfl⟩
     ·cases ho
      refine srv_calVG (false) rfl rfl (fun _ _ _=>trivial) (fun val hA=>hA 35 (oz rfl)) (fun _ val E X hE hB hA=>?_) (fun h=>absurd rfl h)
      have e63:=hE.t 63 (val 42) rfl
      have h42:val 42=.string p:=hA 42 (oz rfl)
      exact ⟨_,_,_,by simp [execOp,go_sem,hE.f,e63,h42] <;> rfl,HLA.out p X,rfl⟩
     ·cases ho
      refine srv_pureG (false) rfl rfl (fun val hA=>hA 35 (oz rfl)) (fun _ val E hE hA=>?_) (fun h=>absurd rfl h)
      have e1:=hE.t 1 (.string q) rfl
      exact ⟨.string q,fun X=>by simp [execOp,go_sem,e1],rfl⟩
     ·cases ho
      refine srv_calVG (false) rfl rfl (fun _ _ _=>trivial) (fun val hA=>hA 35 (oz rfl)) (fun _ val E X hE hB hA=>?_) (fun h=>absurd rfl h)
      have e65:=hE.t 65 (val 44) rfl
      have h44:val 44=.string q:=hA 44 (oz rfl)
      exact ⟨_,_,_,by simp [execOp,go_sem,hE.f,e65,h44] <;> rfl,HLA.out q X,rfl⟩
     ·cases ho
      refine srv_valG (false) rfl rfl (fun _ _ _=>trivial) (fun val hA=>hA 35 (oz rfl)) (fun _ val E X hE hB hA=>?_) (fun h=>absurd rfl h)
      have e5:=hE.t 5 (.pointer (some ⟨w1.heap.size,0,none⟩)) rfl
      have hk5:=(HK1.out.call hB).all0
      simp only [bkAll,Nat.zero_add,Nat.reduceAdd,and_true] at hk5
      exact ⟨.agg #[.int .i64 2,.int .i64 0,.string pq,.slice none 0 0],by simp [execOp,go_sem,e5,hk5],rfl⟩
     ·cases ho
      refine srv_mkG rfl rfl (fun val hA=>hA 35 (oz rfl)) fun val E X N hE hC hA hc=>?_
      have e64:=hE.t 64 (val 43) rfl
      have h43:val 43=.agg #[.int .i64 2,.int .i64 0,.string p,.slice none 0 0]:=hA 43 (oz rfl)
      have e66:=hE.t 66 (val 45) rfl
      have h45:val 45=.agg #[.int .i64 2,.int .i64 0,.string q,.slice none 0 0]:=hA 45 (oz rfl)
      have e67:=hE.t 67 (val 46) rfl
      have h46:val 46=.agg #[.int .i64 2,.int .i64 0,.string pq,.slice none 0 0]:=hA 46 (oz rfl)
      exact ⟨.slice (some ⟨X.heap.size,0,none⟩) 3 3,X.alloc (.cells #[.int .i64 2,.int .i64 0,.string p,.slice none 0 0,.int .i64 2,.int .i64 0,.string q,.slice none 0 0,.int .i64 2,.int .i64 0,.string pq,.slice none 0 0] 32),by simp [execOp,go_sem,e64,h43,e66,h45,e67,h46],(Below.refl _ _).alloc (Nat.le_refl _) _,⟨_,rfl⟩,fun N' h1 h2=>⟨_,rfl,TmsK.rows (K:=N') (w:=X) (rs:=[(atomT p,none,0),(atomT q,none,0),(atomT pq,none,0)]) (e:=32) (h2 _ (Nat.le_refl _) (by simp)) (by simp [maxLen]) (fun x hx=>by
       simp only [List.mem_cons,List.mem_nil_iff,or_false] at hx
       rcases hx with rfl | rfl | rfl
       ·exact TmsK.nil
       ·exact TmsK.nil
       ·exact TmsK.nil)⟩⟩
     ·cases ho
      refine srv_calG rfl rfl (fun val hA=>hA 35 (oz rfl)) fun val E X N hE hC hA hc=>?_
      obtain ⟨g47,h47,ht47⟩:∃g,val 47=.slice (some ⟨g,0,none⟩) 3 3∧TmsK N X (some ⟨g,0,none⟩) [atomT p,atomT q,atomT pq]:=hc 47 (oz rfl) rfl
      have e68:=hE.t 68 (val 47) rfl
      exact ⟨_,_,by simp [execOp,go_sem,hE.c,hE.f,e68,h47] <;> rfl,(HLF.out ⟨#[97,116,111,109,95,99,111,110,99,97,116]⟩ _ _ _ X).mono fun e w' h=>⟨_,h.1,h.2,⟨g47,rfl⟩,fun N' h1 _=>⟨g47,rfl,row_stab ht47 (fun b hb=>h.2.block b (hC.lt b hb)) h1⟩⟩⟩
     ·cases ho
      refine srv_mkG rfl rfl (fun val hA=>hA 35 (oz rfl)) fun val E X N hE hC hA hc=>?_
      have e69:=hE.t 69 (val 48) rfl
      obtain ⟨g48,h48,ht48⟩:∃g,val 48=.agg #[.int .i64 3,.int .i64 0,.string ⟨#[97,116,111,109,95,99,111,110,99,97,116]⟩,.slice (some ⟨g,0,none⟩) 3 3]∧TmsK N X (some ⟨g,0,none⟩) [atomT p,atomT q,atomT pq]:=hc 48 (oz rfl) rfl
      exact ⟨.slice (some ⟨X.heap.size,0,none⟩) 1 1,X.alloc (.cells #[.int .i64 3,.int .i64 0,.string ⟨#[97,116,111,109,95,99,111,110,99,97,116]⟩,.slice (some ⟨g48,0,none⟩) 3 3] 32),by simp [execOp,go_sem,e69,h48],(Below.refl _ _).alloc (Nat.le_refl _) _,⟨_,rfl⟩,fun N' h1 h2=>⟨_,rfl,TmsK.rows (K:=N') (w:=X) (rs:=[(strT ⟨#[97,116,111,109,95,99,111,110,99,97,116]⟩ [atomT p,atomT q,atomT pq],some ⟨g48,0,none⟩,3)]) (e:=32) (h2 _ (Nat.le_refl _) (by simp)) (by simp [maxLen]) (fun x hx=>by
       simp only [List.mem_cons,List.mem_nil_iff,or_false] at hx
       rcases hx with rfl
       ·exact row_stab ht48 (fun b hb=>((Below.refl X.heap.size X).alloc (Nat.le_refl _) _).block b (hC.lt b hb)) h1)⟩⟩
     ·cases ho
      refine srv_calG rfl rfl (fun val hA=>hA 35 (oz rfl)) fun val E X N hE hC hA hc=>?_
      obtain ⟨g41,h41,ht41⟩:∃g,val 41=.agg #[.int .i64 3,.int .i64 0,.string ⟨#[97,116,111,109,95,99,111,110,99,97,116]⟩,.slice (some ⟨g,0,none⟩) 3 3]∧TmsK N X (some ⟨g,0,none⟩) [varT 0,atomT q,atomT pq]:=hc 41 (oz rfl) rfl
      have e62:=hE.t 62 (val 41) rfl
      obtain ⟨g49,h49,ht49⟩:∃g,val 49=.slice (some ⟨g,0,none⟩) 1 1∧TmsK N X (some ⟨g,0,none⟩) [strT ⟨#[97,116,111,109,95,99,111,110,99,97,116]⟩ [atomT p,atomT q,atomT pq]]:=hc 49 (oz rfl) rfl
      have e70:=hE.t 70 (val 49) rfl
      have h:=l_gives (strT ⟨#[97,116,111,109,95,99,111,110,99,97,116]⟩ [varT 0,atomT q,atomT pq]) (some ⟨g41,0,none⟩) 3 [strT ⟨#[97,116,111,109,95,99,111,110,99,97,116]⟩ [atomT p,atomT q,atomT pq]] (some ⟨g49,0,none⟩) 1 1 X (HDO.out.below (HB1.out.trans (hC.bel.mono HB1.out.size))) (i64_of ⟨⟨by decide,by decide⟩,i64_zero,i64_zero,trivial⟩) (Nat.le_refl _) (TmsK.at' ht41) rfl (TmsK.at' ht49)
      rw [show givesB (strT ⟨#[97,116,111,109,95,99,111,110,99,97,116]⟩ [varT 0,atomT q,atomT pq]) [strT ⟨#[97,116,111,109,95,99,111,110,99,97,116]⟩ [atomT p,atomT q,atomT pq]]=true from jo3 HPQ.out HSZ.out] at h
      exact ⟨_,_,by simp [execOp,go_sem,hE.f,e62,h41,e70,h49] <;> first | rfl | exact ⟨rfl,rfl⟩,h.mono fun e w' h=>⟨_,h.1,h.2,rfl,fun _ _ _=>trivial⟩⟩
     ·cases ho
      refine srv_pureG (false) rfl rfl (fun val hA=>hA 35 (oz rfl)) (fun _ val E hE hA=>?_) (fun h=>absurd rfl h)
      have e71:=hE.t 71 (val 50) rfl
      have h50:val 50=.bool true:=hA 50 (oz rfl)
      exact ⟨.bool false,fun X=>by simp [execOp,go_sem,e71,h50],rfl⟩
     ·cases ho
      refine srv_pure rfl rfl (fun val E hE hA=>?_)
      have e56:=hE.t 56 (val 35) rfl
      have h35:val 35=.bool false:=hA 35 (oz rfl)
      have e72:=hE.t 72 (val 51) rfl
      have h51:val 51=.bool false:=hA 51 (oz rfl)
      exact ⟨.bool false,fun X=>by simp [execOp,go_sem,hE.c,e56,h35,e72,h51],rfl⟩
     ·cases ho
      refine srv_pure rfl rfl (fun val E hE hA=>?_)
      have e73:=hE.t 73 (val 52) rfl
      have h52:val 52=.bool false:=hA 52 (oz rfl)
      exact ⟨.bool false,fun X=>by simp [execOp,go_sem,e73,h52],rfl⟩
     ·cases ho
      refine srv_valG (false) rfl rfl (fun _ _ _=>trivial) (fun val hA=>hA 53 (oz rfl)) (fun _ val E X hE hB hA=>?_) (fun h=>absurd rfl h)
      have e5:=hE.t 5 (.pointer (some ⟨w1.heap.size,0,none⟩)) rfl
      have hk5:=(HK1.out.call hB).all0
      simp only [bkAll,Nat.zero_add,Nat.reduceAdd,and_true] at hk5
      exact ⟨.agg #[.int .i64 2,.int .i64 0,.string pq,.slice none 0 0],by simp [execOp,go_sem,e5,hk5],rfl⟩
     ·cases ho
      refine srv_calVG (false) rfl rfl (fun _ _ _=>trivial) (fun val hA=>hA 53 (oz rfl)) (fun _ val E X hE hB hA=>?_) (fun h=>absurd rfl h)
      exact ⟨_,_,_,by simp [execOp,go_sem,hE.c,hE.f] <;> rfl,HLX.out 0 X,rfl⟩
     ·cases ho
      refine srv_mkG rfl rfl (fun val hA=>hA 53 (oz rfl)) fun val E X N hE hC hA hc=>?_
      have e75:=hE.t 75 (val 54) rfl
      have h54:val 54=.agg #[.int .i64 2,.int .i64 0,.string pq,.slice none 0 0]:=hA 54 (oz rfl)
      have e76:=hE.t 76 (val 55) rfl
      have h55:val 55=.agg #[.int .i64 0,.int .i64 0,.string ⟨#[]⟩,.slice none 0 0]:=hA 55 (oz rfl)
      exact ⟨.slice (some ⟨X.heap.size,0,none⟩) 2 2,X.alloc (.cells #[.int .i64 2,.int .i64 0,.string pq,.slice none 0 0,.int .i64 0,.int .i64 0,.string ⟨#[]⟩,.slice none 0 0] 32),by simp [execOp,go_sem,e75,h54,e76,h55],(Below.refl _ _).alloc (Nat.le_refl _) _,⟨_,rfl⟩,fun N' h1 h2=>⟨_,rfl,TmsK.rows (K:=N') (w:=X) (rs:=[(atomT pq,none,0),(varT 0,none,0)]) (e:=32) (h2 _ (Nat.le_refl _) (by simp)) (by simp [maxLen]) (fun x hx=>by
       simp only [List.mem_cons,List.mem_nil_iff,or_false] at hx
       rcases hx with rfl | rfl
       ·exact TmsK.nil
       ·exact TmsK.nil)⟩⟩
     ·cases ho
      refine srv_calG rfl rfl (fun val hA=>hA 53 (oz rfl)) fun val E X N hE hC hA hc=>?_
      obtain ⟨g56,h56,ht56⟩:∃g,val 56=.slice (some ⟨g,0,none⟩) 2 2∧TmsK N X (some ⟨g,0,none⟩) [atomT pq,varT 0]:=hc 56 (oz rfl) rfl
      have e77:=hE.t 77 (val 56) rfl
      exact ⟨_,_,by simp [execOp,go_sem,hE.c,hE.f,e77,h56] <;> rfl,(HLF.out ⟨#[97,116,111,109,95,108,101,110,103,116,104]⟩ _ _ _ X).mono fun e w' h=>⟨_,h.1,h.2,⟨g56,rfl⟩,fun N' h1 _=>⟨g56,rfl,row_stab ht56 (fun b hb=>h.2.block b (hC.lt b hb)) h1⟩⟩⟩
     ·cases ho
      refine srv_valG (false) rfl rfl (fun _ _ _=>trivial) (fun val hA=>hA 53 (oz rfl)) (fun _ val E X hE hB hA=>?_) (fun h=>absurd rfl h)
      have e5:=hE.t 5 (.pointer (some ⟨w1.heap.size,0,none⟩)) rfl
      have hk5:=(HK1.out.call hB).all0
      simp only [bkAll,Nat.zero_add,Nat.reduceAdd,and_true] at hk5
      exact ⟨.agg #[.int .i64 2,.int .i64 0,.string pq,.slice none 0 0],by simp [execOp,go_sem,e5,hk5],rfl⟩
     ·cases ho
      refine srv_pureG (false) rfl rfl (fun val hA=>hA 53 (oz rfl)) (fun _ val E hE hA=>?_) (fun h=>absurd rfl h)
      have e0:=hE.t 0 (.string p) rfl
      exact ⟨.string p,fun X=>by simp [execOp,go_sem,e0],rfl⟩
     ·cases ho
      refine srv_pureG (false) rfl rfl (fun val hA=>hA 53 (oz rfl)) (fun _ val E hE hA=>?_) (fun h=>absurd rfl h)
      have e80:=hE.t 80 (val 59) rfl
      have h59:val 59=.string p:=hA 59 (oz rfl)
      exact ⟨.int .i64 (p.size:Int),fun X=>by simp [execOp,go_sem,e80,h59],rfl⟩
     ·cases ho
      refine srv_pureG (false) rfl rfl (fun val hA=>hA 53 (oz rfl)) (fun _ val E hE hA=>?_) (fun h=>absurd rfl h)
      have e1:=hE.t 1 (.string q) rfl
      exact ⟨.string q,fun X=>by simp [execOp,go_sem,e1],rfl⟩
     ·cases ho
      refine srv_pureG (false) rfl rfl (fun val hA=>hA 53 (oz rfl)) (fun _ val E hE hA=>?_) (fun h=>absurd rfl h)
      have e82:=hE.t 82 (val 61) rfl
      have h61:val 61=.string q:=hA 61 (oz rfl)
      exact ⟨.int .i64 (q.size:Int),fun X=>by simp [execOp,go_sem,e82,h61],rfl⟩
     ·cases ho
      refine srv_pureG (false) rfl rfl (fun val hA=>hA 53 (oz rfl)) (fun _ val E hE hA=>?_) (fun h=>absurd rfl h)
      have e81:=hE.t 81 (val 60) rfl
      have h60:val 60=.int .i64 (p.size:Int):=hA 60 (oz rfl)
      have e83:=hE.t 83 (val 62) rfl
      have h62:val 62=.int .i64 (q.size:Int):=hA 62 (oz rfl)
      exact ⟨.int .i64 ((p.size:Int)+(q.size:Int)),fun X=>by simp [execOp,go_sem,e81,h60,e83,h62,hv0],rfl⟩
     ·cases ho
      refine srv_calVG (false) rfl rfl (fun _ _ _=>trivial) (fun val hA=>hA 53 (oz rfl)) (fun _ val E X hE hB hA=>?_) (fun h=>absurd rfl h)
      have e84:=hE.t 84 (val 63) rfl
      have h63:val 63=.int .i64 ((p.size:Int)+(q.size:Int)):=hA 63 (oz rfl)
      exact ⟨_,_,_,by simp [execOp,go_sem,hE.f,e84,h63] <;> rfl,HLN.out ((p.size:Int)+(q.size:Int)) X,rfl⟩
     ·cases ho
      refine srv_mkG rfl rfl (fun val hA=>hA 53 (oz rfl)) fun val E X N hE hC hA hc=>?_
      have e79:=hE.t 79 (val 58) rfl
      have h58:val 58=.agg #[.int .i64 2,.int .i64 0,.string pq,.slice none 0 0]:=hA 58 (oz rfl)
      have e85:=hE.t 85 (val 64) rfl
      have h64:val 64=.agg #[.int .i64 1,.int .i64 ((p.size:Int)+(q.size:Int)),.string ⟨#[]⟩,.slice none 0 0]:=hA 64 (oz rfl)
      exact ⟨.slice (some ⟨X.heap.size,0,none⟩) 2 2,X.alloc (.cells #[.int .i64 2,.int .i64 0,.string pq,.slice none 0 0,.int .i64 1,.int .i64 ((p.size:Int)+(q.size:Int)),.string ⟨#[]⟩,.slice none 0 0] 32),by simp [execOp,go_sem,e79,h58,e85,h64],(Below.refl _ _).alloc (Nat.le_refl _) _,⟨_,rfl⟩,fun N' h1 h2=>⟨_,rfl,TmsK.rows (K:=N') (w:=X) (rs:=[(atomT pq,none,0),(intT ((p.size:Int)+(q.size:Int)),none,0)]) (e:=32) (h2 _ (Nat.le_refl _) (by simp)) (by simp [maxLen]) (fun x hx=>by
       simp only [List.mem_cons,List.mem_nil_iff,or_false] at hx
       rcases hx with rfl | rfl
       ·exact TmsK.nil
       ·exact TmsK.nil)⟩⟩
     ·cases ho
      refine srv_calG rfl rfl (fun val hA=>hA 53 (oz rfl)) fun val E X N hE hC hA hc=>?_
      obtain ⟨g65,h65,ht65⟩:∃g,val 65=.slice (some ⟨g,0,none⟩) 2 2∧TmsK N X (some ⟨g,0,none⟩) [atomT pq,intT ((p.size:Int)+(q.size:Int))]:=hc 65 (oz rfl) rfl
      have e86:=hE.t 86 (val 65) rfl
      exact ⟨_,_,by simp [execOp,go_sem,hE.c,hE.f,e86,h65] <;> rfl,(HLF.out ⟨#[97,116,111,109,95,108,101,110,103,116,104]⟩ _ _ _ X).mono fun e w' h=>⟨_,h.1,h.2,⟨g65,rfl⟩,fun N' h1 _=>⟨g65,rfl,row_stab ht65 (fun b hb=>h.2.block b (hC.lt b hb)) h1⟩⟩⟩
     ·cases ho
      refine srv_mkG rfl rfl (fun val hA=>hA 53 (oz rfl)) fun val E X N hE hC hA hc=>?_
      have e87:=hE.t 87 (val 66) rfl
      obtain ⟨g66,h66,ht66⟩:∃g,val 66=.agg #[.int .i64 3,.int .i64 0,.string ⟨#[97,116,111,109,95,108,101,110,103,116,104]⟩,.slice (some ⟨g,0,none⟩) 2 2]∧TmsK N X (some ⟨g,0,none⟩) [atomT pq,intT ((p.size:Int)+(q.size:Int))]:=hc 66 (oz rfl) rfl
      exact ⟨.slice (some ⟨X.heap.size,0,none⟩) 1 1,X.alloc (.cells #[.int .i64 3,.int .i64 0,.string ⟨#[97,116,111,109,95,108,101,110,103,116,104]⟩,.slice (some ⟨g66,0,none⟩) 2 2] 32),by simp [execOp,go_sem,e87,h66],(Below.refl _ _).alloc (Nat.le_refl _) _,⟨_,rfl⟩,fun N' h1 h2=>⟨_,rfl,TmsK.rows (K:=N') (w:=X) (rs:=[(strT ⟨#[97,116,111,109,95,108,101,110,103,116,104]⟩ [atomT pq,intT ((p.size:Int)+(q.size:Int))],some ⟨g66,0,none⟩,2)]) (e:=32) (h2 _ (Nat.le_refl _) (by simp)) (by simp [maxLen]) (fun x hx=>by
       simp only [List.mem_cons,List.mem_nil_iff,or_false] at hx
       rcases hx with rfl
       ·exact row_stab ht66 (fun b hb=>((Below.refl X.heap.size X).alloc (Nat.le_refl _) _).block b (hC.lt b hb)) h1)⟩⟩
     ·cases ho
      refine srv_calG rfl rfl (fun val hA=>hA 53 (oz rfl)) fun val E X N hE hC hA hc=>?_
      obtain ⟨g57,h57,ht57⟩:∃g,val 57=.agg #[.int .i64 3,.int .i64 0,.string ⟨#[97,116,111,109,95,108,101,110,103,116,104]⟩,.slice (some ⟨g,0,none⟩) 2 2]∧TmsK N X (some ⟨g,0,none⟩) [atomT pq,varT 0]:=hc 57 (oz rfl) rfl
      have e78:=hE.t 78 (val 57) rfl
      obtain ⟨g67,h67,ht67⟩:∃g,val 67=.slice (some ⟨g,0,none⟩) 1 1∧TmsK N X (some ⟨g,0,none⟩) [strT ⟨#[97,116,111,109,95,108,101,110,103,116,104]⟩ [atomT pq,intT ((p.size:Int)+(q.size:Int))]]:=hc 67 (oz rfl) rfl
      have e88:=hE.t 88 (val 67) rfl
      have h:=l_gives (strT ⟨#[97,116,111,109,95,108,101,110,103,116,104]⟩ [atomT pq,varT 0]) (some ⟨g57,0,none⟩) 2 [strT ⟨#[97,116,111,109,95,108,101,110,103,116,104]⟩ [atomT pq,intT ((p.size:Int)+(q.size:Int))]] (some ⟨g67,0,none⟩) 1 1 X (HDO.out.below (HB1.out.trans (hC.bel.mono HB1.out.size))) (i64_of ⟨i64_zero,⟨by decide,by decide⟩,trivial⟩) (Nat.le_refl _) (TmsK.at' ht57) rfl (TmsK.at' ht67)
      rw [show givesB (strT ⟨#[97,116,111,109,95,108,101,110,103,116,104]⟩ [atomT pq,varT 0]) [strT ⟨#[97,116,111,109,95,108,101,110,103,116,104]⟩ [atomT pq,intT ((p.size:Int)+(q.size:Int))]]=true from jo4 HPQ.out HSZ.out] at h
      exact ⟨_,_,by simp [execOp,go_sem,hE.f,e78,h57,e88,h67] <;> first | rfl | exact ⟨rfl,rfl⟩,h.mono fun e w' h=>⟨_,h.1,h.2,rfl,fun _ _ _=>trivial⟩⟩
     ·cases ho
      refine srv_pureG (false) rfl rfl (fun val hA=>hA 53 (oz rfl)) (fun _ val E hE hA=>?_) (fun h=>absurd rfl h)
      have e89:=hE.t 89 (val 68) rfl
      have h68:val 68=.bool true:=hA 68 (oz rfl)
      exact ⟨.bool false,fun X=>by simp [execOp,go_sem,e89,h68],rfl⟩
     ·cases ho
      refine srv_pure rfl rfl (fun val E hE hA=>?_)
      have e74:=hE.t 74 (val 53) rfl
      have h53:val 53=.bool false:=hA 53 (oz rfl)
      have e90:=hE.t 90 (val 69) rfl
      have h69:val 69=.bool false:=hA 69 (oz rfl)
      exact ⟨.bool false,fun X=>by simp [execOp,go_sem,hE.c,e74,h53,e90,h69],rfl⟩
   case fin4=>
     have h0:val 0=.string p:=hv 0 (by decide)
     have h1:val 1=.agg #[.int .i64 2,.int .i64 0,.string p,.slice none 0 0]:=hv 1 (by decide)
     have h2:val 2=.string q:=hv 2 (by decide)
     have h3:val 3=.agg #[.int .i64 2,.int .i64 0,.string q,.slice none 0 0]:=hv 3 (by decide)
     have h4:val 4=.agg #[.int .i64 0,.int .i64 0,.string ⟨#[]⟩,.slice none 0 0]:=hv 4 (by decide)
     obtain ⟨g5,h5⟩:∃g,val 5=.slice (some ⟨g,0,none⟩) 3 3:=hv 5 (by decide)
     obtain ⟨gg6,h6⟩:∃g,val 6=.agg #[.int .i64 3,.int .i64 0,.string ⟨#[97,116,111,109,95,99,111,110,99,97,116]⟩,.slice (some ⟨g,0,none⟩) 3 3]:=hv 6 (by decide)
     have h7:val 7=.string p:=hv 7 (by decide)
     have h8:val 8=.agg #[.int .i64 2,.int .i64 0,.string p,.slice none 0 0]:=hv 8 (by decide)
     have h9:val 9=.string q:=hv 9 (by decide)
     have h10:val 10=.agg #[.int .i64 2,.int .i64 0,.string q,.slice none 0 0]:=hv 10 (by decide)
     have h11:val 11=.agg #[.int .i64 2,.int .i64 0,.string pq,.slice none 0 0]:=hv 11 (by decide)
     obtain ⟨g12,h12⟩:∃g,val 12=.slice (some ⟨g,0,none⟩) 3 3:=hv 12 (by decide)
     obtain ⟨gg13,h13⟩:∃g,val 13=.agg #[.int .i64 3,.int .i64 0,.string ⟨#[97,116,111,109,95,99,111,110,99,97,116]⟩,.slice (some ⟨g,0,none⟩) 3 3]:=hv 13 (by decide)
     obtain ⟨g14,h14⟩:∃g,val 14=.slice (some ⟨g,0,none⟩) 1 1:=hv 14 (by decide)
     have h15:val 15=.bool true:=hv 15 (by decide)
     have h16:val 16=.bool false:=hv 16 (by decide)
     have h17:val 17=.bool false:=hv 17 (by decide)
     have h18:val 18=.string p:=hv 18 (by decide)
     have h19:val 19=.agg #[.int .i64 2,.int .i64 0,.string p,.slice none 0 0]:=hv 19 (by decide)
     have h20:val 20=.agg #[.int .i64 0,.int .i64 0,.string ⟨#[]⟩,.slice none 0 0]:=hv 20 (by decide)
     have h21:val 21=.agg #[.int .i64 2,.int .i64 0,.string pq,.slice none 0 0]:=hv 21 (by decide)
     obtain ⟨g22,h22⟩:∃g,val 22=.slice (some ⟨g,0,none⟩) 3 3:=hv 22 (by decide)
     obtain ⟨gg23,h23⟩:∃g,val 23=.agg #[.int .i64 3,.int .i64 0,.string ⟨#[97,116,111,109,95,99,111,110,99,97,116]⟩,.slice (some ⟨g,0,none⟩) 3 3]:=hv 23 (by decide)
     have h24:val 24=.string p:=hv 24 (by decide)
     have h25:val 25=.agg #[.int .i64 2,.int .i64 0,.string p,.slice none 0 0]:=hv 25 (by decide)
     have h26:val 26=.string q:=hv 26 (by decide)
     have h27:val 27=.agg #[.int .i64 2,.int .i64 0,.string q,.slice none 0 0]:=hv 27 (by decide)
     have h28:val 28=.agg #[.int .i64 2,.int .i64 0,.string pq,.slice none 0 0]:=hv 28 (by decide)
     obtain ⟨g29,h29⟩:∃g,val 29=.slice (some ⟨g,0,none⟩) 3 3:=hv 29 (by decide)
     obtain ⟨gg30,h30⟩:∃g,val 30=.agg #[.int .i64 3,.int .i64 0,.string ⟨#[97,116,111,109,95,99,111,110,99,97,116]⟩,.slice (some ⟨g,0,none⟩) 3 3]:=hv 30 (by decide)
     obtain ⟨g31,h31⟩:∃g,val 31=.slice (some ⟨g,0,none⟩) 1 1:=hv 31 (by decide)
     have h32:val 32=.bool true:=hv 32 (by decide)
     have h33:val 33=.bool false:=hv 33 (by decide)
     have h34:val 34=.bool false:=hv 34 (by decide)
     have h35:val 35=.bool false:=hv 35 (by decide)
     have h36:val 36=.agg #[.int .i64 0,.int .i64 0,.string ⟨#[]⟩,.slice none 0 0]:=hv 36 (by decide)
     have h37:val 37=.string q:=hv 37 (by decide)
     have h38:val 38=.agg #[.int .i64 2,.int .i64 0,.string q,.slice none 0 0]:=hv 38 (by decide)
     have h39:val 39=.agg #[.int .i64 2,.int .i64 0,.string pq,.slice none 0 0]:=hv 39 (by decide)
     obtain ⟨g40,h40⟩:∃g,val 40=.slice (some ⟨g,0,none⟩) 3 3:=hv 40 (by decide)
     obtain ⟨gg41,h41⟩:∃g,val 41=.agg #[.int .i64 3,.int .i64 0,.string ⟨#[97,116,111,109,95,99,111,110,99,97,116]⟩,.slice (some ⟨g,0,none⟩) 3 3]:=hv 41 (by decide)
     have h42:val 42=.string p:=hv 42 (by decide)
     have h43:val 43=.agg #[.int .i64 2,.int .i64 0,.string p,.slice none 0 0]:=hv 43 (by decide)
     have h44:val 44=.string q:=hv 44 (by decide)
     have h45:val 45=.agg #[.int .i64 2,.int .i64 0,.string q,.slice none 0 0]:=hv 45 (by decide)
     have h46:val 46=.agg #[.int .i64 2,.int .i64 0,.string pq,.slice none 0 0]:=hv 46 (by decide)
     obtain ⟨g47,h47⟩:∃g,val 47=.slice (some ⟨g,0,none⟩) 3 3:=hv 47 (by decide)
     obtain ⟨gg48,h48⟩:∃g,val 48=.agg #[.int .i64 3,.int .i64 0,.string ⟨#[97,116,111,109,95,99,111,110,99,97,116]⟩,.slice (some ⟨g,0,none⟩) 3 3]:=hv 48 (by decide)
     obtain ⟨g49,h49⟩:∃g,val 49=.slice (some ⟨g,0,none⟩) 1 1:=hv 49 (by decide)
     have h50:val 50=.bool true:=hv 50 (by decide)
     have h51:val 51=.bool false:=hv 51 (by decide)
     have h52:val 52=.bool false:=hv 52 (by decide)
     have h53:val 53=.bool false:=hv 53 (by decide)
     have h54:val 54=.agg #[.int .i64 2,.int .i64 0,.string pq,.slice none 0 0]:=hv 54 (by decide)
     have h55:val 55=.agg #[.int .i64 0,.int .i64 0,.string ⟨#[]⟩,.slice none 0 0]:=hv 55 (by decide)
     obtain ⟨g56,h56⟩:∃g,val 56=.slice (some ⟨g,0,none⟩) 2 2:=hv 56 (by decide)
     obtain ⟨gg57,h57⟩:∃g,val 57=.agg #[.int .i64 3,.int .i64 0,.string ⟨#[97,116,111,109,95,108,101,110,103,116,104]⟩,.slice (some ⟨g,0,none⟩) 2 2]:=hv 57 (by decide)
     have h58:val 58=.agg #[.int .i64 2,.int .i64 0,.string pq,.slice none 0 0]:=hv 58 (by decide)
     have h59:val 59=.string p:=hv 59 (by decide)
     have h60:val 60=.int .i64 (p.size:Int):=hv 60 (by decide)
     have h61:val 61=.string q:=hv 61 (by decide)
     have h62:val 62=.int .i64 (q.size:Int):=hv 62 (by decide)
     have h63:val 63=.int .i64 ((p.size:Int)+(q.size:Int)):=hv 63 (by decide)
     have h64:val 64=.agg #[.int .i64 1,.int .i64 ((p.size:Int)+(q.size:Int)),.string ⟨#[]⟩,.slice none 0 0]:=hv 64 (by decide)
     obtain ⟨g65,h65⟩:∃g,val 65=.slice (some ⟨g,0,none⟩) 2 2:=hv 65 (by decide)
     obtain ⟨gg66,h66⟩:∃g,val 66=.agg #[.int .i64 3,.int .i64 0,.string ⟨#[97,116,111,109,95,108,101,110,103,116,104]⟩,.slice (some ⟨g,0,none⟩) 2 2]:=hv 66 (by decide)
     obtain ⟨g67,h67⟩:∃g,val 67=.slice (some ⟨g,0,none⟩) 1 1:=hv 67 (by decide)
     have h68:val 68=.bool true:=hv 68 (by decide)
     have h69:val 69=.bool false:=hv 69 (by decide)
     have h70:val 70=.bool false:=hv 70 (by decide)
     refine hK4 _ _ ?_
     simp only [fillD,List.set_cons_zero,List.set_cons_succ,Nat.reduceAdd,Nat.zero_add,h0,h1,h2,h3,h4,h5,h6,h7,h8,h9,h10,h11,h12,h13,h14,h15,h16,h17,h18,h19,h20,h21,h22,h23,h24,h25,h26,h27,h28,h29,h30,h31,h32,h33,h34,h35,h36,h37,h38,h39,h40,h41,h42,h43,h44,h45,h46,h47,h48,h49,h50,h51,h52,h53,h54,h55,h56,h57,h58,h59,h60,h61,h62,h63,h64,h65,h66,h67,h68,h69,h70]
     have HB4:=zq (HB1.out.trans (HF.bel.mono HB1.out.size))
     have HK4:=zq (HK1.out.call HF.bel)
     clear hv HF hK4 h0 h1 h2 h3 h4 h5 h6 h7 h8 h9 h10 h11 h12 h13 h14 h15 h16 h17 h18 h19 h20 h21 h22 h23 h24 h25 h26 h27 h28 h29 h30 h31 h32 h33 h34 h35 h36 h37 h38 h39 h40 h41 h42 h43 h44 h45 h46 h47 h48 h49 h50 h51 h52 h53 h54 h55 h56 h57 h58 h59 h60 h61 h62 h63 h64 h65 h66 h67 h68 h69 h70 HB1 HK1
     go_wp2_with fail
     go_meet
     exact ⟨rfl,HB4,HK4⟩
  case rest=>
    obtain ⟨rfl,HB4,HK4⟩:=hcut
    clear HB1 HK1
    obtain ⟨y4,HY4⟩:=lz (wc)
    rw [←HY4.out] at HB4 HK4 ⊢
    clear HY4
    have fK:=HK4.out.all0
    simp only [bkAll,Nat.zero_add,Nat.reduceAdd,and_true] at fK
    go_wp2_with fail
    clear fK
    obtain ⟨l9,HL9⟩:=lz ((List.range (pq.size+1)).map (divT pq))
    obtain ⟨n9,HN9⟩:=lz (pq.size+1)
    have HLN9:Hid (l9.length=n9):=zq (by rw [HL9.out,HN9.out];simp)
    have HCL:Hid (callA (strT ⟨#[97,116,111,109,95,99,111,110,99,97,116]⟩ [varT 0,varT 1,atomT pq])=.ok l9):=zq (by rw [HL9.out];exact jn5 pq HSZ.out)
    have HNV:Hid (NoV l9):=zq (by rw [HL9.out];exact div_nov _ _)
    rename_i K9 hK9
    refine region_own (w0:=y4) [rVal [] [0] (fun | [v]=>v=.agg #[.int .i64 0,.int .i64 0,.string ⟨#[]⟩,.slice none 0 0] | _=>False),
      rVal [0] [1] (fun | [v]=>v=.agg #[.int .i64 0,.int .i64 1,.string ⟨#[]⟩,.slice none 0 0] | _=>False),
      rVal [] [2] (fun | [v]=>v=.agg #[.int .i64 2,.int .i64 0,.string pq,.slice none 0 0] | _=>False),
      rRow (List.range 3) 3 3 [varT 0,varT 1,atomT pq],
      rGoal (List.range 4) 4 ⟨#[97,116,111,109,95,99,111,110,99,97,116]⟩ 3 [varT 0,varT 1,atomT pq],
      rAns (List.range 5) 5 n9 l9,
      rPure (List.range 6) [6,5] (fun | [v,u]=>v=u | _=>False),
      rPure (List.range 7) [7,6] (fun | [v,u]=>v=tupC u 0 | _=>False),
      rPure (List.range 7) [8,6] (fun | [v,u]=>v=tupC u 1 | _=>False),
      rPure (List.range 7) [9,6] (fun | [v,u]=>v=tupC u 2 | _=>False),
      rBox [] [.int .i64 0,.int .i64 0,.string ⟨#[]⟩,.slice none 0 0] 12,
      rPure [0,1,2,3,4,5,6,7,10] [11,7] (fun | [v,u]=>v=u | _=>False),
      rStore [0,1,2,3,4,5,6,7,8,10,11] [8] 10 (fun | [v]=>contV v | _=>[]),
      rPure (List.range 13) [13,9] (fun | [v,u]=>v=u | _=>False)]
      [some 93,some 94,some 95,some 96,some 97,some 98,some 92,some 99,some 100,some 101,some 7,some 6,none,some 8] (isZero) (y4.heap.size) (by kernel_rfl) (Nat.le_refl _) (by kernel_rfl) (by kernel_rfl) (by kernel_rfl) (fun j o ho=>?srv) (fun val Y N hv HF=>?fin)
    case srv=>
      have hlt:j<14:=(Array.getElem?_eq_some_iff.1 ho).1
      rcases (show j=0∨j=1∨j=2∨j=3∨j=4∨j=5∨j=6∨j=7∨j=8∨j=9∨j=10∨j=11∨j=12∨j=13 by omega) with rfl | rfl | rfl | rfl | rfl | rfl | rfl | rfl | rfl | rfl | rfl | rfl | rfl | rfl
      ·cases ho
       refine srv_calV rfl rfl (fun _ _ _=>trivial) (fun val E X hE hB hA=>?_)
       exact ⟨_,_,_,by simp [execOp,go_sem,hE.c,hE.f] <;> rfl,HLX.out 0 X,rfl⟩
      ·cases ho
       refine srv_calV rfl rfl (fun _ _ _=>trivial) (fun val E X hE hB hA=>?_)
       exact ⟨_,_,_,by simp [execOp,go_sem,hE.c,hE.f] <;> rfl,HLX.out 1 X,rfl⟩
      ·cases ho
       refine srv_val rfl rfl (fun _ _ _=>trivial) (fun val E X hE hB hA=>?_)
       have e5:=hE.t 5 (.pointer (some ⟨w1.heap.size,0,none⟩)) rfl
       have hk5:=(HK4.out.call hB).all0
       simp only [bkAll,Nat.zero_add,Nat.reduceAdd,and_true] at hk5
       exact ⟨.agg #[.int .i64 2,.int .i64 0,.string pq,.slice none 0 0],by simp [execOp,go_sem,e5,hk5],rfl⟩
      ·cases ho
       refine srv_mk rfl rfl fun val E X N hE hC hA hc=>?_
       have e93:=hE.t 93 (val 0) rfl
       have h0:val 0=.agg #[.int .i64 0,.int .i64 0,.string ⟨#[]⟩,.slice none 0 0]:=hA 0 (oz rfl)
       have e94:=hE.t 94 (val 1) rfl
       have h1:val 1=.agg #[.int .i64 0,.int .i64 1,.string ⟨#[]⟩,.slice none 0 0]:=hA 1 (oz rfl)
       have e95:=hE.t 95 (val 2) rfl
       have h2:val 2=.agg #[.int .i64 2,.int .i64 0,.string pq,.slice none 0 0]:=hA 2 (oz rfl)
       exact ⟨.slice (some ⟨X.heap.size,0,none⟩) 3 3,X.alloc (.cells #[.int .i64 0,.int .i64 0,.string ⟨#[]⟩,.slice none 0 0,.int .i64 0,.int .i64 1,.string ⟨#[]⟩,.slice none 0 0,.int .i64 2,.int .i64 0,.string pq,.slice none 0 0] 32),by simp [execOp,go_sem,e93,h0,e94,h1,e95,h2],(Below.refl _ _).alloc (Nat.le_refl _) _,⟨_,rfl⟩,fun N' h1 h2=>⟨_,rfl,TmsK.rows (K:=N') (w:=X) (rs:=[(varT 0,none,0),(varT 1,none,0),(atomT pq,none,0)]) (e:=32) (h2 _ (Nat.le_refl _) (by simp)) (by simp [maxLen]) (fun x hx=>by
        simp only [List.mem_cons,List.mem_nil_iff,or_false] at hx
        rcases hx with rfl | rfl | rfl
        ·exact TmsK.nil
        ·exact TmsK.nil
        ·exact TmsK.nil)⟩⟩
      ·cases ho
       refine srv_cal rfl rfl fun val E X N hE hC hA hc=>?_
       obtain ⟨g3,h3,ht3⟩:∃g,val 3=.slice (some ⟨g,0,none⟩) 3 3∧TmsK N X (some ⟨g,0,none⟩) [varT 0,varT 1,atomT pq]:=hc 3 (oz rfl) rfl
       have e96:=hE.t 96 (val 3) rfl
       exact ⟨_,_,by simp [execOp,go_sem,hE.c,hE.f,e96,h3] <;> rfl,(HLF.out ⟨#[97,116,111,109,95,99,111,110,99,97,116]⟩ _ _ _ X).mono fun e w' h=>⟨_,h.1,h.2,⟨g3,rfl⟩,fun N' h1 _=>⟨g3,rfl,row_stab ht3 (fun b hb=>h.2.block b (hC.lt b hb)) h1⟩⟩⟩
      ·cases ho
       refine srv_cal rfl rfl fun val E X N hE hC hA hc=>?_
       obtain ⟨g4,h4,ht4⟩:∃g,val 4=.agg #[.int .i64 3,.int .i64 0,.string ⟨#[97,116,111,109,95,99,111,110,99,97,116]⟩,.slice (some ⟨g,0,none⟩) 3 3]∧TmsK N X (some ⟨g,0,none⟩) [varT 0,varT 1,atomT pq]:=hc 4 (oz rfl) rfl
       have e97:=hE.t 97 (val 4) rfl
       have h:=a_call (some ⟨g4,0,none⟩) 3 (strT ⟨#[97,116,111,109,95,99,111,110,99,97,116]⟩ [varT 0,varT 1,atomT pq]) X (HDO.out.below (HB4.out.trans (hC.bel.mono HB4.out.size))) (i64_of ⟨⟨by decide,by decide⟩,⟨by decide,by decide⟩,i64_zero,trivial⟩) (Nat.le_refl _) (TmsK.at' ht4)
       rw [show callA (strT ⟨#[97,116,111,109,95,99,111,110,99,97,116]⟩ [varT 0,varT 1,atomT pq])=.ok l9 from HCL.out] at h
       exact ⟨_,_,by simp [execOp,go_sem,hE.f,e97,h4] <;> rfl,h.mono fun e w' h=>by
        obtain ⟨hB,qa,qc,he,hT⟩:=h
        rw [HLN9.out] at he
        exact ⟨_,he,hB,⟨qa,qc,rfl⟩,fun N' h1 h2=>⟨qa,qc,rfl,ans_new (fun _ h=>h) hC hB hT HNV.out h1 h2⟩⟩⟩
      ·cases ho
       refine srv_pure rfl rfl (fun val E hE hA=>?_)
       have e98:=hE.t 98 (val 5) rfl
       obtain ⟨qa5,qc5,h5⟩:∃qa5 qc5,val 5=.tuple #[.slice qa5 n9 qc5,.agg #[.int .i64 0,.int .i64 0,.string ⟨#[]⟩,.slice none 0 0],.int .i64 0]:=hA 5 (oz rfl)
       exact ⟨val 5,fun X=>by simp [execOp,go_sem,e98,h5],rfl⟩
      ·cases ho
       refine srv_pure rfl rfl (fun val E hE hA=>?_)
       have e92:=hE.t 92 (val 6) rfl
       obtain ⟨qa5,qc5,h5⟩:∃qa5 qc5,val 5=.tuple #[.slice qa5 n9 qc5,.agg #[.int .i64 0,.int .i64 0,.string ⟨#[]⟩,.slice none 0 0],.int .i64 0]:=hA 5 (oz rfl)
       have h6:val 6=val 5:=hA 6 (oz rfl)
       rw [h5] at h6
       exact ⟨tupC (val 6) 0,fun X=>by simp [execOp,go_sem,e92,h6,tupC],rfl⟩
      ·cases ho
       refine srv_pure rfl rfl (fun val E hE hA=>?_)
       have e92:=hE.t 92 (val 6) rfl
       obtain ⟨qa5,qc5,h5⟩:∃qa5 qc5,val 5=.tuple #[.slice qa5 n9 qc5,.agg #[.int .i64 0,.int .i64 0,.string ⟨#[]⟩,.slice none 0 0],.int .i64 0]:=hA 5 (oz rfl)
       have h6:val 6=val 5:=hA 6 (oz rfl)
       rw [h5] at h6
       exact ⟨tupC (val 6) 1,fun X=>by simp [execOp,go_sem,e92,h6,tupC],rfl⟩
      ·cases ho
       refine srv_pure rfl rfl (fun val E hE hA=>?_)
       have e92:=hE.t 92 (val 6) rfl
       obtain ⟨qa5,qc5,h5⟩:∃qa5 qc5,val 5=.tuple #[.slice qa5 n9 qc5,.agg #[.int .i64 0,.int .i64 0,.string ⟨#[]⟩,.slice none 0 0],.int .i64 0]:=hA 5 (oz rfl)
       have h6:val 6=val 5:=hA 6 (oz rfl)
       rw [h5] at h6
       exact ⟨tupC (val 6) 2,fun X=>by simp [execOp,go_sem,e92,h6,tupC],rfl⟩
      ·cases ho
       exact srv_box rfl (fun _=>trivial) (rfl) 32 fun E X=>by simp [execOp,go_sem]
      ·cases ho
       refine srv_pure rfl rfl (fun val E hE hA=>?_)
       have e99:=hE.t 99 (val 7) rfl
       obtain ⟨qa5,qc5,h5⟩:∃qa5 qc5,val 5=.tuple #[.slice qa5 n9 qc5,.agg #[.int .i64 0,.int .i64 0,.string ⟨#[]⟩,.slice none 0 0],.int .i64 0]:=hA 5 (oz rfl)
       have h6:val 6=val 5:=hA 6 (oz rfl)
       rw [h5] at h6
       have h7:val 7=tupC (val 6) 0:=hA 7 (oz rfl)
       rw [h6] at h7
       exact ⟨val 7,fun X=>by simp [execOp,go_sem,e99,h7],rfl⟩
      ·cases ho
       refine srv_store rfl rfl (fun _=>trivial) fun val E X b hE hA hb hk=>?_
       have e7:=hE.t 7 (val 10) rfl
       have e100:=hE.t 100 (val 8) rfl
       obtain ⟨qa5,qc5,h5⟩:∃qa5 qc5,val 5=.tuple #[.slice qa5 n9 qc5,.agg #[.int .i64 0,.int .i64 0,.string ⟨#[]⟩,.slice none 0 0],.int .i64 0]:=hA 5 (oz rfl)
       have h6:val 6=val 5:=hA 6 (oz rfl)
       rw [h5] at h6
       have h8:val 8=tupC (val 6) 1:=hA 8 (oz rfl)
       rw [h6] at h8
       have z0:=hk.c 0 (.int .i64 0) rfl
       have f0:=hk.f 0
       have z1:=hk.c 1 (.int .i64 0) rfl
       have f1:=hk.f 1
       have z2:=hk.c 2 (.string ⟨#[]⟩) rfl
       have f2:=hk.f 2
       have z3:=hk.c 3 (.slice none 0 0) rfl
       have f3:=hk.f 3
       exact ⟨((((X.setCell ⟨b,0,none⟩ (.int .i64 0)).setCell ⟨b,1,none⟩ (.int .i64 0)).setCell ⟨b,2,none⟩ (.string ⟨#[]⟩)).setCell ⟨b,3,none⟩ (.slice none 0 0)),[.int .i64 0,.int .i64 0,.string ⟨#[]⟩,.slice none 0 0],by simp [execOp,go_sem,hb,e7,e100,h8,z0,f0,z1,f1,z2,f2,z3,f3,tupC],(((((PutTo.start hk).more 0 (.int .i64 0)).more 1 (.int .i64 0)).more 2 (.string ⟨#[]⟩)).more 3 (.slice none 0 0)),(show contV (val 8)=_ by rw [h8];rfl),rfl⟩
      ·cases ho
       refine srv_pure rfl rfl (fun val E hE hA=>?_)
       have e101:=hE.t 101 (val 9) rfl
       obtain ⟨qa5,qc5,h5⟩:∃qa5 qc5,val 5=.tuple #[.slice qa5 n9 qc5,.agg #[.int .i64 0,.int .i64 0,.string ⟨#[]⟩,.slice none 0 0],.int .i64 0]:=hA 5 (oz rfl)
       have h6:val 6=val 5:=hA 6 (oz rfl)
       rw [h5] at h6
       have h9:val 9=tupC (val 6) 2:=hA 9 (oz rfl)
       rw [h6] at h9
       exact ⟨val 9,fun X=>by simp [execOp,go_sem,e101,h9],rfl⟩
    case fin=>
      have h0:val 0=.agg #[.int .i64 0,.int .i64 0,.string ⟨#[]⟩,.slice none 0 0]:=hv 0 (by decide)
      have h1:val 1=.agg #[.int .i64 0,.int .i64 1,.string ⟨#[]⟩,.slice none 0 0]:=hv 1 (by decide)
      have h2:val 2=.agg #[.int .i64 2,.int .i64 0,.string pq,.slice none 0 0]:=hv 2 (by decide)
      obtain ⟨g3,h3⟩:∃g,val 3=.slice (some ⟨g,0,none⟩) 3 3:=hv 3 (by decide)
      obtain ⟨gg4,h4⟩:∃g,val 4=.agg #[.int .i64 3,.int .i64 0,.string ⟨#[97,116,111,109,95,99,111,110,99,97,116]⟩,.slice (some ⟨g,0,none⟩) 3 3]:=hv 4 (by decide)
      obtain ⟨qa5,qc5,h5,ht5⟩:∃qa5 qc5,val 5=.tuple #[.slice qa5 n9 qc5,.agg #[.int .i64 0,.int .i64 0,.string ⟨#[]⟩,.slice none 0 0],.int .i64 0]∧TmsK N Y qa5 l9:=HF.vcs 5 (by decide) rfl
      have h6:val 6=val 5:=hv 6 (by decide)
      rw [h5] at h6
      have h7:val 7=tupC (val 6) 0:=hv 7 (by decide)
      rw [h6] at h7
      replace h7:val 7=.slice qa5 n9 qc5:=h7
      have h8:val 8=tupC (val 6) 1:=hv 8 (by decide)
      rw [h6] at h8
      replace h8:val 8=.agg #[.int .i64 0,.int .i64 0,.string ⟨#[]⟩,.slice none 0 0]:=h8
      have h9:val 9=tupC (val 6) 2:=hv 9 (by decide)
      rw [h6] at h9
      replace h9:val 9=.int .i64 0:=h9
      have h11:val 11=val 7:=hv 11 (by decide)
      rw [h7] at h11
      have h13:val 13=val 9:=hv 13 (by decide)
      rw [h9] at h13
      obtain ⟨b10,hb10,hbl,hbk,hbn⟩:=HF.bxs 10 (by decide) _ _ rfl
      have HT9:Hid (TmsAt Y.heap.size Y qa5 l9):=zq (ht5.keep (fun _ _=>rfl) fun b hb=>HF.lt b hb)
      refine hK9 _ _ ?_
      simp only [fillD,List.set_cons_zero,List.set_cons_succ,Nat.reduceAdd,Nat.zero_add,h0,h1,h2,h3,h4,h5,h6,h7,h8,h9,h11,h13,hb10]
      have HBY:=zq (HB4.out.trans (HF.bel.mono HB4.out.size))
      have HKY:=zq (HK4.out.call HF.bel)
      clear hv HF hK9 h0 h1 h2 h3 h4 h5 h6 h7 h8 h9 h11 h13 ht5 hbk hbn HB4 HK4 HCL HNV
      have hw1:wrap64 ((p.size:Int)+(q.size:Int)+1)=(p.size:Int)+(q.size:Int)+1:=IntWalk.wrap64_in _ (by have:=HSZ.out;have:=HSQ.out;omega)
      have hpz:(p.size:Int)+(q.size:Int)+1=(n9:Int):=by have:=HN9.out;have:=HSQ.out;omega
      go_wp2_with fail
      go_loopw [117] (fun i wr=>∃k:Nat,k≤n9∧i=.int .i64 k∧Hid (Below Y.heap.size Y wr)) (fun i _=>n9-(intOf i).toNat)
      case atStart=>exact ⟨0,Nat.zero_le _,rfl,zq (Below.refl _ _)⟩
      case round=>
       obtain ⟨k,hk,rfl,HBR⟩:=hrel
       by_cases hlt:k<n9
       ·have hkl:k<l9.length:=by rw [HLN9.out];exact hlt
        obtain ⟨b,off,xa,xc,hA',hb,q0,q1,q2,q3,hsx⟩:=((HT9.out.keep HBR.out).mono HBR.out.size).get k hkl
        obtain ⟨x,HX⟩:=lz (l9[k])
        rw [←HX.out] at q0 q1 q2 q3 hsx
        have HXD:Hid (x=divT pq k):=zq (by rw [HX.out];simp [HL9.out])
        cases hA'
        have k0:(0:Int)≤(k:Int):=by omega
        have k1:(k:Int)<(n9:Int):=by omega
        have k2:(k:Int)≤(pq.size:Int):=by have:=HN9.out;omega
        have hw2:wrap64 ((k:Int)+1)=(k:Int)+1:=IntWalk.wrap64_in _ (by have:=HN9.out;have:=HSZ.out;omega)
        have HBW:=zq (HBY.out.trans (HBR.out.mono HBY.out.size))
        have HKW:=zq (HKY.out.call HBR.out)
        have HSX:=zq hsx
        obtain ⟨e0,HE0⟩:=lz (α:=ByteArray) (pq.extract 0 k)
        obtain ⟨e1,HE1⟩:=lz (α:=ByteArray) (pq.extract k pq.size)
        have HSM:Hid (sameT x (strT ⟨#[97,116,111,109,95,99,111,110,99,97,116]⟩ [atomT e0,atomT e1,atomT pq])=true):=zq (by rw [HXD.out,HE0.out,HE1.out];exact same_self (div_ok pq HSZ.out k))
        clear hsx HX HXD
        have hkz:((k:Int)).toNat=k:=Int.toNat_natCast k
        go_upto_region 12 with fail
        go_cut [140] from 120 to 139 (fun v wc=>v=.bool false∧Hid (Below Y.heap.size Y wc))
        case first=>
         go_wp2_with fail
         rename_i K8 hK8
         refine region_own (w0:=wr) [rPure [] [0] (fun | [v]=>v=.slice (some ⟨b,off,none⟩) n9 qc5 | _=>False),
           rPure [] [1] (fun | [v]=>v=.int .i64 (k:Int) | _=>False),
           rPure [0,1] [2] (fun | [v]=>v=.pointer (some ⟨b,off+k * 4,none⟩) | _=>False),
           rVal (List.range 3) [3] (fun | [v]=>v=.agg #[.int .i64 x.kind,.int .i64 x.num,.string x.name,.slice xa x.args.length xc] | _=>False),
           rPure [] [4] (fun | [v]=>v=.string p | _=>False),
           rPure [] [5] (fun | [v]=>v=.string q | _=>False),
           rPure [4,5] [6] (fun | [v]=>v=.string pq | _=>False),
           rPure [] [7] (fun | [v]=>v=.int .i64 (k:Int) | _=>False),
           rPure [4,5,6,7] [8] (fun | [v]=>v=.string e0 | _=>False),
           rVal [4,5,6,7,8] [9] (fun | [v]=>v=.agg #[.int .i64 2,.int .i64 0,.string e0,.slice none 0 0] | _=>False),
           rPure [] [10] (fun | [v]=>v=.string p | _=>False),
           rPure [] [11] (fun | [v]=>v=.string q | _=>False),
           rPure [10,11] [12] (fun | [v]=>v=.string pq | _=>False),
           rPure [] [13] (fun | [v]=>v=.int .i64 (k:Int) | _=>False),
           rPure [10,11,12,13] [14] (fun | [v]=>v=.string e1 | _=>False),
           rVal [4,5,6,7,8,9,10,11,12,13,14] [15] (fun | [v]=>v=.agg #[.int .i64 2,.int .i64 0,.string e1,.slice none 0 0] | _=>False),
           rVal [] [16] (fun | [v]=>v=.agg #[.int .i64 2,.int .i64 0,.string pq,.slice none 0 0] | _=>False),
           rRow [4,5,6,7,8,9,10,11,12,13,14,15,16] 17 3 [atomT e0,atomT e1,atomT pq],
           rGoal [4,5,6,7,8,9,10,11,12,13,14,15,16,17] 18 ⟨#[97,116,111,109,95,99,111,110,99,97,116]⟩ 3 [atomT e0,atomT e1,atomT pq],
           rVal (List.range 19) [19] (fun | [v]=>v=.bool true | _=>False),
           rPure (List.range 20) [20] (fun | [v]=>v=.bool false | _=>False)]
           [some 120,some 121,some 122,some 123,some 124,some 125,some 126,some 127,some 128,some 129,some 130,some 131,some 132,some 133,some 134,some 135,some 136,some 137,some 138,some 139,some 140] (fun _=>True) (wr.heap.size) (by kernel_rfl) (Nat.le_refl _) (by kernel_rfl) (by kernel_rfl) (by kernel_rfl) (fun j o ho=>?srv8) (fun val Y N hv HF=>?fin8)
         case srv8=>
           have hlt:j<21:=(Array.getElem?_eq_some_iff.1 ho).1
           rcases (show j=0∨j=1∨j=2∨j=3∨j=4∨j=5∨j=6∨j=7∨j=8∨j=9∨j=10∨j=11∨j=12∨j=13∨j=14∨j=15∨j=16∨j=17∨j=18∨j=19∨j=20 by omega) with rfl | rfl | rfl | rfl | rfl | rfl | rfl | rfl | rfl | rfl | rfl | rfl | rfl | rfl | rfl | rfl | rfl | rfl | rfl | rfl | rfl
           ·cases ho
            refine srv_pure rfl rfl (fun val E hE hA=>?_)
            have e6:=hE.t 6 (.slice (some ⟨b,off,none⟩) n9 qc5) rfl
            exact ⟨.slice (some ⟨b,off,none⟩) n9 qc5,fun X=>by simp [execOp,go_sem,e6],rfl⟩
           ·cases ho
            refine srv_pure rfl rfl (fun val E hE hA=>?_)
            have e9:=hE.t 9 (.int .i64 (k:Int)) rfl
            exact ⟨.int .i64 (k:Int),fun X=>by simp [execOp,go_sem,e9],rfl⟩
           ·cases ho
            refine srv_pure rfl rfl (fun val E hE hA=>?_)
            have e120:=hE.t 120 (val 0) rfl
            have h0:val 0=.slice (some ⟨b,off,none⟩) n9 qc5:=hA 0 (oz rfl)
            have e121:=hE.t 121 (val 1) rfl
            have h1:val 1=.int .i64 (k:Int):=hA 1 (oz rfl)
            exact ⟨.pointer (some ⟨b,off+k * 4,none⟩),fun X=>by simp [execOp,go_sem,e120,h0,e121,h1,k0,k1],rfl⟩
           ·cases ho
            refine srv_val rfl rfl (fun _ _ _=>trivial) (fun val E X hE hB hA=>?_)
            have e122:=hE.t 122 (val 2) rfl
            have h2:val 2=.pointer (some ⟨b,off+k * 4,none⟩):=hA 2 (oz rfl)
            have z0:=(hB.cell (p:=⟨b,off+k * 4,none⟩) hb).trans q0
            have z1:=(hB.cell (p:=⟨b,off+k * 4+1,none⟩) hb).trans q1
            have z2:=(hB.cell (p:=⟨b,off+k * 4+2,none⟩) hb).trans q2
            have z3:=(hB.cell (p:=⟨b,off+k * 4+3,none⟩) hb).trans q3
            exact ⟨.agg #[.int .i64 x.kind,.int .i64 x.num,.string x.name,.slice xa x.args.length xc],by simp [execOp,go_sem,e122,h2,z0,z1,z2,z3],rfl⟩
           ·cases ho
            refine srv_pure rfl rfl (fun val E hE hA=>?_)
            have e0:=hE.t 0 (.string p) rfl
            exact ⟨.string p,fun X=>by simp [execOp,go_sem,e0],rfl⟩
           ·cases ho
            refine srv_pure rfl rfl (fun val E hE hA=>?_)
            have e1:=hE.t 1 (.string q) rfl
            exact ⟨.string q,fun X=>by simp [execOp,go_sem,e1],rfl⟩
           ·cases ho
            refine srv_pure rfl rfl (fun val E hE hA=>?_)
            have e124:=hE.t 124 (val 4) rfl
            have h4:val 4=.string p:=hA 4 (oz rfl)
            have e125:=hE.t 125 (val 5) rfl
            have h5:val 5=.string q:=hA 5 (oz rfl)
            exact ⟨.string pq,fun X=>by simp [execOp,go_sem,e124,h4,e125,h5,hps,hpq],rfl⟩
           ·cases ho
            refine srv_pure rfl rfl (fun val E hE hA=>?_)
            have e9:=hE.t 9 (.int .i64 (k:Int)) rfl
            exact ⟨.int .i64 (k:Int),fun X=>by simp [execOp,go_sem,e9],rfl⟩
           ·cases ho
            refine srv_pure rfl rfl (fun val E hE hA=>?_)
            have e126:=hE.t 126 (val 6) rfl
            have h6:val 6=.string pq:=hA 6 (oz rfl)
            have e127:=hE.t 127 (val 7) rfl
            have h7:val 7=.int .i64 (k:Int):=hA 7 (oz rfl)
            have h9:pq.extract 0 k=e0:=HE0.out.symm
            exact ⟨.string e0,fun X=>by simp [execOp,go_sem,e126,h6,e127,h7,k0,k2,h9],rfl⟩
           ·cases ho
            refine srv_calV rfl rfl (fun _ _ _=>trivial) (fun val E X hE hB hA=>?_)
            have e128:=hE.t 128 (val 8) rfl
            have h8:val 8=.string e0:=hA 8 (oz rfl)
            exact ⟨_,_,_,by simp [execOp,go_sem,hE.f,e128,h8] <;> rfl,HLA.out e0 X,rfl⟩
           ·cases ho
            refine srv_pure rfl rfl (fun val E hE hA=>?_)
            have e0:=hE.t 0 (.string p) rfl
            exact ⟨.string p,fun X=>by simp [execOp,go_sem,e0],rfl⟩
           ·cases ho
            refine srv_pure rfl rfl (fun val E hE hA=>?_)
            have e1:=hE.t 1 (.string q) rfl
            exact ⟨.string q,fun X=>by simp [execOp,go_sem,e1],rfl⟩
           ·cases ho
            refine srv_pure rfl rfl (fun val E hE hA=>?_)
            have e130:=hE.t 130 (val 10) rfl
            have h10:val 10=.string p:=hA 10 (oz rfl)
            have e131:=hE.t 131 (val 11) rfl
            have h11:val 11=.string q:=hA 11 (oz rfl)
            exact ⟨.string pq,fun X=>by simp [execOp,go_sem,e130,h10,e131,h11,hps,hpq],rfl⟩
           ·cases ho
            refine srv_pure rfl rfl (fun val E hE hA=>?_)
            have e9:=hE.t 9 (.int .i64 (k:Int)) rfl
            exact ⟨.int .i64 (k:Int),fun X=>by simp [execOp,go_sem,e9],rfl⟩
           ·cases ho
            refine srv_pure rfl rfl (fun val E hE hA=>?_)
            have e132:=hE.t 132 (val 12) rfl
            have h12:val 12=.string pq:=hA 12 (oz rfl)
            have e133:=hE.t 133 (val 13) rfl
            have h13:val 13=.int .i64 (k:Int):=hA 13 (oz rfl)
            have h9:pq.extract k pq.size=e1:=HE1.out.symm
            exact ⟨.string e1,fun X=>by simp [execOp,go_sem,e132,h12,e133,h13,k0,k2,h9],rfl⟩
           ·cases ho
            refine srv_calV rfl rfl (fun _ _ _=>trivial) (fun val E X hE hB hA=>?_)
            have e134:=hE.t 134 (val 14) rfl
            have h14:val 14=.string e1:=hA 14 (oz rfl)
            exact ⟨_,_,_,by simp [execOp,go_sem,hE.f,e134,h14] <;> rfl,HLA.out e1 X,rfl⟩
           ·cases ho
            refine srv_val rfl rfl (fun _ _ _=>trivial) (fun val E X hE hB hA=>?_)
            have e5:=hE.t 5 (.pointer (some ⟨w1.heap.size,0,none⟩)) rfl
            have hk5:=(HKW.out.call hB).all0
            simp only [bkAll,Nat.zero_add,Nat.reduceAdd,and_true] at hk5
            exact ⟨.agg #[.int .i64 2,.int .i64 0,.string pq,.slice none 0 0],by simp [execOp,go_sem,e5,hk5],rfl⟩
           ·cases ho
            refine srv_mk rfl rfl fun val E X N hE hC hA hc=>?_
            have e129:=hE.t 129 (val 9) rfl
            have h9:val 9=.agg #[.int .i64 2,.int .i64 0,.string e0,.slice none 0 0]:=hA 9 (oz rfl)
            have e135:=hE.t 135 (val 15) rfl
            have h15:val 15=.agg #[.int .i64 2,.int .i64 0,.string e1,.slice none 0 0]:=hA 15 (oz rfl)
            have e136:=hE.t 136 (val 16) rfl
            have h16:val 16=.agg #[.int .i64 2,.int .i64 0,.string pq,.slice none 0 0]:=hA 16 (oz rfl)
            exact ⟨.slice (some ⟨X.heap.size,0,none⟩) 3 3,X.alloc (.cells #[.int .i64 2,.int .i64 0,.string e0,.slice none 0 0,.int .i64 2,.int .i64 0,.string e1,.slice none 0 0,.int .i64 2,.int .i64 0,.string pq,.slice none 0 0] 32),by simp [execOp,go_sem,e129,h9,e135,h15,e136,h16],(Below.refl _ _).alloc (Nat.le_refl _) _,⟨_,rfl⟩,fun N' h1 h2=>⟨_,rfl,TmsK.rows (K:=N') (w:=X) (rs:=[(atomT e0,none,0),(atomT e1,none,0),(atomT pq,none,0)]) (e:=32) (h2 _ (Nat.le_refl _) (by simp)) (by simp [maxLen]) (fun x hx=>by
             simp only [List.mem_cons,List.mem_nil_iff,or_false] at hx
             rcases hx with rfl | rfl | rfl
             ·exact TmsK.nil
             ·exact TmsK.nil
             ·exact TmsK.nil)⟩⟩
           ·cases ho
            refine srv_cal rfl rfl fun val E X N hE hC hA hc=>?_
            obtain ⟨g17,h17,ht17⟩:∃g,val 17=.slice (some ⟨g,0,none⟩) 3 3∧TmsK N X (some ⟨g,0,none⟩) [atomT e0,atomT e1,atomT pq]:=hc 17 (oz rfl) rfl
            have e137:=hE.t 137 (val 17) rfl
            exact ⟨_,_,by simp [execOp,go_sem,hE.c,hE.f,e137,h17] <;> rfl,(HLF.out ⟨#[97,116,111,109,95,99,111,110,99,97,116]⟩ _ _ _ X).mono fun e w' h=>⟨_,h.1,h.2,⟨g17,rfl⟩,fun N' h1 _=>⟨g17,rfl,row_stab ht17 (fun b hb=>h.2.block b (hC.lt b hb)) h1⟩⟩⟩
           ·cases ho
            refine srv_cal rfl rfl fun val E X N hE hC hA hc=>?_
            have h3:val 3=.agg #[.int .i64 x.kind,.int .i64 x.num,.string x.name,.slice xa x.args.length xc]:=hA 3 (oz rfl)
            obtain ⟨g18,h18,ht18⟩:∃g,val 18=.agg #[.int .i64 3,.int .i64 0,.string ⟨#[97,116,111,109,95,99,111,110,99,97,116]⟩,.slice (some ⟨g,0,none⟩) 3 3]∧TmsK N X (some ⟨g,0,none⟩) [atomT e0,atomT e1,atomT pq]:=hc 18 (oz rfl) rfl
            have e123:=hE.t 123 (val 3) rfl
            have e138:=hE.t 138 (val 18) rfl
            have h:=l_same x (strT ⟨#[97,116,111,109,95,99,111,110,99,97,116]⟩ [atomT e0,atomT e1,atomT pq]) xa (some ⟨g18,0,none⟩) xc 3 X ((HSX.out.keep hC.bel).mono hC.bel.size) (TmsK.at' ht18)
            rw [show sameT x (strT ⟨#[97,116,111,109,95,99,111,110,99,97,116]⟩ [atomT e0,atomT e1,atomT pq])=true from HSM.out] at h
            exact ⟨_,_,by simp [execOp,go_sem,hE.f,e123,h3,e138,h18] <;> first | rfl | exact ⟨rfl,rfl⟩,h.mono fun e w' h=>⟨_,h.1,h.2,rfl,fun _ _ _=>trivial⟩⟩
           ·cases ho
            refine srv_pure rfl rfl (fun val E hE hA=>?_)
            have e139:=hE.t 139 (val 19) rfl
            have h19:val 19=.bool true:=hA 19 (oz rfl)
            exact ⟨.bool false,fun X=>by simp [execOp,go_sem,e139,h19],rfl⟩
         case fin8=>
           have h0:val 0=.slice (some ⟨b,off,none⟩) n9 qc5:=hv 0 (by decide)
           have h1:val 1=.int .i64 (k:Int):=hv 1 (by decide)
           have h2:val 2=.pointer (some ⟨b,off+k * 4,none⟩):=hv 2 (by decide)
           have h3:val 3=.agg #[.int .i64 x.kind,.int .i64 x.num,.string x.name,.slice xa x.args.length xc]:=hv 3 (by decide)
           have h4:val 4=.string p:=hv 4 (by decide)
           have h5:val 5=.string q:=hv 5 (by decide)
           have h6:val 6=.string pq:=hv 6 (by decide)
           have h7:val 7=.int .i64 (k:Int):=hv 7 (by decide)
           have h8:val 8=.string e0:=hv 8 (by decide)
           have h9:val 9=.agg #[.int .i64 2,.int .i64 0,.string e0,.slice none 0 0]:=hv 9 (by decide)
           have h10:val 10=.string p:=hv 10 (by decide)
           have h11:val 11=.string q:=hv 11 (by decide)
           have h12:val 12=.string pq:=hv 12 (by decide)
           have h13:val 13=.int .i64 (k:Int):=hv 13 (by decide)
           have h14:val 14=.string e1:=hv 14 (by decide)
           have h15:val 15=.agg #[.int .i64 2,.int .i64 0,.string e1,.slice none 0 0]:=hv 15 (by decide)
           have h16:val 16=.agg #[.int .i64 2,.int .i64 0,.string pq,.slice none 0 0]:=hv 16 (by decide)
           obtain ⟨g17,h17⟩:∃g,val 17=.slice (some ⟨g,0,none⟩) 3 3:=hv 17 (by decide)
           obtain ⟨gg18,h18⟩:∃g,val 18=.agg #[.int .i64 3,.int .i64 0,.string ⟨#[97,116,111,109,95,99,111,110,99,97,116]⟩,.slice (some ⟨g,0,none⟩) 3 3]:=hv 18 (by decide)
           have h19:val 19=.bool true:=hv 19 (by decide)
           have h20:val 20=.bool false:=hv 20 (by decide)
           refine hK8 _ _ ?_
           simp only [fillD,List.set_cons_zero,List.set_cons_succ,Nat.reduceAdd,Nat.zero_add,h0,h1,h2,h3,h4,h5,h6,h7,h8,h9,h10,h11,h12,h13,h14,h15,h16,h17,h18,h19,h20]
           have HB8:=zq (HBR.out.trans (HF.bel.mono HBR.out.size))
           clear hv hK8 h0 h1 h2 h3 h4 h5 h6 h7 h8 h9 h10 h11 h12 h13 h14 h15 h16 h17 h18 h19 h20 HF HBR HKW HSX HBW HSM q0 q1 q2 q3 hb
           go_wp2_with fail
           go_meet
           exact ⟨rfl,HB8⟩
        case rest=>
         obtain ⟨rfl,HB8⟩:=hcut
         clear HBR HKW HSX HBW HSM q0 q1 q2 q3 hb
         obtain ⟨y8,HY8⟩:=lz (wc)
         rw [←HY8.out] at HB8 ⊢
         clear HY8 hkz k2 HE0 HE1 hps hv0 hw0 hw1 hpz
         go_wp2_with fail
         go_roundw
         case rel=>exact ⟨k+1,Nat.succ_le_of_lt hlt,by go_num,HB8⟩
         case measure=>first | exact spM k _ _ hw2 hlt | exact spM k _ _ rfl hlt
       ·have hkn:k=n9:=Nat.le_antisymm hk (Nat.le_of_not_lt hlt)
        subst hkn
        have HBW:=zq (HBY.out.trans (HBR.out.mono HBY.out.size))
        go_wp2_with fail
        refine (HAW.out _ HBW.out).mono ?_;rintro e wz ⟨rfl,hB⟩
        have HBZ:=bz HBW hB
        clear hB HBW
        go_wp2_with fail
        go_ret
        exact ⟨rfl,HBZ.out⟩
end Go.Proofs.YtpokpgkjaifccaaGreatDoorRR
