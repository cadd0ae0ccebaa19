/- Parts of the proof. -/
import Derived.Test.YtbojljpldcijgaaGreatH01
import Derived.Test.YtbojljpldcijgaaGreatH24
import Derived.Test.YtbojljpldcijgaaGreatH18
namespace Hb
open Go Go.RowKit
def varT (n:Int):Tm:=.mk 0 n ⟨#[]⟩ []
def strT (s:ByteArray) (l:List Tm):Tm:=.mk 3 0 s l
theorem row_new (W:World) (rs:List TR) (e:TypeId) (hm:rs.length≤maxLen) (h:∀r∈rs,TmsAt W.heap.size W r.2.1 r.1.args):TmsAt (W.alloc (.cells (rowsC rs).toArray e)).heap.size (W.alloc (.cells (rowsC rs).toArray e)) (some ⟨W.heap.size,0,none⟩) (rs.map (fun r:TR=>r.1)) :=
 TmsK.rows (by simp) hm fun x hx=>((h x hx).keep ((Below.refl _ _).alloc (Nat.le_refl _) _)).mono (by simp)
theorem srv_mkG {P:Program} {ops:Array Oper} {sp:List ROp} {BP:List Value→Prop} {B:Nat} {w0:World} {a0:Act} {T:List Value→World→Prop} {j:Nat} {o:Oper} {g:Nat} {b:Bool} (hc:(opAt sp j).cl=.call) (hg:o.guard=some (g,b)) (hv:∀val,VPs sp j val→val g=.bool b) (h:∀val E X N,EOf ops val a0 o E→AtC BP B w0 X N→VPs sp j val→VCs sp j val N X→∃v X',(execOp E o).run P X=.ok (.value v) X'∧Below X.heap.size X X'∧(opAt sp j).vp (vals sp j (updV val j v))∧∀N':Nat→Prop,(∀b,N b→N' b)→(∀b,X.heap.size≤b→b<X'.heap.size→N' b)→(opAt sp j).vc (vals sp j (updV val j v)) N' X'):SrvAt P ops sp BP B w0 a0 T j o:=by
 unfold SrvAt;rw [hc]
 refine fun val X N h1 h2 h3 h4 hA hC=>⟨fun _=>?_,fun hf=>by rw [want_some hg (hv val hA)] at hf;simp at hf⟩
 obtain ⟨v,X',h5,h6⟩:=h val _ X N (EOf.at _ _ _ _) ⟨h1,h2,h3,h4⟩ hA hC
 exact .inl ⟨v,X',h5,h6⟩
end Hb
namespace Go.Proofs.YtbojljpldcijgaaGreat
open Go.RowKit Hb
set_option maxRecDepth 100000
set_option linter.unusedSimpArgs false
attribute [local go_sem] Oper.semAt_some
theorem l_same (t u:Tm) (A B:Option Addr) (c d:Nat) (w:World) (hT:TmsAt w.heap.size w A t.args) (hU:TmsAt w.heap.size w B u.args):Calls Tryz.prog 18 #[tmV t A c,tmV u B d] w fun e w'=>e=.returned (.bool (sameT t u))∧Below w.heap.size w w':=r3_same t u A B c d w hT hU
theorem aw_read:readS [97,46,32,102,40,88,44,32,89,44,32,88,41,46,32,98,46] 2 syD=⟨strT ⟨#[102]⟩ [varT 0,varT 1,varT 0],[([88],0),([89],1)],[([89],1)],14,0,0⟩:=read_closed (m:=8) (n:=4) (by kernel_rfl) (by decide)
theorem aw_same:sameT (strT ⟨#[102]⟩ [varT 0,varT 1,varT 0]) (strT ⟨#[102]⟩ [varT 0,varT 1,varT 0])=true:=same_refl (chk_valid (n:=4) (by kernel_rfl) (by decide))
theorem aw_g0:givesR [49,32,45,32,45,49,46] (strT ⟨#[45]⟩ [(intT (1)),(intT (-1))])=true:=gives_closed (m:=4) (n:=3) (nm:=[]) (sg:=[]) (by kernel_rfl) (by decide)
theorem aw_g1:givesR [45,32,49,46] (strT ⟨#[45]⟩ [(intT (1))])=true:=gives_closed (m:=2) (n:=2) (nm:=[]) (sg:=[]) (by kernel_rfl) (by decide)
theorem aw_g2:givesR [97,32,58,45,32,98,44,32,92,43,32,99,32,59,32,100,46] (strT ⟨#[58,45]⟩ [(atomT (⟨#[97]⟩)),(strT ⟨#[59]⟩ [(strT ⟨#[44]⟩ [(atomT (⟨#[98]⟩)),(strT ⟨#[92,43]⟩ [(atomT (⟨#[99]⟩))])]),(atomT (⟨#[100]⟩))])])=true:=gives_closed (m:=8) (n:=8) (nm:=[]) (sg:=[]) (by kernel_rfl) (by decide)
theorem aw_g3:givesR [45,32,61,32,45,32,46] (strT ⟨#[61]⟩ [(atomT (⟨#[45]⟩)),(atomT (⟨#[45]⟩))])=true:=gives_closed (m:=3) (n:=3) (nm:=[]) (sg:=[]) (by kernel_rfl) (by decide)
theorem aw_g4:givesR [91,97,44,32,98,32,124,32,88,93,46] (strT ⟨#[46]⟩ [(atomT (⟨#[97]⟩)),(strT ⟨#[46]⟩ [(atomT (⟨#[98]⟩)),(varT (0))])])=true:=gives_closed (m:=7) (n:=5) (nm:=[([88],0)]) (sg:=[([88],0)]) (by kernel_rfl) (by decide)
theorem aw_w0:wrongR [97,32,61,32,98,32,61,32,99,46] 6=true:=wrong_closed (k:=3) (a:=6) (by kernel_rfl)
theorem aw_w1:wrongR [58,45,32,97,44,32,58,45,32,98,46] 9=true:=wrong_closed (k:=4) (a:=9) (by kernel_rfl)
set_option maxHeartbeats 6400000 in
theorem l_awake (w:World):Calls Tryz.prog 14 #[] w fun e w'=>e=.returned (.bool true)∧Below w.heap.size w w':=by
 obtain ⟨t0,HT0⟩:=lz (strT ⟨#[102]⟩ [varT 0,varT 1,varT 0])
 have HLA:=zq (fun s W=>l_a s W)
 have HLX:=zq (fun n W=>l_x n W)
 have HLN:=zq (fun n W=>l_n n W)
 have HLF:=zq (fun s A n c W=>l_f s A n c W)
 have HST:=zq (fun W=>f_start W)
 have HRD:Hid (∀g gc W,Tab W (some ⟨g,0,none⟩) 41 gc defL→Calls Tryz.prog 11 #[.string ⟨#[97,46,32,102,40,88,44,32,89,44,32,88,41,46,32,98,46]⟩,.int .i64 2,.agg #[.slice (some ⟨g,0,none⟩) 41 gc,.int .i64 1,.int .i64 1,.bool false,.bool false,.slice none 0 0]] W fun e w'=>∃A cap NA nc SA sc,e=.returned (.tuple #[.agg #[.int .i64 t0.kind,.int .i64 t0.num,.string t0.name,.slice A t0.args.length cap,.slice NA 2 nc,.slice SA 1 sc,.int .i64 14],.int .i64 0,.int .i64 0])∧Below W.heap.size W w'∧TmsAt w'.heap.size w' A t0.args∧NmAt (fun b=>b<w'.heap.size) w' NA [([88],0),([89],1)]∧NmAt (fun b=>b<w'.heap.size) w' SA [([89],1)]):=zq fun g gc W h=>by
  have hr:=start_read ⟨#[97,46,32,102,40,88,44,32,89,44,32,88,41,46,32,98,46]⟩ 2 (by decide) g gc W h
  rw [show readS (⟨#[97,46,32,102,40,88,44,32,89,44,32,88,41,46,32,98,46]⟩:ByteArray).data.toList 2 syD=_ from aw_read,←HT0.out] at hr
  exact hr.mono fun e w' h=>by
   obtain ⟨A,cap,NA,nc,SA,sc,he,hB,h1,h2,h3⟩:=h
   exact ⟨A,cap,NA,nc,SA,sc,he,hB,h1.keep (fun _ _=>rfl) fun _ hb=>hb.2,h2.keep (fun _ _=>rfl) fun _ hb=>hb.2,h3.keep (fun _ _=>rfl) fun _ hb=>hb.2⟩
 have HB0:=zq (Below.refl w.heap.size w)
 go_enter Tryz.func14,Tryz.ntmps14
 go_wp2_with fail
 refine (HST.out _).mono ?_;rintro e w1 ⟨g,gc,rfl,hB,hTB⟩
 have HB1:=bz HB0 hB
 have HTB:=zq hTB
 clear hB hTB HB0 HST
 go_wp2_with fail
 refine (HRD.out g gc _ HTB.out).mono ?_;rintro e w2 ⟨A,cap,NA,nc,SA,sc,rfl,hB,h1,h2,h3⟩
 obtain ⟨nb,no,rfl,hnb,hn0,hn1⟩:=h2.2 1 (by decide)
 obtain ⟨sb,so,rfl,hsb,hs0,hs1⟩:=h3.2 0 (by decide)
 have HNB:=zq hnb
 have HSB:=zq hsb
 have HN0:Hid (w2.cell? ⟨nb,no+2,none⟩=some (.string ⟨#[89]⟩)):=zq hn0
 have HN1:Hid (w2.cell? ⟨nb,no+2+1,none⟩=some (.int .i64 1)):=zq hn1
 have HS0:Hid (w2.cell? ⟨sb,so,none⟩=some (.string ⟨#[89]⟩)):=zq (by rw [Nat.zero_mul,Nat.add_zero] at hs0;exact hs0)
 have HS1:Hid (w2.cell? ⟨sb,so+1,none⟩=some (.int .i64 1)):=zq (by rw [Nat.zero_mul,Nat.add_zero] at hs1;exact hs1)
 have HT2:=zq h1
 have HB2:=bz HB1 hB
 clear hB h1 h2 h3 HB1 HRD HTB hnb hsb hn0 hn1 hs0 hs1
 obtain ⟨w3,HW3⟩:=lz (w2.alloc (.cells #[.int .i64 t0.kind,.int .i64 t0.num,.string t0.name,.slice A t0.args.length cap,.slice (some ⟨nb,no,none⟩) 2 nc,.slice (some ⟨sb,so,none⟩) 1 sc,.int .i64 14] 33))
 obtain ⟨g3,HG3⟩:=lz (w2.heap.size)
 have hB3:Below w2.heap.size w2 w3:=by rw [HW3.out];exact (Below.refl _ _).alloc (Nat.le_refl _) _
 have HK3:Hid (Bk w3 g3 [.int .i64 t0.kind,.int .i64 t0.num,.string t0.name,.slice A t0.args.length cap,.slice (some ⟨nb,no,none⟩) 2 nc,.slice (some ⟨sb,so,none⟩) 1 sc,.int .i64 14]):=zq (by rw [HW3.out,HG3.out];exact Bk.new w2 [.int .i64 t0.kind,.int .i64 t0.num,.string t0.name,.slice A t0.args.length cap,.slice (some ⟨nb,no,none⟩) 2 nc,.slice (some ⟨sb,so,none⟩) 1 sc,.int .i64 14] 33)
 have HB3:=bz HB2 hB3
 have HT3:=zq ((HT2.out.keep hB3).mono hB3.size)
 have HNC:Hid ((w3.cell? ⟨nb,no+2,none⟩=some (.string ⟨#[89]⟩)∧w3.cell? ⟨nb,no+2+1,none⟩=some (.int .i64 1))∧(w3.cell? ⟨sb,so,none⟩=some (.string ⟨#[89]⟩)∧w3.cell? ⟨sb,so+1,none⟩=some (.int .i64 1))∧nb<w3.heap.size∧sb<w3.heap.size):=zq
  ⟨⟨(World.cell?_of_block (hB3.block nb HNB.out)).trans HN0.out,(World.cell?_of_block (hB3.block nb HNB.out)).trans HN1.out⟩,⟨(World.cell?_of_block (hB3.block sb HSB.out)).trans HS0.out,(World.cell?_of_block (hB3.block sb HSB.out)).trans HS1.out⟩,Nat.lt_of_lt_of_le HNB.out hB3.size,Nat.lt_of_lt_of_le HSB.out hB3.size⟩
 go_upto_region 2 with fail
 rw [←HW3.out,←HG3.out]
 clear hB3 HB2 HT2 HW3 HG3 HNB HSB HN0 HN1 HS0 HS1
 rename_i K9 hK9
 refine region_own (w0:=w3) [rPure [] [0] (fun|[v]=>v=.int .i64 0|_=>False),
  rPure [0] [1] (fun|[v]=>v=.bool true|_=>False),
  rPure [0,1] [2] (fun|[v]=>v=.bool true|_=>False),
  rPure (List.range 3) [3] (fun|[v]=>v=.int .i64 0|_=>False),
  rPure (List.range 4) [4] (fun|[v]=>v=.bool true|_=>False),
  rPure (List.range 5) [5] (fun|[v]=>v=.bool true|_=>False),
  rPure (List.range 6) [6] (fun|[v]=>v=.bool true|_=>False),
  rPure (List.range 7) [7] (fun|[v]=>v=.pointer (some ⟨g3,0,none⟩)|_=>False),
  rVal (List.range 8) [8] (fun|[v]=>v=.agg #[.int .i64 t0.kind,.int .i64 t0.num,.string t0.name,.slice A t0.args.length cap]|_=>False),
  rVal (List.range 7) [9] (fun|[v]=>v=.agg #[.int .i64 0,.int .i64 0,.string ⟨#[]⟩,.slice none 0 0]|_=>False),
  rVal [0,1,2,3,4,5,6,9] [10] (fun|[v]=>v=.agg #[.int .i64 0,.int .i64 1,.string ⟨#[]⟩,.slice none 0 0]|_=>False),
  rVal [0,1,2,3,4,5,6,9,10] [11] (fun|[v]=>v=.agg #[.int .i64 0,.int .i64 0,.string ⟨#[]⟩,.slice none 0 0]|_=>False),
  rRow [0,1,2,3,4,5,6,9,10,11] 12 3 [varT 0,varT 1,varT 0],
  rGoal [0,1,2,3,4,5,6,9,10,11,12] 13 ⟨#[102]⟩ 3 [varT 0,varT 1,varT 0],
  rVal (List.range 14) [14] (fun|[v]=>v=.bool true|_=>False),
  rPure (List.range 15) [15] (fun|[v]=>v=.bool true|_=>False),
  rPure (List.range 16) [16] (fun|[v]=>v=.bool true|_=>False),
  rPure (List.range 17) [17] (fun|[v]=>v=.pointer (some ⟨g3,4,none⟩)|_=>False),
  rVal (List.range 18) [18] (fun|[v]=>v=.slice (some ⟨nb,no,none⟩) 2 nc|_=>False),
  rPure (List.range 19) [19] (fun|[v]=>v=.int .i64 2|_=>False),
  rPure (List.range 20) [20] (fun|[v]=>v=.bool true|_=>False),
  rPure (List.range 21) [21] (fun|[v]=>v=.bool true|_=>False),
  rPure (List.range 22) [22] (fun|[v]=>v=.bool true|_=>False),
  rPure (List.range 23) [23] (fun|[v]=>v=.pointer (some ⟨g3,4,none⟩)|_=>False),
  rVal (List.range 24) [24] (fun|[v]=>v=.slice (some ⟨nb,no,none⟩) 2 nc|_=>False),
  rPure (List.range 25) [25] (fun|[v]=>v=.pointer (some ⟨nb,no+2,none⟩)|_=>False),
  rVal (List.range 26) [26] (fun|[v]=>v=.agg #[.string ⟨#[89]⟩,.int .i64 1]|_=>False),
  rPure (List.range 23) [27] (fun|[v]=>v=.agg #[.string ⟨#[89]⟩,.int .i64 1]|_=>False),
  rPure (List.range 28) [28] (fun|[v]=>v=.bool true|_=>False),
  rPure (List.range 29) [29] (fun|[v]=>v=.bool true|_=>False),
  rPure (List.range 30) [30] (fun|[v]=>v=.bool true|_=>False),
  rPure (List.range 31) [31] (fun|[v]=>v=.pointer (some ⟨g3,5,none⟩)|_=>False),
  rVal (List.range 32) [32] (fun|[v]=>v=.slice (some ⟨sb,so,none⟩) 1 sc|_=>False),
  rPure (List.range 33) [33] (fun|[v]=>v=.int .i64 1|_=>False),
  rPure (List.range 34) [34] (fun|[v]=>v=.bool true|_=>False),
  rPure (List.range 35) [35] (fun|[v]=>v=.bool true|_=>False),
  rPure (List.range 36) [36] (fun|[v]=>v=.bool true|_=>False),
  rPure (List.range 37) [37] (fun|[v]=>v=.pointer (some ⟨g3,5,none⟩)|_=>False),
  rVal (List.range 38) [38] (fun|[v]=>v=.slice (some ⟨sb,so,none⟩) 1 sc|_=>False),
  rPure (List.range 39) [39] (fun|[v]=>v=.pointer (some ⟨sb,so,none⟩)|_=>False),
  rVal (List.range 40) [40] (fun|[v]=>v=.agg #[.string ⟨#[89]⟩,.int .i64 1]|_=>False),
  rPure (List.range 37) [41] (fun|[v]=>v=.pointer (some ⟨g3,4,none⟩)|_=>False),
  rVal [0,1,2,3,4,5,6,7,8,9,10,11,12,13,14,15,16,17,18,19,20,21,22,23,24,25,26,27,28,29,30,31,32,33,34,35,36,41] [42] (fun|[v]=>v=.slice (some ⟨nb,no,none⟩) 2 nc|_=>False),
  rPure [0,1,2,3,4,5,6,7,8,9,10,11,12,13,14,15,16,17,18,19,20,21,22,23,24,25,26,27,28,29,30,31,32,33,34,35,36,41,42] [43] (fun|[v]=>v=.pointer (some ⟨nb,no+2,none⟩)|_=>False),
  rVal [0,1,2,3,4,5,6,7,8,9,10,11,12,13,14,15,16,17,18,19,20,21,22,23,24,25,26,27,28,29,30,31,32,33,34,35,36,41,42,43] [44] (fun|[v]=>v=.agg #[.string ⟨#[89]⟩,.int .i64 1]|_=>False),
  rPure (List.range 45) [45] (fun|[v]=>v=.bool true|_=>False),
  rPure (List.range 46) [46] (fun|[v]=>v=.bool true|_=>False),
  rPure (List.range 47) [47] (fun|[v]=>v=.bool true|_=>False),
  rPure (List.range 48) [48] (fun|[v]=>v=.pointer (some ⟨g3,6,none⟩)|_=>False),
  rVal (List.range 49) [49] (fun|[v]=>v=.int .i64 14|_=>False),
  rPure (List.range 50) [50] (fun|[v]=>v=.bool true|_=>False),
  rPure (List.range 51) [51] (fun|[v]=>v=.bool true|_=>False),
  rPure (List.range 52) [52] (fun|[v]=>v=.bool true|_=>False)]
  [some 11,some 12,some 13,some 14,some 15,some 16,some 17,some 18,some 19,some 20,some 21,some 22,some 23,some 24,some 25,some 26,some 27,some 28,some 29,some 30,some 31,some 32,some 33,some 34,some 35,some 36,some 37,some 38,some 39,some 40,some 41,some 42,some 43,some 44,some 45,some 46,some 47,some 48,some 49,some 50,some 51,some 52,some 53,some 54,some 55,some 56,some 57,some 58,some 59,some 60,some 61,some 62,some 4] (fun _=>True) (w3.heap.size) (by kernel_rfl) (Nat.le_refl _) (by kernel_rfl) (by kernel_rfl) (by kernel_rfl) (fun j o ho=>?srv) (fun val Y N hv HF=>?fin)
 case srv=>
  have hlt:j<53:=(Array.getElem?_eq_some_iff.1 ho).1
  rcases (show j=0∨j=1∨j=2∨j=3∨j=4∨j=5∨j=6∨j=7∨j=8∨j=9∨j=10∨j=11∨j=12∨j=13∨j=14∨j=15∨j=16∨j=17∨j=18∨j=19∨j=20∨j=21∨j=22∨j=23∨j=24∨j=25∨j=26∨j=27∨j=28∨j=29∨j=30∨j=31∨j=32∨j=33∨j=34∨j=35∨j=36∨j=37∨j=38∨j=39∨j=40∨j=41∨j=42∨j=43∨j=44∨j=45∨j=46∨j=47∨j=48∨j=49∨j=50∨j=51∨j=52 by omega) with rfl|rfl|rfl|rfl|rfl|rfl|rfl|rfl|rfl|rfl|rfl|rfl|rfl|rfl|rfl|rfl|rfl|rfl|rfl|rfl|rfl|rfl|rfl|rfl|rfl|rfl|rfl|rfl|rfl|rfl|rfl|rfl|rfl|rfl|rfl|rfl|rfl|rfl|rfl|rfl|rfl|rfl|rfl|rfl|rfl|rfl|rfl|rfl|rfl|rfl|rfl|rfl|rfl
  ·cases ho
   refine srv_pure rfl rfl (fun val E hE hA=>?_)
   have e3:=hE.t 3 (.int .i64 0) rfl
   exact ⟨.int .i64 0,fun X=>by simp [execOp,go_sem,e3],rfl⟩
  ·cases ho
   refine srv_pure rfl rfl (fun val E hE hA=>?_)
   have e11:=hE.t 11 (val 0) rfl
   have h0:val 0=.int .i64 0:=hA 0 (oz rfl)
   exact ⟨.bool true,fun X=>by simp [execOp,go_sem,hE.c,e11,h0],rfl⟩
  ·cases ho
   refine srv_pure rfl rfl (fun val E hE hA=>?_)
   have e12:=hE.t 12 (val 1) rfl
   have h1:val 1=.bool true:=hA 1 (oz rfl)
   exact ⟨.bool true,fun X=>by simp [execOp,go_sem,e12,h1],rfl⟩
  ·cases ho
   refine srv_pureG (true) rfl rfl (fun val hA=>hA 2 (oz rfl)) (fun _ val E hE hA=>?_) (fun h=>absurd rfl h)
   have e2:=hE.t 2 (.int .i64 0) rfl
   exact ⟨.int .i64 0,fun X=>by simp [execOp,go_sem,e2],rfl⟩
  ·cases ho
   refine srv_pureG (true) rfl rfl (fun val hA=>hA 2 (oz rfl)) (fun _ val E hE hA=>?_) (fun h=>absurd rfl h)
   have e14:=hE.t 14 (val 3) rfl
   have h3:val 3=.int .i64 0:=hA 3 (oz rfl)
   exact ⟨.bool true,fun X=>by simp [execOp,go_sem,hE.c,e14,h3],rfl⟩
  ·cases ho
   refine srv_pure rfl rfl (fun val E hE hA=>?_)
   have e13:=hE.t 13 (val 2) rfl
   have h2:val 2=.bool true:=hA 2 (oz rfl)
   have e15:=hE.t 15 (val 4) rfl
   have h4:val 4=.bool true:=hA 4 (oz rfl)
   exact ⟨.bool true,fun X=>by simp [execOp,go_sem,hE.c,e13,h2,e15,h4],rfl⟩
  ·cases ho
   refine srv_pure rfl rfl (fun val E hE hA=>?_)
   have e16:=hE.t 16 (val 5) rfl
   have h5:val 5=.bool true:=hA 5 (oz rfl)
   exact ⟨.bool true,fun X=>by simp [execOp,go_sem,e16,h5],rfl⟩
  ·cases ho
   refine srv_pureG (true) rfl rfl (fun val hA=>hA 6 (oz rfl)) (fun _ val E hE hA=>?_) (fun h=>absurd rfl h)
   have e1:=hE.t 1 (.pointer (some ⟨g3,0,none⟩)) rfl
   exact ⟨.pointer (some ⟨g3,0,none⟩),fun X=>by simp [execOp,go_sem,e1],rfl⟩
  ·cases ho
   refine srv_valG (true) rfl rfl (fun _ _ _=>trivial) (fun val hA=>hA 6 (oz rfl)) (fun _ val E X hE hB hA=>?_) (fun h=>absurd rfl h)
   have e18:=hE.t 18 (val 7) rfl
   have h7:val 7=.pointer (some ⟨g3,0,none⟩):=hA 7 (oz rfl)
   have hk0:=(HK3.out.call hB).c 0 _ rfl
   have hk1:=(HK3.out.call hB).c 1 _ rfl
   have hk2:=(HK3.out.call hB).c 2 _ rfl
   have hk3:=(HK3.out.call hB).c 3 _ rfl
   exact ⟨.agg #[.int .i64 t0.kind,.int .i64 t0.num,.string t0.name,.slice A t0.args.length cap],by simp [execOp,go_sem,e18,h7,hk0,hk1,hk2,hk3],rfl⟩
  ·cases ho
   refine srv_calVG (true) rfl rfl (fun _ _ _=>trivial) (fun val hA=>hA 6 (oz rfl)) (fun _ val E X hE hB hA=>?_) (fun h=>absurd rfl h)
   exact ⟨_,_,_,by simp [execOp,go_sem,hE.c,hE.f] <;> rfl,HLX.out 0 X,rfl⟩
  ·cases ho
   refine srv_calVG (true) rfl rfl (fun _ _ _=>trivial) (fun val hA=>hA 6 (oz rfl)) (fun _ val E X hE hB hA=>?_) (fun h=>absurd rfl h)
   exact ⟨_,_,_,by simp [execOp,go_sem,hE.c,hE.f] <;> rfl,HLX.out 1 X,rfl⟩
  ·cases ho
   refine srv_calVG (true) rfl rfl (fun _ _ _=>trivial) (fun val hA=>hA 6 (oz rfl)) (fun _ val E X hE hB hA=>?_) (fun h=>absurd rfl h)
   exact ⟨_,_,_,by simp [execOp,go_sem,hE.c,hE.f] <;> rfl,HLX.out 0 X,rfl⟩
  ·cases ho
   refine srv_mkG rfl rfl (fun val hA=>hA 6 (oz rfl)) fun val E X N hE hC hA hc=>?_
   have e20:=hE.t 20 (val 9) rfl
   have h9:val 9=.agg #[.int .i64 0,.int .i64 0,.string ⟨#[]⟩,.slice none 0 0]:=hA 9 (oz rfl)
   have e21:=hE.t 21 (val 10) rfl
   have h10:val 10=.agg #[.int .i64 0,.int .i64 1,.string ⟨#[]⟩,.slice none 0 0]:=hA 10 (oz rfl)
   have e22:=hE.t 22 (val 11) rfl
   have h11:val 11=.agg #[.int .i64 0,.int .i64 0,.string ⟨#[]⟩,.slice none 0 0]:=hA 11 (oz rfl)
   exact ⟨.slice (some ⟨X.heap.size,0,none⟩) 3 3,X.alloc (.cells #[.int .i64 0,.int .i64 0,.string ⟨#[]⟩,.slice none 0 0,.int .i64 0,.int .i64 1,.string ⟨#[]⟩,.slice none 0 0,.int .i64 0,.int .i64 0,.string ⟨#[]⟩,.slice none 0 0] 30),by simp [execOp,go_sem,e20,h9,e21,h10,e22,h11],(Below.refl _ _).alloc (Nat.le_refl _) _,⟨_,rfl⟩,fun N' h1 h2=>⟨_,rfl,TmsK.rows (K:=N') (w:=X) (rs:=[(varT 0,none,0),(varT 1,none,0),(varT 0,none,0)]) (e:=30) (h2 _ (Nat.le_refl _) (by simp)) (by simp [maxLen]) (fun x hx=>by
    simp only [List.mem_cons,List.mem_nil_iff,or_false] at hx
    rcases hx with rfl|rfl|rfl
    ·exact TmsK.nil
    ·exact TmsK.nil
    ·exact TmsK.nil)⟩⟩
  ·cases ho
   refine srv_calG rfl rfl (fun val hA=>hA 6 (oz rfl)) fun val E X N hE hC hA hc=>?_
   obtain ⟨g12,h12,ht12⟩:∃g,val 12=.slice (some ⟨g,0,none⟩) 3 3∧TmsK N X (some ⟨g,0,none⟩) [varT 0,varT 1,varT 0]:=hc 12 (oz rfl) rfl
   have e23:=hE.t 23 (val 12) rfl
   exact ⟨_,_,by simp [execOp,go_sem,hE.c,hE.f,e23,h12] <;> rfl,(HLF.out ⟨#[102]⟩ _ _ _ X).mono fun e w' h=>⟨_,h.1,h.2,⟨g12,rfl⟩,fun N' h1 _=>⟨g12,rfl,row_stab ht12 (fun b hb=>h.2.block b (hC.lt b hb)) h1⟩⟩⟩
  ·cases ho
   refine srv_calG rfl rfl (fun val hA=>hA 6 (oz rfl)) fun val E X N hE hC hA hc=>?_
   have h8:val 8=.agg #[.int .i64 t0.kind,.int .i64 t0.num,.string t0.name,.slice A t0.args.length cap]:=hA 8 (oz rfl)
   obtain ⟨g13,h13,ht13⟩:∃g,val 13=.agg #[.int .i64 3,.int .i64 0,.string ⟨#[102]⟩,.slice (some ⟨g,0,none⟩) 3 3]∧TmsK N X (some ⟨g,0,none⟩) [varT 0,varT 1,varT 0]:=hc 13 (oz rfl) rfl
   have e19:=hE.t 19 (val 8) rfl
   have e24:=hE.t 24 (val 13) rfl
   have h:=l_same t0 (strT ⟨#[102]⟩ [varT 0,varT 1,varT 0]) A (some ⟨g13,0,none⟩) cap 3 X ((HT3.out.keep hC.bel).mono hC.bel.size) (TmsK.at' ht13)
   rw [show sameT t0 (strT ⟨#[102]⟩ [varT 0,varT 1,varT 0])=true from by rw [HT0.out];exact aw_same] at h
   exact ⟨_,_,by simp [execOp,go_sem,hE.f,e19,h8,e24,h13] <;> first | rfl | exact ⟨rfl,rfl⟩,h.mono fun e w' h=>⟨_,h.1,h.2,rfl,fun _ _ _=>trivial⟩⟩
  ·cases ho
   refine srv_pure rfl rfl (fun val E hE hA=>?_)
   have e17:=hE.t 17 (val 6) rfl
   have h6:val 6=.bool true:=hA 6 (oz rfl)
   have e25:=hE.t 25 (val 14) rfl
   have h14:val 14=.bool true:=hA 14 (oz rfl)
   exact ⟨.bool true,fun X=>by simp [execOp,go_sem,hE.c,e17,h6,e25,h14],rfl⟩
  ·cases ho
   refine srv_pure rfl rfl (fun val E hE hA=>?_)
   have e26:=hE.t 26 (val 15) rfl
   have h15:val 15=.bool true:=hA 15 (oz rfl)
   exact ⟨.bool true,fun X=>by simp [execOp,go_sem,e26,h15],rfl⟩
  ·cases ho
   refine srv_pureG (true) rfl rfl (fun val hA=>hA 16 (oz rfl)) (fun _ val E hE hA=>?_) (fun h=>absurd rfl h)
   have e1:=hE.t 1 (.pointer (some ⟨g3,0,none⟩)) rfl
   exact ⟨.pointer (some ⟨g3,4,none⟩),fun X=>by simp [execOp,go_sem,e1],rfl⟩
  ·cases ho
   refine srv_valG (true) rfl rfl (fun _ _ _=>trivial) (fun val hA=>hA 16 (oz rfl)) (fun _ val E X hE hB hA=>?_) (fun h=>absurd rfl h)
   have e28:=hE.t 28 (val 17) rfl
   have h17:val 17=.pointer (some ⟨g3,4,none⟩):=hA 17 (oz rfl)
   have hk:=(HK3.out.call hB).c 4 _ rfl
   exact ⟨.slice (some ⟨nb,no,none⟩) 2 nc,by simp [execOp,go_sem,e28,h17,hk],rfl⟩
  ·cases ho
   refine srv_pureG (true) rfl rfl (fun val hA=>hA 16 (oz rfl)) (fun _ val E hE hA=>?_) (fun h=>absurd rfl h)
   have e29:=hE.t 29 (val 18) rfl
   have h18:val 18=.slice (some ⟨nb,no,none⟩) 2 nc:=hA 18 (oz rfl)
   exact ⟨.int .i64 2,fun X=>by simp [execOp,go_sem,e29,h18],rfl⟩
  ·cases ho
   refine srv_pureG (true) rfl rfl (fun val hA=>hA 16 (oz rfl)) (fun _ val E hE hA=>?_) (fun h=>absurd rfl h)
   have e30:=hE.t 30 (val 19) rfl
   have h19:val 19=.int .i64 2:=hA 19 (oz rfl)
   exact ⟨.bool true,fun X=>by simp [execOp,go_sem,hE.c,e30,h19],rfl⟩
  ·cases ho
   refine srv_pure rfl rfl (fun val E hE hA=>?_)
   have e27:=hE.t 27 (val 16) rfl
   have h16:val 16=.bool true:=hA 16 (oz rfl)
   have e31:=hE.t 31 (val 20) rfl
   have h20:val 20=.bool true:=hA 20 (oz rfl)
   exact ⟨.bool true,fun X=>by simp [execOp,go_sem,hE.c,e27,h16,e31,h20],rfl⟩
  ·cases ho
   refine srv_pure rfl rfl (fun val E hE hA=>?_)
   have e32:=hE.t 32 (val 21) rfl
   have h21:val 21=.bool true:=hA 21 (oz rfl)
   exact ⟨.bool true,fun X=>by simp [execOp,go_sem,e32,h21],rfl⟩
  ·cases ho
   refine srv_pureG (true) rfl rfl (fun val hA=>hA 22 (oz rfl)) (fun _ val E hE hA=>?_) (fun h=>absurd rfl h)
   have e1:=hE.t 1 (.pointer (some ⟨g3,0,none⟩)) rfl
   exact ⟨.pointer (some ⟨g3,4,none⟩),fun X=>by simp [execOp,go_sem,e1],rfl⟩
  ·cases ho
   refine srv_valG (true) rfl rfl (fun _ _ _=>trivial) (fun val hA=>hA 22 (oz rfl)) (fun _ val E X hE hB hA=>?_) (fun h=>absurd rfl h)
   have e34:=hE.t 34 (val 23) rfl
   have h23:val 23=.pointer (some ⟨g3,4,none⟩):=hA 23 (oz rfl)
   have hk:=(HK3.out.call hB).c 4 _ rfl
   exact ⟨.slice (some ⟨nb,no,none⟩) 2 nc,by simp [execOp,go_sem,e34,h23,hk],rfl⟩
  ·cases ho
   refine srv_pureG (true) rfl rfl (fun val hA=>hA 22 (oz rfl)) (fun _ val E hE hA=>?_) (fun h=>absurd rfl h)
   have e35:=hE.t 35 (val 24) rfl
   have h24:val 24=.slice (some ⟨nb,no,none⟩) 2 nc:=hA 24 (oz rfl)
   exact ⟨.pointer (some ⟨nb,no+2,none⟩),fun X=>by simp [execOp,go_sem,hE.c,e35,h24],rfl⟩
  ·cases ho
   refine srv_valG (true) rfl rfl (fun _ _ _=>trivial) (fun val hA=>hA 22 (oz rfl)) (fun _ val E X hE hB hA=>?_) (fun h=>absurd rfl h)
   have e36:=hE.t 36 (val 25) rfl
   have h25:val 25=.pointer (some ⟨nb,no+2,none⟩):=hA 25 (oz rfl)
   have hc0:=(hB.cell (p:=⟨nb,no+2,none⟩) HNC.out.2.2.1).trans HNC.out.1.1
   have hc1:=(hB.cell (p:=⟨nb,no+2+1,none⟩) HNC.out.2.2.1).trans HNC.out.1.2
   exact ⟨.agg #[.string ⟨#[89]⟩,.int .i64 1],by simp [execOp,go_sem,e36,h25,hc0,hc1],rfl⟩
  ·cases ho
   refine srv_pureG (true) rfl rfl (fun val hA=>hA 22 (oz rfl)) (fun _ val E hE hA=>?_) (fun h=>absurd rfl h)
   exact ⟨.agg #[.string ⟨#[89]⟩,.int .i64 1],fun X=>by simp [execOp,go_sem,hE.c],rfl⟩
  ·cases ho
   refine srv_pureG (true) rfl rfl (fun val hA=>hA 22 (oz rfl)) (fun _ val E hE hA=>?_) (fun h=>absurd rfl h)
   have e37:=hE.t 37 (val 26) rfl
   have h26:val 26=.agg #[.string ⟨#[89]⟩,.int .i64 1]:=hA 26 (oz rfl)
   have e38:=hE.t 38 (val 27) rfl
   have h27:val 27=.agg #[.string ⟨#[89]⟩,.int .i64 1]:=hA 27 (oz rfl)
   exact ⟨.bool true,fun X=>by simp [execOp,go_sem,e37,h26,e38,h27],rfl⟩
  ·cases ho
   refine srv_pure rfl rfl (fun val E hE hA=>?_)
   have e33:=hE.t 33 (val 22) rfl
   have h22:val 22=.bool true:=hA 22 (oz rfl)
   have e39:=hE.t 39 (val 28) rfl
   have h28:val 28=.bool true:=hA 28 (oz rfl)
   exact ⟨.bool true,fun X=>by simp [execOp,go_sem,hE.c,e33,h22,e39,h28],rfl⟩
  ·cases ho
   refine srv_pure rfl rfl (fun val E hE hA=>?_)
   have e40:=hE.t 40 (val 29) rfl
   have h29:val 29=.bool true:=hA 29 (oz rfl)
   exact ⟨.bool true,fun X=>by simp [execOp,go_sem,e40,h29],rfl⟩
  ·cases ho
   refine srv_pureG (true) rfl rfl (fun val hA=>hA 30 (oz rfl)) (fun _ val E hE hA=>?_) (fun h=>absurd rfl h)
   have e1:=hE.t 1 (.pointer (some ⟨g3,0,none⟩)) rfl
   exact ⟨.pointer (some ⟨g3,5,none⟩),fun X=>by simp [execOp,go_sem,e1],rfl⟩
  ·cases ho
   refine srv_valG (true) rfl rfl (fun _ _ _=>trivial) (fun val hA=>hA 30 (oz rfl)) (fun _ val E X hE hB hA=>?_) (fun h=>absurd rfl h)
   have e42:=hE.t 42 (val 31) rfl
   have h31:val 31=.pointer (some ⟨g3,5,none⟩):=hA 31 (oz rfl)
   have hk:=(HK3.out.call hB).c 5 _ rfl
   exact ⟨.slice (some ⟨sb,so,none⟩) 1 sc,by simp [execOp,go_sem,e42,h31,hk],rfl⟩
  ·cases ho
   refine srv_pureG (true) rfl rfl (fun val hA=>hA 30 (oz rfl)) (fun _ val E hE hA=>?_) (fun h=>absurd rfl h)
   have e43:=hE.t 43 (val 32) rfl
   have h32:val 32=.slice (some ⟨sb,so,none⟩) 1 sc:=hA 32 (oz rfl)
   exact ⟨.int .i64 1,fun X=>by simp [execOp,go_sem,e43,h32],rfl⟩
  ·cases ho
   refine srv_pureG (true) rfl rfl (fun val hA=>hA 30 (oz rfl)) (fun _ val E hE hA=>?_) (fun h=>absurd rfl h)
   have e44:=hE.t 44 (val 33) rfl
   have h33:val 33=.int .i64 1:=hA 33 (oz rfl)
   exact ⟨.bool true,fun X=>by simp [execOp,go_sem,hE.c,e44,h33],rfl⟩
  ·cases ho
   refine srv_pure rfl rfl (fun val E hE hA=>?_)
   have e41:=hE.t 41 (val 30) rfl
   have h30:val 30=.bool true:=hA 30 (oz rfl)
   have e45:=hE.t 45 (val 34) rfl
   have h34:val 34=.bool true:=hA 34 (oz rfl)
   exact ⟨.bool true,fun X=>by simp [execOp,go_sem,hE.c,e41,h30,e45,h34],rfl⟩
  ·cases ho
   refine srv_pure rfl rfl (fun val E hE hA=>?_)
   have e46:=hE.t 46 (val 35) rfl
   have h35:val 35=.bool true:=hA 35 (oz rfl)
   exact ⟨.bool true,fun X=>by simp [execOp,go_sem,e46,h35],rfl⟩
  ·cases ho
   refine srv_pureG (true) rfl rfl (fun val hA=>hA 36 (oz rfl)) (fun _ val E hE hA=>?_) (fun h=>absurd rfl h)
   have e1:=hE.t 1 (.pointer (some ⟨g3,0,none⟩)) rfl
   exact ⟨.pointer (some ⟨g3,5,none⟩),fun X=>by simp [execOp,go_sem,e1],rfl⟩
  ·cases ho
   refine srv_valG (true) rfl rfl (fun _ _ _=>trivial) (fun val hA=>hA 36 (oz rfl)) (fun _ val E X hE hB hA=>?_) (fun h=>absurd rfl h)
   have e48:=hE.t 48 (val 37) rfl
   have h37:val 37=.pointer (some ⟨g3,5,none⟩):=hA 37 (oz rfl)
   have hk:=(HK3.out.call hB).c 5 _ rfl
   exact ⟨.slice (some ⟨sb,so,none⟩) 1 sc,by simp [execOp,go_sem,e48,h37,hk],rfl⟩
  ·cases ho
   refine srv_pureG (true) rfl rfl (fun val hA=>hA 36 (oz rfl)) (fun _ val E hE hA=>?_) (fun h=>absurd rfl h)
   have e49:=hE.t 49 (val 38) rfl
   have h38:val 38=.slice (some ⟨sb,so,none⟩) 1 sc:=hA 38 (oz rfl)
   exact ⟨.pointer (some ⟨sb,so,none⟩),fun X=>by simp [execOp,go_sem,hE.c,e49,h38],rfl⟩
  ·cases ho
   refine srv_valG (true) rfl rfl (fun _ _ _=>trivial) (fun val hA=>hA 36 (oz rfl)) (fun _ val E X hE hB hA=>?_) (fun h=>absurd rfl h)
   have e50:=hE.t 50 (val 39) rfl
   have h39:val 39=.pointer (some ⟨sb,so,none⟩):=hA 39 (oz rfl)
   have hc0:=(hB.cell (p:=⟨sb,so,none⟩) HNC.out.2.2.2).trans HNC.out.2.1.1
   have hc1:=(hB.cell (p:=⟨sb,so+1,none⟩) HNC.out.2.2.2).trans HNC.out.2.1.2
   exact ⟨.agg #[.string ⟨#[89]⟩,.int .i64 1],by simp [execOp,go_sem,e50,h39,hc0,hc1],rfl⟩
  ·cases ho
   refine srv_pureG (true) rfl rfl (fun val hA=>hA 36 (oz rfl)) (fun _ val E hE hA=>?_) (fun h=>absurd rfl h)
   have e1:=hE.t 1 (.pointer (some ⟨g3,0,none⟩)) rfl
   exact ⟨.pointer (some ⟨g3,4,none⟩),fun X=>by simp [execOp,go_sem,e1],rfl⟩
  ·cases ho
   refine srv_valG (true) rfl rfl (fun _ _ _=>trivial) (fun val hA=>hA 36 (oz rfl)) (fun _ val E X hE hB hA=>?_) (fun h=>absurd rfl h)
   have e52:=hE.t 52 (val 41) rfl
   have h41:val 41=.pointer (some ⟨g3,4,none⟩):=hA 41 (oz rfl)
   have hk:=(HK3.out.call hB).c 4 _ rfl
   exact ⟨.slice (some ⟨nb,no,none⟩) 2 nc,by simp [execOp,go_sem,e52,h41,hk],rfl⟩
  ·cases ho
   refine srv_pureG (true) rfl rfl (fun val hA=>hA 36 (oz rfl)) (fun _ val E hE hA=>?_) (fun h=>absurd rfl h)
   have e53:=hE.t 53 (val 42) rfl
   have h42:val 42=.slice (some ⟨nb,no,none⟩) 2 nc:=hA 42 (oz rfl)
   exact ⟨.pointer (some ⟨nb,no+2,none⟩),fun X=>by simp [execOp,go_sem,hE.c,e53,h42],rfl⟩
  ·cases ho
   refine srv_valG (true) rfl rfl (fun _ _ _=>trivial) (fun val hA=>hA 36 (oz rfl)) (fun _ val E X hE hB hA=>?_) (fun h=>absurd rfl h)
   have e54:=hE.t 54 (val 43) rfl
   have h43:val 43=.pointer (some ⟨nb,no+2,none⟩):=hA 43 (oz rfl)
   have hc0:=(hB.cell (p:=⟨nb,no+2,none⟩) HNC.out.2.2.1).trans HNC.out.1.1
   have hc1:=(hB.cell (p:=⟨nb,no+2+1,none⟩) HNC.out.2.2.1).trans HNC.out.1.2
   exact ⟨.agg #[.string ⟨#[89]⟩,.int .i64 1],by simp [execOp,go_sem,e54,h43,hc0,hc1],rfl⟩
  ·cases ho
   refine srv_pureG (true) rfl rfl (fun val hA=>hA 36 (oz rfl)) (fun _ val E hE hA=>?_) (fun h=>absurd rfl h)
   have e51:=hE.t 51 (val 40) rfl
   have h40:val 40=.agg #[.string ⟨#[89]⟩,.int .i64 1]:=hA 40 (oz rfl)
   have e55:=hE.t 55 (val 44) rfl
   have h44:val 44=.agg #[.string ⟨#[89]⟩,.int .i64 1]:=hA 44 (oz rfl)
   exact ⟨.bool true,fun X=>by simp [execOp,go_sem,e51,h40,e55,h44],rfl⟩
  ·cases ho
   refine srv_pure rfl rfl (fun val E hE hA=>?_)
   have e47:=hE.t 47 (val 36) rfl
   have h36:val 36=.bool true:=hA 36 (oz rfl)
   have e56:=hE.t 56 (val 45) rfl
   have h45:val 45=.bool true:=hA 45 (oz rfl)
   exact ⟨.bool true,fun X=>by simp [execOp,go_sem,hE.c,e47,h36,e56,h45],rfl⟩
  ·cases ho
   refine srv_pure rfl rfl (fun val E hE hA=>?_)
   have e57:=hE.t 57 (val 46) rfl
   have h46:val 46=.bool true:=hA 46 (oz rfl)
   exact ⟨.bool true,fun X=>by simp [execOp,go_sem,e57,h46],rfl⟩
  ·cases ho
   refine srv_pureG (true) rfl rfl (fun val hA=>hA 47 (oz rfl)) (fun _ val E hE hA=>?_) (fun h=>absurd rfl h)
   have e1:=hE.t 1 (.pointer (some ⟨g3,0,none⟩)) rfl
   exact ⟨.pointer (some ⟨g3,6,none⟩),fun X=>by simp [execOp,go_sem,e1],rfl⟩
  ·cases ho
   refine srv_valG (true) rfl rfl (fun _ _ _=>trivial) (fun val hA=>hA 47 (oz rfl)) (fun _ val E X hE hB hA=>?_) (fun h=>absurd rfl h)
   have e59:=hE.t 59 (val 48) rfl
   have h48:val 48=.pointer (some ⟨g3,6,none⟩):=hA 48 (oz rfl)
   have hk:=(HK3.out.call hB).c 6 _ rfl
   exact ⟨.int .i64 14,by simp [execOp,go_sem,e59,h48,hk],rfl⟩
  ·cases ho
   refine srv_pureG (true) rfl rfl (fun val hA=>hA 47 (oz rfl)) (fun _ val E hE hA=>?_) (fun h=>absurd rfl h)
   have e60:=hE.t 60 (val 49) rfl
   have h49:val 49=.int .i64 14:=hA 49 (oz rfl)
   exact ⟨.bool true,fun X=>by simp [execOp,go_sem,hE.c,e60,h49],rfl⟩
  ·cases ho
   refine srv_pure rfl rfl (fun val E hE hA=>?_)
   have e58:=hE.t 58 (val 47) rfl
   have h47:val 47=.bool true:=hA 47 (oz rfl)
   have e61:=hE.t 61 (val 50) rfl
   have h50:val 50=.bool true:=hA 50 (oz rfl)
   exact ⟨.bool true,fun X=>by simp [execOp,go_sem,hE.c,e58,h47,e61,h50],rfl⟩
  ·cases ho
   refine srv_pure rfl rfl (fun val E hE hA=>?_)
   have e62:=hE.t 62 (val 51) rfl
   have h51:val 51=.bool true:=hA 51 (oz rfl)
   exact ⟨.bool true,fun X=>by simp [execOp,go_sem,e62,h51],rfl⟩
 case fin=>
  have h0:val 0=.int .i64 0:=hv 0 (by decide)
  have h1:val 1=.bool true:=hv 1 (by decide)
  have h2:val 2=.bool true:=hv 2 (by decide)
  have h3:val 3=.int .i64 0:=hv 3 (by decide)
  have h4:val 4=.bool true:=hv 4 (by decide)
  have h5:val 5=.bool true:=hv 5 (by decide)
  have h6:val 6=.bool true:=hv 6 (by decide)
  have h7:val 7=.pointer (some ⟨g3,0,none⟩):=hv 7 (by decide)
  have h8:val 8=.agg #[.int .i64 t0.kind,.int .i64 t0.num,.string t0.name,.slice A t0.args.length cap]:=hv 8 (by decide)
  have h9:val 9=.agg #[.int .i64 0,.int .i64 0,.string ⟨#[]⟩,.slice none 0 0]:=hv 9 (by decide)
  have h10:val 10=.agg #[.int .i64 0,.int .i64 1,.string ⟨#[]⟩,.slice none 0 0]:=hv 10 (by decide)
  have h11:val 11=.agg #[.int .i64 0,.int .i64 0,.string ⟨#[]⟩,.slice none 0 0]:=hv 11 (by decide)
  obtain ⟨g12,h12⟩:∃g,val 12=.slice (some ⟨g,0,none⟩) 3 3:=hv 12 (by decide)
  obtain ⟨gg13,h13⟩:∃g,val 13=.agg #[.int .i64 3,.int .i64 0,.string ⟨#[102]⟩,.slice (some ⟨g,0,none⟩) 3 3]:=hv 13 (by decide)
  have h14:val 14=.bool true:=hv 14 (by decide)
  have h15:val 15=.bool true:=hv 15 (by decide)
  have h16:val 16=.bool true:=hv 16 (by decide)
  have h17:val 17=.pointer (some ⟨g3,4,none⟩):=hv 17 (by decide)
  have h18:val 18=.slice (some ⟨nb,no,none⟩) 2 nc:=hv 18 (by decide)
  have h19:val 19=.int .i64 2:=hv 19 (by decide)
  have h20:val 20=.bool true:=hv 20 (by decide)
  have h21:val 21=.bool true:=hv 21 (by decide)
  have h22:val 22=.bool true:=hv 22 (by decide)
  have h23:val 23=.pointer (some ⟨g3,4,none⟩):=hv 23 (by decide)
  have h24:val 24=.slice (some ⟨nb,no,none⟩) 2 nc:=hv 24 (by decide)
  have h25:val 25=.pointer (some ⟨nb,no+2,none⟩):=hv 25 (by decide)
  have h26:val 26=.agg #[.string ⟨#[89]⟩,.int .i64 1]:=hv 26 (by decide)
  have h27:val 27=.agg #[.string ⟨#[89]⟩,.int .i64 1]:=hv 27 (by decide)
  have h28:val 28=.bool true:=hv 28 (by decide)
  have h29:val 29=.bool true:=hv 29 (by decide)
  have h30:val 30=.bool true:=hv 30 (by decide)
  have h31:val 31=.pointer (some ⟨g3,5,none⟩):=hv 31 (by decide)
  have h32:val 32=.slice (some ⟨sb,so,none⟩) 1 sc:=hv 32 (by decide)
  have h33:val 33=.int .i64 1:=hv 33 (by decide)
  have h34:val 34=.bool true:=hv 34 (by decide)
  have h35:val 35=.bool true:=hv 35 (by decide)
  have h36:val 36=.bool true:=hv 36 (by decide)
  have h37:val 37=.pointer (some ⟨g3,5,none⟩):=hv 37 (by decide)
  have h38:val 38=.slice (some ⟨sb,so,none⟩) 1 sc:=hv 38 (by decide)
  have h39:val 39=.pointer (some ⟨sb,so,none⟩):=hv 39 (by decide)
  have h40:val 40=.agg #[.string ⟨#[89]⟩,.int .i64 1]:=hv 40 (by decide)
  have h41:val 41=.pointer (some ⟨g3,4,none⟩):=hv 41 (by decide)
  have h42:val 42=.slice (some ⟨nb,no,none⟩) 2 nc:=hv 42 (by decide)
  have h43:val 43=.pointer (some ⟨nb,no+2,none⟩):=hv 43 (by decide)
  have h44:val 44=.agg #[.string ⟨#[89]⟩,.int .i64 1]:=hv 44 (by decide)
  have h45:val 45=.bool true:=hv 45 (by decide)
  have h46:val 46=.bool true:=hv 46 (by decide)
  have h47:val 47=.bool true:=hv 47 (by decide)
  have h48:val 48=.pointer (some ⟨g3,6,none⟩):=hv 48 (by decide)
  have h49:val 49=.int .i64 14:=hv 49 (by decide)
  have h50:val 50=.bool true:=hv 50 (by decide)
  have h51:val 51=.bool true:=hv 51 (by decide)
  have h52:val 52=.bool true:=hv 52 (by decide)
  refine hK9 _ _ ?_
  simp only [fillD,List.set_cons_zero,List.set_cons_succ,Nat.reduceAdd,Nat.zero_add,h0,h1,h2,h3,h4,h5,h6,h7,h8,h9,h10,h11,h12,h13,h14,h15,h16,h17,h18,h19,h20,h21,h22,h23,h24,h25,h26,h27,h28,h29,h30,h31,h32,h33,h34,h35,h36,h37,h38,h39,h40,h41,h42,h43,h44,h45,h46,h47,h48,h49,h50,h51,h52]
  have HBY:=zq (HB3.out.trans (HF.bel.mono HB3.out.size))
  clear hv HF hK9 h0 h1 h2 h3 h4 h5 h6 h7 h8 h9 h10 h11 h12 h13 h14 h15 h16 h17 h18 h19 h20 h21 h22 h23 h24 h25 h26 h27 h28 h29 h30 h31 h32 h33 h34 h35 h36 h37 h38 h39 h40 h41 h42 h43 h44 h45 h46 h47 h48 h49 h50 h51 h52 HB3 HT3 HK3 HNC HT0
  go_wp2_with fail
  refine (HLN.out (1) _).mono ?_;rintro e w21 ⟨rfl,hB⟩
  have HB_22:=bz HBY hB
  clear hB HBY
  go_wp2_with fail
  refine (HLN.out ((-1)) _).mono ?_;rintro e w23 ⟨rfl,hB⟩
  have HB_24:=bz HB_22 hB
  clear hB HB_22
  obtain ⟨y25,HY25⟩:=lz (w23.alloc (.cells #[.int .i64 1,.int .i64 1,.string ⟨#[]⟩,.slice none 0 0,.int .i64 1,.int .i64 ((-1)),.string ⟨#[]⟩,.slice none 0 0] 30))
  have hB:Below w23.heap.size w23 y25:=by rw [HY25.out];exact (Below.refl _ _).alloc (Nat.le_refl _) _
  have HRN67:Hid (TmsAt y25.heap.size y25 (some ⟨w23.heap.size,0,none⟩) [(intT (1)),(intT ((-1)))]):=zq (by
   rw [HY25.out]
   exact row_new w23 [((intT (1)),none,0),((intT ((-1))),none,0)] 30 (by simp [maxLen]) (fun r hr=>by
    simp only [List.mem_cons,List.mem_nil_iff,or_false] at hr
    rcases hr with rfl|rfl
    ·exact TmsK.nil
    ·exact TmsK.nil))
  have HB_26:=bz HB_24 hB
  clear hB HB_24
  go_wp2_with fail
  rw [←HY25.out]
  clear HY25
  refine (HLF.out ⟨#[45]⟩ _ _ _ _).mono ?_;rintro e w27 ⟨rfl,hB⟩
  have HB_28:=bz HB_26 hB
  have HR67_28:=zq ((HRN67.out.keep hB).mono hB.size)
  clear hB HB_26 HRN67
  go_wp2_with fail
  have HG29:Hid (Calls Tryz.prog 25 #[.string ⟨#[49,32,45,32,45,49,46]⟩,.agg #[.int .i64 3,.int .i64 0,.string ⟨#[45]⟩,.slice (some ⟨w23.heap.size,0,none⟩) 2 2]] w27 fun e w'=>e=.returned (.bool true)∧Below w27.heap.size w27 w'):=zq (by
   have h:=l_gives ⟨#[49,32,45,32,45,49,46]⟩ (strT ⟨#[45]⟩ [(intT (1)),(intT ((-1)))]) (some ⟨w23.heap.size,0,none⟩) 2 w27 (by decide) HR67_28.out
   rw [show givesR (⟨#[49,32,45,32,45,49,46]⟩:ByteArray).data.toList (strT ⟨#[45]⟩ [(intT (1)),(intT ((-1)))])=true from aw_g0] at h
   exact h)
  refine HG29.out.mono ?_;rintro e w29 ⟨rfl,hB⟩
  clear HG29
  have HB_30:=bz HB_28 hB
  clear hB HB_28 HR67_28
  go_wp2_with fail
  refine (HLN.out (1) _).mono ?_;rintro e w31 ⟨rfl,hB⟩
  have HB_32:=bz HB_30 hB
  clear hB HB_30
  obtain ⟨y33,HY33⟩:=lz (w31.alloc (.cells #[.int .i64 1,.int .i64 1,.string ⟨#[]⟩,.slice none 0 0] 30))
  have hB:Below w31.heap.size w31 y33:=by rw [HY33.out];exact (Below.refl _ _).alloc (Nat.le_refl _) _
  have HRN73:Hid (TmsAt y33.heap.size y33 (some ⟨w31.heap.size,0,none⟩) [(intT (1))]):=zq (by
   rw [HY33.out]
   exact row_new w31 [((intT (1)),none,0)] 30 (by simp [maxLen]) (fun r hr=>by
    simp only [List.mem_cons,List.mem_nil_iff,or_false] at hr
    rcases hr with rfl
    ·exact TmsK.nil))
  have HB_34:=bz HB_32 hB
  clear hB HB_32
  go_wp2_with fail
  rw [←HY33.out]
  clear HY33
  refine (HLF.out ⟨#[45]⟩ _ _ _ _).mono ?_;rintro e w35 ⟨rfl,hB⟩
  have HB_36:=bz HB_34 hB
  have HR73_36:=zq ((HRN73.out.keep hB).mono hB.size)
  clear hB HB_34 HRN73
  go_wp2_with fail
  have HG37:Hid (Calls Tryz.prog 25 #[.string ⟨#[45,32,49,46]⟩,.agg #[.int .i64 3,.int .i64 0,.string ⟨#[45]⟩,.slice (some ⟨w31.heap.size,0,none⟩) 1 1]] w35 fun e w'=>e=.returned (.bool true)∧Below w35.heap.size w35 w'):=zq (by
   have h:=l_gives ⟨#[45,32,49,46]⟩ (strT ⟨#[45]⟩ [(intT (1))]) (some ⟨w31.heap.size,0,none⟩) 1 w35 (by decide) HR73_36.out
   rw [show givesR (⟨#[45,32,49,46]⟩:ByteArray).data.toList (strT ⟨#[45]⟩ [(intT (1))])=true from aw_g1] at h
   exact h)
  refine HG37.out.mono ?_;rintro e w37 ⟨rfl,hB⟩
  clear HG37
  have HB_38:=bz HB_36 hB
  clear hB HB_36 HR73_36
  go_wp2_with fail
  refine (HLA.out (⟨#[97]⟩) _).mono ?_;rintro e w39 ⟨rfl,hB⟩
  have HB_40:=bz HB_38 hB
  clear hB HB_38
  go_wp2_with fail
  refine (HLA.out (⟨#[98]⟩) _).mono ?_;rintro e w41 ⟨rfl,hB⟩
  have HB_42:=bz HB_40 hB
  clear hB HB_40
  go_wp2_with fail
  refine (HLA.out (⟨#[99]⟩) _).mono ?_;rintro e w43 ⟨rfl,hB⟩
  have HB_44:=bz HB_42 hB
  clear hB HB_42
  obtain ⟨y45,HY45⟩:=lz (w43.alloc (.cells #[.int .i64 2,.int .i64 0,.string ⟨#[99]⟩,.slice none 0 0] 30))
  have hB:Below w43.heap.size w43 y45:=by rw [HY45.out];exact (Below.refl _ _).alloc (Nat.le_refl _) _
  have HRN81:Hid (TmsAt y45.heap.size y45 (some ⟨w43.heap.size,0,none⟩) [(atomT (⟨#[99]⟩))]):=zq (by
   rw [HY45.out]
   exact row_new w43 [((atomT (⟨#[99]⟩)),none,0)] 30 (by simp [maxLen]) (fun r hr=>by
    simp only [List.mem_cons,List.mem_nil_iff,or_false] at hr
    rcases hr with rfl
    ·exact TmsK.nil))
  have HB_46:=bz HB_44 hB
  clear hB HB_44
  go_wp2_with fail
  rw [←HY45.out]
  clear HY45
  refine (HLF.out ⟨#[92,43]⟩ _ _ _ _).mono ?_;rintro e w47 ⟨rfl,hB⟩
  have HB_48:=bz HB_46 hB
  have HR81_48:=zq ((HRN81.out.keep hB).mono hB.size)
  clear hB HB_46 HRN81
  obtain ⟨y49,HY49⟩:=lz (w47.alloc (.cells #[.int .i64 2,.int .i64 0,.string ⟨#[98]⟩,.slice none 0 0,.int .i64 3,.int .i64 0,.string ⟨#[92,43]⟩,.slice (some ⟨w43.heap.size,0,none⟩) 1 1] 30))
  have hB:Below w47.heap.size w47 y49:=by rw [HY49.out];exact (Below.refl _ _).alloc (Nat.le_refl _) _
  have HRN83:Hid (TmsAt y49.heap.size y49 (some ⟨w47.heap.size,0,none⟩) [(atomT (⟨#[98]⟩)),(strT ⟨#[92,43]⟩ [(atomT (⟨#[99]⟩))])]):=zq (by
   rw [HY49.out]
   exact row_new w47 [((atomT (⟨#[98]⟩)),none,0),((strT ⟨#[92,43]⟩ [(atomT (⟨#[99]⟩))]),(some ⟨w43.heap.size,0,none⟩),1)] 30 (by simp [maxLen]) (fun r hr=>by
    simp only [List.mem_cons,List.mem_nil_iff,or_false] at hr
    rcases hr with rfl|rfl
    ·exact TmsK.nil
    ·exact HR81_48.out))
  have HB_50:=bz HB_48 hB
  clear hB HB_48 HR81_48
  go_wp2_with fail
  rw [←HY49.out]
  clear HY49
  refine (HLF.out ⟨#[44]⟩ _ _ _ _).mono ?_;rintro e w51 ⟨rfl,hB⟩
  have HB_52:=bz HB_50 hB
  have HR83_52:=zq ((HRN83.out.keep hB).mono hB.size)
  clear hB HB_50 HRN83
  go_wp2_with fail
  refine (HLA.out (⟨#[100]⟩) _).mono ?_;rintro e w53 ⟨rfl,hB⟩
  have HB_54:=bz HB_52 hB
  have HR83_54:=zq ((HR83_52.out.keep hB).mono hB.size)
  clear hB HB_52 HR83_52
  obtain ⟨y55,HY55⟩:=lz (w53.alloc (.cells #[.int .i64 3,.int .i64 0,.string ⟨#[44]⟩,.slice (some ⟨w47.heap.size,0,none⟩) 2 2,.int .i64 2,.int .i64 0,.string ⟨#[100]⟩,.slice none 0 0] 30))
  have hB:Below w53.heap.size w53 y55:=by rw [HY55.out];exact (Below.refl _ _).alloc (Nat.le_refl _) _
  have HRN86:Hid (TmsAt y55.heap.size y55 (some ⟨w53.heap.size,0,none⟩) [(strT ⟨#[44]⟩ [(atomT (⟨#[98]⟩)),(strT ⟨#[92,43]⟩ [(atomT (⟨#[99]⟩))])]),(atomT (⟨#[100]⟩))]):=zq (by
   rw [HY55.out]
   exact row_new w53 [((strT ⟨#[44]⟩ [(atomT (⟨#[98]⟩)),(strT ⟨#[92,43]⟩ [(atomT (⟨#[99]⟩))])]),(some ⟨w47.heap.size,0,none⟩),2),((atomT (⟨#[100]⟩)),none,0)] 30 (by simp [maxLen]) (fun r hr=>by
    simp only [List.mem_cons,List.mem_nil_iff,or_false] at hr
    rcases hr with rfl|rfl
    ·exact HR83_54.out
    ·exact TmsK.nil))
  have HB_56:=bz HB_54 hB
  clear hB HB_54 HR83_54
  go_wp2_with fail
  rw [←HY55.out]
  clear HY55
  refine (HLF.out ⟨#[59]⟩ _ _ _ _).mono ?_;rintro e w57 ⟨rfl,hB⟩
  have HB_58:=bz HB_56 hB
  have HR86_58:=zq ((HRN86.out.keep hB).mono hB.size)
  clear hB HB_56 HRN86
  obtain ⟨y59,HY59⟩:=lz (w57.alloc (.cells #[.int .i64 2,.int .i64 0,.string ⟨#[97]⟩,.slice none 0 0,.int .i64 3,.int .i64 0,.string ⟨#[59]⟩,.slice (some ⟨w53.heap.size,0,none⟩) 2 2] 30))
  have hB:Below w57.heap.size w57 y59:=by rw [HY59.out];exact (Below.refl _ _).alloc (Nat.le_refl _) _
  have HRN88:Hid (TmsAt y59.heap.size y59 (some ⟨w57.heap.size,0,none⟩) [(atomT (⟨#[97]⟩)),(strT ⟨#[59]⟩ [(strT ⟨#[44]⟩ [(atomT (⟨#[98]⟩)),(strT ⟨#[92,43]⟩ [(atomT (⟨#[99]⟩))])]),(atomT (⟨#[100]⟩))])]):=zq (by
   rw [HY59.out]
   exact row_new w57 [((atomT (⟨#[97]⟩)),none,0),((strT ⟨#[59]⟩ [(strT ⟨#[44]⟩ [(atomT (⟨#[98]⟩)),(strT ⟨#[92,43]⟩ [(atomT (⟨#[99]⟩))])]),(atomT (⟨#[100]⟩))]),(some ⟨w53.heap.size,0,none⟩),2)] 30 (by simp [maxLen]) (fun r hr=>by
    simp only [List.mem_cons,List.mem_nil_iff,or_false] at hr
    rcases hr with rfl|rfl
    ·exact TmsK.nil
    ·exact HR86_58.out))
  have HB_60:=bz HB_58 hB
  clear hB HB_58 HR86_58
  go_wp2_with fail
  rw [←HY59.out]
  clear HY59
  refine (HLF.out ⟨#[58,45]⟩ _ _ _ _).mono ?_;rintro e w61 ⟨rfl,hB⟩
  have HB_62:=bz HB_60 hB
  have HR88_62:=zq ((HRN88.out.keep hB).mono hB.size)
  clear hB HB_60 HRN88
  go_wp2_with fail
  have HG63:Hid (Calls Tryz.prog 25 #[.string ⟨#[97,32,58,45,32,98,44,32,92,43,32,99,32,59,32,100,46]⟩,.agg #[.int .i64 3,.int .i64 0,.string ⟨#[58,45]⟩,.slice (some ⟨w57.heap.size,0,none⟩) 2 2]] w61 fun e w'=>e=.returned (.bool true)∧Below w61.heap.size w61 w'):=zq (by
   have h:=l_gives ⟨#[97,32,58,45,32,98,44,32,92,43,32,99,32,59,32,100,46]⟩ (strT ⟨#[58,45]⟩ [(atomT (⟨#[97]⟩)),(strT ⟨#[59]⟩ [(strT ⟨#[44]⟩ [(atomT (⟨#[98]⟩)),(strT ⟨#[92,43]⟩ [(atomT (⟨#[99]⟩))])]),(atomT (⟨#[100]⟩))])]) (some ⟨w57.heap.size,0,none⟩) 2 w61 (by decide) HR88_62.out
   rw [show givesR (⟨#[97,32,58,45,32,98,44,32,92,43,32,99,32,59,32,100,46]⟩:ByteArray).data.toList (strT ⟨#[58,45]⟩ [(atomT (⟨#[97]⟩)),(strT ⟨#[59]⟩ [(strT ⟨#[44]⟩ [(atomT (⟨#[98]⟩)),(strT ⟨#[92,43]⟩ [(atomT (⟨#[99]⟩))])]),(atomT (⟨#[100]⟩))])])=true from aw_g2] at h
   exact h)
  refine HG63.out.mono ?_;rintro e w63 ⟨rfl,hB⟩
  clear HG63
  have HB_64:=bz HB_62 hB
  clear hB HB_62 HR88_62
  go_wp2_with fail
  refine (HLA.out (⟨#[45]⟩) _).mono ?_;rintro e w65 ⟨rfl,hB⟩
  have HB_66:=bz HB_64 hB
  clear hB HB_64
  go_wp2_with fail
  refine (HLA.out (⟨#[45]⟩) _).mono ?_;rintro e w67 ⟨rfl,hB⟩
  have HB_68:=bz HB_66 hB
  clear hB HB_66
  obtain ⟨y69,HY69⟩:=lz (w67.alloc (.cells #[.int .i64 2,.int .i64 0,.string ⟨#[45]⟩,.slice none 0 0,.int .i64 2,.int .i64 0,.string ⟨#[45]⟩,.slice none 0 0] 30))
  have hB:Below w67.heap.size w67 y69:=by rw [HY69.out];exact (Below.refl _ _).alloc (Nat.le_refl _) _
  have HRN95:Hid (TmsAt y69.heap.size y69 (some ⟨w67.heap.size,0,none⟩) [(atomT (⟨#[45]⟩)),(atomT (⟨#[45]⟩))]):=zq (by
   rw [HY69.out]
   exact row_new w67 [((atomT (⟨#[45]⟩)),none,0),((atomT (⟨#[45]⟩)),none,0)] 30 (by simp [maxLen]) (fun r hr=>by
    simp only [List.mem_cons,List.mem_nil_iff,or_false] at hr
    rcases hr with rfl|rfl
    ·exact TmsK.nil
    ·exact TmsK.nil))
  have HB_70:=bz HB_68 hB
  clear hB HB_68
  go_wp2_with fail
  rw [←HY69.out]
  clear HY69
  refine (HLF.out ⟨#[61]⟩ _ _ _ _).mono ?_;rintro e w71 ⟨rfl,hB⟩
  have HB_72:=bz HB_70 hB
  have HR95_72:=zq ((HRN95.out.keep hB).mono hB.size)
  clear hB HB_70 HRN95
  go_wp2_with fail
  have HG73:Hid (Calls Tryz.prog 25 #[.string ⟨#[45,32,61,32,45,32,46]⟩,.agg #[.int .i64 3,.int .i64 0,.string ⟨#[61]⟩,.slice (some ⟨w67.heap.size,0,none⟩) 2 2]] w71 fun e w'=>e=.returned (.bool true)∧Below w71.heap.size w71 w'):=zq (by
   have h:=l_gives ⟨#[45,32,61,32,45,32,46]⟩ (strT ⟨#[61]⟩ [(atomT (⟨#[45]⟩)),(atomT (⟨#[45]⟩))]) (some ⟨w67.heap.size,0,none⟩) 2 w71 (by decide) HR95_72.out
   rw [show givesR (⟨#[45,32,61,32,45,32,46]⟩:ByteArray).data.toList (strT ⟨#[61]⟩ [(atomT (⟨#[45]⟩)),(atomT (⟨#[45]⟩))])=true from aw_g3] at h
   exact h)
  refine HG73.out.mono ?_;rintro e w73 ⟨rfl,hB⟩
  clear HG73
  have HB_74:=bz HB_72 hB
  clear hB HB_72 HR95_72
  go_wp2_with fail
  refine (HLA.out (⟨#[97]⟩) _).mono ?_;rintro e w75 ⟨rfl,hB⟩
  have HB_76:=bz HB_74 hB
  clear hB HB_74
  go_wp2_with fail
  refine (HLA.out (⟨#[98]⟩) _).mono ?_;rintro e w77 ⟨rfl,hB⟩
  have HB_78:=bz HB_76 hB
  clear hB HB_76
  go_wp2_with fail
  refine (HLX.out (0) _).mono ?_;rintro e w79 ⟨rfl,hB⟩
  have HB_80:=bz HB_78 hB
  clear hB HB_78
  obtain ⟨y81,HY81⟩:=lz (w79.alloc (.cells #[.int .i64 2,.int .i64 0,.string ⟨#[98]⟩,.slice none 0 0,.int .i64 0,.int .i64 0,.string ⟨#[]⟩,.slice none 0 0] 30))
  have hB:Below w79.heap.size w79 y81:=by rw [HY81.out];exact (Below.refl _ _).alloc (Nat.le_refl _) _
  have HRN103:Hid (TmsAt y81.heap.size y81 (some ⟨w79.heap.size,0,none⟩) [(atomT (⟨#[98]⟩)),(varT (0))]):=zq (by
   rw [HY81.out]
   exact row_new w79 [((atomT (⟨#[98]⟩)),none,0),((varT (0)),none,0)] 30 (by simp [maxLen]) (fun r hr=>by
    simp only [List.mem_cons,List.mem_nil_iff,or_false] at hr
    rcases hr with rfl|rfl
    ·exact TmsK.nil
    ·exact TmsK.nil))
  have HB_82:=bz HB_80 hB
  clear hB HB_80
  go_wp2_with fail
  rw [←HY81.out]
  clear HY81
  refine (HLF.out ⟨#[46]⟩ _ _ _ _).mono ?_;rintro e w83 ⟨rfl,hB⟩
  have HB_84:=bz HB_82 hB
  have HR103_84:=zq ((HRN103.out.keep hB).mono hB.size)
  clear hB HB_82 HRN103
  obtain ⟨y85,HY85⟩:=lz (w83.alloc (.cells #[.int .i64 2,.int .i64 0,.string ⟨#[97]⟩,.slice none 0 0,.int .i64 3,.int .i64 0,.string ⟨#[46]⟩,.slice (some ⟨w79.heap.size,0,none⟩) 2 2] 30))
  have hB:Below w83.heap.size w83 y85:=by rw [HY85.out];exact (Below.refl _ _).alloc (Nat.le_refl _) _
  have HRN105:Hid (TmsAt y85.heap.size y85 (some ⟨w83.heap.size,0,none⟩) [(atomT (⟨#[97]⟩)),(strT ⟨#[46]⟩ [(atomT (⟨#[98]⟩)),(varT (0))])]):=zq (by
   rw [HY85.out]
   exact row_new w83 [((atomT (⟨#[97]⟩)),none,0),((strT ⟨#[46]⟩ [(atomT (⟨#[98]⟩)),(varT (0))]),(some ⟨w79.heap.size,0,none⟩),2)] 30 (by simp [maxLen]) (fun r hr=>by
    simp only [List.mem_cons,List.mem_nil_iff,or_false] at hr
    rcases hr with rfl|rfl
    ·exact TmsK.nil
    ·exact HR103_84.out))
  have HB_86:=bz HB_84 hB
  clear hB HB_84 HR103_84
  go_wp2_with fail
  rw [←HY85.out]
  clear HY85
  refine (HLF.out ⟨#[46]⟩ _ _ _ _).mono ?_;rintro e w87 ⟨rfl,hB⟩
  have HB_88:=bz HB_86 hB
  have HR105_88:=zq ((HRN105.out.keep hB).mono hB.size)
  clear hB HB_86 HRN105
  go_wp2_with fail
  have HG89:Hid (Calls Tryz.prog 25 #[.string ⟨#[91,97,44,32,98,32,124,32,88,93,46]⟩,.agg #[.int .i64 3,.int .i64 0,.string ⟨#[46]⟩,.slice (some ⟨w83.heap.size,0,none⟩) 2 2]] w87 fun e w'=>e=.returned (.bool true)∧Below w87.heap.size w87 w'):=zq (by
   have h:=l_gives ⟨#[91,97,44,32,98,32,124,32,88,93,46]⟩ (strT ⟨#[46]⟩ [(atomT (⟨#[97]⟩)),(strT ⟨#[46]⟩ [(atomT (⟨#[98]⟩)),(varT (0))])]) (some ⟨w83.heap.size,0,none⟩) 2 w87 (by decide) HR105_88.out
   rw [show givesR (⟨#[91,97,44,32,98,32,124,32,88,93,46]⟩:ByteArray).data.toList (strT ⟨#[46]⟩ [(atomT (⟨#[97]⟩)),(strT ⟨#[46]⟩ [(atomT (⟨#[98]⟩)),(varT (0))])])=true from aw_g4] at h
   exact h)
  refine HG89.out.mono ?_;rintro e w89 ⟨rfl,hB⟩
  clear HG89
  have HB_90:=bz HB_88 hB
  clear hB HB_88 HR105_88
  go_wp2_with fail
  have HG91:Hid (Calls Tryz.prog 28 #[.string ⟨#[97,32,61,32,98,32,61,32,99,46]⟩,.int .i64 6] w89 fun e w'=>e=.returned (.bool true)∧Below w89.heap.size w89 w'):=zq (by
   have h:=l_wrong ⟨#[97,32,61,32,98,32,61,32,99,46]⟩ 6 w89 (by decide)
   rw [show wrongR (⟨#[97,32,61,32,98,32,61,32,99,46]⟩:ByteArray).data.toList 6=true from aw_w0] at h
   exact h)
  refine HG91.out.mono ?_;rintro e w91 ⟨rfl,hB⟩
  clear HG91
  have HB_92:=bz HB_90 hB
  clear hB HB_90
  go_wp2_with fail
  have HG93:Hid (Calls Tryz.prog 28 #[.string ⟨#[58,45,32,97,44,32,58,45,32,98,46]⟩,.int .i64 9] w91 fun e w'=>e=.returned (.bool true)∧Below w91.heap.size w91 w'):=zq (by
   have h:=l_wrong ⟨#[58,45,32,97,44,32,58,45,32,98,46]⟩ 9 w91 (by decide)
   rw [show wrongR (⟨#[58,45,32,97,44,32,58,45,32,98,46]⟩:ByteArray).data.toList 9=true from aw_w1] at h
   exact h)
  refine HG93.out.mono ?_;rintro e w93 ⟨rfl,hB⟩
  clear HG93
  have HB_94:=bz HB_92 hB
  clear hB HB_92
  go_wp2_with fail
  go_ret
  exact ⟨rfl,HB_94.out⟩
end Go.Proofs.YtbojljpldcijgaaGreat
