/- Parts of the proof. -/
import Derived.Test.YtbojljpldcijgaaGreatH01
import Derived.Test.YtbojljpldcijgaaGreatH02
import Derived.Test.YtbojljpldcijgaaGreatH03
import Derived.Test.YtbojljpldcijgaaGreatH04
import Derived.Test.YtbojljpldcijgaaGreatH05
import Derived.Test.YtbojljpldcijgaaGreatH06
import Derived.Test.YtbojljpldcijgaaGreatH07
import Derived.Test.YtbojljpldcijgaaGreatH08
import Derived.Test.YtbojljpldcijgaaGreatH09
import Derived.Test.YtbojljpldcijgaaGreatH10
import Derived.Test.YtbojljpldcijgaaGreatH11
import Derived.Test.YtbojljpldcijgaaGreatH12
import Derived.Test.YtbojljpldcijgaaGreatH13
import Derived.Test.YtbojljpldcijgaaGreatH14
import Derived.Test.YtbojljpldcijgaaGreatH15
import Derived.Test.YtbojljpldcijgaaGreatH16
import Derived.Test.YtbojljpldcijgaaGreatH17
import Derived.Test.YtbojljpldcijgaaGreatH18
import Derived.Test.YtbojljpldcijgaaGreatH21
import Derived.Test.YtbojljpldcijgaaGreatH22
import Derived.Test.YtbojljpldcijgaaGreatH23
import Derived.Test.YtbojljpldcijgaaGreatH24
import Derived.Test.YtbojljpldcijgaaGreatH25
import Derived.Test.YtbojljpldcijgaaGreatH26
import Derived.Test.YtbojljpldcijgaaGreatH27
import Derived.Test.YtbojljpldcijgaaGreatN01
import Derived.Test.YtbojljpldcijgaaGreatN02
import Derived.Test.YtbojljpldcijgaaGreatN03
namespace Go.Proofs.YtbojljpldcijgaaGreat
open Go.RowKit Hb
set_option maxRecDepth 100000
set_option linter.unusedSimpArgs false
attribute [local go_sem] Oper.semAt_some
theorem rd_zero (k e:Int):sameRd (rdErr k e) (rdErr 0 0)=true:=by
 unfold sameRd rdErr
 simp only [same_refl zero_valid]
 simp
theorem start_err (text:ByteArray) (at_ k e:Int) (hs:text.size≤maxLen) (h:readS text.data.toList at_ syD=rdErr k e) (g gc:Nat) (W:World) (hT:Tab W (some ⟨g,0,none⟩) 41 gc defL):Calls Tryz.prog 11 #[.string text,.int .i64 at_,.agg #[.slice (some ⟨g,0,none⟩) 41 gc,.int .i64 1,.int .i64 1,.bool false,.bool false,.slice none 0 0]] W fun en w'=>∃A cap NA nc SA sc,en=.returned (.tuple #[.agg #[.int .i64 0,.int .i64 0,.string ⟨#[]⟩,.slice A 0 cap,.slice NA 0 nc,.slice SA 0 sc,.int .i64 0],.int .i64 k,.int .i64 e])∧Below W.heap.size W w'∧RdAt w' (rdErr k e) A NA SA:=by
 have hr:=start_read text at_ hs g gc W hT
 rw [h] at hr
 exact hr.mono fun en w' ⟨A,cap,NA,nc,SA,sc,he,hB,h1,h2,h3⟩=>⟨A,cap,NA,nc,SA,sc,he,hB,⟨h1.keep (fun _ _=>rfl) fun _ hb=>hb.2,h2.keep (fun _ _=>rfl) fun _ hb=>hb.2,h3.keep (fun _ _=>rfl) fun _ hb=>hb.2⟩⟩
theorem zero_err (W:World):Calls Tryz.prog 11 #[.string ⟨#[97,46]⟩,.int .i64 0,.agg #[.slice none 0 0,.int .i64 0,.int .i64 0,.bool false,.bool false,.slice none 0 0]] W fun en w'=>∃A cap NA nc SA sc,en=.returned (.tuple #[.agg #[.int .i64 0,.int .i64 0,.string ⟨#[]⟩,.slice A 0 cap,.slice NA 0 nc,.slice SA 0 sc,.int .i64 0],.int .i64 0,.int .i64 1])∧Below W.heap.size W w':=by
 have hr:=rd_Term ⟨#[97,46]⟩ 0 none 0 0 0 0 false false none 0 0 [] [] W (Tab.none _) rfl (Nat.zero_le _) (Pairs.nil _ _) (by decide)
 rw [show readS (⟨#[97,46]⟩:ByteArray).data.toList 0 ⟨[],0,0,false,false,[]⟩=_ from k_zero] at hr
 exact hr.mono fun en w' ⟨A,cap,NA,nc,SA,sc,he,hB,_⟩=>⟨A,cap,NA,nc,SA,sc,he,hB⟩
theorem start_all (text:ByteArray) (l:List RdR) (k e:Int) (hs:text.size≤maxLen) (h:allS text.data.toList syD=(l,k,e)) (g gc:Nat) (W:World) (hT:Tab W (some ⟨g,0,none⟩) 41 gc defL):Calls Tryz.prog 21 #[.string text,.agg #[.slice (some ⟨g,0,none⟩) 41 gc,.int .i64 1,.int .i64 1,.bool false,.bool false,.slice none 0 0]] W fun en w'=>∃A cap,en=.returned (.tuple #[.slice A l.length cap,.int .i64 k,.int .i64 e])∧Below W.heap.size W w'∧∀j (hj:j<l.length),∃g,A=some ⟨g,0,none⟩∧g<w'.heap.size∧w'.cell? ⟨g,j * 7+6,none⟩=some (.int .i64 l[j].end_):=by
 have hr:=rd_All text (some ⟨g,0,none⟩) 41 gc 1 1 false false none 0 0 defL [] W hT rfl (Nat.zero_le _) (Pairs.nil _ _) hs
 refine hr.mono fun en w' ⟨v,rs,he,hB,hO,hm⟩=>?_
 have h':allS text.data.toList ⟨defL,1,1,false,false,[]⟩=(l,k,e):=h
 rw [h'] at he hm
 obtain ⟨A,cap,rfl,_,hc⟩:=hO.val
 have hm:rs.map (·.r)=l:=hm
 subst hm
 refine ⟨A,cap,by rw [List.length_map];exact he,hB,fun j hj=>?_⟩
 obtain ⟨g,hA,_,hg,hcell⟩:=hc j (by simpa using hj)
 refine ⟨g,hA,hg,?_⟩
 rw [List.getElem_map]
 exact hcell 6 _ rfl
set_option maxHeartbeats 12800000 in
theorem law_known (w:World):Calls Tryz.prog 8 #[] w fun e w'=>e=.returned (.bool true)∧Below w.heap.size w w':=by
 obtain ⟨t0,HT0⟩:∃t,Hid (t=(strT ⟨#[61]⟩ [varT 0,strT ⟨#[102]⟩ [varT 1,varT 2,varT 3,varT 2]])):=⟨_,Lib.hid rfl⟩
 have HAW:=Lib.hid (fun W=>l_awake W)
 have HLA:=Lib.hid (fun s W=>l_a s W)
 have HLX:=Lib.hid (fun n W=>l_x n W)
 have HLN:=Lib.hid (fun n W=>l_n n W)
 have HLF:=Lib.hid (fun s A n c W=>l_f s A n c W)
 have HST:=Lib.hid (fun W=>f_start W)
 have HRD:Hid (∀g gc W,Tab W (some ⟨g,0,none⟩) 41 gc defL→Calls Tryz.prog 11 #[.string ⟨#[88,32,61,32,102,40,95,44,32,89,44,32,95,90,44,32,89,41,46]⟩,.int .i64 0,.agg #[.slice (some ⟨g,0,none⟩) 41 gc,.int .i64 1,.int .i64 1,.bool false,.bool false,.slice none 0 0]] W fun e w'=>∃A cap NA nc SA sc,e=.returned (.tuple #[.agg #[.int .i64 t0.kind,.int .i64 t0.num,.string t0.name,.slice A t0.args.length cap,.slice NA 3 nc,.slice SA 2 sc,.int .i64 19],.int .i64 0,.int .i64 0])∧Below W.heap.size W w'∧TmsAt w'.heap.size w' A t0.args∧NmAt (fun b=>b<w'.heap.size) w' NA [([88],0),([89],2),([95,90],3)]∧NmAt (fun b=>b<w'.heap.size) w' SA [([88],0),([95,90],3)]):=Lib.hid fun g gc W h=>by
  have hr:=start_read ⟨#[88,32,61,32,102,40,95,44,32,89,44,32,95,90,44,32,89,41,46]⟩ 0 (by decide) g gc W h
  rw [show readS (⟨#[88,32,61,32,102,40,95,44,32,89,44,32,95,90,44,32,89,41,46]⟩:ByteArray).data.toList 0 syD=_ from k_read,←HT0.out] at hr
  exact hr.mono fun e w' h=>by
   obtain ⟨A,cap,NA,nc,SA,sc,he,hB,h1,h2,h3⟩:=h
   exact ⟨A,cap,NA,nc,SA,sc,he,hB,h1.keep (fun _ _=>rfl) fun _ hb=>hb.2,h2.keep (fun _ _=>rfl) fun _ hb=>hb.2,h3.keep (fun _ _=>rfl) fun _ hb=>hb.2⟩
 have HB0:=Lib.hid (Below.refl w.heap.size w)
 go_enter Tryz.func8,Tryz.ntmps8
 go_wp2_with fail
 refine (HST.out _).mono ?_;rintro e w1 ⟨g,gc,rfl,hB,hTB⟩
 have HB1:=Lib.hid (HB0.out.trans (hB.mono HB0.out.size))
 have HTB:=Lib.hid hTB
 clear hB hTB HB0
 go_wp2_with fail
 refine (HRD.out g gc _ HTB.out).mono ?_;rintro e w2 ⟨A,cap,NA,nc,SA,sc,rfl,hB,h1,h2,h3⟩
 obtain ⟨nb,no,rfl,hnb,hn0,hn1⟩:=h2.2 1 (by decide)
 obtain ⟨sb,so,rfl,hsb,hs0,hs1⟩:=h3.2 1 (by decide)
 have HNB:=Lib.hid hnb
 have HSB:=Lib.hid hsb
 have HN0:Hid (w2.cell? ⟨nb,no+2,none⟩=some (.string ⟨#[89]⟩)):=Lib.hid hn0
 have HN1:Hid (w2.cell? ⟨nb,no+2+1,none⟩=some (.int .i64 2)):=Lib.hid hn1
 have HS0:Hid (w2.cell? ⟨sb,so+2,none⟩=some (.string ⟨#[95,90]⟩)):=Lib.hid hs0
 have HS1:Hid (w2.cell? ⟨sb,so+2+1,none⟩=some (.int .i64 3)):=Lib.hid hs1
 have HT2:=Lib.hid h1
 have HB2:=Lib.hid (HB1.out.trans (hB.mono HB1.out.size))
 clear hB h1 h2 h3 HB1 HRD HTB hnb hsb hn0 hn1 hs0 hs1
 obtain ⟨w3,HW3⟩:∃x,Hid (x=w2.alloc (.cells #[.int .i64 t0.kind,.int .i64 t0.num,.string t0.name,.slice A t0.args.length cap,.slice (some ⟨nb,no,none⟩) 3 nc,.slice (some ⟨sb,so,none⟩) 2 sc,.int .i64 19] 33)):=⟨_,Lib.hid rfl⟩
 obtain ⟨g3,HG3⟩:∃x,Hid (x=w2.heap.size):=⟨_,Lib.hid rfl⟩
 have hB3:Below w2.heap.size w2 w3:=by rw [HW3.out];exact (Below.refl _ _).alloc (Nat.le_refl _) _
 have HK3:Hid (Bk w3 g3 [.int .i64 t0.kind,.int .i64 t0.num,.string t0.name,.slice A t0.args.length cap,.slice (some ⟨nb,no,none⟩) 3 nc,.slice (some ⟨sb,so,none⟩) 2 sc,.int .i64 19]):=Lib.hid (by rw [HW3.out,HG3.out];exact Bk.new w2 [.int .i64 t0.kind,.int .i64 t0.num,.string t0.name,.slice A t0.args.length cap,.slice (some ⟨nb,no,none⟩) 3 nc,.slice (some ⟨sb,so,none⟩) 2 sc,.int .i64 19] 33)
 have HB3:=Lib.hid (HB2.out.trans (hB3.mono HB2.out.size))
 have HT3:=Lib.hid ((HT2.out.keep hB3).mono hB3.size)
 have HNC:Hid ((w3.cell? ⟨nb,no+2,none⟩=some (.string ⟨#[89]⟩)∧w3.cell? ⟨nb,no+2+1,none⟩=some (.int .i64 2))∧(w3.cell? ⟨sb,so+2,none⟩=some (.string ⟨#[95,90]⟩)∧w3.cell? ⟨sb,so+2+1,none⟩=some (.int .i64 3))∧nb<w3.heap.size∧sb<w3.heap.size):=Lib.hid
  ⟨⟨(World.cell?_of_block (hB3.block nb HNB.out)).trans HN0.out,(World.cell?_of_block (hB3.block nb HNB.out)).trans HN1.out⟩,⟨(World.cell?_of_block (hB3.block sb HSB.out)).trans HS0.out,(World.cell?_of_block (hB3.block sb HSB.out)).trans HS1.out⟩,Nat.lt_of_lt_of_le HNB.out hB3.size,Nat.lt_of_lt_of_le HSB.out hB3.size⟩
 go_upto_region 2 with fail
 rw [←HW3.out,←HG3.out]
 clear hB3 HB2 HT2 HW3 HG3 HNB HSB HN0 HN1 HS0 HS1
 rename_i K9 hK9
 refine region_own (w0:=w3) [rPure [] [0] (fun|[v]=>v=.int .i64 0|_=>False),
  rPure [0] [1] (fun|[v]=>v=.bool false|_=>False),
  rPure [0,1] [2] (fun|[v]=>v=.bool false|_=>False),
  rPure (List.range 3) [3] (fun|[v]=>v=.pointer (some ⟨g3,0,none⟩)|_=>False),
  rVal (List.range 4) [4] (fun|[v]=>v=.agg #[.int .i64 t0.kind,.int .i64 t0.num,.string t0.name,.slice A t0.args.length cap]|_=>False),
  rVal (List.range 3) [5] (fun|[v]=>v=.agg #[.int .i64 0,.int .i64 0,.string ⟨#[]⟩,.slice none 0 0]|_=>False),
  rVal [0,1,2,5] [6] (fun|[v]=>v=.agg #[.int .i64 0,.int .i64 1,.string ⟨#[]⟩,.slice none 0 0]|_=>False),
  rVal [0,1,2,5,6] [7] (fun|[v]=>v=.agg #[.int .i64 0,.int .i64 2,.string ⟨#[]⟩,.slice none 0 0]|_=>False),
  rVal [0,1,2,5,6,7] [8] (fun|[v]=>v=.agg #[.int .i64 0,.int .i64 3,.string ⟨#[]⟩,.slice none 0 0]|_=>False),
  rVal [0,1,2,5,6,7,8] [9] (fun|[v]=>v=.agg #[.int .i64 0,.int .i64 2,.string ⟨#[]⟩,.slice none 0 0]|_=>False),
  rRow [0,1,2,5,6,7,8,9] 10 4 [varT 1,varT 2,varT 3,varT 2],
  rGoal [0,1,2,5,6,7,8,9,10] 11 ⟨#[102]⟩ 4 [varT 1,varT 2,varT 3,varT 2],
  rRow [0,1,2,5,6,7,8,9,10,11] 12 2 [varT 0,strT ⟨#[102]⟩ [varT 1,varT 2,varT 3,varT 2]],
  rGoal [0,1,2,5,6,7,8,9,10,11,12] 13 ⟨#[61]⟩ 2 [varT 0,strT ⟨#[102]⟩ [varT 1,varT 2,varT 3,varT 2]],
  rVal (List.range 14) [14] (fun|[v]=>v=.bool true|_=>False),
  rPure (List.range 15) [15] (fun|[v]=>v=.bool false|_=>False),
  rPure (List.range 16) [16] (fun|[v]=>v=.bool false|_=>False),
  rPure (List.range 17) [17] (fun|[v]=>v=.bool false|_=>False),
  rPure (List.range 18) [18] (fun|[v]=>v=.pointer (some ⟨g3,4,none⟩)|_=>False),
  rVal (List.range 19) [19] (fun|[v]=>v=.slice (some ⟨nb,no,none⟩) 3 nc|_=>False),
  rPure (List.range 20) [20] (fun|[v]=>v=.int .i64 3|_=>False),
  rPure (List.range 21) [21] (fun|[v]=>v=.bool false|_=>False),
  rPure (List.range 22) [22] (fun|[v]=>v=.bool false|_=>False),
  rPure (List.range 23) [23] (fun|[v]=>v=.bool false|_=>False),
  rPure (List.range 24) [24] (fun|[v]=>v=.pointer (some ⟨g3,4,none⟩)|_=>False),
  rVal (List.range 25) [25] (fun|[v]=>v=.slice (some ⟨nb,no,none⟩) 3 nc|_=>False),
  rPure (List.range 26) [26] (fun|[v]=>v=.pointer (some ⟨nb,no+2,none⟩)|_=>False),
  rVal (List.range 27) [27] (fun|[v]=>v=.agg #[.string ⟨#[89]⟩,.int .i64 2]|_=>False),
  rPure (List.range 24) [28] (fun|[v]=>v=.agg #[.string ⟨#[89]⟩,.int .i64 2]|_=>False),
  rPure (List.range 29) [29] (fun|[v]=>v=.bool false|_=>False),
  rPure (List.range 30) [30] (fun|[v]=>v=.bool false|_=>False),
  rPure (List.range 31) [31] (fun|[v]=>v=.bool false|_=>False),
  rPure (List.range 32) [32] (fun|[v]=>v=.pointer (some ⟨g3,5,none⟩)|_=>False),
  rVal (List.range 33) [33] (fun|[v]=>v=.slice (some ⟨sb,so,none⟩) 2 sc|_=>False),
  rPure (List.range 34) [34] (fun|[v]=>v=.int .i64 2|_=>False),
  rPure (List.range 35) [35] (fun|[v]=>v=.bool false|_=>False),
  rPure (List.range 36) [36] (fun|[v]=>v=.bool false|_=>False),
  rPure (List.range 37) [37] (fun|[v]=>v=.bool false|_=>False),
  rPure (List.range 38) [38] (fun|[v]=>v=.pointer (some ⟨g3,5,none⟩)|_=>False),
  rVal (List.range 39) [39] (fun|[v]=>v=.slice (some ⟨sb,so,none⟩) 2 sc|_=>False),
  rPure (List.range 40) [40] (fun|[v]=>v=.pointer (some ⟨sb,so+2,none⟩)|_=>False),
  rVal (List.range 41) [41] (fun|[v]=>v=.agg #[.string ⟨#[95,90]⟩,.int .i64 3]|_=>False),
  rPure (List.range 38) [42] (fun|[v]=>v=.agg #[.string ⟨#[95,90]⟩,.int .i64 3]|_=>False),
  rPure (List.range 43) [43] (fun|[v]=>v=.bool false|_=>False),
  rPure (List.range 44) [44] (fun|[v]=>v=.bool false|_=>False)]
  [some 33,some 34,some 35,some 36,some 37,some 38,some 39,some 40,some 41,some 42,some 43,some 44,some 45,some 46,some 47,some 48,some 49,some 50,some 51,some 52,some 53,some 54,some 55,some 56,some 57,some 58,some 59,some 60,some 61,some 62,some 63,some 64,some 65,some 66,some 67,some 68,some 69,some 70,some 71,some 72,some 73,some 74,some 75,some 76,some 77] (fun _=>True) (w3.heap.size) (by kernel_rfl) (Nat.le_refl _) (by kernel_rfl) (by kernel_rfl) (by kernel_rfl) (fun j o ho=>?srv) (fun val Y N hv HF=>?fin)
 case srv=>
  have hlt:j<45:=(Array.getElem?_eq_some_iff.1 ho).1
  rcases (show j=0∨j=1∨j=2∨j=3∨j=4∨j=5∨j=6∨j=7∨j=8∨j=9∨j=10∨j=11∨j=12∨j=13∨j=14∨j=15∨j=16∨j=17∨j=18∨j=19∨j=20∨j=21∨j=22∨j=23∨j=24∨j=25∨j=26∨j=27∨j=28∨j=29∨j=30∨j=31∨j=32∨j=33∨j=34∨j=35∨j=36∨j=37∨j=38∨j=39∨j=40∨j=41∨j=42∨j=43∨j=44 by omega) with rfl|rfl|rfl|rfl|rfl|rfl|rfl|rfl|rfl|rfl|rfl|rfl|rfl|rfl|rfl|rfl|rfl|rfl|rfl|rfl|rfl|rfl|rfl|rfl|rfl|rfl|rfl|rfl|rfl|rfl|rfl|rfl|rfl|rfl|rfl|rfl|rfl|rfl|rfl|rfl|rfl|rfl|rfl|rfl|rfl
  ·cases ho
   refine srv_pure rfl rfl (fun val E hE hA=>?_)
   have e3:E (.tmp 3)=.int .i64 0:=by rw [hE.eq];rfl
   exact ⟨.int .i64 0,fun X=>by simp [execOp,go_sem,e3],rfl⟩
  ·cases ho
   refine srv_pure rfl rfl (fun val E hE hA=>?_)
   have e33:E (.tmp 33)=val 0:=by rw [hE.eq];rfl
   have h0:val 0=.int .i64 0:=hA 0 (of_decide_eq_true rfl)
   exact ⟨.bool false,fun X=>by simp [execOp,go_sem,hE.c,e33,h0],rfl⟩
  ·cases ho
   refine srv_pure rfl rfl (fun val E hE hA=>?_)
   have e34:E (.tmp 34)=val 1:=by rw [hE.eq];rfl
   have h1:val 1=.bool false:=hA 1 (of_decide_eq_true rfl)
   exact ⟨.bool false,fun X=>by simp [execOp,go_sem,e34,h1],rfl⟩
  ·cases ho
   refine srv_pureG (false) rfl rfl (fun val hA=>hA 2 (of_decide_eq_true rfl)) (fun _ val E hE hA=>?_) (fun h=>absurd rfl h)
   have e1:E (.tmp 1)=.pointer (some ⟨g3,0,none⟩):=by rw [hE.eq];rfl
   exact ⟨.pointer (some ⟨g3,0,none⟩),fun X=>by simp [execOp,go_sem,e1],rfl⟩
  ·cases ho
   refine srv_valG (false) rfl rfl (fun _ _ _=>trivial) (fun val hA=>hA 2 (of_decide_eq_true rfl)) (fun _ val E X hE hB hA=>?_) (fun h=>absurd rfl h)
   have e36:E (.tmp 36)=val 3:=by rw [hE.eq];rfl
   have h3:val 3=.pointer (some ⟨g3,0,none⟩):=hA 3 (of_decide_eq_true rfl)
   have hk0:=(HK3.out.call hB).c 0 _ rfl
   have hk1:=(HK3.out.call hB).c 1 _ rfl
   have hk2:=(HK3.out.call hB).c 2 _ rfl
   have hk3:=(HK3.out.call hB).c 3 _ rfl
   exact ⟨.agg #[.int .i64 t0.kind,.int .i64 t0.num,.string t0.name,.slice A t0.args.length cap],by simp [execOp,go_sem,e36,h3,hk0,hk1,hk2,hk3],rfl⟩
  ·cases ho
   refine srv_calVG (false) rfl rfl (fun _ _ _=>trivial) (fun val hA=>hA 2 (of_decide_eq_true rfl)) (fun _ val E X hE hB hA=>?_) (fun h=>absurd rfl h)
   exact ⟨_,_,_,by simp [execOp,go_sem,hE.c,hE.f] <;> rfl,HLX.out 0 X,rfl⟩
  ·cases ho
   refine srv_calVG (false) rfl rfl (fun _ _ _=>trivial) (fun val hA=>hA 2 (of_decide_eq_true rfl)) (fun _ val E X hE hB hA=>?_) (fun h=>absurd rfl h)
   exact ⟨_,_,_,by simp [execOp,go_sem,hE.c,hE.f] <;> rfl,HLX.out 1 X,rfl⟩
  ·cases ho
   refine srv_calVG (false) rfl rfl (fun _ _ _=>trivial) (fun val hA=>hA 2 (of_decide_eq_true rfl)) (fun _ val E X hE hB hA=>?_) (fun h=>absurd rfl h)
   exact ⟨_,_,_,by simp [execOp,go_sem,hE.c,hE.f] <;> rfl,HLX.out 2 X,rfl⟩
  ·cases ho
   refine srv_calVG (false) rfl rfl (fun _ _ _=>trivial) (fun val hA=>hA 2 (of_decide_eq_true rfl)) (fun _ val E X hE hB hA=>?_) (fun h=>absurd rfl h)
   exact ⟨_,_,_,by simp [execOp,go_sem,hE.c,hE.f] <;> rfl,HLX.out 3 X,rfl⟩
  ·cases ho
   refine srv_calVG (false) rfl rfl (fun _ _ _=>trivial) (fun val hA=>hA 2 (of_decide_eq_true rfl)) (fun _ val E X hE hB hA=>?_) (fun h=>absurd rfl h)
   exact ⟨_,_,_,by simp [execOp,go_sem,hE.c,hE.f] <;> rfl,HLX.out 2 X,rfl⟩
  ·cases ho
   refine srv_mkG rfl rfl (fun val hA=>hA 2 (of_decide_eq_true rfl)) fun val E X N hE hC hA hc=>?_
   have e39:E (.tmp 39)=val 6:=by rw [hE.eq];rfl
   have h6:val 6=.agg #[.int .i64 0,.int .i64 1,.string ⟨#[]⟩,.slice none 0 0]:=hA 6 (of_decide_eq_true rfl)
   have e40:E (.tmp 40)=val 7:=by rw [hE.eq];rfl
   have h7:val 7=.agg #[.int .i64 0,.int .i64 2,.string ⟨#[]⟩,.slice none 0 0]:=hA 7 (of_decide_eq_true rfl)
   have e41:E (.tmp 41)=val 8:=by rw [hE.eq];rfl
   have h8:val 8=.agg #[.int .i64 0,.int .i64 3,.string ⟨#[]⟩,.slice none 0 0]:=hA 8 (of_decide_eq_true rfl)
   have e42:E (.tmp 42)=val 9:=by rw [hE.eq];rfl
   have h9:val 9=.agg #[.int .i64 0,.int .i64 2,.string ⟨#[]⟩,.slice none 0 0]:=hA 9 (of_decide_eq_true rfl)
   exact ⟨.slice (some ⟨X.heap.size,0,none⟩) 4 4,X.alloc (.cells #[.int .i64 0,.int .i64 1,.string ⟨#[]⟩,.slice none 0 0,.int .i64 0,.int .i64 2,.string ⟨#[]⟩,.slice none 0 0,.int .i64 0,.int .i64 3,.string ⟨#[]⟩,.slice none 0 0,.int .i64 0,.int .i64 2,.string ⟨#[]⟩,.slice none 0 0] 30),by simp [execOp,go_sem,e39,h6,e40,h7,e41,h8,e42,h9],(Below.refl _ _).alloc (Nat.le_refl _) _,⟨_,rfl⟩,fun N' h1 h2=>⟨_,rfl,TmsK.rows (K:=N') (w:=X) (rs:=[(varT 1,none,0),(varT 2,none,0),(varT 3,none,0),(varT 2,none,0)]) (e:=30) (h2 _ (Nat.le_refl _) (by simp)) (by simp [maxLen]) (fun x hx=>by
    simp only [List.mem_cons,List.mem_nil_iff,or_false] at hx
    rcases hx with rfl|rfl|rfl|rfl
    ·exact TmsK.nil
    ·exact TmsK.nil
    ·exact TmsK.nil
    ·exact TmsK.nil)⟩⟩
  ·cases ho
   refine srv_calG rfl rfl (fun val hA=>hA 2 (of_decide_eq_true rfl)) fun val E X N hE hC hA hc=>?_
   obtain ⟨g10,h10,ht10⟩:∃g,val 10=.slice (some ⟨g,0,none⟩) 4 4∧TmsK N X (some ⟨g,0,none⟩) [varT 1,varT 2,varT 3,varT 2]:=hc 10 (of_decide_eq_true rfl) rfl
   have e43:E (.tmp 43)=val 10:=by rw [hE.eq];rfl
   exact ⟨_,_,by simp [execOp,go_sem,hE.c,hE.f,e43,h10] <;> rfl,(HLF.out ⟨#[102]⟩ _ _ _ X).mono fun e w' h=>⟨_,h.1,h.2,⟨g10,rfl⟩,fun N' h1 _=>⟨g10,rfl,row_stab ht10 (fun b hb=>h.2.block b (hC.lt b hb)) h1⟩⟩⟩
  ·cases ho
   refine srv_mkG rfl rfl (fun val hA=>hA 2 (of_decide_eq_true rfl)) fun val E X N hE hC hA hc=>?_
   have e38:E (.tmp 38)=val 5:=by rw [hE.eq];rfl
   have h5:val 5=.agg #[.int .i64 0,.int .i64 0,.string ⟨#[]⟩,.slice none 0 0]:=hA 5 (of_decide_eq_true rfl)
   have e44:E (.tmp 44)=val 11:=by rw [hE.eq];rfl
   obtain ⟨g11,h11,ht11⟩:∃g,val 11=.agg #[.int .i64 3,.int .i64 0,.string ⟨#[102]⟩,.slice (some ⟨g,0,none⟩) 4 4]∧TmsK N X (some ⟨g,0,none⟩) [varT 1,varT 2,varT 3,varT 2]:=hc 11 (of_decide_eq_true rfl) rfl
   exact ⟨.slice (some ⟨X.heap.size,0,none⟩) 2 2,X.alloc (.cells #[.int .i64 0,.int .i64 0,.string ⟨#[]⟩,.slice none 0 0,.int .i64 3,.int .i64 0,.string ⟨#[102]⟩,.slice (some ⟨g11,0,none⟩) 4 4] 30),by simp [execOp,go_sem,e38,h5,e44,h11],(Below.refl _ _).alloc (Nat.le_refl _) _,⟨_,rfl⟩,fun N' h1 h2=>⟨_,rfl,TmsK.rows (K:=N') (w:=X) (rs:=[(varT 0,none,0),(strT ⟨#[102]⟩ [varT 1,varT 2,varT 3,varT 2],some ⟨g11,0,none⟩,4)]) (e:=30) (h2 _ (Nat.le_refl _) (by simp)) (by simp [maxLen]) (fun x hx=>by
    simp only [List.mem_cons,List.mem_nil_iff,or_false] at hx
    rcases hx with rfl|rfl
    ·exact TmsK.nil
    ·exact row_stab ht11 (fun b hb=>((Below.refl X.heap.size X).alloc (Nat.le_refl _) _).block b (hC.lt b hb)) h1)⟩⟩
  ·cases ho
   refine srv_calG rfl rfl (fun val hA=>hA 2 (of_decide_eq_true rfl)) fun val E X N hE hC hA hc=>?_
   obtain ⟨g12,h12,ht12⟩:∃g,val 12=.slice (some ⟨g,0,none⟩) 2 2∧TmsK N X (some ⟨g,0,none⟩) [varT 0,strT ⟨#[102]⟩ [varT 1,varT 2,varT 3,varT 2]]:=hc 12 (of_decide_eq_true rfl) rfl
   have e45:E (.tmp 45)=val 12:=by rw [hE.eq];rfl
   exact ⟨_,_,by simp [execOp,go_sem,hE.c,hE.f,e45,h12] <;> rfl,(HLF.out ⟨#[61]⟩ _ _ _ X).mono fun e w' h=>⟨_,h.1,h.2,⟨g12,rfl⟩,fun N' h1 _=>⟨g12,rfl,row_stab ht12 (fun b hb=>h.2.block b (hC.lt b hb)) h1⟩⟩⟩
  ·cases ho
   refine srv_calG rfl rfl (fun val hA=>hA 2 (of_decide_eq_true rfl)) fun val E X N hE hC hA hc=>?_
   have h4:val 4=.agg #[.int .i64 t0.kind,.int .i64 t0.num,.string t0.name,.slice A t0.args.length cap]:=hA 4 (of_decide_eq_true rfl)
   obtain ⟨g13,h13,ht13⟩:∃g,val 13=.agg #[.int .i64 3,.int .i64 0,.string ⟨#[61]⟩,.slice (some ⟨g,0,none⟩) 2 2]∧TmsK N X (some ⟨g,0,none⟩) [varT 0,strT ⟨#[102]⟩ [varT 1,varT 2,varT 3,varT 2]]:=hc 13 (of_decide_eq_true rfl) rfl
   have e37:E (.tmp 37)=val 4:=by rw [hE.eq];rfl
   have e46:E (.tmp 46)=val 13:=by rw [hE.eq];rfl
   have h:=l_same t0 (strT ⟨#[61]⟩ [varT 0,strT ⟨#[102]⟩ [varT 1,varT 2,varT 3,varT 2]]) A (some ⟨g13,0,none⟩) cap 2 X ((HT3.out.keep hC.bel).mono hC.bel.size) (TmsK.at' ht13)
   rw [show sameT t0 (strT ⟨#[61]⟩ [varT 0,strT ⟨#[102]⟩ [varT 1,varT 2,varT 3,varT 2]])=true from by rw [HT0.out];exact k_same] at h
   exact ⟨_,_,by simp [execOp,go_sem,hE.f,e37,h4,e46,h13] <;> first | rfl | exact ⟨rfl,rfl⟩,h.mono fun e w' h=>⟨_,h.1,h.2,rfl,fun _ _ _=>trivial⟩⟩
  ·cases ho
   refine srv_pureG (false) rfl rfl (fun val hA=>hA 2 (of_decide_eq_true rfl)) (fun _ val E hE hA=>?_) (fun h=>absurd rfl h)
   have e47:E (.tmp 47)=val 14:=by rw [hE.eq];rfl
   have h14:val 14=.bool true:=hA 14 (of_decide_eq_true rfl)
   exact ⟨.bool false,fun X=>by simp [execOp,go_sem,e47,h14],rfl⟩
  ·cases ho
   refine srv_pure rfl rfl (fun val E hE hA=>?_)
   have e35:E (.tmp 35)=val 2:=by rw [hE.eq];rfl
   have h2:val 2=.bool false:=hA 2 (of_decide_eq_true rfl)
   have e48:E (.tmp 48)=val 15:=by rw [hE.eq];rfl
   have h15:val 15=.bool false:=hA 15 (of_decide_eq_true rfl)
   exact ⟨.bool false,fun X=>by simp [execOp,go_sem,hE.c,e35,h2,e48,h15],rfl⟩
  ·cases ho
   refine srv_pure rfl rfl (fun val E hE hA=>?_)
   have e49:E (.tmp 49)=val 16:=by rw [hE.eq];rfl
   have h16:val 16=.bool false:=hA 16 (of_decide_eq_true rfl)
   exact ⟨.bool false,fun X=>by simp [execOp,go_sem,e49,h16],rfl⟩
  ·cases ho
   refine srv_pureG (false) rfl rfl (fun val hA=>hA 17 (of_decide_eq_true rfl)) (fun _ val E hE hA=>?_) (fun h=>absurd rfl h)
   have e1:E (.tmp 1)=.pointer (some ⟨g3,0,none⟩):=by rw [hE.eq];rfl
   exact ⟨.pointer (some ⟨g3,4,none⟩),fun X=>by simp [execOp,go_sem,e1],rfl⟩
  ·cases ho
   refine srv_valG (false) rfl rfl (fun _ _ _=>trivial) (fun val hA=>hA 17 (of_decide_eq_true rfl)) (fun _ val E X hE hB hA=>?_) (fun h=>absurd rfl h)
   have e51:E (.tmp 51)=val 18:=by rw [hE.eq];rfl
   have h18:val 18=.pointer (some ⟨g3,4,none⟩):=hA 18 (of_decide_eq_true rfl)
   have hk:=(HK3.out.call hB).c 4 _ rfl
   exact ⟨.slice (some ⟨nb,no,none⟩) 3 nc,by simp [execOp,go_sem,e51,h18,hk],rfl⟩
  ·cases ho
   refine srv_pureG (false) rfl rfl (fun val hA=>hA 17 (of_decide_eq_true rfl)) (fun _ val E hE hA=>?_) (fun h=>absurd rfl h)
   have e52:E (.tmp 52)=val 19:=by rw [hE.eq];rfl
   have h19:val 19=.slice (some ⟨nb,no,none⟩) 3 nc:=hA 19 (of_decide_eq_true rfl)
   exact ⟨.int .i64 3,fun X=>by simp [execOp,go_sem,e52,h19],rfl⟩
  ·cases ho
   refine srv_pureG (false) rfl rfl (fun val hA=>hA 17 (of_decide_eq_true rfl)) (fun _ val E hE hA=>?_) (fun h=>absurd rfl h)
   have e53:E (.tmp 53)=val 20:=by rw [hE.eq];rfl
   have h20:val 20=.int .i64 3:=hA 20 (of_decide_eq_true rfl)
   exact ⟨.bool false,fun X=>by simp [execOp,go_sem,hE.c,e53,h20],rfl⟩
  ·cases ho
   refine srv_pure rfl rfl (fun val E hE hA=>?_)
   have e50:E (.tmp 50)=val 17:=by rw [hE.eq];rfl
   have h17:val 17=.bool false:=hA 17 (of_decide_eq_true rfl)
   have e54:E (.tmp 54)=val 21:=by rw [hE.eq];rfl
   have h21:val 21=.bool false:=hA 21 (of_decide_eq_true rfl)
   exact ⟨.bool false,fun X=>by simp [execOp,go_sem,hE.c,e50,h17,e54,h21],rfl⟩
  ·cases ho
   refine srv_pure rfl rfl (fun val E hE hA=>?_)
   have e55:E (.tmp 55)=val 22:=by rw [hE.eq];rfl
   have h22:val 22=.bool false:=hA 22 (of_decide_eq_true rfl)
   exact ⟨.bool false,fun X=>by simp [execOp,go_sem,e55,h22],rfl⟩
  ·cases ho
   refine srv_pureG (false) rfl rfl (fun val hA=>hA 23 (of_decide_eq_true rfl)) (fun _ val E hE hA=>?_) (fun h=>absurd rfl h)
   have e1:E (.tmp 1)=.pointer (some ⟨g3,0,none⟩):=by rw [hE.eq];rfl
   exact ⟨.pointer (some ⟨g3,4,none⟩),fun X=>by simp [execOp,go_sem,e1],rfl⟩
  ·cases ho
   refine srv_valG (false) rfl rfl (fun _ _ _=>trivial) (fun val hA=>hA 23 (of_decide_eq_true rfl)) (fun _ val E X hE hB hA=>?_) (fun h=>absurd rfl h)
   have e57:E (.tmp 57)=val 24:=by rw [hE.eq];rfl
   have h24:val 24=.pointer (some ⟨g3,4,none⟩):=hA 24 (of_decide_eq_true rfl)
   have hk:=(HK3.out.call hB).c 4 _ rfl
   exact ⟨.slice (some ⟨nb,no,none⟩) 3 nc,by simp [execOp,go_sem,e57,h24,hk],rfl⟩
  ·cases ho
   refine srv_pureG (false) rfl rfl (fun val hA=>hA 23 (of_decide_eq_true rfl)) (fun _ val E hE hA=>?_) (fun h=>absurd rfl h)
   have e58:E (.tmp 58)=val 25:=by rw [hE.eq];rfl
   have h25:val 25=.slice (some ⟨nb,no,none⟩) 3 nc:=hA 25 (of_decide_eq_true rfl)
   exact ⟨.pointer (some ⟨nb,no+2,none⟩),fun X=>by simp [execOp,go_sem,hE.c,e58,h25],rfl⟩
  ·cases ho
   refine srv_valG (false) rfl rfl (fun _ _ _=>trivial) (fun val hA=>hA 23 (of_decide_eq_true rfl)) (fun _ val E X hE hB hA=>?_) (fun h=>absurd rfl h)
   have e59:E (.tmp 59)=val 26:=by rw [hE.eq];rfl
   have h26:val 26=.pointer (some ⟨nb,no+2,none⟩):=hA 26 (of_decide_eq_true rfl)
   have hc0:=(hB.cell (p:=⟨nb,no+2,none⟩) HNC.out.2.2.1).trans HNC.out.1.1
   have hc1:=(hB.cell (p:=⟨nb,no+2+1,none⟩) HNC.out.2.2.1).trans HNC.out.1.2
   exact ⟨.agg #[.string ⟨#[89]⟩,.int .i64 2],by simp [execOp,go_sem,e59,h26,hc0,hc1],rfl⟩
  ·cases ho
   refine srv_pureG (false) rfl rfl (fun val hA=>hA 23 (of_decide_eq_true rfl)) (fun _ val E hE hA=>?_) (fun h=>absurd rfl h)
   exact ⟨.agg #[.string ⟨#[89]⟩,.int .i64 2],fun X=>by simp [execOp,go_sem,hE.c],rfl⟩
  ·cases ho
   refine srv_pureG (false) rfl rfl (fun val hA=>hA 23 (of_decide_eq_true rfl)) (fun _ val E hE hA=>?_) (fun h=>absurd rfl h)
   have e60:E (.tmp 60)=val 27:=by rw [hE.eq];rfl
   have h27:val 27=.agg #[.string ⟨#[89]⟩,.int .i64 2]:=hA 27 (of_decide_eq_true rfl)
   have e61:E (.tmp 61)=val 28:=by rw [hE.eq];rfl
   have h28:val 28=.agg #[.string ⟨#[89]⟩,.int .i64 2]:=hA 28 (of_decide_eq_true rfl)
   exact ⟨.bool false,fun X=>by simp [execOp,go_sem,e60,h27,e61,h28],rfl⟩
  ·cases ho
   refine srv_pure rfl rfl (fun val E hE hA=>?_)
   have e56:E (.tmp 56)=val 23:=by rw [hE.eq];rfl
   have h23:val 23=.bool false:=hA 23 (of_decide_eq_true rfl)
   have e62:E (.tmp 62)=val 29:=by rw [hE.eq];rfl
   have h29:val 29=.bool false:=hA 29 (of_decide_eq_true rfl)
   exact ⟨.bool false,fun X=>by simp [execOp,go_sem,hE.c,e56,h23,e62,h29],rfl⟩
  ·cases ho
   refine srv_pure rfl rfl (fun val E hE hA=>?_)
   have e63:E (.tmp 63)=val 30:=by rw [hE.eq];rfl
   have h30:val 30=.bool false:=hA 30 (of_decide_eq_true rfl)
   exact ⟨.bool false,fun X=>by simp [execOp,go_sem,e63,h30],rfl⟩
  ·cases ho
   refine srv_pureG (false) rfl rfl (fun val hA=>hA 31 (of_decide_eq_true rfl)) (fun _ val E hE hA=>?_) (fun h=>absurd rfl h)
   have e1:E (.tmp 1)=.pointer (some ⟨g3,0,none⟩):=by rw [hE.eq];rfl
   exact ⟨.pointer (some ⟨g3,5,none⟩),fun X=>by simp [execOp,go_sem,e1],rfl⟩
  ·cases ho
   refine srv_valG (false) rfl rfl (fun _ _ _=>trivial) (fun val hA=>hA 31 (of_decide_eq_true rfl)) (fun _ val E X hE hB hA=>?_) (fun h=>absurd rfl h)
   have e65:E (.tmp 65)=val 32:=by rw [hE.eq];rfl
   have h32:val 32=.pointer (some ⟨g3,5,none⟩):=hA 32 (of_decide_eq_true rfl)
   have hk:=(HK3.out.call hB).c 5 _ rfl
   exact ⟨.slice (some ⟨sb,so,none⟩) 2 sc,by simp [execOp,go_sem,e65,h32,hk],rfl⟩
  ·cases ho
   refine srv_pureG (false) rfl rfl (fun val hA=>hA 31 (of_decide_eq_true rfl)) (fun _ val E hE hA=>?_) (fun h=>absurd rfl h)
   have e66:E (.tmp 66)=val 33:=by rw [hE.eq];rfl
   have h33:val 33=.slice (some ⟨sb,so,none⟩) 2 sc:=hA 33 (of_decide_eq_true rfl)
   exact ⟨.int .i64 2,fun X=>by simp [execOp,go_sem,e66,h33],rfl⟩
  ·cases ho
   refine srv_pureG (false) rfl rfl (fun val hA=>hA 31 (of_decide_eq_true rfl)) (fun _ val E hE hA=>?_) (fun h=>absurd rfl h)
   have e67:E (.tmp 67)=val 34:=by rw [hE.eq];rfl
   have h34:val 34=.int .i64 2:=hA 34 (of_decide_eq_true rfl)
   exact ⟨.bool false,fun X=>by simp [execOp,go_sem,hE.c,e67,h34],rfl⟩
  ·cases ho
   refine srv_pure rfl rfl (fun val E hE hA=>?_)
   have e64:E (.tmp 64)=val 31:=by rw [hE.eq];rfl
   have h31:val 31=.bool false:=hA 31 (of_decide_eq_true rfl)
   have e68:E (.tmp 68)=val 35:=by rw [hE.eq];rfl
   have h35:val 35=.bool false:=hA 35 (of_decide_eq_true rfl)
   exact ⟨.bool false,fun X=>by simp [execOp,go_sem,hE.c,e64,h31,e68,h35],rfl⟩
  ·cases ho
   refine srv_pure rfl rfl (fun val E hE hA=>?_)
   have e69:E (.tmp 69)=val 36:=by rw [hE.eq];rfl
   have h36:val 36=.bool false:=hA 36 (of_decide_eq_true rfl)
   exact ⟨.bool false,fun X=>by simp [execOp,go_sem,e69,h36],rfl⟩
  ·cases ho
   refine srv_pureG (false) rfl rfl (fun val hA=>hA 37 (of_decide_eq_true rfl)) (fun _ val E hE hA=>?_) (fun h=>absurd rfl h)
   have e1:E (.tmp 1)=.pointer (some ⟨g3,0,none⟩):=by rw [hE.eq];rfl
   exact ⟨.pointer (some ⟨g3,5,none⟩),fun X=>by simp [execOp,go_sem,e1],rfl⟩
  ·cases ho
   refine srv_valG (false) rfl rfl (fun _ _ _=>trivial) (fun val hA=>hA 37 (of_decide_eq_true rfl)) (fun _ val E X hE hB hA=>?_) (fun h=>absurd rfl h)
   have e71:E (.tmp 71)=val 38:=by rw [hE.eq];rfl
   have h38:val 38=.pointer (some ⟨g3,5,none⟩):=hA 38 (of_decide_eq_true rfl)
   have hk:=(HK3.out.call hB).c 5 _ rfl
   exact ⟨.slice (some ⟨sb,so,none⟩) 2 sc,by simp [execOp,go_sem,e71,h38,hk],rfl⟩
  ·cases ho
   refine srv_pureG (false) rfl rfl (fun val hA=>hA 37 (of_decide_eq_true rfl)) (fun _ val E hE hA=>?_) (fun h=>absurd rfl h)
   have e72:E (.tmp 72)=val 39:=by rw [hE.eq];rfl
   have h39:val 39=.slice (some ⟨sb,so,none⟩) 2 sc:=hA 39 (of_decide_eq_true rfl)
   exact ⟨.pointer (some ⟨sb,so+2,none⟩),fun X=>by simp [execOp,go_sem,hE.c,e72,h39],rfl⟩
  ·cases ho
   refine srv_valG (false) rfl rfl (fun _ _ _=>trivial) (fun val hA=>hA 37 (of_decide_eq_true rfl)) (fun _ val E X hE hB hA=>?_) (fun h=>absurd rfl h)
   have e73:E (.tmp 73)=val 40:=by rw [hE.eq];rfl
   have h40:val 40=.pointer (some ⟨sb,so+2,none⟩):=hA 40 (of_decide_eq_true rfl)
   have hc0:=(hB.cell (p:=⟨sb,so+2,none⟩) HNC.out.2.2.2).trans HNC.out.2.1.1
   have hc1:=(hB.cell (p:=⟨sb,so+2+1,none⟩) HNC.out.2.2.2).trans HNC.out.2.1.2
   exact ⟨.agg #[.string ⟨#[95,90]⟩,.int .i64 3],by simp [execOp,go_sem,e73,h40,hc0,hc1],rfl⟩
  ·cases ho
   refine srv_pureG (false) rfl rfl (fun val hA=>hA 37 (of_decide_eq_true rfl)) (fun _ val E hE hA=>?_) (fun h=>absurd rfl h)
   exact ⟨.agg #[.string ⟨#[95,90]⟩,.int .i64 3],fun X=>by simp [execOp,go_sem,hE.c],rfl⟩
  ·cases ho
   refine srv_pureG (false) rfl rfl (fun val hA=>hA 37 (of_decide_eq_true rfl)) (fun _ val E hE hA=>?_) (fun h=>absurd rfl h)
   have e74:E (.tmp 74)=val 41:=by rw [hE.eq];rfl
   have h41:val 41=.agg #[.string ⟨#[95,90]⟩,.int .i64 3]:=hA 41 (of_decide_eq_true rfl)
   have e75:E (.tmp 75)=val 42:=by rw [hE.eq];rfl
   have h42:val 42=.agg #[.string ⟨#[95,90]⟩,.int .i64 3]:=hA 42 (of_decide_eq_true rfl)
   exact ⟨.bool false,fun X=>by simp [execOp,go_sem,e74,h41,e75,h42],rfl⟩
  ·cases ho
   refine srv_pure rfl rfl (fun val E hE hA=>?_)
   have e70:E (.tmp 70)=val 37:=by rw [hE.eq];rfl
   have h37:val 37=.bool false:=hA 37 (of_decide_eq_true rfl)
   have e76:E (.tmp 76)=val 43:=by rw [hE.eq];rfl
   have h43:val 43=.bool false:=hA 43 (of_decide_eq_true rfl)
   exact ⟨.bool false,fun X=>by simp [execOp,go_sem,hE.c,e70,h37,e76,h43],rfl⟩
 case fin=>
  have h0:val 0=.int .i64 0:=hv 0 (show 0<45 by decide)
  have h1:val 1=.bool false:=hv 1 (show 1<45 by decide)
  have h2:val 2=.bool false:=hv 2 (show 2<45 by decide)
  have h3:val 3=.pointer (some ⟨g3,0,none⟩):=hv 3 (show 3<45 by decide)
  have h4:val 4=.agg #[.int .i64 t0.kind,.int .i64 t0.num,.string t0.name,.slice A t0.args.length cap]:=hv 4 (show 4<45 by decide)
  have h5:val 5=.agg #[.int .i64 0,.int .i64 0,.string ⟨#[]⟩,.slice none 0 0]:=hv 5 (show 5<45 by decide)
  have h6:val 6=.agg #[.int .i64 0,.int .i64 1,.string ⟨#[]⟩,.slice none 0 0]:=hv 6 (show 6<45 by decide)
  have h7:val 7=.agg #[.int .i64 0,.int .i64 2,.string ⟨#[]⟩,.slice none 0 0]:=hv 7 (show 7<45 by decide)
  have h8:val 8=.agg #[.int .i64 0,.int .i64 3,.string ⟨#[]⟩,.slice none 0 0]:=hv 8 (show 8<45 by decide)
  have h9:val 9=.agg #[.int .i64 0,.int .i64 2,.string ⟨#[]⟩,.slice none 0 0]:=hv 9 (show 9<45 by decide)
  obtain ⟨g10,h10⟩:∃g,val 10=.slice (some ⟨g,0,none⟩) 4 4:=hv 10 (show 10<45 by decide)
  obtain ⟨gg11,h11⟩:∃g,val 11=.agg #[.int .i64 3,.int .i64 0,.string ⟨#[102]⟩,.slice (some ⟨g,0,none⟩) 4 4]:=hv 11 (show 11<45 by decide)
  obtain ⟨g12,h12⟩:∃g,val 12=.slice (some ⟨g,0,none⟩) 2 2:=hv 12 (show 12<45 by decide)
  obtain ⟨gg13,h13⟩:∃g,val 13=.agg #[.int .i64 3,.int .i64 0,.string ⟨#[61]⟩,.slice (some ⟨g,0,none⟩) 2 2]:=hv 13 (show 13<45 by decide)
  have h14:val 14=.bool true:=hv 14 (show 14<45 by decide)
  have h15:val 15=.bool false:=hv 15 (show 15<45 by decide)
  have h16:val 16=.bool false:=hv 16 (show 16<45 by decide)
  have h17:val 17=.bool false:=hv 17 (show 17<45 by decide)
  have h18:val 18=.pointer (some ⟨g3,4,none⟩):=hv 18 (show 18<45 by decide)
  have h19:val 19=.slice (some ⟨nb,no,none⟩) 3 nc:=hv 19 (show 19<45 by decide)
  have h20:val 20=.int .i64 3:=hv 20 (show 20<45 by decide)
  have h21:val 21=.bool false:=hv 21 (show 21<45 by decide)
  have h22:val 22=.bool false:=hv 22 (show 22<45 by decide)
  have h23:val 23=.bool false:=hv 23 (show 23<45 by decide)
  have h24:val 24=.pointer (some ⟨g3,4,none⟩):=hv 24 (show 24<45 by decide)
  have h25:val 25=.slice (some ⟨nb,no,none⟩) 3 nc:=hv 25 (show 25<45 by decide)
  have h26:val 26=.pointer (some ⟨nb,no+2,none⟩):=hv 26 (show 26<45 by decide)
  have h27:val 27=.agg #[.string ⟨#[89]⟩,.int .i64 2]:=hv 27 (show 27<45 by decide)
  have h28:val 28=.agg #[.string ⟨#[89]⟩,.int .i64 2]:=hv 28 (show 28<45 by decide)
  have h29:val 29=.bool false:=hv 29 (show 29<45 by decide)
  have h30:val 30=.bool false:=hv 30 (show 30<45 by decide)
  have h31:val 31=.bool false:=hv 31 (show 31<45 by decide)
  have h32:val 32=.pointer (some ⟨g3,5,none⟩):=hv 32 (show 32<45 by decide)
  have h33:val 33=.slice (some ⟨sb,so,none⟩) 2 sc:=hv 33 (show 33<45 by decide)
  have h34:val 34=.int .i64 2:=hv 34 (show 34<45 by decide)
  have h35:val 35=.bool false:=hv 35 (show 35<45 by decide)
  have h36:val 36=.bool false:=hv 36 (show 36<45 by decide)
  have h37:val 37=.bool false:=hv 37 (show 37<45 by decide)
  have h38:val 38=.pointer (some ⟨g3,5,none⟩):=hv 38 (show 38<45 by decide)
  have h39:val 39=.slice (some ⟨sb,so,none⟩) 2 sc:=hv 39 (show 39<45 by decide)
  have h40:val 40=.pointer (some ⟨sb,so+2,none⟩):=hv 40 (show 40<45 by decide)
  have h41:val 41=.agg #[.string ⟨#[95,90]⟩,.int .i64 3]:=hv 41 (show 41<45 by decide)
  have h42:val 42=.agg #[.string ⟨#[95,90]⟩,.int .i64 3]:=hv 42 (show 42<45 by decide)
  have h43:val 43=.bool false:=hv 43 (show 43<45 by decide)
  have h44:val 44=.bool false:=hv 44 (show 44<45 by decide)
  refine hK9 _ _ ?_
  simp only [fillD,List.set_cons_zero,List.set_cons_succ,Nat.reduceAdd,Nat.zero_add,h0,h1,h2,h3,h4,h5,h6,h7,h8,h9,h10,h11,h12,h13,h14,h15,h16,h17,h18,h19,h20,h21,h22,h23,h24,h25,h26,h27,h28,h29,h30,h31,h32,h33,h34,h35,h36,h37,h38,h39,h40,h41,h42,h43,h44]
  have HBY:=Lib.hid (HB3.out.trans (HF.bel.mono HB3.out.size))
  clear hv HF hK9 h0 h1 h2 h3 h4 h5 h6 h7 h8 h9 h10 h11 h12 h13 h14 h15 h16 h17 h18 h19 h20 h21 h22 h23 h24 h25 h26 h27 h28 h29 h30 h31 h32 h33 h34 h35 h36 h37 h38 h39 h40 h41 h42 h43 h44 HB3 HT3 HK3 HNC HT0
  go_upto_region 4 with fail
  rename_i K4 hK4
  refine law_region lawOk ([some 78,some 79,some 80,some 81,some 82,some 83,some 84,some 85,some 86,some 87,some 88,some 89,some 90,some 91,some 92,some 93,some 94,some 95,some 96,some 97,some 98,some 99,some 100,some 101,some 102,some 103,some 104,some 105,some 106,some 107,some 108,some 109,some 110,some 111,some 112,some 113,some 114,some 115,some 116,some 117,some 118,some 119,some 120,some 121,some 122,some 123,some 124,some 125,some 126,some 127,some 128,some 129,some 130,some 131,some 132,some 133,some 134,some 135,some 136,some 137]++([some 138,some 139,some 140,some 141,some 142,some 143,some 144,some 145,some 146,some 147,some 148,some 149,some 150,some 151,some 152,some 153,some 154,some 155,some 156,some 157,some 158,some 159,some 160,some 161,some 162,some 163,some 164,some 165,some 166,some 167,some 168,some 169,some 170,some 171,some 172,some 173,some 174,some 175,some 176,some 177,some 178,some 179,some 180,some 181,some 182,some 183,some 184,some 185,some 186,some 187,some 188,some 189,some 190,some 191,some 192,some 193,some 194,some 195,some 196,some 197]++([some 198,some 199,some 200,some 201,some 202,some 203,some 204,some 205,some 206,some 207,some 208,some 209,some 210,some 211,some 212,some 213,some 214,some 215,some 216,some 217,some 218,some 219,some 220,some 221,some 222,some 223,some 224,some 225,some 226,some 227,some 228,some 229,some 230,some 231,some 232,some 233,some 234,some 235,some 236,some 237,some 238,some 4]))) 4 true [.g ⟨#[45,49,46]⟩ (intT (-1)),.g ⟨#[45,40,49,41,46]⟩ (strT ⟨#[45]⟩ [(intT (1))]),.g ⟨#[45,32,40,49,44,32,50,41,46]⟩ (strT ⟨#[45]⟩ [(strT ⟨#[44]⟩ [(intT (1)),(intT (2))])]),.g ⟨#[45,40,49,44,32,50,41,46]⟩ (strT ⟨#[45]⟩ [(intT (1)),(intT (2))]),.g ⟨#[91,45,93,46]⟩ (strT ⟨#[46]⟩ [(atomT ⟨#[45]⟩),(atomT ⟨#[91,93]⟩)]),.g ⟨#[102,40,58,45,44,32,43,41,46]⟩ (strT ⟨#[102]⟩ [(atomT ⟨#[58,45]⟩),(atomT ⟨#[43]⟩)]),.g ⟨#[45,97,46]⟩ (strT ⟨#[45]⟩ [(atomT ⟨#[97]⟩)]),.g ⟨#[45,32,49,32,94,32,50,46]⟩ (strT ⟨#[45]⟩ [(strT ⟨#[94]⟩ [(intT (1)),(intT (2))])]),.g ⟨#[45,49,32,94,32,50,46]⟩ (strT ⟨#[94]⟩ [(intT (-1)),(intT (2))]),.g ⟨#[45,97,32,94,32,50,46]⟩ (strT ⟨#[45]⟩ [(strT ⟨#[94]⟩ [(atomT ⟨#[97]⟩),(intT (2))])]),.g ⟨#[123,97,44,32,98,125,46]⟩ (strT ⟨#[123,125]⟩ [(strT ⟨#[44]⟩ [(atomT ⟨#[97]⟩),(atomT ⟨#[98]⟩)])]),.g ⟨#[91,93,40,120,41,46]⟩ (strT ⟨#[91,93]⟩ [(atomT ⟨#[120]⟩)]),.g ⟨#[34,97,98,34,46]⟩ (strT ⟨#[46]⟩ [(intT (97)),(strT ⟨#[46]⟩ [(intT (98)),(atomT ⟨#[91,93]⟩)])]),.g ⟨#[123,32,125,46]⟩ (atomT ⟨#[123,125]⟩),.g ⟨#[39,104,101,108,108,111,32,119,111,114,108,100,39,40,97,41,46]⟩ (strT ⟨#[104,101,108,108,111,32,119,111,114,108,100]⟩ [(atomT ⟨#[97]⟩)]),.g ⟨#[97,32,39,45,39,32,49,46]⟩ (strT ⟨#[45]⟩ [(atomT ⟨#[97]⟩),(intT (1))]),.g ⟨#[39,45,39,49,46]⟩ (strT ⟨#[45]⟩ [(intT (1))]),.g ⟨#[45,32,45,32,49,46]⟩ (strT ⟨#[45]⟩ [(strT ⟨#[45]⟩ [(intT (1))])]),.g ⟨#[92,43,32,40,97,44,32,98,41,46]⟩ (strT ⟨#[92,43]⟩ [(strT ⟨#[44]⟩ [(atomT ⟨#[97]⟩),(atomT ⟨#[98]⟩)])]),.g ⟨#[97,61,40,98,41,46]⟩ (strT ⟨#[61]⟩ [(atomT ⟨#[97]⟩),(atomT ⟨#[98]⟩)]),.g ⟨#[45,32,61,40,97,44,32,98,41,46]⟩ (strT ⟨#[45]⟩ [(strT ⟨#[61]⟩ [(atomT ⟨#[97]⟩),(atomT ⟨#[98]⟩)])]),.g ⟨#[42,32,61,32,42,32,46]⟩ (strT ⟨#[61]⟩ [(atomT ⟨#[42]⟩),(atomT ⟨#[42]⟩)]),.g ⟨#[34,34,46]⟩ (atomT ⟨#[91,93]⟩)] (by kernel_rfl) (by kernel_rfl) (by kernel_rfl) (of_decide_eq_true (by kernel_rfl)) (List.forall_mem_cons.2 ⟨kn_g0,List.forall_mem_cons.2 ⟨kn_g1,List.forall_mem_cons.2 ⟨kn_g2,List.forall_mem_cons.2 ⟨kn_g3,List.forall_mem_cons.2 ⟨kn_g4,List.forall_mem_cons.2 ⟨kn_g5,List.forall_mem_cons.2 ⟨kn_g6,List.forall_mem_cons.2 ⟨kn_g7,List.forall_mem_cons.2 ⟨kn_g8,List.forall_mem_cons.2 ⟨kn_g9,List.forall_mem_cons.2 ⟨kn_g10,List.forall_mem_cons.2 ⟨kn_g11,List.forall_mem_cons.2 ⟨kn_g12,List.forall_mem_cons.2 ⟨kn_g13,List.forall_mem_cons.2 ⟨kn_g14,List.forall_mem_cons.2 ⟨kn_g15,List.forall_mem_cons.2 ⟨kn_g16,List.forall_mem_cons.2 ⟨kn_g17,List.forall_mem_cons.2 ⟨kn_g18,List.forall_mem_cons.2 ⟨kn_g19,List.forall_mem_cons.2 ⟨kn_g20,List.forall_mem_cons.2 ⟨kn_g21,List.forall_mem_cons.2 ⟨kn_g22,fun _ h=>absurd h (by simp)⟩⟩⟩⟩⟩⟩⟩⟩⟩⟩⟩⟩⟩⟩⟩⟩⟩⟩⟩⟩⟩⟩⟩) (fun val4 y4 hv hB=>hK4 _ _ ?_)
  have hv4:val4 161=.bool true:=hv
  have HB4:=Lib.hid (HBY.out.trans (hB.mono HBY.out.size))
  clear hv hB hK4 HBY
  simp only [List.cons_append,List.nil_append,fillD,List.set_cons_zero,List.set_cons_succ,Nat.reduceAdd,Nat.zero_add,hv4]
  clear hv4
  go_upto_region 5 with fail
  rename_i K5 hK5
  refine law_region lawOk [some 239,some 240,some 241,some 242,some 243,some 244,some 245,some 246,some 247,some 248,some 249,some 250,some 251,some 252,some 253,some 254,some 255,some 256,some 257,some 258,some 259,some 260,some 261,some 262,some 263,some 264,some 265,some 266,some 267,some 268,some 269,some 270,some 271,some 272,some 5] 5 true [.w ⟨#[102,40,97,46]⟩ 3,.w ⟨#[88,40,97,41,46]⟩ 1,.w ⟨#[102,40,41,46]⟩ 2,.w ⟨#[97,32,98,46]⟩ 2,.w ⟨#[41,46]⟩ 0,.w ⟨#[91,97,32,124,32,98,44,32,99,93,46]⟩ 6,.w ⟨#[57,50,50,51,51,55,50,48,51,54,56,53,52,55,55,53,56,48,56,46]⟩ 0,.w ⟨#[45,32,57,50,50,51,51,55,50,48,51,54,56,53,52,55,55,53,56,48,56,46]⟩ 2,.w ⟨#[97]⟩ 1,.w ⟨#[123,97,46]⟩ 2,.w ⟨#[97,32,44,32,46]⟩ 4,.w ⟨#[102,40,97,32,58,45,32,98,41,46]⟩ 4] (by kernel_rfl) (by kernel_rfl) (by kernel_rfl) (of_decide_eq_true (by kernel_rfl)) (List.forall_mem_cons.2 ⟨kn_w0,List.forall_mem_cons.2 ⟨kn_w1,List.forall_mem_cons.2 ⟨kn_w2,List.forall_mem_cons.2 ⟨kn_w3,List.forall_mem_cons.2 ⟨kn_w4,List.forall_mem_cons.2 ⟨kn_w5,List.forall_mem_cons.2 ⟨kn_w6,List.forall_mem_cons.2 ⟨kn_w7,List.forall_mem_cons.2 ⟨kn_w8,List.forall_mem_cons.2 ⟨kn_w9,List.forall_mem_cons.2 ⟨kn_w10,List.forall_mem_cons.2 ⟨kn_w11,fun _ h=>absurd h (by simp)⟩⟩⟩⟩⟩⟩⟩⟩⟩⟩⟩⟩) (fun val5 y5 hv hB=>hK5 _ _ ?_)
  have hv5:val5 34=.bool true:=hv
  have HB5:=Lib.hid (HB4.out.trans (hB.mono HB4.out.size))
  clear hv hB hK5 HB4
  simp only [List.cons_append,List.nil_append,fillD,List.set_cons_zero,List.set_cons_succ,Nat.reduceAdd,Nat.zero_add,hv5]
  clear hv5
  go_wp2_with fail
  refine (HST.out _).mono ?_;rintro e wa6 ⟨g,gc,rfl,hB,hTB⟩
  have HTB:=Lib.hid hTB
  clear hTB
  have HC1:=Lib.hid (HB5.out.trans (hB.mono HB5.out.size))
  clear hB HB5
  go_wp2_with fail
  refine (start_err ⟨#[102,40,49,44,32,50,44,32,51,44,32,52,44,32,53,44,32,54,44,32,55,44,32,56,44,32,57,41,46]⟩ 0 0 2 (by decide) k_nine g gc _ HTB.out).mono ?_;rintro e wb6 ⟨A6,cap6,NA6,nc6,SA6,sc6,rfl,hB,hR⟩
  have HR6:=Lib.hid hR
  clear hR HTB
  have HC2:=Lib.hid (HC1.out.trans (hB.mono HC1.out.size))
  clear hB HC1
  obtain ⟨wc6,HW6⟩:∃x,Hid (x=wb6.alloc (.cells #[.int .i64 0,.int .i64 0,.string ⟨#[]⟩,.slice A6 0 cap6,.slice NA6 0 nc6,.slice SA6 0 sc6,.int .i64 0] 33)):=⟨_,Lib.hid rfl⟩
  obtain ⟨gc6,HG6⟩:∃x,Hid (x=wb6.heap.size):=⟨_,Lib.hid rfl⟩
  have hB:Below wb6.heap.size wb6 wc6:=by rw [HW6.out];exact (Below.refl _ _).alloc (Nat.le_refl _) _
  have HK6:Hid (Bk wc6 gc6 [.int .i64 0,.int .i64 0,.string ⟨#[]⟩,.slice A6 0 cap6,.slice NA6 0 nc6,.slice SA6 0 sc6,.int .i64 0]):=Lib.hid (by rw [HW6.out,HG6.out];exact Bk.new wb6 [.int .i64 0,.int .i64 0,.string ⟨#[]⟩,.slice A6 0 cap6,.slice NA6 0 nc6,.slice SA6 0 sc6,.int .i64 0] 33)
  have HRA6:=Lib.hid (HR6.out.below hB)
  have HC3:=Lib.hid (HC2.out.trans (hB.mono HC2.out.size))
  clear hB HC2
  go_upto_region 7 with fail
  rw [←HW6.out,←HG6.out]
  clear HW6 HG6 HR6
  go_wp2_with fail
  refine (HST.out _).mono ?_;rintro e wa7 ⟨g,gc,rfl,hB,hTB⟩
  have HTB:=Lib.hid hTB
  clear hTB
  have HC4:=Lib.hid (HC3.out.trans (hB.mono HC3.out.size))
  have HK6_4:=Lib.hid (HK6.out.call hB)
  have HRA6_4:=Lib.hid (HRA6.out.below hB)
  clear hB HC3 HK6 HRA6
  go_wp2_with fail
  refine (start_err ⟨#[32,37,32,111,110,108,121,32,97,32,99,111,109,109,101,110,116]⟩ 0 17 14 (by decide) k_com g gc _ HTB.out).mono ?_;rintro e wb7 ⟨A7,cap7,NA7,nc7,SA7,sc7,rfl,hB,hR⟩
  have HR7:=Lib.hid hR
  clear hR HTB
  have HC5:=Lib.hid (HC4.out.trans (hB.mono HC4.out.size))
  have HK6_5:=Lib.hid (HK6_4.out.call hB)
  have HRA6_5:=Lib.hid (HRA6_4.out.below hB)
  clear hB HC4 HK6_4 HRA6_4
  obtain ⟨wc7,HW7⟩:∃x,Hid (x=wb7.alloc (.cells #[.int .i64 0,.int .i64 0,.string ⟨#[]⟩,.slice A7 0 cap7,.slice NA7 0 nc7,.slice SA7 0 sc7,.int .i64 0] 33)):=⟨_,Lib.hid rfl⟩
  obtain ⟨gc7,HG7⟩:∃x,Hid (x=wb7.heap.size):=⟨_,Lib.hid rfl⟩
  have hB:Below wb7.heap.size wb7 wc7:=by rw [HW7.out];exact (Below.refl _ _).alloc (Nat.le_refl _) _
  have HC6:=Lib.hid (HC5.out.trans (hB.mono HC5.out.size))
  have HK6_6:=Lib.hid (HK6_5.out.call hB)
  have HRA6_6:=Lib.hid (HRA6_5.out.below hB)
  clear hB HC5 HK6_5 HRA6_5
  go_upto_region 8 with fail
  rw [←HW7.out,←HG7.out]
  clear HW7 HG7 HR7
  go_wp2_with fail
  refine (HST.out _).mono ?_;rintro e wa8 ⟨g,gc,rfl,hB,hTB⟩
  have HTB:=Lib.hid hTB
  clear hTB
  have HC7:=Lib.hid (HC6.out.trans (hB.mono HC6.out.size))
  have HK6_7:=Lib.hid (HK6_6.out.call hB)
  have HRA6_7:=Lib.hid (HRA6_6.out.below hB)
  clear hB HC6 HK6_6 HRA6_6
  go_wp2_with fail
  refine (start_err ⟨#[97,46]⟩ 3 0 1 (by decide) k_at g gc _ HTB.out).mono ?_;rintro e wb8 ⟨A8,cap8,NA8,nc8,SA8,sc8,rfl,hB,hR⟩
  have HR8:=Lib.hid hR
  clear hR HTB
  have HC8:=Lib.hid (HC7.out.trans (hB.mono HC7.out.size))
  have HK6_8:=Lib.hid (HK6_7.out.call hB)
  have HRA6_8:=Lib.hid (HRA6_7.out.below hB)
  clear hB HC7 HK6_7 HRA6_7
  obtain ⟨wc8,HW8⟩:∃x,Hid (x=wb8.alloc (.cells #[.int .i64 0,.int .i64 0,.string ⟨#[]⟩,.slice A8 0 cap8,.slice NA8 0 nc8,.slice SA8 0 sc8,.int .i64 0] 33)):=⟨_,Lib.hid rfl⟩
  obtain ⟨gc8,HG8⟩:∃x,Hid (x=wb8.heap.size):=⟨_,Lib.hid rfl⟩
  have hB:Below wb8.heap.size wb8 wc8:=by rw [HW8.out];exact (Below.refl _ _).alloc (Nat.le_refl _) _
  have HC9:=Lib.hid (HC8.out.trans (hB.mono HC8.out.size))
  have HK6_9:=Lib.hid (HK6_8.out.call hB)
  have HRA6_9:=Lib.hid (HRA6_8.out.below hB)
  clear hB HC8 HK6_8 HRA6_8
  go_upto_region 9 with fail
  rw [←HW8.out,←HG8.out]
  clear HW8 HG8 HR8
  go_wp2_with fail
  refine (zero_err _).mono ?_;rintro e wb9 ⟨A9,cap9,NA9,nc9,SA9,sc9,rfl,hB⟩
  have HC10:=Lib.hid (HC9.out.trans (hB.mono HC9.out.size))
  have HK6_10:=Lib.hid (HK6_9.out.call hB)
  have HRA6_10:=Lib.hid (HRA6_9.out.below hB)
  clear hB HC9 HK6_9 HRA6_9
  obtain ⟨wc9,HW9⟩:∃x,Hid (x=wb9.alloc (.cells #[.int .i64 0,.int .i64 0,.string ⟨#[]⟩,.slice A9 0 cap9,.slice NA9 0 nc9,.slice SA9 0 sc9,.int .i64 0] 33)):=⟨_,Lib.hid rfl⟩
  obtain ⟨gc9,HG9⟩:∃x,Hid (x=wb9.heap.size):=⟨_,Lib.hid rfl⟩
  have hB:Below wb9.heap.size wb9 wc9:=by rw [HW9.out];exact (Below.refl _ _).alloc (Nat.le_refl _) _
  have HC11:=Lib.hid (HC10.out.trans (hB.mono HC10.out.size))
  have HK6_11:=Lib.hid (HK6_10.out.call hB)
  have HRA6_11:=Lib.hid (HRA6_10.out.below hB)
  clear hB HC10 HK6_10 HRA6_10
  go_upto_region 10 with fail
  rw [←HW9.out,←HG9.out]
  clear HW9 HG9
  go_wp2_with fail
  refine (HST.out _).mono ?_;rintro e wda ⟨g,gc,rfl,hB,hTB⟩
  have HTB:=Lib.hid hTB
  clear hTB
  have HC12:=Lib.hid (HC11.out.trans (hB.mono HC11.out.size))
  have HK6_12:=Lib.hid (HK6_11.out.call hB)
  have HRA6_12:=Lib.hid (HRA6_11.out.below hB)
  clear hB HC11 HK6_11 HRA6_11
  have HAL:Hid (Calls Tryz.prog 21 #[.string ⟨#[97,46,32,98,46,10,37,32,99,10]⟩,.agg #[.slice (some ⟨g,0,none⟩) 41 gc,.int .i64 1,.int .i64 1,.bool false,.bool false,.slice none 0 0]] wda fun en w'=>∃A cap,en=.returned (.tuple #[.slice A 2 cap,.int .i64 0,.int .i64 0])∧Below wda.heap.size wda w'∧∀j (hj:j<([kA,kB]:List RdR).length),∃g,A=some ⟨g,0,none⟩∧g<w'.heap.size∧w'.cell? ⟨g,j * 7+6,none⟩=some (.int .i64 ([kA,kB]:List RdR)[j].end_)):=Lib.hid (start_all ⟨#[97,46,32,98,46,10,37,32,99,10]⟩ [kA,kB] 0 0 (by decide) k_allA g gc _ HTB.out)
  go_wp2_with fail
  refine HAL.out.mono ?_;rintro e wea ⟨ALa,cla,rfl,hB,hL⟩
  obtain ⟨gl,rfl,hgl,hcl⟩:=hL 1 (by decide)
  have HLC:Hid (wea.cell? ⟨gl,13,none⟩=some (.int .i64 5)∧gl<wea.heap.size):=Lib.hid ⟨hcl,hgl⟩
  clear hgl hcl
  clear hL HAL HTB
  have HC13:=Lib.hid (HC12.out.trans (hB.mono HC12.out.size))
  have HK6_13:=Lib.hid (HK6_12.out.call hB)
  have HRA6_13:=Lib.hid (HRA6_12.out.below hB)
  clear hB HC12 HK6_12 HRA6_12
  go_wp2_with fail
  refine (HST.out _).mono ?_;rintro e wdb ⟨g,gc,rfl,hB,hTB⟩
  have HTB:=Lib.hid hTB
  clear hTB
  have HC14:=Lib.hid (HC13.out.trans (hB.mono HC13.out.size))
  have HK6_14:=Lib.hid (HK6_13.out.call hB)
  have HRA6_14:=Lib.hid (HRA6_13.out.below hB)
  have HLC_14:=Lib.hid (⟨(hB.cell (p:=⟨gl,13,none⟩) HLC.out.2).trans HLC.out.1,Nat.lt_of_lt_of_le HLC.out.2 hB.size⟩:_∧_)
  clear hB HC13 HK6_13 HRA6_13 HLC
  have HAL:Hid (Calls Tryz.prog 21 #[.string ⟨#[97,46,32,98,46,32,99]⟩,.agg #[.slice (some ⟨g,0,none⟩) 41 gc,.int .i64 1,.int .i64 1,.bool false,.bool false,.slice none 0 0]] wdb fun en w'=>∃A cap,en=.returned (.tuple #[.slice A 0 cap,.int .i64 7,.int .i64 7])∧Below wdb.heap.size wdb w'∧∀j (hj:j<([]:List RdR).length),∃g,A=some ⟨g,0,none⟩∧g<w'.heap.size∧w'.cell? ⟨g,j * 7+6,none⟩=some (.int .i64 ([]:List RdR)[j].end_)):=Lib.hid (start_all ⟨#[97,46,32,98,46,32,99]⟩ [] 7 7 (by decide) k_allB g gc _ HTB.out)
  go_wp2_with fail
  refine HAL.out.mono ?_;rintro e web ⟨ALb,clb,rfl,hB,hL⟩
  clear hL HAL HTB
  have HC15:=Lib.hid (HC14.out.trans (hB.mono HC14.out.size))
  have HK6_15:=Lib.hid (HK6_14.out.call hB)
  have HRA6_15:=Lib.hid (HRA6_14.out.below hB)
  have HLC_15:=Lib.hid (⟨(hB.cell (p:=⟨gl,13,none⟩) HLC_14.out.2).trans HLC_14.out.1,Nat.lt_of_lt_of_le HLC_14.out.2 hB.size⟩:_∧_)
  clear hB HC14 HK6_14 HRA6_14 HLC_14
  go_wp2_with fail
  refine (HST.out _).mono ?_;rintro e wdc ⟨g,gc,rfl,hB,hTB⟩
  have HTB:=Lib.hid hTB
  clear hTB
  have HC16:=Lib.hid (HC15.out.trans (hB.mono HC15.out.size))
  have HK6_16:=Lib.hid (HK6_15.out.call hB)
  have HRA6_16:=Lib.hid (HRA6_15.out.below hB)
  have HLC_16:=Lib.hid (⟨(hB.cell (p:=⟨gl,13,none⟩) HLC_15.out.2).trans HLC_15.out.1,Nat.lt_of_lt_of_le HLC_15.out.2 hB.size⟩:_∧_)
  clear hB HC15 HK6_15 HRA6_15 HLC_15
  have HAL:Hid (Calls Tryz.prog 21 #[.string ⟨#[]⟩,.agg #[.slice (some ⟨g,0,none⟩) 41 gc,.int .i64 1,.int .i64 1,.bool false,.bool false,.slice none 0 0]] wdc fun en w'=>∃A cap,en=.returned (.tuple #[.slice A 0 cap,.int .i64 0,.int .i64 0])∧Below wdc.heap.size wdc w'∧∀j (hj:j<([]:List RdR).length),∃g,A=some ⟨g,0,none⟩∧g<w'.heap.size∧w'.cell? ⟨g,j * 7+6,none⟩=some (.int .i64 ([]:List RdR)[j].end_)):=Lib.hid (start_all ⟨#[]⟩ [] 0 0 (by decide) k_allC g gc _ HTB.out)
  go_wp2_with fail
  refine HAL.out.mono ?_;rintro e wec ⟨ALc,clc,rfl,hB,hL⟩
  clear hL HAL HTB
  have HC17:=Lib.hid (HC16.out.trans (hB.mono HC16.out.size))
  have HK6_17:=Lib.hid (HK6_16.out.call hB)
  have HRA6_17:=Lib.hid (HRA6_16.out.below hB)
  have HLC_17:=Lib.hid (⟨(hB.cell (p:=⟨gl,13,none⟩) HLC_16.out.2).trans HLC_16.out.1,Nat.lt_of_lt_of_le HLC_16.out.2 hB.size⟩:_∧_)
  clear hB HC16 HK6_16 HRA6_16 HLC_16
  have hk:=HK6_17.out.all0
  simp only [bkAll,Nat.zero_add,Nat.reduceAdd,and_true] at hk
  have hlc:=HLC_17.out.1
  have hlg:=HLC_17.out.2
  have HSM:Hid (Calls Tryz.prog 13 #[.agg #[.int .i64 0,.int .i64 0,.string ⟨#[]⟩,.slice A6 0 cap6,.slice NA6 0 nc6,.slice SA6 0 sc6,.int .i64 0],.agg #[.int .i64 0,.int .i64 0,.string ⟨#[]⟩,.slice none 0 0,.slice none 0 0,.slice none 0 0,.int .i64 0]] wec fun e w'=>e=.returned (.bool true)∧Below wec.heap.size wec w'):=Lib.hid (by
   have h:=r10_same (rdErr 0 2) (rdErr 0 0) A6 NA6 SA6 none none none cap6 nc6 sc6 0 0 0 wec HRA6_17.out (zero_at _) (Nat.zero_le _) (Nat.zero_le _)
   rw [show sameRd (rdErr 0 2) (rdErr 0 0)=true from rd_zero _ _] at h
   exact h)
  go_wp2_with fail
  refine HSM.out.mono ?_;rintro e wf ⟨rfl,hB⟩
  have hlc:=(hB.cell (p:=⟨gl,13,none⟩) HLC_17.out.2).trans HLC_17.out.1
  have hlg:=Nat.lt_of_lt_of_le HLC_17.out.2 hB.size
  have HBF:=Lib.hid (HC17.out.trans (hB.mono HC17.out.size))
  clear hB hk HSM HC17 HK6_17 HRA6_17 HLC_17
  go_wp2_with fail
  refine (HAW.out _).mono ?_;rintro e wz ⟨rfl,hB⟩
  have HBZ:=Lib.hid (HBF.out.trans (hB.mono HBF.out.size))
  clear hB HBF
  go_wp2_with fail
  go_ret
  exact ⟨rfl,HBZ.out⟩
end Go.Proofs.YtbojljpldcijgaaGreat
