/- Parts of the proof. -/
import Derived.Test.YtbojljpldcijgaaGreatH01
import Derived.Test.YtbojljpldcijgaaGreatH02
import Derived.Test.YtbojljpldcijgaaGreatH03
import Derived.Test.YtbojljpldcijgaaGreatH04
import Derived.Test.YtbojljpldcijgaaGreatH05
import Derived.Test.YtbojljpldcijgaaGreatH06
import Derived.Test.YtbojljpldcijgaaGreatH07
import Derived.Test.YtbojljpldcijgaaGreatH08
import Derived.Test.YtbojljpldcijgaaGreatH09
import Derived.Test.YtbojljpldcijgaaGreatH10
import Derived.Test.YtbojljpldcijgaaGreatH11
import Derived.Test.YtbojljpldcijgaaGreatH12
import Derived.Test.YtbojljpldcijgaaGreatH13
import Derived.Test.YtbojljpldcijgaaGreatH14
import Derived.Test.YtbojljpldcijgaaGreatH15
import Derived.Test.YtbojljpldcijgaaGreatH16
import Derived.Test.YtbojljpldcijgaaGreatH17
import Derived.Test.YtbojljpldcijgaaGreatH18
import Derived.Test.YtbojljpldcijgaaGreatH21
import Derived.Test.YtbojljpldcijgaaGreatH22
import Derived.Test.YtbojljpldcijgaaGreatH23
import Derived.Test.YtbojljpldcijgaaGreatH24
import Derived.Test.YtbojljpldcijgaaGreatH25
import Derived.Test.YtbojljpldcijgaaGreatH26
import Derived.Test.YtbojljpldcijgaaGreatH27
import Derived.Test.YtbojljpldcijgaaGreatJ01
import Derived.Test.YtbojljpldcijgaaGreatJ02
namespace Hb
open Go Go.RowKit
theorem ops_bk {W:World} {g:Nat} {l:List OpR} (h:Bk W g (opsCells l)):OpsAt W (some ⟨g,0,none⟩) l:=fun j hj=>by
 obtain ⟨h0,h1,h2⟩:=oc_get l j hj
 refine ⟨g,0,rfl,h.lt,?_,?_,?_⟩ <;> rw [Nat.zero_add]
 ·exact h.c _ _ h0
 ·exact h.c _ _ h1
 ·exact h.c _ _ h2
theorem rem_in {a n:Int} (ha:0≤a∧a≤65535) (hn:0<n∧n≤1200) (k:Int) (hk:1≤k∧k≤4):∃t,wrap64 ((wrap64 a).tmod n+k)=t∧k≤t∧t≤n+k-1:=by
 have h1:wrap64 a=a:=IntWalk.wrap64_in _ (by omega)
 have h2:a.tmod n=a % n:=Int.tmod_eq_emod_of_nonneg ha.1
 have h3:=Int.emod_nonneg a (show n≠0 by omega)
 have h4:=Int.emod_lt_of_pos a hn.1
 refine ⟨a % n+k,?_,by omega,by omega⟩
 rw [h1,h2]
 exact IntWalk.wrap64_in _ (by omega)
theorem u16_range {n:Int} (h:(Lit.int .u16 n).wf=true):0≤n∧n≤65535:=by
 unfold Lit.wf at h
 rw [Bool.and_eq_true,decide_eq_true_iff,decide_eq_true_iff] at h
 exact ⟨h.1,h.2⟩
theorem nat_prec {p:Int} (h:1≤p∧p≤1200):∃k:Nat,p=(k:Int)+1∧k<1200:=⟨(p-1).toNat,by omega,by omega⟩
end Hb
namespace Go.Proofs.YtbojljpldcijgaaGreat
open Go.RowKit Hb
set_option maxRecDepth 100000
set_option linter.unusedSimpArgs false
attribute [local go_sem] Oper.semAt_some
set_option maxHeartbeats 6400000 in
theorem law_associates (a b c d:Int) (w:World) (ha:0≤a∧a≤65535) (hb:0≤b∧b≤65535) (hc:0≤c∧c≤65535) (hd:0≤d∧d≤65535):Calls Tryz.prog 9 #[.int .u16 a,.int .u16 b,.int .u16 c,.int .u16 d] w fun e w'=>e=.returned (.bool true)∧Below w.heap.size w w':=by
 have HAW:=Lib.hid (fun W=>l_awake W)
 have HLA:=Lib.hid (fun s W=>l_a s W)
 have HLX:=Lib.hid (fun n W=>l_x n W)
 have HLF:=Lib.hid (fun s A n c W=>l_f s A n c W)
 obtain ⟨t,et,ht⟩:=rem_in (n:=7) ha (by decide) 1 (by decide)
 obtain ⟨p,ep,hp⟩:=rem_in (n:=1200) hb (by decide) 1 (by decide)
 obtain ⟨u,eu,hu⟩:=rem_in (n:=7) hc (by decide) 1 (by decide)
 obtain ⟨q,eq,hq⟩:=rem_in (n:=1200) hd (by decide) 1 (by decide)
 have hT2:=two_new (o:=⟨nOO,t,p⟩) (p:=⟨nPP,u,q⟩) ⟨ht.1,by show t≤7;omega⟩ ⟨hp.1,by show p≤1200;omega⟩ nm_oo ⟨hu.1,by show u≤7;omega⟩ ⟨hq.1,by show q≤1200;omega⟩ nm_pp no_oo no_pp ne_po
 obtain ⟨P,HP⟩:∃P,Hid (P=newL (newL defL ⟨nOO,t,p⟩) ⟨nPP,u,q⟩):=⟨_,Lib.hid rfl⟩
 rw [←HP.out] at hT2
 have HT2:=Lib.hid hT2
 have HB1:Hid (Below w.heap.size w (w.alloc (.cells #[.string ⟨#[111,111]⟩,.int .i64 t,.int .i64 p,.string ⟨#[112,112]⟩,.int .i64 u,.int .i64 q] 61))):=Lib.hid ((Below.refl _ _).alloc (Nat.le_refl _) _)
 have HWI:Hid (Calls Tryz.prog 29 #[.slice (some ⟨w.heap.size,0,none⟩) 2 2] (w.alloc (.cells #[.string ⟨#[111,111]⟩,.int .i64 t,.int .i64 p,.string ⟨#[112,112]⟩,.int .i64 u,.int .i64 q] 61)) fun e w'=>∃A' n' c',e=.returned (.tuple #[.agg #[.slice A' n' c',.int .i64 1,.int .i64 1,.bool false,.bool false,.slice none 0 0],.bool true])∧Below (w.alloc (.cells #[.string ⟨#[111,111]⟩,.int .i64 t,.int .i64 p,.string ⟨#[112,112]⟩,.int .i64 u,.int .i64 q] 61)).heap.size (w.alloc (.cells #[.string ⟨#[111,111]⟩,.int .i64 t,.int .i64 p,.string ⟨#[112,112]⟩,.int .i64 u,.int .i64 q] 61)) w'∧Tab w' A' n' c' P):=Lib.hid (by
  have h:=l_with (some ⟨w.heap.size,0,none⟩) 2 2 [⟨nOO,t,p⟩,⟨nPP,u,q⟩] (w.alloc (.cells #[.string ⟨#[111,111]⟩,.int .i64 t,.int .i64 p,.string ⟨#[112,112]⟩,.int .i64 u,.int .i64 q] 61)) rfl (by decide) (ops_bk (Bk.new w [.string ⟨#[111,111]⟩,.int .i64 t,.int .i64 p,.string ⟨#[112,112]⟩,.int .i64 u,.int .i64 q] 61))
  rw [HT2.out.with_] at h
  exact h)
 have HP2:Hid (1≤p∧p≤1200):=Lib.hid ⟨hp.1,by omega⟩
 have HET:=Lib.hid et
 have HEP:=Lib.hid ep
 have HEU:=Lib.hid eu
 have HEQ:=Lib.hid eq
 have ht7:t=1∨t=2∨t=3∨t=4∨t=5∨t=6∨t=7:=by omega
 have HT7:=Lib.hid ht7
 clear et ep eu eq ht hp hu hq hT2 HP ha hb hc hd ht7
 go_enter Tryz.func9,Tryz.ntmps9
 go_wp2_with fail
 rw [HET.out,HEP.out,HEU.out,HEQ.out]
 refine HWI.out.mono ?_;rintro e w2 ⟨A1,n1,c1,rfl,hB,hT⟩
 have HB2:=Lib.hid (HB1.out.trans (hB.mono HB1.out.size))
 have HTB:=Lib.hid hT
 clear hB hT HB1 HWI HET HEP HEU HEQ
 obtain ⟨w3,HW3⟩:∃x,Hid (x=w2.alloc (.cells #[.slice A1 n1 c1,.int .i64 1,.int .i64 1,.bool false,.bool false,.slice none 0 0] 27)):=⟨_,Lib.hid rfl⟩
 obtain ⟨g3,HG3⟩:∃x,Hid (x=w2.heap.size):=⟨_,Lib.hid rfl⟩
 have hB3:Below w2.heap.size w2 w3:=by rw [HW3.out];exact (Below.refl _ _).alloc (Nat.le_refl _) _
 have HK3:Hid (Bk w3 g3 [.slice A1 n1 c1,.int .i64 1,.int .i64 1,.bool false,.bool false,.slice none 0 0]):=Lib.hid (by rw [HW3.out,HG3.out];exact Bk.new w2 [.slice A1 n1 c1,.int .i64 1,.int .i64 1,.bool false,.bool false,.slice none 0 0] 27)
 have HB3:=Lib.hid (HB2.out.trans (hB3.mono HB2.out.size))
 have HT3:=Lib.hid (HTB.out.below hB3)
 go_upto_region 3 with fail
 rw [←HW3.out,←HG3.out]
 clear hB3 HB2 HTB HW3 HG3
 obtain ⟨k,rfl,hk⟩:=nat_prec HP2.out
 have HKK:=Lib.hid hk
 clear hk HP2
 rcases HT7.out with rfl|rfl|rfl|rfl|rfl|rfl|rfl
 ·skip
  go_upto_region 8 with fail
  rename_i K9 hK9
  refine region_own (w0:=w3) [rPure [] [0] (fun|[v]=>v=.string ⟨#[97,32,111,111,32,98,32,111,111,32,99,46]⟩|_=>False),
   rVal [] [1] (fun|[v]=>v=.agg #[.slice A1 n1 c1,.int .i64 1,.int .i64 1,.bool false,.bool false,.slice none 0 0]|_=>False),
   rVal [] [2] (fun|[v]=>v=.agg #[.int .i64 0,.int .i64 0,.string ⟨#[]⟩,.slice none 0 0]|_=>False),
   rVal (List.range 3) [3] (fun|[v]=>v=.bool true|_=>False),
   rPure (List.range 4) [4] (fun|[v]=>v=.bool true|_=>False)]
   [some 45,some 46,some 47,some 48,some 12] (fun _=>True) (w3.heap.size) (by kernel_rfl) (Nat.le_refl _) (by kernel_rfl) (by kernel_rfl) (by kernel_rfl) (fun j o ho=>?srv1) (fun val Y N hv HF=>?fin1)
  case srv1=>
   have hlt:j<5:=(Array.getElem?_eq_some_iff.1 ho).1
   rcases (show j=0∨j=1∨j=2∨j=3∨j=4 by omega) with rfl|rfl|rfl|rfl|rfl
   ·cases ho
    refine srv_pure rfl rfl (fun val E hE hA=>?_)
    have e13:E (.tmp 13)=.string ⟨#[97,32,111,111,32,98,32,111,111,32,99,46]⟩:=by rw [hE.eq];rfl
    exact ⟨.string ⟨#[97,32,111,111,32,98,32,111,111,32,99,46]⟩,fun X=>by simp [execOp,go_sem,e13],rfl⟩
   ·cases ho
    refine srv_val rfl rfl (fun _ _ _=>trivial) (fun val E X hE hB hA=>?_)
    have e11:E (.tmp 11)=.pointer (some ⟨g3,0,none⟩):=by rw [hE.eq];rfl
    have hk0:=(HK3.out.call hB).c 0 _ rfl
    have hk1:=(HK3.out.call hB).c 1 _ rfl
    have hk2:=(HK3.out.call hB).c 2 _ rfl
    have hk3:=(HK3.out.call hB).c 3 _ rfl
    have hk4:=(HK3.out.call hB).c 4 _ rfl
    have hk5:=(HK3.out.call hB).c 5 _ rfl
    exact ⟨.agg #[.slice A1 n1 c1,.int .i64 1,.int .i64 1,.bool false,.bool false,.slice none 0 0],by simp [execOp,go_sem,e11,hk0,hk1,hk2,hk3,hk4,hk5],rfl⟩
   ·cases ho
    refine srv_calV rfl rfl (fun _ _ _=>trivial) (fun val E X hE hB hA=>?_)
    exact ⟨_,_,_,by simp [execOp,go_sem,hE.c,hE.f] <;> rfl,HLX.out 0 X,rfl⟩
   ·cases ho
    refine srv_cal rfl rfl fun val E X N hE hC hA hc=>?_
    have h0:val 0=.string ⟨#[97,32,111,111,32,98,32,111,111,32,99,46]⟩:=hA 0 (of_decide_eq_true rfl)
    have e45:E (.tmp 45)=val 0:=by rw [hE.eq];rfl
    have h1:val 1=.agg #[.slice A1 n1 c1,.int .i64 1,.int .i64 1,.bool false,.bool false,.slice none 0 0]:=hA 1 (of_decide_eq_true rfl)
    have e46:E (.tmp 46)=val 1:=by rw [hE.eq];rfl
    have h2:val 2=.agg #[.int .i64 0,.int .i64 0,.string ⟨#[]⟩,.slice none 0 0]:=hA 2 (of_decide_eq_true rfl)
    have e47:E (.tmp 47)=val 2:=by rw [hE.eq];rfl
    have h:=l_is ⟨#[97,32,111,111,32,98,32,111,111,32,99,46]⟩ A1 n1 c1 1 1 false false none 0 0 (varT 0) none 0 (7) P [] X (HT3.out.below hC.bel) rfl (Nat.zero_le _) (Pairs.nil _ _) (by decide) TmsK.nil
    rw [show isR (⟨#[97,32,111,111,32,98,32,111,111,32,99,46]⟩:ByteArray).data.toList ⟨P,1,1,false,false,[]⟩ (varT 0) (7)=true from assoc_1 HT2.out HKK.out rfl _] at h
    exact ⟨_,_,by simp [execOp,go_sem,hE.c,hE.f,e45,h0,e46,h1,e47,h2] <;> first | rfl | exact ⟨rfl,rfl⟩ | exact ⟨rfl,rfl,rfl⟩ | exact ⟨rfl,rfl,rfl,rfl⟩,h.mono fun e w' h=>⟨_,h.1,h.2,rfl,fun _ _ _=>trivial⟩⟩
   ·cases ho
    refine srv_pure rfl rfl (fun val E hE hA=>?_)
    have e48:E (.tmp 48)=val 3:=by rw [hE.eq];rfl
    have h3:val 3=.bool true:=hA 3 (of_decide_eq_true rfl)
    exact ⟨.bool true,fun X=>by simp [execOp,go_sem,e48,h3],rfl⟩
  case fin1=>
   have h0:val 0=.string ⟨#[97,32,111,111,32,98,32,111,111,32,99,46]⟩:=hv 0 (show 0<5 by decide)
   have h1:val 1=.agg #[.slice A1 n1 c1,.int .i64 1,.int .i64 1,.bool false,.bool false,.slice none 0 0]:=hv 1 (show 1<5 by decide)
   have h2:val 2=.agg #[.int .i64 0,.int .i64 0,.string ⟨#[]⟩,.slice none 0 0]:=hv 2 (show 2<5 by decide)
   have h3:val 3=.bool true:=hv 3 (show 3<5 by decide)
   have h4:val 4=.bool true:=hv 4 (show 4<5 by decide)
   refine hK9 _ _ ?_
   simp only [fillD,List.set_cons_zero,List.set_cons_succ,Nat.reduceAdd,Nat.zero_add,h0,h1,h2,h3,h4]
   have HBY:=Lib.hid (HB3.out.trans (HF.bel.mono HB3.out.size))
   clear hv HF hK9 h0 h1 h2 h3 h4 HB3 HT3 HK3
   go_wp2_with fail
   refine (HAW.out _).mono ?_;rintro e w9 ⟨rfl,hB⟩
   have HBZ:=Lib.hid (HBY.out.trans (hB.mono HBY.out.size))
   clear hB HBY
   go_wp2_with fail
   go_ret
   exact ⟨rfl,HBZ.out⟩
 ·skip
  go_upto_region 10 with fail
  rename_i K9 hK9
  refine region_own (w0:=w3) [rPure [] [0] (fun|[v]=>v=.string ⟨#[97,32,111,111,32,98,32,111,111,32,99,46]⟩|_=>False),
   rVal [] [1] (fun|[v]=>v=.agg #[.slice A1 n1 c1,.int .i64 1,.int .i64 1,.bool false,.bool false,.slice none 0 0]|_=>False),
   rVal [] [2] (fun|[v]=>v=.agg #[.int .i64 2,.int .i64 0,.string ⟨#[97]⟩,.slice none 0 0]|_=>False),
   rVal [2] [3] (fun|[v]=>v=.agg #[.int .i64 2,.int .i64 0,.string ⟨#[98]⟩,.slice none 0 0]|_=>False),
   rVal [2,3] [4] (fun|[v]=>v=.agg #[.int .i64 2,.int .i64 0,.string ⟨#[99]⟩,.slice none 0 0]|_=>False),
   rRow [2,3,4] 5 2 [atomT ⟨#[98]⟩,atomT ⟨#[99]⟩],
   rGoal [2,3,4,5] 6 ⟨#[111,111]⟩ 2 [atomT ⟨#[98]⟩,atomT ⟨#[99]⟩],
   rRow [2,3,4,5,6] 7 2 [atomT ⟨#[97]⟩,strT ⟨#[111,111]⟩ [atomT ⟨#[98]⟩,atomT ⟨#[99]⟩]],
   rGoal [2,3,4,5,6,7] 8 ⟨#[111,111]⟩ 2 [atomT ⟨#[97]⟩,strT ⟨#[111,111]⟩ [atomT ⟨#[98]⟩,atomT ⟨#[99]⟩]],
   rVal (List.range 9) [9] (fun|[v]=>v=.bool true|_=>False),
   rPure (List.range 10) [10] (fun|[v]=>v=.bool true|_=>False)]
   [some 51,some 52,some 53,some 54,some 55,some 56,some 57,some 58,some 59,some 60,some 12] (fun _=>True) (w3.heap.size) (by kernel_rfl) (Nat.le_refl _) (by kernel_rfl) (by kernel_rfl) (by kernel_rfl) (fun j o ho=>?srv2) (fun val Y N hv HF=>?fin2)
  case srv2=>
   have hlt:j<11:=(Array.getElem?_eq_some_iff.1 ho).1
   rcases (show j=0∨j=1∨j=2∨j=3∨j=4∨j=5∨j=6∨j=7∨j=8∨j=9∨j=10 by omega) with rfl|rfl|rfl|rfl|rfl|rfl|rfl|rfl|rfl|rfl|rfl
   ·cases ho
    refine srv_pure rfl rfl (fun val E hE hA=>?_)
    have e13:E (.tmp 13)=.string ⟨#[97,32,111,111,32,98,32,111,111,32,99,46]⟩:=by rw [hE.eq];rfl
    exact ⟨.string ⟨#[97,32,111,111,32,98,32,111,111,32,99,46]⟩,fun X=>by simp [execOp,go_sem,e13],rfl⟩
   ·cases ho
    refine srv_val rfl rfl (fun _ _ _=>trivial) (fun val E X hE hB hA=>?_)
    have e11:E (.tmp 11)=.pointer (some ⟨g3,0,none⟩):=by rw [hE.eq];rfl
    have hk0:=(HK3.out.call hB).c 0 _ rfl
    have hk1:=(HK3.out.call hB).c 1 _ rfl
    have hk2:=(HK3.out.call hB).c 2 _ rfl
    have hk3:=(HK3.out.call hB).c 3 _ rfl
    have hk4:=(HK3.out.call hB).c 4 _ rfl
    have hk5:=(HK3.out.call hB).c 5 _ rfl
    exact ⟨.agg #[.slice A1 n1 c1,.int .i64 1,.int .i64 1,.bool false,.bool false,.slice none 0 0],by simp [execOp,go_sem,e11,hk0,hk1,hk2,hk3,hk4,hk5],rfl⟩
   ·cases ho
    refine srv_calV rfl rfl (fun _ _ _=>trivial) (fun val E X hE hB hA=>?_)
    exact ⟨_,_,_,by simp [execOp,go_sem,hE.c,hE.f] <;> rfl,HLA.out ⟨#[97]⟩ X,rfl⟩
   ·cases ho
    refine srv_calV rfl rfl (fun _ _ _=>trivial) (fun val E X hE hB hA=>?_)
    exact ⟨_,_,_,by simp [execOp,go_sem,hE.c,hE.f] <;> rfl,HLA.out ⟨#[98]⟩ X,rfl⟩
   ·cases ho
    refine srv_calV rfl rfl (fun _ _ _=>trivial) (fun val E X hE hB hA=>?_)
    exact ⟨_,_,_,by simp [execOp,go_sem,hE.c,hE.f] <;> rfl,HLA.out ⟨#[99]⟩ X,rfl⟩
   ·cases ho
    refine srv_mk rfl rfl fun val E X N hE hC hA hc=>?_
    have e54:E (.tmp 54)=val 3:=by rw [hE.eq];rfl
    have h3:val 3=.agg #[.int .i64 2,.int .i64 0,.string ⟨#[98]⟩,.slice none 0 0]:=hA 3 (of_decide_eq_true rfl)
    have e55:E (.tmp 55)=val 4:=by rw [hE.eq];rfl
    have h4:val 4=.agg #[.int .i64 2,.int .i64 0,.string ⟨#[99]⟩,.slice none 0 0]:=hA 4 (of_decide_eq_true rfl)
    exact ⟨.slice (some ⟨X.heap.size,0,none⟩) 2 2,X.alloc (.cells #[.int .i64 2,.int .i64 0,.string ⟨#[98]⟩,.slice none 0 0,.int .i64 2,.int .i64 0,.string ⟨#[99]⟩,.slice none 0 0] 30),by simp [execOp,go_sem,e54,h3,e55,h4],(Below.refl _ _).alloc (Nat.le_refl _) _,⟨_,rfl⟩,fun N' h1 h2=>⟨_,rfl,TmsK.rows (K:=N') (w:=X) (rs:=[(atomT ⟨#[98]⟩,none,0),(atomT ⟨#[99]⟩,none,0)]) (e:=30) (h2 _ (Nat.le_refl _) (by simp)) (by simp [maxLen]) (fun x hx=>by
     simp only [List.mem_cons,List.mem_nil_iff,or_false] at hx
     rcases hx with rfl|rfl
     ·exact TmsK.nil
     ·exact TmsK.nil)⟩⟩
   ·cases ho
    refine srv_cal rfl rfl fun val E X N hE hC hA hc=>?_
    obtain ⟨g5,h5,ht5⟩:∃g,val 5=.slice (some ⟨g,0,none⟩) 2 2∧TmsK N X (some ⟨g,0,none⟩) [atomT ⟨#[98]⟩,atomT ⟨#[99]⟩]:=hc 5 (of_decide_eq_true rfl) rfl
    have e56:E (.tmp 56)=val 5:=by rw [hE.eq];rfl
    exact ⟨_,_,by simp [execOp,go_sem,hE.c,hE.f,e56,h5] <;> rfl,(HLF.out ⟨#[111,111]⟩ _ _ _ X).mono fun e w' h=>⟨_,h.1,h.2,⟨g5,rfl⟩,fun N' h1 _=>⟨g5,rfl,row_stab ht5 (fun b hb=>h.2.block b (hC.lt b hb)) h1⟩⟩⟩
   ·cases ho
    refine srv_mk rfl rfl fun val E X N hE hC hA hc=>?_
    have e53:E (.tmp 53)=val 2:=by rw [hE.eq];rfl
    have h2:val 2=.agg #[.int .i64 2,.int .i64 0,.string ⟨#[97]⟩,.slice none 0 0]:=hA 2 (of_decide_eq_true rfl)
    have e57:E (.tmp 57)=val 6:=by rw [hE.eq];rfl
    obtain ⟨g6,h6,ht6⟩:∃g,val 6=.agg #[.int .i64 3,.int .i64 0,.string ⟨#[111,111]⟩,.slice (some ⟨g,0,none⟩) 2 2]∧TmsK N X (some ⟨g,0,none⟩) [atomT ⟨#[98]⟩,atomT ⟨#[99]⟩]:=hc 6 (of_decide_eq_true rfl) rfl
    exact ⟨.slice (some ⟨X.heap.size,0,none⟩) 2 2,X.alloc (.cells #[.int .i64 2,.int .i64 0,.string ⟨#[97]⟩,.slice none 0 0,.int .i64 3,.int .i64 0,.string ⟨#[111,111]⟩,.slice (some ⟨g6,0,none⟩) 2 2] 30),by simp [execOp,go_sem,e53,h2,e57,h6],(Below.refl _ _).alloc (Nat.le_refl _) _,⟨_,rfl⟩,fun N' h1 h2=>⟨_,rfl,TmsK.rows (K:=N') (w:=X) (rs:=[(atomT ⟨#[97]⟩,none,0),(strT ⟨#[111,111]⟩ [atomT ⟨#[98]⟩,atomT ⟨#[99]⟩],some ⟨g6,0,none⟩,2)]) (e:=30) (h2 _ (Nat.le_refl _) (by simp)) (by simp [maxLen]) (fun x hx=>by
     simp only [List.mem_cons,List.mem_nil_iff,or_false] at hx
     rcases hx with rfl|rfl
     ·exact TmsK.nil
     ·exact row_stab ht6 (fun b hb=>((Below.refl X.heap.size X).alloc (Nat.le_refl _) _).block b (hC.lt b hb)) h1)⟩⟩
   ·cases ho
    refine srv_cal rfl rfl fun val E X N hE hC hA hc=>?_
    obtain ⟨g7,h7,ht7⟩:∃g,val 7=.slice (some ⟨g,0,none⟩) 2 2∧TmsK N X (some ⟨g,0,none⟩) [atomT ⟨#[97]⟩,strT ⟨#[111,111]⟩ [atomT ⟨#[98]⟩,atomT ⟨#[99]⟩]]:=hc 7 (of_decide_eq_true rfl) rfl
    have e58:E (.tmp 58)=val 7:=by rw [hE.eq];rfl
    exact ⟨_,_,by simp [execOp,go_sem,hE.c,hE.f,e58,h7] <;> rfl,(HLF.out ⟨#[111,111]⟩ _ _ _ X).mono fun e w' h=>⟨_,h.1,h.2,⟨g7,rfl⟩,fun N' h1 _=>⟨g7,rfl,row_stab ht7 (fun b hb=>h.2.block b (hC.lt b hb)) h1⟩⟩⟩
   ·cases ho
    refine srv_cal rfl rfl fun val E X N hE hC hA hc=>?_
    have h0:val 0=.string ⟨#[97,32,111,111,32,98,32,111,111,32,99,46]⟩:=hA 0 (of_decide_eq_true rfl)
    have e51:E (.tmp 51)=val 0:=by rw [hE.eq];rfl
    have h1:val 1=.agg #[.slice A1 n1 c1,.int .i64 1,.int .i64 1,.bool false,.bool false,.slice none 0 0]:=hA 1 (of_decide_eq_true rfl)
    have e52:E (.tmp 52)=val 1:=by rw [hE.eq];rfl
    obtain ⟨g8,h8,ht8⟩:∃g,val 8=.agg #[.int .i64 3,.int .i64 0,.string ⟨#[111,111]⟩,.slice (some ⟨g,0,none⟩) 2 2]∧TmsK N X (some ⟨g,0,none⟩) [atomT ⟨#[97]⟩,strT ⟨#[111,111]⟩ [atomT ⟨#[98]⟩,atomT ⟨#[99]⟩]]:=hc 8 (of_decide_eq_true rfl) rfl
    have e59:E (.tmp 59)=val 8:=by rw [hE.eq];rfl
    have h:=l_is ⟨#[97,32,111,111,32,98,32,111,111,32,99,46]⟩ A1 n1 c1 1 1 false false none 0 0 (strT ⟨#[111,111]⟩ [atomT ⟨#[97]⟩,strT ⟨#[111,111]⟩ [atomT ⟨#[98]⟩,atomT ⟨#[99]⟩]]) (some ⟨g8,0,none⟩) 2 (-1) P [] X (HT3.out.below hC.bel) rfl (Nat.zero_le _) (Pairs.nil _ _) (by decide) (TmsK.at' ht8)
    rw [show isR (⟨#[97,32,111,111,32,98,32,111,111,32,99,46]⟩:ByteArray).data.toList ⟨P,1,1,false,false,[]⟩ (strT ⟨#[111,111]⟩ [atomT ⟨#[97]⟩,strT ⟨#[111,111]⟩ [atomT ⟨#[98]⟩,atomT ⟨#[99]⟩]]) (-1)=true from assoc_2 HT2.out HKK.out rfl] at h
    exact ⟨_,_,by simp [execOp,go_sem,hE.c,hE.f,e51,h0,e52,h1,e59,h8] <;> first | rfl | exact ⟨rfl,rfl⟩ | exact ⟨rfl,rfl,rfl⟩ | exact ⟨rfl,rfl,rfl,rfl⟩,h.mono fun e w' h=>⟨_,h.1,h.2,rfl,fun _ _ _=>trivial⟩⟩
   ·cases ho
    refine srv_pure rfl rfl (fun val E hE hA=>?_)
    have e60:E (.tmp 60)=val 9:=by rw [hE.eq];rfl
    have h9:val 9=.bool true:=hA 9 (of_decide_eq_true rfl)
    exact ⟨.bool true,fun X=>by simp [execOp,go_sem,e60,h9],rfl⟩
  case fin2=>
   have h0:val 0=.string ⟨#[97,32,111,111,32,98,32,111,111,32,99,46]⟩:=hv 0 (show 0<11 by decide)
   have h1:val 1=.agg #[.slice A1 n1 c1,.int .i64 1,.int .i64 1,.bool false,.bool false,.slice none 0 0]:=hv 1 (show 1<11 by decide)
   have h2:val 2=.agg #[.int .i64 2,.int .i64 0,.string ⟨#[97]⟩,.slice none 0 0]:=hv 2 (show 2<11 by decide)
   have h3:val 3=.agg #[.int .i64 2,.int .i64 0,.string ⟨#[98]⟩,.slice none 0 0]:=hv 3 (show 3<11 by decide)
   have h4:val 4=.agg #[.int .i64 2,.int .i64 0,.string ⟨#[99]⟩,.slice none 0 0]:=hv 4 (show 4<11 by decide)
   obtain ⟨g5,h5⟩:∃g,val 5=.slice (some ⟨g,0,none⟩) 2 2:=hv 5 (show 5<11 by decide)
   obtain ⟨gg6,h6⟩:∃g,val 6=.agg #[.int .i64 3,.int .i64 0,.string ⟨#[111,111]⟩,.slice (some ⟨g,0,none⟩) 2 2]:=hv 6 (show 6<11 by decide)
   obtain ⟨g7,h7⟩:∃g,val 7=.slice (some ⟨g,0,none⟩) 2 2:=hv 7 (show 7<11 by decide)
   obtain ⟨gg8,h8⟩:∃g,val 8=.agg #[.int .i64 3,.int .i64 0,.string ⟨#[111,111]⟩,.slice (some ⟨g,0,none⟩) 2 2]:=hv 8 (show 8<11 by decide)
   have h9:val 9=.bool true:=hv 9 (show 9<11 by decide)
   have h10:val 10=.bool true:=hv 10 (show 10<11 by decide)
   refine hK9 _ _ ?_
   simp only [fillD,List.set_cons_zero,List.set_cons_succ,Nat.reduceAdd,Nat.zero_add,h0,h1,h2,h3,h4,h5,h6,h7,h8,h9,h10]
   have HBY:=Lib.hid (HB3.out.trans (HF.bel.mono HB3.out.size))
   clear hv HF hK9 h0 h1 h2 h3 h4 h5 h6 h7 h8 h9 h10 HB3 HT3 HK3
   go_wp2_with fail
   refine (HAW.out _).mono ?_;rintro e w9 ⟨rfl,hB⟩
   have HBZ:=Lib.hid (HBY.out.trans (hB.mono HBY.out.size))
   clear hB HBY
   go_wp2_with fail
   go_ret
   exact ⟨rfl,HBZ.out⟩
 ·skip
  go_upto_region 12 with fail
  rename_i K9 hK9
  refine region_own (w0:=w3) [rPure [] [0] (fun|[v]=>v=.string ⟨#[97,32,111,111,32,98,32,111,111,32,99,46]⟩|_=>False),
   rVal [] [1] (fun|[v]=>v=.agg #[.slice A1 n1 c1,.int .i64 1,.int .i64 1,.bool false,.bool false,.slice none 0 0]|_=>False),
   rVal [] [2] (fun|[v]=>v=.agg #[.int .i64 2,.int .i64 0,.string ⟨#[97]⟩,.slice none 0 0]|_=>False),
   rVal [2] [3] (fun|[v]=>v=.agg #[.int .i64 2,.int .i64 0,.string ⟨#[98]⟩,.slice none 0 0]|_=>False),
   rRow [2,3] 4 2 [atomT ⟨#[97]⟩,atomT ⟨#[98]⟩],
   rGoal [2,3,4] 5 ⟨#[111,111]⟩ 2 [atomT ⟨#[97]⟩,atomT ⟨#[98]⟩],
   rVal [2,3,4,5] [6] (fun|[v]=>v=.agg #[.int .i64 2,.int .i64 0,.string ⟨#[99]⟩,.slice none 0 0]|_=>False),
   rRow [2,3,4,5,6] 7 2 [strT ⟨#[111,111]⟩ [atomT ⟨#[97]⟩,atomT ⟨#[98]⟩],atomT ⟨#[99]⟩],
   rGoal [2,3,4,5,6,7] 8 ⟨#[111,111]⟩ 2 [strT ⟨#[111,111]⟩ [atomT ⟨#[97]⟩,atomT ⟨#[98]⟩],atomT ⟨#[99]⟩],
   rVal (List.range 9) [9] (fun|[v]=>v=.bool true|_=>False),
   rPure (List.range 10) [10] (fun|[v]=>v=.bool true|_=>False)]
   [some 63,some 64,some 65,some 66,some 67,some 68,some 69,some 70,some 71,some 72,some 12] (fun _=>True) (w3.heap.size) (by kernel_rfl) (Nat.le_refl _) (by kernel_rfl) (by kernel_rfl) (by kernel_rfl) (fun j o ho=>?srv3) (fun val Y N hv HF=>?fin3)
  case srv3=>
   have hlt:j<11:=(Array.getElem?_eq_some_iff.1 ho).1
   rcases (show j=0∨j=1∨j=2∨j=3∨j=4∨j=5∨j=6∨j=7∨j=8∨j=9∨j=10 by omega) with rfl|rfl|rfl|rfl|rfl|rfl|rfl|rfl|rfl|rfl|rfl
   ·cases ho
    refine srv_pure rfl rfl (fun val E hE hA=>?_)
    have e13:E (.tmp 13)=.string ⟨#[97,32,111,111,32,98,32,111,111,32,99,46]⟩:=by rw [hE.eq];rfl
    exact ⟨.string ⟨#[97,32,111,111,32,98,32,111,111,32,99,46]⟩,fun X=>by simp [execOp,go_sem,e13],rfl⟩
   ·cases ho
    refine srv_val rfl rfl (fun _ _ _=>trivial) (fun val E X hE hB hA=>?_)
    have e11:E (.tmp 11)=.pointer (some ⟨g3,0,none⟩):=by rw [hE.eq];rfl
    have hk0:=(HK3.out.call hB).c 0 _ rfl
    have hk1:=(HK3.out.call hB).c 1 _ rfl
    have hk2:=(HK3.out.call hB).c 2 _ rfl
    have hk3:=(HK3.out.call hB).c 3 _ rfl
    have hk4:=(HK3.out.call hB).c 4 _ rfl
    have hk5:=(HK3.out.call hB).c 5 _ rfl
    exact ⟨.agg #[.slice A1 n1 c1,.int .i64 1,.int .i64 1,.bool false,.bool false,.slice none 0 0],by simp [execOp,go_sem,e11,hk0,hk1,hk2,hk3,hk4,hk5],rfl⟩
   ·cases ho
    refine srv_calV rfl rfl (fun _ _ _=>trivial) (fun val E X hE hB hA=>?_)
    exact ⟨_,_,_,by simp [execOp,go_sem,hE.c,hE.f] <;> rfl,HLA.out ⟨#[97]⟩ X,rfl⟩
   ·cases ho
    refine srv_calV rfl rfl (fun _ _ _=>trivial) (fun val E X hE hB hA=>?_)
    exact ⟨_,_,_,by simp [execOp,go_sem,hE.c,hE.f] <;> rfl,HLA.out ⟨#[98]⟩ X,rfl⟩
   ·cases ho
    refine srv_mk rfl rfl fun val E X N hE hC hA hc=>?_
    have e65:E (.tmp 65)=val 2:=by rw [hE.eq];rfl
    have h2:val 2=.agg #[.int .i64 2,.int .i64 0,.string ⟨#[97]⟩,.slice none 0 0]:=hA 2 (of_decide_eq_true rfl)
    have e66:E (.tmp 66)=val 3:=by rw [hE.eq];rfl
    have h3:val 3=.agg #[.int .i64 2,.int .i64 0,.string ⟨#[98]⟩,.slice none 0 0]:=hA 3 (of_decide_eq_true rfl)
    exact ⟨.slice (some ⟨X.heap.size,0,none⟩) 2 2,X.alloc (.cells #[.int .i64 2,.int .i64 0,.string ⟨#[97]⟩,.slice none 0 0,.int .i64 2,.int .i64 0,.string ⟨#[98]⟩,.slice none 0 0] 30),by simp [execOp,go_sem,e65,h2,e66,h3],(Below.refl _ _).alloc (Nat.le_refl _) _,⟨_,rfl⟩,fun N' h1 h2=>⟨_,rfl,TmsK.rows (K:=N') (w:=X) (rs:=[(atomT ⟨#[97]⟩,none,0),(atomT ⟨#[98]⟩,none,0)]) (e:=30) (h2 _ (Nat.le_refl _) (by simp)) (by simp [maxLen]) (fun x hx=>by
     simp only [List.mem_cons,List.mem_nil_iff,or_false] at hx
     rcases hx with rfl|rfl
     ·exact TmsK.nil
     ·exact TmsK.nil)⟩⟩
   ·cases ho
    refine srv_cal rfl rfl fun val E X N hE hC hA hc=>?_
    obtain ⟨g4,h4,ht4⟩:∃g,val 4=.slice (some ⟨g,0,none⟩) 2 2∧TmsK N X (some ⟨g,0,none⟩) [atomT ⟨#[97]⟩,atomT ⟨#[98]⟩]:=hc 4 (of_decide_eq_true rfl) rfl
    have e67:E (.tmp 67)=val 4:=by rw [hE.eq];rfl
    exact ⟨_,_,by simp [execOp,go_sem,hE.c,hE.f,e67,h4] <;> rfl,(HLF.out ⟨#[111,111]⟩ _ _ _ X).mono fun e w' h=>⟨_,h.1,h.2,⟨g4,rfl⟩,fun N' h1 _=>⟨g4,rfl,row_stab ht4 (fun b hb=>h.2.block b (hC.lt b hb)) h1⟩⟩⟩
   ·cases ho
    refine srv_calV rfl rfl (fun _ _ _=>trivial) (fun val E X hE hB hA=>?_)
    exact ⟨_,_,_,by simp [execOp,go_sem,hE.c,hE.f] <;> rfl,HLA.out ⟨#[99]⟩ X,rfl⟩
   ·cases ho
    refine srv_mk rfl rfl fun val E X N hE hC hA hc=>?_
    have e68:E (.tmp 68)=val 5:=by rw [hE.eq];rfl
    obtain ⟨g5,h5,ht5⟩:∃g,val 5=.agg #[.int .i64 3,.int .i64 0,.string ⟨#[111,111]⟩,.slice (some ⟨g,0,none⟩) 2 2]∧TmsK N X (some ⟨g,0,none⟩) [atomT ⟨#[97]⟩,atomT ⟨#[98]⟩]:=hc 5 (of_decide_eq_true rfl) rfl
    have e69:E (.tmp 69)=val 6:=by rw [hE.eq];rfl
    have h6:val 6=.agg #[.int .i64 2,.int .i64 0,.string ⟨#[99]⟩,.slice none 0 0]:=hA 6 (of_decide_eq_true rfl)
    exact ⟨.slice (some ⟨X.heap.size,0,none⟩) 2 2,X.alloc (.cells #[.int .i64 3,.int .i64 0,.string ⟨#[111,111]⟩,.slice (some ⟨g5,0,none⟩) 2 2,.int .i64 2,.int .i64 0,.string ⟨#[99]⟩,.slice none 0 0] 30),by simp [execOp,go_sem,e68,h5,e69,h6],(Below.refl _ _).alloc (Nat.le_refl _) _,⟨_,rfl⟩,fun N' h1 h2=>⟨_,rfl,TmsK.rows (K:=N') (w:=X) (rs:=[(strT ⟨#[111,111]⟩ [atomT ⟨#[97]⟩,atomT ⟨#[98]⟩],some ⟨g5,0,none⟩,2),(atomT ⟨#[99]⟩,none,0)]) (e:=30) (h2 _ (Nat.le_refl _) (by simp)) (by simp [maxLen]) (fun x hx=>by
     simp only [List.mem_cons,List.mem_nil_iff,or_false] at hx
     rcases hx with rfl|rfl
     ·exact row_stab ht5 (fun b hb=>((Below.refl X.heap.size X).alloc (Nat.le_refl _) _).block b (hC.lt b hb)) h1
     ·exact TmsK.nil)⟩⟩
   ·cases ho
    refine srv_cal rfl rfl fun val E X N hE hC hA hc=>?_
    obtain ⟨g7,h7,ht7⟩:∃g,val 7=.slice (some ⟨g,0,none⟩) 2 2∧TmsK N X (some ⟨g,0,none⟩) [strT ⟨#[111,111]⟩ [atomT ⟨#[97]⟩,atomT ⟨#[98]⟩],atomT ⟨#[99]⟩]:=hc 7 (of_decide_eq_true rfl) rfl
    have e70:E (.tmp 70)=val 7:=by rw [hE.eq];rfl
    exact ⟨_,_,by simp [execOp,go_sem,hE.c,hE.f,e70,h7] <;> rfl,(HLF.out ⟨#[111,111]⟩ _ _ _ X).mono fun e w' h=>⟨_,h.1,h.2,⟨g7,rfl⟩,fun N' h1 _=>⟨g7,rfl,row_stab ht7 (fun b hb=>h.2.block b (hC.lt b hb)) h1⟩⟩⟩
   ·cases ho
    refine srv_cal rfl rfl fun val E X N hE hC hA hc=>?_
    have h0:val 0=.string ⟨#[97,32,111,111,32,98,32,111,111,32,99,46]⟩:=hA 0 (of_decide_eq_true rfl)
    have e63:E (.tmp 63)=val 0:=by rw [hE.eq];rfl
    have h1:val 1=.agg #[.slice A1 n1 c1,.int .i64 1,.int .i64 1,.bool false,.bool false,.slice none 0 0]:=hA 1 (of_decide_eq_true rfl)
    have e64:E (.tmp 64)=val 1:=by rw [hE.eq];rfl
    obtain ⟨g8,h8,ht8⟩:∃g,val 8=.agg #[.int .i64 3,.int .i64 0,.string ⟨#[111,111]⟩,.slice (some ⟨g,0,none⟩) 2 2]∧TmsK N X (some ⟨g,0,none⟩) [strT ⟨#[111,111]⟩ [atomT ⟨#[97]⟩,atomT ⟨#[98]⟩],atomT ⟨#[99]⟩]:=hc 8 (of_decide_eq_true rfl) rfl
    have e71:E (.tmp 71)=val 8:=by rw [hE.eq];rfl
    have h:=l_is ⟨#[97,32,111,111,32,98,32,111,111,32,99,46]⟩ A1 n1 c1 1 1 false false none 0 0 (strT ⟨#[111,111]⟩ [strT ⟨#[111,111]⟩ [atomT ⟨#[97]⟩,atomT ⟨#[98]⟩],atomT ⟨#[99]⟩]) (some ⟨g8,0,none⟩) 2 (-1) P [] X (HT3.out.below hC.bel) rfl (Nat.zero_le _) (Pairs.nil _ _) (by decide) (TmsK.at' ht8)
    rw [show isR (⟨#[97,32,111,111,32,98,32,111,111,32,99,46]⟩:ByteArray).data.toList ⟨P,1,1,false,false,[]⟩ (strT ⟨#[111,111]⟩ [strT ⟨#[111,111]⟩ [atomT ⟨#[97]⟩,atomT ⟨#[98]⟩],atomT ⟨#[99]⟩]) (-1)=true from assoc_3 HT2.out HKK.out rfl] at h
    exact ⟨_,_,by simp [execOp,go_sem,hE.c,hE.f,e63,h0,e64,h1,e71,h8] <;> first | rfl | exact ⟨rfl,rfl⟩ | exact ⟨rfl,rfl,rfl⟩ | exact ⟨rfl,rfl,rfl,rfl⟩,h.mono fun e w' h=>⟨_,h.1,h.2,rfl,fun _ _ _=>trivial⟩⟩
   ·cases ho
    refine srv_pure rfl rfl (fun val E hE hA=>?_)
    have e72:E (.tmp 72)=val 9:=by rw [hE.eq];rfl
    have h9:val 9=.bool true:=hA 9 (of_decide_eq_true rfl)
    exact ⟨.bool true,fun X=>by simp [execOp,go_sem,e72,h9],rfl⟩
  case fin3=>
   have h0:val 0=.string ⟨#[97,32,111,111,32,98,32,111,111,32,99,46]⟩:=hv 0 (show 0<11 by decide)
   have h1:val 1=.agg #[.slice A1 n1 c1,.int .i64 1,.int .i64 1,.bool false,.bool false,.slice none 0 0]:=hv 1 (show 1<11 by decide)
   have h2:val 2=.agg #[.int .i64 2,.int .i64 0,.string ⟨#[97]⟩,.slice none 0 0]:=hv 2 (show 2<11 by decide)
   have h3:val 3=.agg #[.int .i64 2,.int .i64 0,.string ⟨#[98]⟩,.slice none 0 0]:=hv 3 (show 3<11 by decide)
   obtain ⟨g4,h4⟩:∃g,val 4=.slice (some ⟨g,0,none⟩) 2 2:=hv 4 (show 4<11 by decide)
   obtain ⟨gg5,h5⟩:∃g,val 5=.agg #[.int .i64 3,.int .i64 0,.string ⟨#[111,111]⟩,.slice (some ⟨g,0,none⟩) 2 2]:=hv 5 (show 5<11 by decide)
   have h6:val 6=.agg #[.int .i64 2,.int .i64 0,.string ⟨#[99]⟩,.slice none 0 0]:=hv 6 (show 6<11 by decide)
   obtain ⟨g7,h7⟩:∃g,val 7=.slice (some ⟨g,0,none⟩) 2 2:=hv 7 (show 7<11 by decide)
   obtain ⟨gg8,h8⟩:∃g,val 8=.agg #[.int .i64 3,.int .i64 0,.string ⟨#[111,111]⟩,.slice (some ⟨g,0,none⟩) 2 2]:=hv 8 (show 8<11 by decide)
   have h9:val 9=.bool true:=hv 9 (show 9<11 by decide)
   have h10:val 10=.bool true:=hv 10 (show 10<11 by decide)
   refine hK9 _ _ ?_
   simp only [fillD,List.set_cons_zero,List.set_cons_succ,Nat.reduceAdd,Nat.zero_add,h0,h1,h2,h3,h4,h5,h6,h7,h8,h9,h10]
   have HBY:=Lib.hid (HB3.out.trans (HF.bel.mono HB3.out.size))
   clear hv HF hK9 h0 h1 h2 h3 h4 h5 h6 h7 h8 h9 h10 HB3 HT3 HK3
   go_wp2_with fail
   refine (HAW.out _).mono ?_;rintro e w9 ⟨rfl,hB⟩
   have HBZ:=Lib.hid (HBY.out.trans (hB.mono HBY.out.size))
   clear hB HBY
   go_wp2_with fail
   go_ret
   exact ⟨rfl,HBZ.out⟩
 ·skip
  go_upto_region 14 with fail
  rename_i K9 hK9
  refine region_own (w0:=w3) [rPure [] [0] (fun|[v]=>v=.string ⟨#[111,111,32,111,111,32,97,46]⟩|_=>False),
   rVal [] [1] (fun|[v]=>v=.agg #[.slice A1 n1 c1,.int .i64 1,.int .i64 1,.bool false,.bool false,.slice none 0 0]|_=>False),
   rVal [] [2] (fun|[v]=>v=.agg #[.int .i64 2,.int .i64 0,.string ⟨#[97]⟩,.slice none 0 0]|_=>False),
   rRow [2] 3 1 [atomT ⟨#[97]⟩],
   rGoal [2,3] 4 ⟨#[111,111]⟩ 1 [atomT ⟨#[97]⟩],
   rRow [2,3,4] 5 1 [strT ⟨#[111,111]⟩ [atomT ⟨#[97]⟩]],
   rGoal [2,3,4,5] 6 ⟨#[111,111]⟩ 1 [strT ⟨#[111,111]⟩ [atomT ⟨#[97]⟩]],
   rVal (List.range 7) [7] (fun|[v]=>v=.bool true|_=>False),
   rPure (List.range 8) [8] (fun|[v]=>v=.bool true|_=>False)]
   [some 75,some 76,some 77,some 78,some 79,some 80,some 81,some 82,some 12] (fun _=>True) (w3.heap.size) (by kernel_rfl) (Nat.le_refl _) (by kernel_rfl) (by kernel_rfl) (by kernel_rfl) (fun j o ho=>?srv4) (fun val Y N hv HF=>?fin4)
  case srv4=>
   have hlt:j<9:=(Array.getElem?_eq_some_iff.1 ho).1
   rcases (show j=0∨j=1∨j=2∨j=3∨j=4∨j=5∨j=6∨j=7∨j=8 by omega) with rfl|rfl|rfl|rfl|rfl|rfl|rfl|rfl|rfl
   ·cases ho
    refine srv_pure rfl rfl (fun val E hE hA=>?_)
    have e14:E (.tmp 14)=.string ⟨#[111,111,32,111,111,32,97,46]⟩:=by rw [hE.eq];rfl
    exact ⟨.string ⟨#[111,111,32,111,111,32,97,46]⟩,fun X=>by simp [execOp,go_sem,e14],rfl⟩
   ·cases ho
    refine srv_val rfl rfl (fun _ _ _=>trivial) (fun val E X hE hB hA=>?_)
    have e11:E (.tmp 11)=.pointer (some ⟨g3,0,none⟩):=by rw [hE.eq];rfl
    have hk0:=(HK3.out.call hB).c 0 _ rfl
    have hk1:=(HK3.out.call hB).c 1 _ rfl
    have hk2:=(HK3.out.call hB).c 2 _ rfl
    have hk3:=(HK3.out.call hB).c 3 _ rfl
    have hk4:=(HK3.out.call hB).c 4 _ rfl
    have hk5:=(HK3.out.call hB).c 5 _ rfl
    exact ⟨.agg #[.slice A1 n1 c1,.int .i64 1,.int .i64 1,.bool false,.bool false,.slice none 0 0],by simp [execOp,go_sem,e11,hk0,hk1,hk2,hk3,hk4,hk5],rfl⟩
   ·cases ho
    refine srv_calV rfl rfl (fun _ _ _=>trivial) (fun val E X hE hB hA=>?_)
    exact ⟨_,_,_,by simp [execOp,go_sem,hE.c,hE.f] <;> rfl,HLA.out ⟨#[97]⟩ X,rfl⟩
   ·cases ho
    refine srv_mk rfl rfl fun val E X N hE hC hA hc=>?_
    have e77:E (.tmp 77)=val 2:=by rw [hE.eq];rfl
    have h2:val 2=.agg #[.int .i64 2,.int .i64 0,.string ⟨#[97]⟩,.slice none 0 0]:=hA 2 (of_decide_eq_true rfl)
    exact ⟨.slice (some ⟨X.heap.size,0,none⟩) 1 1,X.alloc (.cells #[.int .i64 2,.int .i64 0,.string ⟨#[97]⟩,.slice none 0 0] 30),by simp [execOp,go_sem,e77,h2],(Below.refl _ _).alloc (Nat.le_refl _) _,⟨_,rfl⟩,fun N' h1 h2=>⟨_,rfl,TmsK.rows (K:=N') (w:=X) (rs:=[(atomT ⟨#[97]⟩,none,0)]) (e:=30) (h2 _ (Nat.le_refl _) (by simp)) (by simp [maxLen]) (fun x hx=>by
     simp only [List.mem_cons,List.mem_nil_iff,or_false] at hx
     rcases hx with rfl
     ·exact TmsK.nil)⟩⟩
   ·cases ho
    refine srv_cal rfl rfl fun val E X N hE hC hA hc=>?_
    obtain ⟨g3,h3,ht3⟩:∃g,val 3=.slice (some ⟨g,0,none⟩) 1 1∧TmsK N X (some ⟨g,0,none⟩) [atomT ⟨#[97]⟩]:=hc 3 (of_decide_eq_true rfl) rfl
    have e78:E (.tmp 78)=val 3:=by rw [hE.eq];rfl
    exact ⟨_,_,by simp [execOp,go_sem,hE.c,hE.f,e78,h3] <;> rfl,(HLF.out ⟨#[111,111]⟩ _ _ _ X).mono fun e w' h=>⟨_,h.1,h.2,⟨g3,rfl⟩,fun N' h1 _=>⟨g3,rfl,row_stab ht3 (fun b hb=>h.2.block b (hC.lt b hb)) h1⟩⟩⟩
   ·cases ho
    refine srv_mk rfl rfl fun val E X N hE hC hA hc=>?_
    have e79:E (.tmp 79)=val 4:=by rw [hE.eq];rfl
    obtain ⟨g4,h4,ht4⟩:∃g,val 4=.agg #[.int .i64 3,.int .i64 0,.string ⟨#[111,111]⟩,.slice (some ⟨g,0,none⟩) 1 1]∧TmsK N X (some ⟨g,0,none⟩) [atomT ⟨#[97]⟩]:=hc 4 (of_decide_eq_true rfl) rfl
    exact ⟨.slice (some ⟨X.heap.size,0,none⟩) 1 1,X.alloc (.cells #[.int .i64 3,.int .i64 0,.string ⟨#[111,111]⟩,.slice (some ⟨g4,0,none⟩) 1 1] 30),by simp [execOp,go_sem,e79,h4],(Below.refl _ _).alloc (Nat.le_refl _) _,⟨_,rfl⟩,fun N' h1 h2=>⟨_,rfl,TmsK.rows (K:=N') (w:=X) (rs:=[(strT ⟨#[111,111]⟩ [atomT ⟨#[97]⟩],some ⟨g4,0,none⟩,1)]) (e:=30) (h2 _ (Nat.le_refl _) (by simp)) (by simp [maxLen]) (fun x hx=>by
     simp only [List.mem_cons,List.mem_nil_iff,or_false] at hx
     rcases hx with rfl
     ·exact row_stab ht4 (fun b hb=>((Below.refl X.heap.size X).alloc (Nat.le_refl _) _).block b (hC.lt b hb)) h1)⟩⟩
   ·cases ho
    refine srv_cal rfl rfl fun val E X N hE hC hA hc=>?_
    obtain ⟨g5,h5,ht5⟩:∃g,val 5=.slice (some ⟨g,0,none⟩) 1 1∧TmsK N X (some ⟨g,0,none⟩) [strT ⟨#[111,111]⟩ [atomT ⟨#[97]⟩]]:=hc 5 (of_decide_eq_true rfl) rfl
    have e80:E (.tmp 80)=val 5:=by rw [hE.eq];rfl
    exact ⟨_,_,by simp [execOp,go_sem,hE.c,hE.f,e80,h5] <;> rfl,(HLF.out ⟨#[111,111]⟩ _ _ _ X).mono fun e w' h=>⟨_,h.1,h.2,⟨g5,rfl⟩,fun N' h1 _=>⟨g5,rfl,row_stab ht5 (fun b hb=>h.2.block b (hC.lt b hb)) h1⟩⟩⟩
   ·cases ho
    refine srv_cal rfl rfl fun val E X N hE hC hA hc=>?_
    have h0:val 0=.string ⟨#[111,111,32,111,111,32,97,46]⟩:=hA 0 (of_decide_eq_true rfl)
    have e75:E (.tmp 75)=val 0:=by rw [hE.eq];rfl
    have h1:val 1=.agg #[.slice A1 n1 c1,.int .i64 1,.int .i64 1,.bool false,.bool false,.slice none 0 0]:=hA 1 (of_decide_eq_true rfl)
    have e76:E (.tmp 76)=val 1:=by rw [hE.eq];rfl
    obtain ⟨g6,h6,ht6⟩:∃g,val 6=.agg #[.int .i64 3,.int .i64 0,.string ⟨#[111,111]⟩,.slice (some ⟨g,0,none⟩) 1 1]∧TmsK N X (some ⟨g,0,none⟩) [strT ⟨#[111,111]⟩ [atomT ⟨#[97]⟩]]:=hc 6 (of_decide_eq_true rfl) rfl
    have e81:E (.tmp 81)=val 6:=by rw [hE.eq];rfl
    have h:=l_is ⟨#[111,111,32,111,111,32,97,46]⟩ A1 n1 c1 1 1 false false none 0 0 (strT ⟨#[111,111]⟩ [strT ⟨#[111,111]⟩ [atomT ⟨#[97]⟩]]) (some ⟨g6,0,none⟩) 1 (-1) P [] X (HT3.out.below hC.bel) rfl (Nat.zero_le _) (Pairs.nil _ _) (by decide) (TmsK.at' ht6)
    rw [show isR (⟨#[111,111,32,111,111,32,97,46]⟩:ByteArray).data.toList ⟨P,1,1,false,false,[]⟩ (strT ⟨#[111,111]⟩ [strT ⟨#[111,111]⟩ [atomT ⟨#[97]⟩]]) (-1)=true from assoc_4 HT2.out HKK.out rfl] at h
    exact ⟨_,_,by simp [execOp,go_sem,hE.c,hE.f,e75,h0,e76,h1,e81,h6] <;> first | rfl | exact ⟨rfl,rfl⟩ | exact ⟨rfl,rfl,rfl⟩ | exact ⟨rfl,rfl,rfl,rfl⟩,h.mono fun e w' h=>⟨_,h.1,h.2,rfl,fun _ _ _=>trivial⟩⟩
   ·cases ho
    refine srv_pure rfl rfl (fun val E hE hA=>?_)
    have e82:E (.tmp 82)=val 7:=by rw [hE.eq];rfl
    have h7:val 7=.bool true:=hA 7 (of_decide_eq_true rfl)
    exact ⟨.bool true,fun X=>by simp [execOp,go_sem,e82,h7],rfl⟩
  case fin4=>
   have h0:val 0=.string ⟨#[111,111,32,111,111,32,97,46]⟩:=hv 0 (show 0<9 by decide)
   have h1:val 1=.agg #[.slice A1 n1 c1,.int .i64 1,.int .i64 1,.bool false,.bool false,.slice none 0 0]:=hv 1 (show 1<9 by decide)
   have h2:val 2=.agg #[.int .i64 2,.int .i64 0,.string ⟨#[97]⟩,.slice none 0 0]:=hv 2 (show 2<9 by decide)
   obtain ⟨g3,h3⟩:∃g,val 3=.slice (some ⟨g,0,none⟩) 1 1:=hv 3 (show 3<9 by decide)
   obtain ⟨gg4,h4⟩:∃g,val 4=.agg #[.int .i64 3,.int .i64 0,.string ⟨#[111,111]⟩,.slice (some ⟨g,0,none⟩) 1 1]:=hv 4 (show 4<9 by decide)
   obtain ⟨g5,h5⟩:∃g,val 5=.slice (some ⟨g,0,none⟩) 1 1:=hv 5 (show 5<9 by decide)
   obtain ⟨gg6,h6⟩:∃g,val 6=.agg #[.int .i64 3,.int .i64 0,.string ⟨#[111,111]⟩,.slice (some ⟨g,0,none⟩) 1 1]:=hv 6 (show 6<9 by decide)
   have h7:val 7=.bool true:=hv 7 (show 7<9 by decide)
   have h8:val 8=.bool true:=hv 8 (show 8<9 by decide)
   refine hK9 _ _ ?_
   simp only [fillD,List.set_cons_zero,List.set_cons_succ,Nat.reduceAdd,Nat.zero_add,h0,h1,h2,h3,h4,h5,h6,h7,h8]
   have HBY:=Lib.hid (HB3.out.trans (HF.bel.mono HB3.out.size))
   clear hv HF hK9 h0 h1 h2 h3 h4 h5 h6 h7 h8 HB3 HT3 HK3
   go_wp2_with fail
   refine (HAW.out _).mono ?_;rintro e w9 ⟨rfl,hB⟩
   have HBZ:=Lib.hid (HBY.out.trans (hB.mono HBY.out.size))
   clear hB HBY
   go_wp2_with fail
   go_ret
   exact ⟨rfl,HBZ.out⟩
 ·skip
  go_upto_region 16 with fail
  rename_i K9 hK9
  refine region_own (w0:=w3) [rPure [] [0] (fun|[v]=>v=.string ⟨#[111,111,32,111,111,32,97,46]⟩|_=>False),
   rVal [] [1] (fun|[v]=>v=.agg #[.slice A1 n1 c1,.int .i64 1,.int .i64 1,.bool false,.bool false,.slice none 0 0]|_=>False),
   rVal [] [2] (fun|[v]=>v=.agg #[.int .i64 0,.int .i64 0,.string ⟨#[]⟩,.slice none 0 0]|_=>False),
   rVal (List.range 3) [3] (fun|[v]=>v=.bool true|_=>False),
   rPure (List.range 4) [4] (fun|[v]=>v=.bool true|_=>False)]
   [some 85,some 86,some 87,some 88,some 12] (fun _=>True) (w3.heap.size) (by kernel_rfl) (Nat.le_refl _) (by kernel_rfl) (by kernel_rfl) (by kernel_rfl) (fun j o ho=>?srv5) (fun val Y N hv HF=>?fin5)
  case srv5=>
   have hlt:j<5:=(Array.getElem?_eq_some_iff.1 ho).1
   rcases (show j=0∨j=1∨j=2∨j=3∨j=4 by omega) with rfl|rfl|rfl|rfl|rfl
   ·cases ho
    refine srv_pure rfl rfl (fun val E hE hA=>?_)
    have e14:E (.tmp 14)=.string ⟨#[111,111,32,111,111,32,97,46]⟩:=by rw [hE.eq];rfl
    exact ⟨.string ⟨#[111,111,32,111,111,32,97,46]⟩,fun X=>by simp [execOp,go_sem,e14],rfl⟩
   ·cases ho
    refine srv_val rfl rfl (fun _ _ _=>trivial) (fun val E X hE hB hA=>?_)
    have e11:E (.tmp 11)=.pointer (some ⟨g3,0,none⟩):=by rw [hE.eq];rfl
    have hk0:=(HK3.out.call hB).c 0 _ rfl
    have hk1:=(HK3.out.call hB).c 1 _ rfl
    have hk2:=(HK3.out.call hB).c 2 _ rfl
    have hk3:=(HK3.out.call hB).c 3 _ rfl
    have hk4:=(HK3.out.call hB).c 4 _ rfl
    have hk5:=(HK3.out.call hB).c 5 _ rfl
    exact ⟨.agg #[.slice A1 n1 c1,.int .i64 1,.int .i64 1,.bool false,.bool false,.slice none 0 0],by simp [execOp,go_sem,e11,hk0,hk1,hk2,hk3,hk4,hk5],rfl⟩
   ·cases ho
    refine srv_calV rfl rfl (fun _ _ _=>trivial) (fun val E X hE hB hA=>?_)
    exact ⟨_,_,_,by simp [execOp,go_sem,hE.c,hE.f] <;> rfl,HLX.out 0 X,rfl⟩
   ·cases ho
    refine srv_cal rfl rfl fun val E X N hE hC hA hc=>?_
    have h0:val 0=.string ⟨#[111,111,32,111,111,32,97,46]⟩:=hA 0 (of_decide_eq_true rfl)
    have e85:E (.tmp 85)=val 0:=by rw [hE.eq];rfl
    have h1:val 1=.agg #[.slice A1 n1 c1,.int .i64 1,.int .i64 1,.bool false,.bool false,.slice none 0 0]:=hA 1 (of_decide_eq_true rfl)
    have e86:E (.tmp 86)=val 1:=by rw [hE.eq];rfl
    have h2:val 2=.agg #[.int .i64 0,.int .i64 0,.string ⟨#[]⟩,.slice none 0 0]:=hA 2 (of_decide_eq_true rfl)
    have e87:E (.tmp 87)=val 2:=by rw [hE.eq];rfl
    have h:=l_is ⟨#[111,111,32,111,111,32,97,46]⟩ A1 n1 c1 1 1 false false none 0 0 (varT 0) none 0 (6) P [] X (HT3.out.below hC.bel) rfl (Nat.zero_le _) (Pairs.nil _ _) (by decide) TmsK.nil
    rw [show isR (⟨#[111,111,32,111,111,32,97,46]⟩:ByteArray).data.toList ⟨P,1,1,false,false,[]⟩ (varT 0) (6)=true from assoc_5 HT2.out HKK.out rfl _] at h
    exact ⟨_,_,by simp [execOp,go_sem,hE.c,hE.f,e85,h0,e86,h1,e87,h2] <;> first | rfl | exact ⟨rfl,rfl⟩ | exact ⟨rfl,rfl,rfl⟩ | exact ⟨rfl,rfl,rfl,rfl⟩,h.mono fun e w' h=>⟨_,h.1,h.2,rfl,fun _ _ _=>trivial⟩⟩
   ·cases ho
    refine srv_pure rfl rfl (fun val E hE hA=>?_)
    have e88:E (.tmp 88)=val 3:=by rw [hE.eq];rfl
    have h3:val 3=.bool true:=hA 3 (of_decide_eq_true rfl)
    exact ⟨.bool true,fun X=>by simp [execOp,go_sem,e88,h3],rfl⟩
  case fin5=>
   have h0:val 0=.string ⟨#[111,111,32,111,111,32,97,46]⟩:=hv 0 (show 0<5 by decide)
   have h1:val 1=.agg #[.slice A1 n1 c1,.int .i64 1,.int .i64 1,.bool false,.bool false,.slice none 0 0]:=hv 1 (show 1<5 by decide)
   have h2:val 2=.agg #[.int .i64 0,.int .i64 0,.string ⟨#[]⟩,.slice none 0 0]:=hv 2 (show 2<5 by decide)
   have h3:val 3=.bool true:=hv 3 (show 3<5 by decide)
   have h4:val 4=.bool true:=hv 4 (show 4<5 by decide)
   refine hK9 _ _ ?_
   simp only [fillD,List.set_cons_zero,List.set_cons_succ,Nat.reduceAdd,Nat.zero_add,h0,h1,h2,h3,h4]
   have HBY:=Lib.hid (HB3.out.trans (HF.bel.mono HB3.out.size))
   clear hv HF hK9 h0 h1 h2 h3 h4 HB3 HT3 HK3
   go_wp2_with fail
   refine (HAW.out _).mono ?_;rintro e w9 ⟨rfl,hB⟩
   have HBZ:=Lib.hid (HBY.out.trans (hB.mono HBY.out.size))
   clear hB HBY
   go_wp2_with fail
   go_ret
   exact ⟨rfl,HBZ.out⟩
 ·skip
  go_upto_region 20 with fail
  rename_i K9 hK9
  refine region_own (w0:=w3) [rVal [] [0] (fun|[v]=>v=.agg #[.slice A1 n1 c1,.int .i64 1,.int .i64 1,.bool false,.bool false,.slice none 0 0]|_=>False),
   rVal [] [1] (fun|[v]=>v=.agg #[.int .i64 0,.int .i64 0,.string ⟨#[]⟩,.slice none 0 0]|_=>False),
   rVal [0,1] [2] (fun|[v]=>v=.bool true|_=>False),
   rPure (List.range 3) [3] (fun|[v]=>v=.bool true|_=>False)]
   [some 100,some 101,some 102,some 12] (fun _=>True) (w3.heap.size) (by kernel_rfl) (Nat.le_refl _) (by kernel_rfl) (by kernel_rfl) (by kernel_rfl) (fun j o ho=>?srv6) (fun val Y N hv HF=>?fin6)
  case srv6=>
   have hlt:j<4:=(Array.getElem?_eq_some_iff.1 ho).1
   rcases (show j=0∨j=1∨j=2∨j=3 by omega) with rfl|rfl|rfl|rfl
   ·cases ho
    refine srv_val rfl rfl (fun _ _ _=>trivial) (fun val E X hE hB hA=>?_)
    have e11:E (.tmp 11)=.pointer (some ⟨g3,0,none⟩):=by rw [hE.eq];rfl
    have hk0:=(HK3.out.call hB).c 0 _ rfl
    have hk1:=(HK3.out.call hB).c 1 _ rfl
    have hk2:=(HK3.out.call hB).c 2 _ rfl
    have hk3:=(HK3.out.call hB).c 3 _ rfl
    have hk4:=(HK3.out.call hB).c 4 _ rfl
    have hk5:=(HK3.out.call hB).c 5 _ rfl
    exact ⟨.agg #[.slice A1 n1 c1,.int .i64 1,.int .i64 1,.bool false,.bool false,.slice none 0 0],by simp [execOp,go_sem,e11,hk0,hk1,hk2,hk3,hk4,hk5],rfl⟩
   ·cases ho
    refine srv_calV rfl rfl (fun _ _ _=>trivial) (fun val E X hE hB hA=>?_)
    exact ⟨_,_,_,by simp [execOp,go_sem,hE.c,hE.f] <;> rfl,HLX.out 0 X,rfl⟩
   ·cases ho
    refine srv_cal rfl rfl fun val E X N hE hC hA hc=>?_
    have h0:val 0=.agg #[.slice A1 n1 c1,.int .i64 1,.int .i64 1,.bool false,.bool false,.slice none 0 0]:=hA 0 (of_decide_eq_true rfl)
    have e100:E (.tmp 100)=val 0:=by rw [hE.eq];rfl
    have h1:val 1=.agg #[.int .i64 0,.int .i64 0,.string ⟨#[]⟩,.slice none 0 0]:=hA 1 (of_decide_eq_true rfl)
    have e101:E (.tmp 101)=val 1:=by rw [hE.eq];rfl
    have h:=l_is ⟨#[97,32,111,111,32,111,111,46]⟩ A1 n1 c1 1 1 false false none 0 0 (varT 0) none 0 (5) P [] X (HT3.out.below hC.bel) rfl (Nat.zero_le _) (Pairs.nil _ _) (by decide) TmsK.nil
    rw [show isR (⟨#[97,32,111,111,32,111,111,46]⟩:ByteArray).data.toList ⟨P,1,1,false,false,[]⟩ (varT 0) (5)=true from assoc_6 HT2.out HKK.out rfl _] at h
    exact ⟨_,_,by simp [execOp,go_sem,hE.c,hE.f,e100,h0,e101,h1] <;> first | rfl | exact ⟨rfl,rfl⟩ | exact ⟨rfl,rfl,rfl⟩ | exact ⟨rfl,rfl,rfl,rfl⟩,h.mono fun e w' h=>⟨_,h.1,h.2,rfl,fun _ _ _=>trivial⟩⟩
   ·cases ho
    refine srv_pure rfl rfl (fun val E hE hA=>?_)
    have e102:E (.tmp 102)=val 2:=by rw [hE.eq];rfl
    have h2:val 2=.bool true:=hA 2 (of_decide_eq_true rfl)
    exact ⟨.bool true,fun X=>by simp [execOp,go_sem,e102,h2],rfl⟩
  case fin6=>
   have h0:val 0=.agg #[.slice A1 n1 c1,.int .i64 1,.int .i64 1,.bool false,.bool false,.slice none 0 0]:=hv 0 (show 0<4 by decide)
   have h1:val 1=.agg #[.int .i64 0,.int .i64 0,.string ⟨#[]⟩,.slice none 0 0]:=hv 1 (show 1<4 by decide)
   have h2:val 2=.bool true:=hv 2 (show 2<4 by decide)
   have h3:val 3=.bool true:=hv 3 (show 3<4 by decide)
   refine hK9 _ _ ?_
   simp only [fillD,List.set_cons_zero,List.set_cons_succ,Nat.reduceAdd,Nat.zero_add,h0,h1,h2,h3]
   have HBY:=Lib.hid (HB3.out.trans (HF.bel.mono HB3.out.size))
   clear hv HF hK9 h0 h1 h2 h3 HB3 HT3 HK3
   go_wp2_with fail
   refine (HAW.out _).mono ?_;rintro e w9 ⟨rfl,hB⟩
   have HBZ:=Lib.hid (HBY.out.trans (hB.mono HBY.out.size))
   clear hB HBY
   go_wp2_with fail
   go_ret
   exact ⟨rfl,HBZ.out⟩
 ·skip
  go_upto_region 18 with fail
  rename_i K9 hK9
  refine region_own (w0:=w3) [rVal [] [0] (fun|[v]=>v=.agg #[.slice A1 n1 c1,.int .i64 1,.int .i64 1,.bool false,.bool false,.slice none 0 0]|_=>False),
   rVal [] [1] (fun|[v]=>v=.agg #[.int .i64 2,.int .i64 0,.string ⟨#[97]⟩,.slice none 0 0]|_=>False),
   rRow [1] 2 1 [atomT ⟨#[97]⟩],
   rGoal [1,2] 3 ⟨#[111,111]⟩ 1 [atomT ⟨#[97]⟩],
   rRow [1,2,3] 4 1 [strT ⟨#[111,111]⟩ [atomT ⟨#[97]⟩]],
   rGoal [1,2,3,4] 5 ⟨#[111,111]⟩ 1 [strT ⟨#[111,111]⟩ [atomT ⟨#[97]⟩]],
   rVal (List.range 6) [6] (fun|[v]=>v=.bool true|_=>False),
   rPure (List.range 7) [7] (fun|[v]=>v=.bool true|_=>False)]
   [some 91,some 92,some 93,some 94,some 95,some 96,some 97,some 12] (fun _=>True) (w3.heap.size) (by kernel_rfl) (Nat.le_refl _) (by kernel_rfl) (by kernel_rfl) (by kernel_rfl) (fun j o ho=>?srv7) (fun val Y N hv HF=>?fin7)
  case srv7=>
   have hlt:j<8:=(Array.getElem?_eq_some_iff.1 ho).1
   rcases (show j=0∨j=1∨j=2∨j=3∨j=4∨j=5∨j=6∨j=7 by omega) with rfl|rfl|rfl|rfl|rfl|rfl|rfl|rfl
   ·cases ho
    refine srv_val rfl rfl (fun _ _ _=>trivial) (fun val E X hE hB hA=>?_)
    have e11:E (.tmp 11)=.pointer (some ⟨g3,0,none⟩):=by rw [hE.eq];rfl
    have hk0:=(HK3.out.call hB).c 0 _ rfl
    have hk1:=(HK3.out.call hB).c 1 _ rfl
    have hk2:=(HK3.out.call hB).c 2 _ rfl
    have hk3:=(HK3.out.call hB).c 3 _ rfl
    have hk4:=(HK3.out.call hB).c 4 _ rfl
    have hk5:=(HK3.out.call hB).c 5 _ rfl
    exact ⟨.agg #[.slice A1 n1 c1,.int .i64 1,.int .i64 1,.bool false,.bool false,.slice none 0 0],by simp [execOp,go_sem,e11,hk0,hk1,hk2,hk3,hk4,hk5],rfl⟩
   ·cases ho
    refine srv_calV rfl rfl (fun _ _ _=>trivial) (fun val E X hE hB hA=>?_)
    exact ⟨_,_,_,by simp [execOp,go_sem,hE.c,hE.f] <;> rfl,HLA.out ⟨#[97]⟩ X,rfl⟩
   ·cases ho
    refine srv_mk rfl rfl fun val E X N hE hC hA hc=>?_
    have e92:E (.tmp 92)=val 1:=by rw [hE.eq];rfl
    have h1:val 1=.agg #[.int .i64 2,.int .i64 0,.string ⟨#[97]⟩,.slice none 0 0]:=hA 1 (of_decide_eq_true rfl)
    exact ⟨.slice (some ⟨X.heap.size,0,none⟩) 1 1,X.alloc (.cells #[.int .i64 2,.int .i64 0,.string ⟨#[97]⟩,.slice none 0 0] 30),by simp [execOp,go_sem,e92,h1],(Below.refl _ _).alloc (Nat.le_refl _) _,⟨_,rfl⟩,fun N' h1 h2=>⟨_,rfl,TmsK.rows (K:=N') (w:=X) (rs:=[(atomT ⟨#[97]⟩,none,0)]) (e:=30) (h2 _ (Nat.le_refl _) (by simp)) (by simp [maxLen]) (fun x hx=>by
     simp only [List.mem_cons,List.mem_nil_iff,or_false] at hx
     rcases hx with rfl
     ·exact TmsK.nil)⟩⟩
   ·cases ho
    refine srv_cal rfl rfl fun val E X N hE hC hA hc=>?_
    obtain ⟨g2,h2,ht2⟩:∃g,val 2=.slice (some ⟨g,0,none⟩) 1 1∧TmsK N X (some ⟨g,0,none⟩) [atomT ⟨#[97]⟩]:=hc 2 (of_decide_eq_true rfl) rfl
    have e93:E (.tmp 93)=val 2:=by rw [hE.eq];rfl
    exact ⟨_,_,by simp [execOp,go_sem,hE.c,hE.f,e93,h2] <;> rfl,(HLF.out ⟨#[111,111]⟩ _ _ _ X).mono fun e w' h=>⟨_,h.1,h.2,⟨g2,rfl⟩,fun N' h1 _=>⟨g2,rfl,row_stab ht2 (fun b hb=>h.2.block b (hC.lt b hb)) h1⟩⟩⟩
   ·cases ho
    refine srv_mk rfl rfl fun val E X N hE hC hA hc=>?_
    have e94:E (.tmp 94)=val 3:=by rw [hE.eq];rfl
    obtain ⟨g3,h3,ht3⟩:∃g,val 3=.agg #[.int .i64 3,.int .i64 0,.string ⟨#[111,111]⟩,.slice (some ⟨g,0,none⟩) 1 1]∧TmsK N X (some ⟨g,0,none⟩) [atomT ⟨#[97]⟩]:=hc 3 (of_decide_eq_true rfl) rfl
    exact ⟨.slice (some ⟨X.heap.size,0,none⟩) 1 1,X.alloc (.cells #[.int .i64 3,.int .i64 0,.string ⟨#[111,111]⟩,.slice (some ⟨g3,0,none⟩) 1 1] 30),by simp [execOp,go_sem,e94,h3],(Below.refl _ _).alloc (Nat.le_refl _) _,⟨_,rfl⟩,fun N' h1 h2=>⟨_,rfl,TmsK.rows (K:=N') (w:=X) (rs:=[(strT ⟨#[111,111]⟩ [atomT ⟨#[97]⟩],some ⟨g3,0,none⟩,1)]) (e:=30) (h2 _ (Nat.le_refl _) (by simp)) (by simp [maxLen]) (fun x hx=>by
     simp only [List.mem_cons,List.mem_nil_iff,or_false] at hx
     rcases hx with rfl
     ·exact row_stab ht3 (fun b hb=>((Below.refl X.heap.size X).alloc (Nat.le_refl _) _).block b (hC.lt b hb)) h1)⟩⟩
   ·cases ho
    refine srv_cal rfl rfl fun val E X N hE hC hA hc=>?_
    obtain ⟨g4,h4,ht4⟩:∃g,val 4=.slice (some ⟨g,0,none⟩) 1 1∧TmsK N X (some ⟨g,0,none⟩) [strT ⟨#[111,111]⟩ [atomT ⟨#[97]⟩]]:=hc 4 (of_decide_eq_true rfl) rfl
    have e95:E (.tmp 95)=val 4:=by rw [hE.eq];rfl
    exact ⟨_,_,by simp [execOp,go_sem,hE.c,hE.f,e95,h4] <;> rfl,(HLF.out ⟨#[111,111]⟩ _ _ _ X).mono fun e w' h=>⟨_,h.1,h.2,⟨g4,rfl⟩,fun N' h1 _=>⟨g4,rfl,row_stab ht4 (fun b hb=>h.2.block b (hC.lt b hb)) h1⟩⟩⟩
   ·cases ho
    refine srv_cal rfl rfl fun val E X N hE hC hA hc=>?_
    have h0:val 0=.agg #[.slice A1 n1 c1,.int .i64 1,.int .i64 1,.bool false,.bool false,.slice none 0 0]:=hA 0 (of_decide_eq_true rfl)
    have e91:E (.tmp 91)=val 0:=by rw [hE.eq];rfl
    obtain ⟨g5,h5,ht5⟩:∃g,val 5=.agg #[.int .i64 3,.int .i64 0,.string ⟨#[111,111]⟩,.slice (some ⟨g,0,none⟩) 1 1]∧TmsK N X (some ⟨g,0,none⟩) [strT ⟨#[111,111]⟩ [atomT ⟨#[97]⟩]]:=hc 5 (of_decide_eq_true rfl) rfl
    have e96:E (.tmp 96)=val 5:=by rw [hE.eq];rfl
    have h:=l_is ⟨#[97,32,111,111,32,111,111,46]⟩ A1 n1 c1 1 1 false false none 0 0 (strT ⟨#[111,111]⟩ [strT ⟨#[111,111]⟩ [atomT ⟨#[97]⟩]]) (some ⟨g5,0,none⟩) 1 (-1) P [] X (HT3.out.below hC.bel) rfl (Nat.zero_le _) (Pairs.nil _ _) (by decide) (TmsK.at' ht5)
    rw [show isR (⟨#[97,32,111,111,32,111,111,46]⟩:ByteArray).data.toList ⟨P,1,1,false,false,[]⟩ (strT ⟨#[111,111]⟩ [strT ⟨#[111,111]⟩ [atomT ⟨#[97]⟩]]) (-1)=true from assoc_7 HT2.out HKK.out rfl] at h
    exact ⟨_,_,by simp [execOp,go_sem,hE.c,hE.f,e91,h0,e96,h5] <;> first | rfl | exact ⟨rfl,rfl⟩ | exact ⟨rfl,rfl,rfl⟩ | exact ⟨rfl,rfl,rfl,rfl⟩,h.mono fun e w' h=>⟨_,h.1,h.2,rfl,fun _ _ _=>trivial⟩⟩
   ·cases ho
    refine srv_pure rfl rfl (fun val E hE hA=>?_)
    have e97:E (.tmp 97)=val 6:=by rw [hE.eq];rfl
    have h6:val 6=.bool true:=hA 6 (of_decide_eq_true rfl)
    exact ⟨.bool true,fun X=>by simp [execOp,go_sem,e97,h6],rfl⟩
  case fin7=>
   have h0:val 0=.agg #[.slice A1 n1 c1,.int .i64 1,.int .i64 1,.bool false,.bool false,.slice none 0 0]:=hv 0 (show 0<8 by decide)
   have h1:val 1=.agg #[.int .i64 2,.int .i64 0,.string ⟨#[97]⟩,.slice none 0 0]:=hv 1 (show 1<8 by decide)
   obtain ⟨g2,h2⟩:∃g,val 2=.slice (some ⟨g,0,none⟩) 1 1:=hv 2 (show 2<8 by decide)
   obtain ⟨gg3,h3⟩:∃g,val 3=.agg #[.int .i64 3,.int .i64 0,.string ⟨#[111,111]⟩,.slice (some ⟨g,0,none⟩) 1 1]:=hv 3 (show 3<8 by decide)
   obtain ⟨g4,h4⟩:∃g,val 4=.slice (some ⟨g,0,none⟩) 1 1:=hv 4 (show 4<8 by decide)
   obtain ⟨gg5,h5⟩:∃g,val 5=.agg #[.int .i64 3,.int .i64 0,.string ⟨#[111,111]⟩,.slice (some ⟨g,0,none⟩) 1 1]:=hv 5 (show 5<8 by decide)
   have h6:val 6=.bool true:=hv 6 (show 6<8 by decide)
   have h7:val 7=.bool true:=hv 7 (show 7<8 by decide)
   refine hK9 _ _ ?_
   simp only [fillD,List.set_cons_zero,List.set_cons_succ,Nat.reduceAdd,Nat.zero_add,h0,h1,h2,h3,h4,h5,h6,h7]
   have HBY:=Lib.hid (HB3.out.trans (HF.bel.mono HB3.out.size))
   clear hv HF hK9 h0 h1 h2 h3 h4 h5 h6 h7 HB3 HT3 HK3
   go_wp2_with fail
   refine (HAW.out _).mono ?_;rintro e w9 ⟨rfl,hB⟩
   have HBZ:=Lib.hid (HBY.out.trans (hB.mono HBY.out.size))
   clear hB HBY
   go_wp2_with fail
   go_ret
   exact ⟨rfl,HBZ.out⟩
end Go.Proofs.YtbojljpldcijgaaGreat
