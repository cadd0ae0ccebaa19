/- Parts of the proof. -/
import Derived.Test.YtpokpgkjaifccaaGreatDoorRRH01
import Derived.Test.YtpokpgkjaifccaaGreatDoorRRH23
import Derived.Test.YtpokpgkjaifccaaGreatDoorRRH15
import Derived.Test.YtpokpgkjaifccaaGreatDoorRRRows
import Derived.Test.YtpokpgkjaifccaaGreatDoorRRTie
import Derived.Test.YtpokpgkjaifccaaGreatDoorRRCards
import Derived.ProofKit
import Derived.LaidMore
import Derived.OpenShut
import Derived.Stop.Joined
import Derived.Stop.LaidErr
import Derived.Lib.LaidTab
import Derived.Lib.ItoaNum
import Derived.Lib.SmallJoins
import Derived.SevenTiedAt
namespace Go.Proofs.YtpokpgkjaifccaaGreatDoorRR
open Go.RowKit Hb
set_option maxRecDepth 100000
def okArgs (L:List UInt8) (at_:Int) (conv:List (Int×Int)):Bool:=decide (L.length≤16384)&&(decide (0≤at_)&&(decide (at_≤L.length)&&pvalid conv))
theorem okArgs_iff (s:ByteArray) (at_:Int) (conv:List (Int×Int)):okArgs s.data.toList at_ conv=true↔openOk s at_ conv:=by
 unfold okArgs openOk;rw [size_data];simp
def nextTop (L:List UInt8) (at_:Int) (conv:List (Int×Int)):NextR:=if okArgs L at_ conv=true then nextR (cvt (convT conv) L) L at_.toNat else ⟨errR 1,false,0⟩
set_option maxHeartbeats 800000 in
theorem token_next (s:ByteArray) (at_:Int) (A:Option Addr) (n cap:Nat) (l:List (Int×Int)) (w:World) (hn:n=l.length) (hm:n≤maxLen) (hs:s.size≤maxLen) (hp:Pairs w A l) :
  Calls Tryz.prog 108 #[.string s,.int .i64 at_,.slice A n cap] w fun e w'=>GivesN (nextTop s.data.toList at_ l) e∧Below w.heap.size w w':=by
 have hA:=(Below.refl w.heap.size w).alloc (Nat.le_refl _) tokZero
 have hp1:=hp.below hA
 have hsz0:w.heap.size<(w.alloc tokZero).heap.size:=by simp
 have T0:Tok6 (w.alloc tokZero) w.heap.size:=by
  obtain ⟨t0,t1,t2,t3,t4,t5,t6⟩:=tok_cells (Below.refl (w.alloc tokZero).heap.size (w.alloc tokZero)) hsz0
  exact ⟨t6,_,_,_,_,_,_,t0,t1,t2,t3,t4,t5⟩
 by_cases ho:openOk s at_ l
 ·have HK:=zq (show nextTop s.data.toList at_ l=nextR (cvt (convT l) s.data.toList) s.data.toList at_.toNat by unfold nextTop;rw [if_pos ((okArgs_iff s at_ l).2 ho)])
  obtain ⟨k,hk⟩:=Int.eq_ofNat_of_zero_le ho.2.1
  subst hk
  have hk2:k≤s.size:=by have:=ho.2.2.1;omega
  have HO:=zq (lex_open_yes s k A n cap l _ hn hm hp1 ho)
  clear hn hp hp1 ho
  go_enter Tryz.func108,Tryz.ntmps108
  go_wp2_with fail
  refine HO.out.mono ?_;rintro e w1 ⟨b,rfl,hb,hB1,L⟩
  go_wp2_with fail
  refine (lex_next b s _ k _ w1 L hk2).mono ?_;rintro e w2 ⟨he,ho2,q,L2⟩
  have hB2:=hB1.trans (ho2.toBelow' hb hB1.size)
  obtain ⟨t6,v0,v1,v2,v3,v4,v5,t0,t1,t2,t3,t4,t5⟩:=T0.below hB2 hsz0
  have hl2:w.heap.size<w2.heap.size:=Nat.lt_of_lt_of_le hsz0 hB2.size
  rw [Int.toNat_natCast] at HK
  generalize hr:nextR _ _ _=r at he
  have HR:=zq hr
  clear hr
  unfold GivesN nxtTup at he;subst he
  go_wp2_with fail
  refine bodyPost_ret (v:=nxtTup r) (by simp [nxtTup,results,Tryz.results108,go_sem,t0,t1,t2,t3,t4,t5]) rfl ⟨?_,below_sets (hA.trans (hB2.mono (Nat.le_of_lt hsz0))) (Nat.le_refl _) _ _ _ _ _ _⟩
  rw [HK.out,HR.out];rfl
 ·have HK:=zq (show nextTop s.data.toList at_ l=⟨errR 1,false,0⟩ by unfold nextTop;rw [if_neg (fun h=>ho ((okArgs_iff s at_ l).1 h))])
  have HO:=zq (lex_open_no s at_ A n cap l _ hn hm hs hp1 ho)
  clear hn hp hp1 ho
  go_enter Tryz.func108,Tryz.ntmps108
  go_wp2_with fail
  refine HO.out.mono ?_;rintro e w1 ⟨rfl,hB1⟩
  obtain ⟨t6,v0,v1,v2,v3,v4,v5,t0,t1,t2,t3,t4,t5⟩:=T0.below hB1 hsz0
  have hl2:w.heap.size<w1.heap.size:=Nat.lt_of_lt_of_le hsz0 hB1.size
  go_wp2_with fail
  refine bodyPost_ret (v:=nxtTup ⟨errR 1,false,0⟩) (by simp [nxtTup,errR,results,Tryz.results108,go_sem,t0,t1,t2,t3,t4,t5]) rfl ⟨?_,below_sets (hA.trans (hB1.mono (Nat.le_of_lt hsz0))) (Nat.le_refl _) _ _ _ _ _ _⟩
  rw [HK.out];rfl
end Go.Proofs.YtpokpgkjaifccaaGreatDoorRR
namespace Go.Proofs.YtpokpgkjaifccaaGreatDoorRR
open Go.RowKit Hb Go.Shelf
set_option maxRecDepth 100000
set_option linter.unusedSimpArgs false
def nxA (s:ByteArray) (a:Int):NextR:=nextTop s.data.toList a []
def synA (s:ByteArray) (r:NextR):Tm:=bsT (if r.r.err=14 then (s.size:Int) else r.where_)
theorem nx_pos (s:ByteArray) (a:Int):0≤(nxA s a).where_∧((nxA s a).r.err=0→0≤(nxA s a).r.at_∧0≤(nxA s a).r.end_∧(nxA s a).r.end_≤s.size):=by
 unfold nxA nextTop
 by_cases ho:okArgs s.data.toList a []=true
 ·rw [if_pos ho]
  unfold okArgs at ho
  simp only [Bool.and_eq_true,decide_eq_true_eq] at ho
  obtain ⟨_,h1,h2,_⟩:=ho
  have hl:(cvt (convT []) s.data.toList).length=s.data.toList.length:=cvt_len _ _
  have ha:a.toNat≤s.data.toList.length:=by omega
  by_cases he:(nextR (cvt (convT []) s.data.toList) s.data.toList a.toNat).r.err=0
  ·obtain ⟨p,e,h3,h4,h5,h6,h7,h8,h9⟩:=next_end _ _ hl _ ha he
   have hsz:s.data.toList.length=s.size:=by simp
   exact ⟨by rw [h9];omega,fun _=>⟨by rw [h3];omega,by rw [h5];omega,by rw [h5];omega⟩⟩
  ·obtain ⟨p,h3,h4,h5,_⟩:=next_where _ _ hl _ ha he
   exact ⟨by rw [h3];omega,fun h=>absurd h he⟩
 ·rw [if_neg ho]
  exact ⟨Int.le_refl _,fun h=>by cases h⟩
def NxR (s:ByteArray) (r:NextR) (w':World) (e:Ending):Prop:=(r.r.err=0∧e=.returned (.agg #[.int .i64 r.r.kind,.string ⟨r.r.text.toArray⟩,.int .i64 r.r.n,.int .i64 r.r.at_,.int .i64 r.r.end_,.bool r.lay]))∨(¬r.r.err=0∧Thr w' (synA s r) e)
set_option maxHeartbeats 1600000 in
theorem a_next (s:ByteArray) (k:Int) (w:World) (hs:s.size≤maxLen):Calls Tryz.prog 101 #[.string s,.int .i64 k] w fun e w'=>Below w.heap.size w w'∧NxR s (nxA s k) w' e:=by
 obtain ⟨r,HR⟩:=lz (nxA s k)
 have HNX:Hid (∀X,Calls Tryz.prog 108 #[.string s,.int .i64 k,.slice none 0 0] X fun e w'=>e=.returned (.tuple #[.agg #[.int .i64 r.r.kind,.string ⟨r.r.text.toArray⟩,.int .i64 r.r.n,.int .i64 r.r.at_,.int .i64 r.r.end_,.bool r.lay],.int .i64 r.where_,.int .i64 r.r.err])∧Below X.heap.size X w'):=zq fun X=>by
  rw [HR.out]
  exact token_next s k none 0 0 [] X rfl (by unfold maxLen;omega) hs (Pairs.nil _ _)
 have HPO:Hid (0≤r.where_):=zq (by rw [HR.out];exact (nx_pos s k).1)
 have HSY:=zq (fun n (h:0≤n) W=>b_syntax n h W)
 have HTH:=zq (fun Q A c W h=>a_throw Q A c W h)
 have HSN:Hid (synA s r=bsT (if r.r.err=14 then (s.size:Int) else r.where_)):=zq rfl
 have HB0:Hid (Below w.heap.size w (w.alloc (.cells #[.int .i64 0,.string ⟨#[]⟩,.int .i64 0,.int .i64 0,.int .i64 0,.bool false] 110))):=zq ((Below.refl w.heap.size w).alloc (Nat.le_refl _) _)
 have HK_0:Hid (Bk (w.alloc (.cells #[.int .i64 0,.string ⟨#[]⟩,.int .i64 0,.int .i64 0,.int .i64 0,.bool false] 110)) w.heap.size [.int .i64 0,.string ⟨#[]⟩,.int .i64 0,.int .i64 0,.int .i64 0,.bool false]):=zq (Bk.new w [.int .i64 0,.string ⟨#[]⟩,.int .i64 0,.int .i64 0,.int .i64 0,.bool false] 110)
 rw [←HR.out]
 have HS0:Hid ((0:Int)≤(s.size:Int)):=zq (by omega)
 clear HR hs
 unfold tmV at *
 rcases (show r.r.err=0∨r.r.err=14∨(¬r.r.err=0∧¬r.r.err=14) by omega) with d | d | ⟨d,d'⟩
 ·have D:=zq d
  have d1:=d
  clear d HSN HSY HTH HPO HS0
  have fHK_0:=HK_0.out.all0
  simp only [bkAll,Nat.zero_add,Nat.reduceAdd,and_true] at fHK_0
  go_enter Tryz.func101,Tryz.ntmps101
  go_wp2_with fail
  refine (HNX.out _).mono ?_;rintro e w1 ⟨rfl,hB⟩
  clear fHK_0
  have HB1_:=bz HB0 hB
  have HK_1:=zq (HK_0.out.call hB)
  clear hB HB0 HK_0 
  have fHK_1:=HK_1.out.all0
  simp only [bkAll,Nat.zero_add,Nat.reduceAdd,and_true] at fHK_1
  have hz:=(Below.refl w1.heap.size w1).alloc (Nat.le_refl _) (.cells #[.int .i64 r.r.kind,.string ⟨r.r.text.toArray⟩,.int .i64 r.r.n,.int .i64 r.r.at_,.int .i64 r.r.end_,.bool r.lay] 110)
  obtain ⟨y1,HY1⟩:=lz (w1.alloc (.cells #[.int .i64 r.r.kind,.string ⟨r.r.text.toArray⟩,.int .i64 r.r.n,.int .i64 r.r.at_,.int .i64 r.r.end_,.bool r.lay] 110))
  have hB:Below w1.heap.size w1 y1:=by rw [HY1.out];exact hz
  have HT_2:Hid (Bk y1 w1.heap.size [.int .i64 r.r.kind,.string ⟨r.r.text.toArray⟩,.int .i64 r.r.n,.int .i64 r.r.at_,.int .i64 r.r.end_,.bool r.lay]):=zq (by rw [HY1.out];exact Bk.new w1 [.int .i64 r.r.kind,.string ⟨r.r.text.toArray⟩,.int .i64 r.r.n,.int .i64 r.r.at_,.int .i64 r.r.end_,.bool r.lay] 110)
  clear hz
  clear fHK_1
  have HB2_:=bz HB1_ hB
  have HK_2:=zq (HK_1.out.call hB)
  clear hB HB1_ HK_1 
  have fHK_2:=HK_2.out.all0
  simp only [bkAll,Nat.zero_add,Nat.reduceAdd,and_true] at fHK_2
  go_upto_region 3 with fail
  rw [←HY1.out]
  clear HY1
  have tt:=HT_2.out.all0
  simp only [bkAll,Nat.zero_add,Nat.reduceAdd,and_true] at tt
  have hk:=Bks.put (X:=y1) (l:=[(w.heap.size,[.int .i64 0,.string ⟨#[]⟩,.int .i64 0,.int .i64 0,.int .i64 0,.bool false])]) ⟨fun x hx=>by rw [List.mem_singleton] at hx;subst hx;exact HK_2.out,List.pairwise_singleton _ _⟩ 0 (g:=w.heap.size) (vs:=[.int .i64 0,.string ⟨#[]⟩,.int .i64 0,.int .i64 0,.int .i64 0,.bool false]) rfl [.int .i64 r.r.kind,.string ⟨r.r.text.toArray⟩,.int .i64 r.r.n,.int .i64 r.r.at_,.int .i64 r.r.end_,.bool r.lay] rfl
  have hb:=setL_below (B:=w.heap.size) (g:=w.heap.size) (Nat.le_refl _) [.int .i64 r.r.kind,.string ⟨r.r.text.toArray⟩,.int .i64 r.r.n,.int .i64 r.r.at_,.int .i64 r.r.end_,.bool r.lay] y1 0 HB2_.out
  obtain ⟨wz,HWZ⟩:=lz (setL y1 w.heap.size 0 [.int .i64 r.r.kind,.string ⟨r.r.text.toArray⟩,.int .i64 r.r.n,.int .i64 r.r.at_,.int .i64 r.r.end_,.bool r.lay])
  rw [←HWZ.out] at hk hb
  have hz:=HWZ.out
  simp only [setL,Nat.zero_add,Nat.reduceAdd] at hz
  have HWY:=zq hz
  have HKZ:=zq hk
  have HBZ:=zq hb
  clear hz hk hb HWZ
  go_wp2_with fail
  rw [←HWY.out]
  have cz:=HKZ.out.all
  simp only [bksAll,bkAll,Nat.zero_add,Nat.reduceAdd,and_true,List.set_cons_zero] at cz
  exact bodyPost_ret (v:=.agg #[.int .i64 r.r.kind,.string ⟨r.r.text.toArray⟩,.int .i64 r.r.n,.int .i64 r.r.at_,.int .i64 r.r.end_,.bool r.lay]) (by simp [results,Tryz.results101,go_sem,cz]) rfl ⟨HBZ.out,.inl ⟨D.out,rfl⟩⟩
 ·have D:=zq d
  have HS2:Hid (synA s r=bsT (s.size:Int)):=zq (by rw [HSN.out,if_pos d])
  have D0:Hid (¬r.r.err=0):=zq (by omega)
  clear HSN
  have fHK_0:=HK_0.out.all0
  simp only [bkAll,Nat.zero_add,Nat.reduceAdd,and_true] at fHK_0
  go_enter Tryz.func101,Tryz.ntmps101
  go_wp2_with fail
  refine (HNX.out _).mono ?_;rintro e w1 ⟨rfl,hB⟩
  clear fHK_0
  have HB1_:=bz HB0 hB
  have HK_1:=zq (HK_0.out.call hB)
  clear hB HB0 HK_0 
  have fHK_1:=HK_1.out.all0
  simp only [bkAll,Nat.zero_add,Nat.reduceAdd,and_true] at fHK_1
  have hz:=(Below.refl w1.heap.size w1).alloc (Nat.le_refl _) (.cells #[.int .i64 r.r.kind,.string ⟨r.r.text.toArray⟩,.int .i64 r.r.n,.int .i64 r.r.at_,.int .i64 r.r.end_,.bool r.lay] 110)
  obtain ⟨y1,HY1⟩:=lz (w1.alloc (.cells #[.int .i64 r.r.kind,.string ⟨r.r.text.toArray⟩,.int .i64 r.r.n,.int .i64 r.r.at_,.int .i64 r.r.end_,.bool r.lay] 110))
  have hB:Below w1.heap.size w1 y1:=by rw [HY1.out];exact hz
  have HT_2:Hid (Bk y1 w1.heap.size [.int .i64 r.r.kind,.string ⟨r.r.text.toArray⟩,.int .i64 r.r.n,.int .i64 r.r.at_,.int .i64 r.r.end_,.bool r.lay]):=zq (by rw [HY1.out];exact Bk.new w1 [.int .i64 r.r.kind,.string ⟨r.r.text.toArray⟩,.int .i64 r.r.n,.int .i64 r.r.at_,.int .i64 r.r.end_,.bool r.lay] 110)
  clear hz
  clear fHK_1
  have HB2_:=bz HB1_ hB
  have HK_2:=zq (HK_1.out.call hB)
  clear hB HB1_ HK_1 
  have fHK_2:=HK_2.out.all0
  simp only [bkAll,Nat.zero_add,Nat.reduceAdd,and_true] at fHK_2
  go_upto_region 3 with fail
  rw [←HY1.out]
  clear HY1
  go_wp2_with fail
  refine (HSY.out _ HS0.out _).mono ?_;rintro e w8 ⟨xa,xc,rfl,hB,hN⟩
  have HB8:=bz HB2_ hB
  have HN8:=zq hN.tms
  clear hB hN
  go_wp2_with fail
  refine (HTH.out _ _ _ _ HN8.out).mono ?_;rintro e wt ⟨hBt,⟨At,ct,rfl,hTt⟩⟩
  exact ⟨rfl,HB8.out.trans (hBt.mono HB8.out.size),.inr ⟨D0.out,by rw [HS2.out];exact ⟨At,ct,rfl,hTt⟩⟩⟩
 ·have D0:=zq d
  have HS2:Hid (synA s r=bsT r.where_):=zq (by rw [HSN.out,if_neg d'])
  clear HSN
  have fHK_0:=HK_0.out.all0
  simp only [bkAll,Nat.zero_add,Nat.reduceAdd,and_true] at fHK_0
  go_enter Tryz.func101,Tryz.ntmps101
  go_wp2_with fail
  refine (HNX.out _).mono ?_;rintro e w1 ⟨rfl,hB⟩
  clear fHK_0
  have HB1_:=bz HB0 hB
  have HK_1:=zq (HK_0.out.call hB)
  clear hB HB0 HK_0 
  have fHK_1:=HK_1.out.all0
  simp only [bkAll,Nat.zero_add,Nat.reduceAdd,and_true] at fHK_1
  have hz:=(Below.refl w1.heap.size w1).alloc (Nat.le_refl _) (.cells #[.int .i64 r.r.kind,.string ⟨r.r.text.toArray⟩,.int .i64 r.r.n,.int .i64 r.r.at_,.int .i64 r.r.end_,.bool r.lay] 110)
  obtain ⟨y1,HY1⟩:=lz (w1.alloc (.cells #[.int .i64 r.r.kind,.string ⟨r.r.text.toArray⟩,.int .i64 r.r.n,.int .i64 r.r.at_,.int .i64 r.r.end_,.bool r.lay] 110))
  have hB:Below w1.heap.size w1 y1:=by rw [HY1.out];exact hz
  have HT_2:Hid (Bk y1 w1.heap.size [.int .i64 r.r.kind,.string ⟨r.r.text.toArray⟩,.int .i64 r.r.n,.int .i64 r.r.at_,.int .i64 r.r.end_,.bool r.lay]):=zq (by rw [HY1.out];exact Bk.new w1 [.int .i64 r.r.kind,.string ⟨r.r.text.toArray⟩,.int .i64 r.r.n,.int .i64 r.r.at_,.int .i64 r.r.end_,.bool r.lay] 110)
  clear hz
  clear fHK_1
  have HB2_:=bz HB1_ hB
  have HK_2:=zq (HK_1.out.call hB)
  clear hB HB1_ HK_1 
  have fHK_2:=HK_2.out.all0
  simp only [bkAll,Nat.zero_add,Nat.reduceAdd,and_true] at fHK_2
  go_upto_region 3 with fail
  rw [←HY1.out]
  clear HY1
  go_wp2_with fail
  refine (HSY.out _ HPO.out _).mono ?_;rintro e w8 ⟨xa,xc,rfl,hB,hN⟩
  have HB8:=bz HB2_ hB
  have HN8:=zq hN.tms
  clear hB hN
  go_wp2_with fail
  refine (HTH.out _ _ _ _ HN8.out).mono ?_;rintro e wt ⟨hBt,⟨At,ct,rfl,hTt⟩⟩
  exact ⟨rfl,HB8.out.trans (hBt.mono HB8.out.size),.inr ⟨D0.out,by rw [HS2.out];exact ⟨At,ct,rfl,hTt⟩⟩⟩
def integerA (s : ByteArray) : Sum Tm Int :=
  if ¬ (nxA s 0).r.err = 0 then .inl (synA s (nxA s 0))
  else if (nxA s 0).r.kind = 1 ∧ (nxA s 0).r.text = [45] then
    (if ¬ (nxA s (nxA s 0).r.end_).r.err = 0 then .inl (synA s (nxA s (nxA s 0).r.end_))
     else if ¬ (nxA s (nxA s 0).r.end_).r.kind = 4 ∨ (nxA s (nxA s 0).r.end_).lay = true then .inl (bsT (nxA s (nxA s 0).r.end_).r.at_)
     else if ¬ (nxA s (nxA s 0).r.end_).r.end_ = s.size then .inl (bsT (nxA s (nxA s 0).r.end_).r.end_)
     else .inr (wrap64 (-(nxA s (nxA s 0).r.end_).r.n)))
  else if ¬ (nxA s 0).r.kind = 4 ∨ (nxA s 0).r.n < 0 then .inl (bsT (nxA s 0).r.at_)
  else if ¬ (nxA s 0).r.end_ = s.size then .inl (bsT (nxA s 0).r.end_)
  else .inr (nxA s 0).r.n
def IntOut (w':World) (e:Ending):Sum Tm Int→Prop
 | .inl b=>Thr w' b e
 | .inr n=>e=.returned (.int .i64 n)
set_option maxHeartbeats 3200000 in
theorem a_integer (s:ByteArray) (w:World) (hs:s.size≤maxLen):Calls Tryz.prog 82 #[.string s] w fun e w'=>Below w.heap.size w w'∧IntOut w' e (integerA s):=by
 obtain ⟨r,HR⟩:=lz (nxA s 0)
 obtain ⟨q,HQ⟩:=lz (nxA s r.r.end_)
 have HNX:Hid (∀X,Calls Tryz.prog 101 #[.string s,.int .i64 0] X fun e w'=>Below X.heap.size X w'∧NxR s r w' e):=zq fun X=>by rw [HR.out];exact a_next s 0 X hs
 have HNQ:Hid (∀X,Calls Tryz.prog 101 #[.string s,.int .i64 r.r.end_] X fun e w'=>Below X.heap.size X w'∧NxR s q w' e):=zq fun X=>by rw [HQ.out];exact a_next s _ X hs
 have HPR:Hid (r.r.err=0→0≤r.r.at_∧0≤r.r.end_):=zq fun h=>by rw [HR.out] at h ⊢;exact ⟨((nx_pos s 0).2 h).1,((nx_pos s 0).2 h).2.1⟩
 have HPQ:Hid (q.r.err=0→0≤q.r.at_∧0≤q.r.end_):=zq fun h=>by rw [HQ.out] at h ⊢;exact ⟨((nx_pos s _).2 h).1,((nx_pos s _).2 h).2.1⟩
 have HSY:=zq (fun n (h:0≤n) W=>b_syntax n h W)
 have HTH:=zq (fun Q A c W h=>a_throw Q A c W h)
 obtain ⟨LA,HLA⟩:=lz (integerA s)
 obtain ⟨ns,HNS⟩:=lz (α:=Nat) (s.size)
 have HL:Hid (LA=if ¬r.r.err=0 then .inl (synA s r) else if r.r.kind=1∧r.r.text=[45] then (if ¬q.r.err=0 then .inl (synA s q) else if ¬q.r.kind=4∨q.lay=true then .inl (bsT q.r.at_) else if ¬q.r.end_=ns then .inl (bsT q.r.end_) else .inr (wrap64 (-q.r.n)))
  else if ¬r.r.kind=4∨r.r.n<0 then .inl (bsT r.r.at_) else if ¬r.r.end_=ns then .inl (bsT r.r.end_) else .inr r.r.n):=zq (by rw [HLA.out,HQ.out,HR.out,HNS.out];rfl)
 rw [←HLA.out]
 clear HLA HR HQ hs
 unfold tmV at *
 rcases Decidable.em (r.r.err=0) with e0 | e0
 rotate_left
 ·have HE:Hid (LA=.inl (synA s r)):=zq (by rw [HL.out,if_pos e0])
  rw [HE.out]
  clear HL
  go_enter Tryz.func82,Tryz.ntmps82
  go_wp2_with fail
  refine (HNX.out _).mono ?_;rintro e w1 ⟨hB,(⟨h0,_⟩ | ⟨_,ht⟩)⟩
  ·exact absurd h0 e0
  ·obtain ⟨At,ct,rfl,hTt⟩:=ht
   exact ⟨rfl,hB,At,ct,rfl,hTt⟩
 have HR1:=zq (HPR.out e0)
 have HE0:=zq e0
 have HL1:Hid (LA=if r.r.kind=1∧r.r.text=[45] then (if ¬q.r.err=0 then .inl (synA s q) else if ¬q.r.kind=4∨q.lay=true then .inl (bsT q.r.at_) else if ¬q.r.end_=ns then .inl (bsT q.r.end_) else .inr (wrap64 (-q.r.n)))
  else if ¬r.r.kind=4∨r.r.n<0 then .inl (bsT r.r.at_) else if ¬r.r.end_=ns then .inl (bsT r.r.end_) else .inr r.r.n):=zq (by rw [HL.out,if_neg (fun h=>h e0)])
 clear HL HPR e0
 rcases Decidable.em (r.r.kind=1∧r.r.text=[45]) with em | em
 rotate_left
 ·have HL2:Hid (LA=if ¬r.r.kind=4∨r.r.n<0 then .inl (bsT r.r.at_) else if ¬r.r.end_=ns then .inl (bsT r.r.end_) else .inr r.r.n):=zq (by rw [HL1.out,if_neg em])
  clear HL1 HNQ HPQ
  have dd:(r.r.kind=1∧(¬r.r.text=[45]))∨(¬r.r.kind=1∧¬r.r.kind=4)∨(¬r.r.kind=1∧r.r.kind=4∧r.r.n<0)∨(¬r.r.kind=1∧r.r.kind=4∧¬r.r.n<0∧¬r.r.end_=ns)∨(¬r.r.kind=1∧r.r.kind=4∧¬r.r.n<0∧r.r.end_=ns):=by
   rcases Decidable.em (r.r.kind=1) with h | h
   ·refine .inl ⟨h,?_⟩
    exact fun e=>em ⟨h,e⟩
   ·omega
  clear em
  rcases dd with dd | dd | dd | dd | dd
  ·have DD:=zq dd
   obtain ⟨d1,d2⟩:=dd
   have d4:¬r.r.kind=4:=by omega
   have HE:Hid (LA=.inl (bsT r.r.at_)):=zq (by rw [HL2.out,if_pos (.inl d4)])
   clear HL2 d1 d2 d4
   go_enter Tryz.func82,Tryz.ntmps82
   go_wp2_with fail
   refine (HNX.out _).mono ?_;rintro e w1 ⟨hB,(⟨_,rfl⟩ | ⟨h0,_⟩)⟩
   rotate_left
   ·exact absurd HE0.out h0
   have HB_1:=zq hB
   obtain ⟨y1,HY1⟩:=lz ((w1.alloc (.cells #[.int .i64 r.r.kind,.string ⟨r.r.text.toArray⟩,.int .i64 r.r.n,.int .i64 r.r.at_,.int .i64 r.r.end_,.bool r.lay] 110)).alloc (.cells #[.int .i64 r.r.kind,.string ⟨r.r.text.toArray⟩,.int .i64 r.r.n,.int .i64 r.r.at_,.int .i64 r.r.end_,.bool r.lay] 110))
   have HB_2:Hid (Below w.heap.size w y1):=zq (by rw [HY1.out];exact (hB.alloc hB.size _).alloc (by have:=hB.size;simp;omega) _)
   have HT_2:Hid (Bk y1 w1.heap.size [.int .i64 r.r.kind,.string ⟨r.r.text.toArray⟩,.int .i64 r.r.n,.int .i64 r.r.at_,.int .i64 r.r.end_,.bool r.lay]):=zq (by rw [HY1.out];exact (Bk.new w1 [.int .i64 r.r.kind,.string ⟨r.r.text.toArray⟩,.int .i64 r.r.n,.int .i64 r.r.at_,.int .i64 r.r.end_,.bool r.lay] 110).al _)
   have HF_2:Hid (Bk y1 (w1.heap.size+1) [.int .i64 r.r.kind,.string ⟨r.r.text.toArray⟩,.int .i64 r.r.n,.int .i64 r.r.at_,.int .i64 r.r.end_,.bool r.lay]):=zq (by rw [HY1.out];have:=Bk.new (w1.alloc (.cells #[.int .i64 r.r.kind,.string ⟨r.r.text.toArray⟩,.int .i64 r.r.n,.int .i64 r.r.at_,.int .i64 r.r.end_,.bool r.lay] 110)) [.int .i64 r.r.kind,.string ⟨r.r.text.toArray⟩,.int .i64 r.r.n,.int .i64 r.r.at_,.int .i64 r.r.end_,.bool r.lay] 110;rwa [World.size_alloc] at this)
   have HGW:Hid (w.heap.size≤w1.heap.size):=zq hB.size
   clear hB HB_1
   go_upto_region 3 with fail
   rw [←HY1.out]
   clear HY1
   generalize w1.heap.size=g at *
   have fHT_2:=HT_2.out.all0
   simp only [bkAll,Nat.zero_add,Nat.reduceAdd,and_true] at fHT_2
   have fHF_2:=HF_2.out.all0
   simp only [bkAll,Nat.zero_add,Nat.reduceAdd,and_true] at fHF_2
   obtain ⟨d1,d2⟩:=DD.out
   have d4:¬r.r.kind=4:=by omega
   have d6:(r.r.text==[45])=false:=by rw [beq_eq_false_iff_ne];exact d2
   clear DD
   skip
   go_wp2_with fail
   refine (HSY.out _ HR1.out.1 _).mono ?_;rintro e w8 ⟨xa,xc,rfl,hB,hN⟩
   have HB8:=bz HB_2 hB
   have HN8:=zq hN.tms
   clear hB hN
   go_wp2_with fail
   refine (HTH.out _ _ _ _ HN8.out).mono ?_;rintro e wt ⟨hBt,⟨At,ct,rfl,hTt⟩⟩
   exact ⟨rfl,HB8.out.trans (hBt.mono HB8.out.size),by rw [HE.out];exact ⟨At,ct,rfl,hTt⟩⟩
  ·have DD:=zq dd
   obtain ⟨d1,d2⟩:=dd
   have HE:Hid (LA=.inl (bsT r.r.at_)):=zq (by rw [HL2.out,if_pos (.inl d2)])
   clear HL2 d1 d2
   go_enter Tryz.func82,Tryz.ntmps82
   go_wp2_with fail
   refine (HNX.out _).mono ?_;rintro e w1 ⟨hB,(⟨_,rfl⟩ | ⟨h0,_⟩)⟩
   rotate_left
   ·exact absurd HE0.out h0
   have HB_1:=zq hB
   obtain ⟨y1,HY1⟩:=lz ((w1.alloc (.cells #[.int .i64 r.r.kind,.string ⟨r.r.text.toArray⟩,.int .i64 r.r.n,.int .i64 r.r.at_,.int .i64 r.r.end_,.bool r.lay] 110)).alloc (.cells #[.int .i64 r.r.kind,.string ⟨r.r.text.toArray⟩,.int .i64 r.r.n,.int .i64 r.r.at_,.int .i64 r.r.end_,.bool r.lay] 110))
   have HB_2:Hid (Below w.heap.size w y1):=zq (by rw [HY1.out];exact (hB.alloc hB.size _).alloc (by have:=hB.size;simp;omega) _)
   have HT_2:Hid (Bk y1 w1.heap.size [.int .i64 r.r.kind,.string ⟨r.r.text.toArray⟩,.int .i64 r.r.n,.int .i64 r.r.at_,.int .i64 r.r.end_,.bool r.lay]):=zq (by rw [HY1.out];exact (Bk.new w1 [.int .i64 r.r.kind,.string ⟨r.r.text.toArray⟩,.int .i64 r.r.n,.int .i64 r.r.at_,.int .i64 r.r.end_,.bool r.lay] 110).al _)
   have HF_2:Hid (Bk y1 (w1.heap.size+1) [.int .i64 r.r.kind,.string ⟨r.r.text.toArray⟩,.int .i64 r.r.n,.int .i64 r.r.at_,.int .i64 r.r.end_,.bool r.lay]):=zq (by rw [HY1.out];have:=Bk.new (w1.alloc (.cells #[.int .i64 r.r.kind,.string ⟨r.r.text.toArray⟩,.int .i64 r.r.n,.int .i64 r.r.at_,.int .i64 r.r.end_,.bool r.lay] 110)) [.int .i64 r.r.kind,.string ⟨r.r.text.toArray⟩,.int .i64 r.r.n,.int .i64 r.r.at_,.int .i64 r.r.end_,.bool r.lay] 110;rwa [World.size_alloc] at this)
   have HGW:Hid (w.heap.size≤w1.heap.size):=zq hB.size
   clear hB HB_1
   go_upto_region 3 with fail
   rw [←HY1.out]
   clear HY1
   generalize w1.heap.size=g at *
   have fHT_2:=HT_2.out.all0
   simp only [bkAll,Nat.zero_add,Nat.reduceAdd,and_true] at fHT_2
   have fHF_2:=HF_2.out.all0
   simp only [bkAll,Nat.zero_add,Nat.reduceAdd,and_true] at fHF_2
   obtain ⟨d1,d2⟩:=DD.out
   clear DD
   skip
   go_wp2_with fail
   refine (HSY.out _ HR1.out.1 _).mono ?_;rintro e w8 ⟨xa,xc,rfl,hB,hN⟩
   have HB8:=bz HB_2 hB
   have HN8:=zq hN.tms
   clear hB hN
   go_wp2_with fail
   refine (HTH.out _ _ _ _ HN8.out).mono ?_;rintro e wt ⟨hBt,⟨At,ct,rfl,hTt⟩⟩
   exact ⟨rfl,HB8.out.trans (hBt.mono HB8.out.size),by rw [HE.out];exact ⟨At,ct,rfl,hTt⟩⟩
  ·have DD:=zq dd
   obtain ⟨d1,d2,d3⟩:=dd
   have HE:Hid (LA=.inl (bsT r.r.at_)):=zq (by rw [HL2.out,if_pos (.inr d3)])
   clear HL2 d1 d2 d3
   go_enter Tryz.func82,Tryz.ntmps82
   go_wp2_with fail
   refine (HNX.out _).mono ?_;rintro e w1 ⟨hB,(⟨_,rfl⟩ | ⟨h0,_⟩)⟩
   rotate_left
   ·exact absurd HE0.out h0
   have HB_1:=zq hB
   obtain ⟨y1,HY1⟩:=lz ((w1.alloc (.cells #[.int .i64 r.r.kind,.string ⟨r.r.text.toArray⟩,.int .i64 r.r.n,.int .i64 r.r.at_,.int .i64 r.r.end_,.bool r.lay] 110)).alloc (.cells #[.int .i64 r.r.kind,.string ⟨r.r.text.toArray⟩,.int .i64 r.r.n,.int .i64 r.r.at_,.int .i64 r.r.end_,.bool r.lay] 110))
   have HB_2:Hid (Below w.heap.size w y1):=zq (by rw [HY1.out];exact (hB.alloc hB.size _).alloc (by have:=hB.size;simp;omega) _)
   have HT_2:Hid (Bk y1 w1.heap.size [.int .i64 r.r.kind,.string ⟨r.r.text.toArray⟩,.int .i64 r.r.n,.int .i64 r.r.at_,.int .i64 r.r.end_,.bool r.lay]):=zq (by rw [HY1.out];exact (Bk.new w1 [.int .i64 r.r.kind,.string ⟨r.r.text.toArray⟩,.int .i64 r.r.n,.int .i64 r.r.at_,.int .i64 r.r.end_,.bool r.lay] 110).al _)
   have HF_2:Hid (Bk y1 (w1.heap.size+1) [.int .i64 r.r.kind,.string ⟨r.r.text.toArray⟩,.int .i64 r.r.n,.int .i64 r.r.at_,.int .i64 r.r.end_,.bool r.lay]):=zq (by rw [HY1.out];have:=Bk.new (w1.alloc (.cells #[.int .i64 r.r.kind,.string ⟨r.r.text.toArray⟩,.int .i64 r.r.n,.int .i64 r.r.at_,.int .i64 r.r.end_,.bool r.lay] 110)) [.int .i64 r.r.kind,.string ⟨r.r.text.toArray⟩,.int .i64 r.r.n,.int .i64 r.r.at_,.int .i64 r.r.end_,.bool r.lay] 110;rwa [World.size_alloc] at this)
   have HGW:Hid (w.heap.size≤w1.heap.size):=zq hB.size
   clear hB HB_1
   go_upto_region 3 with fail
   rw [←HY1.out]
   clear HY1
   generalize w1.heap.size=g at *
   have fHT_2:=HT_2.out.all0
   simp only [bkAll,Nat.zero_add,Nat.reduceAdd,and_true] at fHT_2
   have fHF_2:=HF_2.out.all0
   simp only [bkAll,Nat.zero_add,Nat.reduceAdd,and_true] at fHF_2
   obtain ⟨d1,d2,d3⟩:=DD.out
   clear DD
   skip
   go_wp2_with fail
   refine (HSY.out _ HR1.out.1 _).mono ?_;rintro e w8 ⟨xa,xc,rfl,hB,hN⟩
   have HB8:=bz HB_2 hB
   have HN8:=zq hN.tms
   clear hB hN
   go_wp2_with fail
   refine (HTH.out _ _ _ _ HN8.out).mono ?_;rintro e wt ⟨hBt,⟨At,ct,rfl,hTt⟩⟩
   exact ⟨rfl,HB8.out.trans (hBt.mono HB8.out.size),by rw [HE.out];exact ⟨At,ct,rfl,hTt⟩⟩
  ·have DD:=zq dd
   obtain ⟨d1,d2,d3,d4⟩:=dd
   have HE:Hid (LA=.inl (bsT r.r.end_)):=zq (by rw [HL2.out,if_neg (by omega),if_pos d4])
   clear HL2 d1 d2 d3 d4
   go_enter Tryz.func82,Tryz.ntmps82
   go_wp2_with fail
   refine (HNX.out _).mono ?_;rintro e w1 ⟨hB,(⟨_,rfl⟩ | ⟨h0,_⟩)⟩
   rotate_left
   ·exact absurd HE0.out h0
   have HB_1:=zq hB
   obtain ⟨y1,HY1⟩:=lz ((w1.alloc (.cells #[.int .i64 r.r.kind,.string ⟨r.r.text.toArray⟩,.int .i64 r.r.n,.int .i64 r.r.at_,.int .i64 r.r.end_,.bool r.lay] 110)).alloc (.cells #[.int .i64 r.r.kind,.string ⟨r.r.text.toArray⟩,.int .i64 r.r.n,.int .i64 r.r.at_,.int .i64 r.r.end_,.bool r.lay] 110))
   have HB_2:Hid (Below w.heap.size w y1):=zq (by rw [HY1.out];exact (hB.alloc hB.size _).alloc (by have:=hB.size;simp;omega) _)
   have HT_2:Hid (Bk y1 w1.heap.size [.int .i64 r.r.kind,.string ⟨r.r.text.toArray⟩,.int .i64 r.r.n,.int .i64 r.r.at_,.int .i64 r.r.end_,.bool r.lay]):=zq (by rw [HY1.out];exact (Bk.new w1 [.int .i64 r.r.kind,.string ⟨r.r.text.toArray⟩,.int .i64 r.r.n,.int .i64 r.r.at_,.int .i64 r.r.end_,.bool r.lay] 110).al _)
   have HF_2:Hid (Bk y1 (w1.heap.size+1) [.int .i64 r.r.kind,.string ⟨r.r.text.toArray⟩,.int .i64 r.r.n,.int .i64 r.r.at_,.int .i64 r.r.end_,.bool r.lay]):=zq (by rw [HY1.out];have:=Bk.new (w1.alloc (.cells #[.int .i64 r.r.kind,.string ⟨r.r.text.toArray⟩,.int .i64 r.r.n,.int .i64 r.r.at_,.int .i64 r.r.end_,.bool r.lay] 110)) [.int .i64 r.r.kind,.string ⟨r.r.text.toArray⟩,.int .i64 r.r.n,.int .i64 r.r.at_,.int .i64 r.r.end_,.bool r.lay] 110;rwa [World.size_alloc] at this)
   have HGW:Hid (w.heap.size≤w1.heap.size):=zq hB.size
   clear hB HB_1
   go_upto_region 3 with fail
   rw [←HY1.out]
   clear HY1
   generalize w1.heap.size=g at *
   have fHT_2:=HT_2.out.all0
   simp only [bkAll,Nat.zero_add,Nat.reduceAdd,and_true] at fHT_2
   have fHF_2:=HF_2.out.all0
   simp only [bkAll,Nat.zero_add,Nat.reduceAdd,and_true] at fHF_2
   obtain ⟨d1,d2,d3,d4⟩:=DD.out
   clear DD
   have d5:¬r.r.end_=(s.size:Int):=by rw [←HNS.out];exact d4
   clear d4
   skip
   go_wp2_with fail
   refine (HSY.out _ HR1.out.2 _).mono ?_;rintro e w8 ⟨xa,xc,rfl,hB,hN⟩
   have HB8:=bz HB_2 hB
   have HN8:=zq hN.tms
   clear hB hN
   go_wp2_with fail
   refine (HTH.out _ _ _ _ HN8.out).mono ?_;rintro e wt ⟨hBt,⟨At,ct,rfl,hTt⟩⟩
   exact ⟨rfl,HB8.out.trans (hBt.mono HB8.out.size),by rw [HE.out];exact ⟨At,ct,rfl,hTt⟩⟩
  ·have DD:=zq dd
   obtain ⟨d1,d2,d3,d4⟩:=dd
   have HE:Hid (LA=.inr r.r.n):=zq (by rw [HL2.out,if_neg (by omega),if_neg (fun h=>h d4)])
   clear HL2 d1 d2 d3 d4
   go_enter Tryz.func82,Tryz.ntmps82
   go_wp2_with fail
   refine (HNX.out _).mono ?_;rintro e w1 ⟨hB,(⟨_,rfl⟩ | ⟨h0,_⟩)⟩
   rotate_left
   ·exact absurd HE0.out h0
   have HB_1:=zq hB
   obtain ⟨y1,HY1⟩:=lz ((w1.alloc (.cells #[.int .i64 r.r.kind,.string ⟨r.r.text.toArray⟩,.int .i64 r.r.n,.int .i64 r.r.at_,.int .i64 r.r.end_,.bool r.lay] 110)).alloc (.cells #[.int .i64 r.r.kind,.string ⟨r.r.text.toArray⟩,.int .i64 r.r.n,.int .i64 r.r.at_,.int .i64 r.r.end_,.bool r.lay] 110))
   have HB_2:Hid (Below w.heap.size w y1):=zq (by rw [HY1.out];exact (hB.alloc hB.size _).alloc (by have:=hB.size;simp;omega) _)
   have HT_2:Hid (Bk y1 w1.heap.size [.int .i64 r.r.kind,.string ⟨r.r.text.toArray⟩,.int .i64 r.r.n,.int .i64 r.r.at_,.int .i64 r.r.end_,.bool r.lay]):=zq (by rw [HY1.out];exact (Bk.new w1 [.int .i64 r.r.kind,.string ⟨r.r.text.toArray⟩,.int .i64 r.r.n,.int .i64 r.r.at_,.int .i64 r.r.end_,.bool r.lay] 110).al _)
   have HF_2:Hid (Bk y1 (w1.heap.size+1) [.int .i64 r.r.kind,.string ⟨r.r.text.toArray⟩,.int .i64 r.r.n,.int .i64 r.r.at_,.int .i64 r.r.end_,.bool r.lay]):=zq (by rw [HY1.out];have:=Bk.new (w1.alloc (.cells #[.int .i64 r.r.kind,.string ⟨r.r.text.toArray⟩,.int .i64 r.r.n,.int .i64 r.r.at_,.int .i64 r.r.end_,.bool r.lay] 110)) [.int .i64 r.r.kind,.string ⟨r.r.text.toArray⟩,.int .i64 r.r.n,.int .i64 r.r.at_,.int .i64 r.r.end_,.bool r.lay] 110;rwa [World.size_alloc] at this)
   have HGW:Hid (w.heap.size≤w1.heap.size):=zq hB.size
   clear hB HB_1
   go_upto_region 3 with fail
   rw [←HY1.out]
   clear HY1
   generalize w1.heap.size=g at *
   have fHT_2:=HT_2.out.all0
   simp only [bkAll,Nat.zero_add,Nat.reduceAdd,and_true] at fHT_2
   have fHF_2:=HF_2.out.all0
   simp only [bkAll,Nat.zero_add,Nat.reduceAdd,and_true] at fHF_2
   obtain ⟨d1,d2,d3,d4⟩:=DD.out
   clear DD
   have d5:r.r.end_=(s.size:Int):=by rw [←HNS.out];exact d4
   clear d4
   go_wp2_with fail
   go_ret
   exact ⟨HB_2.out,by rw [HE.out];rfl⟩
 ·have HL2:Hid (LA=(if ¬q.r.err=0 then .inl (synA s q) else if ¬q.r.kind=4∨q.lay=true then .inl (bsT q.r.at_) else if ¬q.r.end_=ns then .inl (bsT q.r.end_) else .inr (wrap64 (-q.r.n)))):=zq (by rw [HL1.out,if_pos em])
  have EM:=zq em
  clear HL1 em
  rcases Decidable.em (q.r.err=0) with f0 | f0
  rotate_left
  ·have HE:Hid (LA=.inl (synA s q)):=zq (by rw [HL2.out,if_pos f0])
   have F0:=zq f0
   clear HL2 f0 HPQ
   go_enter Tryz.func82,Tryz.ntmps82
   go_wp2_with fail
   refine (HNX.out _).mono ?_;rintro e w1 ⟨hB,(⟨_,rfl⟩ | ⟨h0,_⟩)⟩
   rotate_left
   ·exact absurd HE0.out h0
   have HB_1:=zq hB
   obtain ⟨y1,HY1⟩:=lz ((w1.alloc (.cells #[.int .i64 r.r.kind,.string ⟨r.r.text.toArray⟩,.int .i64 r.r.n,.int .i64 r.r.at_,.int .i64 r.r.end_,.bool r.lay] 110)).alloc (.cells #[.int .i64 r.r.kind,.string ⟨r.r.text.toArray⟩,.int .i64 r.r.n,.int .i64 r.r.at_,.int .i64 r.r.end_,.bool r.lay] 110))
   have HB_2:Hid (Below w.heap.size w y1):=zq (by rw [HY1.out];exact (hB.alloc hB.size _).alloc (by have:=hB.size;simp;omega) _)
   have HT_2:Hid (Bk y1 w1.heap.size [.int .i64 r.r.kind,.string ⟨r.r.text.toArray⟩,.int .i64 r.r.n,.int .i64 r.r.at_,.int .i64 r.r.end_,.bool r.lay]):=zq (by rw [HY1.out];exact (Bk.new w1 [.int .i64 r.r.kind,.string ⟨r.r.text.toArray⟩,.int .i64 r.r.n,.int .i64 r.r.at_,.int .i64 r.r.end_,.bool r.lay] 110).al _)
   have HF_2:Hid (Bk y1 (w1.heap.size+1) [.int .i64 r.r.kind,.string ⟨r.r.text.toArray⟩,.int .i64 r.r.n,.int .i64 r.r.at_,.int .i64 r.r.end_,.bool r.lay]):=zq (by rw [HY1.out];have:=Bk.new (w1.alloc (.cells #[.int .i64 r.r.kind,.string ⟨r.r.text.toArray⟩,.int .i64 r.r.n,.int .i64 r.r.at_,.int .i64 r.r.end_,.bool r.lay] 110)) [.int .i64 r.r.kind,.string ⟨r.r.text.toArray⟩,.int .i64 r.r.n,.int .i64 r.r.at_,.int .i64 r.r.end_,.bool r.lay] 110;rwa [World.size_alloc] at this)
   have HGW:Hid (w.heap.size≤w1.heap.size):=zq hB.size
   clear hB HB_1
   go_upto_region 3 with fail
   rw [←HY1.out]
   clear HY1
   generalize w1.heap.size=g at *
   have fHT_2:=HT_2.out.all0
   simp only [bkAll,Nat.zero_add,Nat.reduceAdd,and_true] at fHT_2
   have fHF_2:=HF_2.out.all0
   simp only [bkAll,Nat.zero_add,Nat.reduceAdd,and_true] at fHF_2
   obtain ⟨d1,d2⟩:=EM.out
   have d3:(r.r.text==[45])=true:=by rw [d2];rfl
   clear EM d2
   go_wp2_with fail
   refine (HNQ.out _).mono ?_;rintro e w9 ⟨hB,(⟨h0,_⟩ | ⟨_,ht⟩)⟩
   ·exact absurd h0 F0.out
   ·obtain ⟨At,ct,rfl,hTt⟩:=ht
    exact ⟨rfl,HB_2.out.trans (hB.mono HB_2.out.size),by rw [HE.out];exact ⟨At,ct,rfl,hTt⟩⟩
  have HQ1:=zq (HPQ.out f0)
  have F0:=zq f0
  have HL3:Hid (LA=(if ¬q.r.kind=4∨q.lay=true then .inl (bsT q.r.at_) else if ¬q.r.end_=ns then .inl (bsT q.r.end_) else .inr (wrap64 (-q.r.n)))):=zq (by rw [HL2.out,if_neg (fun h=>h f0)])
  clear HL2 f0 HPQ
  have dd:(¬q.r.kind=4)∨(q.r.kind=4∧q.lay=true)∨(q.r.kind=4∧q.lay=false∧¬q.r.end_=ns)∨(q.r.kind=4∧q.lay=false∧q.r.end_=ns):=by
   rcases Decidable.em (q.r.kind=4) with h | h
   ·rcases Decidable.em (q.r.end_=ns) with k | k
    ·cases hl:q.lay
     ·exact .inr (.inr (.inr ⟨h,rfl,k⟩))
     ·exact .inr (.inl ⟨h,rfl⟩)
    ·cases hl:q.lay
     ·exact .inr (.inr (.inl ⟨h,rfl,k⟩))
     ·exact .inr (.inl ⟨h,rfl⟩)
   ·exact .inl h
  rcases dd with dd | dd | dd | dd
  ·have DD:=zq dd
   have HE:Hid (LA=.inl (bsT q.r.at_)):=zq (by rw [HL3.out,if_pos (.inl dd)])
   clear HL3 dd
   go_enter Tryz.func82,Tryz.ntmps82
   go_wp2_with fail
   refine (HNX.out _).mono ?_;rintro e w1 ⟨hB,(⟨_,rfl⟩ | ⟨h0,_⟩)⟩
   rotate_left
   ·exact absurd HE0.out h0
   have HB_1:=zq hB
   obtain ⟨y1,HY1⟩:=lz ((w1.alloc (.cells #[.int .i64 r.r.kind,.string ⟨r.r.text.toArray⟩,.int .i64 r.r.n,.int .i64 r.r.at_,.int .i64 r.r.end_,.bool r.lay] 110)).alloc (.cells #[.int .i64 r.r.kind,.string ⟨r.r.text.toArray⟩,.int .i64 r.r.n,.int .i64 r.r.at_,.int .i64 r.r.end_,.bool r.lay] 110))
   have HB_2:Hid (Below w.heap.size w y1):=zq (by rw [HY1.out];exact (hB.alloc hB.size _).alloc (by have:=hB.size;simp;omega) _)
   have HT_2:Hid (Bk y1 w1.heap.size [.int .i64 r.r.kind,.string ⟨r.r.text.toArray⟩,.int .i64 r.r.n,.int .i64 r.r.at_,.int .i64 r.r.end_,.bool r.lay]):=zq (by rw [HY1.out];exact (Bk.new w1 [.int .i64 r.r.kind,.string ⟨r.r.text.toArray⟩,.int .i64 r.r.n,.int .i64 r.r.at_,.int .i64 r.r.end_,.bool r.lay] 110).al _)
   have HF_2:Hid (Bk y1 (w1.heap.size+1) [.int .i64 r.r.kind,.string ⟨r.r.text.toArray⟩,.int .i64 r.r.n,.int .i64 r.r.at_,.int .i64 r.r.end_,.bool r.lay]):=zq (by rw [HY1.out];have:=Bk.new (w1.alloc (.cells #[.int .i64 r.r.kind,.string ⟨r.r.text.toArray⟩,.int .i64 r.r.n,.int .i64 r.r.at_,.int .i64 r.r.end_,.bool r.lay] 110)) [.int .i64 r.r.kind,.string ⟨r.r.text.toArray⟩,.int .i64 r.r.n,.int .i64 r.r.at_,.int .i64 r.r.end_,.bool r.lay] 110;rwa [World.size_alloc] at this)
   have HGW:Hid (w.heap.size≤w1.heap.size):=zq hB.size
   clear hB HB_1
   go_upto_region 3 with fail
   rw [←HY1.out]
   clear HY1
   generalize w1.heap.size=g at *
   have fHT_2:=HT_2.out.all0
   simp only [bkAll,Nat.zero_add,Nat.reduceAdd,and_true] at fHT_2
   have fHF_2:=HF_2.out.all0
   simp only [bkAll,Nat.zero_add,Nat.reduceAdd,and_true] at fHF_2
   obtain ⟨d1,d2⟩:=EM.out
   have d3:(r.r.text==[45])=true:=by rw [d2];rfl
   clear EM d2
   go_wp2_with fail
   refine (HNQ.out _).mono ?_;rintro e w9 ⟨hB,(⟨_,rfl⟩ | ⟨h0,_⟩)⟩
   rotate_left
   ·exact absurd F0.out h0
   have HB_9:=bz HB_2 hB
   have HK_9:Hid (Bks w9 [(g,[.int .i64 r.r.kind,.string ⟨r.r.text.toArray⟩,.int .i64 r.r.n,.int .i64 r.r.at_,.int .i64 r.r.end_,.bool r.lay])]):=zq ⟨fun x hx=>by rw [List.mem_singleton] at hx;subst hx;exact HT_2.out.call hB,List.pairwise_singleton _ _⟩
   have HF_9:=zq (HF_2.out.call hB)
   clear hB HB_2 HT_2 HF_2 fHT_2 fHF_2
   have tt:=HK_9.out.all
   simp only [bksAll,bkAll,Nat.zero_add,Nat.reduceAdd,and_true] at tt
   have hk:=HK_9.out.put 0 (g:=g) (vs:=[.int .i64 r.r.kind,.string ⟨r.r.text.toArray⟩,.int .i64 r.r.n,.int .i64 r.r.at_,.int .i64 r.r.end_,.bool r.lay]) rfl [.int .i64 q.r.kind,.string ⟨q.r.text.toArray⟩,.int .i64 q.r.n,.int .i64 q.r.at_,.int .i64 q.r.end_,.bool q.lay] rfl
   have hb:=setL_below (B:=w.heap.size) (g:=g) HGW.out [.int .i64 q.r.kind,.string ⟨q.r.text.toArray⟩,.int .i64 q.r.n,.int .i64 q.r.at_,.int .i64 q.r.end_,.bool q.lay] w9 0 HB_9.out
   obtain ⟨wz,HWZ⟩:=lz (setL w9 g 0 [.int .i64 q.r.kind,.string ⟨q.r.text.toArray⟩,.int .i64 q.r.n,.int .i64 q.r.at_,.int .i64 q.r.end_,.bool q.lay])
   have HFZ:Hid (Bk wz (g+1) [.int .i64 r.r.kind,.string ⟨r.r.text.toArray⟩,.int .i64 r.r.n,.int .i64 r.r.at_,.int .i64 r.r.end_,.bool r.lay]):=zq (HF_9.out.keeps (by rw [HWZ.out];exact setL_other (by omega) _ _ _))
   rw [←HWZ.out] at hk hb
   have hz:=HWZ.out
   simp only [setL,Nat.zero_add,Nat.reduceAdd] at hz
   have HWY:=zq hz
   have HKZ:=zq hk
   have HBZ:=zq hb
   clear hz hk hb HWZ HK_9 HF_9 HB_9
   go_upto_region 6 with fail
   rw [←HWY.out]
   clear HWY tt d1 d3
   have cz:=HKZ.out.all
   simp only [bksAll,bkAll,Nat.zero_add,Nat.reduceAdd,and_true,List.set_cons_zero] at cz
   have d1:=DD.out
   clear DD
   go_wp2_with fail
   refine (HSY.out _ HQ1.out.1 _).mono ?_;rintro e w8 ⟨xa,xc,rfl,hB,hN⟩
   have HB8:=bz HBZ hB
   have HN8:=zq hN.tms
   clear hB hN
   go_wp2_with fail
   refine (HTH.out _ _ _ _ HN8.out).mono ?_;rintro e wt ⟨hBt,⟨At,ct,rfl,hTt⟩⟩
   exact ⟨rfl,HB8.out.trans (hBt.mono HB8.out.size),by rw [HE.out];exact ⟨At,ct,rfl,hTt⟩⟩
  ·have DD:=zq dd
   obtain ⟨d1,d2⟩:=dd
   have HE:Hid (LA=.inl (bsT q.r.at_)):=zq (by rw [HL3.out,if_pos (.inr d2)])
   clear HL3 d1 d2
   go_enter Tryz.func82,Tryz.ntmps82
   go_wp2_with fail
   refine (HNX.out _).mono ?_;rintro e w1 ⟨hB,(⟨_,rfl⟩ | ⟨h0,_⟩)⟩
   rotate_left
   ·exact absurd HE0.out h0
   have HB_1:=zq hB
   obtain ⟨y1,HY1⟩:=lz ((w1.alloc (.cells #[.int .i64 r.r.kind,.string ⟨r.r.text.toArray⟩,.int .i64 r.r.n,.int .i64 r.r.at_,.int .i64 r.r.end_,.bool r.lay] 110)).alloc (.cells #[.int .i64 r.r.kind,.string ⟨r.r.text.toArray⟩,.int .i64 r.r.n,.int .i64 r.r.at_,.int .i64 r.r.end_,.bool r.lay] 110))
   have HB_2:Hid (Below w.heap.size w y1):=zq (by rw [HY1.out];exact (hB.alloc hB.size _).alloc (by have:=hB.size;simp;omega) _)
   have HT_2:Hid (Bk y1 w1.heap.size [.int .i64 r.r.kind,.string ⟨r.r.text.toArray⟩,.int .i64 r.r.n,.int .i64 r.r.at_,.int .i64 r.r.end_,.bool r.lay]):=zq (by rw [HY1.out];exact (Bk.new w1 [.int .i64 r.r.kind,.string ⟨r.r.text.toArray⟩,.int .i64 r.r.n,.int .i64 r.r.at_,.int .i64 r.r.end_,.bool r.lay] 110).al _)
   have HF_2:Hid (Bk y1 (w1.heap.size+1) [.int .i64 r.r.kind,.string ⟨r.r.text.toArray⟩,.int .i64 r.r.n,.int .i64 r.r.at_,.int .i64 r.r.end_,.bool r.lay]):=zq (by rw [HY1.out];have:=Bk.new (w1.alloc (.cells #[.int .i64 r.r.kind,.string ⟨r.r.text.toArray⟩,.int .i64 r.r.n,.int .i64 r.r.at_,.int .i64 r.r.end_,.bool r.lay] 110)) [.int .i64 r.r.kind,.string ⟨r.r.text.toArray⟩,.int .i64 r.r.n,.int .i64 r.r.at_,.int .i64 r.r.end_,.bool r.lay] 110;rwa [World.size_alloc] at this)
   have HGW:Hid (w.heap.size≤w1.heap.size):=zq hB.size
   clear hB HB_1
   go_upto_region 3 with fail
   rw [←HY1.out]
   clear HY1
   generalize w1.heap.size=g at *
   have fHT_2:=HT_2.out.all0
   simp only [bkAll,Nat.zero_add,Nat.reduceAdd,and_true] at fHT_2
   have fHF_2:=HF_2.out.all0
   simp only [bkAll,Nat.zero_add,Nat.reduceAdd,and_true] at fHF_2
   obtain ⟨d1,d2⟩:=EM.out
   have d3:(r.r.text==[45])=true:=by rw [d2];rfl
   clear EM d2
   go_wp2_with fail
   refine (HNQ.out _).mono ?_;rintro e w9 ⟨hB,(⟨_,rfl⟩ | ⟨h0,_⟩)⟩
   rotate_left
   ·exact absurd F0.out h0
   have HB_9:=bz HB_2 hB
   have HK_9:Hid (Bks w9 [(g,[.int .i64 r.r.kind,.string ⟨r.r.text.toArray⟩,.int .i64 r.r.n,.int .i64 r.r.at_,.int .i64 r.r.end_,.bool r.lay])]):=zq ⟨fun x hx=>by rw [List.mem_singleton] at hx;subst hx;exact HT_2.out.call hB,List.pairwise_singleton _ _⟩
   have HF_9:=zq (HF_2.out.call hB)
   clear hB HB_2 HT_2 HF_2 fHT_2 fHF_2
   have tt:=HK_9.out.all
   simp only [bksAll,bkAll,Nat.zero_add,Nat.reduceAdd,and_true] at tt
   have hk:=HK_9.out.put 0 (g:=g) (vs:=[.int .i64 r.r.kind,.string ⟨r.r.text.toArray⟩,.int .i64 r.r.n,.int .i64 r.r.at_,.int .i64 r.r.end_,.bool r.lay]) rfl [.int .i64 q.r.kind,.string ⟨q.r.text.toArray⟩,.int .i64 q.r.n,.int .i64 q.r.at_,.int .i64 q.r.end_,.bool q.lay] rfl
   have hb:=setL_below (B:=w.heap.size) (g:=g) HGW.out [.int .i64 q.r.kind,.string ⟨q.r.text.toArray⟩,.int .i64 q.r.n,.int .i64 q.r.at_,.int .i64 q.r.end_,.bool q.lay] w9 0 HB_9.out
   obtain ⟨wz,HWZ⟩:=lz (setL w9 g 0 [.int .i64 q.r.kind,.string ⟨q.r.text.toArray⟩,.int .i64 q.r.n,.int .i64 q.r.at_,.int .i64 q.r.end_,.bool q.lay])
   have HFZ:Hid (Bk wz (g+1) [.int .i64 r.r.kind,.string ⟨r.r.text.toArray⟩,.int .i64 r.r.n,.int .i64 r.r.at_,.int .i64 r.r.end_,.bool r.lay]):=zq (HF_9.out.keeps (by rw [HWZ.out];exact setL_other (by omega) _ _ _))
   rw [←HWZ.out] at hk hb
   have hz:=HWZ.out
   simp only [setL,Nat.zero_add,Nat.reduceAdd] at hz
   have HWY:=zq hz
   have HKZ:=zq hk
   have HBZ:=zq hb
   clear hz hk hb HWZ HK_9 HF_9 HB_9
   go_upto_region 6 with fail
   rw [←HWY.out]
   clear HWY tt d1 d3
   have cz:=HKZ.out.all
   simp only [bksAll,bkAll,Nat.zero_add,Nat.reduceAdd,and_true,List.set_cons_zero] at cz
   obtain ⟨d1,d2⟩:=DD.out
   clear DD
   go_wp2_with fail
   refine (HSY.out _ HQ1.out.1 _).mono ?_;rintro e w8 ⟨xa,xc,rfl,hB,hN⟩
   have HB8:=bz HBZ hB
   have HN8:=zq hN.tms
   clear hB hN
   go_wp2_with fail
   refine (HTH.out _ _ _ _ HN8.out).mono ?_;rintro e wt ⟨hBt,⟨At,ct,rfl,hTt⟩⟩
   exact ⟨rfl,HB8.out.trans (hBt.mono HB8.out.size),by rw [HE.out];exact ⟨At,ct,rfl,hTt⟩⟩
  ·have DD:=zq dd
   obtain ⟨d1,d2,d4⟩:=dd
   have HE:Hid (LA=.inl (bsT q.r.end_)):=zq (by rw [HL3.out,if_neg (by rw [d1,d2];simp),if_pos d4])
   clear HL3 d1 d2 d4
   go_enter Tryz.func82,Tryz.ntmps82
   go_wp2_with fail
   refine (HNX.out _).mono ?_;rintro e w1 ⟨hB,(⟨_,rfl⟩ | ⟨h0,_⟩)⟩
   rotate_left
   ·exact absurd HE0.out h0
   have HB_1:=zq hB
   obtain ⟨y1,HY1⟩:=lz ((w1.alloc (.cells #[.int .i64 r.r.kind,.string ⟨r.r.text.toArray⟩,.int .i64 r.r.n,.int .i64 r.r.at_,.int .i64 r.r.end_,.bool r.lay] 110)).alloc (.cells #[.int .i64 r.r.kind,.string ⟨r.r.text.toArray⟩,.int .i64 r.r.n,.int .i64 r.r.at_,.int .i64 r.r.end_,.bool r.lay] 110))
   have HB_2:Hid (Below w.heap.size w y1):=zq (by rw [HY1.out];exact (hB.alloc hB.size _).alloc (by have:=hB.size;simp;omega) _)
   have HT_2:Hid (Bk y1 w1.heap.size [.int .i64 r.r.kind,.string ⟨r.r.text.toArray⟩,.int .i64 r.r.n,.int .i64 r.r.at_,.int .i64 r.r.end_,.bool r.lay]):=zq (by rw [HY1.out];exact (Bk.new w1 [.int .i64 r.r.kind,.string ⟨r.r.text.toArray⟩,.int .i64 r.r.n,.int .i64 r.r.at_,.int .i64 r.r.end_,.bool r.lay] 110).al _)
   have HF_2:Hid (Bk y1 (w1.heap.size+1) [.int .i64 r.r.kind,.string ⟨r.r.text.toArray⟩,.int .i64 r.r.n,.int .i64 r.r.at_,.int .i64 r.r.end_,.bool r.lay]):=zq (by rw [HY1.out];have:=Bk.new (w1.alloc (.cells #[.int .i64 r.r.kind,.string ⟨r.r.text.toArray⟩,.int .i64 r.r.n,.int .i64 r.r.at_,.int .i64 r.r.end_,.bool r.lay] 110)) [.int .i64 r.r.kind,.string ⟨r.r.text.toArray⟩,.int .i64 r.r.n,.int .i64 r.r.at_,.int .i64 r.r.end_,.bool r.lay] 110;rwa [World.size_alloc] at this)
   have HGW:Hid (w.heap.size≤w1.heap.size):=zq hB.size
   clear hB HB_1
   go_upto_region 3 with fail
   rw [←HY1.out]
   clear HY1
   generalize w1.heap.size=g at *
   have fHT_2:=HT_2.out.all0
   simp only [bkAll,Nat.zero_add,Nat.reduceAdd,and_true] at fHT_2
   have fHF_2:=HF_2.out.all0
   simp only [bkAll,Nat.zero_add,Nat.reduceAdd,and_true] at fHF_2
   obtain ⟨d1,d2⟩:=EM.out
   have d3:(r.r.text==[45])=true:=by rw [d2];rfl
   clear EM d2
   go_wp2_with fail
   refine (HNQ.out _).mono ?_;rintro e w9 ⟨hB,(⟨_,rfl⟩ | ⟨h0,_⟩)⟩
   rotate_left
   ·exact absurd F0.out h0
   have HB_9:=bz HB_2 hB
   have HK_9:Hid (Bks w9 [(g,[.int .i64 r.r.kind,.string ⟨r.r.text.toArray⟩,.int .i64 r.r.n,.int .i64 r.r.at_,.int .i64 r.r.end_,.bool r.lay])]):=zq ⟨fun x hx=>by rw [List.mem_singleton] at hx;subst hx;exact HT_2.out.call hB,List.pairwise_singleton _ _⟩
   have HF_9:=zq (HF_2.out.call hB)
   clear hB HB_2 HT_2 HF_2 fHT_2 fHF_2
   have tt:=HK_9.out.all
   simp only [bksAll,bkAll,Nat.zero_add,Nat.reduceAdd,and_true] at tt
   have hk:=HK_9.out.put 0 (g:=g) (vs:=[.int .i64 r.r.kind,.string ⟨r.r.text.toArray⟩,.int .i64 r.r.n,.int .i64 r.r.at_,.int .i64 r.r.end_,.bool r.lay]) rfl [.int .i64 q.r.kind,.string ⟨q.r.text.toArray⟩,.int .i64 q.r.n,.int .i64 q.r.at_,.int .i64 q.r.end_,.bool q.lay] rfl
   have hb:=setL_below (B:=w.heap.size) (g:=g) HGW.out [.int .i64 q.r.kind,.string ⟨q.r.text.toArray⟩,.int .i64 q.r.n,.int .i64 q.r.at_,.int .i64 q.r.end_,.bool q.lay] w9 0 HB_9.out
   obtain ⟨wz,HWZ⟩:=lz (setL w9 g 0 [.int .i64 q.r.kind,.string ⟨q.r.text.toArray⟩,.int .i64 q.r.n,.int .i64 q.r.at_,.int .i64 q.r.end_,.bool q.lay])
   have HFZ:Hid (Bk wz (g+1) [.int .i64 r.r.kind,.string ⟨r.r.text.toArray⟩,.int .i64 r.r.n,.int .i64 r.r.at_,.int .i64 r.r.end_,.bool r.lay]):=zq (HF_9.out.keeps (by rw [HWZ.out];exact setL_other (by omega) _ _ _))
   rw [←HWZ.out] at hk hb
   have hz:=HWZ.out
   simp only [setL,Nat.zero_add,Nat.reduceAdd] at hz
   have HWY:=zq hz
   have HKZ:=zq hk
   have HBZ:=zq hb
   clear hz hk hb HWZ HK_9 HF_9 HB_9
   go_upto_region 6 with fail
   rw [←HWY.out]
   clear HWY tt d1 d3
   have cz:=HKZ.out.all
   simp only [bksAll,bkAll,Nat.zero_add,Nat.reduceAdd,and_true,List.set_cons_zero] at cz
   obtain ⟨d1,d2,d4⟩:=DD.out
   clear DD
   have d5:¬q.r.end_=(s.size:Int):=by rw [←HNS.out];exact d4
   clear d4
   go_wp2_with fail
   refine (HSY.out _ HQ1.out.2 _).mono ?_;rintro e w8 ⟨xa,xc,rfl,hB,hN⟩
   have HB8:=bz HBZ hB
   have HN8:=zq hN.tms
   clear hB hN
   go_wp2_with fail
   refine (HTH.out _ _ _ _ HN8.out).mono ?_;rintro e wt ⟨hBt,⟨At,ct,rfl,hTt⟩⟩
   exact ⟨rfl,HB8.out.trans (hBt.mono HB8.out.size),by rw [HE.out];exact ⟨At,ct,rfl,hTt⟩⟩
  ·have DD:=zq dd
   obtain ⟨d1,d2,d4⟩:=dd
   have HE:Hid (LA=.inr (wrap64 (-q.r.n))):=zq (by rw [HL3.out,if_neg (by rw [d1,d2];simp),if_neg (fun h=>h d4)])
   clear HL3 d1 d2 d4
   go_enter Tryz.func82,Tryz.ntmps82
   go_wp2_with fail
   refine (HNX.out _).mono ?_;rintro e w1 ⟨hB,(⟨_,rfl⟩ | ⟨h0,_⟩)⟩
   rotate_left
   ·exact absurd HE0.out h0
   have HB_1:=zq hB
   obtain ⟨y1,HY1⟩:=lz ((w1.alloc (.cells #[.int .i64 r.r.kind,.string ⟨r.r.text.toArray⟩,.int .i64 r.r.n,.int .i64 r.r.at_,.int .i64 r.r.end_,.bool r.lay] 110)).alloc (.cells #[.int .i64 r.r.kind,.string ⟨r.r.text.toArray⟩,.int .i64 r.r.n,.int .i64 r.r.at_,.int .i64 r.r.end_,.bool r.lay] 110))
   have HB_2:Hid (Below w.heap.size w y1):=zq (by rw [HY1.out];exact (hB.alloc hB.size _).alloc (by have:=hB.size;simp;omega) _)
   have HT_2:Hid (Bk y1 w1.heap.size [.int .i64 r.r.kind,.string ⟨r.r.text.toArray⟩,.int .i64 r.r.n,.int .i64 r.r.at_,.int .i64 r.r.end_,.bool r.lay]):=zq (by rw [HY1.out];exact (Bk.new w1 [.int .i64 r.r.kind,.string ⟨r.r.text.toArray⟩,.int .i64 r.r.n,.int .i64 r.r.at_,.int .i64 r.r.end_,.bool r.lay] 110).al _)
   have HF_2:Hid (Bk y1 (w1.heap.size+1) [.int .i64 r.r.kind,.string ⟨r.r.text.toArray⟩,.int .i64 r.r.n,.int .i64 r.r.at_,.int .i64 r.r.end_,.bool r.lay]):=zq (by rw [HY1.out];have:=Bk.new (w1.alloc (.cells #[.int .i64 r.r.kind,.string ⟨r.r.text.toArray⟩,.int .i64 r.r.n,.int .i64 r.r.at_,.int .i64 r.r.end_,.bool r.lay] 110)) [.int .i64 r.r.kind,.string ⟨r.r.text.toArray⟩,.int .i64 r.r.n,.int .i64 r.r.at_,.int .i64 r.r.end_,.bool r.lay] 110;rwa [World.size_alloc] at this)
   have HGW:Hid (w.heap.size≤w1.heap.size):=zq hB.size
   clear hB HB_1
   go_upto_region 3 with fail
   rw [←HY1.out]
   clear HY1
   generalize w1.heap.size=g at *
   have fHT_2:=HT_2.out.all0
   simp only [bkAll,Nat.zero_add,Nat.reduceAdd,and_true] at fHT_2
   have fHF_2:=HF_2.out.all0
   simp only [bkAll,Nat.zero_add,Nat.reduceAdd,and_true] at fHF_2
   obtain ⟨d1,d2⟩:=EM.out
   have d3:(r.r.text==[45])=true:=by rw [d2];rfl
   clear EM d2
   go_wp2_with fail
   refine (HNQ.out _).mono ?_;rintro e w9 ⟨hB,(⟨_,rfl⟩ | ⟨h0,_⟩)⟩
   rotate_left
   ·exact absurd F0.out h0
   have HB_9:=bz HB_2 hB
   have HK_9:Hid (Bks w9 [(g,[.int .i64 r.r.kind,.string ⟨r.r.text.toArray⟩,.int .i64 r.r.n,.int .i64 r.r.at_,.int .i64 r.r.end_,.bool r.lay])]):=zq ⟨fun x hx=>by rw [List.mem_singleton] at hx;subst hx;exact HT_2.out.call hB,List.pairwise_singleton _ _⟩
   have HF_9:=zq (HF_2.out.call hB)
   clear hB HB_2 HT_2 HF_2 fHT_2 fHF_2
   have tt:=HK_9.out.all
   simp only [bksAll,bkAll,Nat.zero_add,Nat.reduceAdd,and_true] at tt
   have hk:=HK_9.out.put 0 (g:=g) (vs:=[.int .i64 r.r.kind,.string ⟨r.r.text.toArray⟩,.int .i64 r.r.n,.int .i64 r.r.at_,.int .i64 r.r.end_,.bool r.lay]) rfl [.int .i64 q.r.kind,.string ⟨q.r.text.toArray⟩,.int .i64 q.r.n,.int .i64 q.r.at_,.int .i64 q.r.end_,.bool q.lay] rfl
   have hb:=setL_below (B:=w.heap.size) (g:=g) HGW.out [.int .i64 q.r.kind,.string ⟨q.r.text.toArray⟩,.int .i64 q.r.n,.int .i64 q.r.at_,.int .i64 q.r.end_,.bool q.lay] w9 0 HB_9.out
   obtain ⟨wz,HWZ⟩:=lz (setL w9 g 0 [.int .i64 q.r.kind,.string ⟨q.r.text.toArray⟩,.int .i64 q.r.n,.int .i64 q.r.at_,.int .i64 q.r.end_,.bool q.lay])
   have HFZ:Hid (Bk wz (g+1) [.int .i64 r.r.kind,.string ⟨r.r.text.toArray⟩,.int .i64 r.r.n,.int .i64 r.r.at_,.int .i64 r.r.end_,.bool r.lay]):=zq (HF_9.out.keeps (by rw [HWZ.out];exact setL_other (by omega) _ _ _))
   rw [←HWZ.out] at hk hb
   have hz:=HWZ.out
   simp only [setL,Nat.zero_add,Nat.reduceAdd] at hz
   have HWY:=zq hz
   have HKZ:=zq hk
   have HBZ:=zq hb
   clear hz hk hb HWZ HK_9 HF_9 HB_9
   go_upto_region 6 with fail
   rw [←HWY.out]
   clear HWY tt d1 d3
   have cz:=HKZ.out.all
   simp only [bksAll,bkAll,Nat.zero_add,Nat.reduceAdd,and_true,List.set_cons_zero] at cz
   obtain ⟨d1,d2,d4⟩:=DD.out
   clear DD
   have d5:q.r.end_=(s.size:Int):=by rw [←HNS.out];exact d4
   clear d4
   go_wp2_with fail
   go_ret
   exact ⟨HBZ.out,by rw [HE.out];rfl⟩
end Go.Proofs.YtpokpgkjaifccaaGreatDoorRR
namespace Go.Proofs.YtpokpgkjaifccaaGreatDoorRR
open Go.ChangeShapes Go.WideShapes Go.ChangeAt Go.RowKit
set_option maxRecDepth 100000
theorem ownDoor:ownKnob Tryz.prog.godebug=none:=by kernel_rfl
theorem laidOutDoor:laidOutB Tryz.prog=true:=by kernel_rfl
def laid3 : List (String × DataW Unit) := [("math/bits.deBruijn32tab", Rows.laid_math_bits_deBruijn32tab), ("math/bits.deBruijn64tab", Rows.laid_math_bits_deBruijn64tab), ("internal/strconv.uint64pow10", Rows.laid_internal_strconv_uint64pow10)]
theorem door_met (os:Os) (args:Array Value):laidMetH Tryz.prog laid3 ((World.doorLaid Tryz.prog 400 os).forCall (fun _ _=>0) ⟨#[],args,[]⟩).memory :=
 laidMetH_of_parts3 (fuel:=8) (laidMet_of_run' 8 (by kernel_rfl) (by kernel_rfl)) (by kernel_rfl) (by kernel_rfl)
def tab64:List Int:=[0,1,56,2,57,49,28,3,61,58,42,50,38,29,17,4,62,47,59,36,45,43,51,22,53,39,33,30,24,18,12,5,63,55,48,27,60,41,37,16,46,35,44,21,52,32,23,11,54,26,40,15,34,20,31,10,25,14,19,9,13,8,7,6]
theorem g64 : Tryz.prog.globalNamed "math/bits.deBruijn64tab" = some 2 := by kernel_rfl
theorem g64t:(Tryz.prog.globals[2]?).map (·.type)=some 119:=by kernel_rfl
theorem g10 : Tryz.prog.globalNamed "internal/strconv.uint64pow10" = some 0 := by kernel_rfl
theorem g10t:(Tryz.prog.globals[0]?).map (·.type)=some 93:=by kernel_rfl
theorem c8:Tryz.prog.cellsOf 5=1:=by kernel_rfl
theorem c64a:Tryz.prog.cellsOf 119=64:=by kernel_rfl
theorem cu64:Tryz.prog.cellsOf 77=1:=by kernel_rfl
theorem c20a:Tryz.prog.cellsOf 93=20:=by kernel_rfl
structure DoorOk (W:World):Prop where
 lt:2<W.heap.size
 c15:W.cell? ⟨2,15,none⟩=some (.int .u8 4)
 pow : Lib.TabIs Tryz.prog W "internal/strconv.uint64pow10" .u64 Lib.pow10Tab
theorem door_of {W:World} (h:laidMetH Tryz.prog laid3 W):DoorOk W:=by
 rw [MakeChecks.laidMetH_plain _ _ _ (by kernel_rfl)] at h
 have h1:=laidMet.tail h
 have h2:=laidMet.tail h1
 have hT:=Lib.tabIs_of_head (k:=.u8) (zs:=tab64) g64 g64t Tryz.underlying119 Tryz.underlying5 c8 c64a h1
 have hP:=Lib.tabIs_of_head (k:=.u64) (zs:=Lib.pow10Tab) g10 g10t Tryz.underlying93 Tryz.underlying77 cu64 c20a h2
 have hc:W.cell? ⟨2,15,none⟩=some (.int .u8 4):=hT.cell g64 15 (by decide)
 exact ⟨World.block_lt_of_cell? W ⟨_,15,none⟩ hc,hc,hP⟩
theorem DoorOk.below {W W':World} (h:DoorOk W) (hB:Below W.heap.size W W'):DoorOk W' :=
 ⟨Nat.lt_of_lt_of_le h.lt hB.size,(hB.cell (p:=⟨_,15,none⟩) h.lt).trans h.c15,Joins.tab_stays g10 h.pow hB (Nat.le_refl _)⟩
end Go.Proofs.YtpokpgkjaifccaaGreatDoorRR
