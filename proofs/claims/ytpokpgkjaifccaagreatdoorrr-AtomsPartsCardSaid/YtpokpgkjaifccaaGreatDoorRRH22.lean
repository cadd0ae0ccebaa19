/- Parts of the proof. -/
import Derived.Test.YtpokpgkjaifccaaGreatDoorRRH01
import Derived.Test.YtpokpgkjaifccaaGreatDoorRRH21
import Derived.Test.YtpokpgkjaifccaaGreatDoorRRH02
import Derived.WalkMore
import Derived.Deep.LoopGhost
namespace Go.Proofs.YtpokpgkjaifccaaGreatDoorRR
open Go.RowKit Hb
set_option maxRecDepth 100000
set_option maxHeartbeats 400000 in
theorem lex_digits (b:Nat) (s:ByteArray) (tab:Int→Int) (at_ i base:Int) (w:World) (h:Lex w b s tab at_) (h0:0≤i) :
  Calls Tryz.prog 128 #[.pointer (some ⟨b,0,none⟩),.int .i64 i,.int .i64 base] w fun e w'=>e=.returned (.int .i64 (i+span (isDig base) ((cvt tab s.data.toList).drop i.toNat)))∧Below w.heap.size w w':=by
 have HA:=(Below.refl w.heap.size w).alloc (Nat.le_refl _) (.cells #[.int .i64 base] 3)
 have L:=zq (h.below HA h.lt)
 clear h
 go_enter Tryz.func128,Tryz.ntmps128
 go_wp2_with fail
 refine (run_dig b s tab at_ i base w.heap.size _ L.out h0 (by simp) (by simp)).mono ?_;rintro e w1 ⟨rfl,hB⟩
 go_wp2_with fail
 go_ret
 exact ⟨ret_int rfl,HA.trans (hB.mono (by simp))⟩
theorem parse_ok (base:Int) (ds:List UInt8) (h:natOf base ds≤9223372036854775808):parseN base ds=-(natOf base ds:Int)∧parseE base ds=0:=by unfold parseN parseE;rw [if_pos h,if_pos h];exact ⟨rfl,rfl⟩
theorem parse_no (base:Int) (ds:List UInt8) (h:¬natOf base ds≤9223372036854775808):parseN base ds=0∧parseE base ds=10:=by unfold parseN parseE;rw [if_neg h,if_neg h];exact ⟨rfl,rfl⟩
set_option maxHeartbeats 800000 in
theorem lex_integer (b:Nat) (s:ByteArray) (tab:Int→Int) (p base end_:Int) (t:List UInt8) (w:World) (h:Lex w b s tab p) (hne:0<t.length) (hsz:t.length≤16384) (h0:2≤base) (h1:base≤36)
  (hok:∀k,k<t.length→dgt (bAt t k)<base) :
  Calls Tryz.prog 129 #[.pointer (some ⟨b,0,none⟩),.string ⟨t.toArray⟩,.int .i64 base,.int .i64 end_] w fun e w'=>Gives (intR base t p end_) e∧Below w.heap.size w w':=by
 have H0:=Held.start h
 have hlt:=h.lt
 have ca:=h.ca
 clear h
 have HOK:=zq hok
 clear hok
 by_cases hn:natOf base t≤9223372036854775808
 ·have HP:=zq (parse_ok base t hn)
  by_cases hm:natOf base t=9223372036854775808
  ·have HR:=zq (show intR base t p end_=⟨4,[],-9223372036854775808,p,end_,0⟩ by unfold intR;rw [if_pos hn,if_pos hm])
   have HM:=zq hm
   clear hn hm
   go_enter Tryz.func129,Tryz.ntmps129
   go_wp2_with fail
   refine (ints_parse _ base t _ (by simp) hne hsz h0 h1 HOK.out).mono ?_;rintro e w1 ⟨rfl,rfl⟩;rw [HP.out.1,HP.out.2,HM.out]
   go_wp2_with fail
   refine bodyPost_ret (v:=tokTup ⟨4,[],-9223372036854775808,p,end_,0⟩) (by simp [tokTup,results,Tryz.results129,go_sem]) rfl ⟨?_,(Below.refl _ _).alloc (Nat.le_refl _) _⟩
   rw [HR.out];rfl
  ·have HR:=zq (show intR base t p end_=⟨4,[],natOf base t,p,end_,0⟩ by unfold intR;rw [if_pos hn,if_neg hm])
   have hb1:((-(natOf base t:Int)) == -9223372036854775808)=false:=by simp;omega
   have hb2:((-(natOf base t:Int)) != -9223372036854775808)=true:=by simp;omega
   have hn':(natOf base t:Int)≤9223372036854775807:=by omega
   clear hm
   generalize hN:natOf base t=N at *
   have HN:=zq hN
   clear hN
   go_enter Tryz.func129,Tryz.ntmps129
   go_wp2_with fail
   refine (ints_parse _ base t _ (by simp) hne hsz h0 h1 HOK.out).mono ?_;rintro e w1 ⟨rfl,rfl⟩;rw [HP.out.1,HP.out.2]
   go_wp2_with fail
   refine bodyPost_ret (v:=tokTup ⟨4,[],(N:Int),p,end_,0⟩) (by simp [tokTup,results,Tryz.results129,go_sem]) rfl ⟨?_,(Below.refl _ _).alloc (Nat.le_refl _) _⟩
   rw [HR.out];rfl
 ·have HP:=zq (parse_no base t hn)
  have HR:=zq (show intR base t p end_=errR 7 by unfold intR;rw [if_neg hn])
  clear hn
  go_enter Tryz.func129,Tryz.ntmps129
  go_wp2_with fail
  refine (ints_parse _ base t _ (by simp) hne hsz h0 h1 HOK.out).mono ?_;rintro e w1 ⟨rfl,rfl⟩;rw [HP.out.1,HP.out.2]
  go_wp2_with fail
  refine bodyPost_ret (v:=tokTup (errR 7)) (by simp [tokTup,errR,results,Tryz.results129,go_sem]) rfl ⟨?_,(Below.refl _ _).alloc (Nat.le_refl _) _⟩
  rw [HR.out];rfl
def QRes (r:Option (Int×Nat)) (i:Int) (e:Ending):Prop :=
 match r with
 | some (c,k)=>e=.returned (.tuple #[.int .i64 c,.int .i64 (i+k),.bool true])
 | none=>∃c n,e=.returned (.tuple #[.int .i64 c,.int .i64 n,.bool false])
theorem QRes.no {r:Option (Int×Nat)} {i c n:Int} (h:r=none):QRes r i (.returned (.tuple #[.int .i64 c,.int .i64 n,.bool false])):=by subst h;exact ⟨c,n,rfl⟩
theorem QRes.yes {r:Option (Int×Nat)} {i c n:Int} {k:Nat} (h:r=some (c,k)) (hn:n=i+k):QRes r i (.returned (.tuple #[.int .i64 c,.int .i64 n,.bool true])):=by subst h;subst hn;rfl
set_option maxHeartbeats 1600000 in
theorem lex_quoted (b:Nat) (s:ByteArray) (tab:Int→Int) (at_ i q:Int) (w:World) (h:Lex w b s tab at_) (h0:0≤i) (hi:i≤20000) :
  Calls Tryz.prog 127 #[.pointer (some ⟨b,0,none⟩),.int .i64 i,.int .i64 q] w fun e w'=>QRes (quotedS (s.data.toList.drop i.toNat) q) i e∧w=w':=by
 obtain ⟨k,rfl⟩:=Int.eq_ofNat_of_zero_le h0
 have L:=zq h
 clear h
 rw [Int.toNat_natCast]
 have r0:rawAt (s.data.toList.drop k) 0=rawAt s.data.toList k:=by rw [rawAt_drop,Nat.add_zero]
 have r1:rawAt (s.data.toList.drop k) 1=rawAt s.data.toList (k+1):=rawAt_drop _ _ _
 have R0:=zq r0
 have R1:=zq r1
 clear r0 r1
 generalize hM:s.data.toList=M at *
 have HM:=zq hM
 clear hM
 by_cases a1:rawAt M k<0∨rawAt M k=10
 ·have HQ:=zq (show quotedS (M.drop k) q=none by unfold quotedS;rw [R0.out,if_pos a1])
  have hd:decide (rawAt M k<0)=true∨(decide (rawAt M k<0)=false∧(rawAt M k==10)=true):=by grind
  clear a1
  rcases hd with d1 | ⟨d1,d2⟩
  all_goals
   go_enter Tryz.func127,Tryz.ntmps127
   go_wp2_with fail
   refine (lex_raw _ _ _ _ _ _ L.out (by omega)).mono ?_;rintro e w1 ⟨rfl,rfl⟩;rw [Int.toNat_natCast,HM.out]
   go_wp2_with fail
   go_ret3
   exact ⟨QRes.no HQ.out,rfl⟩
 have d1:decide (rawAt M k<0)=false:=by simp;omega
 have d2:(rawAt M k==10)=false:=by simp;omega
 by_cases a2:rawAt M k=q
 ·have b2:(rawAt M k==q)=true:=by simp [a2]
  have A1:=zq a1
  have A2:=zq a2
  clear a1 a2
  by_cases a3:rawAt M (k+1)=q
  ·have b3:(rawAt M (k+1)==q)=true:=by simp [a3]
   have HQ:=zq (show quotedS (M.drop k) q=some (q,2) by unfold quotedS;rw [R0.out,R1.out,if_neg A1.out,if_pos A2.out,if_pos a3])
   clear a3
   go_enter Tryz.func127,Tryz.ntmps127
   go_wp2_with fail
   refine (lex_raw _ _ _ _ _ _ L.out (by omega)).mono ?_;rintro e w1 ⟨rfl,rfl⟩;rw [Int.toNat_natCast,HM.out]
   go_wp2_with fail
   refine (lex_raw _ _ _ _ _ _ L.out (by omega)).mono ?_;rintro e w1 ⟨rfl,rfl⟩;rw [show ((k:Int)+1).toNat=k+1 by omega,HM.out]
   go_wp2_with fail
   go_ret3
   exact ⟨QRes.yes (HQ.out.trans (by rw [A2.out])) rfl,rfl⟩
  ·have b3:(rawAt M (k+1)==q)=false:=by simp [a3]
   have HQ:=zq (show quotedS (M.drop k) q=none by unfold quotedS;rw [R0.out,R1.out,if_neg A1.out,if_pos A2.out,if_neg a3])
   clear a3
   go_enter Tryz.func127,Tryz.ntmps127
   go_wp2_with fail
   refine (lex_raw _ _ _ _ _ _ L.out (by omega)).mono ?_;rintro e w1 ⟨rfl,rfl⟩;rw [Int.toNat_natCast,HM.out]
   go_wp2_with fail
   refine (lex_raw _ _ _ _ _ _ L.out (by omega)).mono ?_;rintro e w1 ⟨rfl,rfl⟩;rw [show ((k:Int)+1).toNat=k+1 by omega,HM.out]
   go_wp2_with fail
   go_ret3
   exact ⟨QRes.no HQ.out,rfl⟩
 have b2:(rawAt M k==q)=false:=by simp [a2]
 by_cases a3:rawAt M k=92
 ·have b3:(rawAt M k != 92)=false:=by simp [a3]
  have A1:=zq a1
  have A2:=zq a2
  have A3:=zq a3
  clear a1 a2 a3
  cases a4:uneOk (rawAt M (k+1))
  ·have A4:=zq a4
   clear a4
   have HF:∃fr:Nat,∃bs:Int,Hid (escFrom (M.drop k)=fr)∧Hid (escBase (M.drop k)=bs)∧(((rawAt M (k+1)==120)=true∧fr=2∧bs=16)∨((rawAt M (k+1)==120)=false∧fr=1∧bs=8)):=by
    refine ⟨_,_,rfl,rfl,?_⟩
    unfold escFrom escBase;rw [R1.out]
    by_cases h:rawAt M (k+1)=120 <;> simp [h]
   obtain ⟨fr,bs,HFr,HBs,hcs⟩:=HF
   have hbs:2≤bs∧bs≤36:=by omega
   have hfr:1≤fr∧fr≤2:=by omega
   have HD:Hid (escLen (M.drop k)=span (isDig bs) (M.drop (k+fr))):=by show _=_;unfold escLen;rw [HFr.out,HBs.out,List.drop_drop]
   have HNm:Hid (escNum (M.drop k)=natOf bs ((M.drop (k+fr)).take (span (isDig bs) (M.drop (k+fr))))):=by show _=_;unfold escNum;rw [HD.out,HFr.out,HBs.out,List.drop_drop]
   have HX:Hid (∀j,rawAt (M.drop k) (fr+j)=rawAt M (k+fr+j)):=fun j=>by rw [rawAt_drop,Nat.add_assoc]
   generalize hDl:span (isDig bs) (M.drop (k+fr))=D at *
   have HDl:=zq hDl
   clear hDl
   have Q0:Hid (rawAt (M.drop k) 0=92):=R0.out.trans A3.out
   have Q1:Hid (¬rawAt (M.drop k) 0=q):=fun h=>A2.out (R0.out.symm.trans h)
   have Q2:Hid (uneOk (rawAt (M.drop k) 1)=false):=by show _=_;rw [R1.out];exact A4.out
   have HDle:D≤20000:=by
    have h1:=span_le (isDig bs) (M.drop (k+fr));rw [HDl.out] at h1
    have h2:M.length≤16384:=by rw [←HM.out];have:=L.out.sz;simp;omega
    have h3:(M.drop (k+fr)).length≤M.length:=by simp
    omega
   rcases hcs with ⟨x1,rfl,rfl⟩ | ⟨x1,rfl,rfl⟩
   ·have HX0:=HX
    clear HX
    go_enter Tryz.func127,Tryz.ntmps127
    go_wp2_with fail
    refine (lex_raw _ _ _ _ _ _ L.out (by omega)).mono ?_;rintro e w1 ⟨rfl,rfl⟩;rw [Int.toNat_natCast,HM.out]
    go_wp2_with fail
    refine (lex_raw _ _ _ _ _ _ L.out (by omega)).mono ?_;rintro e w1 ⟨rfl,rfl⟩;rw [show ((k:Int)+1).toNat=k+1 by omega,HM.out]
    go_wp2_with fail
    refine (chars_unescape _ _).mono ?_;rintro e w1 ⟨rfl,rfl⟩;rw [A4.out]
    go_wp2_with fail
    go_loop [14,15] (fun n e=>∃j:Nat,j≤D∧e=.int .i64 (k+2+j:Nat)∧n=.int .i64 (natOf 16 ((M.drop (k+2)).take j))∧natOf 16 ((M.drop (k+2)).take j)≤5000) (fun _ e=>k+2+D-(intOf e).toNat)
    case atStart=>exact ⟨0,Nat.zero_le _,by go_num,rfl,by simp [natOf]⟩
    case round=>
     obtain ⟨j,hj,rfl,rfl,hn⟩:=hrel
     have HMn:=zq (natOf_mono 16 (by decide) ((M.drop (k+2)).take D) j)
     have HTk:=zq (show ((M.drop (k+2)).take D).take j=(M.drop (k+2)).take j by rw [List.take_take,Nat.min_eq_left hj])
     by_cases hlt:j<D
     ·have HSt:=zq (natOf_step 16 (by decide) (by decide) (M.drop (k+2)) j (by rw [HDl.out];exact hlt))
      have HR:=zq (rawAt_drop M (k+2) j)
      have HOk:=zq ((span_rest (isDig 16) (M.drop (k+2)) j (by rw [HDl.out];exact hlt)).1)
      rw [HR.out] at HSt HOk
      have hd0:=HSt.out.2.1
      have hd1:=HSt.out.2.2
      have HS1:=zq HSt.out.1
      clear HSt
      by_cases hbig:natOf 16 ((M.drop (k+2)).take j)≤255
      ·generalize hN:natOf 16 ((M.drop (k+2)).take j)=N at *
       have HN:=zq hN
       clear hN
       go_wp2_with fail
       refine (lex_raw _ _ _ _ _ _ L.out (by omega)).mono ?_;rintro e w1 ⟨rfl,rfl⟩;rw [show ((k:Int)+2+j).toNat=k+2+j by omega,HM.out]
       go_wp2_with fail
       refine (chars_digit _ _ _).mono ?_;rintro e w1 ⟨rfl,rfl⟩;rw [show digOk (rawAt M (k+2+j)) 16=true from HOk.out]
       generalize hV:digV (rawAt M (k+2+j)) 16=V at *
       have HV:=zq hV
       clear hV
       go_wp2_with fail
       go_round
       case rel=>exact ⟨j+1,by omega,by go_num,congrArg (Value.int IntKind.i64) HS1.out.symm,by have:=HS1.out;omega⟩
       case measure=>simp [intOf];omega
      ·have HQ:=zq (esc_none1 (M.drop k) q Q0.out Q1.out Q2.out (fun hx=>hbig (by
        have h1:=hx.2.1
        rw [HNm.out] at h1
        have h2:=HMn.out
        rw [HTk.out] at h2
        omega)))
       have hj0:0<j:=by
        rcases Nat.eq_zero_or_pos j with h | h
        ·subst h;exact absurd (by simp [natOf]) hbig
        ·exact h
       generalize hN:natOf 16 ((M.drop (k+2)).take j)=N at *
       have HN:=zq hN
       clear hN
       go_wp2_with fail
       refine (lex_raw _ _ _ _ _ _ L.out (by omega)).mono ?_;rintro e w1 ⟨rfl,rfl⟩;rw [show ((k:Int)+2+j).toNat=k+2+j by omega,HM.out]
       go_wp2_with fail
       refine (chars_digit _ _ _).mono ?_;rintro e w1 ⟨rfl,rfl⟩;rw [show digOk (rawAt M (k+2+j)) 16=true from HOk.out]
       go_wp2_with fail
       go_ret3
       exact ⟨QRes.no HQ.out,rfl⟩
     ·obtain rfl:j=D:=by omega
      have HOk:=zq (span_stop (isDig 16) (isDig_end 16) (M.drop (k+2)))
      rw [HDl.out,rawAt_drop] at HOk
      by_cases hj0:0<j
      ·by_cases hbig:natOf 16 ((M.drop (k+2)).take j)≤255
       ·have HXj:=HX0.out j
        by_cases hend:rawAt M (k+2+j)=92
        ·have hendb:(rawAt M (k+2+j)==92)=true:=by simp [hend]
         have HQ:=zq (esc_some1 (M.drop k) q Q0.out Q1.out Q2.out ⟨by rw [HD.out];exact hj0,by rw [HNm.out];exact hbig,by rw [HFr.out,HD.out,HXj,hend]⟩)
         have HXh:=zq HXj
         clear hend HXj
         generalize hN:natOf 16 ((M.drop (k+2)).take j)=N at *
         have HN:=zq hN
         clear hN
         go_wp2_with fail
         refine (lex_raw _ _ _ _ _ _ L.out (by omega)).mono ?_;rintro e w1 ⟨rfl,rfl⟩;rw [show ((k:Int)+2+j).toNat=k+2+j by omega,HM.out]
         go_wp2_with fail
         refine (chars_digit _ _ _).mono ?_;rintro e w1 ⟨rfl,rfl⟩;rw [show digOk (rawAt M (k+2+j)) 16=false from HOk.out]
         go_wp2_with fail
         refine (lex_raw _ _ _ _ _ _ L.out (by omega)).mono ?_;rintro e w1 ⟨rfl,rfl⟩;rw [show ((k:Int)+2+j).toNat=k+2+j by omega,HM.out]
         go_wp2_with fail
         go_ret3
         exact ⟨QRes.yes (HQ.out.trans (by rw [HNm.out,HFr.out,HD.out])) (by omega),rfl⟩
        ·have hendb:(rawAt M (k+2+j)==92)=false:=by simp [hend]
         have HQ:=zq (esc_none1 (M.drop k) q Q0.out Q1.out Q2.out (fun hx=>hend (by have:=hx.2.2;rw [HFr.out,HD.out,HXj] at this;exact this)))
         have HXh:=zq HXj
         clear hend HXj
         generalize hN:natOf 16 ((M.drop (k+2)).take j)=N at *
         have HN:=zq hN
         clear hN
         go_wp2_with fail
         refine (lex_raw _ _ _ _ _ _ L.out (by omega)).mono ?_;rintro e w1 ⟨rfl,rfl⟩;rw [show ((k:Int)+2+j).toNat=k+2+j by omega,HM.out]
         go_wp2_with fail
         refine (chars_digit _ _ _).mono ?_;rintro e w1 ⟨rfl,rfl⟩;rw [show digOk (rawAt M (k+2+j)) 16=false from HOk.out]
         go_wp2_with fail
         refine (lex_raw _ _ _ _ _ _ L.out (by omega)).mono ?_;rintro e w1 ⟨rfl,rfl⟩;rw [show ((k:Int)+2+j).toNat=k+2+j by omega,HM.out]
         go_wp2_with fail
         go_ret3
         exact ⟨QRes.no HQ.out,rfl⟩
       ·have HQ:=zq (esc_none1 (M.drop k) q Q0.out Q1.out Q2.out (fun hx=>hbig (by have h1:=hx.2.1;rw [HNm.out] at h1;exact h1)))
        generalize hN:natOf 16 ((M.drop (k+2)).take j)=N at *
        have HN:=zq hN
        clear hN
        go_wp2_with fail
        refine (lex_raw _ _ _ _ _ _ L.out (by omega)).mono ?_;rintro e w1 ⟨rfl,rfl⟩;rw [show ((k:Int)+2+j).toNat=k+2+j by omega,HM.out]
        go_wp2_with fail
        refine (chars_digit _ _ _).mono ?_;rintro e w1 ⟨rfl,rfl⟩;rw [show digOk (rawAt M (k+2+j)) 16=false from HOk.out]
        go_wp2_with fail
        go_ret3
        exact ⟨QRes.no HQ.out,rfl⟩
      ·have HQ:=zq (esc_none1 (M.drop k) q Q0.out Q1.out Q2.out (fun hx=>hj0 (by have h1:=hx.1;rw [HD.out] at h1;exact h1)))
       generalize hN:natOf 16 ((M.drop (k+2)).take j)=N at *
       have HN:=zq hN
       clear hN
       go_wp2_with fail
       refine (lex_raw _ _ _ _ _ _ L.out (by omega)).mono ?_;rintro e w1 ⟨rfl,rfl⟩;rw [show ((k:Int)+2+j).toNat=k+2+j by omega,HM.out]
       go_wp2_with fail
       refine (chars_digit _ _ _).mono ?_;rintro e w1 ⟨rfl,rfl⟩;rw [show digOk (rawAt M (k+2+j)) 16=false from HOk.out]
       go_wp2_with fail
       go_ret3
       exact ⟨QRes.no HQ.out,rfl⟩
   ·have HX0:=HX
    clear HX
    go_enter Tryz.func127,Tryz.ntmps127
    go_wp2_with fail
    refine (lex_raw _ _ _ _ _ _ L.out (by omega)).mono ?_;rintro e w1 ⟨rfl,rfl⟩;rw [Int.toNat_natCast,HM.out]
    go_wp2_with fail
    refine (lex_raw _ _ _ _ _ _ L.out (by omega)).mono ?_;rintro e w1 ⟨rfl,rfl⟩;rw [show ((k:Int)+1).toNat=k+1 by omega,HM.out]
    go_wp2_with fail
    refine (chars_unescape _ _).mono ?_;rintro e w1 ⟨rfl,rfl⟩;rw [A4.out]
    go_wp2_with fail
    go_loop [14,15] (fun n e=>∃j:Nat,j≤D∧e=.int .i64 (k+1+j:Nat)∧n=.int .i64 (natOf 8 ((M.drop (k+1)).take j))∧natOf 8 ((M.drop (k+1)).take j)≤5000) (fun _ e=>k+1+D-(intOf e).toNat)
    case atStart=>exact ⟨0,Nat.zero_le _,by go_num,rfl,by simp [natOf]⟩
    case round=>
     obtain ⟨j,hj,rfl,rfl,hn⟩:=hrel
     have HMn:=zq (natOf_mono 8 (by decide) ((M.drop (k+1)).take D) j)
     have HTk:=zq (show ((M.drop (k+1)).take D).take j=(M.drop (k+1)).take j by rw [List.take_take,Nat.min_eq_left hj])
     by_cases hlt:j<D
     ·have HSt:=zq (natOf_step 8 (by decide) (by decide) (M.drop (k+1)) j (by rw [HDl.out];exact hlt))
      have HR:=zq (rawAt_drop M (k+1) j)
      have HOk:=zq ((span_rest (isDig 8) (M.drop (k+1)) j (by rw [HDl.out];exact hlt)).1)
      rw [HR.out] at HSt HOk
      have hd0:=HSt.out.2.1
      have hd1:=HSt.out.2.2
      have HS1:=zq HSt.out.1
      clear HSt
      by_cases hbig:natOf 8 ((M.drop (k+1)).take j)≤255
      ·generalize hN:natOf 8 ((M.drop (k+1)).take j)=N at *
       have HN:=zq hN
       clear hN
       go_wp2_with fail
       refine (lex_raw _ _ _ _ _ _ L.out (by omega)).mono ?_;rintro e w1 ⟨rfl,rfl⟩;rw [show ((k:Int)+1+j).toNat=k+1+j by omega,HM.out]
       go_wp2_with fail
       refine (chars_digit _ _ _).mono ?_;rintro e w1 ⟨rfl,rfl⟩;rw [show digOk (rawAt M (k+1+j)) 8=true from HOk.out]
       generalize hV:digV (rawAt M (k+1+j)) 8=V at *
       have HV:=zq hV
       clear hV
       go_wp2_with fail
       go_round
       case rel=>exact ⟨j+1,by omega,by go_num,congrArg (Value.int IntKind.i64) HS1.out.symm,by have:=HS1.out;omega⟩
       case measure=>simp [intOf];omega
      ·have HQ:=zq (esc_none1 (M.drop k) q Q0.out Q1.out Q2.out (fun hx=>hbig (by
        have h1:=hx.2.1
        rw [HNm.out] at h1
        have h2:=HMn.out
        rw [HTk.out] at h2
        omega)))
       have hj0:0<j:=by
        rcases Nat.eq_zero_or_pos j with h | h
        ·subst h;exact absurd (by simp [natOf]) hbig
        ·exact h
       generalize hN:natOf 8 ((M.drop (k+1)).take j)=N at *
       have HN:=zq hN
       clear hN
       go_wp2_with fail
       refine (lex_raw _ _ _ _ _ _ L.out (by omega)).mono ?_;rintro e w1 ⟨rfl,rfl⟩;rw [show ((k:Int)+1+j).toNat=k+1+j by omega,HM.out]
       go_wp2_with fail
       refine (chars_digit _ _ _).mono ?_;rintro e w1 ⟨rfl,rfl⟩;rw [show digOk (rawAt M (k+1+j)) 8=true from HOk.out]
       go_wp2_with fail
       go_ret3
       exact ⟨QRes.no HQ.out,rfl⟩
     ·obtain rfl:j=D:=by omega
      have HOk:=zq (span_stop (isDig 8) (isDig_end 8) (M.drop (k+1)))
      rw [HDl.out,rawAt_drop] at HOk
      by_cases hj0:0<j
      ·by_cases hbig:natOf 8 ((M.drop (k+1)).take j)≤255
       ·have HXj:=HX0.out j
        by_cases hend:rawAt M (k+1+j)=92
        ·have hendb:(rawAt M (k+1+j)==92)=true:=by simp [hend]
         have HQ:=zq (esc_some1 (M.drop k) q Q0.out Q1.out Q2.out ⟨by rw [HD.out];exact hj0,by rw [HNm.out];exact hbig,by rw [HFr.out,HD.out,HXj,hend]⟩)
         have HXh:=zq HXj
         clear hend HXj
         generalize hN:natOf 8 ((M.drop (k+1)).take j)=N at *
         have HN:=zq hN
         clear hN
         go_wp2_with fail
         refine (lex_raw _ _ _ _ _ _ L.out (by omega)).mono ?_;rintro e w1 ⟨rfl,rfl⟩;rw [show ((k:Int)+1+j).toNat=k+1+j by omega,HM.out]
         go_wp2_with fail
         refine (chars_digit _ _ _).mono ?_;rintro e w1 ⟨rfl,rfl⟩;rw [show digOk (rawAt M (k+1+j)) 8=false from HOk.out]
         go_wp2_with fail
         refine (lex_raw _ _ _ _ _ _ L.out (by omega)).mono ?_;rintro e w1 ⟨rfl,rfl⟩;rw [show ((k:Int)+1+j).toNat=k+1+j by omega,HM.out]
         go_wp2_with fail
         go_ret3
         exact ⟨QRes.yes (HQ.out.trans (by rw [HNm.out,HFr.out,HD.out])) (by omega),rfl⟩
        ·have hendb:(rawAt M (k+1+j)==92)=false:=by simp [hend]
         have HQ:=zq (esc_none1 (M.drop k) q Q0.out Q1.out Q2.out (fun hx=>hend (by have:=hx.2.2;rw [HFr.out,HD.out,HXj] at this;exact this)))
         have HXh:=zq HXj
         clear hend HXj
         generalize hN:natOf 8 ((M.drop (k+1)).take j)=N at *
         have HN:=zq hN
         clear hN
         go_wp2_with fail
         refine (lex_raw _ _ _ _ _ _ L.out (by omega)).mono ?_;rintro e w1 ⟨rfl,rfl⟩;rw [show ((k:Int)+1+j).toNat=k+1+j by omega,HM.out]
         go_wp2_with fail
         refine (chars_digit _ _ _).mono ?_;rintro e w1 ⟨rfl,rfl⟩;rw [show digOk (rawAt M (k+1+j)) 8=false from HOk.out]
         go_wp2_with fail
         refine (lex_raw _ _ _ _ _ _ L.out (by omega)).mono ?_;rintro e w1 ⟨rfl,rfl⟩;rw [show ((k:Int)+1+j).toNat=k+1+j by omega,HM.out]
         go_wp2_with fail
         go_ret3
         exact ⟨QRes.no HQ.out,rfl⟩
       ·have HQ:=zq (esc_none1 (M.drop k) q Q0.out Q1.out Q2.out (fun hx=>hbig (by have h1:=hx.2.1;rw [HNm.out] at h1;exact h1)))
        generalize hN:natOf 8 ((M.drop (k+1)).take j)=N at *
        have HN:=zq hN
        clear hN
        go_wp2_with fail
        refine (lex_raw _ _ _ _ _ _ L.out (by omega)).mono ?_;rintro e w1 ⟨rfl,rfl⟩;rw [show ((k:Int)+1+j).toNat=k+1+j by omega,HM.out]
        go_wp2_with fail
        refine (chars_digit _ _ _).mono ?_;rintro e w1 ⟨rfl,rfl⟩;rw [show digOk (rawAt M (k+1+j)) 8=false from HOk.out]
        go_wp2_with fail
        go_ret3
        exact ⟨QRes.no HQ.out,rfl⟩
      ·have HQ:=zq (esc_none1 (M.drop k) q Q0.out Q1.out Q2.out (fun hx=>hj0 (by have h1:=hx.1;rw [HD.out] at h1;exact h1)))
       generalize hN:natOf 8 ((M.drop (k+1)).take j)=N at *
       have HN:=zq hN
       clear hN
       go_wp2_with fail
       refine (lex_raw _ _ _ _ _ _ L.out (by omega)).mono ?_;rintro e w1 ⟨rfl,rfl⟩;rw [show ((k:Int)+1+j).toNat=k+1+j by omega,HM.out]
       go_wp2_with fail
       refine (chars_digit _ _ _).mono ?_;rintro e w1 ⟨rfl,rfl⟩;rw [show digOk (rawAt M (k+1+j)) 8=false from HOk.out]
       go_wp2_with fail
       go_ret3
       exact ⟨QRes.no HQ.out,rfl⟩
  ·have A4:=zq a4
   have HQ:=zq (show quotedS (M.drop k) q=some (uneV (rawAt M (k+1)),2) by unfold quotedS;rw [R0.out,R1.out,if_neg A1.out,if_neg A2.out,if_neg (fun h=>h A3.out),if_pos a4])
   clear a4
   go_enter Tryz.func127,Tryz.ntmps127
   go_wp2_with fail
   refine (lex_raw _ _ _ _ _ _ L.out (by omega)).mono ?_;rintro e w1 ⟨rfl,rfl⟩;rw [Int.toNat_natCast,HM.out]
   go_wp2_with fail
   refine (lex_raw _ _ _ _ _ _ L.out (by omega)).mono ?_;rintro e w1 ⟨rfl,rfl⟩;rw [show ((k:Int)+1).toNat=k+1 by omega,HM.out]
   go_wp2_with fail
   refine (chars_unescape _ _).mono ?_;rintro e w1 ⟨rfl,rfl⟩;rw [A4.out]
   go_wp2_with fail
   go_ret3
   exact ⟨QRes.yes HQ.out rfl,rfl⟩
 ·have b3:(rawAt M k != 92)=true:=by simp [a3]
  have HQ:=zq (show quotedS (M.drop k) q=some (rawAt M k,1) by unfold quotedS;rw [R0.out,if_neg a1,if_neg a2,if_pos a3])
  clear a1 a2 a3
  go_enter Tryz.func127,Tryz.ntmps127
  go_wp2_with fail
  refine (lex_raw _ _ _ _ _ _ L.out (by omega)).mono ?_;rintro e w1 ⟨rfl,rfl⟩;rw [Int.toNat_natCast,HM.out]
  go_wp2_with fail
  go_ret3
  exact ⟨QRes.yes HQ.out rfl,rfl⟩
theorem base_cs (c n:Int) (h:n=(if c=120 then 16 else if c=111 then 8 else if c=98 then 2 else 0)):((c==120)=true∧n=16)∨((c==120)=false∧(c==111)=true∧n=8)∨((c==120)=false∧(c==111)=false∧(c==98)=true∧n=2)∨((c==120)=false∧(c==111)=false∧(c==98)=false∧n=0):=by
 by_cases h1:c=120
 ·left;simp [h1] at h ⊢;exact h
 by_cases h2:c=111
 ·right;left;simp [h2] at h ⊢;exact h
 by_cases h3:c=98
 ·right;right;left;simp [h3] at h ⊢;exact h
 ·right;right;right;simp [h1,h2,h3] at h ⊢;exact h
theorem bAt_take (l:List UInt8) (n k:Nat) (h:k<n):bAt (l.take n) k=bAt l k:=by
 unfold bAt;simp only [List.getD_eq_getElem?_getD,List.getElem?_take_of_lt h]
theorem digits_ok (base:Int) (h0:2≤base) (h1:base≤36) (l:List UInt8) (k:Nat) (hk:k<(l.take (span (isDig base) l)).length):dgt (bAt (l.take (span (isDig base) l)) k)<base:=by
 have hk':k<span (isDig base) l:=by simp at hk;omega
 obtain ⟨hq,hl⟩:=span_rest _ _ _ hk'
 rw [rawAt_in _ _ hl] at hq
 unfold isDig at hq
 rw [digOk_dgt _ _ h0 h1] at hq
 rw [bAt_take _ _ _ hk']
 simpa using hq
theorem digits_len (base:Int) (l:List UInt8):(l.take (span (isDig base) l)).length=span (isDig base) l:=by
 have:=span_le (isDig base) l
 rw [List.length_take,Nat.min_eq_left this]
set_option maxHeartbeats 1600000 in
theorem lex_number (b:Nat) (s:ByteArray) (tab:Int→Int) (p:Nat) (w:World) (h:Lex w b s tab p) (hp:p<s.size) (hdig:isDig 10 (rawAt (cvt tab s.data.toList) p)=true) :
  Calls Tryz.prog 115 #[.pointer (some ⟨b,0,none⟩)] w fun e w'=>Gives (numR (cvt tab s.data.toList) s.data.toList p) e∧Below w.heap.size w w':=by
 have H0:=Held.start h
 have hlt:=h.lt
 have ca:=h.ca
 have hsz:=h.sz
 clear h
 have hlen:Hid ((cvt tab s.data.toList).length=s.size):=by show _=_;rw [cvt_len];simp
 generalize hM:cvt tab s.data.toList=M at *
 have HM:=zq hM
 clear hM
 have hsd:1≤span (isDig 10) (M.drop p):=span_pos _ _ (by simp;have:=hlen.out;omega) (by rw [rawAt_drop,Nat.add_zero];exact hdig)
 clear hdig
 by_cases a1:rawAt M p=48
 ·have b1:(rawAt M p==48)=true:=by simp [a1]
  by_cases a2:rawAt M (p+1)=39
  ·have b2:(rawAt M (p+1)==39)=true:=by simp [a2]
   cases hq:quotedS (s.data.toList.drop (p+2)) 39 with
   | none=>
    have HK:=zq (show numR M s.data.toList p=errR 7 by unfold numR;rw [if_pos ⟨a1,a2⟩,hq])
    have HQ:=zq hq
    clear a1 a2 hq
    go_enter Tryz.func115,Tryz.ntmps115
    go_wp2_with fail
    refine (lex_char _ _ _ _ _ _ H0.lex (by omega)).mono ?_;rintro e w1 ⟨rfl,hB1⟩;rw [Int.toNat_natCast,HM.out]
    have H1:=Held.call hB1 H0
    have c1:=H1.lex.ca
    go_wp2_with fail
    refine (lex_char _ _ _ _ _ _ H1.lex (by omega)).mono ?_;rintro e w2 ⟨rfl,hB2⟩;rw [show ((p:Int)+1).toNat=p+1 by omega,HM.out]
    have H2:=Held.call hB2 H1
    have c2:=H2.lex.ca
    clear hB1 hB2 H1 c1 H0
    go_wp2_with fail
    refine (lex_quoted _ _ _ _ _ _ _ H2.lex (by omega) (by omega)).mono ?_;rintro e w3 ⟨he,rfl⟩;rw [show ((p:Int)+2).toNat=p+2 by omega,HQ.out] at he
    obtain ⟨x,y,rfl⟩:=he
    obtain ⟨t6,v0,v1,v2,v3,v4,v5,t0,t1,t2,t3,t4,t5⟩:=H2.tok
    have hltc:=H2.lt
    go_wp2_with fail
    refine bodyPost_ret (v:=tokTup (errR 7)) (by simp [tokTup,errR,results,Tryz.results115,go_sem,t0,t1,t2,t3,t4,t5]) rfl ⟨?_,(H2.sets _ _ _ _ _ _).bel⟩
    rw [HK.out];rfl
   | some ck=>
    obtain ⟨c,k⟩:=ck
    have HK:=zq (show numR M s.data.toList p=⟨4,[],c,p,p+2+k,0⟩ by unfold numR;rw [if_pos ⟨a1,a2⟩,hq])
    have HQ:=zq hq
    clear a1 a2 hq
    go_enter Tryz.func115,Tryz.ntmps115
    go_wp2_with fail
    refine (lex_char _ _ _ _ _ _ H0.lex (by omega)).mono ?_;rintro e w1 ⟨rfl,hB1⟩;rw [Int.toNat_natCast,HM.out]
    have H1:=Held.call hB1 H0
    have c1:=H1.lex.ca
    go_wp2_with fail
    refine (lex_char _ _ _ _ _ _ H1.lex (by omega)).mono ?_;rintro e w2 ⟨rfl,hB2⟩;rw [show ((p:Int)+1).toNat=p+1 by omega,HM.out]
    have H2:=Held.call hB2 H1
    have c2:=H2.lex.ca
    clear hB1 hB2 H1 c1 H0
    go_wp2_with fail
    refine (lex_quoted _ _ _ _ _ _ _ H2.lex (by omega) (by omega)).mono ?_;rintro e w3 ⟨he,rfl⟩;rw [show ((p:Int)+2).toNat=p+2 by omega,HQ.out] at he
    unfold QRes at he
    simp only [] at he
    subst he
    obtain ⟨t6,v0,v1,v2,v3,v4,v5,t0,t1,t2,t3,t4,t5⟩:=H2.tok
    have hltc:=H2.lt
    go_wp2_with fail
    refine bodyPost_ret (v:=tokTup ⟨4,[],c,p,p+2+k,0⟩) (by simp [tokTup,results,Tryz.results115,go_sem,t0,t1,t2,t3,t4,t5]) rfl ⟨?_,(H2.sets _ _ _ _ _ _).bel⟩
    rw [HK.out];rfl
  ·have b2:(rawAt M (p+1)==39)=false:=by simp [a2]
   by_cases a3:0<numBase M p∧0<span (isDig (numBase M p)) (M.drop (p+2))
   ·have HK:=zq (show numR M s.data.toList p=intR (numBase M p) ((M.drop (p+2)).take (span (isDig (numBase M p)) (M.drop (p+2)))) p (p+2+span (isDig (numBase M p)) (M.drop (p+2))) by unfold numR;rw [if_neg (fun h=>a2 h.2),if_pos a3])
    have HN:=zq (show numBase M p=(if rawAt M (p+1)=120 then 16 else if rawAt M (p+1)=111 then 8 else if rawAt M (p+1)=98 then 2 else 0) by unfold numBase;rw [if_pos a1])
    have hcs:((rawAt M (p+1)==120)=true∧numBase M p=16)∨((rawAt M (p+1)==120)=false∧(rawAt M (p+1)==111)=true∧numBase M p=8)∨((rawAt M (p+1)==120)=false∧(rawAt M (p+1)==111)=false∧(rawAt M (p+1)==98)=true∧numBase M p=2):=by
     have h2:=a3.1
     rcases base_cs _ _ HN.out with h | h | h | h
     ·exact .inl h
     ·exact .inr (.inl h)
     ·exact .inr (.inr h)
     ·exact absurd h.2.2.2 (by omega)
    have h3:=a3.2
    clear a1 a2 a3 HN
    have hb2:2≤numBase M p∧numBase M p≤36:=by omega
    generalize hbs:numBase M p=bs at *
    have HBS:=zq hbs
    clear hbs
    have hspd:=span_le (isDig bs) (M.drop (p+2))
    rw [List.length_drop,hlen.out] at hspd
    have HDl:=zq (digits_len bs (M.drop (p+2)))
    have HOKd:=zq (digits_ok bs hb2.1 hb2.2 (M.drop (p+2)))
    generalize hDD:span (isDig bs) (M.drop (p+2))=D at *
    have HDD:=zq hDD
    clear hDD
    rcases hcs with ⟨x1,rfl⟩ | ⟨x1,x2,rfl⟩ | ⟨x1,x2,x3,rfl⟩
    all_goals
     go_enter Tryz.func115,Tryz.ntmps115
     go_wp2_with fail
     refine (lex_char _ _ _ _ _ _ H0.lex (by omega)).mono ?_;rintro e w1 ⟨rfl,hB1⟩;rw [Int.toNat_natCast,HM.out]
     have H1:=Held.call hB1 H0
     have c1:=H1.lex.ca
     go_wp2_with fail
     refine (lex_char _ _ _ _ _ _ H1.lex (by omega)).mono ?_;rintro e w2 ⟨rfl,hB2⟩;rw [show ((p:Int)+1).toNat=p+1 by omega,HM.out]
     have H2:=Held.call hB2 H1
     have c2:=H2.lex.ca
     clear hB1 hB2 H1 c1 H0
     go_wp2_with fail
     refine (lex_digits _ _ _ _ _ _ _ H2.lex (by omega)).mono ?_;rintro e wA ⟨rfl,hBA⟩;rw [show ((p:Int)+2).toNat=p+2 by omega,HM.out,HDD.out]
     have HA:=Held.call hBA H2
     have cA:=HA.lex.ca
     go_wp2_with fail
     refine (lex_part _ _ _ _ _ _ _ HA.lex (by omega) (by omega) (by omega)).mono ?_;rintro e wB ⟨rfl,hBB⟩;rw [show ((p:Int)+2).toNat=p+2 by omega,HM.out,show ((p:Int)+2+D-(p+2)).toNat=D by omega]
     have HB:=Held.call hBB HA
     go_wp2_with fail
     refine (lex_integer _ _ _ _ _ _ _ _ HB.lex (by rw [HDl.out];omega) (by rw [HDl.out];omega) (by decide) (by decide) HOKd.out).mono ?_;rintro e wC ⟨he,hBC⟩
     have HC:=Held.call hBC HB
     generalize hr:intR _ _ _ _=r at he
     have HR:=zq hr
     clear hr hBA hBB hBC HA HB H2 c2 cA
     unfold Gives tokTup at he;subst he
     obtain ⟨t6,v0,v1,v2,v3,v4,v5,t0,t1,t2,t3,t4,t5⟩:=HC.tok
     have hltc:=HC.lt
     go_wp2_with fail
     refine bodyPost_ret (v:=tokTup r) (by simp [tokTup,results,Tryz.results115,go_sem,t0,t1,t2,t3,t4,t5]) rfl ⟨?_,(HC.sets _ _ _ _ _ _).bel⟩
     rw [HK.out,HR.out];rfl
   ·have HK:=zq (show numR M s.data.toList p=intR 10 ((M.drop p).take (span (isDig 10) (M.drop p))) p (p+span (isDig 10) (M.drop p)) by unfold numR;rw [if_neg (fun h=>a2 h.2),if_neg a3])
    have HN:=zq (show numBase M p=(if rawAt M (p+1)=120 then 16 else if rawAt M (p+1)=111 then 8 else if rawAt M (p+1)=98 then 2 else 0) by unfold numBase;rw [if_pos a1])
    have hcs:((rawAt M (p+1)==120)=true∧numBase M p=16)∨((rawAt M (p+1)==120)=false∧(rawAt M (p+1)==111)=true∧numBase M p=8)∨((rawAt M (p+1)==120)=false∧(rawAt M (p+1)==111)=false∧(rawAt M (p+1)==98)=true∧numBase M p=2)∨((rawAt M (p+1)==120)=false∧(rawAt M (p+1)==111)=false∧(rawAt M (p+1)==98)=false∧numBase M p=0):=base_cs _ _ HN.out
    have A3:=zq a3
    clear a1 a2 a3 HN
    generalize hbs:numBase M p=bs at *
    have HBS:=zq hbs
    clear hbs
    rcases hcs with ⟨x1,rfl⟩ | ⟨x1,x2,rfl⟩ | ⟨x1,x2,x3,rfl⟩ | ⟨x1,x2,x3,rfl⟩
    ·have HD0:=zq (show span (isDig 16) (M.drop (p+2))=0 by have:=A3.out;omega)
     go_enter Tryz.func115,Tryz.ntmps115
     go_wp2_with fail
     refine (lex_char _ _ _ _ _ _ H0.lex (by omega)).mono ?_;rintro e w1 ⟨rfl,hB1⟩;rw [Int.toNat_natCast,HM.out]
     have H1:=Held.call hB1 H0
     have c1:=H1.lex.ca
     go_wp2_with fail
     refine (lex_char _ _ _ _ _ _ H1.lex (by omega)).mono ?_;rintro e w2 ⟨rfl,hB2⟩;rw [show ((p:Int)+1).toNat=p+1 by omega,HM.out]
     have H2:=Held.call hB2 H1
     have c2:=H2.lex.ca
     clear hB1 hB2 H1 c1 H0
     go_wp2_with fail
     refine (lex_digits _ _ _ _ _ _ _ H2.lex (by omega)).mono ?_;rintro e wA ⟨rfl,hBA⟩;rw [show ((p:Int)+2).toNat=p+2 by omega,HM.out,show span (isDig 16) (M.drop (p+2))=0 from HD0.out]
     have Hn:=Held.call hBA H2
     clear hBA H2 c2
     have cm:=Hn.lex.ca
     go_wp2_with fail
     have hspd:=span_le (isDig 10) (M.drop p)
     rw [List.length_drop,hlen.out] at hspd
     have HDl:=zq (digits_len 10 (M.drop p))
     have HOKd:=zq (digits_ok 10 (by decide) (by decide) (M.drop p))
     have cN:=Hn.lex.ca
     generalize hDD:span (isDig 10) (M.drop p)=D at *
     have HDD:=zq hDD
     clear hDD
     go_wp2_with fail
     refine (lex_digits _ _ _ _ _ _ _ Hn.lex (by omega)).mono ?_;rintro e wA ⟨rfl,hBA⟩;rw [Int.toNat_natCast,HM.out,HDD.out]
     have HA:=Held.call hBA Hn
     have cA:=HA.lex.ca
     go_wp2_with fail
     refine (lex_part _ _ _ _ _ _ _ HA.lex (by omega) (by omega) (by omega)).mono ?_;rintro e wB ⟨rfl,hBB⟩;rw [Int.toNat_natCast,HM.out,show ((p:Int)+D-p).toNat=D by omega]
     have HB:=Held.call hBB HA
     go_wp2_with fail
     refine (lex_integer _ _ _ _ _ _ _ _ HB.lex (by rw [HDl.out];omega) (by rw [HDl.out];omega) (by decide) (by decide) HOKd.out).mono ?_;rintro e wC ⟨he,hBC⟩
     have HC:=Held.call hBC HB
     generalize hr:intR _ _ _ _=r at he
     have HR:=zq hr
     clear hr hBA hBB hBC HA HB Hn cN cA
     unfold Gives tokTup at he;subst he
     obtain ⟨t6,v0,v1,v2,v3,v4,v5,t0,t1,t2,t3,t4,t5⟩:=HC.tok
     have hltc:=HC.lt
     go_wp2_with fail
     refine bodyPost_ret (v:=tokTup r) (by simp [tokTup,results,Tryz.results115,go_sem,t0,t1,t2,t3,t4,t5]) rfl ⟨?_,(HC.sets _ _ _ _ _ _).bel⟩
     rw [HK.out,HR.out];rfl
    ·have HD0:=zq (show span (isDig 8) (M.drop (p+2))=0 by have:=A3.out;omega)
     go_enter Tryz.func115,Tryz.ntmps115
     go_wp2_with fail
     refine (lex_char _ _ _ _ _ _ H0.lex (by omega)).mono ?_;rintro e w1 ⟨rfl,hB1⟩;rw [Int.toNat_natCast,HM.out]
     have H1:=Held.call hB1 H0
     have c1:=H1.lex.ca
     go_wp2_with fail
     refine (lex_char _ _ _ _ _ _ H1.lex (by omega)).mono ?_;rintro e w2 ⟨rfl,hB2⟩;rw [show ((p:Int)+1).toNat=p+1 by omega,HM.out]
     have H2:=Held.call hB2 H1
     have c2:=H2.lex.ca
     clear hB1 hB2 H1 c1 H0
     go_wp2_with fail
     refine (lex_digits _ _ _ _ _ _ _ H2.lex (by omega)).mono ?_;rintro e wA ⟨rfl,hBA⟩;rw [show ((p:Int)+2).toNat=p+2 by omega,HM.out,show span (isDig 8) (M.drop (p+2))=0 from HD0.out]
     have Hn:=Held.call hBA H2
     clear hBA H2 c2
     have cm:=Hn.lex.ca
     go_wp2_with fail
     have hspd:=span_le (isDig 10) (M.drop p)
     rw [List.length_drop,hlen.out] at hspd
     have HDl:=zq (digits_len 10 (M.drop p))
     have HOKd:=zq (digits_ok 10 (by decide) (by decide) (M.drop p))
     have cN:=Hn.lex.ca
     generalize hDD:span (isDig 10) (M.drop p)=D at *
     have HDD:=zq hDD
     clear hDD
     go_wp2_with fail
     refine (lex_digits _ _ _ _ _ _ _ Hn.lex (by omega)).mono ?_;rintro e wA ⟨rfl,hBA⟩;rw [Int.toNat_natCast,HM.out,HDD.out]
     have HA:=Held.call hBA Hn
     have cA:=HA.lex.ca
     go_wp2_with fail
     refine (lex_part _ _ _ _ _ _ _ HA.lex (by omega) (by omega) (by omega)).mono ?_;rintro e wB ⟨rfl,hBB⟩;rw [Int.toNat_natCast,HM.out,show ((p:Int)+D-p).toNat=D by omega]
     have HB:=Held.call hBB HA
     go_wp2_with fail
     refine (lex_integer _ _ _ _ _ _ _ _ HB.lex (by rw [HDl.out];omega) (by rw [HDl.out];omega) (by decide) (by decide) HOKd.out).mono ?_;rintro e wC ⟨he,hBC⟩
     have HC:=Held.call hBC HB
     generalize hr:intR _ _ _ _=r at he
     have HR:=zq hr
     clear hr hBA hBB hBC HA HB Hn cN cA
     unfold Gives tokTup at he;subst he
     obtain ⟨t6,v0,v1,v2,v3,v4,v5,t0,t1,t2,t3,t4,t5⟩:=HC.tok
     have hltc:=HC.lt
     go_wp2_with fail
     refine bodyPost_ret (v:=tokTup r) (by simp [tokTup,results,Tryz.results115,go_sem,t0,t1,t2,t3,t4,t5]) rfl ⟨?_,(HC.sets _ _ _ _ _ _).bel⟩
     rw [HK.out,HR.out];rfl
    ·have HD0:=zq (show span (isDig 2) (M.drop (p+2))=0 by have:=A3.out;omega)
     go_enter Tryz.func115,Tryz.ntmps115
     go_wp2_with fail
     refine (lex_char _ _ _ _ _ _ H0.lex (by omega)).mono ?_;rintro e w1 ⟨rfl,hB1⟩;rw [Int.toNat_natCast,HM.out]
     have H1:=Held.call hB1 H0
     have c1:=H1.lex.ca
     go_wp2_with fail
     refine (lex_char _ _ _ _ _ _ H1.lex (by omega)).mono ?_;rintro e w2 ⟨rfl,hB2⟩;rw [show ((p:Int)+1).toNat=p+1 by omega,HM.out]
     have H2:=Held.call hB2 H1
     have c2:=H2.lex.ca
     clear hB1 hB2 H1 c1 H0
     go_wp2_with fail
     refine (lex_digits _ _ _ _ _ _ _ H2.lex (by omega)).mono ?_;rintro e wA ⟨rfl,hBA⟩;rw [show ((p:Int)+2).toNat=p+2 by omega,HM.out,show span (isDig 2) (M.drop (p+2))=0 from HD0.out]
     have Hn:=Held.call hBA H2
     clear hBA H2 c2
     have cm:=Hn.lex.ca
     go_wp2_with fail
     have hspd:=span_le (isDig 10) (M.drop p)
     rw [List.length_drop,hlen.out] at hspd
     have HDl:=zq (digits_len 10 (M.drop p))
     have HOKd:=zq (digits_ok 10 (by decide) (by decide) (M.drop p))
     have cN:=Hn.lex.ca
     generalize hDD:span (isDig 10) (M.drop p)=D at *
     have HDD:=zq hDD
     clear hDD
     go_wp2_with fail
     refine (lex_digits _ _ _ _ _ _ _ Hn.lex (by omega)).mono ?_;rintro e wA ⟨rfl,hBA⟩;rw [Int.toNat_natCast,HM.out,HDD.out]
     have HA:=Held.call hBA Hn
     have cA:=HA.lex.ca
     go_wp2_with fail
     refine (lex_part _ _ _ _ _ _ _ HA.lex (by omega) (by omega) (by omega)).mono ?_;rintro e wB ⟨rfl,hBB⟩;rw [Int.toNat_natCast,HM.out,show ((p:Int)+D-p).toNat=D by omega]
     have HB:=Held.call hBB HA
     go_wp2_with fail
     refine (lex_integer _ _ _ _ _ _ _ _ HB.lex (by rw [HDl.out];omega) (by rw [HDl.out];omega) (by decide) (by decide) HOKd.out).mono ?_;rintro e wC ⟨he,hBC⟩
     have HC:=Held.call hBC HB
     generalize hr:intR _ _ _ _=r at he
     have HR:=zq hr
     clear hr hBA hBB hBC HA HB Hn cN cA
     unfold Gives tokTup at he;subst he
     obtain ⟨t6,v0,v1,v2,v3,v4,v5,t0,t1,t2,t3,t4,t5⟩:=HC.tok
     have hltc:=HC.lt
     go_wp2_with fail
     refine bodyPost_ret (v:=tokTup r) (by simp [tokTup,results,Tryz.results115,go_sem,t0,t1,t2,t3,t4,t5]) rfl ⟨?_,(HC.sets _ _ _ _ _ _).bel⟩
     rw [HK.out,HR.out];rfl
    ·have Hq:True:=trivial
     go_enter Tryz.func115,Tryz.ntmps115
     go_wp2_with fail
     refine (lex_char _ _ _ _ _ _ H0.lex (by omega)).mono ?_;rintro e w1 ⟨rfl,hB1⟩;rw [Int.toNat_natCast,HM.out]
     have H1:=Held.call hB1 H0
     have c1:=H1.lex.ca
     go_wp2_with fail
     refine (lex_char _ _ _ _ _ _ H1.lex (by omega)).mono ?_;rintro e w2 ⟨rfl,hB2⟩;rw [show ((p:Int)+1).toNat=p+1 by omega,HM.out]
     have H2:=Held.call hB2 H1
     have c2:=H2.lex.ca
     clear hB1 hB2 H1 c1 H0
     go_wp2_with fail
     have Hn:=H2
     clear H2
     have hspd:=span_le (isDig 10) (M.drop p)
     rw [List.length_drop,hlen.out] at hspd
     have HDl:=zq (digits_len 10 (M.drop p))
     have HOKd:=zq (digits_ok 10 (by decide) (by decide) (M.drop p))
     have cN:=Hn.lex.ca
     generalize hDD:span (isDig 10) (M.drop p)=D at *
     have HDD:=zq hDD
     clear hDD
     refine (lex_digits _ _ _ _ _ _ _ Hn.lex (by omega)).mono ?_;rintro e wA ⟨rfl,hBA⟩;rw [Int.toNat_natCast,HM.out,HDD.out]
     have HA:=Held.call hBA Hn
     have cA:=HA.lex.ca
     go_wp2_with fail
     refine (lex_part _ _ _ _ _ _ _ HA.lex (by omega) (by omega) (by omega)).mono ?_;rintro e wB ⟨rfl,hBB⟩;rw [Int.toNat_natCast,HM.out,show ((p:Int)+D-p).toNat=D by omega]
     have HB:=Held.call hBB HA
     go_wp2_with fail
     refine (lex_integer _ _ _ _ _ _ _ _ HB.lex (by rw [HDl.out];omega) (by rw [HDl.out];omega) (by decide) (by decide) HOKd.out).mono ?_;rintro e wC ⟨he,hBC⟩
     have HC:=Held.call hBC HB
     generalize hr:intR _ _ _ _=r at he
     have HR:=zq hr
     clear hr hBA hBB hBC HA HB Hn cN cA
     unfold Gives tokTup at he;subst he
     obtain ⟨t6,v0,v1,v2,v3,v4,v5,t0,t1,t2,t3,t4,t5⟩:=HC.tok
     have hltc:=HC.lt
     go_wp2_with fail
     refine bodyPost_ret (v:=tokTup r) (by simp [tokTup,results,Tryz.results115,go_sem,t0,t1,t2,t3,t4,t5]) rfl ⟨?_,(HC.sets _ _ _ _ _ _).bel⟩
     rw [HK.out,HR.out];rfl
 ·have b1:(rawAt M p==48)=false:=by simp [a1]
  have HK:=zq (show numR M s.data.toList p=intR 10 ((M.drop p).take (span (isDig 10) (M.drop p))) p (p+span (isDig 10) (M.drop p)) by unfold numR;rw [if_neg (fun h=>a1 h.1),if_neg (fun h=>absurd h.1 (by unfold numBase;rw [if_neg a1];decide))])
  clear a1
  go_enter Tryz.func115,Tryz.ntmps115
  go_wp2_with fail
  refine (lex_char _ _ _ _ _ _ H0.lex (by omega)).mono ?_;rintro e w1 ⟨rfl,hB1⟩;rw [Int.toNat_natCast,HM.out]
  have H1:=Held.call hB1 H0
  have c1:=H1.lex.ca
  go_wp2_with fail
  have Hn:=H1
  clear H1
  have hspd:=span_le (isDig 10) (M.drop p)
  rw [List.length_drop,hlen.out] at hspd
  have HDl:=zq (digits_len 10 (M.drop p))
  have HOKd:=zq (digits_ok 10 (by decide) (by decide) (M.drop p))
  have cN:=Hn.lex.ca
  generalize hDD:span (isDig 10) (M.drop p)=D at *
  have HDD:=zq hDD
  clear hDD
  refine (lex_digits _ _ _ _ _ _ _ Hn.lex (by omega)).mono ?_;rintro e wA ⟨rfl,hBA⟩;rw [Int.toNat_natCast,HM.out,HDD.out]
  have HA:=Held.call hBA Hn
  have cA:=HA.lex.ca
  go_wp2_with fail
  refine (lex_part _ _ _ _ _ _ _ HA.lex (by omega) (by omega) (by omega)).mono ?_;rintro e wB ⟨rfl,hBB⟩;rw [Int.toNat_natCast,HM.out,show ((p:Int)+D-p).toNat=D by omega]
  have HB:=Held.call hBB HA
  go_wp2_with fail
  refine (lex_integer _ _ _ _ _ _ _ _ HB.lex (by rw [HDl.out];omega) (by rw [HDl.out];omega) (by decide) (by decide) HOKd.out).mono ?_;rintro e wC ⟨he,hBC⟩
  have HC:=Held.call hBC HB
  generalize hr:intR _ _ _ _=r at he
  have HR:=zq hr
  clear hr hBA hBB hBC HA HB Hn cN cA
  unfold Gives tokTup at he;subst he
  obtain ⟨t6,v0,v1,v2,v3,v4,v5,t0,t1,t2,t3,t4,t5⟩:=HC.tok
  have hltc:=HC.lt
  go_wp2_with fail
  refine bodyPost_ret (v:=tokTup r) (by simp [tokTup,results,Tryz.results115,go_sem,t0,t1,t2,t3,t4,t5]) rfl ⟨?_,(HC.sets _ _ _ _ _ _).bel⟩
  rw [HK.out,HR.out];rfl
theorem hown1_len {w:World} {base:Nat} {v:Value} {acc:List UInt8} {x:UInt8} (h:w.ownsRow base 5 1 v (acc.length+1) (Hb.byteCells (acc++[x]))):w.ownsRow base 5 1 v (acc++[x]).length (Hb.byteCells (acc++[x])):=by
 rw [List.length_append];exact h
set_option maxHeartbeats 3200000 in
theorem lex_quote_str (b:Nat) (s:ByteArray) (tab:Int→Int) (p:Nat) (w:World) (h:Lex w b s tab p) (hp:p<s.size) (hq:rawAt (cvt tab s.data.toList) p=34) :
  Calls Tryz.prog 118 #[.pointer (some ⟨b,0,none⟩)] w fun e w'=>Gives (quoteR (cvt tab s.data.toList) s.data.toList p) e∧Below w.heap.size w w':=by
 have H0:=Held.start h
 have hlt:=h.lt
 have ca:=h.ca
 have hsz:=h.sz
 clear h
 have hlen:Hid ((cvt tab s.data.toList).length=s.size):=by show _=_;rw [cvt_len];simp
 generalize hM:cvt tab s.data.toList=M at *
 have HM:=zq hM
 clear hM
 have b1:(rawAt M p==34)=true:=by simp [hq]
 have HK:=zq (show quoteR M s.data.toList p=strRes p (itemAt (s.data.toList.drop (p+1)) 34 [] 0) by unfold quoteR;rw [if_pos hq];unfold itemAt;simp)
 have A1:=zq hq
 clear hq
 have hRl:(s.data.toList.drop (p+1)).length=s.size-(p+1):=by rw [List.length_drop,size_data]
 have HRl:=zq hRl
 clear hRl
 go_enter Tryz.func118,Tryz.ntmps118
 go_wp2_with fail
 go_step3
 go_wp2_with fail
 refine (lex_char _ _ _ _ _ _ H0.lex (by omega)).mono ?_;rintro e w1 ⟨rfl,hB1⟩;rw [Int.toNat_natCast,HM.out]
 have H1:=Held.call hB1 H0
 have c1:=H1.lex.ca
 rw [A1.out]
 go_wp2_with fail
 go_step3
 go_wp2_with fail
 go_loopw [6,7] (fun v i wr=>∃j:Nat,∃acc:List UInt8,p+1+j≤s.size∧acc.length≤j∧i=.int .i64 (p+1+j:Nat)∧Held w wr b s tab p∧wr.ownsRow (w.heap.size+1) 5 1 v acc.length (Hb.byteCells acc)∧Hid (itemAt (s.data.toList.drop (p+1)) 34 acc j=itemAt (s.data.toList.drop (p+1)) 34 [] 0)) (fun _ i _=>s.size-(intOf i).toNat)
 case atStart=>exact ⟨0,[],by omega,Nat.le_refl _,by go_num,H1,⟨by simp [Hb.byteCells],.inl ⟨rfl,rfl⟩⟩,rfl⟩
 case round=>
  obtain ⟨j,acc,hj,hal,rfl,HX,hown,HE⟩:=hrel
  have hlenX:=HX.lt
  have cX:=HX.lex.ca
  have E0:=zq (rawAt_drop s.data.toList (p+1) j)
  have E1:Hid (rawAt (s.data.toList.drop (p+1)) (j+1)=rawAt s.data.toList (p+1+j+1)):=rawAt_drop s.data.toList (p+1) (j+1)
  by_cases d0:rawAt s.data.toList (p+1+j)=34
  ·have b0:(rawAt s.data.toList (p+1+j)==34)=true:=by simp [d0]
   have b2:(rawAt s.data.toList (p+1+j)==92)=false:=by simp [d0]
   by_cases d1:rawAt s.data.toList (p+1+j+1)=34
   ·have b3:(rawAt s.data.toList (p+1+j+1) != 34)=false:=by simp [d1]
    have hn1:¬(rawAt s.data.toList (p+1+j)=34∧¬rawAt s.data.toList (p+1+j+1)=34):=fun h=>h.2 d1
    have hn2:¬(rawAt s.data.toList (p+1+j)=92∧rawAt s.data.toList (p+1+j+1)=10):=fun h=>absurd h.1 (by rw [d0];decide)
    clear d0 d1
    cases hqs:quotedS (s.data.toList.drop (p+1+j)) 34 with
    | none=>
     have HI:=zq (itemAt_none (s.data.toList.drop (p+1)) 34 (by decide) acc j (by rw [E0.out,E1.out];exact hn1) (by rw [E0.out,E1.out];exact hn2) (by rw [List.drop_drop];exact hqs))
     have HQ:=zq hqs
     clear hqs hn1 hn2
     go_wp2_with fail
     refine (lex_raw _ _ _ _ _ _ HX.lex (by omega)).mono ?_;rintro e wz ⟨rfl,rfl⟩;rw [show ((p:Int)+1+j).toNat=p+1+j by omega]
     go_wp2_with fail
     refine (lex_raw _ _ _ _ _ _ HX.lex (by omega)).mono ?_;rintro e wz ⟨rfl,rfl⟩;rw [show ((p:Int)+1+j+1).toNat=p+1+j+1 by omega]
     go_wp2_with fail
     refine (lex_raw _ _ _ _ _ _ HX.lex (by omega)).mono ?_;rintro e wz ⟨rfl,rfl⟩;rw [show ((p:Int)+1+j).toNat=p+1+j by omega]
     go_wp2_with fail
     refine (lex_quoted _ _ _ _ _ _ _ HX.lex (by omega) (by omega)).mono ?_;rintro e wz ⟨he,rfl⟩;rw [show ((p:Int)+1+j).toNat=p+1+j by omega,HQ.out] at he
     obtain ⟨x,y,rfl⟩:=he
     obtain ⟨t6,v0,v1,v2,v3,v4,v5,t0,t1,t2,t3,t4,t5⟩:=HX.tok
     have hltc:=HX.lt
     go_wp2_with fail
     try rw [Exit.noGoto_ret]
     refine bodyPost_ret (v:=tokTup (errR 7)) (by simp [tokTup,errR,results,Tryz.results118,go_sem,t0,t1,t2,t3,t4,t5]) rfl ⟨?_,(HX.sets _ _ _ _ _ _).bel⟩
     rw [HK.out,←HE.out,HI.out];rfl
    | some ck=>
     obtain ⟨c,k⟩:=ck
     have hok:=quotedS_ok _ _ _ _ (by decide) hqs
     rw [List.length_drop] at hok
     have HI:=zq (itemAt_some (s.data.toList.drop (p+1)) 34 (by decide) acc j k c (by rw [E0.out,E1.out];exact hn1) (by rw [E0.out,E1.out];exact hn2) (by rw [List.drop_drop];exact hqs))
     have HQ:=zq hqs
     have hk1:1≤k:=hok.1
     have hk2:p+1+j+k≤s.size:=by have:=hok.2.1;have:=hok.1;rw [size_data] at *;omega
     have hc0:0≤c:=hok.2.2.1
     have hc1:c≤255:=hok.2.2.2
     clear hqs hn1 hn2 hok
     go_wp2_with fail
     refine (lex_raw _ _ _ _ _ _ HX.lex (by omega)).mono ?_;rintro e wz ⟨rfl,rfl⟩;rw [show ((p:Int)+1+j).toNat=p+1+j by omega]
     go_wp2_with fail
     refine (lex_raw _ _ _ _ _ _ HX.lex (by omega)).mono ?_;rintro e wz ⟨rfl,rfl⟩;rw [show ((p:Int)+1+j+1).toNat=p+1+j+1 by omega]
     go_wp2_with fail
     refine (lex_raw _ _ _ _ _ _ HX.lex (by omega)).mono ?_;rintro e wz ⟨rfl,rfl⟩;rw [show ((p:Int)+1+j).toNat=p+1+j by omega]
     go_wp2_with fail
     refine (lex_quoted _ _ _ _ _ _ _ HX.lex (by omega) (by omega)).mono ?_;rintro e wz ⟨he,rfl⟩;rw [show ((p:Int)+1+j).toNat=p+1+j by omega,HQ.out] at he
     unfold QRes at he
     simp only [] at he
     subst he
     go_wp2_with (at_builtin;go_must (refine wpList_append_byte rfl _ _ 44 5 rfl Tryz.underlying44 infoU8 (w.heap.size+1) _ _ _ rfl _ hown _ hc0 hc1 rfl rfl (by omega) (by have:=HX.lt;omega) ?_;intro v1 w2 hown1 hB2))
     have HX2:=Held.callB hB2 (by omega) HX
     go_roundw
     case rel=>exact ⟨j+k,acc++[c.toNat.toUInt8],by omega,by simp;omega,by go_num,HX2,hown1_len hown1,by rw [←HI.out];exact HE.out⟩
     case measure=>simp [intOf];omega
   ·have b3:(rawAt s.data.toList (p+1+j+1) != 34)=true:=by simp [d1]
    have HI:=zq (itemAt_end (s.data.toList.drop (p+1)) 34 (by decide) acc j (by rw [E0.out];exact d0) (by rw [E1.out];exact d1))
    clear d0 d1
    have hc:=conv_own (P:=Tryz.prog) wr 44 9 5 Tryz.underlying44 Tryz.underlying5 Tryz.underlying9 _ _ _ _ hown
    obtain ⟨t6,v0,v1,v2,v3,v4,v5,t0,t1,t2,t3,t4,t5⟩:=HX.tok
    go_wp2_with fail
    refine (lex_raw _ _ _ _ _ _ HX.lex (by omega)).mono ?_;rintro e wz ⟨rfl,rfl⟩;rw [show ((p:Int)+1+j).toNat=p+1+j by omega]
    go_wp2_with fail
    refine (lex_raw _ _ _ _ _ _ HX.lex (by omega)).mono ?_;rintro e wz ⟨rfl,rfl⟩;rw [show ((p:Int)+1+j+1).toNat=p+1+j+1 by omega]
    go_wp2_with fail
    have hltc:=HX.lt
    have hcd:=conv_own (P:=Tryz.prog) wr.drew 44 9 5 Tryz.underlying44 Tryz.underlying5 Tryz.underlying9 _ _ _ _ hown.drew
    go_region
    go_wp2_with fail
    try rw [Exit.noGoto_ret]
    refine bodyPost_ret (v:=tokTup ⟨5,acc,0,p,p+1+j+1,0⟩) (by simp [tokTup,results,Tryz.results118,go_sem,t0,t1,t2,t3,t4,t5]) rfl ⟨?_,(HX.sets _ _ _ _ _ _).drew.bel⟩
    rw [HK.out,←HE.out,HI.out];rfl
  ·have b0:(rawAt s.data.toList (p+1+j)==34)=false:=by simp [d0]
   have hn1:¬(rawAt s.data.toList (p+1+j)=34∧¬rawAt s.data.toList (p+1+j+1)=34):=fun h=>d0 h.1
   clear d0
   by_cases d2:rawAt s.data.toList (p+1+j)=92
   ·have b2:(rawAt s.data.toList (p+1+j)==92)=true:=by simp [d2]
    by_cases d3:rawAt s.data.toList (p+1+j+1)=10
    ·have b3:(rawAt s.data.toList (p+1+j+1)==10)=true:=by simp [d3]
     have HI:=zq (itemAt_cont (s.data.toList.drop (p+1)) 34 (by decide) acc j (by rw [E0.out,E1.out];exact hn1) (by rw [E0.out];exact d2) (by rw [E1.out];exact d3))
     have hk2:p+1+j+2≤s.size:=by have:=rawAt_neg s.data.toList (p+1+j+1);rw [size_data] at this;omega
     clear d2 d3 hn1
     go_wp2_with fail
     refine (lex_raw _ _ _ _ _ _ HX.lex (by omega)).mono ?_;rintro e wz ⟨rfl,rfl⟩;rw [show ((p:Int)+1+j).toNat=p+1+j by omega]
     go_wp2_with fail
     refine (lex_raw _ _ _ _ _ _ HX.lex (by omega)).mono ?_;rintro e wz ⟨rfl,rfl⟩;rw [show ((p:Int)+1+j).toNat=p+1+j by omega]
     go_wp2_with fail
     refine (lex_raw _ _ _ _ _ _ HX.lex (by omega)).mono ?_;rintro e wz ⟨rfl,rfl⟩;rw [show ((p:Int)+1+j+1).toNat=p+1+j+1 by omega]
     go_wp2_with fail
     go_roundw
     case rel=>exact ⟨j+2,acc,by omega,by omega,by go_num,HX,hown,by rw [←HI.out];exact HE.out⟩
     case measure=>simp [intOf];omega
    ·have b3:(rawAt s.data.toList (p+1+j+1)==10)=false:=by simp [d3]
     have hn2:¬(rawAt s.data.toList (p+1+j)=92∧rawAt s.data.toList (p+1+j+1)=10):=fun h=>d3 h.2
     clear d2 d3
     cases hqs:quotedS (s.data.toList.drop (p+1+j)) 34 with
     | none=>
      have HI:=zq (itemAt_none (s.data.toList.drop (p+1)) 34 (by decide) acc j (by rw [E0.out,E1.out];exact hn1) (by rw [E0.out,E1.out];exact hn2) (by rw [List.drop_drop];exact hqs))
      have HQ:=zq hqs
      clear hqs hn1 hn2
      go_wp2_with fail
      refine (lex_raw _ _ _ _ _ _ HX.lex (by omega)).mono ?_;rintro e wz ⟨rfl,rfl⟩;rw [show ((p:Int)+1+j).toNat=p+1+j by omega]
      go_wp2_with fail
      refine (lex_raw _ _ _ _ _ _ HX.lex (by omega)).mono ?_;rintro e wz ⟨rfl,rfl⟩;rw [show ((p:Int)+1+j).toNat=p+1+j by omega]
      go_wp2_with fail
      refine (lex_raw _ _ _ _ _ _ HX.lex (by omega)).mono ?_;rintro e wz ⟨rfl,rfl⟩;rw [show ((p:Int)+1+j+1).toNat=p+1+j+1 by omega]
      go_wp2_with fail
      refine (lex_quoted _ _ _ _ _ _ _ HX.lex (by omega) (by omega)).mono ?_;rintro e wz ⟨he,rfl⟩;rw [show ((p:Int)+1+j).toNat=p+1+j by omega,HQ.out] at he
      obtain ⟨x,y,rfl⟩:=he
      obtain ⟨t6,v0,v1,v2,v3,v4,v5,t0,t1,t2,t3,t4,t5⟩:=HX.tok
      have hltc:=HX.lt
      go_wp2_with fail
      try rw [Exit.noGoto_ret]
      refine bodyPost_ret (v:=tokTup (errR 7)) (by simp [tokTup,errR,results,Tryz.results118,go_sem,t0,t1,t2,t3,t4,t5]) rfl ⟨?_,(HX.sets _ _ _ _ _ _).bel⟩
      rw [HK.out,←HE.out,HI.out];rfl
     | some ck=>
      obtain ⟨c,k⟩:=ck
      have hok:=quotedS_ok _ _ _ _ (by decide) hqs
      rw [List.length_drop] at hok
      have HI:=zq (itemAt_some (s.data.toList.drop (p+1)) 34 (by decide) acc j k c (by rw [E0.out,E1.out];exact hn1) (by rw [E0.out,E1.out];exact hn2) (by rw [List.drop_drop];exact hqs))
      have HQ:=zq hqs
      have hk1:1≤k:=hok.1
      have hk2:p+1+j+k≤s.size:=by have:=hok.2.1;have:=hok.1;rw [size_data] at *;omega
      have hc0:0≤c:=hok.2.2.1
      have hc1:c≤255:=hok.2.2.2
      clear hqs hn1 hn2 hok
      go_wp2_with fail
      refine (lex_raw _ _ _ _ _ _ HX.lex (by omega)).mono ?_;rintro e wz ⟨rfl,rfl⟩;rw [show ((p:Int)+1+j).toNat=p+1+j by omega]
      go_wp2_with fail
      refine (lex_raw _ _ _ _ _ _ HX.lex (by omega)).mono ?_;rintro e wz ⟨rfl,rfl⟩;rw [show ((p:Int)+1+j).toNat=p+1+j by omega]
      go_wp2_with fail
      refine (lex_raw _ _ _ _ _ _ HX.lex (by omega)).mono ?_;rintro e wz ⟨rfl,rfl⟩;rw [show ((p:Int)+1+j+1).toNat=p+1+j+1 by omega]
      go_wp2_with fail
      refine (lex_quoted _ _ _ _ _ _ _ HX.lex (by omega) (by omega)).mono ?_;rintro e wz ⟨he,rfl⟩;rw [show ((p:Int)+1+j).toNat=p+1+j by omega,HQ.out] at he
      unfold QRes at he
      simp only [] at he
      subst he
      go_wp2_with (at_builtin;go_must (refine wpList_append_byte rfl _ _ 44 5 rfl Tryz.underlying44 infoU8 (w.heap.size+1) _ _ _ rfl _ hown _ hc0 hc1 rfl rfl (by omega) (by have:=HX.lt;omega) ?_;intro v1 w2 hown1 hB2))
      have HX2:=Held.callB hB2 (by omega) HX
      go_roundw
      case rel=>exact ⟨j+k,acc++[c.toNat.toUInt8],by omega,by simp;omega,by go_num,HX2,hown1_len hown1,by rw [←HI.out];exact HE.out⟩
      case measure=>simp [intOf];omega
   ·have b2:(rawAt s.data.toList (p+1+j)==92)=false:=by simp [d2]
    have hn2:¬(rawAt s.data.toList (p+1+j)=92∧rawAt s.data.toList (p+1+j+1)=10):=fun h=>d2 h.1
    clear d2
    cases hqs:quotedS (s.data.toList.drop (p+1+j)) 34 with
    | none=>
     have HI:=zq (itemAt_none (s.data.toList.drop (p+1)) 34 (by decide) acc j (by rw [E0.out,E1.out];exact hn1) (by rw [E0.out,E1.out];exact hn2) (by rw [List.drop_drop];exact hqs))
     have HQ:=zq hqs
     clear hqs hn1 hn2
     go_wp2_with fail
     refine (lex_raw _ _ _ _ _ _ HX.lex (by omega)).mono ?_;rintro e wz ⟨rfl,rfl⟩;rw [show ((p:Int)+1+j).toNat=p+1+j by omega]
     go_wp2_with fail
     refine (lex_raw _ _ _ _ _ _ HX.lex (by omega)).mono ?_;rintro e wz ⟨rfl,rfl⟩;rw [show ((p:Int)+1+j).toNat=p+1+j by omega]
     go_wp2_with fail
     refine (lex_quoted _ _ _ _ _ _ _ HX.lex (by omega) (by omega)).mono ?_;rintro e wz ⟨he,rfl⟩;rw [show ((p:Int)+1+j).toNat=p+1+j by omega,HQ.out] at he
     obtain ⟨x,y,rfl⟩:=he
     obtain ⟨t6,v0,v1,v2,v3,v4,v5,t0,t1,t2,t3,t4,t5⟩:=HX.tok
     have hltc:=HX.lt
     go_wp2_with fail
     try rw [Exit.noGoto_ret]
     refine bodyPost_ret (v:=tokTup (errR 7)) (by simp [tokTup,errR,results,Tryz.results118,go_sem,t0,t1,t2,t3,t4,t5]) rfl ⟨?_,(HX.sets _ _ _ _ _ _).bel⟩
     rw [HK.out,←HE.out,HI.out];rfl
    | some ck=>
     obtain ⟨c,k⟩:=ck
     have hok:=quotedS_ok _ _ _ _ (by decide) hqs
     rw [List.length_drop] at hok
     have HI:=zq (itemAt_some (s.data.toList.drop (p+1)) 34 (by decide) acc j k c (by rw [E0.out,E1.out];exact hn1) (by rw [E0.out,E1.out];exact hn2) (by rw [List.drop_drop];exact hqs))
     have HQ:=zq hqs
     have hk1:1≤k:=hok.1
     have hk2:p+1+j+k≤s.size:=by have:=hok.2.1;have:=hok.1;rw [size_data] at *;omega
     have hc0:0≤c:=hok.2.2.1
     have hc1:c≤255:=hok.2.2.2
     clear hqs hn1 hn2 hok
     go_wp2_with fail
     refine (lex_raw _ _ _ _ _ _ HX.lex (by omega)).mono ?_;rintro e wz ⟨rfl,rfl⟩;rw [show ((p:Int)+1+j).toNat=p+1+j by omega]
     go_wp2_with fail
     refine (lex_raw _ _ _ _ _ _ HX.lex (by omega)).mono ?_;rintro e wz ⟨rfl,rfl⟩;rw [show ((p:Int)+1+j).toNat=p+1+j by omega]
     go_wp2_with fail
     refine (lex_quoted _ _ _ _ _ _ _ HX.lex (by omega) (by omega)).mono ?_;rintro e wz ⟨he,rfl⟩;rw [show ((p:Int)+1+j).toNat=p+1+j by omega,HQ.out] at he
     unfold QRes at he
     simp only [] at he
     subst he
     go_wp2_with (at_builtin;go_must (refine wpList_append_byte rfl _ _ 44 5 rfl Tryz.underlying44 infoU8 (w.heap.size+1) _ _ _ rfl _ hown _ hc0 hc1 rfl rfl (by omega) (by have:=HX.lt;omega) ?_;intro v1 w2 hown1 hB2))
     have HX2:=Held.callB hB2 (by omega) HX
     go_roundw
     case rel=>exact ⟨j+k,acc++[c.toNat.toUInt8],by omega,by simp;omega,by go_num,HX2,hown1_len hown1,by rw [←HI.out];exact HE.out⟩
     case measure=>simp [intOf];omega
set_option maxHeartbeats 3200000 in
theorem lex_quote_nm (b:Nat) (s:ByteArray) (tab:Int→Int) (p:Nat) (w:World) (h:Lex w b s tab p) (hp:p<s.size) (hq:rawAt (cvt tab s.data.toList) p=39) :
  Calls Tryz.prog 118 #[.pointer (some ⟨b,0,none⟩)] w fun e w'=>Gives (quoteR (cvt tab s.data.toList) s.data.toList p) e∧Below w.heap.size w w':=by
 have H0:=Held.start h
 have hlt:=h.lt
 have ca:=h.ca
 have hsz:=h.sz
 clear h
 have hlen:Hid ((cvt tab s.data.toList).length=s.size):=by show _=_;rw [cvt_len];simp
 generalize hM:cvt tab s.data.toList=M at *
 have HM:=zq hM
 clear hM
 have b1:(rawAt M p==39)=true:=by simp [hq]
 have HK:=zq (show quoteR M s.data.toList p=nmRes p (itemAt (s.data.toList.drop (p+1)) 39 [] 0) by unfold quoteR;rw [if_neg (by rw [hq];decide),if_pos hq];unfold itemAt;simp)
 have A1:=zq hq
 clear hq
 have hRl:(s.data.toList.drop (p+1)).length=s.size-(p+1):=by rw [List.length_drop,size_data]
 have HRl:=zq hRl
 clear hRl
 go_enter Tryz.func118,Tryz.ntmps118
 go_wp2_with fail
 go_step3
 go_wp2_with fail
 refine (lex_char _ _ _ _ _ _ H0.lex (by omega)).mono ?_;rintro e w1 ⟨rfl,hB1⟩;rw [Int.toNat_natCast,HM.out]
 have H1:=Held.call hB1 H0
 have c1:=H1.lex.ca
 rw [A1.out]
 go_wp2_with fail
 go_step3
 go_wp2_with fail
 go_loopw [6,7] (fun v i wr=>∃j:Nat,∃acc:List UInt8,p+1+j≤s.size∧acc.length≤j∧i=.int .i64 (p+1+j:Nat)∧Held w wr b s tab p∧wr.ownsRow (w.heap.size+1) 5 1 v acc.length (Hb.byteCells acc)∧Hid (itemAt (s.data.toList.drop (p+1)) 39 acc j=itemAt (s.data.toList.drop (p+1)) 39 [] 0)) (fun _ i _=>s.size-(intOf i).toNat)
 case atStart=>exact ⟨0,[],by omega,Nat.le_refl _,by go_num,H1,⟨by simp [Hb.byteCells],.inl ⟨rfl,rfl⟩⟩,rfl⟩
 case round=>
  obtain ⟨j,acc,hj,hal,rfl,HX,hown,HE⟩:=hrel
  have hlenX:=HX.lt
  have cX:=HX.lex.ca
  have E0:=zq (rawAt_drop s.data.toList (p+1) j)
  have E1:Hid (rawAt (s.data.toList.drop (p+1)) (j+1)=rawAt s.data.toList (p+1+j+1)):=rawAt_drop s.data.toList (p+1) (j+1)
  by_cases d0:rawAt s.data.toList (p+1+j)=39
  ·have b0:(rawAt s.data.toList (p+1+j)==39)=true:=by simp [d0]
   have b2:(rawAt s.data.toList (p+1+j)==92)=false:=by simp [d0]
   by_cases d1:rawAt s.data.toList (p+1+j+1)=39
   ·have b3:(rawAt s.data.toList (p+1+j+1) != 39)=false:=by simp [d1]
    have hn1:¬(rawAt s.data.toList (p+1+j)=39∧¬rawAt s.data.toList (p+1+j+1)=39):=fun h=>h.2 d1
    have hn2:¬(rawAt s.data.toList (p+1+j)=92∧rawAt s.data.toList (p+1+j+1)=10):=fun h=>absurd h.1 (by rw [d0];decide)
    clear d0 d1
    cases hqs:quotedS (s.data.toList.drop (p+1+j)) 39 with
    | none=>
     have HI:=zq (itemAt_none (s.data.toList.drop (p+1)) 39 (by decide) acc j (by rw [E0.out,E1.out];exact hn1) (by rw [E0.out,E1.out];exact hn2) (by rw [List.drop_drop];exact hqs))
     have HQ:=zq hqs
     clear hqs hn1 hn2
     go_wp2_with fail
     refine (lex_raw _ _ _ _ _ _ HX.lex (by omega)).mono ?_;rintro e wz ⟨rfl,rfl⟩;rw [show ((p:Int)+1+j).toNat=p+1+j by omega]
     go_wp2_with fail
     refine (lex_raw _ _ _ _ _ _ HX.lex (by omega)).mono ?_;rintro e wz ⟨rfl,rfl⟩;rw [show ((p:Int)+1+j+1).toNat=p+1+j+1 by omega]
     go_wp2_with fail
     refine (lex_raw _ _ _ _ _ _ HX.lex (by omega)).mono ?_;rintro e wz ⟨rfl,rfl⟩;rw [show ((p:Int)+1+j).toNat=p+1+j by omega]
     go_wp2_with fail
     refine (lex_quoted _ _ _ _ _ _ _ HX.lex (by omega) (by omega)).mono ?_;rintro e wz ⟨he,rfl⟩;rw [show ((p:Int)+1+j).toNat=p+1+j by omega,HQ.out] at he
     obtain ⟨x,y,rfl⟩:=he
     obtain ⟨t6,v0,v1,v2,v3,v4,v5,t0,t1,t2,t3,t4,t5⟩:=HX.tok
     have hltc:=HX.lt
     go_wp2_with fail
     try rw [Exit.noGoto_ret]
     refine bodyPost_ret (v:=tokTup (errR 7)) (by simp [tokTup,errR,results,Tryz.results118,go_sem,t0,t1,t2,t3,t4,t5]) rfl ⟨?_,(HX.sets _ _ _ _ _ _).bel⟩
     rw [HK.out,←HE.out,HI.out];rfl
    | some ck=>
     obtain ⟨c,k⟩:=ck
     have hok:=quotedS_ok _ _ _ _ (by decide) hqs
     rw [List.length_drop] at hok
     have HI:=zq (itemAt_some (s.data.toList.drop (p+1)) 39 (by decide) acc j k c (by rw [E0.out,E1.out];exact hn1) (by rw [E0.out,E1.out];exact hn2) (by rw [List.drop_drop];exact hqs))
     have HQ:=zq hqs
     have hk1:1≤k:=hok.1
     have hk2:p+1+j+k≤s.size:=by have:=hok.2.1;have:=hok.1;rw [size_data] at *;omega
     have hc0:0≤c:=hok.2.2.1
     have hc1:c≤255:=hok.2.2.2
     clear hqs hn1 hn2 hok
     go_wp2_with fail
     refine (lex_raw _ _ _ _ _ _ HX.lex (by omega)).mono ?_;rintro e wz ⟨rfl,rfl⟩;rw [show ((p:Int)+1+j).toNat=p+1+j by omega]
     go_wp2_with fail
     refine (lex_raw _ _ _ _ _ _ HX.lex (by omega)).mono ?_;rintro e wz ⟨rfl,rfl⟩;rw [show ((p:Int)+1+j+1).toNat=p+1+j+1 by omega]
     go_wp2_with fail
     refine (lex_raw _ _ _ _ _ _ HX.lex (by omega)).mono ?_;rintro e wz ⟨rfl,rfl⟩;rw [show ((p:Int)+1+j).toNat=p+1+j by omega]
     go_wp2_with fail
     refine (lex_quoted _ _ _ _ _ _ _ HX.lex (by omega) (by omega)).mono ?_;rintro e wz ⟨he,rfl⟩;rw [show ((p:Int)+1+j).toNat=p+1+j by omega,HQ.out] at he
     unfold QRes at he
     simp only [] at he
     subst he
     go_wp2_with (at_builtin;go_must (refine wpList_append_byte rfl _ _ 44 5 rfl Tryz.underlying44 infoU8 (w.heap.size+1) _ _ _ rfl _ hown _ hc0 hc1 rfl rfl (by omega) (by have:=HX.lt;omega) ?_;intro v1 w2 hown1 hB2))
     have HX2:=Held.callB hB2 (by omega) HX
     go_roundw
     case rel=>exact ⟨j+k,acc++[c.toNat.toUInt8],by omega,by simp;omega,by go_num,HX2,hown1_len hown1,by rw [←HI.out];exact HE.out⟩
     case measure=>simp [intOf];omega
   ·have b3:(rawAt s.data.toList (p+1+j+1) != 39)=true:=by simp [d1]
    have HI:=zq (itemAt_end (s.data.toList.drop (p+1)) 39 (by decide) acc j (by rw [E0.out];exact d0) (by rw [E1.out];exact d1))
    clear d0 d1
    have hc:=conv_own (P:=Tryz.prog) wr 44 9 5 Tryz.underlying44 Tryz.underlying5 Tryz.underlying9 _ _ _ _ hown
    obtain ⟨t6,v0,v1,v2,v3,v4,v5,t0,t1,t2,t3,t4,t5⟩:=HX.tok
    go_wp2_with fail
    refine (lex_raw _ _ _ _ _ _ HX.lex (by omega)).mono ?_;rintro e wz ⟨rfl,rfl⟩;rw [show ((p:Int)+1+j).toNat=p+1+j by omega]
    go_wp2_with fail
    refine (lex_raw _ _ _ _ _ _ HX.lex (by omega)).mono ?_;rintro e wz ⟨rfl,rfl⟩;rw [show ((p:Int)+1+j+1).toNat=p+1+j+1 by omega]
    go_wp2_with fail
    refine (lex_named _ _ _ _ _ _ _ _ HX.lex (by omega)).mono ?_;rintro e w2 ⟨he,hB2⟩
    have HC:=Held.call hB2 HX
    generalize hr:namedR _ _ _ _=r at he
    have HR:=zq hr
    clear hr t0 t1 t2 t3 t4 t5 t6
    unfold Gives tokTup at he;subst he
    obtain ⟨t6,v0,v1,v2,v3,v4,v5,t0,t1,t2,t3,t4,t5⟩:=HC.tok
    have hltc:=HC.lt
    go_wp2_with fail
    try rw [Exit.noGoto_ret]
    refine bodyPost_ret (v:=tokTup r) (by simp [tokTup,results,Tryz.results118,go_sem,t0,t1,t2,t3,t4,t5]) rfl ⟨?_,(HC.sets _ _ _ _ _ _).bel⟩
    rw [HK.out,←HE.out,HI.out,←HR.out];rfl
  ·have b0:(rawAt s.data.toList (p+1+j)==39)=false:=by simp [d0]
   have hn1:¬(rawAt s.data.toList (p+1+j)=39∧¬rawAt s.data.toList (p+1+j+1)=39):=fun h=>d0 h.1
   clear d0
   by_cases d2:rawAt s.data.toList (p+1+j)=92
   ·have b2:(rawAt s.data.toList (p+1+j)==92)=true:=by simp [d2]
    by_cases d3:rawAt s.data.toList (p+1+j+1)=10
    ·have b3:(rawAt s.data.toList (p+1+j+1)==10)=true:=by simp [d3]
     have HI:=zq (itemAt_cont (s.data.toList.drop (p+1)) 39 (by decide) acc j (by rw [E0.out,E1.out];exact hn1) (by rw [E0.out];exact d2) (by rw [E1.out];exact d3))
     have hk2:p+1+j+2≤s.size:=by have:=rawAt_neg s.data.toList (p+1+j+1);rw [size_data] at this;omega
     clear d2 d3 hn1
     go_wp2_with fail
     refine (lex_raw _ _ _ _ _ _ HX.lex (by omega)).mono ?_;rintro e wz ⟨rfl,rfl⟩;rw [show ((p:Int)+1+j).toNat=p+1+j by omega]
     go_wp2_with fail
     refine (lex_raw _ _ _ _ _ _ HX.lex (by omega)).mono ?_;rintro e wz ⟨rfl,rfl⟩;rw [show ((p:Int)+1+j).toNat=p+1+j by omega]
     go_wp2_with fail
     refine (lex_raw _ _ _ _ _ _ HX.lex (by omega)).mono ?_;rintro e wz ⟨rfl,rfl⟩;rw [show ((p:Int)+1+j+1).toNat=p+1+j+1 by omega]
     go_wp2_with fail
     go_roundw
     case rel=>exact ⟨j+2,acc,by omega,by omega,by go_num,HX,hown,by rw [←HI.out];exact HE.out⟩
     case measure=>simp [intOf];omega
    ·have b3:(rawAt s.data.toList (p+1+j+1)==10)=false:=by simp [d3]
     have hn2:¬(rawAt s.data.toList (p+1+j)=92∧rawAt s.data.toList (p+1+j+1)=10):=fun h=>d3 h.2
     clear d2 d3
     cases hqs:quotedS (s.data.toList.drop (p+1+j)) 39 with
     | none=>
      have HI:=zq (itemAt_none (s.data.toList.drop (p+1)) 39 (by decide) acc j (by rw [E0.out,E1.out];exact hn1) (by rw [E0.out,E1.out];exact hn2) (by rw [List.drop_drop];exact hqs))
      have HQ:=zq hqs
      clear hqs hn1 hn2
      go_wp2_with fail
      refine (lex_raw _ _ _ _ _ _ HX.lex (by omega)).mono ?_;rintro e wz ⟨rfl,rfl⟩;rw [show ((p:Int)+1+j).toNat=p+1+j by omega]
      go_wp2_with fail
      refine (lex_raw _ _ _ _ _ _ HX.lex (by omega)).mono ?_;rintro e wz ⟨rfl,rfl⟩;rw [show ((p:Int)+1+j).toNat=p+1+j by omega]
      go_wp2_with fail
      refine (lex_raw _ _ _ _ _ _ HX.lex (by omega)).mono ?_;rintro e wz ⟨rfl,rfl⟩;rw [show ((p:Int)+1+j+1).toNat=p+1+j+1 by omega]
      go_wp2_with fail
      refine (lex_quoted _ _ _ _ _ _ _ HX.lex (by omega) (by omega)).mono ?_;rintro e wz ⟨he,rfl⟩;rw [show ((p:Int)+1+j).toNat=p+1+j by omega,HQ.out] at he
      obtain ⟨x,y,rfl⟩:=he
      obtain ⟨t6,v0,v1,v2,v3,v4,v5,t0,t1,t2,t3,t4,t5⟩:=HX.tok
      have hltc:=HX.lt
      go_wp2_with fail
      try rw [Exit.noGoto_ret]
      refine bodyPost_ret (v:=tokTup (errR 7)) (by simp [tokTup,errR,results,Tryz.results118,go_sem,t0,t1,t2,t3,t4,t5]) rfl ⟨?_,(HX.sets _ _ _ _ _ _).bel⟩
      rw [HK.out,←HE.out,HI.out];rfl
     | some ck=>
      obtain ⟨c,k⟩:=ck
      have hok:=quotedS_ok _ _ _ _ (by decide) hqs
      rw [List.length_drop] at hok
      have HI:=zq (itemAt_some (s.data.toList.drop (p+1)) 39 (by decide) acc j k c (by rw [E0.out,E1.out];exact hn1) (by rw [E0.out,E1.out];exact hn2) (by rw [List.drop_drop];exact hqs))
      have HQ:=zq hqs
      have hk1:1≤k:=hok.1
      have hk2:p+1+j+k≤s.size:=by have:=hok.2.1;have:=hok.1;rw [size_data] at *;omega
      have hc0:0≤c:=hok.2.2.1
      have hc1:c≤255:=hok.2.2.2
      clear hqs hn1 hn2 hok
      go_wp2_with fail
      refine (lex_raw _ _ _ _ _ _ HX.lex (by omega)).mono ?_;rintro e wz ⟨rfl,rfl⟩;rw [show ((p:Int)+1+j).toNat=p+1+j by omega]
      go_wp2_with fail
      refine (lex_raw _ _ _ _ _ _ HX.lex (by omega)).mono ?_;rintro e wz ⟨rfl,rfl⟩;rw [show ((p:Int)+1+j).toNat=p+1+j by omega]
      go_wp2_with fail
      refine (lex_raw _ _ _ _ _ _ HX.lex (by omega)).mono ?_;rintro e wz ⟨rfl,rfl⟩;rw [show ((p:Int)+1+j+1).toNat=p+1+j+1 by omega]
      go_wp2_with fail
      refine (lex_quoted _ _ _ _ _ _ _ HX.lex (by omega) (by omega)).mono ?_;rintro e wz ⟨he,rfl⟩;rw [show ((p:Int)+1+j).toNat=p+1+j by omega,HQ.out] at he
      unfold QRes at he
      simp only [] at he
      subst he
      go_wp2_with (at_builtin;go_must (refine wpList_append_byte rfl _ _ 44 5 rfl Tryz.underlying44 infoU8 (w.heap.size+1) _ _ _ rfl _ hown _ hc0 hc1 rfl rfl (by omega) (by have:=HX.lt;omega) ?_;intro v1 w2 hown1 hB2))
      have HX2:=Held.callB hB2 (by omega) HX
      go_roundw
      case rel=>exact ⟨j+k,acc++[c.toNat.toUInt8],by omega,by simp;omega,by go_num,HX2,hown1_len hown1,by rw [←HI.out];exact HE.out⟩
      case measure=>simp [intOf];omega
   ·have b2:(rawAt s.data.toList (p+1+j)==92)=false:=by simp [d2]
    have hn2:¬(rawAt s.data.toList (p+1+j)=92∧rawAt s.data.toList (p+1+j+1)=10):=fun h=>d2 h.1
    clear d2
    cases hqs:quotedS (s.data.toList.drop (p+1+j)) 39 with
    | none=>
     have HI:=zq (itemAt_none (s.data.toList.drop (p+1)) 39 (by decide) acc j (by rw [E0.out,E1.out];exact hn1) (by rw [E0.out,E1.out];exact hn2) (by rw [List.drop_drop];exact hqs))
     have HQ:=zq hqs
     clear hqs hn1 hn2
     go_wp2_with fail
     refine (lex_raw _ _ _ _ _ _ HX.lex (by omega)).mono ?_;rintro e wz ⟨rfl,rfl⟩;rw [show ((p:Int)+1+j).toNat=p+1+j by omega]
     go_wp2_with fail
     refine (lex_raw _ _ _ _ _ _ HX.lex (by omega)).mono ?_;rintro e wz ⟨rfl,rfl⟩;rw [show ((p:Int)+1+j).toNat=p+1+j by omega]
     go_wp2_with fail
     refine (lex_quoted _ _ _ _ _ _ _ HX.lex (by omega) (by omega)).mono ?_;rintro e wz ⟨he,rfl⟩;rw [show ((p:Int)+1+j).toNat=p+1+j by omega,HQ.out] at he
     obtain ⟨x,y,rfl⟩:=he
     obtain ⟨t6,v0,v1,v2,v3,v4,v5,t0,t1,t2,t3,t4,t5⟩:=HX.tok
     have hltc:=HX.lt
     go_wp2_with fail
     try rw [Exit.noGoto_ret]
     refine bodyPost_ret (v:=tokTup (errR 7)) (by simp [tokTup,errR,results,Tryz.results118,go_sem,t0,t1,t2,t3,t4,t5]) rfl ⟨?_,(HX.sets _ _ _ _ _ _).bel⟩
     rw [HK.out,←HE.out,HI.out];rfl
    | some ck=>
     obtain ⟨c,k⟩:=ck
     have hok:=quotedS_ok _ _ _ _ (by decide) hqs
     rw [List.length_drop] at hok
     have HI:=zq (itemAt_some (s.data.toList.drop (p+1)) 39 (by decide) acc j k c (by rw [E0.out,E1.out];exact hn1) (by rw [E0.out,E1.out];exact hn2) (by rw [List.drop_drop];exact hqs))
     have HQ:=zq hqs
     have hk1:1≤k:=hok.1
     have hk2:p+1+j+k≤s.size:=by have:=hok.2.1;have:=hok.1;rw [size_data] at *;omega
     have hc0:0≤c:=hok.2.2.1
     have hc1:c≤255:=hok.2.2.2
     clear hqs hn1 hn2 hok
     go_wp2_with fail
     refine (lex_raw _ _ _ _ _ _ HX.lex (by omega)).mono ?_;rintro e wz ⟨rfl,rfl⟩;rw [show ((p:Int)+1+j).toNat=p+1+j by omega]
     go_wp2_with fail
     refine (lex_raw _ _ _ _ _ _ HX.lex (by omega)).mono ?_;rintro e wz ⟨rfl,rfl⟩;rw [show ((p:Int)+1+j).toNat=p+1+j by omega]
     go_wp2_with fail
     refine (lex_quoted _ _ _ _ _ _ _ HX.lex (by omega) (by omega)).mono ?_;rintro e wz ⟨he,rfl⟩;rw [show ((p:Int)+1+j).toNat=p+1+j by omega,HQ.out] at he
     unfold QRes at he
     simp only [] at he
     subst he
     go_wp2_with (at_builtin;go_must (refine wpList_append_byte rfl _ _ 44 5 rfl Tryz.underlying44 infoU8 (w.heap.size+1) _ _ _ rfl _ hown _ hc0 hc1 rfl rfl (by omega) (by have:=HX.lt;omega) ?_;intro v1 w2 hown1 hB2))
     have HX2:=Held.callB hB2 (by omega) HX
     go_roundw
     case rel=>exact ⟨j+k,acc++[c.toNat.toUInt8],by omega,by simp;omega,by go_num,HX2,hown1_len hown1,by rw [←HI.out];exact HE.out⟩
     case measure=>simp [intOf];omega
set_option maxHeartbeats 800000 in
theorem lex_quote (b:Nat) (s:ByteArray) (tab:Int→Int) (p:Nat) (w:World) (h:Lex w b s tab p) (hp:p<s.size) :
  Calls Tryz.prog 118 #[.pointer (some ⟨b,0,none⟩)] w fun e w'=>Gives (quoteR (cvt tab s.data.toList) s.data.toList p) e∧Below w.heap.size w w':=by
 by_cases h1:rawAt (cvt tab s.data.toList) p=34
 ·exact lex_quote_str b s tab p w h hp h1
 by_cases h2:rawAt (cvt tab s.data.toList) p=39
 ·exact lex_quote_nm b s tab p w h hp h2
 have HK:=zq (show quoteR (cvt tab s.data.toList) s.data.toList p=errR 7 by unfold quoteR;rw [if_neg h1,if_neg h2])
 have b1:(rawAt (cvt tab s.data.toList) p==34)=false:=by simp [h1]
 have b2:(rawAt (cvt tab s.data.toList) p==39)=false:=by simp [h2]
 have H0:=Held.start h
 have hlt:=h.lt
 have ca:=h.ca
 clear h h1 h2
 go_enter Tryz.func118,Tryz.ntmps118
 go_wp2_with fail
 go_step3
 go_wp2_with fail
 refine (lex_char _ _ _ _ _ _ H0.lex (by omega)).mono ?_;rintro e w1 ⟨rfl,hB1⟩;rw [Int.toNat_natCast]
 have H1:=Held.call hB1 H0
 obtain ⟨t6,v0,v1,v2,v3,v4,v5,t0,t1,t2,t3,t4,t5⟩:=H1.tok
 have hltc:=H1.lt
 go_wp2_with fail
 try rw [Exit.noGoto_ret]
 refine bodyPost_ret (v:=tokTup (errR 7)) (by simp [tokTup,errR,results,Tryz.results118,go_sem,t0,t1,t2,t3,t4,t5]) rfl ⟨?_,(H1.sets _ _ _ _ _ _).bel⟩
 rw [HK.out];rfl
set_option maxHeartbeats 400000 in
theorem lex_none (b:Nat) (w:World) :
  Calls Tryz.prog 113 #[.pointer (some ⟨b,0,none⟩)] w fun e w'=>Gives (errR 7) e∧Below w.heap.size w w':=by
 go_enter Tryz.func113,Tryz.ntmps113
 go_wp2
 refine bodyPost_ret (v:=tokTup (errR 7)) (by simp [tokTup,errR,results,Tryz.results113,go_sem]) rfl ⟨rfl,(Below.refl _ _).alloc (Nat.le_refl _) _⟩
end Go.Proofs.YtpokpgkjaifccaaGreatDoorRR
