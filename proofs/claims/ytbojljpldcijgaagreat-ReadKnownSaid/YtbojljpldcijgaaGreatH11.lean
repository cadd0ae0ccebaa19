/- Parts of the proof. -/
import Derived.Test.YtbojljpldcijgaaGreatH01
import Derived.Test.YtbojljpldcijgaaGreatH10
namespace Go.Proofs.YtbojljpldcijgaaGreat
open Go.RowKit Hb
attribute [local go_sem] Oper.semAt_some
set_option maxRecDepth 100000
set_option linter.unusedSimpArgs false
theorem txt_is (t:NextR) (l:List UInt8):(t.txt.toList==l)=decide (t.r.text=l):=by
 rw [tl_dataR]
 by_cases h:t.r.text=l
 ·rw [decide_eq_true h];simpa [NextR.txt] using h
 ·rw [decide_eq_false h];simpa [NextR.txt] using h
set_option maxHeartbeats 3200000 in
theorem rd_alone {c:PC} {n:Nat} {v:VS} {nv:Value} {w:World} (p:PsAt c n v nv w):Calls Tryz.prog 182 #[.pointer (some ⟨c.P,0,none⟩)] w fun e w'=>e=.returned (.bool (aloneG c.E n))∧Below w.heap.size w w':=by
 obtain ⟨oP,HOP⟩:=lz ((findR c.E.P (c.E.at n).txt 1).getD op0)
 obtain ⟨bP,HBP⟩:=lz (hasO c.E.P (c.E.at n).txt 1)
 have HP:Hid (∀X,Below w.heap.size w X→Calls Tryz.prog 181 #[.slice c.OA c.on c.oc,.string (c.E.at n).txt] X fun e w'=>e=.returned (.tuple #[.agg #[.string oP.name,.int .i64 oP.typ,.int .i64 oP.prec],.bool bP])∧Below X.heap.size X w'):=zq fun X hX=>by
  rw [HOP.out,HBP.out];exact ops_prefix c.OA c.on c.oc c.E.P (c.E.at n).txt X p.ok.opl (by have:=p.ok.few;omega) (p.ops.below hX)
 obtain ⟨oI,HOI⟩:=lz ((findR c.E.P (c.E.at n).txt 2).getD op0)
 obtain ⟨bI,HBI⟩:=lz (hasO c.E.P (c.E.at n).txt 2)
 have HI:Hid (∀X,Below w.heap.size w X→Calls Tryz.prog 145 #[.slice c.OA c.on c.oc,.string (c.E.at n).txt] X fun e w'=>e=.returned (.tuple #[.agg #[.string oI.name,.int .i64 oI.typ,.int .i64 oI.prec],.bool bI])∧Below X.heap.size X w'):=zq fun X hX=>by
  rw [HOI.out,HBI.out];exact ops_infix c.OA c.on c.oc c.E.P (c.E.at n).txt X p.ok.opl (by have:=p.ok.few;omega) (p.ops.below hX)
 obtain ⟨oO,HOO⟩:=lz ((findR c.E.P (c.E.at n).txt 3).getD op0)
 obtain ⟨bO,HBO⟩:=lz (hasO c.E.P (c.E.at n).txt 3)
 have HO:Hid (∀X,Below w.heap.size w X→Calls Tryz.prog 146 #[.slice c.OA c.on c.oc,.string (c.E.at n).txt] X fun e w'=>e=.returned (.tuple #[.agg #[.string oO.name,.int .i64 oO.typ,.int .i64 oO.prec],.bool bO])∧Below X.heap.size X w'):=zq fun X hX=>by
  rw [HOO.out,HBO.out];exact ops_postfix c.OA c.on c.oc c.E.P (c.E.at n).txt X p.ok.opl (by have:=p.ok.few;omega) (p.ops.below hX)
 have HPK0:=zq (rd_peek p 0 (by decide))
 have HPK1:=zq fun W (hB:Below w.heap.size w W)=>rd_peek (p.call hB) 1 (by decide)
 have HNM:=zq fun W=>rd_name (c.E.at n) W
 have HOPN:=zq fun W=>rd_opens (c.E.at (n+1)) W
 obtain ⟨R,HR⟩:=lz (aloneG c.E n)
 have HE:Hid (R=if (c.E.at n).r.kind=7 then true
   else if (c.E.at n).r.kind=6 then decide (¬(c.E.at n).r.text=[40])&&(decide (¬(c.E.at n).r.text=[91])&&decide (¬(c.E.at n).r.text=[123]))
   else if (!isNam (c.E.at n)||opn (c.E.at (n+1)))=true then false
   else !bP&&(bI||bO)):=zq (by rw [HR.out,HBP.out,HBI.out,HBO.out];rfl)
 have HTX:=zq (txt_is (c.E.at n))
 have HQ0:=zq (Wk.start p)
 rw [←HR.out]
 rw [Nat.add_zero] at HPK0
 clear HOP HOI HOO HBP HBI HBO HR p
 generalize c.E.at n=t at *
 generalize c.E.at (n+1)=t1 at *
 unfold tkV at *
 by_cases h7:t.r.kind=7
 ·have b7:(t.r.kind==7)=true:=by simpa using h7
  have HV:=zq (HE.out.trans (if_pos h7))
  rw [HV.out]
  clear h7 HE HTX HP HI HO HPK1 HNM HOPN
  go_enter Tryz.func182,Tryz.ntmps182
  go_wp2_with fail
  refine HPK0.out.mono ?_;rintro e w1 ⟨rfl,hB1⟩
  have HQ1:=zq ((HQ0.out.call hB1).new [.int .i64 t.r.kind,.string t.txt,.int .i64 t.r.n,.int .i64 t.r.at_,.int .i64 t.r.end_,.bool t.lay] 76 rfl)
  have HB1:=zq (hB1.alloc hB1.size (.cells #[.int .i64 t.r.kind,.string t.txt,.int .i64 t.r.n,.int .i64 t.r.at_,.int .i64 t.r.end_,.bool t.lay] 76))
  clear hB1 HQ0
  have cc1:=HQ1.out.b.all
  simp only [PC.cells,List.cons_append,List.nil_append,List.append_nil,bksAll,bkAll,Nat.zero_add,Nat.reduceAdd,and_true] at cc1
  go_wp2_with fail
  go_ret
  exact ⟨rfl,HB1.out⟩
 have b7:(t.r.kind==7)=false:=by simpa using h7
 replace HE:=zq (HE.out.trans (if_neg h7))
 clear h7
 by_cases h6:t.r.kind=6
 ·have b6:(t.r.kind==6)=true:=by simpa using h6
  replace HE:=zq (HE.out.trans (if_pos h6))
  clear h6 HP HI HO HPK1 HNM HOPN
  have x1:=HTX.out [40]
  have x2:=HTX.out [91]
  have x3:=HTX.out [123]
  clear HTX
  by_cases h1:t.r.text=[40]
  ·rw [decide_eq_true h1] at x1
   have HV:Hid (R=false):=zq (HE.out.trans (by rw [h1];rfl))
   rw [HV.out]
   clear x2 x3 h1 HE
   go_enter Tryz.func182,Tryz.ntmps182
   go_wp2_with fail
   refine HPK0.out.mono ?_;rintro e w1 ⟨rfl,hB1⟩
   have HQ1:=zq ((HQ0.out.call hB1).new [.int .i64 t.r.kind,.string t.txt,.int .i64 t.r.n,.int .i64 t.r.at_,.int .i64 t.r.end_,.bool t.lay] 76 rfl)
   have HB1:=zq (hB1.alloc hB1.size (.cells #[.int .i64 t.r.kind,.string t.txt,.int .i64 t.r.n,.int .i64 t.r.at_,.int .i64 t.r.end_,.bool t.lay] 76))
   clear hB1 HQ0
   have cc1:=HQ1.out.b.all
   simp only [PC.cells,List.cons_append,List.nil_append,List.append_nil,bksAll,bkAll,Nat.zero_add,Nat.reduceAdd,and_true] at cc1
   go_wp2_with fail
   go_ret
   exact ⟨rfl,HB1.out⟩
  rw [decide_eq_false h1] at x1
  by_cases h2:t.r.text=[91]
  ·rw [decide_eq_true h2] at x2
   have HV:Hid (R=false):=zq (HE.out.trans (by rw [h2];rfl))
   rw [HV.out]
   clear x3 h1 h2 HE
   go_enter Tryz.func182,Tryz.ntmps182
   go_wp2_with fail
   refine HPK0.out.mono ?_;rintro e w1 ⟨rfl,hB1⟩
   have HQ1:=zq ((HQ0.out.call hB1).new [.int .i64 t.r.kind,.string t.txt,.int .i64 t.r.n,.int .i64 t.r.at_,.int .i64 t.r.end_,.bool t.lay] 76 rfl)
   have HB1:=zq (hB1.alloc hB1.size (.cells #[.int .i64 t.r.kind,.string t.txt,.int .i64 t.r.n,.int .i64 t.r.at_,.int .i64 t.r.end_,.bool t.lay] 76))
   clear hB1 HQ0
   have cc1:=HQ1.out.b.all
   simp only [PC.cells,List.cons_append,List.nil_append,List.append_nil,bksAll,bkAll,Nat.zero_add,Nat.reduceAdd,and_true] at cc1
   go_wp2_with fail
   go_ret
   exact ⟨rfl,HB1.out⟩
  rw [decide_eq_false h2] at x2
  by_cases h3:t.r.text=[123]
  ·rw [decide_eq_true h3] at x3
   have HV:Hid (R=false):=zq (HE.out.trans (by rw [h3];rfl))
   rw [HV.out]
   clear h1 h2 h3 HE
   go_enter Tryz.func182,Tryz.ntmps182
   go_wp2_with fail
   refine HPK0.out.mono ?_;rintro e w1 ⟨rfl,hB1⟩
   have HQ1:=zq ((HQ0.out.call hB1).new [.int .i64 t.r.kind,.string t.txt,.int .i64 t.r.n,.int .i64 t.r.at_,.int .i64 t.r.end_,.bool t.lay] 76 rfl)
   have HB1:=zq (hB1.alloc hB1.size (.cells #[.int .i64 t.r.kind,.string t.txt,.int .i64 t.r.n,.int .i64 t.r.at_,.int .i64 t.r.end_,.bool t.lay] 76))
   clear hB1 HQ0
   have cc1:=HQ1.out.b.all
   simp only [PC.cells,List.cons_append,List.nil_append,List.append_nil,bksAll,bkAll,Nat.zero_add,Nat.reduceAdd,and_true] at cc1
   go_wp2_with fail
   go_ret
   exact ⟨rfl,HB1.out⟩
  rw [decide_eq_false h3] at x3
  have HV:Hid (R=true):=zq (HE.out.trans (by simp [h1,h2,h3]))
  rw [HV.out]
  clear h1 h2 h3 HE
  go_enter Tryz.func182,Tryz.ntmps182
  go_wp2_with fail
  refine HPK0.out.mono ?_;rintro e w1 ⟨rfl,hB1⟩
  have HQ1:=zq ((HQ0.out.call hB1).new [.int .i64 t.r.kind,.string t.txt,.int .i64 t.r.n,.int .i64 t.r.at_,.int .i64 t.r.end_,.bool t.lay] 76 rfl)
  have HB1:=zq (hB1.alloc hB1.size (.cells #[.int .i64 t.r.kind,.string t.txt,.int .i64 t.r.n,.int .i64 t.r.at_,.int .i64 t.r.end_,.bool t.lay] 76))
  clear hB1 HQ0
  have cc1:=HQ1.out.b.all
  simp only [PC.cells,List.cons_append,List.nil_append,List.append_nil,bksAll,bkAll,Nat.zero_add,Nat.reduceAdd,and_true] at cc1
  go_wp2_with fail
  go_ret
  exact ⟨rfl,HB1.out⟩
 have b6:(t.r.kind==6)=false:=by simpa using h6
 replace HE:=zq (HE.out.trans (if_neg h6))
 clear h6 HTX
 generalize isNam t=nm at *
 generalize opn t1=op at *
 cases nm
 ·have HV:Hid (R=false):=HE
  rw [HV.out]
  clear HE HP HI HO HPK1 HOPN
  go_enter Tryz.func182,Tryz.ntmps182
  go_wp2_with fail
  refine HPK0.out.mono ?_;rintro e w1 ⟨rfl,hB1⟩
  have HQ1:=zq ((HQ0.out.call hB1).new [.int .i64 t.r.kind,.string t.txt,.int .i64 t.r.n,.int .i64 t.r.at_,.int .i64 t.r.end_,.bool t.lay] 76 rfl)
  have HB1:=zq (hB1.alloc hB1.size (.cells #[.int .i64 t.r.kind,.string t.txt,.int .i64 t.r.n,.int .i64 t.r.at_,.int .i64 t.r.end_,.bool t.lay] 76))
  clear hB1 HQ0
  have cc1:=HQ1.out.b.all
  simp only [PC.cells,List.cons_append,List.nil_append,List.append_nil,bksAll,bkAll,Nat.zero_add,Nat.reduceAdd,and_true] at cc1
  go_wp2_with fail
  refine (HNM.out _).mono ?_;rintro e w2 ⟨rfl,hB2⟩
  have HB2:=bz HB1 hB2
  have HQ2:=zq (HQ1.out.call hB2)
  clear hB2 HQ1 cc1
  go_wp2_with fail
  go_ret
  exact ⟨rfl,HB2.out⟩
 cases op
 rotate_left
 ·have HV:Hid (R=false):=HE
  rw [HV.out]
  clear HE HP HI HO
  go_enter Tryz.func182,Tryz.ntmps182
  go_wp2_with fail
  refine HPK0.out.mono ?_;rintro e w1 ⟨rfl,hB1⟩
  have HQ1:=zq ((HQ0.out.call hB1).new [.int .i64 t.r.kind,.string t.txt,.int .i64 t.r.n,.int .i64 t.r.at_,.int .i64 t.r.end_,.bool t.lay] 76 rfl)
  have HB1:=zq (hB1.alloc hB1.size (.cells #[.int .i64 t.r.kind,.string t.txt,.int .i64 t.r.n,.int .i64 t.r.at_,.int .i64 t.r.end_,.bool t.lay] 76))
  clear hB1 HQ0
  have cc1:=HQ1.out.b.all
  simp only [PC.cells,List.cons_append,List.nil_append,List.append_nil,bksAll,bkAll,Nat.zero_add,Nat.reduceAdd,and_true] at cc1
  go_wp2_with fail
  refine (HNM.out _).mono ?_;rintro e w2 ⟨rfl,hB2⟩
  have HB2:=bz HB1 hB2
  have HQ2:=zq (HQ1.out.call hB2)
  clear hB2 HQ1 cc1 HB1 HNM
  go_wp2_with fail
  refine (HPK1.out _ HB2.out).mono ?_;rintro e w3 ⟨rfl,hB3⟩
  have HB3:=bz HB2 hB3
  have HQ3:=zq (HQ2.out.call hB3)
  clear hB3 HQ2 HB2 HPK1
  go_wp2_with fail
  refine (HOPN.out _).mono ?_;rintro e w4 ⟨rfl,hB4⟩
  have HB4:=bz HB3 hB4
  have HQ4:=zq (HQ3.out.call hB4)
  clear hB4 HQ3 HB3 HOPN
  have cc4:=HQ4.out.b.all
  simp only [PC.cells,List.cons_append,List.nil_append,List.append_nil,bksAll,bkAll,Nat.zero_add,Nat.reduceAdd,and_true] at cc4
  go_wp2_with fail
  go_ret
  exact ⟨rfl,HB4.out⟩
 replace HE:Hid (R=(!bP&&(bI||bO))):=HE
 go_enter Tryz.func182,Tryz.ntmps182
 go_wp2_with fail
 refine HPK0.out.mono ?_;rintro e w1 ⟨rfl,hB1⟩
 have HQ1:=zq ((HQ0.out.call hB1).new [.int .i64 t.r.kind,.string t.txt,.int .i64 t.r.n,.int .i64 t.r.at_,.int .i64 t.r.end_,.bool t.lay] 76 rfl)
 have HB1:=zq (hB1.alloc hB1.size (.cells #[.int .i64 t.r.kind,.string t.txt,.int .i64 t.r.n,.int .i64 t.r.at_,.int .i64 t.r.end_,.bool t.lay] 76))
 clear hB1 HQ0
 have cc1:=HQ1.out.b.all
 simp only [PC.cells,List.cons_append,List.nil_append,List.append_nil,bksAll,bkAll,Nat.zero_add,Nat.reduceAdd,and_true] at cc1
 go_wp2_with fail
 refine (HNM.out _).mono ?_;rintro e w2 ⟨rfl,hB2⟩
 have HB2:=bz HB1 hB2
 have HQ2:=zq (HQ1.out.call hB2)
 clear hB2 HQ1 cc1 HB1 HNM
 go_wp2_with fail
 refine (HPK1.out _ HB2.out).mono ?_;rintro e w3 ⟨rfl,hB3⟩
 have HB3:=bz HB2 hB3
 have HQ3:=zq (HQ2.out.call hB3)
 clear hB3 HQ2 HB2 HPK1
 go_wp2_with fail
 refine (HOPN.out _).mono ?_;rintro e w4 ⟨rfl,hB4⟩
 have HB4:=bz HB3 hB4
 have HQ4:=zq (HQ3.out.call hB4)
 clear hB4 HQ3 HB3 HOPN
 have cc4:=HQ4.out.b.all
 simp only [PC.cells,List.cons_append,List.nil_append,List.append_nil,bksAll,bkAll,Nat.zero_add,Nat.reduceAdd,and_true] at cc4
 clear cc4
 go_wp2_with fail
 rename_i K5 hK5
 refine region_own (w0:=w4) [rPure [] [0] (fun|[v]=>v=.pointer (some ⟨c.P,0,none⟩)|_=>False),
  rPure [0] [1] (fun|[v]=>v=.pointer (some ⟨c.P,0,none⟩)|_=>False),
  rPure [0,1] [2] (fun|[v]=>v=.pointer (some ⟨c.P,2,none⟩)|_=>False),
  rVal (List.range 3) [3] (fun|[v]=>v=.slice c.OA c.on c.oc|_=>False),
  rPure [] [4] (fun|[v]=>v=.pointer (some ⟨w1.heap.size,1,none⟩)|_=>False),
  rVal [4] [5] (fun|[v]=>v=.string t.txt|_=>False),
  rVal (List.range 6) [6] (fun|[v]=>v=.tuple #[.agg #[.string oP.name,.int .i64 oP.typ,.int .i64 oP.prec],.bool bP]|_=>False),
  rPure (List.range 7) [7] (fun|[v]=>v=.tuple #[.agg #[.string oP.name,.int .i64 oP.typ,.int .i64 oP.prec],.bool bP]|_=>False),
  rPure (List.range 8) [8] (fun|[v]=>v=.agg #[.string oP.name,.int .i64 oP.typ,.int .i64 oP.prec]|_=>False),
  rPure (List.range 8) [9] (fun|[v]=>v=.bool bP|_=>False),
  rBox [] [.string ⟨#[]⟩,.int .i64 0,.int .i64 0] 11,
  rStore [0,1,2,3,4,5,6,7,8,10] [] 10 (fun _=>[.string oP.name,.int .i64 oP.typ,.int .i64 oP.prec]),
  rPure (List.range 12) [12] (fun|[v]=>v=.bool bP|_=>False)]
  [some 43,some 44,some 45,some 46,some 47,some 48,some 49,some 42,some 50,some 51,some 4,none,some 5] (fun _=>True) (w4.heap.size) (by kernel_rfl) (Nat.le_refl _) (by kernel_rfl) (by kernel_rfl) (by kernel_rfl) (fun j o ho=>?srv5) (fun val Y N hv HF=>?fin5)
 case srv5=>
  have hlt:j<13:=(Array.getElem?_eq_some_iff.1 ho).1
  rcases (show j=0∨j=1∨j=2∨j=3∨j=4∨j=5∨j=6∨j=7∨j=8∨j=9∨j=10∨j=11∨j=12 by omega) with rfl|rfl|rfl|rfl|rfl|rfl|rfl|rfl|rfl|rfl|rfl|rfl|rfl
  ·cases ho
   refine srv_pure rfl rfl (fun val E hE hA=>?_)
   have e0:=hE.t 0 (.pointer (some ⟨c.P,0,none⟩)) rfl
   exact ⟨.pointer (some ⟨c.P,0,none⟩),fun X=>by simp [execOp,go_sem,e0],rfl⟩
  ·cases ho
   refine srv_pure rfl rfl (fun val E hE hA=>?_)
   have e43:=hE.t 43 (val 0) rfl
   have h0:val 0=.pointer (some ⟨c.P,0,none⟩):=hA 0 (oz rfl)
   exact ⟨.pointer (some ⟨c.P,0,none⟩),fun X=>by simp [execOp,go_sem,e43,h0],rfl⟩
  ·cases ho
   refine srv_pure rfl rfl (fun val E hE hA=>?_)
   have e44:=hE.t 44 (val 1) rfl
   have h1:val 1=.pointer (some ⟨c.P,0,none⟩):=hA 1 (oz rfl)
   exact ⟨.pointer (some ⟨c.P,2,none⟩),fun X=>by simp [execOp,go_sem,e44,h1],rfl⟩
  ·cases ho
   refine srv_val rfl rfl (fun _ _ _=>trivial) (fun val E X hE hB hA=>?_)
   have e45:=hE.t 45 (val 2) rfl
   have h2:val 2=.pointer (some ⟨c.P,2,none⟩):=hA 2 (oz rfl)
   have hk:=(HQ4.out.call hB).p.bk.c 2 _ rfl
   exact ⟨.slice c.OA c.on c.oc,by simp [execOp,go_sem,e45,h2,hk],rfl⟩
  ·cases ho
   refine srv_pure rfl rfl (fun val E hE hA=>?_)
   have e3:=hE.t 3 (.pointer (some ⟨w1.heap.size,0,none⟩)) rfl
   exact ⟨.pointer (some ⟨w1.heap.size,1,none⟩),fun X=>by simp [execOp,go_sem,e3],rfl⟩
  ·cases ho
   refine srv_val rfl rfl (fun _ _ _=>trivial) (fun val E X hE hB hA=>?_)
   have e47:=hE.t 47 (val 4) rfl
   have h4:val 4=.pointer (some ⟨w1.heap.size,1,none⟩):=hA 4 (oz rfl)
   have hk:=((HQ4.out.call hB).b.at 0 _ _ rfl).c 1 _ rfl
   exact ⟨.string t.txt,by simp [execOp,go_sem,e47,h4,hk],rfl⟩
  ·cases ho
   refine srv_calV rfl rfl (fun _ _ _=>trivial) (fun val E X hE hB hA=>?_)
   have e46:=hE.t 46 (val 3) rfl
   have h3:val 3=.slice c.OA c.on c.oc:=hA 3 (oz rfl)
   have e48:=hE.t 48 (val 5) rfl
   have h5:val 5=.string t.txt:=hA 5 (oz rfl)
   exact ⟨_,_,_,by simp [execOp,go_sem,hE.f,e46,h3,e48,h5] <;> rfl,HP.out X (HB4.out.trans (hB.mono HB4.out.size)),rfl⟩
  ·cases ho
   refine srv_pure rfl rfl (fun val E hE hA=>?_)
   have e49:=hE.t 49 (val 6) rfl
   have h6:val 6=.tuple #[.agg #[.string oP.name,.int .i64 oP.typ,.int .i64 oP.prec],.bool bP]:=hA 6 (oz rfl)
   exact ⟨.tuple #[.agg #[.string oP.name,.int .i64 oP.typ,.int .i64 oP.prec],.bool bP],fun X=>by simp [execOp,go_sem,e49,h6],rfl⟩
  ·cases ho
   refine srv_pure rfl rfl (fun val E hE hA=>?_)
   have e42:=hE.t 42 (val 7) rfl
   have h7:val 7=.tuple #[.agg #[.string oP.name,.int .i64 oP.typ,.int .i64 oP.prec],.bool bP]:=hA 7 (oz rfl)
   exact ⟨.agg #[.string oP.name,.int .i64 oP.typ,.int .i64 oP.prec],fun X=>by simp [execOp,go_sem,e42,h7],rfl⟩
  ·cases ho
   refine srv_pure rfl rfl (fun val E hE hA=>?_)
   have e42:=hE.t 42 (val 7) rfl
   have h7:val 7=.tuple #[.agg #[.string oP.name,.int .i64 oP.typ,.int .i64 oP.prec],.bool bP]:=hA 7 (oz rfl)
   exact ⟨.bool bP,fun X=>by simp [execOp,go_sem,e42,h7],rfl⟩
  ·cases ho
   exact srv_box rfl (fun _=>trivial) (trivial) 61 fun E X=>by simp [execOp,go_sem]
  ·cases ho
   refine srv_store rfl rfl (fun _=>trivial) fun val E X b hE hA hb hk=>?_
   have e4:=hE.t 4 (val 10) rfl
   have e50:=hE.t 50 (val 8) rfl
   have h8:val 8=.agg #[.string oP.name,.int .i64 oP.typ,.int .i64 oP.prec]:=hA 8 (oz rfl)
   have z0:=hk.c 0 (.string ⟨#[]⟩) rfl
   have f0:=hk.f 0
   have z1:=hk.c 1 (.int .i64 0) rfl
   have f1:=hk.f 1
   have z2:=hk.c 2 (.int .i64 0) rfl
   have f2:=hk.f 2
   exact ⟨(((X.setCell ⟨b,0,none⟩ (.string oP.name)).setCell ⟨b,1,none⟩ (.int .i64 oP.typ)).setCell ⟨b,2,none⟩ (.int .i64 oP.prec)),[.string oP.name,.int .i64 oP.typ,.int .i64 oP.prec],by simp [execOp,go_sem,hb,e4,e50,h8,z0,f0,z1,f1,z2,f2],((((PutTo.start hk).more 0 (.string oP.name)).more 1 (.int .i64 oP.typ)).more 2 (.int .i64 oP.prec)),rfl,trivial⟩
  ·cases ho
   refine srv_pure rfl rfl (fun val E hE hA=>?_)
   have e51:=hE.t 51 (val 9) rfl
   have h9:val 9=.bool bP:=hA 9 (oz rfl)
   exact ⟨.bool bP,fun X=>by simp [execOp,go_sem,e51,h9],rfl⟩
 case fin5=>
  have h0:val 0=.pointer (some ⟨c.P,0,none⟩):=hv 0 (by decide)
  have h1:val 1=.pointer (some ⟨c.P,0,none⟩):=hv 1 (by decide)
  have h2:val 2=.pointer (some ⟨c.P,2,none⟩):=hv 2 (by decide)
  have h3:val 3=.slice c.OA c.on c.oc:=hv 3 (by decide)
  have h4:val 4=.pointer (some ⟨w1.heap.size,1,none⟩):=hv 4 (by decide)
  have h5:val 5=.string t.txt:=hv 5 (by decide)
  have h6:val 6=.tuple #[.agg #[.string oP.name,.int .i64 oP.typ,.int .i64 oP.prec],.bool bP]:=hv 6 (by decide)
  have h7:val 7=.tuple #[.agg #[.string oP.name,.int .i64 oP.typ,.int .i64 oP.prec],.bool bP]:=hv 7 (by decide)
  have h8:val 8=.agg #[.string oP.name,.int .i64 oP.typ,.int .i64 oP.prec]:=hv 8 (by decide)
  have h9:val 9=.bool bP:=hv 9 (by decide)
  have h12:val 12=.bool bP:=hv 12 (by decide)
  obtain ⟨e5,hb,hl,hk,_⟩:=HF.at_box 10 (by decide) rfl
  have hkk:Bk Y e5 [.string oP.name,.int .i64 oP.typ,.int .i64 oP.prec]:=hk
  have HQ5:=zq (HQ4.out.box HF.bel hl hkk)
  have HB5:=zq (HB4.out.trans (HF.bel.mono HB4.out.size))
  have hlt5:=hkk.lt
  have hl5:=hl
  clear hv HF hk hkk hl
  refine hK5 _ _ ?_
  simp only [fillD,List.set_cons_zero,List.set_cons_succ,Nat.reduceAdd,Nat.zero_add,hb,h0,h1,h2,h3,h4,h5,h6,h7,h8,h9,h12]
  clear hK5 hb h0 h1 h2 h3 h4 h5 h6 h7 h8 h9 h12
  clear HQ4 HB4 HP
  go_wp2_with fail
  rename_i K6 hK6
  refine region_own (w0:=Y) [rPure [] [0] (fun|[v]=>v=.pointer (some ⟨c.P,0,none⟩)|_=>False),
   rPure [0] [1] (fun|[v]=>v=.pointer (some ⟨c.P,0,none⟩)|_=>False),
   rPure [0,1] [2] (fun|[v]=>v=.pointer (some ⟨c.P,2,none⟩)|_=>False),
   rVal (List.range 3) [3] (fun|[v]=>v=.slice c.OA c.on c.oc|_=>False),
   rPure [] [4] (fun|[v]=>v=.pointer (some ⟨w1.heap.size,1,none⟩)|_=>False),
   rVal [4] [5] (fun|[v]=>v=.string t.txt|_=>False),
   rVal (List.range 6) [6] (fun|[v]=>v=.tuple #[.agg #[.string oI.name,.int .i64 oI.typ,.int .i64 oI.prec],.bool bI]|_=>False),
   rPure (List.range 7) [7] (fun|[v]=>v=.tuple #[.agg #[.string oI.name,.int .i64 oI.typ,.int .i64 oI.prec],.bool bI]|_=>False),
   rPure (List.range 8) [8] (fun|[v]=>v=.agg #[.string oI.name,.int .i64 oI.typ,.int .i64 oI.prec]|_=>False),
   rPure (List.range 8) [9] (fun|[v]=>v=.bool bI|_=>False),
   rBox [] [.string ⟨#[]⟩,.int .i64 0,.int .i64 0] 11,
   rStore [0,1,2,3,4,5,6,7,8,10] [] 10 (fun _=>[.string oI.name,.int .i64 oI.typ,.int .i64 oI.prec]),
   rPure (List.range 12) [12] (fun|[v]=>v=.bool bI|_=>False)]
   [some 53,some 54,some 55,some 56,some 57,some 58,some 59,some 52,some 60,some 61,some 6,none,some 7] (fun _=>True) (Y.heap.size) (by kernel_rfl) (Nat.le_refl _) (by kernel_rfl) (by kernel_rfl) (by kernel_rfl) (fun j o ho=>?srv6) (fun val Y2 N hv HF=>?fin6)
  case srv6=>
   have hlt:j<13:=(Array.getElem?_eq_some_iff.1 ho).1
   rcases (show j=0∨j=1∨j=2∨j=3∨j=4∨j=5∨j=6∨j=7∨j=8∨j=9∨j=10∨j=11∨j=12 by omega) with rfl|rfl|rfl|rfl|rfl|rfl|rfl|rfl|rfl|rfl|rfl|rfl|rfl
   ·cases ho
    refine srv_pure rfl rfl (fun val E hE hA=>?_)
    have e0:=hE.t 0 (.pointer (some ⟨c.P,0,none⟩)) rfl
    exact ⟨.pointer (some ⟨c.P,0,none⟩),fun X=>by simp [execOp,go_sem,e0],rfl⟩
   ·cases ho
    refine srv_pure rfl rfl (fun val E hE hA=>?_)
    have e53:=hE.t 53 (val 0) rfl
    have h0:val 0=.pointer (some ⟨c.P,0,none⟩):=hA 0 (oz rfl)
    exact ⟨.pointer (some ⟨c.P,0,none⟩),fun X=>by simp [execOp,go_sem,e53,h0],rfl⟩
   ·cases ho
    refine srv_pure rfl rfl (fun val E hE hA=>?_)
    have e54:=hE.t 54 (val 1) rfl
    have h1:val 1=.pointer (some ⟨c.P,0,none⟩):=hA 1 (oz rfl)
    exact ⟨.pointer (some ⟨c.P,2,none⟩),fun X=>by simp [execOp,go_sem,e54,h1],rfl⟩
   ·cases ho
    refine srv_val rfl rfl (fun _ _ _=>trivial) (fun val E X hE hB hA=>?_)
    have e55:=hE.t 55 (val 2) rfl
    have h2:val 2=.pointer (some ⟨c.P,2,none⟩):=hA 2 (oz rfl)
    have hk:=(HQ5.out.call hB).p.bk.c 2 _ rfl
    exact ⟨.slice c.OA c.on c.oc,by simp [execOp,go_sem,e55,h2,hk],rfl⟩
   ·cases ho
    refine srv_pure rfl rfl (fun val E hE hA=>?_)
    have e3:=hE.t 3 (.pointer (some ⟨w1.heap.size,0,none⟩)) rfl
    exact ⟨.pointer (some ⟨w1.heap.size,1,none⟩),fun X=>by simp [execOp,go_sem,e3],rfl⟩
   ·cases ho
    refine srv_val rfl rfl (fun _ _ _=>trivial) (fun val E X hE hB hA=>?_)
    have e57:=hE.t 57 (val 4) rfl
    have h4:val 4=.pointer (some ⟨w1.heap.size,1,none⟩):=hA 4 (oz rfl)
    have hk:=((HQ5.out.call hB).b.at 1 _ _ rfl).c 1 _ rfl
    exact ⟨.string t.txt,by simp [execOp,go_sem,e57,h4,hk],rfl⟩
   ·cases ho
    refine srv_calV rfl rfl (fun _ _ _=>trivial) (fun val E X hE hB hA=>?_)
    have e56:=hE.t 56 (val 3) rfl
    have h3:val 3=.slice c.OA c.on c.oc:=hA 3 (oz rfl)
    have e58:=hE.t 58 (val 5) rfl
    have h5:val 5=.string t.txt:=hA 5 (oz rfl)
    exact ⟨_,_,_,by simp [execOp,go_sem,hE.f,e56,h3,e58,h5] <;> rfl,HI.out X (HB5.out.trans (hB.mono HB5.out.size)),rfl⟩
   ·cases ho
    refine srv_pure rfl rfl (fun val E hE hA=>?_)
    have e59:=hE.t 59 (val 6) rfl
    have h6:val 6=.tuple #[.agg #[.string oI.name,.int .i64 oI.typ,.int .i64 oI.prec],.bool bI]:=hA 6 (oz rfl)
    exact ⟨.tuple #[.agg #[.string oI.name,.int .i64 oI.typ,.int .i64 oI.prec],.bool bI],fun X=>by simp [execOp,go_sem,e59,h6],rfl⟩
   ·cases ho
    refine srv_pure rfl rfl (fun val E hE hA=>?_)
    have e52:=hE.t 52 (val 7) rfl
    have h7:val 7=.tuple #[.agg #[.string oI.name,.int .i64 oI.typ,.int .i64 oI.prec],.bool bI]:=hA 7 (oz rfl)
    exact ⟨.agg #[.string oI.name,.int .i64 oI.typ,.int .i64 oI.prec],fun X=>by simp [execOp,go_sem,e52,h7],rfl⟩
   ·cases ho
    refine srv_pure rfl rfl (fun val E hE hA=>?_)
    have e52:=hE.t 52 (val 7) rfl
    have h7:val 7=.tuple #[.agg #[.string oI.name,.int .i64 oI.typ,.int .i64 oI.prec],.bool bI]:=hA 7 (oz rfl)
    exact ⟨.bool bI,fun X=>by simp [execOp,go_sem,e52,h7],rfl⟩
   ·cases ho
    exact srv_box rfl (fun _=>trivial) (trivial) 61 fun E X=>by simp [execOp,go_sem]
   ·cases ho
    refine srv_store rfl rfl (fun _=>trivial) fun val E X b hE hA hb hk=>?_
    have e6:=hE.t 6 (val 10) rfl
    have e60:=hE.t 60 (val 8) rfl
    have h8:val 8=.agg #[.string oI.name,.int .i64 oI.typ,.int .i64 oI.prec]:=hA 8 (oz rfl)
    have z0:=hk.c 0 (.string ⟨#[]⟩) rfl
    have f0:=hk.f 0
    have z1:=hk.c 1 (.int .i64 0) rfl
    have f1:=hk.f 1
    have z2:=hk.c 2 (.int .i64 0) rfl
    have f2:=hk.f 2
    exact ⟨(((X.setCell ⟨b,0,none⟩ (.string oI.name)).setCell ⟨b,1,none⟩ (.int .i64 oI.typ)).setCell ⟨b,2,none⟩ (.int .i64 oI.prec)),[.string oI.name,.int .i64 oI.typ,.int .i64 oI.prec],by simp [execOp,go_sem,hb,e6,e60,h8,z0,f0,z1,f1,z2,f2],((((PutTo.start hk).more 0 (.string oI.name)).more 1 (.int .i64 oI.typ)).more 2 (.int .i64 oI.prec)),rfl,trivial⟩
   ·cases ho
    refine srv_pure rfl rfl (fun val E hE hA=>?_)
    have e61:=hE.t 61 (val 9) rfl
    have h9:val 9=.bool bI:=hA 9 (oz rfl)
    exact ⟨.bool bI,fun X=>by simp [execOp,go_sem,e61,h9],rfl⟩
  case fin6=>
   have h0:val 0=.pointer (some ⟨c.P,0,none⟩):=hv 0 (by decide)
   have h1:val 1=.pointer (some ⟨c.P,0,none⟩):=hv 1 (by decide)
   have h2:val 2=.pointer (some ⟨c.P,2,none⟩):=hv 2 (by decide)
   have h3:val 3=.slice c.OA c.on c.oc:=hv 3 (by decide)
   have h4:val 4=.pointer (some ⟨w1.heap.size,1,none⟩):=hv 4 (by decide)
   have h5:val 5=.string t.txt:=hv 5 (by decide)
   have h6:val 6=.tuple #[.agg #[.string oI.name,.int .i64 oI.typ,.int .i64 oI.prec],.bool bI]:=hv 6 (by decide)
   have h7:val 7=.tuple #[.agg #[.string oI.name,.int .i64 oI.typ,.int .i64 oI.prec],.bool bI]:=hv 7 (by decide)
   have h8:val 8=.agg #[.string oI.name,.int .i64 oI.typ,.int .i64 oI.prec]:=hv 8 (by decide)
   have h9:val 9=.bool bI:=hv 9 (by decide)
   have h12:val 12=.bool bI:=hv 12 (by decide)
   obtain ⟨e6,hb,hl,hk,_⟩:=HF.at_box 10 (by decide) rfl
   have hkk:Bk Y2 e6 [.string oI.name,.int .i64 oI.typ,.int .i64 oI.prec]:=hk
   have HQ6:=zq (HQ5.out.box HF.bel hl hkk)
   have HB6:=zq (HB5.out.trans (HF.bel.mono HB5.out.size))
   have hlt6:=hkk.lt
   have hl6:=hl
   clear hv HF hk hkk hl
   refine hK6 _ _ ?_
   simp only [fillD,List.set_cons_zero,List.set_cons_succ,Nat.reduceAdd,Nat.zero_add,hb,h0,h1,h2,h3,h4,h5,h6,h7,h8,h9,h12]
   clear hK6 hb h0 h1 h2 h3 h4 h5 h6 h7 h8 h9 h12
   clear HQ5 HB5 HI
   go_wp2_with fail
   rename_i K7 hK7
   refine region_own (w0:=Y2) [rPure [] [0] (fun|[v]=>v=.pointer (some ⟨c.P,0,none⟩)|_=>False),
    rPure [0] [1] (fun|[v]=>v=.pointer (some ⟨c.P,0,none⟩)|_=>False),
    rPure [0,1] [2] (fun|[v]=>v=.pointer (some ⟨c.P,2,none⟩)|_=>False),
    rVal (List.range 3) [3] (fun|[v]=>v=.slice c.OA c.on c.oc|_=>False),
    rPure [] [4] (fun|[v]=>v=.pointer (some ⟨w1.heap.size,1,none⟩)|_=>False),
    rVal [4] [5] (fun|[v]=>v=.string t.txt|_=>False),
    rVal (List.range 6) [6] (fun|[v]=>v=.tuple #[.agg #[.string oO.name,.int .i64 oO.typ,.int .i64 oO.prec],.bool bO]|_=>False),
    rPure (List.range 7) [7] (fun|[v]=>v=.tuple #[.agg #[.string oO.name,.int .i64 oO.typ,.int .i64 oO.prec],.bool bO]|_=>False),
    rPure (List.range 8) [8] (fun|[v]=>v=.agg #[.string oO.name,.int .i64 oO.typ,.int .i64 oO.prec]|_=>False),
    rPure (List.range 8) [9] (fun|[v]=>v=.bool bO|_=>False),
    rBox [] [.string ⟨#[]⟩,.int .i64 0,.int .i64 0] 11,
    rStore [0,1,2,3,4,5,6,7,8,10] [] 10 (fun _=>[.string oO.name,.int .i64 oO.typ,.int .i64 oO.prec]),
    rPure (List.range 12) [12] (fun|[v]=>v=.bool bO|_=>False)]
    [some 63,some 64,some 65,some 66,some 67,some 68,some 69,some 62,some 70,some 71,some 8,none,some 9] (fun _=>True) (Y2.heap.size) (by kernel_rfl) (Nat.le_refl _) (by kernel_rfl) (by kernel_rfl) (by kernel_rfl) (fun j o ho=>?srv7) (fun val Y3 N hv HF=>?fin7)
   case srv7=>
    have hlt:j<13:=(Array.getElem?_eq_some_iff.1 ho).1
    rcases (show j=0∨j=1∨j=2∨j=3∨j=4∨j=5∨j=6∨j=7∨j=8∨j=9∨j=10∨j=11∨j=12 by omega) with rfl|rfl|rfl|rfl|rfl|rfl|rfl|rfl|rfl|rfl|rfl|rfl|rfl
    ·cases ho
     refine srv_pure rfl rfl (fun val E hE hA=>?_)
     have e0:=hE.t 0 (.pointer (some ⟨c.P,0,none⟩)) rfl
     exact ⟨.pointer (some ⟨c.P,0,none⟩),fun X=>by simp [execOp,go_sem,e0],rfl⟩
    ·cases ho
     refine srv_pure rfl rfl (fun val E hE hA=>?_)
     have e63:=hE.t 63 (val 0) rfl
     have h0:val 0=.pointer (some ⟨c.P,0,none⟩):=hA 0 (oz rfl)
     exact ⟨.pointer (some ⟨c.P,0,none⟩),fun X=>by simp [execOp,go_sem,e63,h0],rfl⟩
    ·cases ho
     refine srv_pure rfl rfl (fun val E hE hA=>?_)
     have e64:=hE.t 64 (val 1) rfl
     have h1:val 1=.pointer (some ⟨c.P,0,none⟩):=hA 1 (oz rfl)
     exact ⟨.pointer (some ⟨c.P,2,none⟩),fun X=>by simp [execOp,go_sem,e64,h1],rfl⟩
    ·cases ho
     refine srv_val rfl rfl (fun _ _ _=>trivial) (fun val E X hE hB hA=>?_)
     have e65:=hE.t 65 (val 2) rfl
     have h2:val 2=.pointer (some ⟨c.P,2,none⟩):=hA 2 (oz rfl)
     have hk:=(HQ6.out.call hB).p.bk.c 2 _ rfl
     exact ⟨.slice c.OA c.on c.oc,by simp [execOp,go_sem,e65,h2,hk],rfl⟩
    ·cases ho
     refine srv_pure rfl rfl (fun val E hE hA=>?_)
     have e3:=hE.t 3 (.pointer (some ⟨w1.heap.size,0,none⟩)) rfl
     exact ⟨.pointer (some ⟨w1.heap.size,1,none⟩),fun X=>by simp [execOp,go_sem,e3],rfl⟩
    ·cases ho
     refine srv_val rfl rfl (fun _ _ _=>trivial) (fun val E X hE hB hA=>?_)
     have e67:=hE.t 67 (val 4) rfl
     have h4:val 4=.pointer (some ⟨w1.heap.size,1,none⟩):=hA 4 (oz rfl)
     have hk:=((HQ6.out.call hB).b.at 2 _ _ rfl).c 1 _ rfl
     exact ⟨.string t.txt,by simp [execOp,go_sem,e67,h4,hk],rfl⟩
    ·cases ho
     refine srv_calV rfl rfl (fun _ _ _=>trivial) (fun val E X hE hB hA=>?_)
     have e66:=hE.t 66 (val 3) rfl
     have h3:val 3=.slice c.OA c.on c.oc:=hA 3 (oz rfl)
     have e68:=hE.t 68 (val 5) rfl
     have h5:val 5=.string t.txt:=hA 5 (oz rfl)
     exact ⟨_,_,_,by simp [execOp,go_sem,hE.f,e66,h3,e68,h5] <;> rfl,HO.out X (HB6.out.trans (hB.mono HB6.out.size)),rfl⟩
    ·cases ho
     refine srv_pure rfl rfl (fun val E hE hA=>?_)
     have e69:=hE.t 69 (val 6) rfl
     have h6:val 6=.tuple #[.agg #[.string oO.name,.int .i64 oO.typ,.int .i64 oO.prec],.bool bO]:=hA 6 (oz rfl)
     exact ⟨.tuple #[.agg #[.string oO.name,.int .i64 oO.typ,.int .i64 oO.prec],.bool bO],fun X=>by simp [execOp,go_sem,e69,h6],rfl⟩
    ·cases ho
     refine srv_pure rfl rfl (fun val E hE hA=>?_)
     have e62:=hE.t 62 (val 7) rfl
     have h7:val 7=.tuple #[.agg #[.string oO.name,.int .i64 oO.typ,.int .i64 oO.prec],.bool bO]:=hA 7 (oz rfl)
     exact ⟨.agg #[.string oO.name,.int .i64 oO.typ,.int .i64 oO.prec],fun X=>by simp [execOp,go_sem,e62,h7],rfl⟩
    ·cases ho
     refine srv_pure rfl rfl (fun val E hE hA=>?_)
     have e62:=hE.t 62 (val 7) rfl
     have h7:val 7=.tuple #[.agg #[.string oO.name,.int .i64 oO.typ,.int .i64 oO.prec],.bool bO]:=hA 7 (oz rfl)
     exact ⟨.bool bO,fun X=>by simp [execOp,go_sem,e62,h7],rfl⟩
    ·cases ho
     exact srv_box rfl (fun _=>trivial) (trivial) 61 fun E X=>by simp [execOp,go_sem]
    ·cases ho
     refine srv_store rfl rfl (fun _=>trivial) fun val E X b hE hA hb hk=>?_
     have e8:=hE.t 8 (val 10) rfl
     have e70:=hE.t 70 (val 8) rfl
     have h8:val 8=.agg #[.string oO.name,.int .i64 oO.typ,.int .i64 oO.prec]:=hA 8 (oz rfl)
     have z0:=hk.c 0 (.string ⟨#[]⟩) rfl
     have f0:=hk.f 0
     have z1:=hk.c 1 (.int .i64 0) rfl
     have f1:=hk.f 1
     have z2:=hk.c 2 (.int .i64 0) rfl
     have f2:=hk.f 2
     exact ⟨(((X.setCell ⟨b,0,none⟩ (.string oO.name)).setCell ⟨b,1,none⟩ (.int .i64 oO.typ)).setCell ⟨b,2,none⟩ (.int .i64 oO.prec)),[.string oO.name,.int .i64 oO.typ,.int .i64 oO.prec],by simp [execOp,go_sem,hb,e8,e70,h8,z0,f0,z1,f1,z2,f2],((((PutTo.start hk).more 0 (.string oO.name)).more 1 (.int .i64 oO.typ)).more 2 (.int .i64 oO.prec)),rfl,trivial⟩
    ·cases ho
     refine srv_pure rfl rfl (fun val E hE hA=>?_)
     have e71:=hE.t 71 (val 9) rfl
     have h9:val 9=.bool bO:=hA 9 (oz rfl)
     exact ⟨.bool bO,fun X=>by simp [execOp,go_sem,e71,h9],rfl⟩
   case fin7=>
    have h0:val 0=.pointer (some ⟨c.P,0,none⟩):=hv 0 (by decide)
    have h1:val 1=.pointer (some ⟨c.P,0,none⟩):=hv 1 (by decide)
    have h2:val 2=.pointer (some ⟨c.P,2,none⟩):=hv 2 (by decide)
    have h3:val 3=.slice c.OA c.on c.oc:=hv 3 (by decide)
    have h4:val 4=.pointer (some ⟨w1.heap.size,1,none⟩):=hv 4 (by decide)
    have h5:val 5=.string t.txt:=hv 5 (by decide)
    have h6:val 6=.tuple #[.agg #[.string oO.name,.int .i64 oO.typ,.int .i64 oO.prec],.bool bO]:=hv 6 (by decide)
    have h7:val 7=.tuple #[.agg #[.string oO.name,.int .i64 oO.typ,.int .i64 oO.prec],.bool bO]:=hv 7 (by decide)
    have h8:val 8=.agg #[.string oO.name,.int .i64 oO.typ,.int .i64 oO.prec]:=hv 8 (by decide)
    have h9:val 9=.bool bO:=hv 9 (by decide)
    have h12:val 12=.bool bO:=hv 12 (by decide)
    obtain ⟨e7,hb,hl,hk,_⟩:=HF.at_box 10 (by decide) rfl
    have hkk:Bk Y3 e7 [.string oO.name,.int .i64 oO.typ,.int .i64 oO.prec]:=hk
    have HQ7:=zq (HQ6.out.box HF.bel hl hkk)
    have HB7:=zq (HB6.out.trans (HF.bel.mono HB6.out.size))
    have hlt7:=hkk.lt
    have hl7:=hl
    clear hv HF hk hkk hl
    refine hK7 _ _ ?_
    simp only [fillD,List.set_cons_zero,List.set_cons_succ,Nat.reduceAdd,Nat.zero_add,hb,h0,h1,h2,h3,h4,h5,h6,h7,h8,h9,h12]
    clear hK7 hb h0 h1 h2 h3 h4 h5 h6 h7 h8 h9 h12
    clear HQ6 HB6 HO
    cases bP <;> cases bI
    all_goals
     clear HQ7
     go_wp2_with fail
     go_ret
     exact ⟨by rw [HE.out];rfl,HB7.out⟩
set_option maxHeartbeats 3200000 in
theorem rd_operator {c:PC} {n:Nat} {v:VS} {nv:Value} {w:World} (p:PsAt c n v nv w):Calls Tryz.prog 95 #[.pointer (some ⟨c.P,0,none⟩)] w fun e w'=>e=.returned (.tuple #[opV (oprG c.E n).1,.bool (oprG c.E n).2])∧Below w.heap.size w w':=by
 obtain ⟨oI,HOI⟩:=lz ((findR c.E.P (c.E.at n).txt 2).getD op0)
 obtain ⟨bI,HBI⟩:=lz (hasO c.E.P (c.E.at n).txt 2)
 have HI:Hid (∀X,Below w.heap.size w X→Calls Tryz.prog 145 #[.slice c.OA c.on c.oc,.string (c.E.at n).txt] X fun e w'=>e=.returned (.tuple #[.agg #[.string oI.name,.int .i64 oI.typ,.int .i64 oI.prec],.bool bI])∧Below X.heap.size X w'):=zq fun X hX=>by
  rw [HOI.out,HBI.out];exact ops_infix c.OA c.on c.oc c.E.P (c.E.at n).txt X p.ok.opl (by have:=p.ok.few;omega) (p.ops.below hX)
 obtain ⟨oO,HOO⟩:=lz ((findR c.E.P (c.E.at n).txt 3).getD op0)
 obtain ⟨bO,HBO⟩:=lz (hasO c.E.P (c.E.at n).txt 3)
 have HO:Hid (∀X,Below w.heap.size w X→Calls Tryz.prog 146 #[.slice c.OA c.on c.oc,.string (c.E.at n).txt] X fun e w'=>e=.returned (.tuple #[.agg #[.string oO.name,.int .i64 oO.typ,.int .i64 oO.prec],.bool bO])∧Below X.heap.size X w'):=zq fun X hX=>by
  rw [HOO.out,HBO.out];exact ops_postfix c.OA c.on c.oc c.E.P (c.E.at n).txt X p.ok.opl (by have:=p.ok.few;omega) (p.ops.below hX)
 have HPK0:=zq (rd_peek (p.call ((Below.refl w.heap.size w).alloc (Nat.le_refl _) (.cells #[.string ⟨#[]⟩,.int .i64 0,.int .i64 0] 61))) 0 (by decide))
 have HNM:=zq fun W=>rd_name (c.E.at n) W
 have HU1:=zq fun W=>rd_punct (c.E.at n) ⟨#[44]⟩ W
 have HU2:=zq fun W=>rd_punct (c.E.at n) ⟨#[124]⟩ W
 rw [show isP (c.E.at n) (⟨#[44]⟩:ByteArray).data.toList=isP (c.E.at n) [44] from rfl] at HU1
 rw [show isP (c.E.at n) (⟨#[124]⟩:ByteArray).data.toList=isP (c.E.at n) [124] from rfl] at HU2
 obtain ⟨R,HR⟩:=lz (oprG c.E n)
 have HE:Hid (R=if (!isNam (c.E.at n)&&(!isP (c.E.at n) [44] && !isP (c.E.at n) [124]))=true then (op0,false) else if bI=true then (oI,true) else (oO,bO)):=zq (by rw [HR.out,HBI.out,HBO.out,HOI.out,HOO.out];rfl)
 have HQ0:=zq ((Wk.start p).new [.string ⟨#[]⟩,.int .i64 0,.int .i64 0] 61 rfl)
 have HB0:=zq ((Below.refl w.heap.size w).alloc (Nat.le_refl _) (.cells #[.string ⟨#[]⟩,.int .i64 0,.int .i64 0] 61))
 rw [←HR.out]
 rw [Nat.add_zero] at HPK0
 clear HOI HOO HBI HBO HR p
 generalize c.E.at n=t at *
 unfold tkV opV at *
 generalize isNam t=nm at *
 generalize isP t [44]=u1 at *
 generalize isP t [124]=u2 at *
 have hcase:(nm=false∧u1=false∧u2=false)∨nm=true∨(nm=false∧u1=true)∨(nm=false∧u1=false∧u2=true):=by cases nm <;> cases u1 <;> cases u2 <;> simp
 rcases hcase with ⟨rfl,rfl,rfl⟩ | h
 ·have HV:Hid (R=(op0,false)):=HE
  rw [HV.out]
  clear HE HI HO
  go_enter Tryz.func95,Tryz.ntmps95
  go_wp2_with fail
  refine HPK0.out.mono ?_;rintro e w1 ⟨rfl,hB1⟩
  have HQ1:=zq ((HQ0.out.call hB1).new [.int .i64 t.r.kind,.string t.txt,.int .i64 t.r.n,.int .i64 t.r.at_,.int .i64 t.r.end_,.bool t.lay] 76 rfl)
  have HB1:=zq ((HB0.out.trans (hB1.mono (by simp))).alloc (Nat.le_trans (by simp) hB1.size) (.cells #[.int .i64 t.r.kind,.string t.txt,.int .i64 t.r.n,.int .i64 t.r.at_,.int .i64 t.r.end_,.bool t.lay] 76))
  clear hB1 HQ0 HB0
  have cc1:=HQ1.out.b.all
  simp only [PC.cells,List.cons_append,List.nil_append,List.append_nil,bksAll,bkAll,Nat.zero_add,Nat.reduceAdd,and_true] at cc1
  go_wp2_with fail
  refine (HNM.out _).mono ?_;rintro e w2 ⟨rfl,hB2⟩
  have HB2:=bz HB1 hB2
  have HQ2:=zq (HQ1.out.call hB2)
  clear hB2 HQ1 cc1 HB1 HNM
  have cc2:=HQ2.out.b.all
  simp only [PC.cells,List.cons_append,List.nil_append,List.append_nil,bksAll,bkAll,Nat.zero_add,Nat.reduceAdd,and_true] at cc2
  go_wp2_with fail
  refine (HU1.out _).mono ?_;rintro e w3 ⟨rfl,hB3⟩
  have HB3:=bz HB2 hB3
  have HQ3:=zq (HQ2.out.call hB3)
  clear hB3 HQ2 cc2 HB2 HU1
  have cc3:=HQ3.out.b.all
  simp only [PC.cells,List.cons_append,List.nil_append,List.append_nil,bksAll,bkAll,Nat.zero_add,Nat.reduceAdd,and_true] at cc3
  go_wp2_with fail
  refine (HU2.out _).mono ?_;rintro e w4 ⟨rfl,hB4⟩
  have HB4:=bz HB3 hB4
  have HQ4:=zq (HQ3.out.call hB4)
  clear hB4 HQ3 cc3 HB3 HU2
  have cc4:=HQ4.out.b.all
  simp only [PC.cells,List.cons_append,List.nil_append,List.append_nil,bksAll,bkAll,Nat.zero_add,Nat.reduceAdd,and_true] at cc4
  go_wp2_with fail
  refine bodyPost_ret (v:=.tuple #[.agg #[.string ⟨#[]⟩,.int .i64 0,.int .i64 0],.bool false]) (by simp [results,Tryz.results95,go_sem,cc4]) rfl ⟨rfl,?_⟩
  exact ((HB4.out.setCell (Nat.le_refl _) _).setCell (Nat.le_refl _) _).setCell (Nat.le_refl _) _
 replace HE:Hid (R=if bI=true then (oI,true) else (oO,bO)):=zq (HE.out.trans (if_neg (by rcases h with rfl | ⟨rfl,rfl⟩ | ⟨rfl,rfl,rfl⟩ <;> simp)))
 go_enter Tryz.func95,Tryz.ntmps95
 go_wp2_with fail
 refine HPK0.out.mono ?_;rintro e w1 ⟨rfl,hB1⟩
 have HQ1:=zq ((HQ0.out.call hB1).new [.int .i64 t.r.kind,.string t.txt,.int .i64 t.r.n,.int .i64 t.r.at_,.int .i64 t.r.end_,.bool t.lay] 76 rfl)
 have HB1:=zq ((HB0.out.trans (hB1.mono (by simp))).alloc (Nat.le_trans (by simp) hB1.size) (.cells #[.int .i64 t.r.kind,.string t.txt,.int .i64 t.r.n,.int .i64 t.r.at_,.int .i64 t.r.end_,.bool t.lay] 76))
 clear hB1 HQ0 HB0
 have cc1:=HQ1.out.b.all
 simp only [PC.cells,List.cons_append,List.nil_append,List.append_nil,bksAll,bkAll,Nat.zero_add,Nat.reduceAdd,and_true] at cc1
 go_upto_region 2 with fail
 go_cut [21] from 9 to 21 (fun x wc=>x=.bool false∧Hid (Below w.heap.size w wc)∧Hid (Wk c n v nv w nv wc [(w1.heap.size,[.int .i64 t.r.kind,.string t.txt,.int .i64 t.r.n,.int .i64 t.r.at_,.int .i64 t.r.end_,.bool t.lay]),(w.heap.size,[.string ⟨#[]⟩,.int .i64 0,.int .i64 0])]))
 case first=>
  rcases h with rfl | ⟨rfl,rfl⟩ | ⟨rfl,rfl,rfl⟩
  ·skip
   go_wp2_with fail
   refine (HNM.out _).mono ?_;rintro e w2 ⟨rfl,hB2⟩
   have HB2:=bz HB1 hB2
   have HQ2:=zq (HQ1.out.call hB2)
   clear hB2
   have cc2:=HQ2.out.b.all
   simp only [PC.cells,List.cons_append,List.nil_append,List.append_nil,bksAll,bkAll,Nat.zero_add,Nat.reduceAdd,and_true] at cc2
   go_wp2_with fail
   go_meet
   exact ⟨rfl,HB2,HQ2⟩
  ·skip
   go_wp2_with fail
   refine (HNM.out _).mono ?_;rintro e w2 ⟨rfl,hB2⟩
   have HB2:=bz HB1 hB2
   have HQ2:=zq (HQ1.out.call hB2)
   clear hB2
   have cc2:=HQ2.out.b.all
   simp only [PC.cells,List.cons_append,List.nil_append,List.append_nil,bksAll,bkAll,Nat.zero_add,Nat.reduceAdd,and_true] at cc2
   go_wp2_with fail
   refine (HU1.out _).mono ?_;rintro e w3 ⟨rfl,hB3⟩
   have HB3:=bz HB2 hB3
   have HQ3:=zq (HQ2.out.call hB3)
   clear hB3 HQ2 cc2 HB2
   have cc3:=HQ3.out.b.all
   simp only [PC.cells,List.cons_append,List.nil_append,List.append_nil,bksAll,bkAll,Nat.zero_add,Nat.reduceAdd,and_true] at cc3
   go_wp2_with fail
   go_meet
   exact ⟨rfl,HB3,HQ3⟩
  ·skip
   go_wp2_with fail
   refine (HNM.out _).mono ?_;rintro e w2 ⟨rfl,hB2⟩
   have HB2:=bz HB1 hB2
   have HQ2:=zq (HQ1.out.call hB2)
   clear hB2
   have cc2:=HQ2.out.b.all
   simp only [PC.cells,List.cons_append,List.nil_append,List.append_nil,bksAll,bkAll,Nat.zero_add,Nat.reduceAdd,and_true] at cc2
   go_wp2_with fail
   refine (HU1.out _).mono ?_;rintro e w3 ⟨rfl,hB3⟩
   have HB3:=bz HB2 hB3
   have HQ3:=zq (HQ2.out.call hB3)
   clear hB3 HQ2 cc2 HB2
   have cc3:=HQ3.out.b.all
   simp only [PC.cells,List.cons_append,List.nil_append,List.append_nil,bksAll,bkAll,Nat.zero_add,Nat.reduceAdd,and_true] at cc3
   go_wp2_with fail
   refine (HU2.out _).mono ?_;rintro e w4 ⟨rfl,hB4⟩
   have HB4:=bz HB3 hB4
   have HQ4:=zq (HQ3.out.call hB4)
   clear hB4 HQ3 cc3 HB3
   have cc4:=HQ4.out.b.all
   simp only [PC.cells,List.cons_append,List.nil_append,List.append_nil,bksAll,bkAll,Nat.zero_add,Nat.reduceAdd,and_true] at cc4
   go_wp2_with fail
   go_meet
   exact ⟨rfl,HB4,HQ4⟩
 case rest=>
  obtain ⟨rfl,HB2,HQ2⟩:=hcut
  clear HNM HU1 HU2 h HB1 HQ1 cc1
  go_wp2_with fail
  rename_i K5 hK5
  refine region_own (w0:=wc) [rPure [] [0] (fun|[v]=>v=.pointer (some ⟨c.P,0,none⟩)|_=>False),
   rPure [0] [1] (fun|[v]=>v=.pointer (some ⟨c.P,0,none⟩)|_=>False),
   rPure [0,1] [2] (fun|[v]=>v=.pointer (some ⟨c.P,2,none⟩)|_=>False),
   rVal (List.range 3) [3] (fun|[v]=>v=.slice c.OA c.on c.oc|_=>False),
   rPure [] [4] (fun|[v]=>v=.pointer (some ⟨w1.heap.size,1,none⟩)|_=>False),
   rVal [4] [5] (fun|[v]=>v=.string t.txt|_=>False),
   rVal (List.range 6) [6] (fun|[v]=>v=.tuple #[.agg #[.string oI.name,.int .i64 oI.typ,.int .i64 oI.prec],.bool bI]|_=>False),
   rPure (List.range 7) [7] (fun|[v]=>v=.tuple #[.agg #[.string oI.name,.int .i64 oI.typ,.int .i64 oI.prec],.bool bI]|_=>False),
   rPure (List.range 8) [8] (fun|[v]=>v=.agg #[.string oI.name,.int .i64 oI.typ,.int .i64 oI.prec]|_=>False),
   rPure (List.range 8) [9] (fun|[v]=>v=.bool bI|_=>False),
   rBox [] [.string ⟨#[]⟩,.int .i64 0,.int .i64 0] 11,
   rStore [0,1,2,3,4,5,6,7,8,10] [] 10 (fun _=>[.string oI.name,.int .i64 oI.typ,.int .i64 oI.prec]),
   rPure (List.range 12) [12] (fun|[v]=>v=.bool bI|_=>False)]
   [some 24,some 25,some 26,some 27,some 28,some 29,some 30,some 23,some 31,some 32,some 5,none,some 6] (fun _=>True) (wc.heap.size) (by kernel_rfl) (Nat.le_refl _) (by kernel_rfl) (by kernel_rfl) (by kernel_rfl) (fun j o ho=>?srv5) (fun val Y N hv HF=>?fin5)
  case srv5=>
   have hlt:j<13:=(Array.getElem?_eq_some_iff.1 ho).1
   rcases (show j=0∨j=1∨j=2∨j=3∨j=4∨j=5∨j=6∨j=7∨j=8∨j=9∨j=10∨j=11∨j=12 by omega) with rfl|rfl|rfl|rfl|rfl|rfl|rfl|rfl|rfl|rfl|rfl|rfl|rfl
   ·cases ho
    refine srv_pure rfl rfl (fun val E hE hA=>?_)
    have e0:=hE.t 0 (.pointer (some ⟨c.P,0,none⟩)) rfl
    exact ⟨.pointer (some ⟨c.P,0,none⟩),fun X=>by simp [execOp,go_sem,e0],rfl⟩
   ·cases ho
    refine srv_pure rfl rfl (fun val E hE hA=>?_)
    have e24:=hE.t 24 (val 0) rfl
    have h0:val 0=.pointer (some ⟨c.P,0,none⟩):=hA 0 (oz rfl)
    exact ⟨.pointer (some ⟨c.P,0,none⟩),fun X=>by simp [execOp,go_sem,e24,h0],rfl⟩
   ·cases ho
    refine srv_pure rfl rfl (fun val E hE hA=>?_)
    have e25:=hE.t 25 (val 1) rfl
    have h1:val 1=.pointer (some ⟨c.P,0,none⟩):=hA 1 (oz rfl)
    exact ⟨.pointer (some ⟨c.P,2,none⟩),fun X=>by simp [execOp,go_sem,e25,h1],rfl⟩
   ·cases ho
    refine srv_val rfl rfl (fun _ _ _=>trivial) (fun val E X hE hB hA=>?_)
    have e26:=hE.t 26 (val 2) rfl
    have h2:val 2=.pointer (some ⟨c.P,2,none⟩):=hA 2 (oz rfl)
    have hk:=(HQ2.out.call hB).p.bk.c 2 _ rfl
    exact ⟨.slice c.OA c.on c.oc,by simp [execOp,go_sem,e26,h2,hk],rfl⟩
   ·cases ho
    refine srv_pure rfl rfl (fun val E hE hA=>?_)
    have e4:=hE.t 4 (.pointer (some ⟨w1.heap.size,0,none⟩)) rfl
    exact ⟨.pointer (some ⟨w1.heap.size,1,none⟩),fun X=>by simp [execOp,go_sem,e4],rfl⟩
   ·cases ho
    refine srv_val rfl rfl (fun _ _ _=>trivial) (fun val E X hE hB hA=>?_)
    have e28:=hE.t 28 (val 4) rfl
    have h4:val 4=.pointer (some ⟨w1.heap.size,1,none⟩):=hA 4 (oz rfl)
    have hk:=((HQ2.out.call hB).b.at 0 _ _ rfl).c 1 _ rfl
    exact ⟨.string t.txt,by simp [execOp,go_sem,e28,h4,hk],rfl⟩
   ·cases ho
    refine srv_calV rfl rfl (fun _ _ _=>trivial) (fun val E X hE hB hA=>?_)
    have e27:=hE.t 27 (val 3) rfl
    have h3:val 3=.slice c.OA c.on c.oc:=hA 3 (oz rfl)
    have e29:=hE.t 29 (val 5) rfl
    have h5:val 5=.string t.txt:=hA 5 (oz rfl)
    exact ⟨_,_,_,by simp [execOp,go_sem,hE.f,e27,h3,e29,h5] <;> rfl,HI.out X (HB2.out.trans (hB.mono HB2.out.size)),rfl⟩
   ·cases ho
    refine srv_pure rfl rfl (fun val E hE hA=>?_)
    have e30:=hE.t 30 (val 6) rfl
    have h6:val 6=.tuple #[.agg #[.string oI.name,.int .i64 oI.typ,.int .i64 oI.prec],.bool bI]:=hA 6 (oz rfl)
    exact ⟨.tuple #[.agg #[.string oI.name,.int .i64 oI.typ,.int .i64 oI.prec],.bool bI],fun X=>by simp [execOp,go_sem,e30,h6],rfl⟩
   ·cases ho
    refine srv_pure rfl rfl (fun val E hE hA=>?_)
    have e23:=hE.t 23 (val 7) rfl
    have h7:val 7=.tuple #[.agg #[.string oI.name,.int .i64 oI.typ,.int .i64 oI.prec],.bool bI]:=hA 7 (oz rfl)
    exact ⟨.agg #[.string oI.name,.int .i64 oI.typ,.int .i64 oI.prec],fun X=>by simp [execOp,go_sem,e23,h7],rfl⟩
   ·cases ho
    refine srv_pure rfl rfl (fun val E hE hA=>?_)
    have e23:=hE.t 23 (val 7) rfl
    have h7:val 7=.tuple #[.agg #[.string oI.name,.int .i64 oI.typ,.int .i64 oI.prec],.bool bI]:=hA 7 (oz rfl)
    exact ⟨.bool bI,fun X=>by simp [execOp,go_sem,e23,h7],rfl⟩
   ·cases ho
    exact srv_box rfl (fun _=>trivial) (trivial) 61 fun E X=>by simp [execOp,go_sem]
   ·cases ho
    refine srv_store rfl rfl (fun _=>trivial) fun val E X b hE hA hb hk=>?_
    have e5:=hE.t 5 (val 10) rfl
    have e31:=hE.t 31 (val 8) rfl
    have h8:val 8=.agg #[.string oI.name,.int .i64 oI.typ,.int .i64 oI.prec]:=hA 8 (oz rfl)
    have z0:=hk.c 0 (.string ⟨#[]⟩) rfl
    have f0:=hk.f 0
    have z1:=hk.c 1 (.int .i64 0) rfl
    have f1:=hk.f 1
    have z2:=hk.c 2 (.int .i64 0) rfl
    have f2:=hk.f 2
    exact ⟨(((X.setCell ⟨b,0,none⟩ (.string oI.name)).setCell ⟨b,1,none⟩ (.int .i64 oI.typ)).setCell ⟨b,2,none⟩ (.int .i64 oI.prec)),[.string oI.name,.int .i64 oI.typ,.int .i64 oI.prec],by simp [execOp,go_sem,hb,e5,e31,h8,z0,f0,z1,f1,z2,f2],((((PutTo.start hk).more 0 (.string oI.name)).more 1 (.int .i64 oI.typ)).more 2 (.int .i64 oI.prec)),rfl,trivial⟩
   ·cases ho
    refine srv_pure rfl rfl (fun val E hE hA=>?_)
    have e32:=hE.t 32 (val 9) rfl
    have h9:val 9=.bool bI:=hA 9 (oz rfl)
    exact ⟨.bool bI,fun X=>by simp [execOp,go_sem,e32,h9],rfl⟩
  case fin5=>
   have h0:val 0=.pointer (some ⟨c.P,0,none⟩):=hv 0 (by decide)
   have h1:val 1=.pointer (some ⟨c.P,0,none⟩):=hv 1 (by decide)
   have h2:val 2=.pointer (some ⟨c.P,2,none⟩):=hv 2 (by decide)
   have h3:val 3=.slice c.OA c.on c.oc:=hv 3 (by decide)
   have h4:val 4=.pointer (some ⟨w1.heap.size,1,none⟩):=hv 4 (by decide)
   have h5:val 5=.string t.txt:=hv 5 (by decide)
   have h6:val 6=.tuple #[.agg #[.string oI.name,.int .i64 oI.typ,.int .i64 oI.prec],.bool bI]:=hv 6 (by decide)
   have h7:val 7=.tuple #[.agg #[.string oI.name,.int .i64 oI.typ,.int .i64 oI.prec],.bool bI]:=hv 7 (by decide)
   have h8:val 8=.agg #[.string oI.name,.int .i64 oI.typ,.int .i64 oI.prec]:=hv 8 (by decide)
   have h9:val 9=.bool bI:=hv 9 (by decide)
   have h12:val 12=.bool bI:=hv 12 (by decide)
   obtain ⟨e5,hb,hl,hk,_⟩:=HF.at_box 10 (by decide) rfl
   have hkk:Bk Y e5 [.string oI.name,.int .i64 oI.typ,.int .i64 oI.prec]:=hk
   have HQ5:=zq (HQ2.out.box HF.bel hl hkk)
   have HB5:=zq (HB2.out.trans (HF.bel.mono HB2.out.size))
   have hlt5:=hkk.lt
   have hl5:=hl
   clear hv HF hk hkk hl
   refine hK5 _ _ ?_
   simp only [fillD,List.set_cons_zero,List.set_cons_succ,Nat.reduceAdd,Nat.zero_add,hb,h0,h1,h2,h3,h4,h5,h6,h7,h8,h9,h12]
   clear hK5 hb h0 h1 h2 h3 h4 h5 h6 h7 h8 h9 h12
   have HB2s:=zq HB2.out.size
   clear HQ2 HB2 HI
   have cc5:=HQ5.out.b.all
   simp only [PC.cells,List.cons_append,List.nil_append,List.append_nil,bksAll,bkAll,Nat.zero_add,Nat.reduceAdd,and_true] at cc5
   cases bI
   rotate_left
   ·have HV:Hid (R=(oI,true)):=HE
    clear HE HO
    go_wp2_with fail
    refine bodyPost_ret (v:=.tuple #[.agg #[.string oI.name,.int .i64 oI.typ,.int .i64 oI.prec],.bool true]) (by simp [results,Tryz.results95,go_sem,cc5]) rfl ⟨?_,?_⟩
    ·rw [HV.out]
    ·exact ((HB5.out.setCell (Nat.le_refl _) _).setCell (Nat.le_refl _) _).setCell (Nat.le_refl _) _
   have HV:Hid (R=(oO,bO)):=HE
   clear HE cc5
   go_wp2_with fail
   have HLE:Hid (w.heap.size≤e5):=zq (Nat.le_trans HB2s.out hl5)
   rename_i K7 hK7
   refine region_last (w0:=Y) [rPure [] [0] (fun|[v]=>v=.pointer (some ⟨c.P,0,none⟩)|_=>False),
    rPure [0] [1] (fun|[v]=>v=.pointer (some ⟨c.P,0,none⟩)|_=>False),
    rPure [0,1] [2] (fun|[v]=>v=.pointer (some ⟨c.P,2,none⟩)|_=>False),
    rVal (List.range 3) [3] (fun|[v]=>v=.slice c.OA c.on c.oc|_=>False),
    rPure [] [4] (fun|[v]=>v=.pointer (some ⟨w1.heap.size,1,none⟩)|_=>False),
    rVal [4] [5] (fun|[v]=>v=.string t.txt|_=>False),
    rVal (List.range 6) [6] (fun|[v]=>v=.tuple #[.agg #[.string oO.name,.int .i64 oO.typ,.int .i64 oO.prec],.bool bO]|_=>False),
    rPure (List.range 7) [7] (fun|[v]=>v=.tuple #[.agg #[.string oO.name,.int .i64 oO.typ,.int .i64 oO.prec],.bool bO]|_=>False),
    rPure (List.range 8) [8] (fun|[v]=>v=.agg #[.string oO.name,.int .i64 oO.typ,.int .i64 oO.prec]|_=>False),
    rPure (List.range 8) [9] (fun|[v]=>v=.bool bO|_=>False),
    rLast (List.range 9) [] (fun _=>True),
    rPure (List.range 11) [11] (fun|[v]=>v=.bool bO|_=>False)]
    [some 36,some 37,some 38,some 39,some 40,some 41,some 42,some 35,some 43,some 44,none,some 6] (fun _=>True) (Y.heap.size) 10 (fun _ X=>Hid (Below w.heap.size w X∧Wk c n v nv w nv X ((e5,[.string oO.name,.int .i64 oO.typ,.int .i64 oO.prec])::[(w1.heap.size,[.int .i64 t.r.kind,.string t.txt,.int .i64 t.r.n,.int .i64 t.r.at_,.int .i64 t.r.end_,.bool t.lay]),(w.heap.size,[.string ⟨#[]⟩,.int .i64 0,.int .i64 0])]))) (by kernel_rfl) (Nat.le_refl _) (by kernel_rfl) (by kernel_rfl) ⟨by decide,rfl⟩ (fun j o ho=>?srv7) (fun val Y hv HF=>?fin7)
   case srv7=>
    have hlt:j<12:=(Array.getElem?_eq_some_iff.1 ho).1
    rcases (show j=0∨j=1∨j=2∨j=3∨j=4∨j=5∨j=6∨j=7∨j=8∨j=9∨j=10∨j=11 by omega) with rfl|rfl|rfl|rfl|rfl|rfl|rfl|rfl|rfl|rfl|rfl|rfl
    ·cases ho
     refine srv_pure rfl rfl (fun val E hE hA=>?_)
     have e0:=hE.t 0 (.pointer (some ⟨c.P,0,none⟩)) rfl
     exact ⟨.pointer (some ⟨c.P,0,none⟩),fun X=>by simp [execOp,go_sem,e0],rfl⟩
    ·cases ho
     refine srv_pure rfl rfl (fun val E hE hA=>?_)
     have e36:=hE.t 36 (val 0) rfl
     have h0:val 0=.pointer (some ⟨c.P,0,none⟩):=hA 0 (oz rfl)
     exact ⟨.pointer (some ⟨c.P,0,none⟩),fun X=>by simp [execOp,go_sem,e36,h0],rfl⟩
    ·cases ho
     refine srv_pure rfl rfl (fun val E hE hA=>?_)
     have e37:=hE.t 37 (val 1) rfl
     have h1:val 1=.pointer (some ⟨c.P,0,none⟩):=hA 1 (oz rfl)
     exact ⟨.pointer (some ⟨c.P,2,none⟩),fun X=>by simp [execOp,go_sem,e37,h1],rfl⟩
    ·cases ho
     refine srv_val rfl rfl (fun _ _ _=>trivial) (fun val E X hE hB hA=>?_)
     have e38:=hE.t 38 (val 2) rfl
     have h2:val 2=.pointer (some ⟨c.P,2,none⟩):=hA 2 (oz rfl)
     have hk:=(HQ5.out.call hB).p.bk.c 2 _ rfl
     exact ⟨.slice c.OA c.on c.oc,by simp [execOp,go_sem,e38,h2,hk],rfl⟩
    ·cases ho
     refine srv_pure rfl rfl (fun val E hE hA=>?_)
     have e4:=hE.t 4 (.pointer (some ⟨w1.heap.size,0,none⟩)) rfl
     exact ⟨.pointer (some ⟨w1.heap.size,1,none⟩),fun X=>by simp [execOp,go_sem,e4],rfl⟩
    ·cases ho
     refine srv_val rfl rfl (fun _ _ _=>trivial) (fun val E X hE hB hA=>?_)
     have e40:=hE.t 40 (val 4) rfl
     have h4:val 4=.pointer (some ⟨w1.heap.size,1,none⟩):=hA 4 (oz rfl)
     have hk:=((HQ5.out.call hB).b.at 1 _ _ rfl).c 1 _ rfl
     exact ⟨.string t.txt,by simp [execOp,go_sem,e40,h4,hk],rfl⟩
    ·cases ho
     refine srv_calV rfl rfl (fun _ _ _=>trivial) (fun val E X hE hB hA=>?_)
     have e39:=hE.t 39 (val 3) rfl
     have h3:val 3=.slice c.OA c.on c.oc:=hA 3 (oz rfl)
     have e41:=hE.t 41 (val 5) rfl
     have h5:val 5=.string t.txt:=hA 5 (oz rfl)
     exact ⟨_,_,_,by simp [execOp,go_sem,hE.f,e39,h3,e41,h5] <;> rfl,HO.out X (HB5.out.trans (hB.mono HB5.out.size)),rfl⟩
    ·cases ho
     refine srv_pure rfl rfl (fun val E hE hA=>?_)
     have e42:=hE.t 42 (val 6) rfl
     have h6:val 6=.tuple #[.agg #[.string oO.name,.int .i64 oO.typ,.int .i64 oO.prec],.bool bO]:=hA 6 (oz rfl)
     exact ⟨.tuple #[.agg #[.string oO.name,.int .i64 oO.typ,.int .i64 oO.prec],.bool bO],fun X=>by simp [execOp,go_sem,e42,h6],rfl⟩
    ·cases ho
     refine srv_pure rfl rfl (fun val E hE hA=>?_)
     have e35:=hE.t 35 (val 7) rfl
     have h7:val 7=.tuple #[.agg #[.string oO.name,.int .i64 oO.typ,.int .i64 oO.prec],.bool bO]:=hA 7 (oz rfl)
     exact ⟨.agg #[.string oO.name,.int .i64 oO.typ,.int .i64 oO.prec],fun X=>by simp [execOp,go_sem,e35,h7],rfl⟩
    ·cases ho
     refine srv_pure rfl rfl (fun val E hE hA=>?_)
     have e35:=hE.t 35 (val 7) rfl
     have h7:val 7=.tuple #[.agg #[.string oO.name,.int .i64 oO.typ,.int .i64 oO.prec],.bool bO]:=hA 7 (oz rfl)
     exact ⟨.bool bO,fun X=>by simp [execOp,go_sem,e35,h7],rfl⟩
    ·cases ho
     refine srv_last rfl rfl fun val E X N hE hC hA hc _=>?_
     have h8:val 8=.agg #[.string oO.name,.int .i64 oO.typ,.int .i64 oO.prec]:=hA 8 (oz rfl)
     have e5':E (.tmp 5)=.pointer (some ⟨e5,0,none⟩):=by rw [hE.eq];rfl
     have e43:=hE.t 43 (val 8) rfl
     have hq:=HQ5.out.call hC.bel
     have hk:=hq.b.at 0 _ _ rfl
     have hgl:=hk.lt
     have z0:=hk.c 0 _ rfl
     have f0:=hk.f 0
     have z1:=hk.c 1 _ rfl
     have f1:=hk.f 1
     have z2:=hk.c 2 _ rfl
     have f2:=hk.f 2
     have hX:=HB5.out.trans (hC.bel.mono HB5.out.size)
     exact .inr (.inl ⟨(((X.setCell ⟨e5,0,none⟩ (.string oO.name)).setCell ⟨e5,1,none⟩ (.int .i64 oO.typ)).setCell ⟨e5,2,none⟩ (.int .i64 oO.prec)),by simp [execOp,go_sem,e5',e43,h8,z0,f0,z1,f1,z2,f2],trivial,zq ⟨((hX.setCell (p:=⟨e5,0,none⟩) HLE.out _).setCell (p:=⟨e5,1,none⟩) HLE.out _).setCell (p:=⟨e5,2,none⟩) HLE.out _,((hq.put 0 0 rfl _ HLE.out).put 0 1 rfl _ HLE.out).put 0 2 rfl _ HLE.out⟩⟩)
    ·cases ho
     refine srv_pure rfl rfl (fun val E hE hA=>?_)
     have e44:=hE.t 44 (val 9) rfl
     have h9:val 9=.bool bO:=hA 9 (oz rfl)
     exact ⟨.bool bO,fun X=>by simp [execOp,go_sem,e44,h9],rfl⟩
   case fin7=>
    have h0:val 0=.pointer (some ⟨c.P,0,none⟩):=hv 0 (by decide)
    have h1:val 1=.pointer (some ⟨c.P,0,none⟩):=hv 1 (by decide)
    have h2:val 2=.pointer (some ⟨c.P,2,none⟩):=hv 2 (by decide)
    have h3:val 3=.slice c.OA c.on c.oc:=hv 3 (by decide)
    have h4:val 4=.pointer (some ⟨w1.heap.size,1,none⟩):=hv 4 (by decide)
    have h5:val 5=.string t.txt:=hv 5 (by decide)
    have h6:val 6=.tuple #[.agg #[.string oO.name,.int .i64 oO.typ,.int .i64 oO.prec],.bool bO]:=hv 6 (by decide)
    have h7:val 7=.tuple #[.agg #[.string oO.name,.int .i64 oO.typ,.int .i64 oO.prec],.bool bO]:=hv 7 (by decide)
    have h8:val 8=.agg #[.string oO.name,.int .i64 oO.typ,.int .i64 oO.prec]:=hv 8 (by decide)
    have h9:val 9=.bool bO:=hv 9 (by decide)
    have h11:val 11=.bool bO:=hv 11 (by decide)
    obtain ⟨hB7,hQ7⟩:=Hid.out HF
    have HB7:=zq hB7
    have HQ7:=zq hQ7
    clear hv HF hB7 hQ7
    refine hK7 _ _ ?_
    simp only [fillD,List.set_cons_zero,List.set_cons_succ,Nat.reduceAdd,Nat.zero_add,h0,h1,h2,h3,h4,h5,h6,h7,h8,h9,h11]
    clear hK7 h0 h1 h2 h3 h4 h5 h6 h7 h8 h9 h11
    have cc7:=HQ7.out.b.all
    simp only [PC.cells,List.cons_append,List.nil_append,List.append_nil,bksAll,bkAll,Nat.zero_add,Nat.reduceAdd,and_true] at cc7
    go_wp2_with fail
    refine bodyPost_ret (v:=.tuple #[.agg #[.string oO.name,.int .i64 oO.typ,.int .i64 oO.prec],.bool bO]) (by simp [results,Tryz.results95,go_sem,cc7]) rfl ⟨?_,?_⟩
    ·rw [HV.out]
    ·exact ((HB7.out.setCell (Nat.le_refl _) _).setCell (Nat.le_refl _) _).setCell (Nat.le_refl _) _
end Go.Proofs.YtbojljpldcijgaaGreat
