/- Parts of the proof. -/
import Derived.Test.YtpokpgkjaifccaaGreatDoorRRH01
import Derived.Test.YtpokpgkjaifccaaGreatDoorRRH19
namespace Go.Proofs.YtpokpgkjaifccaaGreatDoorRR
open Go.RowKit Hb Go.Shelf
attribute [local go_sem] Oper.semAt_some
set_option maxRecDepth 100000
set_option maxHeartbeats 1600000 in
theorem a_sub (b off cap:Nat) (t p q r s:Tm) (A AP AQ AR AS:Option Addr) (c cp cq cr cs:Nat) (w:World) (hcap:5≤cap) (ht:validT t=true) (hA:ArgsAt w b off [(t,A,c),(p,AP,cp),(q,AQ,cq),(r,AR,cr),(s,AS,cs)]) :
  Calls Tryz.prog 49 #[.slice (some ⟨b,off,none⟩) 5 cap] w fun e w'=>Below w.heap.size w w'∧RAns w' e (subA t p q r s):=by
 have HVT:Hid (∀W,Calls Tryz.prog 64 #[tmV t A c] W fun e w'=>e=.returned (.bool (t.kind==0))∧Below W.heap.size W w'):=zq fun W=>a_isVar t A c W
 have HAT:Hid (∀W,TmsAt W.heap.size W A t.args→Calls Tryz.prog 67 #[tmV t A c] W fun e w'=>Below W.heap.size W w'∧Chk w' e (atomB t)):=zq fun W h=>a_atomOrVar t A c W h
 have HAS:Hid (∀W,TmsAt W.heap.size W AS s.args→Calls Tryz.prog 67 #[tmV s AS cs] W fun e w'=>Below W.heap.size W w'∧Chk w' e (atomB s)):=zq fun W h=>a_atomOrVar s AS cs W h
 have HSZ:Hid (∀(x:Tm) a k W,TmsAt W.heap.size W a x.args→Calls Tryz.prog 68 #[tmV x a k] W fun e w'=>Below W.heap.size W w'∧Chk w' e (sizeB x)):=zq fun x a k W h=>a_size x a k W h
 have HIN:=zq (fun W=>b_inst W)
 have HTH:=zq (fun Q A c W h=>a_throw Q A c W h)
 have HA1:Hid (ArgsAt (w.alloc (.cells #[.slice (some ⟨b,off,none⟩) 5 cap] 30)) b off [(t,A,c),(p,AP,cp),(q,AQ,cq),(r,AR,cr),(s,AS,cs)]):=zq (hA.keep ((Below.refl w.heap.size w).alloc (Nat.le_refl _) _))
 have HB1:Hid (Below w.heap.size w (w.alloc (.cells #[.slice (some ⟨b,off,none⟩) 5 cap] 30))):=zq ((Below.refl w.heap.size w).alloc (Nat.le_refl _) _)
 have HK1:Hid (Bk (w.alloc (.cells #[.slice (some ⟨b,off,none⟩) 5 cap] 30)) w.heap.size [.slice (some ⟨b,off,none⟩) 5 cap]):=zq (Bk.new w [.slice (some ⟨b,off,none⟩) 5 cap] 30)
 obtain ⟨LA,HLA⟩:=lz (subA t p q r s)
 have HNT:=zq (name_small ht)
 rw [←HLA.out]
 have HA0:=zq hA
 have HTV:=zq ht
 clear ht hA
 unfold tmV at *
 refine (callsIn_wide (n:=10)).1 ?_
 refine callsIn_of_wp_marks Tryz.func49 rfl trivial ?_ rfl
 simp only [Tryz.ntmps49,List.size_toArray,List.length_cons,List.length_nil,Nat.reduceAdd,Nat.reduceSub,Array.replicate_succ,Array.replicate_zero,List.push_toArray,List.append_toArray,List.nil_append,List.cons_append]
 refine wpIn_wide.2 ?_
 go_upto_region 1 with fail
 obtain ⟨w1,HW1⟩:=lz ((w.alloc (.cells #[.slice (some ⟨b,off,none⟩) 5 cap] 30)))
 rw [←HW1.out] at HA1 HB1 HK1 ⊢
 have fa:=HA1.out.all
 simp only [rowsC,rowC,List.flatMap_cons,List.flatMap_nil,List.cons_append,List.nil_append,cellsAll,Nat.add_zero,Nat.zero_add,Nat.reduceAdd,and_true] at fa
 have fk:=HK1.out.c 0 _ rfl
 obtain ⟨tv,Htv⟩:=lz ((t.kind==0))
 rw [←Htv.out] at HVT
 have HL:Hid (LA=if tv=true then .ball biT else orB (atomB t) (orB ([p,q,r].findSome? sizeB) (orB (atomB s) (.ok (subL t [p,q,r,s] (spansL t.name.size)))))):=zq (by rw [HLA.out,Htv.out];unfold subA;simp)
 clear HLA Htv HW1
 cases tv
 rotate_left
 ·have HE:Hid (LA=.ball biT):=HL
  go_wp2_with fail
  refine (HVT.out _).mono ?_;rintro e w2 ⟨rfl,hB⟩
  have HB2:=bz HB1 hB
  clear hB fa fk
  go_wp2_with fail
  refine (HIN.out _).mono ?_;rintro e w3 ⟨xa,xc,rfl,hB,hN⟩
  have HB3:=bz HB2 hB
  have HN3:=zq hN.tms
  clear hB hN
  go_wp2_with fail
  refine (HTH.out _ _ _ _ HN3.out).mono ?_;rintro e wt ⟨hBt,⟨At,ct,rfl,hTt⟩⟩
  exact ⟨HB3.out.trans (hBt.mono HB3.out.size),by rw [HE.out];exact ⟨At,ct,rfl,hTt⟩⟩
 have HL1:Hid (LA=orB (atomB t) (orB ([p,q,r].findSome? sizeB) (orB (atomB s) (.ok (subL t [p,q,r,s] (spansL t.name.size)))))):=HL
 clear HL
 go_wp2_with fail
 refine (HVT.out _).mono ?_;rintro e w2 ⟨rfl,hB⟩
 have HB2:=bz HB1 hB
 have HA2:=zq (HA1.out.keep hB)
 have HK2:=zq (HK1.out.call hB)
 clear hB fa fk HB1 HA1 HK1 HIN HTH HVT
 have fa:=HA2.out.all
 simp only [rowsC,rowC,List.flatMap_cons,List.flatMap_nil,List.cons_append,List.nil_append,cellsAll,Nat.add_zero,Nat.zero_add,Nat.reduceAdd,and_true] at fa
 have fk:=HK2.out.c 0 _ rfl
 have HT2:=zq (HA2.out.s (t,A,c) (by simp))
 rcases hE:atomB t with _ | bb
 rotate_left
 ·have HE:Hid (LA=.ball bb):=zq (by rw [HL1.out,hE];rfl)
  rw [hE] at HAT
  clear hE HL1
  go_wp2_with fail
  refine (HAT.out _ HT2.out).mono ?_;rintro e wt ⟨hBt,⟨At,ct,rfl,hTt⟩⟩
  exact ⟨HB2.out.trans (hBt.mono HB2.out.size),by rw [HE.out];exact ⟨At,ct,rfl,hTt⟩⟩
 have HL2:Hid (LA=orB ([p,q,r].findSome? sizeB) (orB (atomB s) (.ok (subL t [p,q,r,s] (spansL t.name.size))))):=zq (by rw [HL1.out,hE];rfl)
 have HTL:Hid (t.args=[]):=zq (leaf_args HTV.out (by have:=atomB_none hE;omega))
 rw [hE] at HAT
 clear hE HL1 HTV
 go_wp2_with fail
 refine (HAT.out _ HT2.out).mono ?_;rintro e w3 ⟨hB,rfl⟩
 have HB3:=bz HB2 hB
 have HA3:=zq (HA2.out.keep hB)
 have HK3:=zq (HK2.out.call hB)
 clear hB fa fk HB2 HA2 HK2 HAT HT2
 have fk:=HK3.out.c 0 _ rfl
 have k4:(4:Int)≤(cap:Int):=by omega
 have HTM:Hid (TmsAt w3.heap.size w3 (some ⟨b,off+4,none⟩) [p,q,r]):=zq ((ArgsAt.front (rs:=[(p,AP,cp),(q,AQ,cq),(r,AR,cr)]) (rs2:=[(s,AS,cs)]) (ArgsAt.tail HA3.out)).tms (by unfold maxLen;simp))
 go_wp2_with fail
 obtain ⟨l,HLE⟩:=lz ([p,q,r])
 rw [←HLE.out] at HTM HL2
 have HLN:Hid (l.length=3):=zq (by rw [HLE.out];rfl)
 clear fk k4
 go_loopw [25] (fun i wr=>∃k:Nat,k≤3∧i=.int .i64 k∧Hid ((l.take k).findSome? sizeB=none)∧Hid (Below w3.heap.size w3 wr)) (fun i _=>3-(intOf i).toNat)
 case atStart=>exact ⟨0,by decide,rfl,zq rfl,zq (Below.refl _ _)⟩
 case round=>
  obtain ⟨k,hk,rfl,HFS,HBR⟩:=hrel
  have HM_30:=zq ((HTM.out.keep HBR.out).mono HBR.out.size)
  by_cases hlt:k<3
  ·have hkl:k<l.length:=by rw [HLN.out];exact hlt
   obtain ⟨b2,off2,xa,xc,hA',hb2,q0,q1,q2,q3,hsx⟩:=HM_30.out.get k hkl
   obtain ⟨x,HX⟩:=lz (l[k])
   rw [←HX.out] at q0 q1 q2 q3 hsx
   injection hA' with hA'
   injection hA' with hA1 hA2 _
   subst hA1 hA2
   have k0:(0:Int)≤(k:Int):=by omega
   have k1:(k:Int)<(3:Int):=by omega
   have hw2:wrap64 ((k:Int)+1)=(k:Int)+1:=IntWalk.wrap64_in _ (by omega)
   have hz:=(Below.refl wr.heap.size wr).alloc (Nat.le_refl _) (.cells #[.int .i64 x.kind,.int .i64 x.num,.string x.name,.slice xa x.args.length xc] 32)
   have HC1:Hid (∀X,Below wr.heap.size wr X→Calls Tryz.prog 68 #[.agg #[.int .i64 x.kind,.int .i64 x.num,.string x.name,.slice xa x.args.length xc]] X fun e w'=>Below X.heap.size X w'∧Chk w' e (sizeB x)):=zq fun X hX=>HSZ.out x xa xc X ((hsx.keep hX).mono hX.size)
   have HZ:=zq hz
   have HBZ0:=bz HBR hz
   clear hsx hz
   rcases hE:sizeB x with _ | bb
   ·have HFS2:Hid ((l.take (k+1)).findSome? sizeB=none):=zq (none_at _ hkl HFS.out (by rw [←HX.out];exact hE))
    rw [hE] at HC1
    clear hE HX HFS HM_30
    go_wp2_with fail
    refine (HC1.out _ HZ.out).mono ?_;rintro e w4 ⟨hB,rfl⟩
    have HB4:=bz HBZ0 hB
    clear hB HC1 HZ HBZ0 q0 q1 q2 q3
    go_wp2_with fail
    go_roundw
    case rel=>exact ⟨k+1,by omega,by go_num,HFS2,HB4⟩
    case measure=>first | exact spM k _ _ hw2 hlt | exact spM k _ _ rfl hlt
   ·have HE:Hid (LA=.ball bb):=zq (by rw [HL2.out,some_at _ hkl HFS.out (by rw [←HX.out];exact hE)];rfl)
    rw [hE] at HC1
    clear hE HX HFS HM_30 HL2
    go_wp2_with fail
    refine (HC1.out _ HZ.out).mono ?_;rintro e wt ⟨hBt,⟨At,ct,rfl,hTt⟩⟩
    have hB:=HBZ0.out.trans (hBt.mono HBZ0.out.size)
    exact ⟨HB3.out.trans (hB.mono HB3.out.size),by rw [HE.out];exact ⟨At,ct,rfl,hTt⟩⟩
  ·have hk3:k=3:=by omega
   subst hk3
   rw [show ((3:Nat):Int)=3 from rfl]
   have hfs:l.findSome? sizeB=none:=by have:=HFS.out;rwa [List.take_of_length_le (by rw [HLN.out];exact Nat.le_refl _)] at this
   have HL3:Hid (LA=orB (atomB s) (.ok (subL t [p,q,r,s] (spansL t.name.size)))):=zq (by rw [HL2.out,hfs];rfl)
   have HA5:=zq (HA3.out.keep HBR.out)
   have HK5:=zq (HK3.out.call HBR.out)
   have HB5:=zq (HB3.out.trans (HBR.out.mono HB3.out.size))
   clear hfs HL2 HFS HM_30 HTM HLN HLE HSZ HBR HA3 HK3 HB3
   have fa:=HA5.out.all
   simp only [rowsC,rowC,List.flatMap_cons,List.flatMap_nil,List.cons_append,List.nil_append,cellsAll,Nat.add_zero,Nat.zero_add,Nat.reduceAdd,and_true] at fa
   have fk:=HK5.out.c 0 _ rfl
   have HS5:=zq (HA5.out.s (s,AS,cs) (by simp))
   rcases hE:atomB s with _ | bb
   rotate_left
   ·have HE:Hid (LA=.ball bb):=zq (by rw [HL3.out,hE];rfl)
    rw [hE] at HAS
    clear hE HL3
    go_wp2_with fail
    refine (HAS.out _ HS5.out).mono ?_;rintro e wt ⟨hBt,⟨At,ct,rfl,hTt⟩⟩
    exact ⟨HB5.out.trans (hBt.mono HB5.out.size),by rw [HE.out];exact ⟨At,ct,rfl,hTt⟩⟩
   have HE:Hid (LA=.ok (subL t [p,q,r,s] (spansL t.name.size))):=zq (by rw [HL3.out,hE];rfl)
   rw [hE] at HAS
   clear hE HL3
   go_wp2_with fail
   refine (HAS.out _ HS5.out).mono ?_;rintro e w6 ⟨hB,rfl⟩
   have HB6:=bz HB5 hB
   have HA6:=zq (HA5.out.keep hB)
   have HK6:=zq (HK5.out.call hB)
   clear hB fa fk HB5 HA5 HK5 HAS HS5
   have fa:=HA6.out.all
   simp only [rowsC,rowC,List.flatMap_cons,List.flatMap_nil,List.cons_append,List.nil_append,cellsAll,Nat.add_zero,Nat.zero_add,Nat.reduceAdd,and_true] at fa
   have fk:=HK6.out.c 0 _ rfl
   have HSP:=zq (fun W=>a_spans t.name.size W)
   go_wp2_with fail
   refine (HSP.out _).mono ?_;rintro e w7 ⟨rfl,hw7⟩
   have hal1:=(Below.refl w6.heap.size w6).alloc (Nat.le_refl _) (.cells #[.string t.name] 9)
   have hal2:=hal1.alloc (by simp) (.cells #[.slice none 0 0] 61)
   have hal3:=hal2.alloc (by simp <;> omega) (.cells #[.int .i64 t.name.size] 3)
   have HB7:Hid (Below w.heap.size w w7):=zq (by rw [hw7];exact HB6.out.trans (hal3.mono HB6.out.size))
   have HK7:Hid (Bk w7 w.heap.size [.slice (some ⟨b,off,none⟩) 5 cap]):=zq (by rw [hw7];exact HK6.out.call hal3)
   have HN7:Hid (Bk w7 w6.heap.size [.string t.name]):=zq (by rw [hw7];exact ((Bk.new w6 [.string t.name] 9).al _).al _)
   have HO7:Hid (Boxed w7 (w6.heap.size+1) 61 (.slice none 0 0)):=zq (by
    have:=(Boxed.new (w6.alloc (.cells #[.string t.name] 9)) 61 (.slice none 0 0)).alloc (.cells #[.int .i64 t.name.size] 3)
    rw [World.size_alloc] at this
    rw [hw7];exact this)
   have HQ7:Hid (Bk w7 (w6.heap.size+1+1) [.int .i64 t.name.size]):=zq (by
    have:=Bk.new ((w6.alloc (.cells #[.string t.name] 9)).alloc (.cells #[.slice none 0 0] 61)) [.int .i64 t.name.size] 3
    rw [World.size_alloc,World.size_alloc] at this
    rw [hw7];exact this)
   have HS7:Hid (w7.heap.size=w6.heap.size+1+1+1):=zq (by rw [hw7];simp)
   have HSQ:=zq (spans_stops 9 t.name.size (w6.heap.size+1+1) w7 (by have:=HNT.out;omega) HQ7.out)
   have HSL:=zq (spansL_len t.name.size HNT.out)
   have HWL:=zq HB6.out.size
   have HL6:Hid (w.heap.size≤w6.heap.size):=HWL
   have HT0:Hid (w6.heap.size<w7.heap.size):=zq (by rw [HS7.out];exact Nat.lt_add_of_pos_right (by decide:0<3))
   have HT1:Hid (w6.heap.size+1<w7.heap.size):=zq (by rw [HS7.out];exact Nat.lt_add_of_pos_right (by decide:0<2))
   have HT2:Hid (w6.heap.size+1+1<w7.heap.size):=zq (by rw [HS7.out];exact Nat.lt_succ_self _)
   have HTW:Hid (w.heap.size<w7.heap.size):=zq (Nat.lt_of_le_of_lt HL6.out HT0.out)
   have HL7:Hid (w.heap.size≤w7.heap.size):=zq (Nat.le_of_lt HTW.out)
   rw [World.size_alloc,World.size_alloc]
   clear hal1 hal2 hal3 hw7 fa fk HB6 HA6 HK6 HSP
   obtain ⟨W0,HW0⟩:=lz (w7.heap.size)
   go_wp2_with fail
   refine (wpIn_wide (n:=10)).1 ?_
   refine wpIn_rangeX rfl (by omega) (gf:=51) (lb:=#[.pointer (some ⟨w6.heap.size+1+1,0,none⟩)]) rfl trivial (enters_of Tryz.func51 (by kernel_rfl) rfl) HSQ.out (fun h k=>KB.trans h k) (fun W l o o' hl h hc=>KB.put W l o' (by have:=HS7.out;omega)) (fun _=>rfl)
    (fun pre W=>Below w.heap.size w W∧Bk W w.heap.size [.slice (some ⟨b,off,none⟩) 5 cap]∧Bk W w6.heap.size [.string t.name]∧∃v rs,Boxed W (w6.heap.size+1) 61 v∧OutR w7.heap.size 30 W v rs∧rs.map (fun r:LR=>r.1)=subL t [p,q,r,s] pre) (fun _ _ _=>False)
    ?ownx (fun _ _ _ _ _ hs _ _=>hs) ⟨HB7.out,HK7.out,HN7.out,_,[],HO7.out,OutR.nul _ _ _,rfl⟩ ?round ?done ?stop
   case ownx=>
    rintro s' X Y row ⟨h1,h2,h3,v,rs,h4,h5,h6⟩ hg hr
    have hr':∀r,row=some r→∃o:Obj,X.heap[r]? = some o∧o.isCells=false:=fun r e=>(hr r e).2
    exact ⟨(show OwnFrom w7.heap.size (fun (_:Unit) W=>Below w.heap.size w W) from ownFrom_below (Nat.le_refl _) HB7.out.size) () X Y row h1 hg hr,h2.grown hg hr',h3.grown hg hr',v,rs,h4.kept hg (fun e'=>by
     obtain ⟨o,ho,hc⟩:=hr' _ e'.symm
     rw [show X.heap[w6.heap.size+1]? = _ from h4] at ho;cases ho;cases hc),h5.grown hg hr',h6⟩
   case round=>
    rintro rl pre ⟨lo,hi⟩ W hl hlW hlo ⟨h1,h2,h3,ov,rs,h4,h5,h6⟩-hsp
    have HBA:=zq ((Below.refl W.heap.size W).alloc (Nat.le_refl _) (.cells #[.int .i64 lo,.int .i64 hi] 27))
    have HLO:=zq (not_cells_alloc (.cells #[.int .i64 lo,.int .i64 hi] 27) hlo)
    have HBW:=zq (h1.trans (HBA.out.mono h1.size))
    have HK8:=zq (h2.call HBA.out)
    have HN8:=zq (h3.call HBA.out)
    have HV8:=zq (h4.alloc (.cells #[.int .i64 lo,.int .i64 hi] 27))
    have HO8:=zq (h5.below HBA.out)
    have HC8:Hid (Bk (W.alloc (.cells #[.int .i64 lo,.int .i64 hi] 27)) W.heap.size [.int .i64 lo,.int .i64 hi]):=zq (Bk.new W [.int .i64 lo,.int .i64 hi] 27)
    have HRS:=zq h6
    have HSP:=zq hsp
    have HW7:Hid (w7.heap.size≤W.heap.size):=zq (Nat.le_trans hl (Nat.le_of_lt hlW))
    clear h1 h2 h3 h4 h5 h6 hsp hlo
    gi_wp2
    refine ⟨keeps_below HBA.out,KB.below HBA.out (Nat.lt_of_lt_of_le HT2.out HW7.out),fun W2 hX2=>?_⟩
    have hne:rl≠W.heap.size:=Nat.ne_of_lt hlW
    have HBX:=zq (HBW.out.trans (hX2.under (B:=w.heap.size) (Nat.le_trans HL7.out hl) HBW.out.size))
    have HK9:=zq (HK8.out.keeps (hX2.block _ HK8.out.lt (Nat.ne_of_lt (Nat.lt_of_lt_of_le HTW.out hl))))
    have HN9:=zq (HN8.out.keeps (hX2.block _ HN8.out.lt (Nat.ne_of_lt (Nat.lt_of_lt_of_le HT0.out hl))))
    have HV9:=zq (boxed_bx HV8.out (Nat.ne_of_lt (Nat.lt_of_lt_of_le HT1.out hl)) hX2)
    have HO9:=zq (HO8.out.grown (row:=some rl) ⟨hX2.os,hX2.tape,hX2.output,hX2.size,fun k hk hne=>hX2.block k hk (fun e=>hne (by rw [e]))⟩ (fun r e=>by cases e;exact HLO.out))
    have HC9:=zq (HC8.out.keeps (hX2.block _ HC8.out.lt (Nat.ne_of_gt hlW)))
    clear HK8 HN8 HV8 HO8 HC8 hX2 HLO
    obtain ⟨hlh,hhn⟩:=spans_mem (HSP.out.subset (by simp:(lo,hi)∈pre++[(lo,hi)]))
    obtain ⟨hs1,hs2,hs3,hs4,hs5⟩:=subS hlh hhn HNT.out
    obtain ⟨J0,HJ0⟩:∃x:Tm,Hid (x=intT lo∧x.args=[]):=⟨_,zq ⟨rfl,rfl⟩⟩
    have HI0:Hid (∀X,Below W2.heap.size W2 X→Calls Tryz.prog 70 #[.int .i64 (lo:Int)] X fun e w'=>∃a c,e=.returned (.agg #[.int .i64 J0.kind,.int .i64 J0.num,.string J0.name,.slice a J0.args.length c])∧Below X.heap.size X w'):=zq fun X _=>by rw [HJ0.out.1];exact (t_int _ X).mono fun e w' h=>⟨none,0,h.1,h.2⟩
    obtain ⟨J1,HJ1⟩:∃x:Tm,Hid (x=intT (hi-lo:Nat)∧x.args=[]):=⟨_,zq ⟨rfl,rfl⟩⟩
    have HI1:Hid (∀X,Below W2.heap.size W2 X→Calls Tryz.prog 70 #[.int .i64 ((hi-lo:Nat):Int)] X fun e w'=>∃a c,e=.returned (.agg #[.int .i64 J1.kind,.int .i64 J1.num,.string J1.name,.slice a J1.args.length c])∧Below X.heap.size X w'):=zq fun X _=>by rw [HJ1.out.1];exact (t_int _ X).mono fun e w' h=>⟨none,0,h.1,h.2⟩
    obtain ⟨J2,HJ2⟩:∃x:Tm,Hid (x=intT (t.name.size-hi:Nat)∧x.args=[]):=⟨_,zq ⟨rfl,rfl⟩⟩
    have HI2:Hid (∀X,Below W2.heap.size W2 X→Calls Tryz.prog 70 #[.int .i64 ((t.name.size-hi:Nat):Int)] X fun e w'=>∃a c,e=.returned (.agg #[.int .i64 J2.kind,.int .i64 J2.num,.string J2.name,.slice a J2.args.length c])∧Below X.heap.size X w'):=zq fun X _=>by rw [HJ2.out.1];exact (t_int _ X).mono fun e w' h=>⟨none,0,h.1,h.2⟩
    obtain ⟨J3,HJ3⟩:∃x:Tm,Hid (x=atomT (t.name.extract lo hi)∧x.args=[]):=⟨_,zq ⟨rfl,rfl⟩⟩
    have HI3:Hid (∀X,Below W2.heap.size W2 X→Calls Tryz.prog 75 #[.string (t.name.extract lo hi)] X fun e w'=>∃a c,e=.returned (.agg #[.int .i64 J3.kind,.int .i64 J3.num,.string J3.name,.slice a J3.args.length c])∧Below X.heap.size X w'):=zq fun X _=>by rw [HJ3.out.1];exact t_atom _ (subX hlh hhn HNT.out) X
    gi_wp2_with fail
    rename_i K9 hK9
    refine region_ownI (w0:=W2) [rPure [] [0] (fun | [v]=>v=.pointer (some ⟨W.heap.size,0,none⟩) | _=>False),
      rVal [0] [1] (fun | [v]=>v=.int .i64 (lo:Int) | _=>False),
      rLf [0,1] 2 J0,
      rPure [] [3] (fun | [v]=>v=.pointer (some ⟨W.heap.size,1,none⟩) | _=>False),
      rVal [3] [4] (fun | [v]=>v=.int .i64 (hi:Int) | _=>False),
      rPure [] [5] (fun | [v]=>v=.pointer (some ⟨W.heap.size,0,none⟩) | _=>False),
      rVal [5] [6] (fun | [v]=>v=.int .i64 (lo:Int) | _=>False),
      rPure [3,4,5,6] [7] (fun | [v]=>v=.int .i64 ((hi-lo:Nat):Int) | _=>False),
      rLf (List.range 8) 8 J1,
      rVal [] [9] (fun | [v]=>v=.string t.name | _=>False),
      rPure [9] [10] (fun | [v]=>v=.int .i64 (t.name.size:Int) | _=>False),
      rPure [] [11] (fun | [v]=>v=.pointer (some ⟨W.heap.size,1,none⟩) | _=>False),
      rVal [11] [12] (fun | [v]=>v=.int .i64 (hi:Int) | _=>False),
      rPure [9,10,11,12] [13] (fun | [v]=>v=.int .i64 ((t.name.size-hi:Nat):Int) | _=>False),
      rLf (List.range 14) 14 J2,
      rVal [] [15] (fun | [v]=>v=.string t.name | _=>False),
      rPure [] [16] (fun | [v]=>v=.pointer (some ⟨W.heap.size,0,none⟩) | _=>False),
      rVal [16] [17] (fun | [v]=>v=.int .i64 (lo:Int) | _=>False),
      rPure [] [18] (fun | [v]=>v=.pointer (some ⟨W.heap.size,1,none⟩) | _=>False),
      rVal [18] [19] (fun | [v]=>v=.int .i64 (hi:Int) | _=>False),
      rPure [15,16,17,18,19] [20] (fun | [v]=>v=.string (t.name.extract lo hi) | _=>False),
      rLf (List.range 21) 21 J3,
      rRow (List.range 22) 22 4 [J0,J1,J2,J3],
      rPure (List.range 23) [23,22] (fun | [v,u]=>v=u | _=>False)]
      [some 44,some 45,some 46,some 47,some 48,some 49,some 50,some 51,some 52,some 53,some 54,some 55,some 56,some 57,some 58,some 59,some 60,some 61,some 62,some 63,some 64,some 65,some 66,some 8] (fun _=>True) (W2.heap.size) (by kernel_rfl) (by kernel_rfl) (Nat.le_refl _) (by kernel_rfl) (by kernel_rfl) (by kernel_rfl) (fun j o ho=>?srv9) (fun val Y N hv HF=>?fin9)
    case srv9=>
      have hlt:j<24:=(Array.getElem?_eq_some_iff.1 ho).1
      rcases ltc24 hlt with rfl | rfl | rfl | rfl | rfl | rfl | rfl | rfl | rfl | rfl | rfl | rfl | rfl | rfl | rfl | rfl | rfl | rfl | rfl | rfl | rfl | rfl | rfl | rfl
      ·cases ho
       refine srv_pure rfl rfl (fun val E hE hA=>?_)
       have e7:=hE.t 7 (.pointer (some ⟨W.heap.size,0,none⟩)) rfl
       exact ⟨.pointer (some ⟨W.heap.size,0,none⟩),fun X=>by simp [execOp,go_sem,e7],rfl⟩
      ·cases ho
       refine srv_val rfl rfl (fun _ _ _=>trivial) (fun val E X hE hB hA=>?_)
       have e44:=hE.t 44 (val 0) rfl
       have h0:val 0=.pointer (some ⟨W.heap.size,0,none⟩):=hA 0 (oz rfl)
       have hx0:=(HC9.out.call hB).c 0 _ rfl
       exact ⟨.int .i64 (lo:Int),by simp [execOp,go_sem,e44,h0,hx0],rfl⟩
      ·cases ho
       refine srv_cal rfl rfl fun val E X N hE hC hA hc=>?_
       have e45:=hE.t 45 (val 1) rfl
       have h1:val 1=.int .i64 (lo:Int):=hA 1 (oz rfl)
       exact ⟨_,_,by simp [execOp,go_sem,hE.f,e45,h1] <;> rfl,(HI0.out X hC.bel).mono fun e w' h=>by
        obtain ⟨a,c,he,hB⟩:=h
        exact ⟨_,he,hB,⟨a,c,rfl⟩,fun _ _ _=>trivial⟩⟩
      ·cases ho
       refine srv_pure rfl rfl (fun val E hE hA=>?_)
       have e7:=hE.t 7 (.pointer (some ⟨W.heap.size,0,none⟩)) rfl
       exact ⟨.pointer (some ⟨W.heap.size,1,none⟩),fun X=>by simp [execOp,go_sem,e7],rfl⟩
      ·cases ho
       refine srv_val rfl rfl (fun _ _ _=>trivial) (fun val E X hE hB hA=>?_)
       have e47:=hE.t 47 (val 3) rfl
       have h3:val 3=.pointer (some ⟨W.heap.size,1,none⟩):=hA 3 (oz rfl)
       have hx1:=(HC9.out.call hB).c 1 _ rfl
       exact ⟨.int .i64 (hi:Int),by simp [execOp,go_sem,e47,h3,hx1],rfl⟩
      ·cases ho
       refine srv_pure rfl rfl (fun val E hE hA=>?_)
       have e7:=hE.t 7 (.pointer (some ⟨W.heap.size,0,none⟩)) rfl
       exact ⟨.pointer (some ⟨W.heap.size,0,none⟩),fun X=>by simp [execOp,go_sem,e7],rfl⟩
      ·cases ho
       refine srv_val rfl rfl (fun _ _ _=>trivial) (fun val E X hE hB hA=>?_)
       have e49:=hE.t 49 (val 5) rfl
       have h5:val 5=.pointer (some ⟨W.heap.size,0,none⟩):=hA 5 (oz rfl)
       have hx0:=(HC9.out.call hB).c 0 _ rfl
       exact ⟨.int .i64 (lo:Int),by simp [execOp,go_sem,e49,h5,hx0],rfl⟩
      ·cases ho
       refine srv_pure rfl rfl (fun val E hE hA=>?_)
       have e48:=hE.t 48 (val 4) rfl
       have h4:val 4=.int .i64 (hi:Int):=hA 4 (oz rfl)
       have e50:=hE.t 50 (val 6) rfl
       have h6:val 6=.int .i64 (lo:Int):=hA 6 (oz rfl)
       exact ⟨.int .i64 ((hi-lo:Nat):Int),fun X=>by simp [execOp,go_sem,e48,h4,e50,h6,hs1],rfl⟩
      ·cases ho
       refine srv_cal rfl rfl fun val E X N hE hC hA hc=>?_
       have e51:=hE.t 51 (val 7) rfl
       have h7:val 7=.int .i64 ((hi-lo:Nat):Int):=hA 7 (oz rfl)
       exact ⟨_,_,by simp [execOp,go_sem,hE.f,e51,h7] <;> rfl,(HI1.out X hC.bel).mono fun e w' h=>by
        obtain ⟨a,c,he,hB⟩:=h
        exact ⟨_,he,hB,⟨a,c,rfl⟩,fun _ _ _=>trivial⟩⟩
      ·cases ho
       refine srv_val rfl rfl (fun _ _ _=>trivial) (fun val E X hE hB hA=>?_)
       have e5:=hE.t 5 (.pointer (some ⟨w6.heap.size,0,none⟩)) rfl
       have hx2:=(HN9.out.call hB).c 0 _ rfl
       exact ⟨.string t.name,by simp [execOp,go_sem,e5,hx2],rfl⟩
      ·cases ho
       refine srv_pure rfl rfl (fun val E hE hA=>?_)
       have e53:=hE.t 53 (val 9) rfl
       have h9:val 9=.string t.name:=hA 9 (oz rfl)
       exact ⟨.int .i64 (t.name.size:Int),fun X=>by simp [execOp,go_sem,e53,h9],rfl⟩
      ·cases ho
       refine srv_pure rfl rfl (fun val E hE hA=>?_)
       have e7:=hE.t 7 (.pointer (some ⟨W.heap.size,0,none⟩)) rfl
       exact ⟨.pointer (some ⟨W.heap.size,1,none⟩),fun X=>by simp [execOp,go_sem,e7],rfl⟩
      ·cases ho
       refine srv_val rfl rfl (fun _ _ _=>trivial) (fun val E X hE hB hA=>?_)
       have e55:=hE.t 55 (val 11) rfl
       have h11:val 11=.pointer (some ⟨W.heap.size,1,none⟩):=hA 11 (oz rfl)
       have hx1:=(HC9.out.call hB).c 1 _ rfl
       exact ⟨.int .i64 (hi:Int),by simp [execOp,go_sem,e55,h11,hx1],rfl⟩
      ·cases ho
       refine srv_pure rfl rfl (fun val E hE hA=>?_)
       have e54:=hE.t 54 (val 10) rfl
       have h10:val 10=.int .i64 (t.name.size:Int):=hA 10 (oz rfl)
       have e56:=hE.t 56 (val 12) rfl
       have h12:val 12=.int .i64 (hi:Int):=hA 12 (oz rfl)
       exact ⟨.int .i64 ((t.name.size-hi:Nat):Int),fun X=>by simp [execOp,go_sem,e54,h10,e56,h12,hs2],rfl⟩
      ·cases ho
       refine srv_cal rfl rfl fun val E X N hE hC hA hc=>?_
       have e57:=hE.t 57 (val 13) rfl
       have h13:val 13=.int .i64 ((t.name.size-hi:Nat):Int):=hA 13 (oz rfl)
       exact ⟨_,_,by simp [execOp,go_sem,hE.f,e57,h13] <;> rfl,(HI2.out X hC.bel).mono fun e w' h=>by
        obtain ⟨a,c,he,hB⟩:=h
        exact ⟨_,he,hB,⟨a,c,rfl⟩,fun _ _ _=>trivial⟩⟩
      ·cases ho
       refine srv_val rfl rfl (fun _ _ _=>trivial) (fun val E X hE hB hA=>?_)
       have e5:=hE.t 5 (.pointer (some ⟨w6.heap.size,0,none⟩)) rfl
       have hx2:=(HN9.out.call hB).c 0 _ rfl
       exact ⟨.string t.name,by simp [execOp,go_sem,e5,hx2],rfl⟩
      ·cases ho
       refine srv_pure rfl rfl (fun val E hE hA=>?_)
       have e7:=hE.t 7 (.pointer (some ⟨W.heap.size,0,none⟩)) rfl
       exact ⟨.pointer (some ⟨W.heap.size,0,none⟩),fun X=>by simp [execOp,go_sem,e7],rfl⟩
      ·cases ho
       refine srv_val rfl rfl (fun _ _ _=>trivial) (fun val E X hE hB hA=>?_)
       have e60:=hE.t 60 (val 16) rfl
       have h16:val 16=.pointer (some ⟨W.heap.size,0,none⟩):=hA 16 (oz rfl)
       have hx0:=(HC9.out.call hB).c 0 _ rfl
       exact ⟨.int .i64 (lo:Int),by simp [execOp,go_sem,e60,h16,hx0],rfl⟩
      ·cases ho
       refine srv_pure rfl rfl (fun val E hE hA=>?_)
       have e7:=hE.t 7 (.pointer (some ⟨W.heap.size,0,none⟩)) rfl
       exact ⟨.pointer (some ⟨W.heap.size,1,none⟩),fun X=>by simp [execOp,go_sem,e7],rfl⟩
      ·cases ho
       refine srv_val rfl rfl (fun _ _ _=>trivial) (fun val E X hE hB hA=>?_)
       have e62:=hE.t 62 (val 18) rfl
       have h18:val 18=.pointer (some ⟨W.heap.size,1,none⟩):=hA 18 (oz rfl)
       have hx1:=(HC9.out.call hB).c 1 _ rfl
       exact ⟨.int .i64 (hi:Int),by simp [execOp,go_sem,e62,h18,hx1],rfl⟩
      ·cases ho
       refine srv_pure rfl rfl (fun val E hE hA=>?_)
       have e59:=hE.t 59 (val 15) rfl
       have h15:val 15=.string t.name:=hA 15 (oz rfl)
       have e61:=hE.t 61 (val 17) rfl
       have h17:val 17=.int .i64 (lo:Int):=hA 17 (oz rfl)
       have e63:=hE.t 63 (val 19) rfl
       have h19:val 19=.int .i64 (hi:Int):=hA 19 (oz rfl)
       exact ⟨.string (t.name.extract lo hi),fun X=>by simp [execOp,go_sem,e59,h15,e61,h17,e63,h19,hs3,hs4,hs5],rfl⟩
      ·cases ho
       refine srv_cal rfl rfl fun val E X N hE hC hA hc=>?_
       have e64:=hE.t 64 (val 20) rfl
       have h20:val 20=.string (t.name.extract lo hi):=hA 20 (oz rfl)
       exact ⟨_,_,by simp [execOp,go_sem,hE.f,e64,h20] <;> rfl,(HI3.out X hC.bel).mono fun e w' h=>by
        obtain ⟨a,c,he,hB⟩:=h
        exact ⟨_,he,hB,⟨a,c,rfl⟩,fun _ _ _=>trivial⟩⟩
      ·cases ho
       refine srv_mk rfl rfl fun val E X N hE hC hA hc=>?_
       have e46:=hE.t 46 (val 2) rfl
       obtain ⟨a2,c2,h2⟩:∃a c,val 2=.agg #[.int .i64 J0.kind,.int .i64 J0.num,.string J0.name,.slice a J0.args.length c]:=hA 2 (oz rfl)
       have e52:=hE.t 52 (val 8) rfl
       obtain ⟨a8,c8,h8⟩:∃a c,val 8=.agg #[.int .i64 J1.kind,.int .i64 J1.num,.string J1.name,.slice a J1.args.length c]:=hA 8 (oz rfl)
       have e58:=hE.t 58 (val 14) rfl
       obtain ⟨a14,c14,h14⟩:∃a c,val 14=.agg #[.int .i64 J2.kind,.int .i64 J2.num,.string J2.name,.slice a J2.args.length c]:=hA 14 (oz rfl)
       have e65:=hE.t 65 (val 21) rfl
       obtain ⟨a21,c21,h21⟩:∃a c,val 21=.agg #[.int .i64 J3.kind,.int .i64 J3.num,.string J3.name,.slice a J3.args.length c]:=hA 21 (oz rfl)
       exact ⟨.slice (some ⟨X.heap.size,0,none⟩) 4 4,X.alloc (.cells #[.int .i64 J0.kind,.int .i64 J0.num,.string J0.name,.slice a2 J0.args.length c2,.int .i64 J1.kind,.int .i64 J1.num,.string J1.name,.slice a8 J1.args.length c8,.int .i64 J2.kind,.int .i64 J2.num,.string J2.name,.slice a14 J2.args.length c14,.int .i64 J3.kind,.int .i64 J3.num,.string J3.name,.slice a21 J3.args.length c21] 32),by simp [execOp,go_sem,e46,h2,e52,h8,e58,h14,e65,h21],(Below.refl _ _).alloc (Nat.le_refl _) _,⟨_,rfl⟩,fun N' _ h2=>⟨_,rfl,rows_leaf (N:=N') (X:=X) (rs:=[(J0,a2,c2),(J1,a8,c8),(J2,a14,c14),(J3,a21,c21)]) (e:=32) (h2 _ (Nat.le_refl _) (by simp)) (by simp [maxLen]) (fun x hx=>by
        simp only [List.mem_cons,List.mem_nil_iff,or_false] at hx
        rcases hx with rfl | rfl | rfl | rfl <;> first | rfl | exact HJ0.out.2 | exact HJ1.out.2 | exact HJ2.out.2 | exact HJ3.out.2)⟩⟩
      ·cases ho
       refine srv_pure rfl rfl (fun val E hE hA=>?_)
       have e66:=hE.t 66 (val 22) rfl
       exact ⟨val 22,fun X=>by simp [execOp,go_sem,e66],rfl⟩
    case fin9=>
     have h0:val 0=.pointer (some ⟨W.heap.size,0,none⟩):=hv 0 (by decide)
     have h1:val 1=.int .i64 (lo:Int):=hv 1 (by decide)
     obtain ⟨_,_,h2⟩:∃a c,val 2=.agg #[.int .i64 J0.kind,.int .i64 J0.num,.string J0.name,.slice a J0.args.length c]:=hv 2 (by decide)
     have h3:val 3=.pointer (some ⟨W.heap.size,1,none⟩):=hv 3 (by decide)
     have h4:val 4=.int .i64 (hi:Int):=hv 4 (by decide)
     have h5:val 5=.pointer (some ⟨W.heap.size,0,none⟩):=hv 5 (by decide)
     have h6:val 6=.int .i64 (lo:Int):=hv 6 (by decide)
     have h7:val 7=.int .i64 ((hi-lo:Nat):Int):=hv 7 (by decide)
     obtain ⟨_,_,h8⟩:∃a c,val 8=.agg #[.int .i64 J1.kind,.int .i64 J1.num,.string J1.name,.slice a J1.args.length c]:=hv 8 (by decide)
     have h9:val 9=.string t.name:=hv 9 (by decide)
     have h10:val 10=.int .i64 (t.name.size:Int):=hv 10 (by decide)
     have h11:val 11=.pointer (some ⟨W.heap.size,1,none⟩):=hv 11 (by decide)
     have h12:val 12=.int .i64 (hi:Int):=hv 12 (by decide)
     have h13:val 13=.int .i64 ((t.name.size-hi:Nat):Int):=hv 13 (by decide)
     obtain ⟨_,_,h14⟩:∃a c,val 14=.agg #[.int .i64 J2.kind,.int .i64 J2.num,.string J2.name,.slice a J2.args.length c]:=hv 14 (by decide)
     have h15:val 15=.string t.name:=hv 15 (by decide)
     have h16:val 16=.pointer (some ⟨W.heap.size,0,none⟩):=hv 16 (by decide)
     have h17:val 17=.int .i64 (lo:Int):=hv 17 (by decide)
     have h18:val 18=.pointer (some ⟨W.heap.size,1,none⟩):=hv 18 (by decide)
     have h19:val 19=.int .i64 (hi:Int):=hv 19 (by decide)
     have h20:val 20=.string (t.name.extract lo hi):=hv 20 (by decide)
     obtain ⟨_,_,h21⟩:∃a c,val 21=.agg #[.int .i64 J3.kind,.int .i64 J3.num,.string J3.name,.slice a J3.args.length c]:=hv 21 (by decide)
     obtain ⟨g9,h22,ht9⟩:∃g,val 22=.slice (some ⟨g,0,none⟩) 4 4∧TmsK N Y (some ⟨g,0,none⟩) [J0,J1,J2,J3]:=HF.vcs 22 (by decide) rfl
     have h23:val 23=val 22:=hv 23 (by decide)
     rw [h22] at h23
     obtain ⟨z9,HZ9,h22⟩:∃z,Hid (z=0)∧val 22=.slice (some ⟨g9,z,none⟩) 4 4:=⟨0,zq rfl,h22⟩
     have h23:val 23=.slice (some ⟨g9,z9,none⟩) 4 4:=by rw [h23,HZ9.out]
     refine hK9 _ _ ?_
     simp only [fillD,List.set_cons_zero,List.set_cons_succ,Nat.reduceAdd,Nat.zero_add,h0,h1,h2,h3,h4,h5,h6,h7,h8,h9,h10,h11,h12,h13,h14,h15,h16,h17,h18,h19,h20,h21,h22,h23]
     have HLX:Hid (w7.heap.size≤W2.heap.size):=zq (Nat.le_trans HW7.out (Nat.le_of_lt HC9.out.lt))
     have HBY:=zq (HBX.out.trans (HF.bel.mono HBX.out.size))
     have HKY:=zq (HK9.out.call HF.bel)
     have HNY:=zq (HN9.out.call HF.bel)
     have HVY:Hid (Boxed Y (w6.heap.size+1) 61 ov):=zq ((HF.bel.block _ HV9.out.lt).trans HV9.out)
     have HOY:=zq (HO9.out.below HF.bel)
     have HCY:=zq (HC9.out.call HF.bel)
     have HKP:Hid (KeepsOthers W2 Y∧KB (w6.heap.size+1+1) W2 Y):=zq ⟨keeps_below HF.bel,KB.below HF.bel (Nat.lt_of_lt_of_le HT2.out HLX.out)⟩
     have HTJ:Hid (TmsAt Y.heap.size Y (some ⟨g9,z9,none⟩) [J0,J1,J2,J3]):=zq (by rw [HZ9.out];exact ht9.keep (fun _ _=>rfl) (fun b hb=>HF.lt b hb))
     have HAY:=zq (HA0.out.keep HBY.out)
     have HLY:Hid (w7.heap.size≤Y.heap.size):=zq (Nat.le_trans HLX.out HF.bel.size)
     have HPL:Hid (pre.length≤100000):=zq (preS HSP.out HSL.out)
     clear hv h0 h1 h2 h3 h4 h5 h6 h7 h8 h9 h10 h11 h12 h13 h14 h15 h16 h17 h18 h19 h20 h21 h22 h23 hK9 HF ht9 HBX HK9 HN9 HV9 HO9 HC9 HI0 HI1 HI2 HI3 hs1 hs2 hs3 hs4 hs5
     obtain ⟨al,HAL⟩:=lz ([p,q,r,s])
     obtain ⟨js,HJS⟩:=lz ([J0,J1,J2,J3])
     have HJN:Hid (js.length=4):=zq (by rw [HJS.out];rfl)
     have HAN:Hid (al.length=4):=zq (by rw [HAL.out];rfl)
     have HJL:Hid (js=subRow t.name (lo,hi)∧∀x∈js,x.args=[]):=zq (by
      rw [HJS.out]
      refine ⟨?_,fun x hx=>?_⟩
      ·unfold subRow
       rw [HJ0.out.1,HJ1.out.1,HJ2.out.1,HJ3.out.1]
      ·simp only [List.mem_cons,List.mem_nil_iff,or_false] at hx
       rcases hx with rfl | rfl | rfl | rfl
       ·exact HJ0.out.2
       ·exact HJ1.out.2
       ·exact HJ2.out.2
       ·exact HJ3.out.2)
     rw [←HJS.out] at HTJ
     rw [←HAL.out] at HRS
     have HTA:Hid (TmsAt Y.heap.size Y (some ⟨b,off,none⟩) (t::al)):=zq (by rw [HAL.out];exact HAY.out.tms (by unfold maxLen;simp))
     clear HJ0 HJ1 HJ2 HJ3 HJS
     gi_wp2_with fail
     gi_loopw [9,69] (fun fz i wr=>∃k:Nat,k≤4∧fz=.bool (fitsK al js k)∧i=.int .i64 k∧Hid (Below Y.heap.size Y wr)) (fun _ i _=>4-(intOf i).toNat)
     case atStart=>exact ⟨0,by decide,rfl,rfl,zq (Below.refl _ _)⟩
     case round=>
      obtain ⟨k,hk,rfl,rfl,HBR⟩:=hrel
      obtain ⟨fz,HFZ⟩:=lz (fitsK al js k)
      rw [←HFZ.out]
      by_cases hlt:k<4
      ·have hkj:k<js.length:=by rw [HJN.out];exact hlt
       have hka:k<al.length:=by rw [HAN.out];exact hlt
       obtain ⟨k1,hk1⟩:∃k1:Nat,k1=k+1:=⟨_,rfl⟩
       obtain ⟨bj,oj,xa,xc,hA',hbj,q0,q1,q2,q3,hsx⟩:=((HTJ.out.keep HBR.out).mono HBR.out.size).get k hkj
       obtain ⟨x,HX⟩:=lz (js[k])
       rw [←HX.out] at q0 q1 q2 q3 hsx
       injection hA' with hA'
       injection hA' with hA1 hA2 _
       subst hA1 hA2
       obtain ⟨bb,ob,ya,yc,hB',hbb,r0,r1,r2,r3,hsy⟩:=((HTA.out.keep HBR.out).mono HBR.out.size).get k1 (subG hk1 hka)
       obtain ⟨y,HY⟩:=lz (al[k])
       have hye:(t::al)[k1]'(subG hk1 hka)=y:=by subst hk1;rw [HY.out];rfl
       rw [hye] at r0 r1 r2 r3 hsy
       injection hB' with hB'
       injection hB' with hB1 hB2 _
       subst hB1 hB2
       have HFS:Hid (fitsK al js (k+1)=(fz&&(y.kind==0||sameT y x))):=zq (by rw [fitsK_succ _ _ k hka hkj,←HFZ.out,←HX.out,←HY.out])
       obtain ⟨hw2,hwk,hk3,hk4,k0,k2⟩:=subK hlt hk1
       have hz:=(Below.refl wr.heap.size wr).alloc (Nat.le_refl _) (.cells #[.int .i64 x.kind,.int .i64 x.num,.string x.name,.slice xa x.args.length xc] 32)
       obtain ⟨wv,HWV⟩:=lz (wr.alloc (.cells #[.int .i64 x.kind,.int .i64 x.num,.string x.name,.slice xa x.args.length xc] 32))
       have HBV:Hid (Below Y.heap.size Y wv):=zq (by rw [HWV.out];exact HBR.out.trans (hz.mono HBR.out.size))
       have HKV:=zq (HKY.out.call HBV.out)
       have HXV:Hid (Bk wv wr.heap.size [.int .i64 x.kind,.int .i64 x.num,.string x.name,.slice xa x.args.length xc]):=zq (by rw [HWV.out];exact Bk.new wr [.int .i64 x.kind,.int .i64 x.num,.string x.name,.slice xa x.args.length xc] 32)
       have HYC:Hid (∀X,Below wv.heap.size wv X→X.cell? ⟨b,off+k1 * 4,none⟩=some (.int .i64 y.kind)∧X.cell? ⟨b,off+k1 * 4+1,none⟩=some (.int .i64 y.num)∧X.cell? ⟨b,off+k1 * 4+2,none⟩=some (.string y.name)∧X.cell? ⟨b,off+k1 * 4+3,none⟩=some (.slice ya y.args.length yc)):=zq fun X hX=>by
        have hq:Below wr.heap.size wr X:=(HWV.out ▸ hz).trans (hX.mono (by rw [HWV.out];exact hz.size))
        exact ⟨(hq.cell (p:=⟨b,_,none⟩) hbb).trans r0,(hq.cell (p:=⟨b,_,none⟩) hbb).trans r1,(hq.cell (p:=⟨b,_,none⟩) hbb).trans r2,(hq.cell (p:=⟨b,_,none⟩) hbb).trans r3⟩
       have HIV:Hid (∀W,Calls Tryz.prog 64 #[.agg #[.int .i64 y.kind,.int .i64 y.num,.string y.name,.slice ya y.args.length yc]] W fun e w'=>e=.returned (.bool (y.kind==0))∧Below W.heap.size W w'):=zq fun W=>a_isVar y ya yc W
       have HSM:Hid (∀W,Below wv.heap.size wv W→Calls Tryz.prog 32 #[.agg #[.int .i64 y.kind,.int .i64 y.num,.string y.name,.slice ya y.args.length yc],.agg #[.int .i64 x.kind,.int .i64 x.num,.string x.name,.slice xa x.args.length xc]] W fun e w'=>e=.returned (.bool (sameT y x))∧Below W.heap.size W w'):=zq fun W hW=>by
        have hq:Below wr.heap.size wr W:=(HWV.out ▸ hz).trans (hW.mono (by rw [HWV.out];exact hz.size))
        exact t_same y x ya xa yc xc W ((hsy.keep hq).mono hq.size) ((hsx.keep hq).mono hq.size)
       clear hsx hsy hz HTJ HTA HX HY HFZ r0 r1 r2 r3 hye hbb hbj HBR
       gi_wp2_with fail
       rw [←HWV.out]
       clear HWV q0 q1 q2 q3 k0 k2
       obtain ⟨kv,HKW⟩:=lz ((y.kind==0))
       rw [←HKW.out] at HIV HFS
       cases fz
       ·have HFS1:Hid (fitsK al js (k+1)=false):=zq (by rw [HFS.out];rfl)
        clear HFS HIV HSM HKW
        rename_i K9 hK9
        refine region_ownI (w0:=wv) [rPure [] [0] (fun | [v]=>v=.bool false | _=>False),
          rPure [0] [1] (fun | [v]=>v=.bool false | _=>False),
          rVal [0,1] [2] (fun | [v]=>v=undef | _=>False),
          rPure [0,1] [3] (fun | [v]=>v=undef | _=>False),
          rPure [0,1,3] [4] (fun | [v]=>v=undef | _=>False),
          rPure (List.range 5) [5] (fun | [v]=>v=undef | _=>False),
          rVal (List.range 6) [6] (fun | [v]=>v=undef | _=>False),
          rVal (List.range 7) [7] (fun | [v]=>v=undef | _=>False),
          rPure (List.range 8) [8] (fun | [v]=>v=undef | _=>False),
          rVal (List.range 9) [9] (fun | [v]=>v=undef | _=>False),
          rPure (List.range 9) [10] (fun | [v]=>v=undef | _=>False),
          rPure [0,1,2,3,4,5,6,7,8,10] [11] (fun | [v]=>v=undef | _=>False),
          rPure (List.range 12) [12] (fun | [v]=>v=undef | _=>False),
          rVal (List.range 13) [13] (fun | [v]=>v=undef | _=>False),
          rVal (List.range 9) [14] (fun | [v]=>v=undef | _=>False),
          rVal (List.range 15) [15] (fun | [v]=>v=undef | _=>False),
          rPure (List.range 16) [16] (fun | [v]=>v=undef | _=>False),
          rPure (List.range 17) [17] (fun | [v]=>v=.bool false | _=>False),
          rPure (List.range 18) [18] (fun | [v]=>v=.bool false | _=>False)]
          [some 74,some 75,some 76,some 77,some 78,some 79,some 80,some 81,some 82,some 83,some 84,some 85,some 86,some 87,some 88,some 89,some 90,some 91,some 9] (fun _=>True) (wv.heap.size) (by kernel_rfl) (by kernel_rfl) (Nat.le_refl _) (by kernel_rfl) (by kernel_rfl) (by kernel_rfl) (fun j o ho=>?srvA) (fun val Y N hv HF=>?finA)
        case srvA=>
          have hlt:j<19:=(Array.getElem?_eq_some_iff.1 ho).1
          rcases ltc19 hlt with rfl | rfl | rfl | rfl | rfl | rfl | rfl | rfl | rfl | rfl | rfl | rfl | rfl | rfl | rfl | rfl | rfl | rfl | rfl
          ·cases ho
           refine srv_pure rfl rfl (fun val E hE hA=>?_)
           have e9:=hE.t 9 (.bool false) rfl
           exact ⟨.bool false,fun X=>by simp [execOp,go_sem,e9],rfl⟩
          ·cases ho
           refine srv_pure rfl rfl (fun val E hE hA=>?_)
           have e74:=hE.t 74 (val 0) rfl
           have h0:val 0=.bool false:=hA 0 (oz rfl)
           exact ⟨.bool false,fun X=>by simp [execOp,go_sem,e74,h0],rfl⟩
          ·cases ho
           exact srv_valG false rfl rfl (fun _ _ _=>trivial) (fun val hA=>hA 1 (oz rfl)) (fun h=>by cases h) fun _ val hA=>rfl
          ·cases ho
           exact srv_pureG false rfl rfl (fun val hA=>hA 1 (oz rfl)) (fun h=>by cases h) fun _ val hA=>rfl
          ·cases ho
           exact srv_pureG false rfl rfl (fun val hA=>hA 1 (oz rfl)) (fun h=>by cases h) fun _ val hA=>rfl
          ·cases ho
           exact srv_pureG false rfl rfl (fun val hA=>hA 1 (oz rfl)) (fun h=>by cases h) fun _ val hA=>rfl
          ·cases ho
           exact srv_valG false rfl rfl (fun _ _ _=>trivial) (fun val hA=>hA 1 (oz rfl)) (fun h=>by cases h) fun _ val hA=>rfl
          ·cases ho
           exact srv_calVG false rfl rfl (fun _ _ _=>trivial) (fun val hA=>hA 1 (oz rfl)) (fun h=>by cases h) fun _ val hA=>rfl
          ·cases ho
           exact srv_pureG false rfl rfl (fun val hA=>hA 1 (oz rfl)) (fun h=>by cases h) fun _ val hA=>rfl
          ·cases ho
           exact srv_valU rfl rfl (fun _ _ _=>trivial) (fun val hA=>hA 8 (oz rfl)) (fun val hA=>rfl)
          ·cases ho
           exact srv_pureU rfl rfl (fun val hA=>hA 8 (oz rfl)) (fun val hA=>rfl)
          ·cases ho
           exact srv_pureU rfl rfl (fun val hA=>hA 8 (oz rfl)) (fun val hA=>rfl)
          ·cases ho
           exact srv_pureU rfl rfl (fun val hA=>hA 8 (oz rfl)) (fun val hA=>rfl)
          ·cases ho
           exact srv_valU rfl rfl (fun _ _ _=>trivial) (fun val hA=>hA 8 (oz rfl)) (fun val hA=>rfl)
          ·cases ho
           exact srv_valU rfl rfl (fun _ _ _=>trivial) (fun val hA=>hA 8 (oz rfl)) (fun val hA=>rfl)
          ·cases ho
           exact srv_valU rfl rfl (fun _ _ _=>trivial) (fun val hA=>hA 8 (oz rfl)) (fun val hA=>rfl)
          ·cases ho
           exact srv_pureG false rfl rfl (fun val hA=>hA 1 (oz rfl)) (fun h=>by cases h) fun _ val hA=>rfl
          ·cases ho
           refine srv_pure rfl rfl (fun val E hE hA=>?_)
           have e75:=hE.t 75 (val 1) rfl
           have h1:val 1=.bool false:=hA 1 (oz rfl)
           have e90:=hE.t 90 (val 16) rfl
           have h16:val 16=undef:=hA 16 (oz rfl)
           exact ⟨.bool false,fun X=>by simp [execOp,go_sem,hE.c,e75,h1,e90,h16],rfl⟩
          ·cases ho
           refine srv_pure rfl rfl (fun val E hE hA=>?_)
           have e91:=hE.t 91 (val 17) rfl
           have h17:val 17=.bool false:=hA 17 (oz rfl)
           exact ⟨.bool false,fun X=>by simp [execOp,go_sem,e91,h17],rfl⟩
        case finA=>
         have h0:val 0=.bool false:=hv 0 (by decide)
         have h1:val 1=.bool false:=hv 1 (by decide)
         have h2:val 2=undef:=hv 2 (by decide)
         have h3:val 3=undef:=hv 3 (by decide)
         have h4:val 4=undef:=hv 4 (by decide)
         have h5:val 5=undef:=hv 5 (by decide)
         have h6:val 6=undef:=hv 6 (by decide)
         have h7:val 7=undef:=hv 7 (by decide)
         have h8:val 8=undef:=hv 8 (by decide)
         have h9:val 9=undef:=hv 9 (by decide)
         have h10:val 10=undef:=hv 10 (by decide)
         have h11:val 11=undef:=hv 11 (by decide)
         have h12:val 12=undef:=hv 12 (by decide)
         have h13:val 13=undef:=hv 13 (by decide)
         have h14:val 14=undef:=hv 14 (by decide)
         have h15:val 15=undef:=hv 15 (by decide)
         have h16:val 16=undef:=hv 16 (by decide)
         have h17:val 17=.bool false:=hv 17 (by decide)
         have h18:val 18=.bool false:=hv 18 (by decide)
         refine hK9 _ _ ?_
         simp only [fillD,List.set_cons_zero,List.set_cons_succ,Nat.reduceAdd,Nat.zero_add,h0,h1,h2,h3,h4,h5,h6,h7,h8,h9,h10,h11,h12,h13,h14,h15,h16,h17,h18]
         have HBZ:=zq (HBV.out.trans (HF.bel.mono HBV.out.size))
         clear hv h0 h1 h2 h3 h4 h5 h6 h7 h8 h9 h10 h11 h12 h13 h14 h15 h16 h17 h18 hK9 HF HBV HKV HXV HYC
         gi_wp2_with fail
         go_roundw
         case rel=>exact ⟨k+1,Nat.succ_le_of_lt hlt,congrArg Value.bool HFS1.out.symm,by go_num,HBZ⟩
         case measure=>first | exact spM k _ _ hw2 hlt | exact spM k _ _ rfl hlt
       ·cases kv
        ·have HFS1:Hid (fitsK al js (k+1)=sameT y x):=zq (by rw [HFS.out];simp)
         clear HFS HKW
         rename_i K9 hK9
         refine region_ownI (w0:=wv) [rPure [] [0] (fun | [v]=>v=.bool true | _=>False),
           rPure [0] [1] (fun | [v]=>v=.bool true | _=>False),
           rVal [0,1] [2] (fun | [v]=>v=.slice (some ⟨b,off,none⟩) 5 cap | _=>False),
           rPure [0,1] [3] (fun | [v]=>v=.int .i64 (k:Int) | _=>False),
           rPure [0,1,3] [4] (fun | [v]=>v=.int .i64 (k1:Int) | _=>False),
           rPure (List.range 5) [5] (fun | [v]=>v=.pointer (some ⟨b,off+k1 * 4,none⟩) | _=>False),
           rVal (List.range 6) [6] (fun | [v]=>v=.agg #[.int .i64 y.kind,.int .i64 y.num,.string y.name,.slice ya y.args.length yc] | _=>False),
           rVal (List.range 7) [7] (fun | [v]=>v=.bool false | _=>False),
           rPure (List.range 8) [8] (fun | [v]=>v=.bool false | _=>False),
           rVal (List.range 9) [9] (fun | [v]=>v=.slice (some ⟨b,off,none⟩) 5 cap | _=>False),
           rPure (List.range 9) [10] (fun | [v]=>v=.int .i64 (k:Int) | _=>False),
           rPure [0,1,2,3,4,5,6,7,8,10] [11] (fun | [v]=>v=.int .i64 (k1:Int) | _=>False),
           rPure (List.range 12) [12] (fun | [v]=>v=.pointer (some ⟨b,off+k1 * 4,none⟩) | _=>False),
           rVal (List.range 13) [13] (fun | [v]=>v=.agg #[.int .i64 y.kind,.int .i64 y.num,.string y.name,.slice ya y.args.length yc] | _=>False),
           rVal (List.range 9) [14] (fun | [v]=>v=.agg #[.int .i64 x.kind,.int .i64 x.num,.string x.name,.slice xa x.args.length xc] | _=>False),
           rVal (List.range 15) [15] (fun | [v]=>v=.bool (sameT y x) | _=>False),
           rPure (List.range 16) [16] (fun | [v]=>v=.bool (sameT y x) | _=>False),
           rPure (List.range 17) [17] (fun | [v]=>v=.bool (sameT y x) | _=>False),
           rPure (List.range 18) [18] (fun | [v]=>v=.bool (sameT y x) | _=>False)]
           [some 74,some 75,some 76,some 77,some 78,some 79,some 80,some 81,some 82,some 83,some 84,some 85,some 86,some 87,some 88,some 89,some 90,some 91,some 9] (fun _=>True) (wv.heap.size) (by kernel_rfl) (by kernel_rfl) (Nat.le_refl _) (by kernel_rfl) (by kernel_rfl) (by kernel_rfl) (fun j o ho=>?srvC) (fun val Y N hv HF=>?finC)
         case srvC=>
           have hlt:j<19:=(Array.getElem?_eq_some_iff.1 ho).1
           rcases ltc19 hlt with rfl | rfl | rfl | rfl | rfl | rfl | rfl | rfl | rfl | rfl | rfl | rfl | rfl | rfl | rfl | rfl | rfl | rfl | rfl
           ·cases ho
            refine srv_pure rfl rfl (fun val E hE hA=>?_)
            have e9:=hE.t 9 (.bool true) rfl
            exact ⟨.bool true,fun X=>by simp [execOp,go_sem,e9],rfl⟩
           ·cases ho
            refine srv_pure rfl rfl (fun val E hE hA=>?_)
            have e74:=hE.t 74 (val 0) rfl
            have h0:val 0=.bool true:=hA 0 (oz rfl)
            exact ⟨.bool true,fun X=>by simp [execOp,go_sem,e74,h0],rfl⟩
           ·cases ho
            refine srv_valG (true) rfl rfl (fun _ _ _=>trivial) (fun val hA=>hA 1 (oz rfl)) (fun _ val E X hE hB hA=>?_) (fun h=>absurd rfl h)
            have e1:=hE.t 1 (.pointer (some ⟨w.heap.size,0,none⟩)) rfl
            have hx0:=(HKV.out.call hB).c 0 _ rfl
            exact ⟨.slice (some ⟨b,off,none⟩) 5 cap,by simp [execOp,go_sem,e1,hx0],rfl⟩
           ·cases ho
            refine srv_pureG (true) rfl rfl (fun val hA=>hA 1 (oz rfl)) (fun _ val E hE hA=>?_) (fun h=>absurd rfl h)
            have e10:=hE.t 10 (.int .i64 (k:Int)) rfl
            exact ⟨.int .i64 (k:Int),fun X=>by simp [execOp,go_sem,e10],rfl⟩
           ·cases ho
            refine srv_pureG (true) rfl rfl (fun val hA=>hA 1 (oz rfl)) (fun _ val E hE hA=>?_) (fun h=>absurd rfl h)
            have e77:=hE.t 77 (val 3) rfl
            have h3:val 3=.int .i64 (k:Int):=hA 3 (oz rfl)
            exact ⟨.int .i64 (k1:Int),fun X=>by simp [execOp,go_sem,hE.c,e77,h3,hwk],rfl⟩
           ·cases ho
            refine srv_pureG (true) rfl rfl (fun val hA=>hA 1 (oz rfl)) (fun _ val E hE hA=>?_) (fun h=>absurd rfl h)
            have e76:=hE.t 76 (val 2) rfl
            have h2:val 2=.slice (some ⟨b,off,none⟩) 5 cap:=hA 2 (oz rfl)
            have e78:=hE.t 78 (val 4) rfl
            have h4:val 4=.int .i64 (k1:Int):=hA 4 (oz rfl)
            exact ⟨.pointer (some ⟨b,off+k1 * 4,none⟩),fun X=>by simp [execOp,go_sem,e76,h2,e78,h4,hk3,hk4],rfl⟩
           ·cases ho
            refine srv_valG (true) rfl rfl (fun _ _ _=>trivial) (fun val hA=>hA 1 (oz rfl)) (fun _ val E X hE hB hA=>?_) (fun h=>absurd rfl h)
            have e79:=hE.t 79 (val 5) rfl
            have h5:val 5=.pointer (some ⟨b,off+k1 * 4,none⟩):=hA 5 (oz rfl)
            obtain ⟨hy0,hy1,hy2,hy3⟩:=HYC.out X hB
            exact ⟨.agg #[.int .i64 y.kind,.int .i64 y.num,.string y.name,.slice ya y.args.length yc],by simp [execOp,go_sem,e79,h5,hy0,hy1,hy2,hy3],rfl⟩
           ·cases ho
            refine srv_calVG (true) rfl rfl (fun _ _ _=>trivial) (fun val hA=>hA 1 (oz rfl)) (fun _ val E X hE hB hA=>?_) (fun h=>absurd rfl h)
            have e80:=hE.t 80 (val 6) rfl
            have h6:val 6=.agg #[.int .i64 y.kind,.int .i64 y.num,.string y.name,.slice ya y.args.length yc]:=hA 6 (oz rfl)
            exact ⟨_,_,_,by simp [execOp,go_sem,hE.f,e80,h6] <;> rfl,HIV.out X,rfl⟩
           ·cases ho
            refine srv_pureG (true) rfl rfl (fun val hA=>hA 1 (oz rfl)) (fun _ val E hE hA=>?_) (fun h=>absurd rfl h)
            have e81:=hE.t 81 (val 7) rfl
            have h7:val 7=.bool false:=hA 7 (oz rfl)
            exact ⟨.bool false,fun X=>by simp [execOp,go_sem,e81,h7],rfl⟩
           ·cases ho
            refine srv_valG (false) rfl rfl (fun _ _ _=>trivial) (fun val hA=>hA 8 (oz rfl)) (fun _ val E X hE hB hA=>?_) (fun h=>absurd rfl h)
            have e1:=hE.t 1 (.pointer (some ⟨w.heap.size,0,none⟩)) rfl
            have hx0:=(HKV.out.call hB).c 0 _ rfl
            exact ⟨.slice (some ⟨b,off,none⟩) 5 cap,by simp [execOp,go_sem,e1,hx0],rfl⟩
           ·cases ho
            refine srv_pureG (false) rfl rfl (fun val hA=>hA 8 (oz rfl)) (fun _ val E hE hA=>?_) (fun h=>absurd rfl h)
            have e10:=hE.t 10 (.int .i64 (k:Int)) rfl
            exact ⟨.int .i64 (k:Int),fun X=>by simp [execOp,go_sem,e10],rfl⟩
           ·cases ho
            refine srv_pureG (false) rfl rfl (fun val hA=>hA 8 (oz rfl)) (fun _ val E hE hA=>?_) (fun h=>absurd rfl h)
            have e84:=hE.t 84 (val 10) rfl
            have h10:val 10=.int .i64 (k:Int):=hA 10 (oz rfl)
            exact ⟨.int .i64 (k1:Int),fun X=>by simp [execOp,go_sem,hE.c,e84,h10,hwk],rfl⟩
           ·cases ho
            refine srv_pureG (false) rfl rfl (fun val hA=>hA 8 (oz rfl)) (fun _ val E hE hA=>?_) (fun h=>absurd rfl h)
            have e83:=hE.t 83 (val 9) rfl
            have h9:val 9=.slice (some ⟨b,off,none⟩) 5 cap:=hA 9 (oz rfl)
            have e85:=hE.t 85 (val 11) rfl
            have h11:val 11=.int .i64 (k1:Int):=hA 11 (oz rfl)
            exact ⟨.pointer (some ⟨b,off+k1 * 4,none⟩),fun X=>by simp [execOp,go_sem,e83,h9,e85,h11,hk3,hk4],rfl⟩
           ·cases ho
            refine srv_valG (false) rfl rfl (fun _ _ _=>trivial) (fun val hA=>hA 8 (oz rfl)) (fun _ val E X hE hB hA=>?_) (fun h=>absurd rfl h)
            have e86:=hE.t 86 (val 12) rfl
            have h12:val 12=.pointer (some ⟨b,off+k1 * 4,none⟩):=hA 12 (oz rfl)
            obtain ⟨hy0,hy1,hy2,hy3⟩:=HYC.out X hB
            exact ⟨.agg #[.int .i64 y.kind,.int .i64 y.num,.string y.name,.slice ya y.args.length yc],by simp [execOp,go_sem,e86,h12,hy0,hy1,hy2,hy3],rfl⟩
           ·cases ho
            refine srv_valG (false) rfl rfl (fun _ _ _=>trivial) (fun val hA=>hA 8 (oz rfl)) (fun _ val E X hE hB hA=>?_) (fun h=>absurd rfl h)
            have e11:=hE.t 11 (.pointer (some ⟨wr.heap.size,0,none⟩)) rfl
            have hx1:=(HXV.out.call hB).c 0 _ rfl
            have hx2:=(HXV.out.call hB).c 1 _ rfl
            have hx3:=(HXV.out.call hB).c 2 _ rfl
            have hx4:=(HXV.out.call hB).c 3 _ rfl
            exact ⟨.agg #[.int .i64 x.kind,.int .i64 x.num,.string x.name,.slice xa x.args.length xc],by simp [execOp,go_sem,e11,hx1,hx2,hx3,hx4],rfl⟩
           ·cases ho
            refine srv_calVG (false) rfl rfl (fun _ _ _=>trivial) (fun val hA=>hA 8 (oz rfl)) (fun _ val E X hE hB hA=>?_) (fun h=>absurd rfl h)
            have e87:=hE.t 87 (val 13) rfl
            have h13:val 13=.agg #[.int .i64 y.kind,.int .i64 y.num,.string y.name,.slice ya y.args.length yc]:=hA 13 (oz rfl)
            have e88:=hE.t 88 (val 14) rfl
            have h14:val 14=.agg #[.int .i64 x.kind,.int .i64 x.num,.string x.name,.slice xa x.args.length xc]:=hA 14 (oz rfl)
            exact ⟨_,_,_,by simp [execOp,go_sem,hE.f,e87,h13,e88,h14] <;> rfl,HSM.out X hB,rfl⟩
           ·cases ho
            refine srv_pureG (true) rfl rfl (fun val hA=>hA 1 (oz rfl)) (fun _ val E hE hA=>?_) (fun h=>absurd rfl h)
            have e82:=hE.t 82 (val 8) rfl
            have h8:val 8=.bool false:=hA 8 (oz rfl)
            have e89:=hE.t 89 (val 15) rfl
            have h15:val 15=.bool (sameT y x):=hA 15 (oz rfl)
            exact ⟨.bool (sameT y x),fun X=>by simp [execOp,go_sem,hE.c,e82,h8,e89,h15],rfl⟩
           ·cases ho
            refine srv_pure rfl rfl (fun val E hE hA=>?_)
            have e75:=hE.t 75 (val 1) rfl
            have h1:val 1=.bool true:=hA 1 (oz rfl)
            have e90:=hE.t 90 (val 16) rfl
            have h16:val 16=.bool (sameT y x):=hA 16 (oz rfl)
            exact ⟨.bool (sameT y x),fun X=>by simp [execOp,go_sem,hE.c,e75,h1,e90,h16],rfl⟩
           ·cases ho
            refine srv_pure rfl rfl (fun val E hE hA=>?_)
            have e91:=hE.t 91 (val 17) rfl
            have h17:val 17=.bool (sameT y x):=hA 17 (oz rfl)
            exact ⟨.bool (sameT y x),fun X=>by simp [execOp,go_sem,e91,h17],rfl⟩
         case finC=>
          have h0:val 0=.bool true:=hv 0 (by decide)
          have h1:val 1=.bool true:=hv 1 (by decide)
          have h2:val 2=.slice (some ⟨b,off,none⟩) 5 cap:=hv 2 (by decide)
          have h3:val 3=.int .i64 (k:Int):=hv 3 (by decide)
          have h4:val 4=.int .i64 (k1:Int):=hv 4 (by decide)
          have h5:val 5=.pointer (some ⟨b,off+k1 * 4,none⟩):=hv 5 (by decide)
          have h6:val 6=.agg #[.int .i64 y.kind,.int .i64 y.num,.string y.name,.slice ya y.args.length yc]:=hv 6 (by decide)
          have h7:val 7=.bool false:=hv 7 (by decide)
          have h8:val 8=.bool false:=hv 8 (by decide)
          have h9:val 9=.slice (some ⟨b,off,none⟩) 5 cap:=hv 9 (by decide)
          have h10:val 10=.int .i64 (k:Int):=hv 10 (by decide)
          have h11:val 11=.int .i64 (k1:Int):=hv 11 (by decide)
          have h12:val 12=.pointer (some ⟨b,off+k1 * 4,none⟩):=hv 12 (by decide)
          have h13:val 13=.agg #[.int .i64 y.kind,.int .i64 y.num,.string y.name,.slice ya y.args.length yc]:=hv 13 (by decide)
          have h14:val 14=.agg #[.int .i64 x.kind,.int .i64 x.num,.string x.name,.slice xa x.args.length xc]:=hv 14 (by decide)
          have h15:val 15=.bool (sameT y x):=hv 15 (by decide)
          have h16:val 16=.bool (sameT y x):=hv 16 (by decide)
          have h17:val 17=.bool (sameT y x):=hv 17 (by decide)
          have h18:val 18=.bool (sameT y x):=hv 18 (by decide)
          refine hK9 _ _ ?_
          simp only [fillD,List.set_cons_zero,List.set_cons_succ,Nat.reduceAdd,Nat.zero_add,h0,h1,h2,h3,h4,h5,h6,h7,h8,h9,h10,h11,h12,h13,h14,h15,h16,h17,h18]
          have HBZ:=zq (HBV.out.trans (HF.bel.mono HBV.out.size))
          clear hv h0 h1 h2 h3 h4 h5 h6 h7 h8 h9 h10 h11 h12 h13 h14 h15 h16 h17 h18 hK9 HF HBV HKV HXV HYC
          gi_wp2_with fail
          go_roundw
          case rel=>exact ⟨k+1,Nat.succ_le_of_lt hlt,congrArg Value.bool HFS1.out.symm,by go_num,HBZ⟩
          case measure=>first | exact spM k _ _ hw2 hlt | exact spM k _ _ rfl hlt
        ·have HFS1:Hid (fitsK al js (k+1)=true):=zq (by rw [HFS.out];rfl)
         clear HFS HSM HKW
         rename_i K9 hK9
         refine region_ownI (w0:=wv) [rPure [] [0] (fun | [v]=>v=.bool true | _=>False),
           rPure [0] [1] (fun | [v]=>v=.bool true | _=>False),
           rVal [0,1] [2] (fun | [v]=>v=.slice (some ⟨b,off,none⟩) 5 cap | _=>False),
           rPure [0,1] [3] (fun | [v]=>v=.int .i64 (k:Int) | _=>False),
           rPure [0,1,3] [4] (fun | [v]=>v=.int .i64 (k1:Int) | _=>False),
           rPure (List.range 5) [5] (fun | [v]=>v=.pointer (some ⟨b,off+k1 * 4,none⟩) | _=>False),
           rVal (List.range 6) [6] (fun | [v]=>v=.agg #[.int .i64 y.kind,.int .i64 y.num,.string y.name,.slice ya y.args.length yc] | _=>False),
           rVal (List.range 7) [7] (fun | [v]=>v=.bool true | _=>False),
           rPure (List.range 8) [8] (fun | [v]=>v=.bool true | _=>False),
           rVal (List.range 9) [9] (fun | [v]=>v=undef | _=>False),
           rPure (List.range 9) [10] (fun | [v]=>v=undef | _=>False),
           rPure [0,1,2,3,4,5,6,7,8,10] [11] (fun | [v]=>v=undef | _=>False),
           rPure (List.range 12) [12] (fun | [v]=>v=undef | _=>False),
           rVal (List.range 13) [13] (fun | [v]=>v=undef | _=>False),
           rVal (List.range 9) [14] (fun | [v]=>v=undef | _=>False),
           rVal (List.range 15) [15] (fun | [v]=>v=undef | _=>False),
           rPure (List.range 16) [16] (fun | [v]=>v=.bool true | _=>False),
           rPure (List.range 17) [17] (fun | [v]=>v=.bool true | _=>False),
           rPure (List.range 18) [18] (fun | [v]=>v=.bool true | _=>False)]
           [some 74,some 75,some 76,some 77,some 78,some 79,some 80,some 81,some 82,some 83,some 84,some 85,some 86,some 87,some 88,some 89,some 90,some 91,some 9] (fun _=>True) (wv.heap.size) (by kernel_rfl) (by kernel_rfl) (Nat.le_refl _) (by kernel_rfl) (by kernel_rfl) (by kernel_rfl) (fun j o ho=>?srvB) (fun val Y N hv HF=>?finB)
         case srvB=>
           have hlt:j<19:=(Array.getElem?_eq_some_iff.1 ho).1
           rcases ltc19 hlt with rfl | rfl | rfl | rfl | rfl | rfl | rfl | rfl | rfl | rfl | rfl | rfl | rfl | rfl | rfl | rfl | rfl | rfl | rfl
           ·cases ho
            refine srv_pure rfl rfl (fun val E hE hA=>?_)
            have e9:=hE.t 9 (.bool true) rfl
            exact ⟨.bool true,fun X=>by simp [execOp,go_sem,e9],rfl⟩
           ·cases ho
            refine srv_pure rfl rfl (fun val E hE hA=>?_)
            have e74:=hE.t 74 (val 0) rfl
            have h0:val 0=.bool true:=hA 0 (oz rfl)
            exact ⟨.bool true,fun X=>by simp [execOp,go_sem,e74,h0],rfl⟩
           ·cases ho
            refine srv_valG (true) rfl rfl (fun _ _ _=>trivial) (fun val hA=>hA 1 (oz rfl)) (fun _ val E X hE hB hA=>?_) (fun h=>absurd rfl h)
            have e1:=hE.t 1 (.pointer (some ⟨w.heap.size,0,none⟩)) rfl
            have hx0:=(HKV.out.call hB).c 0 _ rfl
            exact ⟨.slice (some ⟨b,off,none⟩) 5 cap,by simp [execOp,go_sem,e1,hx0],rfl⟩
           ·cases ho
            refine srv_pureG (true) rfl rfl (fun val hA=>hA 1 (oz rfl)) (fun _ val E hE hA=>?_) (fun h=>absurd rfl h)
            have e10:=hE.t 10 (.int .i64 (k:Int)) rfl
            exact ⟨.int .i64 (k:Int),fun X=>by simp [execOp,go_sem,e10],rfl⟩
           ·cases ho
            refine srv_pureG (true) rfl rfl (fun val hA=>hA 1 (oz rfl)) (fun _ val E hE hA=>?_) (fun h=>absurd rfl h)
            have e77:=hE.t 77 (val 3) rfl
            have h3:val 3=.int .i64 (k:Int):=hA 3 (oz rfl)
            exact ⟨.int .i64 (k1:Int),fun X=>by simp [execOp,go_sem,hE.c,e77,h3,hwk],rfl⟩
           ·cases ho
            refine srv_pureG (true) rfl rfl (fun val hA=>hA 1 (oz rfl)) (fun _ val E hE hA=>?_) (fun h=>absurd rfl h)
            have e76:=hE.t 76 (val 2) rfl
            have h2:val 2=.slice (some ⟨b,off,none⟩) 5 cap:=hA 2 (oz rfl)
            have e78:=hE.t 78 (val 4) rfl
            have h4:val 4=.int .i64 (k1:Int):=hA 4 (oz rfl)
            exact ⟨.pointer (some ⟨b,off+k1 * 4,none⟩),fun X=>by simp [execOp,go_sem,e76,h2,e78,h4,hk3,hk4],rfl⟩
           ·cases ho
            refine srv_valG (true) rfl rfl (fun _ _ _=>trivial) (fun val hA=>hA 1 (oz rfl)) (fun _ val E X hE hB hA=>?_) (fun h=>absurd rfl h)
            have e79:=hE.t 79 (val 5) rfl
            have h5:val 5=.pointer (some ⟨b,off+k1 * 4,none⟩):=hA 5 (oz rfl)
            obtain ⟨hy0,hy1,hy2,hy3⟩:=HYC.out X hB
            exact ⟨.agg #[.int .i64 y.kind,.int .i64 y.num,.string y.name,.slice ya y.args.length yc],by simp [execOp,go_sem,e79,h5,hy0,hy1,hy2,hy3],rfl⟩
           ·cases ho
            refine srv_calVG (true) rfl rfl (fun _ _ _=>trivial) (fun val hA=>hA 1 (oz rfl)) (fun _ val E X hE hB hA=>?_) (fun h=>absurd rfl h)
            have e80:=hE.t 80 (val 6) rfl
            have h6:val 6=.agg #[.int .i64 y.kind,.int .i64 y.num,.string y.name,.slice ya y.args.length yc]:=hA 6 (oz rfl)
            exact ⟨_,_,_,by simp [execOp,go_sem,hE.f,e80,h6] <;> rfl,HIV.out X,rfl⟩
           ·cases ho
            refine srv_pureG (true) rfl rfl (fun val hA=>hA 1 (oz rfl)) (fun _ val E hE hA=>?_) (fun h=>absurd rfl h)
            have e81:=hE.t 81 (val 7) rfl
            have h7:val 7=.bool true:=hA 7 (oz rfl)
            exact ⟨.bool true,fun X=>by simp [execOp,go_sem,e81,h7],rfl⟩
           ·cases ho
            exact srv_valG true rfl rfl (fun _ _ _=>trivial) (fun val hA=>hA 8 (oz rfl)) (fun h=>by cases h) fun _ val hA=>rfl
           ·cases ho
            exact srv_pureG true rfl rfl (fun val hA=>hA 8 (oz rfl)) (fun h=>by cases h) fun _ val hA=>rfl
           ·cases ho
            exact srv_pureG true rfl rfl (fun val hA=>hA 8 (oz rfl)) (fun h=>by cases h) fun _ val hA=>rfl
           ·cases ho
            exact srv_pureG true rfl rfl (fun val hA=>hA 8 (oz rfl)) (fun h=>by cases h) fun _ val hA=>rfl
           ·cases ho
            exact srv_valG true rfl rfl (fun _ _ _=>trivial) (fun val hA=>hA 8 (oz rfl)) (fun h=>by cases h) fun _ val hA=>rfl
           ·cases ho
            exact srv_valG true rfl rfl (fun _ _ _=>trivial) (fun val hA=>hA 8 (oz rfl)) (fun h=>by cases h) fun _ val hA=>rfl
           ·cases ho
            exact srv_calVG true rfl rfl (fun _ _ _=>trivial) (fun val hA=>hA 8 (oz rfl)) (fun h=>by cases h) fun _ val hA=>rfl
           ·cases ho
            refine srv_pureG (true) rfl rfl (fun val hA=>hA 1 (oz rfl)) (fun _ val E hE hA=>?_) (fun h=>absurd rfl h)
            have e82:=hE.t 82 (val 8) rfl
            have h8:val 8=.bool true:=hA 8 (oz rfl)
            have e89:=hE.t 89 (val 15) rfl
            have h15:val 15=undef:=hA 15 (oz rfl)
            exact ⟨.bool true,fun X=>by simp [execOp,go_sem,hE.c,e82,h8,e89,h15],rfl⟩
           ·cases ho
            refine srv_pure rfl rfl (fun val E hE hA=>?_)
            have e75:=hE.t 75 (val 1) rfl
            have h1:val 1=.bool true:=hA 1 (oz rfl)
            have e90:=hE.t 90 (val 16) rfl
            have h16:val 16=.bool true:=hA 16 (oz rfl)
            exact ⟨.bool true,fun X=>by simp [execOp,go_sem,hE.c,e75,h1,e90,h16],rfl⟩
           ·cases ho
            refine srv_pure rfl rfl (fun val E hE hA=>?_)
            have e91:=hE.t 91 (val 17) rfl
            have h17:val 17=.bool true:=hA 17 (oz rfl)
            exact ⟨.bool true,fun X=>by simp [execOp,go_sem,e91,h17],rfl⟩
         case finB=>
          have h0:val 0=.bool true:=hv 0 (by decide)
          have h1:val 1=.bool true:=hv 1 (by decide)
          have h2:val 2=.slice (some ⟨b,off,none⟩) 5 cap:=hv 2 (by decide)
          have h3:val 3=.int .i64 (k:Int):=hv 3 (by decide)
          have h4:val 4=.int .i64 (k1:Int):=hv 4 (by decide)
          have h5:val 5=.pointer (some ⟨b,off+k1 * 4,none⟩):=hv 5 (by decide)
          have h6:val 6=.agg #[.int .i64 y.kind,.int .i64 y.num,.string y.name,.slice ya y.args.length yc]:=hv 6 (by decide)
          have h7:val 7=.bool true:=hv 7 (by decide)
          have h8:val 8=.bool true:=hv 8 (by decide)
          have h9:val 9=undef:=hv 9 (by decide)
          have h10:val 10=undef:=hv 10 (by decide)
          have h11:val 11=undef:=hv 11 (by decide)
          have h12:val 12=undef:=hv 12 (by decide)
          have h13:val 13=undef:=hv 13 (by decide)
          have h14:val 14=undef:=hv 14 (by decide)
          have h15:val 15=undef:=hv 15 (by decide)
          have h16:val 16=.bool true:=hv 16 (by decide)
          have h17:val 17=.bool true:=hv 17 (by decide)
          have h18:val 18=.bool true:=hv 18 (by decide)
          refine hK9 _ _ ?_
          simp only [fillD,List.set_cons_zero,List.set_cons_succ,Nat.reduceAdd,Nat.zero_add,h0,h1,h2,h3,h4,h5,h6,h7,h8,h9,h10,h11,h12,h13,h14,h15,h16,h17,h18]
          have HBZ:=zq (HBV.out.trans (HF.bel.mono HBV.out.size))
          clear hv h0 h1 h2 h3 h4 h5 h6 h7 h8 h9 h10 h11 h12 h13 h14 h15 h16 h17 h18 hK9 HF HBV HKV HXV HYC
          gi_wp2_with fail
          go_roundw
          case rel=>exact ⟨k+1,Nat.succ_le_of_lt hlt,congrArg Value.bool HFS1.out.symm,by go_num,HBZ⟩
          case measure=>first | exact spM k _ _ hw2 hlt | exact spM k _ _ rfl hlt
      ·have hk4:k=4:=Nat.le_antisymm hk (Nat.le_of_not_lt hlt)
       subst hk4
       rw [show ((4:Nat):Int)=4 from rfl]
       have HSN:Hid (subL t al (pre++[(lo,hi)])=subL t al pre++(if fz=true then [t::js] else [])):=zq (by
        rw [subL_snoc,←HJL.out.1,HFZ.out,fitsK_all _ _ 4 (by rw [HAN.out];decide)])
       have HB5:=zq (HBY.out.trans (HBR.out.mono HBY.out.size))
       have HK5:=zq (HKY.out.call HBR.out)
       have HN5:=zq (HNY.out.call HBR.out)
       have HV5:Hid (Boxed wr (w6.heap.size+1) 61 ov):=zq ((HBR.out.block _ HVY.out.lt).trans HVY.out)
       have HO5:=zq (HOY.out.below HBR.out)
       have HA5:=zq (HAY.out.keep HBR.out)
       have HT5:=zq ((HTJ.out.keep HBR.out).mono HBR.out.size)
       have HP5:Hid (KeepsOthers W2 wr∧KB (w6.heap.size+1+1) W2 wr):=zq ⟨HKP.out.1.trans (keeps_below HBR.out),KB.trans HKP.out.2 (KB.below HBR.out (Nat.lt_of_lt_of_le HT2.out HLY.out))⟩
       have HL5:Hid (w7.heap.size≤wr.heap.size):=zq (Nat.le_trans HLY.out HBR.out.size)
       clear HTJ HTA HFZ HBR HBY HKY HNY HVY HOY HAY HKP HCY
       cases fz
       ·have HRS2:Hid (rs.map (fun r:LR=>r.1)=subL t al (pre++[(lo,hi)])):=zq (by rw [HSN.out,HRS.out];simp)
        rw [HAL.out] at HRS2
        gi_wp2_with fail
        exact ⟨HP5.out.1,HP5.out.2,HB5.out,HK5.out,HN5.out,ov,rs,HV5.out,HO5.out,HRS2.out⟩
       ·have HRL:Hid (rs.length≤100000):=zq (rowsFew HRS.out HPL.out)
        have HRN:Hid ((t::js).length=5):=zq (by rw [List.length_cons,HJN.out])
        have HWI:Hid (∀X,Below wr.heap.size wr X→Calls Tryz.prog 69 #[.slice (some ⟨b,off,none⟩) 5 cap,.int .i64 1,.slice (some ⟨g9,z9,none⟩) 4 4] X fun e w'=>∃g A' c' g2,e=.returned (.slice (some ⟨g,0,none⟩) 1 1)∧Below X.heap.size X w'∧Bk w' g [.slice A' 5 c']∧TmsK (fun b=>b=g2) w' A' (t::js)∧X.heap.size≤g2∧g2<w'.heap.size):=zq fun X hX=>by
         obtain ⟨b9,o9,qs,e9,hqs,hQ⟩:=TmsAt.args ((HT5.out.keep hX).mono hX.size) (by rw [HJN.out];decide)
         injection e9 with e9
         injection e9 with e91 e92 _
         subst e91 e92
         have hql:4=qs.length:=by have:=congrArg List.length hqs;rw [List.length_map,HJN.out] at this;exact this.symm
         refine (a_with b off cap 5 1 4 g9 z9 4 [(t,A,c),(p,AP,cp),(q,AQ,cq),(r,AR,cr),(s,AS,cs)] qs X rfl (by decide) hql (by decide) (by decide) (HA5.out.keep hX) hQ).mono fun e w' hw=>?_
         have hp:(put [(t,A,c),(p,AP,cp),(q,AQ,cq),(r,AR,cr),(s,AS,cs)] 1 qs).map (fun r:TR=>r.1)=t::js:=by
          unfold put
          rw [←hql,List.map_append,List.map_append,hqs]
          simp
         obtain ⟨g,A',c',he,hB,hk,ht,g2,hA',hg1,hg2⟩:=hw
         rw [hp] at hk ht
         rw [HRN.out] at hk
         refine ⟨g,A',c',g2,he,hB,hk,?_,hg1,hg2⟩
         subst hA'
         refine TmsK.leafs ht (fun x hx=>?_)
         rcases List.mem_cons.1 hx with rfl | hx
         ·exact HTL.out
         ·exact HJL.out.2 x hx
        clear HA5 HT5
        gi_wp2_with fail
        refine region_finI (m:=5) (w0:=wr) [rVal [] [0] (fun | [v]=>v=ov | _=>False),
          rVal [] [1] (fun | [v]=>v=.slice (some ⟨b,off,none⟩) 5 cap | _=>False),
          rPure [] [2] (fun | [v]=>v=.slice (some ⟨g9,z9,none⟩) 4 4 | _=>False),
          rRws [1,2] 3 wr.heap.size 5 (t::js),
          rLast (List.range 4) [4] (fun _=>True)]
          [some 94,some 95,some 96,some 97,some 98] (fun _=>False) (wr.heap.size) 4 (tSub w7.heap.size 30 rs (t::js) (fun X=>Below w7.heap.size wr X∧KeepsOthers wr X)) _ rfl (by kernel_rfl) (by kernel_rfl) (Nat.le_refl _) (by kernel_rfl) (by kernel_rfl) ⟨by decide,rfl⟩ (fun j o ho=>?srv7) (fun val Y hv HF=>?fin7)
        case srv7=>
          have hlt:j<5:=(Array.getElem?_eq_some_iff.1 ho).1
          rcases ltc5 hlt with rfl | rfl | rfl | rfl | rfl
          ·cases ho
           refine srv_val rfl rfl (fun _ _ _=>trivial) (fun val E X hE hB hA=>?_)
           have e6:=hE.t 6 (.pointer (some ⟨w6.heap.size+1,0,none⟩)) rfl
           have hx0:=((show Boxed X (w6.heap.size+1) 61 ov from (hB.block _ HV5.out.lt).trans HV5.out)).cell
           exact ⟨ov,by simp [execOp,go_sem,e6,hx0],rfl⟩
          ·cases ho
           refine srv_val rfl rfl (fun _ _ _=>trivial) (fun val E X hE hB hA=>?_)
           have e1:=hE.t 1 (.pointer (some ⟨w.heap.size,0,none⟩)) rfl
           have hx1:=(HK5.out.call hB).c 0 _ rfl
           exact ⟨.slice (some ⟨b,off,none⟩) 5 cap,by simp [execOp,go_sem,e1,hx1],rfl⟩
          ·cases ho
           refine srv_pure rfl rfl (fun val E hE hA=>?_)
           have e8:=hE.t 8 (.slice (some ⟨g9,z9,none⟩) 4 4) rfl
           exact ⟨.slice (some ⟨g9,z9,none⟩) 4 4,fun X=>by simp [execOp,go_sem,e8],rfl⟩
          ·cases ho
           refine srv_cal rfl rfl fun val E X N hE hC hA hc=>?_
           have e95:=hE.t 95 (val 1) rfl
           have h1:val 1=.slice (some ⟨b,off,none⟩) 5 cap:=hA 1 (oz rfl)
           have e96:=hE.t 96 (val 2) rfl
           have h2:val 2=.slice (some ⟨g9,z9,none⟩) 4 4:=hA 2 (oz rfl)
           exact ⟨_,_,by simp [execOp,go_sem,hE.f,hE.c,e95,h1,e96,h2] <;> rfl,(HWI.out X hC.bel).mono fun e w' h=>by
            obtain ⟨g,A',c',g2,he,hB,hk,ht,hg1,hg2⟩:=h
            refine ⟨_,he,hB,⟨g,rfl⟩,fun N' h1 h2=>⟨g,A',c',rfl,?_,hk,ht.keep (fun _ _=>rfl) (fun b hb=>by subst hb;exact ⟨h2 _ hg1 hg2,Nat.le_trans hC.bel.size hg1⟩)⟩⟩
            by_cases hgx:g<X.heap.size
            ·by_cases hn:N g
             ·exact h1 g hn
             ·obtain ⟨vs,_,hf⟩:=hC.bx g hgx hn
              exact hf.elim
            ·exact h2 g (Nat.le_of_not_lt hgx) hk.lt⟩
          ·cases ho
           refine srv_last rfl rfl fun val E X N hE hC hA hc _=>?_
           obtain ⟨g,A',c',h3,hg,hb,ht⟩:∃g A c,val 3=.slice (some ⟨g,0,none⟩) 1 1∧N g∧Bk X g [.slice A 5 c]∧TmsK (fun b=>N b∧wr.heap.size≤b) X A (t::js):=hc 3 (oz rfl) rfl
           have e94:=hE.t 94 (val 0) rfl
           have h0:val 0=ov:=hA 0 (oz rfl)
           have e97:=hE.t 97 (val 3) rfl
           rw [h0] at e94
           rw [h3] at e97
           refine RunsTo.mono (app_runsL (.tmp 94) (.tmp 97) rfl w7.heap.size ov rs ((t::js),A',c') g e94 (HO5.out.below hC.bel) e97 (by have hb2:=hb;rw [←HRN.out] at hb2;exact hb2) (ht.keep (fun _ _=>rfl) (fun b hb=>⟨Nat.le_trans HL5.out hb.2,hC.lt b hb.1,fun e'=>Nat.lt_irrefl _ (Nat.lt_of_lt_of_le (HO5.out.own.lt b e').2 hb.2)⟩)) HRL.out (Nat.le_trans HL5.out hC.bel.size)) fun v' w' h=>⟨trivial,⟨A',c',h.1⟩,(hC.bel.mono HL5.out).trans h.2.1,(keeps_below hC.bel).trans h.2.2⟩
        case fin7=>
         have h0:val 0=ov:=hv 0 (by decide)
         have h1:val 1=.slice (some ⟨b,off,none⟩) 5 cap:=hv 1 (by decide)
         have h2:val 2=.slice (some ⟨g9,z9,none⟩) 4 4:=hv 2 (by decide)
         obtain ⟨g8,h3⟩:∃g,val 3=.slice (some ⟨g,0,none⟩) 1 1:=hv 3 (by decide)
         obtain ⟨v9,h4⟩:∃x,val 4=x:=⟨_,rfl⟩
         obtain ⟨⟨A9,c9,ho9⟩,hb9,hk9⟩:(∃a c,OutR w7.heap.size 30 Y (val 4) (rs++[(t::js,a,c)]))∧Below w7.heap.size wr Y∧KeepsOthers wr Y:=HF
         rw [h4] at ho9
         obtain ⟨A8,c8,hv8,_⟩:=ho9.rows
         have HVX:Hid (Boxed Y (w6.heap.size+1) 61 ov):=zq ((hb9.block _ HT1.out).trans HV5.out)
         have cv:=HVX.out.cell
         have fv:=HVX.out.frozen
         have HO9:=zq ho9
         have HB9:=zq (below_rows HB5.out HL7.out hb9)
         have HK9:=zq (HK5.out.keeps (hb9.block _ HTW.out))
         have HN9:=zq (HN5.out.keeps (hb9.block _ HT0.out))
         have HP9:Hid (KeepsOthers W2 Y∧KB (w6.heap.size+1+1) W2 Y):=zq ⟨HP5.out.1.trans hk9,KB.trans HP5.out.2 (KB.below hb9 HT2.out)⟩
         clear ho9 hb9 hk9
         rw [List.length_append,List.length_singleton] at hv8
         subst hv8
         simp only [fillD,List.set_cons_zero,List.set_cons_succ,Nat.reduceAdd,Nat.zero_add,h0,h1,h2,h3,h4]
         clear hv h0 h1 h2 h3 h4 HK5 HN5 HV5 HO5 HP5 HB5
         have HRS2:Hid ((rs++[((t::js,A9,c9):LR)]).map (fun r:LR=>r.1)=subL t al (pre++[(lo,hi)])):=zq (by rw [HSN.out,List.map_append,HRS.out];simp)
         rw [HAL.out] at HRS2
         refine .inr (.inl ⟨Y.setCell ⟨w6.heap.size+1,0,none⟩ (.slice A8 (rs.length+1) c8),by simp [execOp,go_sem,cv,fv],?_⟩)
         gi_wp2_with fail
         have hne1:w.heap.size≠w6.heap.size+1:=Nat.ne_of_lt (Nat.lt_succ_of_le HL6.out)
         exact ⟨HP9.out.1.trans (KeepsOthers.setCell _ _ _),KB.trans HP9.out.2 (Below.heap_setCell _ _ _ _ (Nat.succ_ne_self _)),HB9.out.setCell (p:=⟨_,0,none⟩) (Nat.le_trans HL6.out (Nat.le_succ _)) _,HK9.out.keeps (Below.heap_setCell _ _ _ _ hne1),HN9.out.keeps (Below.heap_setCell _ _ _ _ (Nat.ne_of_lt (Nat.lt_succ_self _))),_,_,HVX.out.set _,HO9.out.box HT1.out _,HRS2.out⟩
   case done=>
    rintro D xs W hD rfl ⟨h1,h2,h3,v,rs,h4,h5,h6⟩ hK
    have hDW:D<W.heap.size:=(Array.getElem?_eq_some_iff.1 hK).1
    have HBW:=zq h1
    have HRS:=zq h6
    have HKD:=zq hK
    obtain ⟨A9,c9,hv9,hr9⟩:=(h5.grown (grownBy_putObj' W D (.deferred none)) (fun r e=>by cases e;exact ⟨_,hK,rfl⟩)).rows
    subst hv9
    have HRW:=zq hr9
    have cv:=h4.cell
    have HDL:Hid (w.heap.size≤D):=zq (Nat.le_trans HB7.out.size hD)
    clear h1 h2 h3 h4 h5 h6 hK hr9
    go_wp2_with fail
    have HBLy:=zq (below_putO HBW.out (D:=D) HDL.out (.deferred none))
    refine ⟨by simp,.inl ⟨_,_,rfl,run_takeDeferred HKD.out,?_⟩⟩
    have HLN:Hid ((rs.map (fun r:LR=>r.1)).length=rs.length):=zq (by simp)
    rw [HRS.out] at HRW HLN
    exact ⟨.slice A9 rs.length c9,by simp [results,Tryz.results49,go_sem],HBLy.out,by rw [HE.out];exact ⟨A9,c9,by rw [HLN.out],HRW.out⟩⟩
   case stop=>
    rintro D c' pre W hD hS h hK
    exact h.elim
end Go.Proofs.YtpokpgkjaifccaaGreatDoorRR
