/- Parts of the proof. -/
import Derived.Test.YtbojljpldcijgaaGreatR01
import Derived.Test.YtbojljpldcijgaaGreatR25
import Derived.Test.YtbojljpldcijgaaGreatR11
set_option maxHeartbeats 12800000
set_option maxRecDepth 100000
set_option linter.unusedSimpArgs false
open Array renaming getElem?_eq_some_iff -> aS
open Go renaming Calls -> aU, bodyPost_ret -> aw, execOp -> aL
open Go.Ending renaming returned -> aD
open Go.IntKind renaming i64 -> ab
open Go.Proofs.Tryz renaming prog -> am
open Go.RowKit renaming Below -> aB
open Go.RowKit.Below renaming refl -> ap
open Go.Value renaming agg -> aV, bool -> av, int -> aa, pointer -> ar, string -> ac, tuple -> aJ
open List renaming append_nil -> aj, cons_append -> ag, nil_append -> ai, range -> aM, set_cons_succ -> ao, set_cons_zero -> an
open Nat renaming le_refl -> ae, le_succ -> bm, reduceAdd -> af, zero_add -> ah
namespace Go.Proofs.YtbojljpldcijgaaGreat
open Go.RowKit Hb
attribute [local go_sem] Oper.semAt_some
theorem PsQ.tab {c:QC} {n:Nat} {wr:Bool} {v:VS} {a:VV} {w:World} (p:PsQ c n wr v a w):Tab w c.OA c.on c.oc c.E.P:=⟨p.ok.opl,p.ops,p.ok.nil⟩
theorem xZ {c:QC} {n:Nat} {wr:Bool} {v:VS} {nv:VV} {w:World} (p:PsQ c n wr v nv w):aU am 67 #[ar (some ⟨c.P,0,none⟩),kk (c.E.at n)] w fun e w'=>e=aD (aJ #[jK (gS c.E n).1,av (gS c.E n).2])/\aB w.heap.size w w':=by
 obtain ⟨k,b3⟩:=lz ((dK c.E.P (c.E.at n).txt 2).getD jL)
 obtain ⟨I,b1⟩:=lz (lv c.E.P (c.E.at n).txt 2)
 have HI:Hid (∀X,aB w.heap.size w X->aU am 115 #[.slice c.OA c.on c.oc,aa ab 2,ac (c.E.at n).txt] X fun e w'=>e=aD (aJ #[aV #[ac k.name,aa ab k.typ,aa ab k.prec],av I])/\aB X.heap.size X w'):=zq fun X hX=>by
  rw [b3.out,b1.out];exact iy (p.tab.below hX) (by have:=p.ok.few;omega) 2 (c.E.at n).txt
 obtain ⟨m,b4⟩:=lz ((dK c.E.P (c.E.at n).txt 3).getD jL)
 obtain ⟨D,b2⟩:=lz (lv c.E.P (c.E.at n).txt 3)
 have HO:Hid (∀X,aB w.heap.size w X->aU am 115 #[.slice c.OA c.on c.oc,aa ab 3,ac (c.E.at n).txt] X fun e w'=>e=aD (aJ #[aV #[ac m.name,aa ab m.typ,aa ab m.prec],av D])/\aB X.heap.size X w'):=zq fun X hX=>by
  rw [b4.out,b2.out];exact iy (p.tab.below hX) (by have:=p.ok.few;omega) 3 (c.E.at n).txt
 have a4:=zq fun W=>rK (c.E.at n) W
 have a5:=zq fun W=>gf (c.E.at n) ⟨#[44]⟩ W
 have a8:=zq fun W=>gf (c.E.at n) ⟨#[124]⟩ W
 rw [show dp (c.E.at n) (⟨#[44]⟩:ByteArray).data.toList=dp (c.E.at n) [44] from rfl] at a5
 rw [show dp (c.E.at n) (⟨#[124]⟩:ByteArray).data.toList=dp (c.E.at n) [124] from rfl] at a8
 obtain ⟨R,HR⟩:=lz (gS c.E n)
 have V:Hid (R=if (!fa (c.E.at n)&&(!dp (c.E.at n) [44] && !dp (c.E.at n) [124]))=true then (jL,false) else if I=true then (k,true) else (m,D)):=zq (by rw [HR.out,b1.out,b2.out,b3.out,b4.out];rfl)
 rw [<-HR.out]
 have HP:=zq p
 clear b3 b4 b1 b2 HR p
 generalize c.E.at n=t at *
 have C:=zq (((Wq.start HP.out).new [aa ab t.r.kind,ac t.txt,aa ab t.r.n,aa ab t.r.at_,aa ab t.r.end_,av t.lay] 76 rfl).new [ac ⟨#[]⟩,aa ab 0,aa ab 0] 61 (g:=w.heap.size+1) (by simp))
 have H:=zq (((ap w.heap.size w).alloc (ae _) (.cells #[aa ab t.r.kind,ac t.txt,aa ab t.r.n,aa ab t.r.at_,aa ab t.r.end_,av t.lay] 76)).alloc (by simp) (.cells #[ac ⟨#[]⟩,aa ab 0,aa ab 0] 61))
 clear HP
 have a2:=C.out.b.all
 simp only [QC.cells,ag,ai,aj,aH,aP,ah,af,and_true] at a2
 unfold kk jK at *
 generalize fa t=nm at *
 generalize dp t [44]=u1 at *
 generalize dp t [124]=u2 at *
 have f5:(nm=false/\u1=false/\u2=false)\/nm=true\/(nm=false/\u1=true)\/(nm=false/\u1=false/\u2=true):=by cases nm <;> cases u1 <;> cases u2 <;> simp
 rcases f5 with ⟨rfl,rfl,rfl⟩ | h
 ·have HV:Hid (R=(jL,false)):=V
  rw [HV.out]
  clear V HI HO
  go_enter Tryz.func67,Tryz.ntmps67
  go_wp2_with fail
  refine (a4.out _).mono ?_;rintro e w1 ⟨rfl,d⟩
  have B:=bz H d
  have z:=zq (C.out.call d)
  clear d C a2 H
  have F:=z.out.b.all
  simp only [QC.cells,ag,ai,aj,aH,aP,ah,af,and_true] at F
  go_wp2_with fail
  refine (a5.out _).mono ?_;rintro e w2 ⟨rfl,d⟩
  have y:=bz B d
  have u:=zq (z.out.call d)
  clear d z F B
  have a0:=u.out.b.all
  simp only [QC.cells,ag,ai,aj,aH,aP,ah,af,and_true] at a0
  go_wp2_with fail
  refine (a8.out _).mono ?_;rintro e w3 ⟨rfl,d⟩
  have b0:=bz y d
  have a6:=zq (u.out.call d)
  clear d u a0 y
  have a9:=a6.out.b.all
  simp only [QC.cells,ag,ai,aj,aH,aP,ah,af,and_true] at a9
  go_wp2_with fail
  refine aw (v:=aJ #[aV #[ac ⟨#[]⟩,aa ab 0,aa ab 0],av false]) (by simp [results,Tryz.results67,go_sem,a9]) rfl ⟨rfl,?_⟩
  exact ((b0.out.setCell (bm _) _).setCell (bm _) _).setCell (bm _) _
 replace V:Hid (R=if I=true then (k,true) else (m,D)):=zq (V.out.trans (if_neg (by rcases h with rfl | ⟨rfl,rfl⟩ | ⟨rfl,rfl,rfl⟩ <;> simp)))
 go_enter Tryz.func67,Tryz.ntmps67
 go_upto_region 1 with fail
 go_cut [20] from 8 to 20 (fun x wc=>x=av false/\Hid (aB w.heap.size w wc)/\Hid (Wq c n wr v nv w nv wc [(w.heap.size+1,[ac ⟨#[]⟩,aa ab 0,aa ab 0]),(w.heap.size,[aa ab t.r.kind,ac t.txt,aa ab t.r.n,aa ab t.r.at_,aa ab t.r.end_,av t.lay])]))
 case first=>
  rcases h with rfl | ⟨rfl,rfl⟩ | ⟨rfl,rfl,rfl⟩
  ·skip
   go_wp2_with fail
   refine (a4.out _).mono ?_;rintro e w1 ⟨rfl,d⟩
   have B:=bz H d
   have z:=zq (C.out.call d)
   clear d C a2 H
   have F:=z.out.b.all
   simp only [QC.cells,ag,ai,aj,aH,aP,ah,af,and_true] at F
   go_wp2_with fail
   go_meet
   exact ⟨rfl,B,z⟩
  ·skip
   go_wp2_with fail
   refine (a4.out _).mono ?_;rintro e w1 ⟨rfl,d⟩
   have B:=bz H d
   have z:=zq (C.out.call d)
   clear d C a2 H
   have F:=z.out.b.all
   simp only [QC.cells,ag,ai,aj,aH,aP,ah,af,and_true] at F
   go_wp2_with fail
   refine (a5.out _).mono ?_;rintro e w2 ⟨rfl,d⟩
   have y:=bz B d
   have u:=zq (z.out.call d)
   clear d z F B
   have a0:=u.out.b.all
   simp only [QC.cells,ag,ai,aj,aH,aP,ah,af,and_true] at a0
   go_wp2_with fail
   go_meet
   exact ⟨rfl,y,u⟩
  ·skip
   go_wp2_with fail
   refine (a4.out _).mono ?_;rintro e w1 ⟨rfl,d⟩
   have B:=bz H d
   have z:=zq (C.out.call d)
   clear d C a2 H
   have F:=z.out.b.all
   simp only [QC.cells,ag,ai,aj,aH,aP,ah,af,and_true] at F
   go_wp2_with fail
   refine (a5.out _).mono ?_;rintro e w2 ⟨rfl,d⟩
   have y:=bz B d
   have u:=zq (z.out.call d)
   clear d z F B
   have a0:=u.out.b.all
   simp only [QC.cells,ag,ai,aj,aH,aP,ah,af,and_true] at a0
   go_wp2_with fail
   refine (a8.out _).mono ?_;rintro e w3 ⟨rfl,d⟩
   have b0:=bz y d
   have a6:=zq (u.out.call d)
   clear d u a0 y
   have a9:=a6.out.b.all
   simp only [QC.cells,ag,ai,aj,aH,aP,ah,af,and_true] at a9
   go_wp2_with fail
   go_meet
   exact ⟨rfl,b0,a6⟩
 case rest=>
  obtain ⟨rfl,y,u⟩:=hcut
  clear a4 a5 a8 h H C a2
  go_wp2_with fail
  rename_i K5 c3
  refine fu (w0:=wc) [bB [] [0] (fun|[v]=>v=ar (some ⟨c.P,0,none⟩)|_=>False),
   bB [0] [1] (fun|[v]=>v=ar (some ⟨c.P,0,none⟩)|_=>False),
   bB [0,1] [2] (fun|[v]=>v=ar (some ⟨c.P,3,none⟩)|_=>False),
   eT (aM 3) [3] (fun|[v]=>v=.slice c.OA c.on c.oc|_=>False),
   bB [] [4] (fun|[v]=>v=ar (some ⟨w.heap.size,1,none⟩)|_=>False),
   eT [4] [5] (fun|[v]=>v=ac t.txt|_=>False),
   eT (aM 6) [6] (fun|[v]=>v=aJ #[aV #[ac k.name,aa ab k.typ,aa ab k.prec],av I]|_=>False),
   bB (aM 7) [7] (fun|[v]=>v=aJ #[aV #[ac k.name,aa ab k.typ,aa ab k.prec],av I]|_=>False),
   bB (aM 8) [8] (fun|[v]=>v=aV #[ac k.name,aa ab k.typ,aa ab k.prec]|_=>False),
   bB (aM 8) [9] (fun|[v]=>v=av I|_=>False),
   qr [] [ac ⟨#[]⟩,aa ab 0,aa ab 0] 11,
   kD [0,1,2,3,4,5,6,7,8,10] [] 10 (fun _=>[ac k.name,aa ab k.typ,aa ab k.prec]),
   bB (aM 12) [12] (fun|[v]=>v=av I|_=>False)]
   [some 23,some 24,some 25,some 26,some 27,some 28,some 29,some 22,some 30,some 31,some 6,none,some 7] (fun _=>True) (wc.heap.size) (by kernel_rfl) (ae _) (by kernel_rfl) (by kernel_rfl) (by kernel_rfl) (fun j o l=>?srv5) (fun val Y N s Z=>?fin5)
  case srv5=>
   have f7:j<13:=(aS.1 l).1
   rcases (show j=0\/j=1\/j=2\/j=3\/j=4\/j=5\/j=6\/j=7\/j=8\/j=9\/j=10\/j=11\/j=12 by omega) with rfl|rfl|rfl|rfl|rfl|rfl|rfl|rfl|rfl|rfl|rfl|rfl|rfl
   ·cases l
    refine aY rfl rfl (fun val E a i=>?_)
    have e0:=a.t 0 (ar (some ⟨c.P,0,none⟩)) rfl
    exact ⟨_,fun X=>by simp [aL,go_sem,e0],rfl⟩
   ·cases l
    refine aY rfl rfl (fun val E a i=>?_)
    have c9:=a.t 23 (val 0) rfl
    have J:val 0=_:=i 0 (oz rfl)
    exact ⟨_,fun X=>by simp [aL,go_sem,c9,J],rfl⟩
   ·cases l
    refine aY rfl rfl (fun val E a i=>?_)
    have d0:=a.t 24 (val 1) rfl
    have K:val 1=_:=i 1 (oz rfl)
    exact ⟨_,fun X=>by simp [aL,go_sem,d0,K],rfl⟩
   ·cases l
    refine dU rfl rfl (fun _ _ _=>trivial) (fun val E X a d i=>?_)
    have d1:=a.t 25 (val 2) rfl
    have L:val 2=_:=i 2 (oz rfl)
    have q:=(u.out.call d).p.bk.c 3 _ rfl
    exact ⟨_,by simp [aL,go_sem,d1,L,q],rfl⟩
   ·cases l
    refine aY rfl rfl (fun val E a i=>?_)
    have e3:=a.t 3 (ar (some ⟨w.heap.size,0,none⟩)) rfl
    exact ⟨_,fun X=>by simp [aL,go_sem,e3],rfl⟩
   ·cases l
    refine dU rfl rfl (fun _ _ _=>trivial) (fun val E X a d i=>?_)
    have d3:=a.t 27 (val 4) rfl
    have O:val 4=_:=i 4 (oz rfl)
    have q:=((u.out.call d).b.at 1 _ _ rfl).c 1 _ rfl
    exact ⟨_,by simp [aL,go_sem,d3,O,q],rfl⟩
   ·cases l
    refine ge rfl rfl (fun _ _ _=>trivial) (fun val E X a d i=>?_)
    have d2:=a.t 26 (val 3) rfl
    have M:val 3=_:=i 3 (oz rfl)
    have d4:=a.t 28 (val 5) rfl
    have Q:val 5=_:=i 5 (oz rfl)
    exact ⟨_,_,_,by simp [aL,go_sem,a.c,a.f,d2,M,d4,Q] <;> rfl,HI.out X (y.out.trans (d.mono y.out.size)),rfl⟩
   ·cases l
    refine aY rfl rfl (fun val E a i=>?_)
    have d5:=a.t 29 (val 6) rfl
    have S:val 6=_:=i 6 (oz rfl)
    exact ⟨aJ #[aV #[ac k.name,aa ab k.typ,aa ab k.prec],av I],fun X=>by simp [aL,go_sem,d5,S],rfl⟩
   ·cases l
    refine aY rfl rfl (fun val E a i=>?_)
    have b6:=a.t 22 (val 7) rfl
    have A:val 7=_:=i 7 (oz rfl)
    exact ⟨_,fun X=>by simp [aL,go_sem,b6,A],rfl⟩
   ·cases l
    refine aY rfl rfl (fun val E a i=>?_)
    have b6:=a.t 22 (val 7) rfl
    have A:val 7=_:=i 7 (oz rfl)
    exact ⟨_,fun X=>by simp [aL,go_sem,b6,A],rfl⟩
   ·cases l
    exact jq rfl (fun _=>trivial) (trivial) 61 fun E X=>by simp [aL,go_sem]
   ·cases l
    refine im rfl rfl (fun _=>trivial) fun val E X b a i hb q=>?_
    have e6:=a.t 6 (val 10) rfl
    have d6:=a.t 30 (val 8) rfl
    have T:val 8=_:=i 8 (oz rfl)
    have z0:=q.c 0 (ac ⟨#[]⟩) rfl
    have f0:=q.f 0
    have z1:=q.c 1 (aa ab 0) rfl
    have f1:=q.f 1
    have z2:=q.c 2 (aa ab 0) rfl
    have f2:=q.f 2
    exact ⟨(((X.setCell ⟨b,0,none⟩ (ac k.name)).setCell ⟨b,1,none⟩ (aa ab k.typ)).setCell ⟨b,2,none⟩ (aa ab k.prec)),[ac k.name,aa ab k.typ,aa ab k.prec],by simp [aL,go_sem,hb,e6,d6,T,z0,f0,z1,f1,z2,f2],((((PutTo.start q).more 0 (ac k.name)).more 1 (aa ab k.typ)).more 2 (aa ab k.prec)),rfl,trivial⟩
   ·cases l
    refine aY rfl rfl (fun val E a i=>?_)
    have d7:=a.t 31 (val 9) rfl
    have U:val 9=_:=i 9 (oz rfl)
    exact ⟨_,fun X=>by simp [aL,go_sem,d7,U],rfl⟩
  case fin5=>
   have J:val 0=_:=s 0 (by decide)
   have K:val 1=_:=s 1 (by decide)
   have L:val 2=_:=s 2 (by decide)
   have M:val 3=_:=s 3 (by decide)
   have O:val 4=_:=s 4 (by decide)
   have Q:val 5=_:=s 5 (by decide)
   have S:val 6=_:=s 6 (by decide)
   have A:val 7=_:=s 7 (by decide)
   have T:val 8=_:=s 8 (by decide)
   have U:val 9=_:=s 9 (by decide)
   have c1:val 12=_:=s 12 (by decide)
   obtain ⟨G,hb,hl,q,_⟩:=Z.at_box 10 (by decide) rfl
   have b8:Bk Y G [ac k.name,aa ab k.typ,aa ab k.prec]:=q
   have a7:=zq (u.out.box Z.bel hl b8)
   have a3:=zq (y.out.trans (Z.bel.mono y.out.size))
   have f9:=b8.lt
   have f6:=hl
   clear s Z q b8 hl
   refine c3 _ _ ?_
   simp only [gD,an,ao,af,ah,hb,J,K,L,M,O,Q,S,A,T,U,c1]
   clear c3 hb J K L M O Q S A T U c1
   have c6:=zq y.out.size
   clear u y HI
   have b5:=a7.out.b.all
   simp only [QC.cells,ag,ai,aj,aH,aP,ah,af,and_true] at b5
   cases I
   rotate_left
   ·have HV:Hid (R=(k,true)):=V
    clear V HO
    go_wp2_with fail
    refine aw (v:=aJ #[aV #[ac k.name,aa ab k.typ,aa ab k.prec],av true]) (by simp [results,Tryz.results67,go_sem,b5]) rfl ⟨?_,?_⟩
    ·rw [HV.out]
    ·exact ((a3.out.setCell (bm _) _).setCell (bm _) _).setCell (bm _) _
   have HV:Hid (R=(m,D)):=V
   clear V b5
   go_wp2_with fail
   have a1:Hid (w.heap.size<=G):=zq (Nat.le_trans c6.out f6)
   rename_i K7 c4
   refine lQ (w0:=Y) [bB [] [0] (fun|[v]=>v=ar (some ⟨c.P,0,none⟩)|_=>False),
    bB [0] [1] (fun|[v]=>v=ar (some ⟨c.P,0,none⟩)|_=>False),
    bB [0,1] [2] (fun|[v]=>v=ar (some ⟨c.P,3,none⟩)|_=>False),
    eT (aM 3) [3] (fun|[v]=>v=.slice c.OA c.on c.oc|_=>False),
    bB [] [4] (fun|[v]=>v=ar (some ⟨w.heap.size,1,none⟩)|_=>False),
    eT [4] [5] (fun|[v]=>v=ac t.txt|_=>False),
    eT (aM 6) [6] (fun|[v]=>v=aJ #[aV #[ac m.name,aa ab m.typ,aa ab m.prec],av D]|_=>False),
    bB (aM 7) [7] (fun|[v]=>v=aJ #[aV #[ac m.name,aa ab m.typ,aa ab m.prec],av D]|_=>False),
    bB (aM 8) [8] (fun|[v]=>v=aV #[ac m.name,aa ab m.typ,aa ab m.prec]|_=>False),
    bB (aM 8) [9] (fun|[v]=>v=av D|_=>False),
    yk (aM 9) [] (fun _=>True),
    bB (aM 11) [11] (fun|[v]=>v=av D|_=>False)]
    [some 35,some 36,some 37,some 38,some 39,some 40,some 41,some 34,some 42,some 43,none,some 7] (fun _=>True) (Y.heap.size) 10 (fun _ X=>Hid (aB w.heap.size w X/\Wq c n wr v nv w nv X ((G,[ac m.name,aa ab m.typ,aa ab m.prec])::[(w.heap.size+1,[ac ⟨#[]⟩,aa ab 0,aa ab 0]),(w.heap.size,[aa ab t.r.kind,ac t.txt,aa ab t.r.n,aa ab t.r.at_,aa ab t.r.end_,av t.lay])]))) (by kernel_rfl) (ae _) (by kernel_rfl) (by kernel_rfl) ⟨by decide,rfl⟩ (fun j o l=>?srv7) (fun val Y s Z=>?fin7)
   case srv7=>
    have f7:j<12:=(aS.1 l).1
    rcases (show j=0\/j=1\/j=2\/j=3\/j=4\/j=5\/j=6\/j=7\/j=8\/j=9\/j=10\/j=11 by omega) with rfl|rfl|rfl|rfl|rfl|rfl|rfl|rfl|rfl|rfl|rfl|rfl
    ·cases l
     refine aY rfl rfl (fun val E a i=>?_)
     have e0:=a.t 0 (ar (some ⟨c.P,0,none⟩)) rfl
     exact ⟨_,fun X=>by simp [aL,go_sem,e0],rfl⟩
    ·cases l
     refine aY rfl rfl (fun val E a i=>?_)
     have d8:=a.t 35 (val 0) rfl
     have J:val 0=_:=i 0 (oz rfl)
     exact ⟨_,fun X=>by simp [aL,go_sem,d8,J],rfl⟩
    ·cases l
     refine aY rfl rfl (fun val E a i=>?_)
     have d9:=a.t 36 (val 1) rfl
     have K:val 1=_:=i 1 (oz rfl)
     exact ⟨_,fun X=>by simp [aL,go_sem,d9,K],rfl⟩
    ·cases l
     refine dU rfl rfl (fun _ _ _=>trivial) (fun val E X a d i=>?_)
     have e1:=a.t 37 (val 2) rfl
     have L:val 2=_:=i 2 (oz rfl)
     have q:=(a7.out.call d).p.bk.c 3 _ rfl
     exact ⟨_,by simp [aL,go_sem,e1,L,q],rfl⟩
    ·cases l
     refine aY rfl rfl (fun val E a i=>?_)
     have e3:=a.t 3 (ar (some ⟨w.heap.size,0,none⟩)) rfl
     exact ⟨_,fun X=>by simp [aL,go_sem,e3],rfl⟩
    ·cases l
     refine dU rfl rfl (fun _ _ _=>trivial) (fun val E X a d i=>?_)
     have e4:=a.t 39 (val 4) rfl
     have O:val 4=_:=i 4 (oz rfl)
     have q:=((a7.out.call d).b.at 2 _ _ rfl).c 1 _ rfl
     exact ⟨_,by simp [aL,go_sem,e4,O,q],rfl⟩
    ·cases l
     refine ge rfl rfl (fun _ _ _=>trivial) (fun val E X a d i=>?_)
     have e2:=a.t 38 (val 3) rfl
     have M:val 3=_:=i 3 (oz rfl)
     have e7:=a.t 40 (val 5) rfl
     have Q:val 5=_:=i 5 (oz rfl)
     exact ⟨_,_,_,by simp [aL,go_sem,a.c,a.f,e2,M,e7,Q] <;> rfl,HO.out X (a3.out.trans (d.mono a3.out.size)),rfl⟩
    ·cases l
     refine aY rfl rfl (fun val E a i=>?_)
     have e8:=a.t 41 (val 6) rfl
     have S:val 6=_:=i 6 (oz rfl)
     exact ⟨aJ #[aV #[ac m.name,aa ab m.typ,aa ab m.prec],av D],fun X=>by simp [aL,go_sem,e8,S],rfl⟩
    ·cases l
     refine aY rfl rfl (fun val E a i=>?_)
     have b7:=a.t 34 (val 7) rfl
     have A:val 7=_:=i 7 (oz rfl)
     exact ⟨_,fun X=>by simp [aL,go_sem,b7,A],rfl⟩
    ·cases l
     refine aY rfl rfl (fun val E a i=>?_)
     have b7:=a.t 34 (val 7) rfl
     have A:val 7=_:=i 7 (oz rfl)
     exact ⟨_,fun X=>by simp [aL,go_sem,b7,A],rfl⟩
    ·cases l
     refine pk rfl rfl fun val E X N a hC i hc _=>?_
     have T:val 8=_:=i 8 (oz rfl)
     have f4:E (.tmp 6)=ar (some ⟨G,0,none⟩):=by rw [a.eq];rfl
     have e9:=a.t 42 (val 8) rfl
     have hq:=a7.out.call hC.bel
     have q:=hq.b.at 0 _ _ rfl
     have f8:=q.lt
     have z0:=q.c 0 _ rfl
     have f0:=q.f 0
     have z1:=q.c 1 _ rfl
     have f1:=q.f 1
     have z2:=q.c 2 _ rfl
     have f2:=q.f 2
     have hX:=a3.out.trans (hC.bel.mono a3.out.size)
     exact .inr (.inl ⟨(((X.setCell ⟨G,0,none⟩ (ac m.name)).setCell ⟨G,1,none⟩ (aa ab m.typ)).setCell ⟨G,2,none⟩ (aa ab m.prec)),by simp [aL,go_sem,f4,e9,T,z0,f0,z1,f1,z2,f2],trivial,zq ⟨((hX.setCell (p:=⟨G,0,none⟩) a1.out _).setCell (p:=⟨G,1,none⟩) a1.out _).setCell (p:=⟨G,2,none⟩) a1.out _,((hq.put 0 0 rfl _ a1.out).put 0 1 rfl _ a1.out).put 0 2 rfl _ a1.out⟩⟩)
    ·cases l
     refine aY rfl rfl (fun val E a i=>?_)
     have f3:=a.t 43 (val 9) rfl
     have U:val 9=_:=i 9 (oz rfl)
     exact ⟨_,fun X=>by simp [aL,go_sem,f3,U],rfl⟩
   case fin7=>
    have J:val 0=_:=s 0 (by decide)
    have K:val 1=_:=s 1 (by decide)
    have L:val 2=_:=s 2 (by decide)
    have M:val 3=_:=s 3 (by decide)
    have O:val 4=_:=s 4 (by decide)
    have Q:val 5=_:=s 5 (by decide)
    have S:val 6=_:=s 6 (by decide)
    have A:val 7=_:=s 7 (by decide)
    have T:val 8=_:=s 8 (by decide)
    have U:val 9=_:=s 9 (by decide)
    have c0:val 11=_:=s 11 (by decide)
    obtain ⟨c2,c5⟩:=Hid.out Z
    have c7:=zq c2
    have c8:=zq c5
    clear s Z c2 c5
    refine c4 _ _ ?_
    simp only [gD,an,ao,af,ah,J,K,L,M,O,Q,S,A,T,U,c0]
    clear c4 J K L M O Q S A T U c0
    have b9:=c8.out.b.all
    simp only [QC.cells,ag,ai,aj,aH,aP,ah,af,and_true] at b9
    go_wp2_with fail
    refine aw (v:=aJ #[aV #[ac m.name,aa ab m.typ,aa ab m.prec],av D]) (by simp [results,Tryz.results67,go_sem,b9]) rfl ⟨?_,?_⟩
    ·rw [HV.out]
    ·exact ((c7.out.setCell (bm _) _).setCell (bm _) _).setCell (bm _) _
def _root_.Hb.stopT (t:NextR):Bool:=t.r.kind==7||(dp t [41]||(dp t [93]||(dp t [125]||(dp t [44]||dp t [124]))))
theorem wW {c:QC} {n:Nat} {wr:Bool} {v:VS} {nv:VV} {w:World} (p:PsQ c n wr v nv w) (d4:stopT (c.E.at n)=(if (c.E.at n).r.kind=7 then true else if (c.E.at n).r.kind=6 then decide (¬(c.E.at n).r.text=[40])&&(decide (¬(c.E.at n).r.text=[91])&&decide (¬(c.E.at n).r.text=[123])) else false)):aU am 154 #[ar (some ⟨c.P,0,none⟩),kk (c.E.at n),kk (c.E.at (n+1))] w fun e w'=>e=aD (av (jo c.E n))/\aB w.heap.size w w':=by
 obtain ⟨u,c7⟩:=lz ((dK c.E.P (c.E.at n).txt 1).getD jL)
 obtain ⟨bP,b9⟩:=lz (lv c.E.P (c.E.at n).txt 1)
 have HP:Hid (∀X,aB w.heap.size w X->aU am 115 #[.slice c.OA c.on c.oc,aa ab 1,ac (c.E.at n).txt] X fun e w'=>e=aD (aJ #[aV #[ac u.name,aa ab u.typ,aa ab u.prec],av bP])/\aB X.heap.size X w'):=zq fun X hX=>by
  rw [c7.out,b9.out];exact iy (p.tab.below hX) (by have:=p.ok.few;omega) 1 (c.E.at n).txt
 obtain ⟨q,c5⟩:=lz ((dK c.E.P (c.E.at n).txt 2).getD jL)
 obtain ⟨bI,b7⟩:=lz (lv c.E.P (c.E.at n).txt 2)
 have HI:Hid (∀X,aB w.heap.size w X->aU am 115 #[.slice c.OA c.on c.oc,aa ab 2,ac (c.E.at n).txt] X fun e w'=>e=aD (aJ #[aV #[ac q.name,aa ab q.typ,aa ab q.prec],av bI])/\aB X.heap.size X w'):=zq fun X hX=>by
  rw [c5.out,b7.out];exact iy (p.tab.below hX) (by have:=p.ok.few;omega) 2 (c.E.at n).txt
 obtain ⟨s,c6⟩:=lz ((dK c.E.P (c.E.at n).txt 3).getD jL)
 obtain ⟨bO,b8⟩:=lz (lv c.E.P (c.E.at n).txt 3)
 have HO:Hid (∀X,aB w.heap.size w X->aU am 115 #[.slice c.OA c.on c.oc,aa ab 3,ac (c.E.at n).txt] X fun e w'=>e=aD (aJ #[aV #[ac s.name,aa ab s.typ,aa ab s.prec],av bO])/\aB X.heap.size X w'):=zq fun X hX=>by
  rw [c6.out,b8.out];exact iy (p.tab.below hX) (by have:=p.ok.few;omega) 3 (c.E.at n).txt
 have b2:=zq fun W=>rK (c.E.at n) W
 have b3:=zq fun W=>pp (c.E.at (n+1)) W
 have a4:=zq fun W=>gf (c.E.at n) ⟨#[41]⟩ W
 rw [show dp (c.E.at n) (⟨#[41]⟩:ByteArray).data.toList=dp (c.E.at n) [41] from rfl] at a4
 have a8:=zq fun W=>gf (c.E.at n) ⟨#[93]⟩ W
 rw [show dp (c.E.at n) (⟨#[93]⟩:ByteArray).data.toList=dp (c.E.at n) [93] from rfl] at a8
 have b0:=zq fun W=>gf (c.E.at n) ⟨#[125]⟩ W
 rw [show dp (c.E.at n) (⟨#[125]⟩:ByteArray).data.toList=dp (c.E.at n) [125] from rfl] at b0
 have b4:=zq fun W=>gf (c.E.at n) ⟨#[44]⟩ W
 rw [show dp (c.E.at n) (⟨#[44]⟩:ByteArray).data.toList=dp (c.E.at n) [44] from rfl] at b4
 have b6:=zq fun W=>gf (c.E.at n) ⟨#[124]⟩ W
 rw [show dp (c.E.at n) (⟨#[124]⟩:ByteArray).data.toList=dp (c.E.at n) [124] from rfl] at b6
 obtain ⟨R,HR⟩:=lz (jo c.E n)
 have HE:Hid (R=if stopT (c.E.at n)=true then true else if (!fa (c.E.at n)||qW (c.E.at (n+1)))=true then false else !bP&&(bI||bO)):=zq (by
  rw [HR.out,b9.out,b7.out,b8.out,d4]
  unfold jo
  by_cases z:(c.E.at n).r.kind=7
  ·rw [if_pos z,if_pos z];rfl
  rw [if_neg z,if_neg z]
  by_cases G:(c.E.at n).r.kind=6
  ·have hn:fa (c.E.at n)=false:=by unfold fa;rw [G];rfl
   rw [if_pos G,if_pos G,hn]
   generalize (decide (¬(c.E.at n).r.text=[40])&&(decide (¬(c.E.at n).r.text=[91])&&decide (¬(c.E.at n).r.text=[123])))=b
   cases b <;> rfl
  ·rw [if_neg G,if_neg G];rfl)
 rw [<-HR.out]
 have c8:=zq p
 clear c7 c5 c6 b9 b7 b8 HR p d4
 generalize c.E.at n=t at *
 generalize c.E.at (n+1)=H at *
 have K:=zq (((Wq.start c8.out).new [aa ab t.r.kind,ac t.txt,aa ab t.r.n,aa ab t.r.at_,aa ab t.r.end_,av t.lay] 76 rfl).new [aa ab H.r.kind,ac H.txt,aa ab H.r.n,aa ab H.r.at_,aa ab H.r.end_,av H.lay] 76 (g:=w.heap.size+1) (by simp))
 have M:=zq (((ap w.heap.size w).alloc (ae _) (.cells #[aa ab t.r.kind,ac t.txt,aa ab t.r.n,aa ab t.r.at_,aa ab t.r.end_,av t.lay] 76)).alloc (by simp) (.cells #[aa ab H.r.kind,ac H.txt,aa ab H.r.n,aa ab H.r.at_,aa ab H.r.end_,av H.lay] 76))
 clear c8
 have a5:=K.out.b.all
 simp only [QC.cells,ag,ai,aj,aH,aP,ah,af,and_true] at a5
 unfold kk at *
 have J:Hid (stopT t=(t.r.kind==7||(dp t [41]||(dp t [93]||(dp t [125]||(dp t [44]||dp t [124])))))):=zq rfl
 generalize stopT t=st at *
 generalize dp t [41]=u0 at *
 generalize dp t [93]=u1 at *
 generalize dp t [125]=u2 at *
 generalize dp t [44]=u3 at *
 generalize dp t [124]=u4 at *
 generalize fa t=nm at *
 generalize qW H=op at *
 obtain ⟨k7,c4⟩:=lz ((t.r.kind==7))
 have d2:(t.r.kind==7)=k7:=c4.out.symm
 rw [d2] at J
 clear c4
 go_enter Tryz.func154,Tryz.ntmps154
 go_upto_region 1 with fail
 go_cut [35] from 13 to 35 (fun x wc=>x=av st/\Hid (aB w.heap.size w wc)/\Hid (Wq c n wr v nv w nv wc [(w.heap.size+1,[aa ab H.r.kind,ac H.txt,aa ab H.r.n,aa ab H.r.at_,aa ab H.r.end_,av H.lay]),(w.heap.size,[aa ab t.r.kind,ac t.txt,aa ab t.r.n,aa ab t.r.at_,aa ab t.r.end_,av t.lay])]))
 case first=>
  clear HE HP HI HO b2 b3
  cases k7
  rotate_left
  ·have hs:Hid (st=true):=zq J.out
   clear J
   go_wp2_with fail
   go_meet
   exact ⟨by rw [hs.out],M,K⟩
  cases u0
  rotate_left
  ·have hs:Hid (st=true):=zq J.out
   clear J
   go_wp2_with fail
   refine (a4.out _).mono ?_;rintro e w1 ⟨rfl,a⟩
   have A:=bz M a
   have m:=zq (K.out.call a)
   clear a K a5 M
   have D:=m.out.b.all
   simp only [QC.cells,ag,ai,aj,aH,aP,ah,af,and_true] at D
   go_wp2_with fail
   go_meet
   exact ⟨by rw [hs.out],A,m⟩
  cases u1
  rotate_left
  ·have hs:Hid (st=true):=zq J.out
   clear J
   go_wp2_with fail
   refine (a4.out _).mono ?_;rintro e w1 ⟨rfl,a⟩
   have A:=bz M a
   have m:=zq (K.out.call a)
   clear a K a5 M
   have D:=m.out.b.all
   simp only [QC.cells,ag,ai,aj,aH,aP,ah,af,and_true] at D
   go_wp2_with fail
   refine (a8.out _).mono ?_;rintro e w2 ⟨rfl,a⟩
   have C:=bz A a
   have y:=zq (m.out.call a)
   clear a m D A
   have F:=y.out.b.all
   simp only [QC.cells,ag,ai,aj,aH,aP,ah,af,and_true] at F
   go_wp2_with fail
   go_meet
   exact ⟨by rw [hs.out],C,y⟩
  cases u2
  rotate_left
  ·have hs:Hid (st=true):=zq J.out
   clear J
   go_wp2_with fail
   refine (a4.out _).mono ?_;rintro e w1 ⟨rfl,a⟩
   have A:=bz M a
   have m:=zq (K.out.call a)
   clear a K a5 M
   have D:=m.out.b.all
   simp only [QC.cells,ag,ai,aj,aH,aP,ah,af,and_true] at D
   go_wp2_with fail
   refine (a8.out _).mono ?_;rintro e w2 ⟨rfl,a⟩
   have C:=bz A a
   have y:=zq (m.out.call a)
   clear a m D A
   have F:=y.out.b.all
   simp only [QC.cells,ag,ai,aj,aH,aP,ah,af,and_true] at F
   go_wp2_with fail
   refine (b0.out _).mono ?_;rintro e w3 ⟨rfl,a⟩
   have I:=bz C a
   have B:=zq (y.out.call a)
   clear a y F C
   have L:=B.out.b.all
   simp only [QC.cells,ag,ai,aj,aH,aP,ah,af,and_true] at L
   go_wp2_with fail
   go_meet
   exact ⟨by rw [hs.out],I,B⟩
  cases u3
  rotate_left
  ·have hs:Hid (st=true):=zq J.out
   clear J
   go_wp2_with fail
   refine (a4.out _).mono ?_;rintro e w1 ⟨rfl,a⟩
   have A:=bz M a
   have m:=zq (K.out.call a)
   clear a K a5 M
   have D:=m.out.b.all
   simp only [QC.cells,ag,ai,aj,aH,aP,ah,af,and_true] at D
   go_wp2_with fail
   refine (a8.out _).mono ?_;rintro e w2 ⟨rfl,a⟩
   have C:=bz A a
   have y:=zq (m.out.call a)
   clear a m D A
   have F:=y.out.b.all
   simp only [QC.cells,ag,ai,aj,aH,aP,ah,af,and_true] at F
   go_wp2_with fail
   refine (b0.out _).mono ?_;rintro e w3 ⟨rfl,a⟩
   have I:=bz C a
   have B:=zq (y.out.call a)
   clear a y F C
   have L:=B.out.b.all
   simp only [QC.cells,ag,ai,aj,aH,aP,ah,af,and_true] at L
   go_wp2_with fail
   refine (b4.out _).mono ?_;rintro e w4 ⟨rfl,a⟩
   have a7:=bz I a
   have a1:=zq (B.out.call a)
   clear a B L I
   have a9:=a1.out.b.all
   simp only [QC.cells,ag,ai,aj,aH,aP,ah,af,and_true] at a9
   go_wp2_with fail
   go_meet
   exact ⟨by rw [hs.out],a7,a1⟩
  cases u4
  rotate_left
  ·have hs:Hid (st=true):=zq J.out
   clear J
   go_wp2_with fail
   refine (a4.out _).mono ?_;rintro e w1 ⟨rfl,a⟩
   have A:=bz M a
   have m:=zq (K.out.call a)
   clear a K a5 M
   have D:=m.out.b.all
   simp only [QC.cells,ag,ai,aj,aH,aP,ah,af,and_true] at D
   go_wp2_with fail
   refine (a8.out _).mono ?_;rintro e w2 ⟨rfl,a⟩
   have C:=bz A a
   have y:=zq (m.out.call a)
   clear a m D A
   have F:=y.out.b.all
   simp only [QC.cells,ag,ai,aj,aH,aP,ah,af,and_true] at F
   go_wp2_with fail
   refine (b0.out _).mono ?_;rintro e w3 ⟨rfl,a⟩
   have I:=bz C a
   have B:=zq (y.out.call a)
   clear a y F C
   have L:=B.out.b.all
   simp only [QC.cells,ag,ai,aj,aH,aP,ah,af,and_true] at L
   go_wp2_with fail
   refine (b4.out _).mono ?_;rintro e w4 ⟨rfl,a⟩
   have a7:=bz I a
   have a1:=zq (B.out.call a)
   clear a B L I
   have a9:=a1.out.b.all
   simp only [QC.cells,ag,ai,aj,aH,aP,ah,af,and_true] at a9
   go_wp2_with fail
   refine (b6.out _).mono ?_;rintro e w5 ⟨rfl,a⟩
   have a3:=bz a7 a
   have a2:=zq (a1.out.call a)
   clear a a1 a9 a7
   have c0:=a2.out.b.all
   simp only [QC.cells,ag,ai,aj,aH,aP,ah,af,and_true] at c0
   go_wp2_with fail
   go_meet
   exact ⟨by rw [hs.out],a3,a2⟩
  have hs:Hid (st=false):=zq J.out
  clear J
  go_wp2_with fail
  refine (a4.out _).mono ?_;rintro e w1 ⟨rfl,a⟩
  have A:=bz M a
  have m:=zq (K.out.call a)
  clear a K a5 M
  have D:=m.out.b.all
  simp only [QC.cells,ag,ai,aj,aH,aP,ah,af,and_true] at D
  go_wp2_with fail
  refine (a8.out _).mono ?_;rintro e w2 ⟨rfl,a⟩
  have C:=bz A a
  have y:=zq (m.out.call a)
  clear a m D A
  have F:=y.out.b.all
  simp only [QC.cells,ag,ai,aj,aH,aP,ah,af,and_true] at F
  go_wp2_with fail
  refine (b0.out _).mono ?_;rintro e w3 ⟨rfl,a⟩
  have I:=bz C a
  have B:=zq (y.out.call a)
  clear a y F C
  have L:=B.out.b.all
  simp only [QC.cells,ag,ai,aj,aH,aP,ah,af,and_true] at L
  go_wp2_with fail
  refine (b4.out _).mono ?_;rintro e w4 ⟨rfl,a⟩
  have a7:=bz I a
  have a1:=zq (B.out.call a)
  clear a B L I
  have a9:=a1.out.b.all
  simp only [QC.cells,ag,ai,aj,aH,aP,ah,af,and_true] at a9
  go_wp2_with fail
  refine (b6.out _).mono ?_;rintro e w5 ⟨rfl,a⟩
  have a3:=bz a7 a
  have a2:=zq (a1.out.call a)
  clear a a1 a9 a7
  have c0:=a2.out.b.all
  simp only [QC.cells,ag,ai,aj,aH,aP,ah,af,and_true] at c0
  go_wp2_with fail
  go_meet
  exact ⟨by rw [hs.out],a3,a2⟩
 case rest=>
  obtain ⟨rfl,A,m⟩:=hcut
  clear a4 a8 b0 b4 b6 J d2 M K a5
  cases st
  rotate_left
  ·have HV:Hid (R=true):=HE
   clear HE HP HI HO b2 b3
   go_wp2_with fail
   go_ret
   exact ⟨by rw [HV.out];rfl,A.out⟩
  replace HE:Hid (R=if (!nm||op)=true then false else !bP&&(bI||bO)):=HE
  have D:=m.out.b.all
  simp only [QC.cells,ag,ai,aj,aH,aP,ah,af,and_true] at D
  cases nm
  ·have HV:Hid (R=false):=HE
   clear HE HP HI HO b3
   go_wp2_with fail
   refine (b2.out _).mono ?_;rintro e w2 ⟨rfl,a⟩
   have C:=bz A a
   have y:=zq (m.out.call a)
   clear a m D A
   have F:=y.out.b.all
   simp only [QC.cells,ag,ai,aj,aH,aP,ah,af,and_true] at F
   go_wp2_with fail
   go_ret
   exact ⟨by rw [HV.out];rfl,C.out⟩
  cases op
  rotate_left
  ·have HV:Hid (R=false):=HE
   clear HE HP HI HO
   go_wp2_with fail
   refine (b2.out _).mono ?_;rintro e w2 ⟨rfl,a⟩
   have C:=bz A a
   have y:=zq (m.out.call a)
   clear a m D A
   have F:=y.out.b.all
   simp only [QC.cells,ag,ai,aj,aH,aP,ah,af,and_true] at F
   go_wp2_with fail
   refine (b3.out _).mono ?_;rintro e w3 ⟨rfl,a⟩
   have I:=bz C a
   have B:=zq (y.out.call a)
   clear a y F C
   have L:=B.out.b.all
   simp only [QC.cells,ag,ai,aj,aH,aP,ah,af,and_true] at L
   go_wp2_with fail
   go_ret
   exact ⟨by rw [HV.out];rfl,I.out⟩
  replace HE:Hid (R=(!bP&&(bI||bO))):=HE
  go_wp2_with fail
  refine (b2.out _).mono ?_;rintro e w2 ⟨rfl,a⟩
  have C:=bz A a
  have y:=zq (m.out.call a)
  clear a m D A
  have F:=y.out.b.all
  simp only [QC.cells,ag,ai,aj,aH,aP,ah,af,and_true] at F
  go_wp2_with fail
  refine (b3.out _).mono ?_;rintro e w3 ⟨rfl,a⟩
  have I:=bz C a
  have B:=zq (y.out.call a)
  clear a y F C
  have L:=B.out.b.all
  simp only [QC.cells,ag,ai,aj,aH,aP,ah,af,and_true] at L
  clear L
  go_wp2_with fail
  rename_i K5 c9
  refine fu (w0:=w3) [bB [] [0] (fun|[v]=>v=ar (some ⟨c.P,0,none⟩)|_=>False),
   bB [0] [1] (fun|[v]=>v=ar (some ⟨c.P,0,none⟩)|_=>False),
   bB [0,1] [2] (fun|[v]=>v=ar (some ⟨c.P,3,none⟩)|_=>False),
   eT (aM 3) [3] (fun|[v]=>v=.slice c.OA c.on c.oc|_=>False),
   bB [] [4] (fun|[v]=>v=ar (some ⟨w.heap.size,1,none⟩)|_=>False),
   eT [4] [5] (fun|[v]=>v=ac t.txt|_=>False),
   eT (aM 6) [6] (fun|[v]=>v=aJ #[aV #[ac u.name,aa ab u.typ,aa ab u.prec],av bP]|_=>False),
   bB (aM 7) [7] (fun|[v]=>v=aJ #[aV #[ac u.name,aa ab u.typ,aa ab u.prec],av bP]|_=>False),
   bB (aM 8) [8] (fun|[v]=>v=aV #[ac u.name,aa ab u.typ,aa ab u.prec]|_=>False),
   bB (aM 8) [9] (fun|[v]=>v=av bP|_=>False),
   qr [] [ac ⟨#[]⟩,aa ab 0,aa ab 0] 11,
   kD [0,1,2,3,4,5,6,7,8,10] [] 10 (fun _=>[ac u.name,aa ab u.typ,aa ab u.prec]),
   bB (aM 12) [12] (fun|[v]=>v=av bP|_=>False)]
   [some 44,some 45,some 46,some 47,some 48,some 49,some 50,some 43,some 51,some 52,some 7,none,some 8] (fun _=>True) (w3.heap.size) (by kernel_rfl) (ae _) (by kernel_rfl) (by kernel_rfl) (by kernel_rfl) (fun j o k=>?srv5) (fun val Y N l O=>?fin5)
  case srv5=>
   have d3:j<13:=(aS.1 k).1
   rcases (show j=0\/j=1\/j=2\/j=3\/j=4\/j=5\/j=6\/j=7\/j=8\/j=9\/j=10\/j=11\/j=12 by omega) with rfl|rfl|rfl|rfl|rfl|rfl|rfl|rfl|rfl|rfl|rfl|rfl|rfl
   ·cases k
    refine aY rfl rfl (fun val E d h=>?_)
    have e0:=d.t 0 (ar (some ⟨c.P,0,none⟩)) rfl
    exact ⟨_,fun X=>by simp [aL,go_sem,e0],rfl⟩
   ·cases k
    refine aY rfl rfl (fun val E d h=>?_)
    have d8:=d.t 44 (val 0) rfl
    have Q:val 0=_:=h 0 (oz rfl)
    exact ⟨_,fun X=>by simp [aL,go_sem,d8,Q],rfl⟩
   ·cases k
    refine aY rfl rfl (fun val E d h=>?_)
    have d9:=d.t 45 (val 1) rfl
    have S:val 1=_:=h 1 (oz rfl)
    exact ⟨_,fun X=>by simp [aL,go_sem,d9,S],rfl⟩
   ·cases k
    refine dU rfl rfl (fun _ _ _=>trivial) (fun val E X d a h=>?_)
    have e1:=d.t 46 (val 2) rfl
    have T:val 2=_:=h 2 (oz rfl)
    have i:=(B.out.call a).p.bk.c 3 _ rfl
    exact ⟨_,by simp [aL,go_sem,e1,T,i],rfl⟩
   ·cases k
    refine aY rfl rfl (fun val E d h=>?_)
    have e4:=d.t 4 (ar (some ⟨w.heap.size,0,none⟩)) rfl
    exact ⟨_,fun X=>by simp [aL,go_sem,e4],rfl⟩
   ·cases k
    refine dU rfl rfl (fun _ _ _=>trivial) (fun val E X d a h=>?_)
    have e3:=d.t 48 (val 4) rfl
    have V:val 4=_:=h 4 (oz rfl)
    have i:=((B.out.call a).b.at 1 _ _ rfl).c 1 _ rfl
    exact ⟨_,by simp [aL,go_sem,e3,V,i],rfl⟩
   ·cases k
    refine ge rfl rfl (fun _ _ _=>trivial) (fun val E X d a h=>?_)
    have e2:=d.t 47 (val 3) rfl
    have U:val 3=_:=h 3 (oz rfl)
    have e8:=d.t 49 (val 5) rfl
    have Z:val 5=_:=h 5 (oz rfl)
    exact ⟨_,_,_,by simp [aL,go_sem,d.c,d.f,e2,U,e8,Z] <;> rfl,HP.out X (I.out.trans (a.mono I.out.size)),rfl⟩
   ·cases k
    refine aY rfl rfl (fun val E d h=>?_)
    have f3:=d.t 50 (val 6) rfl
    have G:val 6=_:=h 6 (oz rfl)
    exact ⟨aJ #[aV #[ac u.name,aa ab u.typ,aa ab u.prec],av bP],fun X=>by simp [aL,go_sem,f3,G],rfl⟩
   ·cases k
    refine aY rfl rfl (fun val E d h=>?_)
    have c1:=d.t 43 (val 7) rfl
    have z:val 7=_:=h 7 (oz rfl)
    exact ⟨_,fun X=>by simp [aL,go_sem,c1,z],rfl⟩
   ·cases k
    refine aY rfl rfl (fun val E d h=>?_)
    have c1:=d.t 43 (val 7) rfl
    have z:val 7=_:=h 7 (oz rfl)
    exact ⟨_,fun X=>by simp [aL,go_sem,c1,z],rfl⟩
   ·cases k
    exact jq rfl (fun _=>trivial) (trivial) 61 fun E X=>by simp [aL,go_sem]
   ·cases k
    refine im rfl rfl (fun _=>trivial) fun val E X b d h hb i=>?_
    have e7:=d.t 7 (val 10) rfl
    have f4:=d.t 51 (val 8) rfl
    have h8:val 8=_:=h 8 (oz rfl)
    have z0:=i.c 0 (ac ⟨#[]⟩) rfl
    have f0:=i.f 0
    have z1:=i.c 1 (aa ab 0) rfl
    have f1:=i.f 1
    have z2:=i.c 2 (aa ab 0) rfl
    have f2:=i.f 2
    exact ⟨(((X.setCell ⟨b,0,none⟩ (ac u.name)).setCell ⟨b,1,none⟩ (aa ab u.typ)).setCell ⟨b,2,none⟩ (aa ab u.prec)),[ac u.name,aa ab u.typ,aa ab u.prec],by simp [aL,go_sem,hb,e7,f4,h8,z0,f0,z1,f1,z2,f2],((((PutTo.start i).more 0 (ac u.name)).more 1 (aa ab u.typ)).more 2 (aa ab u.prec)),rfl,trivial⟩
   ·cases k
    refine aY rfl rfl (fun val E d h=>?_)
    have f5:=d.t 52 (val 9) rfl
    have h9:val 9=_:=h 9 (oz rfl)
    exact ⟨_,fun X=>by simp [aL,go_sem,f5,h9],rfl⟩
  case fin5=>
   have Q:val 0=_:=l 0 (by decide)
   have S:val 1=_:=l 1 (by decide)
   have T:val 2=_:=l 2 (by decide)
   have U:val 3=_:=l 3 (by decide)
   have V:val 4=_:=l 4 (by decide)
   have Z:val 5=_:=l 5 (by decide)
   have G:val 6=_:=l 6 (by decide)
   have z:val 7=_:=l 7 (by decide)
   have h8:val 8=_:=l 8 (by decide)
   have h9:val 9=_:=l 9 (by decide)
   have a6:val 12=_:=l 12 (by decide)
   obtain ⟨e5,hb,hl,i,_⟩:=O.at_box 10 (by decide) rfl
   have a0:Bk Y e5 [ac u.name,aa ab u.typ,aa ab u.prec]:=i
   have a2:=zq (B.out.box O.bel hl a0)
   have a3:=zq (I.out.trans (O.bel.mono I.out.size))
   have i7:=a0.lt
   have i4:=hl
   clear l O i a0 hl
   refine c9 _ _ ?_
   simp only [gD,an,ao,af,ah,hb,Q,S,T,U,V,Z,G,z,h8,h9,a6]
   clear c9 hb Q S T U V Z G z h8 h9 a6
   clear B I HP
   go_wp2_with fail
   rename_i K6 d0
   refine fu (w0:=Y) [bB [] [0] (fun|[v]=>v=ar (some ⟨c.P,0,none⟩)|_=>False),
    bB [0] [1] (fun|[v]=>v=ar (some ⟨c.P,0,none⟩)|_=>False),
    bB [0,1] [2] (fun|[v]=>v=ar (some ⟨c.P,3,none⟩)|_=>False),
    eT (aM 3) [3] (fun|[v]=>v=.slice c.OA c.on c.oc|_=>False),
    bB [] [4] (fun|[v]=>v=ar (some ⟨w.heap.size,1,none⟩)|_=>False),
    eT [4] [5] (fun|[v]=>v=ac t.txt|_=>False),
    eT (aM 6) [6] (fun|[v]=>v=aJ #[aV #[ac q.name,aa ab q.typ,aa ab q.prec],av bI]|_=>False),
    bB (aM 7) [7] (fun|[v]=>v=aJ #[aV #[ac q.name,aa ab q.typ,aa ab q.prec],av bI]|_=>False),
    bB (aM 8) [8] (fun|[v]=>v=aV #[ac q.name,aa ab q.typ,aa ab q.prec]|_=>False),
    bB (aM 8) [9] (fun|[v]=>v=av bI|_=>False),
    qr [] [ac ⟨#[]⟩,aa ab 0,aa ab 0] 11,
    kD [0,1,2,3,4,5,6,7,8,10] [] 10 (fun _=>[ac q.name,aa ab q.typ,aa ab q.prec]),
    bB (aM 12) [12] (fun|[v]=>v=av bI|_=>False)]
    [some 54,some 55,some 56,some 57,some 58,some 59,some 60,some 53,some 61,some 62,some 9,none,some 10] (fun _=>True) (Y.heap.size) (by kernel_rfl) (ae _) (by kernel_rfl) (by kernel_rfl) (by kernel_rfl) (fun j o k=>?srv6) (fun val Y2 N l O=>?fin6)
   case srv6=>
    have d3:j<13:=(aS.1 k).1
    rcases (show j=0\/j=1\/j=2\/j=3\/j=4\/j=5\/j=6\/j=7\/j=8\/j=9\/j=10\/j=11\/j=12 by omega) with rfl|rfl|rfl|rfl|rfl|rfl|rfl|rfl|rfl|rfl|rfl|rfl|rfl
    ·cases k
     refine aY rfl rfl (fun val E d h=>?_)
     have e0:=d.t 0 (ar (some ⟨c.P,0,none⟩)) rfl
     exact ⟨_,fun X=>by simp [aL,go_sem,e0],rfl⟩
    ·cases k
     refine aY rfl rfl (fun val E d h=>?_)
     have f6:=d.t 54 (val 0) rfl
     have Q:val 0=_:=h 0 (oz rfl)
     exact ⟨_,fun X=>by simp [aL,go_sem,f6,Q],rfl⟩
    ·cases k
     refine aY rfl rfl (fun val E d h=>?_)
     have f7:=d.t 55 (val 1) rfl
     have S:val 1=_:=h 1 (oz rfl)
     exact ⟨_,fun X=>by simp [aL,go_sem,f7,S],rfl⟩
    ·cases k
     refine dU rfl rfl (fun _ _ _=>trivial) (fun val E X d a h=>?_)
     have f8:=d.t 56 (val 2) rfl
     have T:val 2=_:=h 2 (oz rfl)
     have i:=(a2.out.call a).p.bk.c 3 _ rfl
     exact ⟨_,by simp [aL,go_sem,f8,T,i],rfl⟩
    ·cases k
     refine aY rfl rfl (fun val E d h=>?_)
     have e4:=d.t 4 (ar (some ⟨w.heap.size,0,none⟩)) rfl
     exact ⟨_,fun X=>by simp [aL,go_sem,e4],rfl⟩
    ·cases k
     refine dU rfl rfl (fun _ _ _=>trivial) (fun val E X d a h=>?_)
     have g0:=d.t 58 (val 4) rfl
     have V:val 4=_:=h 4 (oz rfl)
     have i:=((a2.out.call a).b.at 2 _ _ rfl).c 1 _ rfl
     exact ⟨_,by simp [aL,go_sem,g0,V,i],rfl⟩
    ·cases k
     refine ge rfl rfl (fun _ _ _=>trivial) (fun val E X d a h=>?_)
     have f9:=d.t 57 (val 3) rfl
     have U:val 3=_:=h 3 (oz rfl)
     have g1:=d.t 59 (val 5) rfl
     have Z:val 5=_:=h 5 (oz rfl)
     exact ⟨_,_,_,by simp [aL,go_sem,d.c,d.f,f9,U,g1,Z] <;> rfl,HI.out X (a3.out.trans (a.mono a3.out.size)),rfl⟩
    ·cases k
     refine aY rfl rfl (fun val E d h=>?_)
     have g2:=d.t 60 (val 6) rfl
     have G:val 6=_:=h 6 (oz rfl)
     exact ⟨aJ #[aV #[ac q.name,aa ab q.typ,aa ab q.prec],av bI],fun X=>by simp [aL,go_sem,g2,G],rfl⟩
    ·cases k
     refine aY rfl rfl (fun val E d h=>?_)
     have c2:=d.t 53 (val 7) rfl
     have z:val 7=_:=h 7 (oz rfl)
     exact ⟨_,fun X=>by simp [aL,go_sem,c2,z],rfl⟩
    ·cases k
     refine aY rfl rfl (fun val E d h=>?_)
     have c2:=d.t 53 (val 7) rfl
     have z:val 7=_:=h 7 (oz rfl)
     exact ⟨_,fun X=>by simp [aL,go_sem,c2,z],rfl⟩
    ·cases k
     exact jq rfl (fun _=>trivial) (trivial) 61 fun E X=>by simp [aL,go_sem]
    ·cases k
     refine im rfl rfl (fun _=>trivial) fun val E X b d h hb i=>?_
     have e9:=d.t 9 (val 10) rfl
     have g3:=d.t 61 (val 8) rfl
     have h8:val 8=_:=h 8 (oz rfl)
     have z0:=i.c 0 (ac ⟨#[]⟩) rfl
     have f0:=i.f 0
     have z1:=i.c 1 (aa ab 0) rfl
     have f1:=i.f 1
     have z2:=i.c 2 (aa ab 0) rfl
     have f2:=i.f 2
     exact ⟨(((X.setCell ⟨b,0,none⟩ (ac q.name)).setCell ⟨b,1,none⟩ (aa ab q.typ)).setCell ⟨b,2,none⟩ (aa ab q.prec)),[ac q.name,aa ab q.typ,aa ab q.prec],by simp [aL,go_sem,hb,e9,g3,h8,z0,f0,z1,f1,z2,f2],((((PutTo.start i).more 0 (ac q.name)).more 1 (aa ab q.typ)).more 2 (aa ab q.prec)),rfl,trivial⟩
    ·cases k
     refine aY rfl rfl (fun val E d h=>?_)
     have g4:=d.t 62 (val 9) rfl
     have h9:val 9=_:=h 9 (oz rfl)
     exact ⟨_,fun X=>by simp [aL,go_sem,g4,h9],rfl⟩
   case fin6=>
    have Q:val 0=_:=l 0 (by decide)
    have S:val 1=_:=l 1 (by decide)
    have T:val 2=_:=l 2 (by decide)
    have U:val 3=_:=l 3 (by decide)
    have V:val 4=_:=l 4 (by decide)
    have Z:val 5=_:=l 5 (by decide)
    have G:val 6=_:=l 6 (by decide)
    have z:val 7=_:=l 7 (by decide)
    have h8:val 8=_:=l 8 (by decide)
    have h9:val 9=_:=l 9 (by decide)
    have a6:val 12=_:=l 12 (by decide)
    obtain ⟨e6,hb,hl,i,_⟩:=O.at_box 10 (by decide) rfl
    have a0:Bk Y2 e6 [ac q.name,aa ab q.typ,aa ab q.prec]:=i
    have b5:=zq (a2.out.box O.bel hl a0)
    have b1:=zq (a3.out.trans (O.bel.mono a3.out.size))
    have i8:=a0.lt
    have i5:=hl
    clear l O i a0 hl
    refine d0 _ _ ?_
    simp only [gD,an,ao,af,ah,hb,Q,S,T,U,V,Z,G,z,h8,h9,a6]
    clear d0 hb Q S T U V Z G z h8 h9 a6
    clear a2 a3 HI
    go_wp2_with fail
    rename_i K7 d1
    refine fu (w0:=Y2) [bB [] [0] (fun|[v]=>v=ar (some ⟨c.P,0,none⟩)|_=>False),
     bB [0] [1] (fun|[v]=>v=ar (some ⟨c.P,0,none⟩)|_=>False),
     bB [0,1] [2] (fun|[v]=>v=ar (some ⟨c.P,3,none⟩)|_=>False),
     eT (aM 3) [3] (fun|[v]=>v=.slice c.OA c.on c.oc|_=>False),
     bB [] [4] (fun|[v]=>v=ar (some ⟨w.heap.size,1,none⟩)|_=>False),
     eT [4] [5] (fun|[v]=>v=ac t.txt|_=>False),
     eT (aM 6) [6] (fun|[v]=>v=aJ #[aV #[ac s.name,aa ab s.typ,aa ab s.prec],av bO]|_=>False),
     bB (aM 7) [7] (fun|[v]=>v=aJ #[aV #[ac s.name,aa ab s.typ,aa ab s.prec],av bO]|_=>False),
     bB (aM 8) [8] (fun|[v]=>v=aV #[ac s.name,aa ab s.typ,aa ab s.prec]|_=>False),
     bB (aM 8) [9] (fun|[v]=>v=av bO|_=>False),
     qr [] [ac ⟨#[]⟩,aa ab 0,aa ab 0] 11,
     kD [0,1,2,3,4,5,6,7,8,10] [] 10 (fun _=>[ac s.name,aa ab s.typ,aa ab s.prec]),
     bB (aM 12) [12] (fun|[v]=>v=av bO|_=>False)]
     [some 64,some 65,some 66,some 67,some 68,some 69,some 70,some 63,some 71,some 72,some 11,none,some 12] (fun _=>True) (Y2.heap.size) (by kernel_rfl) (ae _) (by kernel_rfl) (by kernel_rfl) (by kernel_rfl) (fun j o k=>?srv7) (fun val Y3 N l O=>?fin7)
    case srv7=>
     have d3:j<13:=(aS.1 k).1
     rcases (show j=0\/j=1\/j=2\/j=3\/j=4\/j=5\/j=6\/j=7\/j=8\/j=9\/j=10\/j=11\/j=12 by omega) with rfl|rfl|rfl|rfl|rfl|rfl|rfl|rfl|rfl|rfl|rfl|rfl|rfl
     ·cases k
      refine aY rfl rfl (fun val E d h=>?_)
      have e0:=d.t 0 (ar (some ⟨c.P,0,none⟩)) rfl
      exact ⟨_,fun X=>by simp [aL,go_sem,e0],rfl⟩
     ·cases k
      refine aY rfl rfl (fun val E d h=>?_)
      have g5:=d.t 64 (val 0) rfl
      have Q:val 0=_:=h 0 (oz rfl)
      exact ⟨_,fun X=>by simp [aL,go_sem,g5,Q],rfl⟩
     ·cases k
      refine aY rfl rfl (fun val E d h=>?_)
      have g6:=d.t 65 (val 1) rfl
      have S:val 1=_:=h 1 (oz rfl)
      exact ⟨_,fun X=>by simp [aL,go_sem,g6,S],rfl⟩
     ·cases k
      refine dU rfl rfl (fun _ _ _=>trivial) (fun val E X d a h=>?_)
      have g7:=d.t 66 (val 2) rfl
      have T:val 2=_:=h 2 (oz rfl)
      have i:=(b5.out.call a).p.bk.c 3 _ rfl
      exact ⟨_,by simp [aL,go_sem,g7,T,i],rfl⟩
     ·cases k
      refine aY rfl rfl (fun val E d h=>?_)
      have e4:=d.t 4 (ar (some ⟨w.heap.size,0,none⟩)) rfl
      exact ⟨_,fun X=>by simp [aL,go_sem,e4],rfl⟩
     ·cases k
      refine dU rfl rfl (fun _ _ _=>trivial) (fun val E X d a h=>?_)
      have g9:=d.t 68 (val 4) rfl
      have V:val 4=_:=h 4 (oz rfl)
      have i:=((b5.out.call a).b.at 3 _ _ rfl).c 1 _ rfl
      exact ⟨_,by simp [aL,go_sem,g9,V,i],rfl⟩
     ·cases k
      refine ge rfl rfl (fun _ _ _=>trivial) (fun val E X d a h=>?_)
      have g8:=d.t 67 (val 3) rfl
      have U:val 3=_:=h 3 (oz rfl)
      have i0:=d.t 69 (val 5) rfl
      have Z:val 5=_:=h 5 (oz rfl)
      exact ⟨_,_,_,by simp [aL,go_sem,d.c,d.f,g8,U,i0,Z] <;> rfl,HO.out X (b1.out.trans (a.mono b1.out.size)),rfl⟩
     ·cases k
      refine aY rfl rfl (fun val E d h=>?_)
      have i1:=d.t 70 (val 6) rfl
      have G:val 6=_:=h 6 (oz rfl)
      exact ⟨aJ #[aV #[ac s.name,aa ab s.typ,aa ab s.prec],av bO],fun X=>by simp [aL,go_sem,i1,G],rfl⟩
     ·cases k
      refine aY rfl rfl (fun val E d h=>?_)
      have c3:=d.t 63 (val 7) rfl
      have z:val 7=_:=h 7 (oz rfl)
      exact ⟨_,fun X=>by simp [aL,go_sem,c3,z],rfl⟩
     ·cases k
      refine aY rfl rfl (fun val E d h=>?_)
      have c3:=d.t 63 (val 7) rfl
      have z:val 7=_:=h 7 (oz rfl)
      exact ⟨_,fun X=>by simp [aL,go_sem,c3,z],rfl⟩
     ·cases k
      exact jq rfl (fun _=>trivial) (trivial) 61 fun E X=>by simp [aL,go_sem]
     ·cases k
      refine im rfl rfl (fun _=>trivial) fun val E X b d h hb i=>?_
      have d7:=d.t 11 (val 10) rfl
      have i2:=d.t 71 (val 8) rfl
      have h8:val 8=_:=h 8 (oz rfl)
      have z0:=i.c 0 (ac ⟨#[]⟩) rfl
      have f0:=i.f 0
      have z1:=i.c 1 (aa ab 0) rfl
      have f1:=i.f 1
      have z2:=i.c 2 (aa ab 0) rfl
      have f2:=i.f 2
      exact ⟨(((X.setCell ⟨b,0,none⟩ (ac s.name)).setCell ⟨b,1,none⟩ (aa ab s.typ)).setCell ⟨b,2,none⟩ (aa ab s.prec)),[ac s.name,aa ab s.typ,aa ab s.prec],by simp [aL,go_sem,hb,d7,i2,h8,z0,f0,z1,f1,z2,f2],((((PutTo.start i).more 0 (ac s.name)).more 1 (aa ab s.typ)).more 2 (aa ab s.prec)),rfl,trivial⟩
     ·cases k
      refine aY rfl rfl (fun val E d h=>?_)
      have i3:=d.t 72 (val 9) rfl
      have h9:val 9=_:=h 9 (oz rfl)
      exact ⟨_,fun X=>by simp [aL,go_sem,i3,h9],rfl⟩
    case fin7=>
     have Q:val 0=_:=l 0 (by decide)
     have S:val 1=_:=l 1 (by decide)
     have T:val 2=_:=l 2 (by decide)
     have U:val 3=_:=l 3 (by decide)
     have V:val 4=_:=l 4 (by decide)
     have Z:val 5=_:=l 5 (by decide)
     have G:val 6=_:=l 6 (by decide)
     have z:val 7=_:=l 7 (by decide)
     have h8:val 8=_:=l 8 (by decide)
     have h9:val 9=_:=l 9 (by decide)
     have a6:val 12=_:=l 12 (by decide)
     obtain ⟨e7,hb,hl,i,_⟩:=O.at_box 10 (by decide) rfl
     have a0:Bk Y3 e7 [ac s.name,aa ab s.typ,aa ab s.prec]:=i
     have d6:=zq (b5.out.box O.bel hl a0)
     have d5:=zq (b1.out.trans (O.bel.mono b1.out.size))
     have i9:=a0.lt
     have i6:=hl
     clear l O i a0 hl
     refine d1 _ _ ?_
     simp only [gD,an,ao,af,ah,hb,Q,S,T,U,V,Z,G,z,h8,h9,a6]
     clear d1 hb Q S T U V Z G z h8 h9 a6
     clear b5 b1 HO
     cases bP <;> cases bI
     all_goals
      clear d6
      go_wp2_with fail
      go_ret
      exact ⟨by rw [HE.out];rfl,d5.out⟩
end Go.Proofs.YtbojljpldcijgaaGreat
