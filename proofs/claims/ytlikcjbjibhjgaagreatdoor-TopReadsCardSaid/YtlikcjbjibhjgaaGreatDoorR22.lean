/- Parts of the proof. -/
import Derived.Test.YtlikcjbjibhjgaaGreatDoorR01
import Derived.Test.YtlikcjbjibhjgaaGreatDoorR21
set_option maxHeartbeats 12800000
set_option maxRecDepth 100000
set_option linter.unusedSimpArgs false
open Array renaming getElem?_eq_some_iff -> aM
open Go renaming Calls -> aJ, bodyPost_ret -> ay, execOp -> aP
open Go.Ending renaming returned -> aw
open Go.IntKind renaming i64 -> ae
open Go.Proofs.Tryz renaming func170 -> iP, ntmps170 -> ib, prog -> ah
open Go.RowKit renaming Below -> ax
open Go.RowKit.Below renaming refl -> aj
open Go.Value renaming agg -> aN, bool -> am, int -> ab, pointer -> au, string -> aa, tuple -> aK
open List renaming append_nil -> aA, cons_append -> ak, nil_append -> an, range -> aY, set_cons_succ -> cB, set_cons_zero -> cy
open Nat renaming add_zero -> bv, le_refl -> ag, le_trans -> aI, reduceAdd -> ar, zero_add -> ap
namespace Go.Proofs.YtlikcjbjibhjgaaGreatDoor
open Go.RowKit Hb
attribute [local go_sem] Oper.semAt_some
theorem FW (t:NextR) (l:List UInt8):(t.txt.toList==l)=decide (t.r.text=l):=by
 rw [eZ]
 by_cases h:t.r.text=l
 ·rw [decide_eq_true h];simpa [NextR.txt] using h
 ·rw [decide_eq_false h];simpa [NextR.txt] using h
theorem GT {c:PC} {n:Nat} {v:VS} {nv:Value} {w:World} (p:PsAt c n v nv w):aJ ah 170 #[au (some ⟨c.P,0,none⟩)] w fun e w'=>e=aw (am (gE c.E n))/\ax w.heap.size w w':=by
 obtain ⟨q,c7⟩:=lz ((dt c.E.P (c.E.at n).txt 1).getD op0)
 obtain ⟨bP,c1⟩:=lz (lJ c.E.P (c.E.at n).txt 1)
 have HP:Hid (∀X,ax w.heap.size w X->aJ ah 169 #[.slice c.OA c.on c.oc,aa (c.E.at n).txt] X fun e w'=>e=aw (aK #[aN #[aa q.name,ab ae q.typ,ab ae q.prec],am bP])/\ax X.heap.size X w'):=zq fun X hX=>by
  rw [c7.out,c1.out];exact mX c.OA c.on c.oc c.E.P (c.E.at n).txt X p.ok.opl (by have:=p.ok.few;omega) (p.ops.below hX)
 obtain ⟨l,c5⟩:=lz ((dt c.E.P (c.E.at n).txt 2).getD op0)
 obtain ⟨bI,b9⟩:=lz (lJ c.E.P (c.E.at n).txt 2)
 have HI:Hid (∀X,ax w.heap.size w X->aJ ah 132 #[.slice c.OA c.on c.oc,aa (c.E.at n).txt] X fun e w'=>e=aw (aK #[aN #[aa l.name,ab ae l.typ,ab ae l.prec],am bI])/\ax X.heap.size X w'):=zq fun X hX=>by
  rw [c5.out,b9.out];exact oT c.OA c.on c.oc c.E.P (c.E.at n).txt X p.ok.opl (by have:=p.ok.few;omega) (p.ops.below hX)
 obtain ⟨m,c6⟩:=lz ((dt c.E.P (c.E.at n).txt 3).getD op0)
 obtain ⟨bO,c0⟩:=lz (lJ c.E.P (c.E.at n).txt 3)
 have HO:Hid (∀X,ax w.heap.size w X->aJ ah 133 #[.slice c.OA c.on c.oc,aa (c.E.at n).txt] X fun e w'=>e=aw (aK #[aN #[aa m.name,ab ae m.typ,ab ae m.prec],am bO])/\ax X.heap.size X w'):=zq fun X hX=>by
  rw [c6.out,c0.out];exact lZ c.OA c.on c.oc c.E.P (c.E.at n).txt X p.ok.opl (by have:=p.ok.few;omega) (p.ops.below hX)
 have Z:=zq (kc p 0 (by decide))
 have a4:=zq fun W (B:ax w.heap.size w W)=>kc (p.call B) 1 (by decide)
 have a2:=zq fun W=>sK (c.E.at n) W
 have a3:=zq fun W=>zg (c.E.at (n+1)) W
 obtain ⟨R,HR⟩:=lz (gE c.E n)
 have HE:Hid (R=if (c.E.at n).r.kind=7 then true
   else if (c.E.at n).r.kind=6 then decide (¬(c.E.at n).r.text=[40])&&(decide (¬(c.E.at n).r.text=[91])&&decide (¬(c.E.at n).r.text=[123]))
   else if (!ge (c.E.at n)||opn (c.E.at (n+1)))=true then false
   else !bP&&(bI||bO)):=zq (by rw [HR.out,c1.out,b9.out,c0.out];rfl)
 have a9:=zq (FW (c.E.at n))
 have F:=zq (Wk.start p)
 rw [<-HR.out]
 rw [bv] at Z
 clear c7 c5 c6 c1 b9 c0 HR p
 generalize c.E.at n=t at *
 generalize c.E.at (n+1)=t1 at *
 unfold qY at *
 by_cases s:t.r.kind=7
 ·have b7:(t.r.kind==7)=true:=by simpa using s
  have O:=zq (HE.out.trans (if_pos s))
  rw [O.out]
  clear s HE a9 HP HI HO a4 a2 a3
  go_enter iP,ib
  go_wp2_with fail
  refine Z.out.mono ?_;rintro e Q ⟨rfl,i⟩
  have y:=zq ((F.out.call i).new [ab ae t.r.kind,aa t.txt,ab ae t.r.n,ab ae t.r.at_,ab ae t.r.end_,am t.lay] 83 rfl)
  have D:=zq (i.alloc i.size (.cells #[ab ae t.r.kind,aa t.txt,ab ae t.r.n,ab ae t.r.at_,ab ae t.r.end_,am t.lay] 83))
  clear i F
  have C:=y.out.b.all
  simp only [PC.cells,ak,an,aA,aU,bd,ap,ar,and_true] at C
  go_wp2_with fail
  go_ret
  exact ⟨rfl,D.out⟩
 have b7:(t.r.kind==7)=false:=by simpa using s
 replace HE:=zq (HE.out.trans (if_neg s))
 clear s
 by_cases A:t.r.kind=6
 ·have b6:(t.r.kind==6)=true:=by simpa using A
  replace HE:=zq (HE.out.trans (if_pos A))
  clear A HP HI HO a4 a2 a3
  have x1:=a9.out [40]
  have x2:=a9.out [91]
  have x3:=a9.out [123]
  clear a9
  by_cases u:t.r.text=[40]
  ·rw [decide_eq_true u] at x1
   have O:Hid (R=false):=zq (HE.out.trans (by rw [u];rfl))
   rw [O.out]
   clear x2 x3 u HE
   go_enter iP,ib
   go_wp2_with fail
   refine Z.out.mono ?_;rintro e Q ⟨rfl,i⟩
   have y:=zq ((F.out.call i).new [ab ae t.r.kind,aa t.txt,ab ae t.r.n,ab ae t.r.at_,ab ae t.r.end_,am t.lay] 83 rfl)
   have D:=zq (i.alloc i.size (.cells #[ab ae t.r.kind,aa t.txt,ab ae t.r.n,ab ae t.r.at_,ab ae t.r.end_,am t.lay] 83))
   clear i F
   have C:=y.out.b.all
   simp only [PC.cells,ak,an,aA,aU,bd,ap,ar,and_true] at C
   go_wp2_with fail
   go_ret
   exact ⟨rfl,D.out⟩
  rw [decide_eq_false u] at x1
  by_cases x:t.r.text=[91]
  ·rw [decide_eq_true x] at x2
   have O:Hid (R=false):=zq (HE.out.trans (by rw [x];rfl))
   rw [O.out]
   clear x3 u x HE
   go_enter iP,ib
   go_wp2_with fail
   refine Z.out.mono ?_;rintro e Q ⟨rfl,i⟩
   have y:=zq ((F.out.call i).new [ab ae t.r.kind,aa t.txt,ab ae t.r.n,ab ae t.r.at_,ab ae t.r.end_,am t.lay] 83 rfl)
   have D:=zq (i.alloc i.size (.cells #[ab ae t.r.kind,aa t.txt,ab ae t.r.n,ab ae t.r.at_,ab ae t.r.end_,am t.lay] 83))
   clear i F
   have C:=y.out.b.all
   simp only [PC.cells,ak,an,aA,aU,bd,ap,ar,and_true] at C
   go_wp2_with fail
   go_ret
   exact ⟨rfl,D.out⟩
  rw [decide_eq_false x] at x2
  by_cases z:t.r.text=[123]
  ·rw [decide_eq_true z] at x3
   have O:Hid (R=false):=zq (HE.out.trans (by rw [z];rfl))
   rw [O.out]
   clear u x z HE
   go_enter iP,ib
   go_wp2_with fail
   refine Z.out.mono ?_;rintro e Q ⟨rfl,i⟩
   have y:=zq ((F.out.call i).new [ab ae t.r.kind,aa t.txt,ab ae t.r.n,ab ae t.r.at_,ab ae t.r.end_,am t.lay] 83 rfl)
   have D:=zq (i.alloc i.size (.cells #[ab ae t.r.kind,aa t.txt,ab ae t.r.n,ab ae t.r.at_,ab ae t.r.end_,am t.lay] 83))
   clear i F
   have C:=y.out.b.all
   simp only [PC.cells,ak,an,aA,aU,bd,ap,ar,and_true] at C
   go_wp2_with fail
   go_ret
   exact ⟨rfl,D.out⟩
  rw [decide_eq_false z] at x3
  have O:Hid (R=true):=zq (HE.out.trans (by simp [u,x,z]))
  rw [O.out]
  clear u x z HE
  go_enter iP,ib
  go_wp2_with fail
  refine Z.out.mono ?_;rintro e Q ⟨rfl,i⟩
  have y:=zq ((F.out.call i).new [ab ae t.r.kind,aa t.txt,ab ae t.r.n,ab ae t.r.at_,ab ae t.r.end_,am t.lay] 83 rfl)
  have D:=zq (i.alloc i.size (.cells #[ab ae t.r.kind,aa t.txt,ab ae t.r.n,ab ae t.r.at_,ab ae t.r.end_,am t.lay] 83))
  clear i F
  have C:=y.out.b.all
  simp only [PC.cells,ak,an,aA,aU,bd,ap,ar,and_true] at C
  go_wp2_with fail
  go_ret
  exact ⟨rfl,D.out⟩
 have b6:(t.r.kind==6)=false:=by simpa using A
 replace HE:=zq (HE.out.trans (if_neg A))
 clear A a9
 generalize ge t=nm at *
 generalize opn t1=op at *
 cases nm
 ·have O:Hid (R=false):=HE
  rw [O.out]
  clear HE HP HI HO a4 a3
  go_enter iP,ib
  go_wp2_with fail
  refine Z.out.mono ?_;rintro e Q ⟨rfl,i⟩
  have y:=zq ((F.out.call i).new [ab ae t.r.kind,aa t.txt,ab ae t.r.n,ab ae t.r.at_,ab ae t.r.end_,am t.lay] 83 rfl)
  have D:=zq (i.alloc i.size (.cells #[ab ae t.r.kind,aa t.txt,ab ae t.r.n,ab ae t.r.at_,ab ae t.r.end_,am t.lay] 83))
  clear i F
  have C:=y.out.b.all
  simp only [PC.cells,ak,an,aA,aU,bd,ap,ar,and_true] at C
  go_wp2_with fail
  refine (a2.out _).mono ?_;rintro e w2 ⟨rfl,S⟩
  have V:=bz D S
  have a8:=zq (y.out.call S)
  clear S y C
  go_wp2_with fail
  go_ret
  exact ⟨rfl,V.out⟩
 cases op
 rotate_left
 ·have O:Hid (R=false):=HE
  rw [O.out]
  clear HE HP HI HO
  go_enter iP,ib
  go_wp2_with fail
  refine Z.out.mono ?_;rintro e Q ⟨rfl,i⟩
  have y:=zq ((F.out.call i).new [ab ae t.r.kind,aa t.txt,ab ae t.r.n,ab ae t.r.at_,ab ae t.r.end_,am t.lay] 83 rfl)
  have D:=zq (i.alloc i.size (.cells #[ab ae t.r.kind,aa t.txt,ab ae t.r.n,ab ae t.r.at_,ab ae t.r.end_,am t.lay] 83))
  clear i F
  have C:=y.out.b.all
  simp only [PC.cells,ak,an,aA,aU,bd,ap,ar,and_true] at C
  go_wp2_with fail
  refine (a2.out _).mono ?_;rintro e w2 ⟨rfl,S⟩
  have V:=bz D S
  have a8:=zq (y.out.call S)
  clear S y C D a2
  go_wp2_with fail
  refine (a4.out _ V.out).mono ?_;rintro e w3 ⟨rfl,a6⟩
  have b0:=bz V a6
  have b3:=zq (a8.out.call a6)
  clear a6 a8 V a4
  go_wp2_with fail
  refine (a3.out _).mono ?_;rintro e w4 ⟨rfl,a7⟩
  have a1:=bz b0 a7
  have a5:=zq (b3.out.call a7)
  clear a7 b3 b0 a3
  have b8:=a5.out.b.all
  simp only [PC.cells,ak,an,aA,aU,bd,ap,ar,and_true] at b8
  go_wp2_with fail
  go_ret
  exact ⟨rfl,a1.out⟩
 replace HE:Hid (R=(!bP&&(bI||bO))):=HE
 go_enter iP,ib
 go_wp2_with fail
 refine Z.out.mono ?_;rintro e Q ⟨rfl,i⟩
 have y:=zq ((F.out.call i).new [ab ae t.r.kind,aa t.txt,ab ae t.r.n,ab ae t.r.at_,ab ae t.r.end_,am t.lay] 83 rfl)
 have D:=zq (i.alloc i.size (.cells #[ab ae t.r.kind,aa t.txt,ab ae t.r.n,ab ae t.r.at_,ab ae t.r.end_,am t.lay] 83))
 clear i F
 have C:=y.out.b.all
 simp only [PC.cells,ak,an,aA,aU,bd,ap,ar,and_true] at C
 go_wp2_with fail
 refine (a2.out _).mono ?_;rintro e w2 ⟨rfl,S⟩
 have V:=bz D S
 have a8:=zq (y.out.call S)
 clear S y C D a2
 go_wp2_with fail
 refine (a4.out _ V.out).mono ?_;rintro e w3 ⟨rfl,a6⟩
 have b0:=bz V a6
 have b3:=zq (a8.out.call a6)
 clear a6 a8 V a4
 go_wp2_with fail
 refine (a3.out _).mono ?_;rintro e w4 ⟨rfl,a7⟩
 have a1:=bz b0 a7
 have a5:=zq (b3.out.call a7)
 clear a7 b3 b0 a3
 have b8:=a5.out.b.all
 simp only [PC.cells,ak,an,aA,aU,bd,ap,ar,and_true] at b8
 clear b8
 go_wp2_with fail
 rename_i K5 c8
 refine jN (w0:=w4) [cV [] [0] (fun|[v]=>v=au (some ⟨c.P,0,none⟩)|_=>False),
  cV [0] [1] (fun|[v]=>v=au (some ⟨c.P,0,none⟩)|_=>False),
  cV [0,1] [2] (fun|[v]=>v=au (some ⟨c.P,2,none⟩)|_=>False),
  jn (aY 3) [3] (fun|[v]=>v=.slice c.OA c.on c.oc|_=>False),
  cV [] [4] (fun|[v]=>v=au (some ⟨Q.heap.size,1,none⟩)|_=>False),
  jn [4] [5] (fun|[v]=>v=aa t.txt|_=>False),
  jn (aY 6) [6] (fun|[v]=>v=aK #[aN #[aa q.name,ab ae q.typ,ab ae q.prec],am bP]|_=>False),
  cV (aY 7) [7] (fun|[v]=>v=aK #[aN #[aa q.name,ab ae q.typ,ab ae q.prec],am bP]|_=>False),
  cV (aY 8) [8] (fun|[v]=>v=aN #[aa q.name,ab ae q.typ,ab ae q.prec]|_=>False),
  cV (aY 8) [9] (fun|[v]=>v=am bP|_=>False),
  GZ [] [aa ⟨#[]⟩,ab ae 0,ab ae 0] 11,
  tB [0,1,2,3,4,5,6,7,8,10] [] 10 (fun _=>[aa q.name,ab ae q.typ,ab ae q.prec]),
  cV (aY 12) [12] (fun|[v]=>v=am bP|_=>False)]
  [some 43,some 44,some 45,some 46,some 47,some 48,some 49,some 42,some 50,some 51,some 4,none,some 5] (fun _=>True) (w4.heap.size) (by kernel_rfl) (ag _) (by kernel_rfl) (by kernel_rfl) (by kernel_rfl) (fun j o h=>?srv5) (fun val Y N k G=>?fin5)
 case srv5=>
  have d1:j<13:=(aM.1 h).1
  rcases (show j=0\/j=1\/j=2\/j=3\/j=4\/j=5\/j=6\/j=7\/j=8\/j=9\/j=10\/j=11\/j=12 by omega) with rfl|rfl|rfl|rfl|rfl|rfl|rfl|rfl|rfl|rfl|rfl|rfl|rfl
  ·cases h
   refine bq rfl rfl (fun val E a d=>?_)
   have e0:=a.t 0 (au (some ⟨c.P,0,none⟩)) rfl
   exact ⟨_,fun X=>by simp [aP,go_sem,e0],rfl⟩
  ·cases h
   refine bq rfl rfl (fun val E a d=>?_)
   have d4:=a.t 43 (val 0) rfl
   have H:val 0=_:=d 0 (oz rfl)
   exact ⟨_,fun X=>by simp [aP,go_sem,d4,H],rfl⟩
  ·cases h
   refine bq rfl rfl (fun val E a d=>?_)
   have d5:=a.t 44 (val 1) rfl
   have u:val 1=_:=d 1 (oz rfl)
   exact ⟨_,fun X=>by simp [aP,go_sem,d5,u],rfl⟩
  ·cases h
   refine fI rfl rfl (fun _ _ _=>trivial) (fun val E X a B d=>?_)
   have d6:=a.t 45 (val 2) rfl
   have x:val 2=_:=d 2 (oz rfl)
   have g:=(a5.out.call B).p.bk.c 2 _ rfl
   exact ⟨_,by simp [aP,go_sem,d6,x,g],rfl⟩
  ·cases h
   refine bq rfl rfl (fun val E a d=>?_)
   have e3:=a.t 3 (au (some ⟨Q.heap.size,0,none⟩)) rfl
   exact ⟨_,fun X=>by simp [aP,go_sem,e3],rfl⟩
  ·cases h
   refine fI rfl rfl (fun _ _ _=>trivial) (fun val E X a B d=>?_)
   have d8:=a.t 47 (val 4) rfl
   have I:val 4=_:=d 4 (oz rfl)
   have g:=((a5.out.call B).b.at 0 _ _ rfl).c 1 _ rfl
   exact ⟨_,by simp [aP,go_sem,d8,I,g],rfl⟩
  ·cases h
   refine ka rfl rfl (fun _ _ _=>trivial) (fun val E X a B d=>?_)
   have d7:=a.t 46 (val 3) rfl
   have z:val 3=_:=d 3 (oz rfl)
   have d9:=a.t 48 (val 5) rfl
   have J:val 5=_:=d 5 (oz rfl)
   exact ⟨_,_,_,by simp [aP,go_sem,a.f,d7,z,d9,J] <;> rfl,HP.out X (a1.out.trans (B.mono a1.out.size)),rfl⟩
  ·cases h
   refine bq rfl rfl (fun val E a d=>?_)
   have e1:=a.t 49 (val 6) rfl
   have A:val 6=_:=d 6 (oz rfl)
   exact ⟨aK #[aN #[aa q.name,ab ae q.typ,ab ae q.prec],am bP],fun X=>by simp [aP,go_sem,e1,A],rfl⟩
  ·cases h
   refine bq rfl rfl (fun val E a d=>?_)
   have c2:=a.t 42 (val 7) rfl
   have s:val 7=_:=d 7 (oz rfl)
   exact ⟨_,fun X=>by simp [aP,go_sem,c2,s],rfl⟩
  ·cases h
   refine bq rfl rfl (fun val E a d=>?_)
   have c2:=a.t 42 (val 7) rfl
   have s:val 7=_:=d 7 (oz rfl)
   exact ⟨_,fun X=>by simp [aP,go_sem,c2,s],rfl⟩
  ·cases h
   exact qe rfl (fun _=>trivial) (trivial) 39 fun E X=>by simp [aP,go_sem]
  ·cases h
   refine mx rfl rfl (fun _=>trivial) fun val E X b a d M g=>?_
   have e4:=a.t 4 (val 10) rfl
   have e2:=a.t 50 (val 8) rfl
   have K:val 8=_:=d 8 (oz rfl)
   have z0:=g.c 0 (aa ⟨#[]⟩) rfl
   have f0:=g.f 0
   have z1:=g.c 1 (ab ae 0) rfl
   have f1:=g.f 1
   have z2:=g.c 2 (ab ae 0) rfl
   have f2:=g.f 2
   exact ⟨(((X.setCell ⟨b,0,none⟩ (aa q.name)).setCell ⟨b,1,none⟩ (ab ae q.typ)).setCell ⟨b,2,none⟩ (ab ae q.prec)),[aa q.name,ab ae q.typ,ab ae q.prec],by simp [aP,go_sem,M,e4,e2,K,z0,f0,z1,f1,z2,f2],((((PutTo.start g).more 0 (aa q.name)).more 1 (ab ae q.typ)).more 2 (ab ae q.prec)),rfl,trivial⟩
  ·cases h
   refine bq rfl rfl (fun val E a d=>?_)
   have e9:=a.t 51 (val 9) rfl
   have L:val 9=_:=d 9 (oz rfl)
   exact ⟨_,fun X=>by simp [aP,go_sem,e9,L],rfl⟩
 case fin5=>
  have H:val 0=_:=k 0 (by decide)
  have u:val 1=_:=k 1 (by decide)
  have x:val 2=_:=k 2 (by decide)
  have z:val 3=_:=k 3 (by decide)
  have I:val 4=_:=k 4 (by decide)
  have J:val 5=_:=k 5 (by decide)
  have A:val 6=_:=k 6 (by decide)
  have s:val 7=_:=k 7 (by decide)
  have K:val 8=_:=k 8 (by decide)
  have L:val 9=_:=k 9 (by decide)
  have a0:val 12=_:=k 12 (by decide)
  obtain ⟨e5,M,U,g,_⟩:=G.at_box 10 (by decide) rfl
  have T:Bk Y e5 [aa q.name,ab ae q.typ,ab ae q.prec]:=g
  have b4:=zq (a5.out.box G.bel U T)
  have b1:=zq (a1.out.trans (G.bel.mono a1.out.size))
  have i4:=T.lt
  have i1:=U
  clear k G g T U
  refine c8 _ _ ?_
  simp only [jD,cy,cB,ar,ap,M,H,u,x,z,I,J,A,s,K,L,a0]
  clear c8 M H u x z I J A s K L a0
  clear a5 a1 HP
  go_wp2_with fail
  rename_i K6 c9
  refine jN (w0:=Y) [cV [] [0] (fun|[v]=>v=au (some ⟨c.P,0,none⟩)|_=>False),
   cV [0] [1] (fun|[v]=>v=au (some ⟨c.P,0,none⟩)|_=>False),
   cV [0,1] [2] (fun|[v]=>v=au (some ⟨c.P,2,none⟩)|_=>False),
   jn (aY 3) [3] (fun|[v]=>v=.slice c.OA c.on c.oc|_=>False),
   cV [] [4] (fun|[v]=>v=au (some ⟨Q.heap.size,1,none⟩)|_=>False),
   jn [4] [5] (fun|[v]=>v=aa t.txt|_=>False),
   jn (aY 6) [6] (fun|[v]=>v=aK #[aN #[aa l.name,ab ae l.typ,ab ae l.prec],am bI]|_=>False),
   cV (aY 7) [7] (fun|[v]=>v=aK #[aN #[aa l.name,ab ae l.typ,ab ae l.prec],am bI]|_=>False),
   cV (aY 8) [8] (fun|[v]=>v=aN #[aa l.name,ab ae l.typ,ab ae l.prec]|_=>False),
   cV (aY 8) [9] (fun|[v]=>v=am bI|_=>False),
   GZ [] [aa ⟨#[]⟩,ab ae 0,ab ae 0] 11,
   tB [0,1,2,3,4,5,6,7,8,10] [] 10 (fun _=>[aa l.name,ab ae l.typ,ab ae l.prec]),
   cV (aY 12) [12] (fun|[v]=>v=am bI|_=>False)]
   [some 53,some 54,some 55,some 56,some 57,some 58,some 59,some 52,some 60,some 61,some 6,none,some 7] (fun _=>True) (Y.heap.size) (by kernel_rfl) (ag _) (by kernel_rfl) (by kernel_rfl) (by kernel_rfl) (fun j o h=>?srv6) (fun val Y2 N k G=>?fin6)
  case srv6=>
   have d1:j<13:=(aM.1 h).1
   rcases (show j=0\/j=1\/j=2\/j=3\/j=4\/j=5\/j=6\/j=7\/j=8\/j=9\/j=10\/j=11\/j=12 by omega) with rfl|rfl|rfl|rfl|rfl|rfl|rfl|rfl|rfl|rfl|rfl|rfl|rfl
   ·cases h
    refine bq rfl rfl (fun val E a d=>?_)
    have e0:=a.t 0 (au (some ⟨c.P,0,none⟩)) rfl
    exact ⟨_,fun X=>by simp [aP,go_sem,e0],rfl⟩
   ·cases h
    refine bq rfl rfl (fun val E a d=>?_)
    have f3:=a.t 53 (val 0) rfl
    have H:val 0=_:=d 0 (oz rfl)
    exact ⟨_,fun X=>by simp [aP,go_sem,f3,H],rfl⟩
   ·cases h
    refine bq rfl rfl (fun val E a d=>?_)
    have f4:=a.t 54 (val 1) rfl
    have u:val 1=_:=d 1 (oz rfl)
    exact ⟨_,fun X=>by simp [aP,go_sem,f4,u],rfl⟩
   ·cases h
    refine fI rfl rfl (fun _ _ _=>trivial) (fun val E X a B d=>?_)
    have f5:=a.t 55 (val 2) rfl
    have x:val 2=_:=d 2 (oz rfl)
    have g:=(b4.out.call B).p.bk.c 2 _ rfl
    exact ⟨_,by simp [aP,go_sem,f5,x,g],rfl⟩
   ·cases h
    refine bq rfl rfl (fun val E a d=>?_)
    have e3:=a.t 3 (au (some ⟨Q.heap.size,0,none⟩)) rfl
    exact ⟨_,fun X=>by simp [aP,go_sem,e3],rfl⟩
   ·cases h
    refine fI rfl rfl (fun _ _ _=>trivial) (fun val E X a B d=>?_)
    have f7:=a.t 57 (val 4) rfl
    have I:val 4=_:=d 4 (oz rfl)
    have g:=((b4.out.call B).b.at 1 _ _ rfl).c 1 _ rfl
    exact ⟨_,by simp [aP,go_sem,f7,I,g],rfl⟩
   ·cases h
    refine ka rfl rfl (fun _ _ _=>trivial) (fun val E X a B d=>?_)
    have f6:=a.t 56 (val 3) rfl
    have z:val 3=_:=d 3 (oz rfl)
    have f8:=a.t 58 (val 5) rfl
    have J:val 5=_:=d 5 (oz rfl)
    exact ⟨_,_,_,by simp [aP,go_sem,a.f,f6,z,f8,J] <;> rfl,HI.out X (b1.out.trans (B.mono b1.out.size)),rfl⟩
   ·cases h
    refine bq rfl rfl (fun val E a d=>?_)
    have f9:=a.t 59 (val 6) rfl
    have A:val 6=_:=d 6 (oz rfl)
    exact ⟨aK #[aN #[aa l.name,ab ae l.typ,ab ae l.prec],am bI],fun X=>by simp [aP,go_sem,f9,A],rfl⟩
   ·cases h
    refine bq rfl rfl (fun val E a d=>?_)
    have c3:=a.t 52 (val 7) rfl
    have s:val 7=_:=d 7 (oz rfl)
    exact ⟨_,fun X=>by simp [aP,go_sem,c3,s],rfl⟩
   ·cases h
    refine bq rfl rfl (fun val E a d=>?_)
    have c3:=a.t 52 (val 7) rfl
    have s:val 7=_:=d 7 (oz rfl)
    exact ⟨_,fun X=>by simp [aP,go_sem,c3,s],rfl⟩
   ·cases h
    exact qe rfl (fun _=>trivial) (trivial) 39 fun E X=>by simp [aP,go_sem]
   ·cases h
    refine mx rfl rfl (fun _=>trivial) fun val E X b a d M g=>?_
    have e6:=a.t 6 (val 10) rfl
    have g0:=a.t 60 (val 8) rfl
    have K:val 8=_:=d 8 (oz rfl)
    have z0:=g.c 0 (aa ⟨#[]⟩) rfl
    have f0:=g.f 0
    have z1:=g.c 1 (ab ae 0) rfl
    have f1:=g.f 1
    have z2:=g.c 2 (ab ae 0) rfl
    have f2:=g.f 2
    exact ⟨(((X.setCell ⟨b,0,none⟩ (aa l.name)).setCell ⟨b,1,none⟩ (ab ae l.typ)).setCell ⟨b,2,none⟩ (ab ae l.prec)),[aa l.name,ab ae l.typ,ab ae l.prec],by simp [aP,go_sem,M,e6,g0,K,z0,f0,z1,f1,z2,f2],((((PutTo.start g).more 0 (aa l.name)).more 1 (ab ae l.typ)).more 2 (ab ae l.prec)),rfl,trivial⟩
   ·cases h
    refine bq rfl rfl (fun val E a d=>?_)
    have g1:=a.t 61 (val 9) rfl
    have L:val 9=_:=d 9 (oz rfl)
    exact ⟨_,fun X=>by simp [aP,go_sem,g1,L],rfl⟩
  case fin6=>
   have H:val 0=_:=k 0 (by decide)
   have u:val 1=_:=k 1 (by decide)
   have x:val 2=_:=k 2 (by decide)
   have z:val 3=_:=k 3 (by decide)
   have I:val 4=_:=k 4 (by decide)
   have J:val 5=_:=k 5 (by decide)
   have A:val 6=_:=k 6 (by decide)
   have s:val 7=_:=k 7 (by decide)
   have K:val 8=_:=k 8 (by decide)
   have L:val 9=_:=k 9 (by decide)
   have a0:val 12=_:=k 12 (by decide)
   obtain ⟨e6,M,U,g,_⟩:=G.at_box 10 (by decide) rfl
   have T:Bk Y2 e6 [aa l.name,ab ae l.typ,ab ae l.prec]:=g
   have b5:=zq (b4.out.box G.bel U T)
   have b2:=zq (b1.out.trans (G.bel.mono b1.out.size))
   have i5:=T.lt
   have i2:=U
   clear k G g T U
   refine c9 _ _ ?_
   simp only [jD,cy,cB,ar,ap,M,H,u,x,z,I,J,A,s,K,L,a0]
   clear c9 M H u x z I J A s K L a0
   clear b4 b1 HI
   go_wp2_with fail
   rename_i K7 d0
   refine jN (w0:=Y2) [cV [] [0] (fun|[v]=>v=au (some ⟨c.P,0,none⟩)|_=>False),
    cV [0] [1] (fun|[v]=>v=au (some ⟨c.P,0,none⟩)|_=>False),
    cV [0,1] [2] (fun|[v]=>v=au (some ⟨c.P,2,none⟩)|_=>False),
    jn (aY 3) [3] (fun|[v]=>v=.slice c.OA c.on c.oc|_=>False),
    cV [] [4] (fun|[v]=>v=au (some ⟨Q.heap.size,1,none⟩)|_=>False),
    jn [4] [5] (fun|[v]=>v=aa t.txt|_=>False),
    jn (aY 6) [6] (fun|[v]=>v=aK #[aN #[aa m.name,ab ae m.typ,ab ae m.prec],am bO]|_=>False),
    cV (aY 7) [7] (fun|[v]=>v=aK #[aN #[aa m.name,ab ae m.typ,ab ae m.prec],am bO]|_=>False),
    cV (aY 8) [8] (fun|[v]=>v=aN #[aa m.name,ab ae m.typ,ab ae m.prec]|_=>False),
    cV (aY 8) [9] (fun|[v]=>v=am bO|_=>False),
    GZ [] [aa ⟨#[]⟩,ab ae 0,ab ae 0] 11,
    tB [0,1,2,3,4,5,6,7,8,10] [] 10 (fun _=>[aa m.name,ab ae m.typ,ab ae m.prec]),
    cV (aY 12) [12] (fun|[v]=>v=am bO|_=>False)]
    [some 63,some 64,some 65,some 66,some 67,some 68,some 69,some 62,some 70,some 71,some 8,none,some 9] (fun _=>True) (Y2.heap.size) (by kernel_rfl) (ag _) (by kernel_rfl) (by kernel_rfl) (by kernel_rfl) (fun j o h=>?srv7) (fun val Y3 N k G=>?fin7)
   case srv7=>
    have d1:j<13:=(aM.1 h).1
    rcases (show j=0\/j=1\/j=2\/j=3\/j=4\/j=5\/j=6\/j=7\/j=8\/j=9\/j=10\/j=11\/j=12 by omega) with rfl|rfl|rfl|rfl|rfl|rfl|rfl|rfl|rfl|rfl|rfl|rfl|rfl
    ·cases h
     refine bq rfl rfl (fun val E a d=>?_)
     have e0:=a.t 0 (au (some ⟨c.P,0,none⟩)) rfl
     exact ⟨_,fun X=>by simp [aP,go_sem,e0],rfl⟩
    ·cases h
     refine bq rfl rfl (fun val E a d=>?_)
     have g2:=a.t 63 (val 0) rfl
     have H:val 0=_:=d 0 (oz rfl)
     exact ⟨_,fun X=>by simp [aP,go_sem,g2,H],rfl⟩
    ·cases h
     refine bq rfl rfl (fun val E a d=>?_)
     have g3:=a.t 64 (val 1) rfl
     have u:val 1=_:=d 1 (oz rfl)
     exact ⟨_,fun X=>by simp [aP,go_sem,g3,u],rfl⟩
    ·cases h
     refine fI rfl rfl (fun _ _ _=>trivial) (fun val E X a B d=>?_)
     have g4:=a.t 65 (val 2) rfl
     have x:val 2=_:=d 2 (oz rfl)
     have g:=(b5.out.call B).p.bk.c 2 _ rfl
     exact ⟨_,by simp [aP,go_sem,g4,x,g],rfl⟩
    ·cases h
     refine bq rfl rfl (fun val E a d=>?_)
     have e3:=a.t 3 (au (some ⟨Q.heap.size,0,none⟩)) rfl
     exact ⟨_,fun X=>by simp [aP,go_sem,e3],rfl⟩
    ·cases h
     refine fI rfl rfl (fun _ _ _=>trivial) (fun val E X a B d=>?_)
     have g6:=a.t 67 (val 4) rfl
     have I:val 4=_:=d 4 (oz rfl)
     have g:=((b5.out.call B).b.at 2 _ _ rfl).c 1 _ rfl
     exact ⟨_,by simp [aP,go_sem,g6,I,g],rfl⟩
    ·cases h
     refine ka rfl rfl (fun _ _ _=>trivial) (fun val E X a B d=>?_)
     have g5:=a.t 66 (val 3) rfl
     have z:val 3=_:=d 3 (oz rfl)
     have g7:=a.t 68 (val 5) rfl
     have J:val 5=_:=d 5 (oz rfl)
     exact ⟨_,_,_,by simp [aP,go_sem,a.f,g5,z,g7,J] <;> rfl,HO.out X (b2.out.trans (B.mono b2.out.size)),rfl⟩
    ·cases h
     refine bq rfl rfl (fun val E a d=>?_)
     have g8:=a.t 69 (val 6) rfl
     have A:val 6=_:=d 6 (oz rfl)
     exact ⟨aK #[aN #[aa m.name,ab ae m.typ,ab ae m.prec],am bO],fun X=>by simp [aP,go_sem,g8,A],rfl⟩
    ·cases h
     refine bq rfl rfl (fun val E a d=>?_)
     have c4:=a.t 62 (val 7) rfl
     have s:val 7=_:=d 7 (oz rfl)
     exact ⟨_,fun X=>by simp [aP,go_sem,c4,s],rfl⟩
    ·cases h
     refine bq rfl rfl (fun val E a d=>?_)
     have c4:=a.t 62 (val 7) rfl
     have s:val 7=_:=d 7 (oz rfl)
     exact ⟨_,fun X=>by simp [aP,go_sem,c4,s],rfl⟩
    ·cases h
     exact qe rfl (fun _=>trivial) (trivial) 39 fun E X=>by simp [aP,go_sem]
    ·cases h
     refine mx rfl rfl (fun _=>trivial) fun val E X b a d M g=>?_
     have e8:=a.t 8 (val 10) rfl
     have g9:=a.t 70 (val 8) rfl
     have K:val 8=_:=d 8 (oz rfl)
     have z0:=g.c 0 (aa ⟨#[]⟩) rfl
     have f0:=g.f 0
     have z1:=g.c 1 (ab ae 0) rfl
     have f1:=g.f 1
     have z2:=g.c 2 (ab ae 0) rfl
     have f2:=g.f 2
     exact ⟨(((X.setCell ⟨b,0,none⟩ (aa m.name)).setCell ⟨b,1,none⟩ (ab ae m.typ)).setCell ⟨b,2,none⟩ (ab ae m.prec)),[aa m.name,ab ae m.typ,ab ae m.prec],by simp [aP,go_sem,M,e8,g9,K,z0,f0,z1,f1,z2,f2],((((PutTo.start g).more 0 (aa m.name)).more 1 (ab ae m.typ)).more 2 (ab ae m.prec)),rfl,trivial⟩
    ·cases h
     refine bq rfl rfl (fun val E a d=>?_)
     have i0:=a.t 71 (val 9) rfl
     have L:val 9=_:=d 9 (oz rfl)
     exact ⟨_,fun X=>by simp [aP,go_sem,i0,L],rfl⟩
   case fin7=>
    have H:val 0=_:=k 0 (by decide)
    have u:val 1=_:=k 1 (by decide)
    have x:val 2=_:=k 2 (by decide)
    have z:val 3=_:=k 3 (by decide)
    have I:val 4=_:=k 4 (by decide)
    have J:val 5=_:=k 5 (by decide)
    have A:val 6=_:=k 6 (by decide)
    have s:val 7=_:=k 7 (by decide)
    have K:val 8=_:=k 8 (by decide)
    have L:val 9=_:=k 9 (by decide)
    have a0:val 12=_:=k 12 (by decide)
    obtain ⟨e7,M,U,g,_⟩:=G.at_box 10 (by decide) rfl
    have T:Bk Y3 e7 [aa m.name,ab ae m.typ,ab ae m.prec]:=g
    have d3:=zq (b5.out.box G.bel U T)
    have d2:=zq (b2.out.trans (G.bel.mono b2.out.size))
    have i6:=T.lt
    have i3:=U
    clear k G g T U
    refine d0 _ _ ?_
    simp only [jD,cy,cB,ar,ap,M,H,u,x,z,I,J,A,s,K,L,a0]
    clear d0 M H u x z I J A s K L a0
    clear b5 b2 HO
    cases bP <;> cases bI
    all_goals
     clear d3
     go_wp2_with fail
     go_ret
     exact ⟨by rw [HE.out];rfl,d2.out⟩
theorem zf {c:PC} {n:Nat} {v:VS} {nv:Value} {w:World} (p:PsAt c n v nv w):aJ ah 90 #[au (some ⟨c.P,0,none⟩)] w fun e w'=>e=aw (aK #[kZ (hQ c.E n).1,am (hQ c.E n).2])/\ax w.heap.size w w':=by
 obtain ⟨g,b7⟩:=lz ((dt c.E.P (c.E.at n).txt 2).getD op0)
 obtain ⟨H,b5⟩:=lz (lJ c.E.P (c.E.at n).txt 2)
 have HI:Hid (∀X,ax w.heap.size w X->aJ ah 132 #[.slice c.OA c.on c.oc,aa (c.E.at n).txt] X fun e w'=>e=aw (aK #[aN #[aa g.name,ab ae g.typ,ab ae g.prec],am H])/\ax X.heap.size X w'):=zq fun X hX=>by
  rw [b7.out,b5.out];exact oT c.OA c.on c.oc c.E.P (c.E.at n).txt X p.ok.opl (by have:=p.ok.few;omega) (p.ops.below hX)
 obtain ⟨k,b8⟩:=lz ((dt c.E.P (c.E.at n).txt 3).getD op0)
 obtain ⟨D,b6⟩:=lz (lJ c.E.P (c.E.at n).txt 3)
 have HO:Hid (∀X,ax w.heap.size w X->aJ ah 133 #[.slice c.OA c.on c.oc,aa (c.E.at n).txt] X fun e w'=>e=aw (aK #[aN #[aa k.name,ab ae k.typ,ab ae k.prec],am D])/\ax X.heap.size X w'):=zq fun X hX=>by
  rw [b8.out,b6.out];exact lZ c.OA c.on c.oc c.E.P (c.E.at n).txt X p.ok.opl (by have:=p.ok.few;omega) (p.ops.below hX)
 have b9:=zq (kc (p.call ((aj w.heap.size w).alloc (ag _) (.cells #[aa ⟨#[]⟩,ab ae 0,ab ae 0] 39))) 0 (by decide))
 have a4:=zq fun W=>sK (c.E.at n) W
 have a5:=zq fun W=>jm (c.E.at n) ⟨#[44]⟩ W
 have a7:=zq fun W=>jm (c.E.at n) ⟨#[124]⟩ W
 rw [show isP (c.E.at n) (⟨#[44]⟩:ByteArray).data.toList=isP (c.E.at n) [44] from rfl] at a5
 rw [show isP (c.E.at n) (⟨#[124]⟩:ByteArray).data.toList=isP (c.E.at n) [124] from rfl] at a7
 obtain ⟨R,HR⟩:=lz (hQ c.E n)
 have V:Hid (R=if (!ge (c.E.at n)&&(!isP (c.E.at n) [44] && !isP (c.E.at n) [124]))=true then (op0,false) else if H=true then (g,true) else (k,D)):=zq (by rw [HR.out,b5.out,b6.out,b7.out,b8.out];rfl)
 have b0:=zq ((Wk.start p).new [aa ⟨#[]⟩,ab ae 0,ab ae 0] 39 rfl)
 have a9:=zq ((aj w.heap.size w).alloc (ag _) (.cells #[aa ⟨#[]⟩,ab ae 0,ab ae 0] 39))
 rw [<-HR.out]
 rw [bv] at b9
 clear b7 b8 b5 b6 HR p
 generalize c.E.at n=t at *
 unfold qY kZ at *
 generalize ge t=nm at *
 generalize isP t [44]=u1 at *
 generalize isP t [124]=u2 at *
 have f9:(nm=false/\u1=false/\u2=false)\/nm=true\/(nm=false/\u1=true)\/(nm=false/\u1=false/\u2=true):=by cases nm <;> cases u1 <;> cases u2 <;> simp
 rcases f9 with ⟨rfl,rfl,rfl⟩ | h
 ·have HV:Hid (R=(op0,false)):=V
  rw [HV.out]
  clear V HI HO
  go_enter Tryz.func90,Tryz.ntmps90
  go_wp2_with fail
  refine b9.out.mono ?_;rintro e w1 ⟨rfl,U⟩
  have G:=zq ((b0.out.call U).new [ab ae t.r.kind,aa t.txt,ab ae t.r.n,ab ae t.r.at_,ab ae t.r.end_,am t.lay] 83 rfl)
  have Z:=zq ((a9.out.trans (U.mono (by simp))).alloc (aI (by simp) U.size) (.cells #[ab ae t.r.kind,aa t.txt,ab ae t.r.n,ab ae t.r.at_,ab ae t.r.end_,am t.lay] 83))
  clear U b0 a9
  have a8:=G.out.b.all
  simp only [PC.cells,ak,an,aA,aU,bd,ap,ar,and_true] at a8
  go_wp2_with fail
  refine (a4.out _).mono ?_;rintro e w2 ⟨rfl,u⟩
  have s:=bz Z u
  have q:=zq (G.out.call u)
  clear u G a8 Z a4
  have F:=q.out.b.all
  simp only [PC.cells,ak,an,aA,aU,bd,ap,ar,and_true] at F
  go_wp2_with fail
  refine (a5.out _).mono ?_;rintro e w3 ⟨rfl,B⟩
  have a0:=bz s B
  have C:=zq (q.out.call B)
  clear B q F s a5
  have a1:=C.out.b.all
  simp only [PC.cells,ak,an,aA,aU,bd,ap,ar,and_true] at a1
  go_wp2_with fail
  refine (a7.out _).mono ?_;rintro e w4 ⟨rfl,a2⟩
  have b4:=bz a0 a2
  have b1:=zq (C.out.call a2)
  clear a2 C a1 a0 a7
  have b3:=b1.out.b.all
  simp only [PC.cells,ak,an,aA,aU,bd,ap,ar,and_true] at b3
  go_wp2_with fail
  refine ay (v:=aK #[aN #[aa ⟨#[]⟩,ab ae 0,ab ae 0],am false]) (by simp [results,Tryz.results90,go_sem,b3]) rfl ⟨rfl,?_⟩
  exact ((b4.out.setCell (ag _) _).setCell (ag _) _).setCell (ag _) _
 replace V:Hid (R=if H=true then (g,true) else (k,D)):=zq (V.out.trans (if_neg (by rcases h with rfl | ⟨rfl,rfl⟩ | ⟨rfl,rfl,rfl⟩ <;> simp)))
 go_enter Tryz.func90,Tryz.ntmps90
 go_wp2_with fail
 refine b9.out.mono ?_;rintro e w1 ⟨rfl,U⟩
 have G:=zq ((b0.out.call U).new [ab ae t.r.kind,aa t.txt,ab ae t.r.n,ab ae t.r.at_,ab ae t.r.end_,am t.lay] 83 rfl)
 have Z:=zq ((a9.out.trans (U.mono (by simp))).alloc (aI (by simp) U.size) (.cells #[ab ae t.r.kind,aa t.txt,ab ae t.r.n,ab ae t.r.at_,ab ae t.r.end_,am t.lay] 83))
 clear U b0 a9
 have a8:=G.out.b.all
 simp only [PC.cells,ak,an,aA,aU,bd,ap,ar,and_true] at a8
 go_upto_region 2 with fail
 go_cut [21] from 9 to 21 (fun x wc=>x=am false/\Hid (ax w.heap.size w wc)/\Hid (Wk c n v nv w nv wc [(w1.heap.size,[ab ae t.r.kind,aa t.txt,ab ae t.r.n,ab ae t.r.at_,ab ae t.r.end_,am t.lay]),(w.heap.size,[aa ⟨#[]⟩,ab ae 0,ab ae 0])]))
 case first=>
  rcases h with rfl | ⟨rfl,rfl⟩ | ⟨rfl,rfl,rfl⟩
  ·skip
   go_wp2_with fail
   refine (a4.out _).mono ?_;rintro e w2 ⟨rfl,u⟩
   have s:=bz Z u
   have q:=zq (G.out.call u)
   clear u
   have F:=q.out.b.all
   simp only [PC.cells,ak,an,aA,aU,bd,ap,ar,and_true] at F
   go_wp2_with fail
   go_meet
   exact ⟨rfl,s,q⟩
  ·skip
   go_wp2_with fail
   refine (a4.out _).mono ?_;rintro e w2 ⟨rfl,u⟩
   have s:=bz Z u
   have q:=zq (G.out.call u)
   clear u
   have F:=q.out.b.all
   simp only [PC.cells,ak,an,aA,aU,bd,ap,ar,and_true] at F
   go_wp2_with fail
   refine (a5.out _).mono ?_;rintro e w3 ⟨rfl,B⟩
   have a0:=bz s B
   have C:=zq (q.out.call B)
   clear B q F s
   have a1:=C.out.b.all
   simp only [PC.cells,ak,an,aA,aU,bd,ap,ar,and_true] at a1
   go_wp2_with fail
   go_meet
   exact ⟨rfl,a0,C⟩
  ·skip
   go_wp2_with fail
   refine (a4.out _).mono ?_;rintro e w2 ⟨rfl,u⟩
   have s:=bz Z u
   have q:=zq (G.out.call u)
   clear u
   have F:=q.out.b.all
   simp only [PC.cells,ak,an,aA,aU,bd,ap,ar,and_true] at F
   go_wp2_with fail
   refine (a5.out _).mono ?_;rintro e w3 ⟨rfl,B⟩
   have a0:=bz s B
   have C:=zq (q.out.call B)
   clear B q F s
   have a1:=C.out.b.all
   simp only [PC.cells,ak,an,aA,aU,bd,ap,ar,and_true] at a1
   go_wp2_with fail
   refine (a7.out _).mono ?_;rintro e w4 ⟨rfl,a2⟩
   have b4:=bz a0 a2
   have b1:=zq (C.out.call a2)
   clear a2 C a1 a0
   have b3:=b1.out.b.all
   simp only [PC.cells,ak,an,aA,aU,bd,ap,ar,and_true] at b3
   go_wp2_with fail
   go_meet
   exact ⟨rfl,b4,b1⟩
 case rest=>
  obtain ⟨rfl,s,q⟩:=hcut
  clear a4 a5 a7 h Z G a8
  go_wp2_with fail
  rename_i K5 c8
  refine jN (w0:=wc) [cV [] [0] (fun|[v]=>v=au (some ⟨c.P,0,none⟩)|_=>False),
   cV [0] [1] (fun|[v]=>v=au (some ⟨c.P,0,none⟩)|_=>False),
   cV [0,1] [2] (fun|[v]=>v=au (some ⟨c.P,2,none⟩)|_=>False),
   jn (aY 3) [3] (fun|[v]=>v=.slice c.OA c.on c.oc|_=>False),
   cV [] [4] (fun|[v]=>v=au (some ⟨w1.heap.size,1,none⟩)|_=>False),
   jn [4] [5] (fun|[v]=>v=aa t.txt|_=>False),
   jn (aY 6) [6] (fun|[v]=>v=aK #[aN #[aa g.name,ab ae g.typ,ab ae g.prec],am H]|_=>False),
   cV (aY 7) [7] (fun|[v]=>v=aK #[aN #[aa g.name,ab ae g.typ,ab ae g.prec],am H]|_=>False),
   cV (aY 8) [8] (fun|[v]=>v=aN #[aa g.name,ab ae g.typ,ab ae g.prec]|_=>False),
   cV (aY 8) [9] (fun|[v]=>v=am H|_=>False),
   GZ [] [aa ⟨#[]⟩,ab ae 0,ab ae 0] 11,
   tB [0,1,2,3,4,5,6,7,8,10] [] 10 (fun _=>[aa g.name,ab ae g.typ,ab ae g.prec]),
   cV (aY 12) [12] (fun|[v]=>v=am H|_=>False)]
   [some 24,some 25,some 26,some 27,some 28,some 29,some 30,some 23,some 31,some 32,some 5,none,some 6] (fun _=>True) (wc.heap.size) (by kernel_rfl) (ag _) (by kernel_rfl) (by kernel_rfl) (by kernel_rfl) (fun j o i=>?srv5) (fun val Y N m HF=>?fin5)
  case srv5=>
   have g1:j<13:=(aM.1 i).1
   rcases (show j=0\/j=1\/j=2\/j=3\/j=4\/j=5\/j=6\/j=7\/j=8\/j=9\/j=10\/j=11\/j=12 by omega) with rfl|rfl|rfl|rfl|rfl|rfl|rfl|rfl|rfl|rfl|rfl|rfl|rfl
   ·cases i
    refine bq rfl rfl (fun val E a d=>?_)
    have e0:=a.t 0 (au (some ⟨c.P,0,none⟩)) rfl
    exact ⟨_,fun X=>by simp [aP,go_sem,e0],rfl⟩
   ·cases i
    refine bq rfl rfl (fun val E a d=>?_)
    have d4:=a.t 24 (val 0) rfl
    have I:val 0=_:=d 0 (oz rfl)
    exact ⟨_,fun X=>by simp [aP,go_sem,d4,I],rfl⟩
   ·cases i
    refine bq rfl rfl (fun val E a d=>?_)
    have d5:=a.t 25 (val 1) rfl
    have J:val 1=_:=d 1 (oz rfl)
    exact ⟨_,fun X=>by simp [aP,go_sem,d5,J],rfl⟩
   ·cases i
    refine fI rfl rfl (fun _ _ _=>trivial) (fun val E X a A d=>?_)
    have d6:=a.t 26 (val 2) rfl
    have K:val 2=_:=d 2 (oz rfl)
    have l:=(q.out.call A).p.bk.c 2 _ rfl
    exact ⟨_,by simp [aP,go_sem,d6,K,l],rfl⟩
   ·cases i
    refine bq rfl rfl (fun val E a d=>?_)
    have e4:=a.t 4 (au (some ⟨w1.heap.size,0,none⟩)) rfl
    exact ⟨_,fun X=>by simp [aP,go_sem,e4],rfl⟩
   ·cases i
    refine fI rfl rfl (fun _ _ _=>trivial) (fun val E X a A d=>?_)
    have d8:=a.t 28 (val 4) rfl
    have M:val 4=_:=d 4 (oz rfl)
    have l:=((q.out.call A).b.at 0 _ _ rfl).c 1 _ rfl
    exact ⟨_,by simp [aP,go_sem,d8,M,l],rfl⟩
   ·cases i
    refine ka rfl rfl (fun _ _ _=>trivial) (fun val E X a A d=>?_)
    have d7:=a.t 27 (val 3) rfl
    have L:val 3=_:=d 3 (oz rfl)
    have d9:=a.t 29 (val 5) rfl
    have O:val 5=_:=d 5 (oz rfl)
    exact ⟨_,_,_,by simp [aP,go_sem,a.f,d7,L,d9,O] <;> rfl,HI.out X (s.out.trans (A.mono s.out.size)),rfl⟩
   ·cases i
    refine bq rfl rfl (fun val E a d=>?_)
    have e1:=a.t 30 (val 6) rfl
    have Q:val 6=_:=d 6 (oz rfl)
    exact ⟨aK #[aN #[aa g.name,ab ae g.typ,ab ae g.prec],am H],fun X=>by simp [aP,go_sem,e1,Q],rfl⟩
   ·cases i
    refine bq rfl rfl (fun val E a d=>?_)
    have c1:=a.t 23 (val 7) rfl
    have y:val 7=_:=d 7 (oz rfl)
    exact ⟨_,fun X=>by simp [aP,go_sem,c1,y],rfl⟩
   ·cases i
    refine bq rfl rfl (fun val E a d=>?_)
    have c1:=a.t 23 (val 7) rfl
    have y:val 7=_:=d 7 (oz rfl)
    exact ⟨_,fun X=>by simp [aP,go_sem,c1,y],rfl⟩
   ·cases i
    exact qe rfl (fun _=>trivial) (trivial) 39 fun E X=>by simp [aP,go_sem]
   ·cases i
    refine mx rfl rfl (fun _=>trivial) fun val E X b a d hb l=>?_
    have z:=a.t 5 (val 10) rfl
    have e2:=a.t 31 (val 8) rfl
    have S:val 8=_:=d 8 (oz rfl)
    have z0:=l.c 0 (aa ⟨#[]⟩) rfl
    have f0:=l.f 0
    have z1:=l.c 1 (ab ae 0) rfl
    have f1:=l.f 1
    have z2:=l.c 2 (ab ae 0) rfl
    have f2:=l.f 2
    exact ⟨(((X.setCell ⟨b,0,none⟩ (aa g.name)).setCell ⟨b,1,none⟩ (ab ae g.typ)).setCell ⟨b,2,none⟩ (ab ae g.prec)),[aa g.name,ab ae g.typ,ab ae g.prec],by simp [aP,go_sem,hb,z,e2,S,z0,f0,z1,f1,z2,f2],((((PutTo.start l).more 0 (aa g.name)).more 1 (ab ae g.typ)).more 2 (ab ae g.prec)),rfl,trivial⟩
   ·cases i
    refine bq rfl rfl (fun val E a d=>?_)
    have e3:=a.t 32 (val 9) rfl
    have T:val 9=_:=d 9 (oz rfl)
    exact ⟨_,fun X=>by simp [aP,go_sem,e3,T],rfl⟩
  case fin5=>
   have I:val 0=_:=m 0 (by decide)
   have J:val 1=_:=m 1 (by decide)
   have K:val 2=_:=m 2 (by decide)
   have L:val 3=_:=m 3 (by decide)
   have M:val 4=_:=m 4 (by decide)
   have O:val 5=_:=m 5 (by decide)
   have Q:val 6=_:=m 6 (by decide)
   have y:val 7=_:=m 7 (by decide)
   have S:val 8=_:=m 8 (by decide)
   have T:val 9=_:=m 9 (by decide)
   have c6:val 12=_:=m 12 (by decide)
   obtain ⟨z,hb,hl,l,_⟩:=HF.at_box 10 (by decide) rfl
   have c3:Bk Y z [aa g.name,ab ae g.typ,ab ae g.prec]:=l
   have b2:=zq (q.out.box HF.bel hl c3)
   have a6:=zq (s.out.trans (HF.bel.mono s.out.size))
   have g3:=c3.lt
   have g0:=hl
   clear m HF l c3 hl
   refine c8 _ _ ?_
   simp only [jD,cy,cB,ar,ap,hb,I,J,K,L,M,O,Q,y,S,T,c6]
   clear c8 hb I J K L M O Q y S T c6
   have d1:=zq s.out.size
   clear q s HI
   have c0:=b2.out.b.all
   simp only [PC.cells,ak,an,aA,aU,bd,ap,ar,and_true] at c0
   cases H
   rotate_left
   ·have HV:Hid (R=(g,true)):=V
    clear V HO
    go_wp2_with fail
    refine ay (v:=aK #[aN #[aa g.name,ab ae g.typ,ab ae g.prec],am true]) (by simp [results,Tryz.results90,go_sem,c0]) rfl ⟨?_,?_⟩
    ·rw [HV.out]
    ·exact ((a6.out.setCell (ag _) _).setCell (ag _) _).setCell (ag _) _
   have HV:Hid (R=(k,D)):=V
   clear V c0
   go_wp2_with fail
   have a3:Hid (w.heap.size<=z):=zq (aI d1.out g0)
   rename_i K7 c9
   refine sb (w0:=Y) [cV [] [0] (fun|[v]=>v=au (some ⟨c.P,0,none⟩)|_=>False),
    cV [0] [1] (fun|[v]=>v=au (some ⟨c.P,0,none⟩)|_=>False),
    cV [0,1] [2] (fun|[v]=>v=au (some ⟨c.P,2,none⟩)|_=>False),
    jn (aY 3) [3] (fun|[v]=>v=.slice c.OA c.on c.oc|_=>False),
    cV [] [4] (fun|[v]=>v=au (some ⟨w1.heap.size,1,none⟩)|_=>False),
    jn [4] [5] (fun|[v]=>v=aa t.txt|_=>False),
    jn (aY 6) [6] (fun|[v]=>v=aK #[aN #[aa k.name,ab ae k.typ,ab ae k.prec],am D]|_=>False),
    cV (aY 7) [7] (fun|[v]=>v=aK #[aN #[aa k.name,ab ae k.typ,ab ae k.prec],am D]|_=>False),
    cV (aY 8) [8] (fun|[v]=>v=aN #[aa k.name,ab ae k.typ,ab ae k.prec]|_=>False),
    cV (aY 8) [9] (fun|[v]=>v=am D|_=>False),
    Lw (aY 9) [] (fun _=>True),
    cV (aY 11) [11] (fun|[v]=>v=am D|_=>False)]
    [some 36,some 37,some 38,some 39,some 40,some 41,some 42,some 35,some 43,some 44,none,some 6] (fun _=>True) (Y.heap.size) 10 (fun _ X=>Hid (ax w.heap.size w X/\Wk c n v nv w nv X ((z,[aa k.name,ab ae k.typ,ab ae k.prec])::[(w1.heap.size,[ab ae t.r.kind,aa t.txt,ab ae t.r.n,ab ae t.r.at_,ab ae t.r.end_,am t.lay]),(w.heap.size,[aa ⟨#[]⟩,ab ae 0,ab ae 0])]))) (by kernel_rfl) (ag _) (by kernel_rfl) (by kernel_rfl) ⟨by decide,rfl⟩ (fun j o i=>?srv7) (fun val Y m HF=>?fin7)
   case srv7=>
    have g1:j<12:=(aM.1 i).1
    rcases (show j=0\/j=1\/j=2\/j=3\/j=4\/j=5\/j=6\/j=7\/j=8\/j=9\/j=10\/j=11 by omega) with rfl|rfl|rfl|rfl|rfl|rfl|rfl|rfl|rfl|rfl|rfl|rfl
    ·cases i
     refine bq rfl rfl (fun val E a d=>?_)
     have e0:=a.t 0 (au (some ⟨c.P,0,none⟩)) rfl
     exact ⟨_,fun X=>by simp [aP,go_sem,e0],rfl⟩
    ·cases i
     refine bq rfl rfl (fun val E a d=>?_)
     have e6:=a.t 36 (val 0) rfl
     have I:val 0=_:=d 0 (oz rfl)
     exact ⟨_,fun X=>by simp [aP,go_sem,e6,I],rfl⟩
    ·cases i
     refine bq rfl rfl (fun val E a d=>?_)
     have e7:=a.t 37 (val 1) rfl
     have J:val 1=_:=d 1 (oz rfl)
     exact ⟨_,fun X=>by simp [aP,go_sem,e7,J],rfl⟩
    ·cases i
     refine fI rfl rfl (fun _ _ _=>trivial) (fun val E X a A d=>?_)
     have e8:=a.t 38 (val 2) rfl
     have K:val 2=_:=d 2 (oz rfl)
     have l:=(b2.out.call A).p.bk.c 2 _ rfl
     exact ⟨_,by simp [aP,go_sem,e8,K,l],rfl⟩
    ·cases i
     refine bq rfl rfl (fun val E a d=>?_)
     have e4:=a.t 4 (au (some ⟨w1.heap.size,0,none⟩)) rfl
     exact ⟨_,fun X=>by simp [aP,go_sem,e4],rfl⟩
    ·cases i
     refine fI rfl rfl (fun _ _ _=>trivial) (fun val E X a A d=>?_)
     have f3:=a.t 40 (val 4) rfl
     have M:val 4=_:=d 4 (oz rfl)
     have l:=((b2.out.call A).b.at 1 _ _ rfl).c 1 _ rfl
     exact ⟨_,by simp [aP,go_sem,f3,M,l],rfl⟩
    ·cases i
     refine ka rfl rfl (fun _ _ _=>trivial) (fun val E X a A d=>?_)
     have e9:=a.t 39 (val 3) rfl
     have L:val 3=_:=d 3 (oz rfl)
     have f4:=a.t 41 (val 5) rfl
     have O:val 5=_:=d 5 (oz rfl)
     exact ⟨_,_,_,by simp [aP,go_sem,a.f,e9,L,f4,O] <;> rfl,HO.out X (a6.out.trans (A.mono a6.out.size)),rfl⟩
    ·cases i
     refine bq rfl rfl (fun val E a d=>?_)
     have f5:=a.t 42 (val 6) rfl
     have Q:val 6=_:=d 6 (oz rfl)
     exact ⟨aK #[aN #[aa k.name,ab ae k.typ,ab ae k.prec],am D],fun X=>by simp [aP,go_sem,f5,Q],rfl⟩
    ·cases i
     refine bq rfl rfl (fun val E a d=>?_)
     have c2:=a.t 35 (val 7) rfl
     have y:val 7=_:=d 7 (oz rfl)
     exact ⟨_,fun X=>by simp [aP,go_sem,c2,y],rfl⟩
    ·cases i
     refine bq rfl rfl (fun val E a d=>?_)
     have c2:=a.t 35 (val 7) rfl
     have y:val 7=_:=d 7 (oz rfl)
     exact ⟨_,fun X=>by simp [aP,go_sem,c2,y],rfl⟩
    ·cases i
     refine yG rfl rfl fun val E X N a hC d hc _=>?_
     have S:val 8=_:=d 8 (oz rfl)
     have f8:E (.tmp 5)=au (some ⟨z,0,none⟩):=by rw [a.eq];rfl
     have f6:=a.t 43 (val 8) rfl
     have hq:=b2.out.call hC.bel
     have l:=hq.b.at 0 _ _ rfl
     have g2:=l.lt
     have z0:=l.c 0 _ rfl
     have f0:=l.f 0
     have z1:=l.c 1 _ rfl
     have f1:=l.f 1
     have z2:=l.c 2 _ rfl
     have f2:=l.f 2
     have hX:=a6.out.trans (hC.bel.mono a6.out.size)
     exact .inr (.inl ⟨(((X.setCell ⟨z,0,none⟩ (aa k.name)).setCell ⟨z,1,none⟩ (ab ae k.typ)).setCell ⟨z,2,none⟩ (ab ae k.prec)),by simp [aP,go_sem,f8,f6,S,z0,f0,z1,f1,z2,f2],trivial,zq ⟨((hX.setCell (p:=⟨z,0,none⟩) a3.out _).setCell (p:=⟨z,1,none⟩) a3.out _).setCell (p:=⟨z,2,none⟩) a3.out _,((hq.put 0 0 rfl _ a3.out).put 0 1 rfl _ a3.out).put 0 2 rfl _ a3.out⟩⟩)
    ·cases i
     refine bq rfl rfl (fun val E a d=>?_)
     have f7:=a.t 44 (val 9) rfl
     have T:val 9=_:=d 9 (oz rfl)
     exact ⟨_,fun X=>by simp [aP,go_sem,f7,T],rfl⟩
   case fin7=>
    have I:val 0=_:=m 0 (by decide)
    have J:val 1=_:=m 1 (by decide)
    have K:val 2=_:=m 2 (by decide)
    have L:val 3=_:=m 3 (by decide)
    have M:val 4=_:=m 4 (by decide)
    have O:val 5=_:=m 5 (by decide)
    have Q:val 6=_:=m 6 (by decide)
    have y:val 7=_:=m 7 (by decide)
    have S:val 8=_:=m 8 (by decide)
    have T:val 9=_:=m 9 (by decide)
    have c5:val 11=_:=m 11 (by decide)
    obtain ⟨c7,d0⟩:=Hid.out HF
    have d2:=zq c7
    have d3:=zq d0
    clear m HF c7 d0
    refine c9 _ _ ?_
    simp only [jD,cy,cB,ar,ap,I,J,K,L,M,O,Q,y,S,T,c5]
    clear c9 I J K L M O Q y S T c5
    have c4:=d3.out.b.all
    simp only [PC.cells,ak,an,aA,aU,bd,ap,ar,and_true] at c4
    go_wp2_with fail
    refine ay (v:=aK #[aN #[aa k.name,ab ae k.typ,ab ae k.prec],am D]) (by simp [results,Tryz.results90,go_sem,c4]) rfl ⟨?_,?_⟩
    ·rw [HV.out]
    ·exact ((d2.out.setCell (ag _) _).setCell (ag _) _).setCell (ag _) _
end Go.Proofs.YtlikcjbjibhjgaaGreatDoor
