/- Parts of the proof. -/
import Derived.Test.YtbojljpldcijgaaGreatR01
import Derived.Test.YtbojljpldcijgaaGreatR24
import Derived.Test.YtbojljpldcijgaaGreatR13
import Derived.Shelf.SlSortCmp.QuietGrown
import Derived.Test.YtbojljpldcijgaaGreatR15
set_option maxHeartbeats 12800000
set_option maxRecDepth 100000
set_option linter.unusedSimpArgs false
open Exists renaming intro -> eY
open Go renaming Calls -> aU, World -> au, bodyPost_ret -> aw, cell_grown -> gX, wpQuiet_nil -> gj, wp_region_quiet_grown -> dy
open Go.Act renaming put -> bu
open Go.Calls renaming grown_of -> ep
open Go.Ending renaming returned -> aD
open Go.IntKind renaming i64 -> ab
open Go.IntWalk renaming wrap64_in -> cg
open Go.Proofs.Tryz renaming prog -> am
open Go.Region renaming wanted -> ev
open Go.RowKit renaming Below -> aB
open Go.RowKit.Below renaming alloc -> cR, refl -> ap, setCell -> ch
open Go.Sort renaming grow -> dm
open Go.Value renaming agg -> aV, bool -> av, int -> aa, pointer -> ar, string -> ac, tuple -> aJ
open List renaming append_nil -> aj, cons_append -> ag, nil_append -> ai, setIfInBounds_toArray -> ay, set_cons_succ -> ao, set_cons_zero -> an
open Nat renaming add_zero -> bj, le_refl -> ae, lt_of_lt_of_le -> aA, lt_or_ge -> dn, reduceAdd -> af, zero_add -> ah, zero_le -> bc
namespace Go.Proofs.YtbojljpldcijgaaGreat
open Go.RowKit Hb
theorem xQ {c:QC} {n:Nat} {wr:Bool} {v:VS} {d:VV} {w:au} (p:PsQ c n wr v d w) (k:Nat):∃j,j<c.E.T.length/\j=min (n+k) (c.E.T.length-1) /\
  w.cell? ⟨c.g,j * 6,none⟩=some (aa ab (c.E.at (n+k)).r.kind)/\w.cell? ⟨c.g,j * 6+1,none⟩=some (ac (c.E.at (n+k)).txt)/\w.cell? ⟨c.g,j * 6+2,none⟩=some (aa ab (c.E.at (n+k)).r.n)/\w.cell? ⟨c.g,j * 6+3,none⟩=some (aa ab (c.E.at (n+k)).r.at_)/\w.cell? ⟨c.g,j * 6+4,none⟩=some (aa ab (c.E.at (n+k)).r.end_)/\w.cell? ⟨c.g,j * 6+5,none⟩=some (av (c.E.at (n+k)).lay):=by
 have e:=p.ok.pos
 have a:min (n+k) (c.E.T.length-1)<c.E.T.length:=by omega
 have b:c.E.at (n+k)=c.E.T[min (n+k) (c.E.T.length-1)]:=by
  unfold RE.at lJ
  rw [List.getD_eq_getElem?_getD,List.getElem?_eq_getElem a];rfl
 refine ⟨_,a,rfl,?_⟩
 rw [b]
 have h:=p.tk _ a
 exact ⟨h 0 _ rfl,h 1 _ rfl,h 2 _ rfl,h 3 _ rfl,h 4 _ rfl,h 5 _ rfl⟩
theorem BV {n k:Nat} (a:n+k<=100000):wrap64 ((n:Int)+(k:Int))=((n+k:Nat):Int):=cg _ (by omega)
theorem BU {len:Nat} (b:0<len) (a:len<=20000):wrap64 ((len:Int)-1)=((len-1:Nat):Int):=(cg _ (by omega)).trans (by omega)
theorem jv {c:QC} {n:Nat} {wr:Bool} {v:VS} {z:VV} {w:au} (p:PsQ c n wr v z w) (k:Nat) (l:k<=1):aU am 40 #[ar (some ⟨c.P,0,none⟩),aa ab (k:Int)] w fun e w'=>e=aD (kk (c.E.at (n+k)))/\aB w.heap.size w w':=by
 have a:=(Wq.start p).new [aa ab 0,ac ⟨#[]⟩,aa ab 0,aa ab 0,aa ab 0,av false] 76 rfl
 have g:Hid (aB w.heap.size w (w.alloc (.cells #[aa ab 0,ac ⟨#[]⟩,aa ab 0,aa ab 0,aa ab 0,av false] 76))):=zq ((ap _ _).alloc (ae _) _)
 obtain ⟨j,h,i,C,D,F,G,H,I⟩:=xQ a.p k
 have A:=BV (n:=n) (k:=k) (by have:=p.n1;have:=p.ok.len;omega)
 have u:=BU p.ok.pos p.ok.len
 have q:=p.ok.pos
 have d:=a.b.all
 simp only [QC.cells,ag,ai,aj,aH,aP,ah,af,and_true] at d
 by_cases o:n+k<c.E.T.length
 ·have f:j=n+k:=by omega
  subst f
  have s:¬(c.E.T.length:Int)<=((n+k:Nat):Int):=by omega
  have x:(0:Int)<=((n+k:Nat):Int):=by omega
  have y:((n+k:Nat):Int)<(c.E.T.length:Int):=by omega
  generalize n+k=m at *
  clear i h l o q u
  generalize c.E.at m=t at *
  generalize c.E.T.length=len at *
  clear a p
  unfold kk
  go_enter Tryz.func40,Tryz.ntmps40
  go_wp2_with fail
  go_region
  all_goals
   go_wp2_with fail
   go_region
   all_goals
    go_wp2_with fail
    refine aw (v:=aV #[aa ab t.r.kind,ac t.txt,aa ab t.r.n,aa ab t.r.at_,aa ab t.r.end_,av t.lay]) (by simp [results,Tryz.results40,go_sem,d]) rfl ⟨rfl,?_⟩
    repeat (first | (with_reducible exact g.out) | (with_reducible exact ap _ _) | (with_reducible refine ch ?_ (by simp) _) | (with_reducible refine cR ?_ (by simp) _) | (with_reducible refine Below.drew ?_))
 ·have f:j=c.E.T.length-1:=by omega
  subst f
  have s:(c.E.T.length:Int)<=((n+k:Nat):Int):=by omega
  have x:(0:Int)<=((c.E.T.length-1:Nat):Int):=by omega
  have y:((c.E.T.length-1:Nat):Int)<(c.E.T.length:Int):=by omega
  generalize c.E.T.length-1=B at *
  clear i h l o q
  generalize c.E.at (n+k)=t at *
  generalize c.E.T.length=len at *
  clear a p
  unfold kk
  go_enter Tryz.func40,Tryz.ntmps40
  go_wp2_with fail
  go_region
  all_goals
   go_wp2_with fail
   go_region
   all_goals
    go_wp2_with fail
    refine aw (v:=aV #[aa ab t.r.kind,ac t.txt,aa ab t.r.n,aa ab t.r.at_,aa ab t.r.end_,av t.lay]) (by simp [results,Tryz.results40,go_sem,d]) rfl ⟨rfl,?_⟩
    repeat (first | (with_reducible exact g.out) | (with_reducible exact ap _ _) | (with_reducible refine ch ?_ (by simp) _) | (with_reducible refine cR ?_ (by simp) _) | (with_reducible refine Below.drew ?_))
theorem xr {t:NextR} {s:List UInt8} (h:dp t s=true):¬t.r.kind=7:=by
 unfold dp at h;simp at h;omega
theorem qn {c:QC} {n:Nat} {v:VS} {d:VV} {w:au} (p:PsQ c n false v d w) (s:ByteArray) (h:dp (c.E.at n) s.data.toList=true):aU am 109 #[ar (some ⟨c.P,0,none⟩),ac s] w fun e w'=>e=aD (aJ #[])/\PsQ c (n+1) false v d w'/\StQ c d w d w':=by
 have g:=zq (jv p 0 (by decide))
 have i:=zq fun W=>gf (c.E.at n) s W
 have o:=p.more (xr h)
 have r:=zq (jd (n:=n) (by have:=p.ok.len;omega))
 have t:=zq o
 rw [h] at i
 rw [bj] at g
 have f:=zq (Wq.start p)
 clear h p o
 have a:=f.out.b.all
 simp only [QC.cells,ag,ai,aj,aH,aP,ah,af,and_true] at a
 go_enter Tryz.func109,Tryz.ntmps109
 go_wp2_with fail
 refine g.out.mono ?_;rintro e x ⟨rfl,l⟩
 have j:=zq (f.out.call l)
 clear l f a
 go_wp2_with fail
 refine (i.out _).mono ?_;rintro e y ⟨rfl,m⟩
 have k:=zq (j.out.call m)
 clear m j
 have a:=k.out.b.all
 simp only [QC.cells,ag,ai,aj,aH,aP,ah,af,and_true] at a
 have u:=r.out
 go_wp2_with fail
 have q:=k.out.inc t.out
 exact aw (v:=aJ #[]) (by simp [results,Tryz.results109,go_sem]) rfl ⟨rfl,q.p,q.s⟩
theorem rL {c:QC} {n:Nat} {v:VS} {d:VV} {w:au} (p:PsQ c n false v d w) (s:ByteArray) (h:dp (c.E.at n) s.data.toList=false):aU am 109 #[ar (some ⟨c.P,0,none⟩),ac s] w fun e w'=>e=aD (aJ #[])/\PsQ c n true v d w'/\StQ c d w d w':=by
 have g:=zq (jv p 0 (by decide))
 have i:=zq fun W=>gf (c.E.at n) s W
 rw [h] at i
 rw [bj] at g
 have f:=zq (Wq.start p)
 clear h p
 have a:=f.out.b.all
 simp only [QC.cells,ag,ai,aj,aH,aP,ah,af,and_true] at a
 go_enter Tryz.func109,Tryz.ntmps109
 go_wp2_with fail
 refine g.out.mono ?_;rintro e q ⟨rfl,l⟩
 have j:=zq (f.out.call l)
 clear l f a
 go_wp2_with fail
 refine (i.out _).mono ?_;rintro e r ⟨rfl,m⟩
 have k:=zq (j.out.call m)
 clear m j
 have a:=k.out.b.all
 simp only [QC.cells,ag,ai,aj,aH,aP,ah,af,and_true] at a
 go_wp2_with fail
 go_end0
 have o:=k.out.bad
 exact ⟨rfl,o.p,o.s⟩
theorem qo {c:QC} {n:Nat} {v:VS} {a:VV} {w:au} (p:PsQ c n true v a w) (s:ByteArray):aU am 109 #[ar (some ⟨c.P,0,none⟩),ac s] w fun e w'=>e=aD (aJ #[])/\PsQ c n true v a w'/\StQ c a w a w':=by
 have d:=zq (Wq.start p)
 clear p
 have g:=d.out.b.all
 simp only [QC.cells,ag,ai,aj,aH,aP,ah,af,and_true] at g
 go_enter Tryz.func109,Tryz.ntmps109
 go_wp2_with fail
 go_end0
 have f:=d.out.bad
 exact ⟨rfl,f.p,f.s⟩
end Go.Proofs.YtbojljpldcijgaaGreat
namespace Hb
open Go Go.RowKit
theorem js (w:au) (n:Nat) (a:Array Obj):aB w.heap.size w (dm (w.drewN n) a) :=
 ⟨rfl,rfl,rfl,by show w.heap.size<=(w.heap++a).size;simp,fun k b=>by show (w.heap++a)[k]? = _;rw [Array.getElem?_append_left b]⟩
end Hb
namespace Go.Proofs.YtbojljpldcijgaaGreat
open Go.RowKit Hb
theorem ux (o:OpR) (w:au):aU am 99 #[jK o] w fun e w'=>e=aD (av (mu o))/\∃q os',w'=dm (w.drewN q) os':=by
 unfold jK
 go_enter Tryz.func99,Tryz.ntmps99
 go_wp2_with (first | (go_at_call 101;(with_reducible refine (jh o.typ _).mono ?_);rintro e a ⟨rfl,rfl⟩))
 all_goals go_ret
 all_goals refine ⟨bY ?_,nA ((ap _ _).alloc (ae _) _) (ae _)⟩
 all_goals unfold mu BT
 all_goals grind
theorem qq (a b:OpR) (w:au):aU am 100 #[jK a,jK b] w fun e w'=>e=aD (av (je a b))/\∃q os',w'=dm (w.drewN q) os':=by
 have c:=CmpHeld.start w a b 61
 unfold jK
 cases h:(a.name.toList==b.name.toList)
 ·have d:=zq (show je a b=Op.bytesLess a.name.toList b.name.toList by unfold je;rw [h,if_neg (by simp)])
  have f:¬a.name.toList=b.name.toList:=by simpa using h
  go_enter Tryz.func100,Tryz.ntmps100
  go_wp2_with fail
  go_ret
  exact ⟨bY d.out.symm,nA c.bel c.dr⟩
 ·have d:=zq (show je a b=decide (dH a.typ<dH b.typ) by unfold je;rw [h,if_pos rfl])
  have f:a.name.toList=b.name.toList:=by simpa using h
  go_enter Tryz.func100,Tryz.ntmps100
  go_wp2_with fail
  go_quiet ((go_at_call 101;first | with_reducible exact fh ((jh a.typ _).mono fun _ _ ⟨he,hw⟩=>⟨he,hw.symm⟩) | with_reducible exact fh ((jh b.typ _).mono fun _ _ ⟨he,hw⟩=>⟨he,hw.symm⟩)))
  go_wp2_with fail
  go_ret
  exact ⟨bY d.out.symm,nA (dF c.bel _) (Nat.le_trans c.dr (Nat.le_add_right _ _))⟩
theorem az {P:Program} {b:Array Oper} {C:au->Prop} {Q:Act->Prop} {a:Act} {o:Oper} {c:List Oper} (e:ev o (yielded b a.tmps)=true) (h:∀K:Act->Prop,(∀a,wpQuiet P b C Q c a->K a)->o.quiet P a C K):wpQuiet P b C Q (o::c) a :=
 wpQuiet_step fun K d=>by rw [if_pos e];exact h K d
theorem aT {P:Program} {b:Array Oper} {C:au->Prop} {Q:Act->Prop} {a:Act} {o:Oper} {c:List Oper} (e:ev o (yielded b a.tmps)=false) (h:wpQuiet P b C Q c (a.put o.dst undef)):wpQuiet P b C Q (o::c) a :=
 wpQuiet_step fun K d=>by rw [if_neg (by rw [e];simp)];exact d _ h
theorem qL (A:Option Addr) (n a7:Nat) (l:List OpR) (w:au) (hn:n=l.length) (hm:n<=400) (hp:OpsAt w A l) :
  aU am 60 #[.slice A n a7] w fun e w'=>e=aD (av (ea l))/\aB w.heap.size w w':=by
 by_cases H:100<n
 ·have b1:decide ((100:Int)<n)=true:=by simp;omega
  have HV:=zq (jr l (by omega))
  clear hn hp H
  go_enter Tryz.func60,Tryz.ntmps60
  go_wp2_with fail
  go_ret
  exact ⟨bY HV.out.symm,ap _ _⟩
 have b1:decide ((100:Int)<n)=false:=by simp;omega
 have b4:n<=100:=by omega
 have V:=zq hn
 have HP:=zq hp
 have mixed:Tryz.prog.follows Departure.mixedOrders=true:=by kernel_rfl
 clear hn hp H
 go_enter Tryz.func60,Tryz.ntmps60
 go_wp2_with fail
 go_loopw [3] (fun i wr=>∃k:Nat,k<=n/\i=aa ab k/\aB w.heap.size w wr/\Hid (∀j,j<k->xj l j=true)) (fun i _=>n-(intOf i).toNat)
 case atStart=>exact ⟨0,bc _,rfl,ap _ _,fun j D=>absurd D (by omega)⟩
 case round=>
  obtain ⟨k,hk,rfl,y,E⟩:=hrel
  by_cases b7:k<n
  ·have J:=y.size
   have L:k<l.length:=by have:=V.out;omega
   obtain ⟨b,t,rfl,B,c0,H,c2⟩:=(HP.out.below y) k L
   have a4:0<k->wr.cell? ⟨b,t+(k-1) * 3,none⟩=some (ac (l[k-1]'(by omega)).name)/\wr.cell? ⟨b,t+(k-1) * 3+1,none⟩=some (aa ab (l[k-1]'(by omega)).typ)/\wr.cell? ⟨b,t+(k-1) * 3+2,none⟩=some (aa ab (l[k-1]'(by omega)).prec):=fun S=>by
    obtain ⟨b',b8,e',_,P,Q,R⟩:=(HP.out.below y) (k-1) (by omega)
    injection e' with e'
    injection e' with e1 e2 _
    subst e1 e2
    exact ⟨P,Q,R⟩
   have a1:=zq a4
   have J1:=zq (AM l k L)
   have J0:=zq (AN l k L)
   have JS:=zq (AL l k L)
   have O:=zq (oy l k L)
   generalize l[k]=o at *
   clear a4
   have b5:(0:Int)<=(k:Int):=by omega
   have b6:(k:Int)<(n:Int):=by omega
   have X:=zq (fun W=>ux o W)
   unfold jK at X
   have a3:∀n c,aU am 99 #[aV #[ac o.name,aa ab o.typ,aa ab o.prec]] (dm (wr.drewN n) c) fun e w'=>e=aD (av (mu o))/\∃q os',w'=dm ((dm (wr.drewN n) c).drewN q) os':=fun n c=>X.out _
   have x:=zq a3
   clear a3 X
   have M:∀n c,(dm (wr.drewN n) c).cell? ⟨b,t+k * 3,none⟩=some (ac o.name):=gX B c0
   have N:∀n c,(dm (wr.drewN n) c).cell? ⟨b,t+k * 3+1,none⟩=some (aa ab o.typ):=gX B H
   have T:∀n c,(dm (wr.drewN n) c).cell? ⟨b,t+k * 3+2,none⟩=some (aa ab o.prec):=gX B c2
   clear c0 H c2
   by_cases S:k=0
   ·have a5:=zq S
    have g1:decide (0<(k:Int))=false:=by simp;omega
    have a8:decide (0<k)=false:=by simp;omega
    have b3:¬(0:Int)<(k:Int):=by omega
    clear S
    cases hok:mu o
    ·skip
     have G:=zq hok
     rw [hok] at x
     clear hok
     go_wp2_with fail
     refine dy (by assumption) (by kernel_rfl) ?_
     iterate 4
      with_reducible refine az (by kernel_rfl) (fun K a=>?_)
      go_simp
      refine a _ ?_
      clear a K
     with_reducible refine az (by kernel_rfl) (fun K a=>?_)
     go_simp
     apply eY
     refine ⟨fun _=>?_,a _ ?_⟩
     (go_at_call 99;(with_reducible refine ep (x.out _ _)))
     iterate 2
      clear a K
      with_reducible refine az (by kernel_rfl) (fun K a=>?_)
      go_simp
      refine a _ ?_
     clear a K
     iterate 15
      with_reducible refine aT (by kernel_rfl) ?_
      simp only [bu,ay,an,ao]
     with_reducible refine az (by kernel_rfl) (fun K a=>?_)
     go_simp
     refine a _ ?_
     clear a K
     refine gj ?_
     intro _ g
     obtain ⟨⟨d,f⟩,m⟩:=g
     subst m
     have u:=js wr d f
     go_wp2_with fail
     go_ret
     exact ⟨bY (O.out (J1.out G.out)).symm,y.trans (u.mono J)⟩
    ·have G:=zq hok
     have C:=zq (J0.out a5.out hok)
     rw [hok] at x
     clear hok
     go_wp2_with fail
     refine dy (by assumption) (by kernel_rfl) ?_
     iterate 4
      with_reducible refine az (by kernel_rfl) (fun K a=>?_)
      go_simp
      refine a _ ?_
      clear a K
     with_reducible refine az (by kernel_rfl) (fun K a=>?_)
     go_simp
     apply eY
     refine ⟨fun _=>?_,a _ ?_⟩
     (go_at_call 99;(with_reducible refine ep (x.out _ _)))
     iterate 5
      clear a K
      with_reducible refine az (by kernel_rfl) (fun K a=>?_)
      go_simp
      refine a _ ?_
     clear a K
     iterate 11
      with_reducible refine aT (by kernel_rfl) ?_
      simp only [bu,ay,an,ao]
     iterate 2
      with_reducible refine az (by kernel_rfl) (fun K a=>?_)
      go_simp
      refine a _ ?_
      clear a K
     refine gj ?_
     intro _ g
     obtain ⟨⟨d,f⟩,m⟩:=g
     subst m
     have u:=js wr d f
     have z0:=M d f
     have z1:=N d f
     have z2:=T d f
     have I:=aA B u.size
     have v:=y.trans (u.mono J)
     generalize dm (wr.drewN d) f=r at *
     clear M N T
     go_wp2_with fail
     refine dy (by assumption) (by kernel_rfl) ?_
     iterate 3
      with_reducible refine az (by kernel_rfl) (fun K a=>?_)
      go_simp
      refine a _ ?_
      clear a K
     iterate 12
      with_reducible refine aT (by kernel_rfl) ?_
      simp only [bu,ay,an,ao]
     iterate 2
      with_reducible refine az (by kernel_rfl) (fun K a=>?_)
      go_simp
      refine a _ ?_
      clear a K
     iterate 8
      with_reducible refine aT (by kernel_rfl) ?_
      simp only [bu,ay,an,ao]
     iterate 2
      with_reducible refine az (by kernel_rfl) (fun K a=>?_)
      go_simp
      refine a _ ?_
      clear a K
     iterate 7
      with_reducible refine aT (by kernel_rfl) ?_
      simp only [bu,ay,an,ao]
     with_reducible refine az (by kernel_rfl) (fun K a=>?_)
     go_simp
     refine a _ ?_
     clear a K
     refine gj ?_
     intro _ g
     obtain ⟨⟨d,f⟩,m⟩:=g
     subst m
     have z:=v.trans ((js r d f).mono v.size)
     go_wp2_with fail
     go_roundw
     case rel=>exact ⟨k+1,by omega,by go_num,z,zq fun j D=>by
      rcases dn j k with h | h
      ·exact E.out j h
      ·have:j=k:=by omega
       subst this;exact C.out⟩
     case measure=>simp [intOf] <;> omega
   ·have a2:0<k:=by omega
    obtain ⟨P,Q,R⟩:=a1.out a2
    have a6:=zq (JS.out a2)
    clear JS a1
    generalize l[k-1]'(by omega)=p at *
    have r0:∀n c,(dm (wr.drewN n) c).cell? ⟨b,t+(k-1) * 3,none⟩=some (ac p.name):=gX B P
    have r1:∀n c,(dm (wr.drewN n) c).cell? ⟨b,t+(k-1) * 3+1,none⟩=some (aa ab p.typ):=gX B Q
    have r2:∀n c,(dm (wr.drewN n) c).cell? ⟨b,t+(k-1) * 3+2,none⟩=some (aa ab p.prec):=gX B R
    clear P Q R
    have Y:=zq (fun W=>qq p o W)
    unfold jK at Y
    have F:Hid (∀n c,aU am 100 #[aV #[ac p.name,aa ab p.typ,aa ab p.prec],aV #[ac o.name,aa ab o.typ,aa ab o.prec]] (dm (wr.drewN n) c) fun e w'=>e=aD (av (je p o))/\∃q os',w'=dm ((dm (wr.drewN n) c).drewN q) os'):=zq fun n c=>Y.out _
    clear Y
    have g1:decide (0<(k:Int))=true:=by simp;omega
    have a8:decide (0<k)=true:=by simp;omega
    have p0:(0:Int)<=(k:Int)-1:=by omega
    have p4:(1:Int)<=(k:Int):=by omega
    have p1:(k:Int)-1<(n:Int):=by omega
    have p2:IntKind.i64.wrap ((k:Int)-1)=(k:Int)-1:=IntWalk.i64_in _ (by omega)
    have p3:((k:Int)-1).toNat=k-1:=by omega
    clear S
    cases hok:mu o
    ·skip
     have G:=zq hok
     rw [hok] at x
     clear hok
     go_wp2_with fail
     refine dy (by assumption) (by kernel_rfl) ?_
     iterate 4
      with_reducible refine az (by kernel_rfl) (fun K a=>?_)
      go_simp
      refine a _ ?_
      clear a K
     with_reducible refine az (by kernel_rfl) (fun K a=>?_)
     go_simp
     apply eY
     refine ⟨fun _=>?_,a _ ?_⟩
     (go_at_call 99;(with_reducible refine ep (x.out _ _)))
     iterate 2
      clear a K
      with_reducible refine az (by kernel_rfl) (fun K a=>?_)
      go_simp
      refine a _ ?_
     clear a K
     iterate 15
      with_reducible refine aT (by kernel_rfl) ?_
      simp only [bu,ay,an,ao]
     with_reducible refine az (by kernel_rfl) (fun K a=>?_)
     go_simp
     refine a _ ?_
     clear a K
     refine gj ?_
     intro _ g
     obtain ⟨⟨d,f⟩,m⟩:=g
     subst m
     have u:=js wr d f
     go_wp2_with fail
     go_ret
     exact ⟨bY (O.out (J1.out G.out)).symm,y.trans (u.mono J)⟩
    ·have G:=zq hok
     have s:=zq ((a6.out hok).trans (yz p o))
     rw [hok] at x
     clear hok
     cases hbf:je p o
     ·rw [hbf] at F s
      clear hbf
      go_wp2_with fail
      refine dy (by assumption) (by kernel_rfl) ?_
      iterate 4
       with_reducible refine az (by kernel_rfl) (fun K a=>?_)
       go_simp
       refine a _ ?_
       clear a K
      with_reducible refine az (by kernel_rfl) (fun K a=>?_)
      go_simp
      apply eY
      refine ⟨fun _=>?_,a _ ?_⟩
      (go_at_call 99;(with_reducible refine ep (x.out _ _)))
      iterate 14
       clear a K
       with_reducible refine az (by kernel_rfl) (fun K a=>?_)
       go_simp
       refine a _ ?_
      clear a K
      with_reducible refine az (by kernel_rfl) (fun K a=>?_)
      go_simp
      apply eY
      refine ⟨fun _=>?_,a _ ?_⟩
      (go_at_call 100;(with_reducible refine ep (F.out _ _)))
      iterate 3
       clear a K
       with_reducible refine az (by kernel_rfl) (fun K a=>?_)
       go_simp
       refine a _ ?_
      clear a K
      refine gj ?_
      intro _ g
      obtain ⟨⟨d,f⟩,m⟩:=g
      subst m
      have u:=js wr d f
      go_wp2_with fail
      go_ret
      exact ⟨bY (O.out (s.out.trans rfl)).symm,y.trans (u.mono J)⟩
     ·rw [hbf] at F s
      clear hbf
      go_wp2_with fail
      refine dy (by assumption) (by kernel_rfl) ?_
      iterate 4
       with_reducible refine az (by kernel_rfl) (fun K a=>?_)
       go_simp
       refine a _ ?_
       clear a K
      with_reducible refine az (by kernel_rfl) (fun K a=>?_)
      go_simp
      apply eY
      refine ⟨fun _=>?_,a _ ?_⟩
      (go_at_call 99;(with_reducible refine ep (x.out _ _)))
      iterate 14
       clear a K
       with_reducible refine az (by kernel_rfl) (fun K a=>?_)
       go_simp
       refine a _ ?_
      clear a K
      with_reducible refine az (by kernel_rfl) (fun K a=>?_)
      go_simp
      apply eY
      refine ⟨fun _=>?_,a _ ?_⟩
      (go_at_call 100;(with_reducible refine ep (F.out _ _)))
      iterate 3
       clear a K
       with_reducible refine az (by kernel_rfl) (fun K a=>?_)
       go_simp
       refine a _ ?_
      clear a K
      refine gj ?_
      intro _ g
      obtain ⟨⟨d,f⟩,m⟩:=g
      subst m
      have u:=js wr d f
      have z0:=M d f
      have z1:=N d f
      have z2:=T d f
      have y0:=r0 d f
      have y1:=r1 d f
      have y2:=r2 d f
      have I:=aA B u.size
      have v:=y.trans (u.mono J)
      generalize dm (wr.drewN d) f=r at *
      clear M N T
      clear r0 r1 r2 x F
      have M:∀n c,(dm (r.drewN n) c).cell? ⟨b,t+k * 3,none⟩=some (ac o.name):=gX I z0
      have N:∀n c,(dm (r.drewN n) c).cell? ⟨b,t+k * 3+1,none⟩=some (aa ab o.typ):=gX I z1
      have r0:∀n c,(dm (r.drewN n) c).cell? ⟨b,t+(k-1) * 3,none⟩=some (ac p.name):=gX I y0
      have r1:∀n c,(dm (r.drewN n) c).cell? ⟨b,t+(k-1) * 3+1,none⟩=some (aa ab p.typ):=gX I y1
      have U:Hid (∀n c,aU am 101 #[aa ab p.typ] (dm (r.drewN n) c) fun e w'=>e=aD (aa ab (dH p.typ))/\∃q os',w'=dm ((dm (r.drewN n) c).drewN q) os'):=zq fun n c=>(jh p.typ _).mono fun _ _ ⟨he,hw⟩=>⟨he,0,#[],by rw [hw,Sort.grow_empty];rfl⟩
      have a0:Hid (∀n c,aU am 101 #[aa ab o.typ] (dm (r.drewN n) c) fun e w'=>e=aD (aa ab (dH o.typ))/\∃q os',w'=dm ((dm (r.drewN n) c).drewN q) os'):=zq fun n c=>(jh o.typ _).mono fun _ _ ⟨he,hw⟩=>⟨he,0,#[],by rw [hw,Sort.grow_empty];rfl⟩
      clear z0 z1 z2 y0 y1 y2
      cases hne:(p.name.toList==o.name.toList)
      ·rw [hne] at s
       have b2:¬p.name.toList=o.name.toList:=by simpa using hne
       have C:=zq s.out
       go_wp2_with fail
       refine dy (by assumption) (by kernel_rfl) ?_
       iterate 17
        with_reducible refine az (by kernel_rfl) (fun K a=>?_)
        go_simp
        refine a _ ?_
        clear a K
       iterate 8
        with_reducible refine aT (by kernel_rfl) ?_
        simp only [bu,ay,an,ao]
       iterate 2
        with_reducible refine az (by kernel_rfl) (fun K a=>?_)
        go_simp
        refine a _ ?_
        clear a K
       iterate 7
        with_reducible refine aT (by kernel_rfl) ?_
        simp only [bu,ay,an,ao]
       with_reducible refine az (by kernel_rfl) (fun K a=>?_)
       go_simp
       refine a _ ?_
       clear a K
       refine gj ?_
       intro _ g
       obtain ⟨⟨d,f⟩,m⟩:=g
       subst m
       have z:=v.trans ((js r d f).mono v.size)
       go_wp2_with fail
       go_roundw
       case rel=>exact ⟨k+1,by omega,by go_num,z,zq fun j D=>by
        rcases dn j k with h | h
        ·exact E.out j h
        ·have:j=k:=by omega
         subst this;exact C.out⟩
       case measure=>simp [intOf] <;> omega
      ·rw [hne] at s
       have b2:p.name.toList=o.name.toList:=by simpa using hne
       generalize dH p.typ=cp at *
       generalize dH o.typ=Z at *
       cases hc2:(cp==2)
       ·rw [hc2] at s
        have a9:¬cp=2:=by simpa using hc2
        have C:=zq s.out
        go_wp2_with fail
        refine dy (by assumption) (by kernel_rfl) ?_
        iterate 23
         with_reducible refine az (by kernel_rfl) (fun K a=>?_)
         go_simp
         refine a _ ?_
         clear a K
        with_reducible refine az (by kernel_rfl) (fun K a=>?_)
        go_simp
        apply eY
        refine ⟨fun _=>?_,a _ ?_⟩
        (go_at_call 101;(with_reducible refine ep (U.out _ _)))
        iterate 3
         clear a K
         with_reducible refine az (by kernel_rfl) (fun K a=>?_)
         go_simp
         refine a _ ?_
        clear a K
        iterate 7
         with_reducible refine aT (by kernel_rfl) ?_
         simp only [bu,ay,an,ao]
        with_reducible refine az (by kernel_rfl) (fun K a=>?_)
        go_simp
        refine a _ ?_
        clear a K
        refine gj ?_
        intro _ g
        obtain ⟨⟨d,f⟩,m⟩:=g
        subst m
        have z:=v.trans ((js r d f).mono v.size)
        go_wp2_with fail
        go_roundw
        case rel=>exact ⟨k+1,by omega,by go_num,z,zq fun j D=>by
         rcases dn j k with h | h
         ·exact E.out j h
         ·have:j=k:=by omega
          subst this;exact C.out⟩
        case measure=>simp [intOf] <;> omega
       ·rw [hc2] at s
        have a9:cp=2:=by simpa using hc2
        cases hc3:(Z==3)
        ·rw [hc3] at s
         have b0:¬Z=3:=by simpa using hc3
         have C:=zq s.out
         go_wp2_with fail
         refine dy (by assumption) (by kernel_rfl) ?_
         iterate 23
          with_reducible refine az (by kernel_rfl) (fun K a=>?_)
          go_simp
          refine a _ ?_
          clear a K
         with_reducible refine az (by kernel_rfl) (fun K a=>?_)
         go_simp
         apply eY
         refine ⟨fun _=>?_,a _ ?_⟩
         (go_at_call 101;(with_reducible refine ep (U.out _ _)))
         iterate 8
          clear a K
          with_reducible refine az (by kernel_rfl) (fun K a=>?_)
          go_simp
          refine a _ ?_
         clear a K
         with_reducible refine az (by kernel_rfl) (fun K a=>?_)
         go_simp
         apply eY
         refine ⟨fun _=>?_,a _ ?_⟩
         (go_at_call 101;(with_reducible refine ep (a0.out _ _)))
         iterate 2
          clear a K
          with_reducible refine az (by kernel_rfl) (fun K a=>?_)
          go_simp
          refine a _ ?_
         clear a K
         refine gj ?_
         intro _ g
         obtain ⟨⟨d,f⟩,m⟩:=g
         subst m
         have z:=v.trans ((js r d f).mono v.size)
         go_wp2_with fail
         go_roundw
         case rel=>exact ⟨k+1,by omega,by go_num,z,zq fun j D=>by
          rcases dn j k with h | h
          ·exact E.out j h
          ·have:j=k:=by omega
           subst this;exact C.out⟩
         case measure=>simp [intOf] <;> omega
        ·rw [hc3] at s
         have b0:Z=3:=by simpa using hc3
         go_wp2_with fail
         refine dy (by assumption) (by kernel_rfl) ?_
         iterate 23
          with_reducible refine az (by kernel_rfl) (fun K a=>?_)
          go_simp
          refine a _ ?_
          clear a K
         with_reducible refine az (by kernel_rfl) (fun K a=>?_)
         go_simp
         apply eY
         refine ⟨fun _=>?_,a _ ?_⟩
         (go_at_call 101;(with_reducible refine ep (U.out _ _)))
         iterate 8
          clear a K
          with_reducible refine az (by kernel_rfl) (fun K a=>?_)
          go_simp
          refine a _ ?_
         clear a K
         with_reducible refine az (by kernel_rfl) (fun K a=>?_)
         go_simp
         apply eY
         refine ⟨fun _=>?_,a _ ?_⟩
         (go_at_call 101;(with_reducible refine ep (a0.out _ _)))
         iterate 2
          clear a K
          with_reducible refine az (by kernel_rfl) (fun K a=>?_)
          go_simp
          refine a _ ?_
         clear a K
         refine gj ?_
         intro _ g
         obtain ⟨⟨d,f⟩,m⟩:=g
         subst m
         have z:=v.trans ((js r d f).mono v.size)
         go_wp2_with fail
         go_ret
         exact ⟨bY (O.out (s.out.trans rfl)).symm,z⟩
  ·obtain rfl:k=n:=by omega
   have HY:=zq (nj l (by have:=V.out;omega) (fun j D=>E.out j (by have:=V.out;omega)))
   go_wp2_with fail
   go_ret
   exact ⟨bY HY.out.symm,y⟩
theorem yf (A:Option Addr) (n F:Nat) (l:List OpR) (c:Int) (f:ByteArray) (w:au) (V:n<=400) (H:Tab w A n F l) :
  aU am 115 #[.slice A n F,aa ab c,ac f] w fun e w'=>e=aD (aJ #[jK ((dK l f c).getD jL),av (dK l f c).isSome])/\aB w.heap.size w w':=by
 have x:=R3.start w 61
 have E:=zq (H.below x.bel)
 have K:=zq H
 have o:=zq (qL A n F l _ E.out.len V E.out.ops)
 clear H
 cases hv:ea l
 ·rw [hv] at o
  have u:=zq (show dK l f c=none by unfold dK;rw [hv];rfl)
  clear hv
  go_enter Tryz.func115,Tryz.ntmps115
  go_wp2_with fail
  refine o.out.mono ?_;rintro e W ⟨rfl,G⟩
  have d:=x.call G
  obtain ⟨O,r⟩:=d.r0
  obtain ⟨P,s⟩:=d.r1
  obtain ⟨Q,t⟩:=d.r2
  have q:=d.fr
  have L:=q 0
  go_wp2_with fail
  refine aw (v:=aJ #[jK jL,av false]) (by simp [jK,jL,results,Tryz.results115,go_sem,r,s,t]) rfl ⟨by rw [u.out];rfl,d.put _ _ _⟩
 ·rw [hv] at o
  have u:=zq (show dK l f c=l.find? (jk f c) by unfold dK;rw [hv];rfl)
  clear hv
  have I:=zq K.out.len
  go_enter Tryz.func115,Tryz.ntmps115
  go_wp2_with fail
  refine o.out.mono ?_;rintro e W ⟨rfl,G⟩
  have d:=zq (x.call G)
  go_wp2_with fail
  go_loopw [8] (fun i wr=>∃k:Nat,k<=n/\i=aa ab k/\Hid (R3 w wr)/\Hid (∀j (g:j<l.length),j<k->jk f c l[j]=false)) (fun i _=>n-(intOf i).toNat)
  case atStart=>exact ⟨0,bc _,rfl,d,zq fun j _ g=>absurd g (by omega)⟩
  case round=>
   clear x d o E
   obtain ⟨k,hk,rfl,p,B⟩:=hrel
   by_cases a1:k<n
   ·have N:k<l.length:=by have:=I.out;omega
    obtain ⟨b,a2,rfl,hb,X,Y,Z⟩:=(K.out.ops.below p.out.bel) k N
    have S:=zq (fun h=>u.out.trans (tF (jk f c) l k N h (fun j g=>B.out j (by omega) g)))
    have J:=zq (fun (h:jk f c l[k]=false)=>(show ∀j (g:j<l.length),j<k+1->jk f c l[j]=false from fun j g a0=>by
     rcases dn j k with M | M
     ·exact B.out j g M
     ·have:j=k:=by omega
      subst this;exact h))
    generalize l[k]=a at *
    have C:=zq (jh a.typ)
    by_cases y:dH a.typ=c
    ·have T:(dH a.typ==c)=true:=by simpa using y
     by_cases z:a.name.toList=f.toList
     ·have m:Hid (jk f c a=true):=by unfold jk;refine zq ?_;simp [z,y]
      have D:=zq (S.out m.out)
      have U:(a.name.toList==f.toList)=true:=by simpa using z
      have d:=p.out
      obtain ⟨O,r⟩:=d.r0
      obtain ⟨P,s⟩:=d.r1
      obtain ⟨Q,t⟩:=d.r2
      have q:=d.fr
      have L:=q 0
      go_wp2_with fail
      refine (C.out _).mono ?_;rintro e R ⟨rfl,rfl⟩
      go_wp2_with fail
      refine aw (v:=aJ #[jK a,av true]) (by simp [jK,results,Tryz.results115,go_sem,r,s,t]) rfl ⟨by rw [D.out];rfl,d.put _ _ _⟩
     ·have m:Hid (jk f c a=false):=by unfold jk;refine zq ?_;simp [z]
      have U:(a.name.toList==f.toList)=false:=by simpa using z
      go_wp2_with fail
      refine (C.out _).mono ?_;rintro e R ⟨rfl,rfl⟩
      go_wp2_with fail
      go_roundw
      case rel=>exact ⟨k+1,by omega,by go_num,p,zq (J.out m.out)⟩
      case measure=>simp [intOf] <;> omega
    ·have m:Hid (jk f c a=false):=by unfold jk;refine zq ?_;simp [y]
     have T:(dH a.typ==c)=false:=by simpa using y
     go_wp2_with fail
     refine (C.out _).mono ?_;rintro e R ⟨rfl,rfl⟩
     go_wp2_with fail
     go_roundw
     case rel=>exact ⟨k+1,by omega,by go_num,p,zq (J.out m.out)⟩
     case measure=>simp [intOf] <;> omega
   ·have D:=zq (u.out.trans (rm (jk f c) l (fun j g=>B.out j g (by have:=I.out;omega))))
    have d:=p.out
    obtain ⟨O,r⟩:=d.r0
    obtain ⟨P,s⟩:=d.r1
    obtain ⟨Q,t⟩:=d.r2
    have q:=d.fr
    have L:=q 0
    go_wp2_with fail
    refine aw (v:=aJ #[jK jL,av false]) (by simp [jK,jL,results,Tryz.results115,go_sem,r,s,t]) rfl ⟨by rw [D.out];rfl,d.put _ _ _⟩
theorem iy {w:au} {A:Option Addr} {n b:Nat} {l:List OpR} (d:Tab w A n b l) (f:n<=400) (c:Int) (a:ByteArray) :
  aU am 115 #[.slice A n b,aa ab c,ac a] w fun e w'=>e=aD (aJ #[aV #[ac ((dK l a c).getD jL).name,aa ab ((dK l a c).getD jL).typ,aa ab ((dK l a c).getD jL).prec],av (dK l a c).isSome])/\aB w.heap.size w w' :=
 yf A n b l c a w f d
end Go.Proofs.YtbojljpldcijgaaGreat
