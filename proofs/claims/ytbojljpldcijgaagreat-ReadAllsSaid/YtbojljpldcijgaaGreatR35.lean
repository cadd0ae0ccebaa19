/- Parts of the proof. -/
import Derived.Test.YtbojljpldcijgaaGreatR01
import Derived.Test.YtbojljpldcijgaaGreatR34
import Derived.Test.YtbojljpldcijgaaGreatR17
set_option maxHeartbeats 12800000
set_option maxRecDepth 100000
set_option linter.unusedSimpArgs false
open Go.IntKind renaming i64 -> ab
open Go.RowKit.Below renaming refl -> ap
open Go.Value renaming int -> aa, string -> ac
open List renaming append_nil -> aj, cons_append -> ag, mem_cons -> bh, mem_cons_of_mem -> eQ, mem_nil_iff -> be, mem_singleton -> aK, nil_append -> ai
open Nat renaming le_refl -> ae, reduceAdd -> af, zero_add -> ah
namespace Go.Proofs.YtbojljpldcijgaaGreat
open Go.RowKit Hb
attribute [local go_sem] Oper.semAt_some
theorem Bf {c:QC} {S:PT} {k n:Nat} {nv:VV} {w:World} (hF:TkF c.E) (hS:zw c S k) (hk:k<=n+1) (p:PsQ c n false (bv c.E.T n) nv w) (l:Int) :
  Calls Tryz.prog 39 #[.pointer (some ⟨c.P,0,none⟩),aa ab l] w (TQ c n nv w (xN c.E S l n)):=by
 obtain ⟨R,HR⟩:=lz (xN c.E S l n)
 rw [<-HR.out]
 have a5:=zq ((Wq.start p).new [aa ab 0,aa ab 0,ac ⟨#[]⟩,.slice none 0 0] 30 rfl)
 have HX:=zq (uq hF hS hk a5.out.p l)
 have HS:=zq (fun (m:Int) (i:Nat) I W (hi:n<i) (h:PsQ c i false (bv c.E.T i) I W)=>hS m i I W (Nat.le_trans hk hi) h)
 have a6:=zq (fun (f:ByteArray) (A:Option Addr) (m C:Nat) (W:World)=>iU f A m C W)
 have g9:=zq p.ok.len
 have V:Hid (R=match kQ c.E S l n with | .error e=>.error e | .ok (t,p,m)=>iw c.E S l c.E.T.length t p m):=zq HR.out
 clear p HR hS hk hF
 have g2:=a5.out.b.all
 simp only [QC.cells,ag,ai,aj,aH,aP,ah,af,and_true] at g2
 go_enter Tryz.func39,Tryz.ntmps39
 go_wp2_with fail
 refine (HX.out).mono ?_;rintro e w1 ⟨H,p0,n0,d9,At,ct,h9,rfl,hp,hs,D,a2⟩
 have f2:=zq (Trq.sub (w0:=w) (F:=[w.heap.size]) D a5.out.s.size (by intro b d;rw [aK] at d;subst d;exact a5.out.b.lt 0 rfl))
 have c0:Hid (n<=n0/\((d9=true/\R=.error n0)\/(d9=false/\n<n0/\R=iw c.E S l c.E.T.length H p0 n0))):=zq ⟨a2.1,by
  rw [V.out]
  rcases a2.2 with ⟨r,O⟩ | ⟨r,O,h3⟩
  ·exact .inl ⟨r,by rw [O]⟩
  ·exact .inr ⟨r,O,by rw [h3]⟩⟩
 have e7:=zq (a5.out.step hp hs)
 clear hp hs D a2 HX V a5 g2
 unfold fI
 have a8:=zq (e7.out.new [aa ab H.kind,aa ab H.num,ac H.name,.slice At H.args.length ct] 30 (g:=w1.heap.size) (by simp))
 have b7:=zq (f2.out.new (.cells #[aa ab H.kind,aa ab H.num,ac H.name,.slice At H.args.length ct] 30) (g:=w1.heap.size) (by simp))
 clear e7 f2
 obtain ⟨wb,f8⟩:=lz ((w1.alloc (.cells #[aa ab H.kind,aa ab H.num,ac H.name,.slice At H.args.length ct] 30)))
 obtain ⟨z,e1⟩:=lz (w1.heap.size)
 go_upto_block 0 with fail
 rw [<-f8.out] at a8 b7 |-
 rw [<-e1.out] at a8 b7 |-
 clear f8 e1
 have e4:Hid (w.heap.size<=z):=zq (by
  have h8:=a8.out.b.ord
  simp only [ag,ai,List.map_cons,List.map_nil,List.pairwise_cons,bh,be,or_false,forall_eq_or_imp,forall_eq] at h8
  omega)
 go_wp2_with fail
 go_loopw [7] (fun v7 wr=>∃(J:Int) (a:Nat) (wx:Bool) (I:VV) (t:Tm) (A:Option Addr) (C j:Nat),v7=aa ab J/\n<=a/\c.E.T.length<=a+j/\Hid (Wq c a wx (bv c.E.T a) nv w I wr [(z,[aa ab t.kind,aa ab t.num,ac t.name,.slice A t.args.length C]),(w.heap.size,[aa ab 0,aa ab 0,ac ⟨#[]⟩,.slice none 0 0])])/\Hid (Trq c I w wr [z,w.heap.size] A t.args)/\Hid ((wx=true/\R=.error a)\/(wx=false/\n<a/\R=iw c.E S l j t J a))) (fun _ wr=>match wr.cell? ⟨c.P,1,none⟩ with | some (aa _ i)=>c.E.T.length-i.toNat | _=>0)
 case atStart=>exact ⟨p0,n0,d9,h9,H,At,ct,c.E.T.length,rfl,c0.out.1,by omega,a8,b7,zq c0.out.2⟩
 case round=>
  obtain ⟨J,a,wx,I,t,A,C,j,rfl,d8,hj,a0,HT,V⟩:=hrel
  have d7:=a0.out.p.n1
  clear a8 b7 c0
  have K:=zq (⟨d8,hj,d7⟩:_/\_/\_)
  have d6:=a0.out.b.all
  simp only [QC.cells,ag,ai,aj,aH,aP,ah,af,and_true] at d6
  cases wx with
  | true=>
   have HV:Hid (R=.error a):=zq (by
    rcases V.out with h | h
    ·exact h.2
    ·exact absurd h.1 (by simp))
   clear V HS a6 d8 hj d7
   go_wp2_with fail
   have G:=a0.out.put4 1 rfl (aa ab t.kind) (aa ab t.num) (ac t.name) (.slice A t.args.length C) (ae _)
   have D:=HT.out.put (g:=w.heap.size) (by simp) (fun b d=>bH _ _ (aa ab t.kind) (aa ab t.num) (ac t.name) (.slice A t.args.length C) b d) (by simp)
   refine bodyPost_ret (v:=.tuple #[.agg #[aa ab t.kind,aa ab t.num,ac t.name,.slice A t.args.length C],aa ab J]) (by simp [results,Tryz.results39,go_sem,d6]) rfl ?_
   exact ⟨t,J,a,true,A,C,I,rfl,G.p,G.s,D.out,K.out.1,.inl ⟨rfl,HV.out⟩⟩
  | false=>
   obtain ⟨j,rfl⟩:∃i,j=i+1:=⟨j-1,by omega⟩
   have c2:Hid (n<a/\R=iw c.E S l (j+1) t J a):=zq (by
    rcases V.out with h | h
    ·exact absurd h.1 (by simp)
    ·exact h.2)
   have e6:=zq (a0.out.p.bk.c 1 _ rfl:wr.cell? ⟨c.P,1,none⟩=some (aa ab (a:Int)))
   have N:=zq (c2.out.2.trans (pJ c.E S l j t J a))
   have b4:=zq c2.out.1
   have f3:=zq (jv a0.out.p 0 (by omega))
   have c5:=zq (fun W (h:PsQ c a false (bv c.E.T a) I W)=>xZ h)
   have a4:=zq (fun h=>vH (E:=c.E) (n:=a) h)
   have b6:=zq (fun X=>qM (gS c.E a).1 X)
   obtain ⟨en,c3⟩:=lz (vX (gS c.E a) l J)
   rw [<-c3.out] at N
   have Y:Hid (en=(!(gS c.E a).2||(decide (l<(gS c.E a).1.prec)||decide (kL (gS c.E a).1<J)))):=zq c3.out
   clear c3 d8 hj d7 V c2
   obtain ⟨o,HO⟩:=lz ((gS c.E a).1)
   obtain ⟨b,HB⟩:=lz ((gS c.E a).2)
   rw [<-HO.out,<-HB.out] at c5 Y
   rw [<-HO.out] at N b6
   rw [<-HB.out] at a4
   clear HO HB
   unfold jK at *
   obtain ⟨sl,c8⟩:=lz (kL o)
   obtain ⟨sr,c9⟩:=lz (ig o)
   rw [<-c8.out,<-c9.out] at b6
   rw [<-c8.out] at Y
   rw [<-c9.out] at N
   clear c8 c9
   go_wp2_with fail
   refine (f3.out).mono ?_;rintro e i4 ⟨rfl,y⟩
   have c7:=zq (a0.out.call y)
   have f4:=zq (HT.out.call y)
   clear a0 HT y f3 d6
   simp only [Nat.add_zero]
   go_wp2_with fail
   refine (c5.out _ c7.out.p).mono ?_;rintro e b9 ⟨rfl,y⟩
   have e8:=zq (c7.out.call y)
   have f5:=zq (f4.out.call y)
   clear c7 f4 y c5
   have a9:=zq (e8.out.new [ac o.name,aa ab o.typ,aa ab o.prec] 61 (g:=b9.heap.size) (by simp))
   have b8:=zq (f5.out.new (.cells #[ac o.name,aa ab o.typ,aa ab o.prec] 61) (g:=b9.heap.size) (by simp))
   clear e8 f5
   obtain ⟨wq,g0⟩:=lz ((b9.alloc (.cells #[ac o.name,aa ab o.typ,aa ab o.prec] 61)))
   obtain ⟨g8,e2⟩:=lz (b9.heap.size)
   go_upto_region 6 with fail
   rw [<-g0.out] at a9 b8 |-
   rw [<-e2.out] at a9 b8 |-
   clear g0 e2
   have g3:=a9.out.b.all
   simp only [QC.cells,ag,ai,aj,aH,aP,ah,af,and_true] at g3
   go_wp2_with fail
   refine (b6.out _).mono ?_;rintro e i0 ⟨rfl,y⟩
   have Z:=zq (a9.out.call y)
   have d2:=zq (b8.out.call y)
   clear a9 b8 g3
   clear y b6
   go_upto_region 7 with fail
   go_cut [54] from 42 to 54 (fun x wc=>x=.bool en/\wc=i0)
   case first=>
    have a1:=Z.out.b.all
    simp only [QC.cells,ag,ai,aj,aH,aP,ah,af,and_true] at a1
    have Q:=Y.out
    clear N HS a6 Y a4
    cases b
    ·have M:en=true:=Q
     clear Q
     subst M
     go_wp2_with fail
     go_meet
     exact ⟨rfl,rfl⟩
    ·by_cases r:l<o.prec
     ·have d1:decide (l<o.prec)=true:=decide_eq_true r
      rw [d1] at Q
      have M:en=true:=Q
      clear Q r
      subst M
      go_wp2_with fail
      go_meet
      exact ⟨rfl,rfl⟩
     ·have d1:decide (l<o.prec)=false:=decide_eq_false r
      rw [d1] at Q
      have M:en=decide (sl<J):=Q
      clear Q r
      subst M
      go_wp2_with fail
      go_meet
      exact ⟨rfl,rfl⟩
   case rest=>
    obtain ⟨rfl,rfl⟩:=hcut
    cases en
    rotate_left
    ·have HV:Hid (R=.ok (t,J,a)):=N
     clear N HS a6 Y a4
     have a1:=Z.out.b.all
     simp only [QC.cells,ag,ai,aj,aH,aP,ah,af,and_true] at a1
     go_wp2_with fail
     have G:=Z.out.put4 2 rfl (aa ab t.kind) (aa ab t.num) (ac t.name) (.slice A t.args.length C) (ae _)
     have D:=d2.out.put (g:=w.heap.size) (by simp) (fun b d=>bH _ _ (aa ab t.kind) (aa ab t.num) (ac t.name) (.slice A t.args.length C) b d) (by simp)
     refine bodyPost_ret (v:=.tuple #[.agg #[aa ab t.kind,aa ab t.num,ac t.name,.slice A t.args.length C],aa ab J]) (by simp [results,Tryz.results39,go_sem,a1]) rfl ?_
     exact ⟨t,J,a,false,A,C,I,rfl,G.p,G.s,D.out,K.out.1,.inr ⟨rfl,b4.out,HV.out⟩⟩
    have d:b=true:=by
     have h:=Y.out
     cases b with
     | true=>rfl
     | false=>cases h
    subst d
    have a3:Hid (R=if qS o=true then iw c.E S l j (ju o.name [t]) o.prec (a+1) else match S sr (a+1) with | .error e=>.error e | .ok (u,_,m)=>iw c.E S l j (ju o.name [t,u]) o.prec m):=N
    have e5:=zq (a4.out rfl).2
    have h0:=zq (Z.out.p.more (a4.out rfl).1)
    clear N Y a4
    have hi:=jd (n:=a) (by have:=K.out;have:=g9.out;omega)
    have a1:=Z.out.b.all
    simp only [QC.cells,ag,ai,aj,aH,aP,ah,af,and_true] at a1
    go_upto_region 9 with fail
    have B:=zq (Z.out.inc h0.out)
    rw [<-fU K.out.2.2 e5.out] at B
    have b1:=zq (d2.out.step ((StQ.refl c I wc).put 1 (aa ab ((a:Int)+1))))
    obtain ⟨U,f9⟩:=lz (wc.setCell ⟨c.P,1,none⟩ (aa ab ((a:Int)+1)))
    rw [<-f9.out] at B b1 |-
    clear f9 Z d2 a1 hi e5
    have d5:=B.out.b.all
    simp only [QC.cells,ag,ai,aj,aH,aP,ah,af,and_true] at d5
    go_upto_region 10 with fail
    obtain ⟨po,b5⟩:=lz (qS o)
    rw [<-b5.out] at a3
    go_cut [71] from 64 to 71 (fun x i3=>x=.bool po/\i3=U)
    case first=>
     have a7:po=(o.typ==6||o.typ==7):=b5.out
     clear a3 HS a6 b5
     by_cases r:o.typ=6
     ·have d1:(o.typ==6)=true:=by simpa using r
      rw [d1] at a7
      have M:po=true:=a7
      clear a7 r
      subst M
      go_wp2_with fail
      go_meet
      exact ⟨rfl,rfl⟩
     ·have d1:(o.typ==6)=false:=by simpa using r
      rw [d1] at a7
      have M:po=(o.typ==7):=a7
      clear a7 r
      subst M
      go_wp2_with fail
      go_meet
      exact ⟨rfl,rfl⟩
    case rest=>
     obtain ⟨rfl,g5⟩:=hcut
     rw [g5]
     clear g5 b5
     cases po
     rotate_left
     ·have HV:Hid (R=iw c.E S l j (ju o.name [t]) o.prec (a+1)):=a3
      have b0:=zq (Trq.row B.out.p B.out.s.size (F:=[g8,z,w.heap.size]) (by intro b d;simp only [bh,be,or_false] at d;rcases d with rfl|rfl|rfl;exact B.out.b.lt 0 rfl;exact B.out.b.lt 1 rfl;exact B.out.b.lt 2 rfl) 30 [(t,A,C)] (by simp [maxLen]) (by intro q hq;rw [aK] at hq;subst hq;exact b1.out))
      clear a3 HS
      go_wp2_with fail
      refine (a6.out _ _ _ _ _).mono ?_;rintro e i1 ⟨rfl,y⟩
      have e9:=zq (B.out.call (((ap U.heap.size U).alloc (ae _) (.cells #[aa ab t.kind,aa ab t.num,ac t.name,.slice A t.args.length C] 30)).trans (y.mono (by simp))))
      have h5:=zq (b0.out.call y)
      clear B b1 b0 d5 y
      have h6:=e9.out.b.all
      simp only [QC.cells,ag,ai,aj,aH,aP,ah,af,and_true] at h6
      have G:Wq c (a+1) false (bv c.E.T (a+1)) nv w I ((((i1.setCell ⟨z,0,none⟩ (aa ab 3)).setCell ⟨z,1,none⟩ (aa ab 0)).setCell ⟨z,2,none⟩ (ac o.name)).setCell ⟨z,3,none⟩ (.slice (some ⟨U.heap.size,0,none⟩) 1 1)) [(z,[aa ab 3,aa ab 0,ac o.name,.slice (some ⟨U.heap.size,0,none⟩) 1 1]),(w.heap.size,[aa ab 0,aa ab 0,ac ⟨#[]⟩,.slice none 0 0])]:=(e9.out.tl).put4 0 rfl (aa ab 3) (aa ab 0) (ac o.name) (.slice (some ⟨U.heap.size,0,none⟩) 1 1) e4.out
      have D:=h5.out.put (g:=z) (by simp) (fun b d=>bH _ _ (aa ab 3) (aa ab 0) (ac o.name) (.slice (some ⟨U.heap.size,0,none⟩) 1 1) b d) (by simp)
      have HZ:=zq G
      have d0:=zq D
      have c6:=zq (G.p.bk.c 1 _ rfl:_=some (aa ab (((a+1):Nat):Int)))
      have c4:=zq G.p.n1
      clear G D
      go_wp2_with fail
      go_roundw
      case rel=>exact ⟨o.prec,(a+1),false,I,ju o.name [t],(some ⟨U.heap.size,0,none⟩),1,j,rfl,by have:=K.out;omega,by have:=K.out;omega,HZ,zq (d0.out.fewer (by intro b d;exact eQ _ d)),zq (.inr ⟨rfl,by have:=b4.out;omega,HV.out⟩)⟩
      case measure=>rw [c6.out,e6.out];have:=K.out;have:=c4.out;simp;omega
     have e0:Hid (R=match S sr (a+1) with | .error e=>.error e | .ok (u,_,m)=>iw c.E S l j (ju o.name [t,u]) o.prec m):=a3
     clear a3
     go_wp2_with fail
     refine (HS.out sr (a+1) I _ (by have:=b4.out;omega) B.out.p).mono ?_;rintro e b2 ⟨u,pu,m,wu,Au,cu,g7,rfl,hp,hs,D,a2⟩
     have b3:Hid (a+1<=m/\((wu=true/\R=.error m)\/(wu=false/\a+1<m/\R=iw c.E S l j (ju o.name [t,u]) o.prec m))):=zq ⟨a2.1,by
      rw [e0.out]
      rcases a2.2 with ⟨r,O⟩ | ⟨r,O,h3⟩
      ·exact .inl ⟨r,by rw [O]⟩
      ·exact .inr ⟨r,O,by rw [h3]⟩⟩
     have f7:=zq (Trq.sub (w0:=w) (F:=[g8,z,w.heap.size]) D B.out.s.size (by intro b d;simp only [bh,be,or_false] at d;rcases d with rfl|rfl|rfl;exact B.out.b.lt 0 rfl;exact B.out.b.lt 1 rfl;exact B.out.b.lt 2 rfl))
     have f1:=zq (B.out.step hp hs)
     have f6:=zq (b1.out.step hs)
     clear e0 HS B b1 hp hs D a2 d5
     unfold fI
     have L:=zq (f1.out.new [aa ab u.kind,aa ab u.num,ac u.name,.slice Au u.args.length cu] 30 (g:=b2.heap.size) rfl)
     have c1:=zq ((ap b2.heap.size b2).alloc (ae _) (.cells #[aa ab u.kind,aa ab u.num,ac u.name,.slice Au u.args.length cu] 30))
     have d4:=zq (f7.out.call c1.out)
     have d3:=zq (f6.out.call c1.out)
     obtain ⟨wv,g1⟩:=lz (b2.alloc (.cells #[aa ab u.kind,aa ab u.num,ac u.name,.slice Au u.args.length cu] 30))
     obtain ⟨gv,e3⟩:=lz (b2.heap.size)
     go_upto_region 13 with fail
     rw [<-g1.out] at L d4 d3 |-
     rw [<-e3.out] at L |-
     clear g1 e3 c1 f7 f6 f1
     have g4:=L.out.b.all
     simp only [QC.cells,ag,ai,aj,aH,aP,ah,af,and_true] at g4
     have b0:=zq (Trq.row L.out.p L.out.s.size (F:=[g8,z,w.heap.size]) (by intro b d;simp only [bh,be,or_false] at d;rcases d with rfl|rfl|rfl;exact L.out.b.lt 1 rfl;exact L.out.b.lt 2 rfl;exact L.out.b.lt 3 rfl) 30 [(t,A,C),(u,Au,cu)] (by simp [maxLen]) (by intro q hq;simp only [bh,be,or_false] at hq;rcases hq with rfl|rfl;exact d3.out;exact d4.out))
     clear d4 d3
     go_wp2_with fail
     refine (a6.out _ _ _ _ _).mono ?_;rintro e i2 ⟨rfl,y⟩
     have f0:=zq (L.out.call (((ap wv.heap.size wv).alloc (ae _) (.cells #[aa ab t.kind,aa ab t.num,ac t.name,.slice A t.args.length C,aa ab u.kind,aa ab u.num,ac u.name,.slice Au u.args.length cu] 30)).trans (y.mono (by simp))))
     have h4:=zq (b0.out.call y)
     clear L b0 g4 y
     have h7:=f0.out.b.all
     simp only [QC.cells,ag,ai,aj,aH,aP,ah,af,and_true] at h7
     have G:Wq c m wu (bv c.E.T m) nv w g7 ((((i2.setCell ⟨z,0,none⟩ (aa ab 3)).setCell ⟨z,1,none⟩ (aa ab 0)).setCell ⟨z,2,none⟩ (ac o.name)).setCell ⟨z,3,none⟩ (.slice (some ⟨wv.heap.size,0,none⟩) 2 2)) [(z,[aa ab 3,aa ab 0,ac o.name,.slice (some ⟨wv.heap.size,0,none⟩) 2 2]),(w.heap.size,[aa ab 0,aa ab 0,ac ⟨#[]⟩,.slice none 0 0])]:=(f0.out.tl.tl).put4 0 rfl (aa ab 3) (aa ab 0) (ac o.name) (.slice (some ⟨wv.heap.size,0,none⟩) 2 2) e4.out
     have D:=h4.out.put (g:=z) (by simp) (fun b d=>bH _ _ (aa ab 3) (aa ab 0) (ac o.name) (.slice (some ⟨wv.heap.size,0,none⟩) 2 2) b d) (by simp)
     have HZ:=zq G
     have d0:=zq D
     have c6:=zq (G.p.bk.c 1 _ rfl:_=some (aa ab (m:Int)))
     have c4:=zq G.p.n1
     clear G D
     go_wp2_with fail
     go_roundw
     case rel=>exact ⟨o.prec,m,wu,g7,ju o.name [t,u],(some ⟨wv.heap.size,0,none⟩),2,j,rfl,by have:=K.out;have:=b3.out.1;omega,by have:=K.out;have:=b3.out.1;omega,HZ,zq (d0.out.fewer (by intro b d;exact eQ _ d)),zq (by
       rcases b3.out.2 with h | ⟨r,O,h3⟩
       ·exact .inl h
       ·exact .inr ⟨r,by have:=b4.out;omega,h3⟩)⟩
     case measure=>rw [c6.out,e6.out];have:=K.out;have:=c4.out;have:=b3.out.1;simp;omega
theorem Bg (c:QC) (b:TkF c.E):∀f,zw c (uf c.E f) (c.E.T.length-f):=by
 intro f
 induction f with
 | zero=>intro a n e w d p;exact absurd p.n1 (by omega)
 | succ f ih=>intro a n e w d p;exact Bf b ih (by omega) p a
end Go.Proofs.YtbojljpldcijgaaGreat
