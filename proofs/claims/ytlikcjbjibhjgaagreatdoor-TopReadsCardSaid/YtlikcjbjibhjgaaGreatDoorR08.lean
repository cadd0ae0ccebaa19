/- Parts of the proof. -/
import Derived.Test.YtlikcjbjibhjgaaGreatDoorR01
import Derived.Test.YtlikcjbjibhjgaaGreatDoorR07
import Derived.Deep.CutBlock
set_option maxHeartbeats 12800000
set_option maxRecDepth 100000
open Go renaming Calls -> aJ, World -> ai, bodyPost_ret -> ay, heap_alloc_new -> dA, maxLen -> be, step_append_lies -> cg
open Go.Ending renaming returned -> aw
open Go.IntKind renaming i64 -> ae
open Go.Proofs.Tryz renaming prog -> ah, underlying65 -> bw
open Go.RowKit renaming Below -> ax
open Go.RowKit.Below renaming refl -> aj
open Go.Value renaming agg -> aN, bool -> am, int -> ab, string -> aQ, string -> aa, tuple -> aK
open Go.World renaming news_of_block -> dv
open Go.World.ownsRow renaming drew -> iN
open List renaming length_append -> aB, map_append -> bC, mem_singleton -> aG
open Nat renaming add_zero -> bv, le_refl -> ag, lt_of_lt_of_le -> aC, zero_mul -> gY
namespace Hb
open Go Go.RowKit
def ky (o:WO) (T:List OpR) (t:Tm):Bool:=!o.ig&&(has T t.name 2&&t.args.length==2)
def nV (o:WO) (T:List OpR) (S:Tm->WR) (t:Tm):WR:=if ky o T t=true then ((dE o T S (t.arg 0) (cP T t.name 2)++[jj o t.name])++bu o T S (t.arg 1) (dB (cP T t.name 2)) true,cP T t.name 2) else ([],op0)
theorem Ex {o:WO} {T:List OpR} {S:Tm->WR} {t:Tm} (h:ky o T t=false):nV o T S t=([],op0):=by unfold nV;rw [h];rfl
theorem AZ {o:WO} {T:List OpR} {S:Tm->WR} {t:Tm} (h:ky o T t=true):nV o T S t=((dE o T S (t.arg 0) (cP T t.name 2)++[jj o t.name])++bu o T S (t.arg 1) (dB (cP T t.name 2)) true,cP T t.name 2):=by unfold nV;rw [if_pos h]
theorem GD {o:WO} {s:ByteArray} (h:s.toList=[44]\/s.toList=[124]):jj o s=s:=by
 unfold jj;rw [if_pos (by rcases h with h | h <;> rw [h] <;> rfl)]
theorem GC {o:WO} {s:ByteArray} (a:¬s.toList=[44]) (b:¬s.toList=[124]):jj o s=jB o s:=by
 unfold jj;rw [if_neg (by simp [a,b])]
theorem qo {w:ai} {c e size:Nat} {v:Value} {n:Nat} {xs:List Value} (h:w.ownsRow c e size v n xs) (i:0<n):∃g a,v=.slice (some ⟨g,0,none⟩) n a/\∀j u,xs[j]? = some u->w.cell? ((⟨g,0,none⟩:Addr).add j)=some u:=by
 rcases h.2 with ⟨_,f⟩ | ⟨g,a,d,b,rest⟩
 ·omega
 ·exact ⟨g,a,b,h.cells (g:=g) (by rw [b];rfl)⟩
end Hb
namespace Go.Proofs.YtlikcjbjibhjgaaGreatDoor
open Go.RowKit Hb
variable {o:WO} {T:List OpR} {TA:Option Addr} {TN TC:Nat} {S:Tm->WR}
theorem Jt (t:Tm) (n1:t.name.size<=100) (k1:t.args.length=2->yo o T TA TN TC S (t.arg 0)) (k3:t.args.length=2->(t.arg 0).kind=3->SOK o T TA TN TC S (t.arg 0)) (k2:t.args.length=2->yo o T TA TN TC S (t.arg 1)) (m2:(S (t.arg 0)).1.length<=80000) (l2:∀m,(bu o T S (t.arg 1) m true).length<=80000/\0<(bu o T S (t.arg 1) m true).length) (l0:∀op,(dE o T S (t.arg 0) op).length<=80000) (A:Option Addr) (Z:Nat) (w:ai) (hE:Env T TA TN TC w) (hT:TmsAt w.heap.size w A t.args) :
  aJ ah 150 #[nN o TA TN TC,er t A Z] w fun e w'=>∃F n' c',e=aw (ym F n' c' (nV o T S t).2 (ky o T t))/\ax w.heap.size w w'/\OwnS 9 w.heap.size w' (.slice F n' c') (nV o T S t).1:=by
 obtain ⟨i,hi,l6,l7,l8⟩:=info_parts jf
 have HI:=zq hi
 have a7:=zq l6
 have a8:=zq l7
 have a9:=zq l8
 clear hi l6 l7 l8
 obtain ⟨LN,L⟩:=lz (t.args.length)
 have HX:=zq (Fr3.start w o TA TN TC t A Z LN 103 25 173 L.out (.slice none 0 0) (aa ⟨#[]⟩) (ab ae 0) (ab ae 0))
 have d6:=HX.out.f2.bel
 have e7:Hid (ky o T t=(!o.ig&&(has T t.name 2&&t.args.length==2))):=zq rfl
 have b0:=zq (fun W (h:ax w.heap.size w W)=>oT TA TN TC T t.name W hE.tab.len hE.few (hE.tab.below h).ops)
 have b2:=zq (fun W (h:ax w.heap.size w W)=>sW o TA TN TC t.name W (by omega) (hE.door.below h))
 have i3:=zq (fun (Y:LN=2) (op:OpR) (m3:0<=op.prec/\op.prec<=1200) F I W (h:ax w.heap.size w W) (h2:TmsAt w.heap.size w F (t.arg 0).args)=>FJ (t.arg 0) op m3 (k1 (by rw [<-L.out];exact Y)) (k3 (by rw [<-L.out];exact Y)) (by omega) F I W (hE.below h) ((h2.keep h).mono h.size))
 have i6:=zq (fun (Y:LN=2) (m:Int) F I W (h:ax w.heap.size w W) (h2:TmsAt w.heap.size w F (t.arg 1).args)=>k2 (by rw [<-L.out];exact Y) m true F I W (hE.below h) ((h2.keep h).mono h.size))
 have i7:=zq l2
 have i2:=zq (fun (h:LN=2)=>(⟨hT.get 0 (by rw [<-L.out,h];decide),hT.get 1 (by rw [<-L.out,h];decide)⟩:_/\_))
 have i1:=zq (fun (h:LN=2)=>(⟨Tm.arg_get t 0 (by rw [<-L.out,h];decide),Tm.arg_get t 1 (by rw [<-L.out,h];decide)⟩:_/\_))
 have h6:=zq l0
 have i8:=zq (uh (T:=T) (s:=t.name) (c:=2))
 have HY:=zq (AZ (o:=o) (T:=T) (S:=S) (t:=t))
 have i5:=zq (Ex (o:=o) (T:=T) (S:=S) (t:=t))
 have j6:Hid ((dt T t.name 2).isSome=has T t.name 2):=zq rfl
 have j5:Hid ((dt T t.name 2).getD op0=cP T t.name 2):=zq rfl
 rw [j6.out,j5.out] at b0
 clear hT hE k1 k3 k2 m2 l0 l2 j6 j5
 unfold er nN ym kZ at *
 rw [<-L.out] at e7 |-
 have m1:(ky o T t=false/\(o.ig=true\/has T t.name 2=false\/¬LN=2))\/(o.ig=false/\has T t.name 2=true/\LN=2):=by
  rw [e7.out]
  cases o.ig <;> cases has T t.name 2 <;> by_cases h:LN=2 <;> simp [h]
 rcases m1 with ⟨j3,m7⟩ | ⟨j2,h9,hl⟩
 ·rw [j3,i5.out j3]
  clear e7 i3 i6 i7 i2 i1 h6 i8 HY i5 b2 j3 HI a7 a8 a9
  generalize has T t.name 2=hs at *
  generalize cP T t.name 2=op at *
  rcases m7 with h5 | h5 | h5
  all_goals
   have m0:=zq h5
   clear h5
   go_enter Tryz.func150,Tryz.ntmps150
   go_wp2_with fail
   refine (b0.out _ d6).mono ?_;rintro e f ⟨rfl,d7⟩
   have G:=HX.out.call d7
   have r:=G.call ((aj _ _).alloc (ag _) (.cells #[aa op.name,ab ae op.typ,ab ae op.prec] 39))
   have y1:=r.f2.wb.c1
   have y3:=r.f2.tb.c3
   rw [<-L.out] at y3
   obtain ⟨u0,r0⟩:=G.rb.r0
   obtain ⟨u1,r1⟩:=G.rb.r1
   obtain ⟨u2,r2⟩:=G.rb.r2
   obtain ⟨u3,r3⟩:=G.rb.r3
   have f0:=G.rb.rf 0
   have f1:=G.rb.rf 1
   have f2:=G.rb.rf 2
   have f3:=G.rb.rf 3
   have i0:=G.rb.lt
   have k8:=G.f2.bel
   clear G r
   have h5:=m0.out
   go_wp2_with fail
   all_goals
    refine ay (v:=aK #[aN #[.slice none 0 0,aa ⟨#[]⟩,ab ae 0,ab ae 0],am false]) (by simp [results,Tryz.results150,go_sem,r0,r1,r2,r3,i0]) rfl ⟨none,0,0,rfl,(dg k8 _ (by omega) _ _ _ _).alloc (by rw [eD];exact k8.size) _,OwnS.nil _ _ _⟩
 ·have j4:ky o T t=true:=by rw [e7.out,j2,h9,hl];rfl
  rw [j4,HY.out j4]
  subst hl
  obtain ⟨⟨b,a,F,I,rfl,hb,e0,e1,e2,e3,l4⟩,⟨b',off',U,V,h8,_,d0,d1,d2,d3,l5⟩⟩:=i2.out rfl
  obtain ⟨rfl,rfl⟩:b=b'/\a=off':=by injection h8 with h8;injection h8 with Y h2 _;exact ⟨Y,h2⟩
  have m8:0<t.args.length:=by have:=L.out;omega
  have m9:1<t.args.length:=by have:=L.out;omega
  obtain ⟨k4,k6⟩:=i1.out rfl
  have m4:=i8.out h9
  have b1:=zq (i3.out rfl (cP T t.name 2) (by omega) F I)
  have b3:=zq (i6.out rfl (dB (cP T t.name 2)) U V)
  have j1:=i7.out (dB (cP T t.name 2))
  rw [k4] at b1 h6 |-
  rw [k6] at b3 j1 |-
  rw [h9] at b0
  rw [gY,bv] at e0 e1 e2 e3
  rw [Nat.one_mul] at d0 d1 d2 d3
  have i9:=zq l4
  have j0:=zq l5
  have d9:=zq (⟨e0,e1,e2,e3,d0,d1,d2,d3⟩:_/\_/\_/\_/\_/\_/\_/\_)
  have e4:=zq j2
  have h7:=zq (fun W=>mH (cP T t.name 2) W (by omega))
  have j9:=zq (GD (o:=o) (s:=t.name))
  have k0:=zq (GC (o:=o) (s:=t.name))
  unfold kZ at h7
  clear e7 i3 i6 i7 i2 i1 i8 HY i5 j4 h9 m4 j2 l4 l5 e0 e1 e2 e3 d0 d1 d2 d3 k4 k6 h8
  generalize cP T t.name 2=op at *
  generalize t.args[0]=x at *
  generalize t.args[1]=y at *
  obtain ⟨n,i4⟩:=lz (dE o T S x op)
  have n0:n.length<=80000:=by rw [i4.out];exact h6.out op
  rw [<-i4.out] at b1 |-
  obtain ⟨PL,j7⟩:=lz (bu o T S y (dB op) true)
  rw [<-j7.out] at b3 j1 |-
  obtain ⟨n2,e5⟩:=j1
  obtain ⟨nm,l9⟩:=lz (jB o t.name)
  rw [<-l9.out] at b2 k0
  generalize gi op=sl at *
  generalize dB op=sr at *
  clear h6 i4 j7
  have m6:t.name.toList=[44]\/(¬t.name.toList=[44]/\t.name.toList=[124])\/(¬t.name.toList=[44]/\¬t.name.toList=[124]):=by
   by_cases Y:t.name.toList=[44]
   ·exact .inl Y
   ·by_cases h2:t.name.toList=[124]
    ·exact .inr (.inl ⟨Y,h2⟩)
    ·exact .inr (.inr ⟨Y,h2⟩)
  rcases m6 with d8 | ⟨d8,h0⟩ | ⟨d8,h0⟩
  ·have f7:Hid (jj o t.name=t.name):=zq (j9.out (.inl d8))
   have l3:(t.name.toList==[44])=true:=by simp [d8]
   go_enter Tryz.func150,Tryz.ntmps150
   go_wp2_with fail
   refine (b0.out _ d6).mono ?_;rintro e f ⟨rfl,d7⟩
   have G:=HX.out.call d7
   have r:=G.call ((aj _ _).alloc (ag _) (.cells #[aa op.name,ab ae op.typ,ab ae op.prec] 39))
   have g4:=r.f2.bel
   have hG:=BoxG.start f op 39
   have y1:=r.f2.wb.c1
   have y3:=r.f2.tb.c3
   have y0:=r.f2.wb.c0
   have y2:=r.f2.wb.c2
   have y4:=r.f2.wb.c3
   have y5:=r.f2.tb.c2
   rw [<-L.out] at y3
   go_upto_region 2 with fail
   generalize f.alloc (.cells #[aa op.name,ab ae op.typ,ab ae op.prec] 39)=wA at *
   rw [e4.out] at y1
   have a5:=zq (b2.out wA g4)
   rw [e4.out] at a5
   go_wp2_with fail
   refine a5.out.mono ?_;rintro e w2 ⟨rfl,b4⟩
   have a1:=r.call b4
   have M:=hG.call b4
   have k9:=a1.f2.bel
   have k5:=a1.f2.tb.c2
   have g0:=M.c0
   have g1:=M.c1
   have g2:=M.c2
   clear y0 y1 y2 y3 y4 y5 a5
   go_wp2_with fail
   refine (h7.out _).mono ?_;rintro e d ⟨rfl,b5⟩
   have K:=a1.call b5
   have J:=M.call b5
   have O:=K.f2.bel
   clear k5 g0 g1 g2
   have i0:=G.rb.lt
   have a4:=K.rb.lt
   have B:Hid (∀X,RegH (w.heap.size+2) d X->X.cell? ⟨w.heap.size,0,none⟩=some (am o.q)/\X.cell? ⟨w.heap.size,1,none⟩=some (am o.ig)/\X.cell? ⟨w.heap.size,2,none⟩=some (am o.nu)/\X.cell? ⟨w.heap.size,3,none⟩=some (.slice TA TN TC)/\X.cell? ⟨w.heap.size+1,3,none⟩=some (.slice (some ⟨b,a,none⟩) 2 Z)/\X.cell? ⟨b,a,none⟩=some (ab ae x.kind)/\X.cell? ⟨b,a+1,none⟩=some (ab ae x.num)/\X.cell? ⟨b,a+2,none⟩=some (aa x.name)/\X.cell? ⟨b,a+3,none⟩=some (.slice F x.args.length I)/\X.cell? ⟨b,a+4,none⟩=some (ab ae y.kind)/\X.cell? ⟨b,a+4+1,none⟩=some (ab ae y.num)/\X.cell? ⟨b,a+4+2,none⟩=some (aa y.name)/\X.cell? ⟨b,a+4+3,none⟩=some (.slice U y.args.length V)/\X.cell? ⟨f.heap.size,0,none⟩=some (aa op.name)/\X.cell? ⟨f.heap.size,1,none⟩=some (ab ae op.typ)/\X.cell? ⟨f.heap.size,2,none⟩=some (ab ae op.prec)/\RegH (w.heap.size+2) d X):=zq (fun X h=>by
    have D:∀g k,g<d.heap.size->g≠w.heap.size+2->X.cell? ⟨g,k,none⟩=d.cell? ⟨g,k,none⟩:=fun g k Y h2=>h.on.cell (p:=⟨g,k,none⟩) Y h2
    have E:=K.f2.wb
    have d5:=K.f2.tb
    obtain ⟨e0,e1,e2,e3,d0,d1,d2,d3⟩:=d9.out
    have l:∀k,X.cell? ⟨b,k,none⟩=w.cell? ⟨b,k,none⟩:=fun k=>(D b k (aC hb O.size) (by omega)).trans (O.cell (p:=⟨b,k,none⟩) hb)
    have h3:=d5.c3
    rw [<-L.out] at h3
    exact ⟨(D _ _ E.lt (by omega)).trans E.c0,(D _ _ E.lt (by omega)).trans E.c1,(D _ _ E.lt (by omega)).trans E.c2,(D _ _ E.lt (by omega)).trans E.c3,(D _ _ d5.lt (by omega)).trans h3,(l _).trans e0,(l _).trans e1,(l _).trans e2,(l _).trans e3,(l _).trans d0,(l _).trans d1,(l _).trans d2,(l _).trans d3,(D _ _ J.lt (by omega)).trans J.c0,(D _ _ J.lt (by omega)).trans J.c1,(D _ _ J.lt (by omega)).trans J.c2,h⟩)
   have C:Hid (∀X,(X.cell? ⟨w.heap.size,0,none⟩=some (am o.q)/\X.cell? ⟨w.heap.size,1,none⟩=some (am o.ig)/\X.cell? ⟨w.heap.size,2,none⟩=some (am o.nu)/\X.cell? ⟨w.heap.size,3,none⟩=some (.slice TA TN TC)/\X.cell? ⟨w.heap.size+1,3,none⟩=some (.slice (some ⟨b,a,none⟩) 2 Z)/\X.cell? ⟨b,a,none⟩=some (ab ae x.kind)/\X.cell? ⟨b,a+1,none⟩=some (ab ae x.num)/\X.cell? ⟨b,a+2,none⟩=some (aa x.name)/\X.cell? ⟨b,a+3,none⟩=some (.slice F x.args.length I)/\X.cell? ⟨b,a+4,none⟩=some (ab ae y.kind)/\X.cell? ⟨b,a+4+1,none⟩=some (ab ae y.num)/\X.cell? ⟨b,a+4+2,none⟩=some (aa y.name)/\X.cell? ⟨b,a+4+3,none⟩=some (.slice U y.args.length V)/\X.cell? ⟨f.heap.size,0,none⟩=some (aa op.name)/\X.cell? ⟨f.heap.size,1,none⟩=some (ab ae op.typ)/\X.cell? ⟨f.heap.size,2,none⟩=some (ab ae op.prec)/\RegH (w.heap.size+2) d X)->RegH (w.heap.size+2) d X):=zq (fun X h=>h.2.2.2.2.2.2.2.2.2.2.2.2.2.2.2.2)
   have f8:Hid (RegH (w.heap.size+2) d d.drew):=zq (RegH.drew ⟨Only.refl _ _,K.rb⟩)
   have f6:Hid (RegH (w.heap.size+2) d (d.alloc (.cells #[aa t.name] 9)).drew):=zq (RegH.drew (RegH.alloc ⟨Only.refl _ _,K.rb⟩ _))
   have a2:∀X,RegH (w.heap.size+2) d X->ax w.heap.size w X:=fun X h=>O.trans (h.on.below (by omega) O.size)
   have e6:=zq a2
   have e8:Hid (∀X,RegH (w.heap.size+2) d X->aJ ah 179 #[aN #[am o.q,am o.ig,am o.nu,.slice TA TN TC],aN #[ab ae x.kind,ab ae x.num,aa x.name,.slice F x.args.length I],aN #[aa op.name,ab ae op.typ,ab ae op.prec]] X fun e w'=>∃v,e=aw v/\ax X.heap.size X w'/\OwnS 9 d.heap.size w' v n) :=
    zq (fun X h=>(b1.out X (a2 X h) i9.out).mono fun _ _ ⟨v,l,hB,hO⟩=>⟨v,l,hB,hO.mono h.on.size⟩)
   have f5:Hid (∀X,RegH (w.heap.size+2) d X->aJ ah 75 #[aN #[am o.q,am o.ig,am o.nu,.slice TA TN TC],aN #[ab ae y.kind,ab ae y.num,aa y.name,.slice U y.args.length V],ab ae sr,am true] X fun e w'=>∃g c,e=aw (.slice (some ⟨g,0,none⟩) PL.length c)/\ax X.heap.size X w'/\∀j u,(PL.map aQ)[j]? = some u->w'.cell? ((⟨g,0,none⟩:Addr).add j)=some u) :=
    zq (fun X h=>(b3.out X (a2 X h) j0.out).mono fun _ _ ⟨v,l,hB,hO⟩=>by
     obtain ⟨g,c,rfl,hc⟩:=qo hO e5
     exact ⟨g,c,l,hB,hc⟩)
   clear a2 b1 b3 b2 b0 HX d6 d9 G r a1 hG M
   go_wp2_with fail
   go_region_held3 (fun w'=>w'.cell? ⟨w.heap.size,0,none⟩=some (am o.q)/\w'.cell? ⟨w.heap.size,1,none⟩=some (am o.ig)/\w'.cell? ⟨w.heap.size,2,none⟩=some (am o.nu)/\w'.cell? ⟨w.heap.size,3,none⟩=some (.slice TA TN TC)/\w'.cell? ⟨w.heap.size+1,3,none⟩=some (.slice (some ⟨b,a,none⟩) 2 Z)/\w'.cell? ⟨b,a,none⟩=some (ab ae x.kind)/\w'.cell? ⟨b,a+1,none⟩=some (ab ae x.num)/\w'.cell? ⟨b,a+2,none⟩=some (aa x.name)/\w'.cell? ⟨b,a+3,none⟩=some (.slice F x.args.length I)/\w'.cell? ⟨b,a+4,none⟩=some (ab ae y.kind)/\w'.cell? ⟨b,a+4+1,none⟩=some (ab ae y.num)/\w'.cell? ⟨b,a+4+2,none⟩=some (aa y.name)/\w'.cell? ⟨b,a+4+3,none⟩=some (.slice U y.args.length V)/\w'.cell? ⟨f.heap.size,0,none⟩=some (aa op.name)/\w'.cell? ⟨f.heap.size,1,none⟩=some (ab ae op.typ)/\w'.cell? ⟨f.heap.size,2,none⟩=some (ab ae op.prec)/\RegH (w.heap.size+2) d w')
    (first
     | with_reducible exact B.out _ f8.out
     | with_reducible exact B.out _ (RegH.call (C.out _ (by with_reducible assumption)) (by with_reducible assumption))
     | with_reducible exact B.out _ f6.out
     | with_reducible exact B.out _ N
     | with_reducible exact B.out _ (RegH.alloc (C.out _ (by with_reducible assumption)) _))
    (first
     | (go_at_call 179;(with_reducible refine (e8.out _ (C.out _ (by with_reducible assumption))).mono ?_);rintro e H ⟨v4,rfl,b6,a0⟩)
     | (have d4:=a0.alloc (.cells #[aa t.name] 9);have Q:=C.out (H.alloc (.cells #[aa t.name] 9)) (by with_reducible assumption);refine cg _ (by rfl) _ _ 65 (by rfl) d.heap.size 9 i _ 1 16 bw HI.out a7.out a8.out a9.out (by rfl) (by decide) v4 n.length (n.map aQ) (by rfl) d4 ⟨H.heap.size,0,none⟩ 1 1 [aa t.name] (by rfl) (by rfl) (dv (dA H _)) (by intro u R;rw [aG] at R;subst R;rfl) (by decide) (by unfold be;omega) (by omega) Q.on.size (H.heap.size+1) (by simp) ?_;intro g6 c6 w6 a6 a3 b8 c4;have N:RegH (w.heap.size+2) d w6:=Q.grown a3 (fun k P=>(d4.lt k P).1) a4)
     | (have Q:=C.out H (by with_reducible assumption);have h4:∀j u,[aQ t.name][j]? = some u->H.cell? ((⟨d.heap.size,0,none⟩:Addr).add j)=some u:=dv ((b6.block d.heap.size (by simp)).trans (dA d _));refine cg _ (by rfl) _ _ 65 (by rfl) d.heap.size 9 i _ 1 16 bw HI.out a7.out a8.out a9.out (by rfl) (by decide) v4 n.length (n.map aQ) (by rfl) a0 ⟨d.heap.size,0,none⟩ 1 1 [aa t.name] (by rfl) (by rfl) h4 (by intro u R;rw [aG] at R;subst R;rfl) (by decide) (by unfold be;omega) (by omega) Q.on.size H.heap.size rfl ?_;intro g6 c6 w6 a6 a3 b8 c4;have N:RegH (w.heap.size+2) d w6:=Q.grown a3 (fun k P=>(a0.lt k P).1) a4)
     | fail)
   all_goals
    have j8:=zq N
    have e9:=zq (iN a6)
    have f9:Hid (RegH (w.heap.size+2) d w6.drew):=zq N.drew
    clear a6 a3 b8 c4 N a0 b6
    go_wp2_with fail
    go_region_held3 (fun w'=>w'.cell? ⟨w.heap.size,0,none⟩=some (am o.q)/\w'.cell? ⟨w.heap.size,1,none⟩=some (am o.ig)/\w'.cell? ⟨w.heap.size,2,none⟩=some (am o.nu)/\w'.cell? ⟨w.heap.size,3,none⟩=some (.slice TA TN TC)/\w'.cell? ⟨w.heap.size+1,3,none⟩=some (.slice (some ⟨b,a,none⟩) 2 Z)/\w'.cell? ⟨b,a,none⟩=some (ab ae x.kind)/\w'.cell? ⟨b,a+1,none⟩=some (ab ae x.num)/\w'.cell? ⟨b,a+2,none⟩=some (aa x.name)/\w'.cell? ⟨b,a+3,none⟩=some (.slice F x.args.length I)/\w'.cell? ⟨b,a+4,none⟩=some (ab ae y.kind)/\w'.cell? ⟨b,a+4+1,none⟩=some (ab ae y.num)/\w'.cell? ⟨b,a+4+2,none⟩=some (aa y.name)/\w'.cell? ⟨b,a+4+3,none⟩=some (.slice U y.args.length V)/\w'.cell? ⟨f.heap.size,0,none⟩=some (aa op.name)/\w'.cell? ⟨f.heap.size,1,none⟩=some (ab ae op.typ)/\w'.cell? ⟨f.heap.size,2,none⟩=some (ab ae op.prec)/\RegH (w.heap.size+2) d w')
     (first
      | with_reducible exact B.out _ f9.out
      | with_reducible exact B.out _ (RegH.call (C.out _ (by with_reducible assumption)) (by with_reducible assumption))
      | with_reducible exact B.out _ z
      | with_reducible exact B.out _ (RegH.put4 (C.out _ (by with_reducible assumption)) _ _ _ _))
     (first
      | (go_at_call 75;(with_reducible refine (f5.out _ (C.out _ (by with_reducible assumption))).mono ?_);rintro e w7 ⟨g7,c7,rfl,g3,g5⟩;have b7:=ls e9.out g3)
      | (have c9:=C.out w7 (by with_reducible assumption);refine cg _ (by rfl) _ _ 65 (by rfl) d.heap.size 9 i _ 1 16 bw HI.out a7.out a8.out a9.out (by rfl) (by decide) (.slice (some ⟨g6,0,none⟩) (n.length+1) c6) (n.length+1) (n.map aQ++[aa t.name]) (by rfl) b7 ⟨g7,0,none⟩ PL.length c7 (PL.map aQ) (by rfl) (by simp) g5 (gh _) e5 (by unfold be;omega) (by omega) c9.on.size w7.heap.size rfl ?_;intro g8 c8 w8 c5 b9 k7 l1;have z:RegH (w.heap.size+2) d w8:=c9.grown b9 (fun k P=>(b7.lt k P).1) a4;obtain ⟨u0,r0⟩:=z.rb.r0;obtain ⟨u1,r1⟩:=z.rb.r1;obtain ⟨u2,r2⟩:=z.rb.r2;obtain ⟨u3,r3⟩:=z.rb.r3;have f0:=z.rb.rf 0;have f1:=z.rb.rf 1;have f2:=z.rb.rf 2;have f3:=z.rb.rf 3)
      | fail)
    all_goals
     have g9:=dg (e6.out w8 z) (w.heap.size+2) (by omega) (.slice (some ⟨g8,0,none⟩) (n.length+1+PL.length) c8) (aa op.name) (ab ae op.typ) (ab ae op.prec)
     have f4:Hid (OwnS 9 d.heap.size w8 (.slice (some ⟨g8,0,none⟩) (n.length+1+PL.length) c8) ((n++[t.name])++PL)):=zq (by
      unfold OwnS
      rw [aB,bC,aB,bC];exact c5)
     clear c5 b9
     go_wp2_with fail
     refine ay (v:=aK #[aN #[.slice (some ⟨g8,0,none⟩) (n.length+1+PL.length) c8,aa op.name,ab ae op.typ,ab ae op.prec],am true]) (by simp [results,Tryz.results150,go_sem,r0,r1,r2,r3]) rfl ⟨_,_,_,rfl,g9,?_⟩
     rw [f7.out]
     exact (f4.out.put4 a4 _ _ _ _).mono O.size
  ·have f7:Hid (jj o t.name=t.name):=zq (j9.out (.inr h0))
   have l3:(t.name.toList==[44])=false:=by simp [d8]
   have m5:(t.name.toList==[124])=true:=by simp [h0]
   go_enter Tryz.func150,Tryz.ntmps150
   go_wp2_with fail
   refine (b0.out _ d6).mono ?_;rintro e f ⟨rfl,d7⟩
   have G:=HX.out.call d7
   have r:=G.call ((aj _ _).alloc (ag _) (.cells #[aa op.name,ab ae op.typ,ab ae op.prec] 39))
   have g4:=r.f2.bel
   have hG:=BoxG.start f op 39
   have y1:=r.f2.wb.c1
   have y3:=r.f2.tb.c3
   have y0:=r.f2.wb.c0
   have y2:=r.f2.wb.c2
   have y4:=r.f2.wb.c3
   have y5:=r.f2.tb.c2
   rw [<-L.out] at y3
   go_upto_region 2 with fail
   generalize f.alloc (.cells #[aa op.name,ab ae op.typ,ab ae op.prec] 39)=wA at *
   rw [e4.out] at y1
   have a5:=zq (b2.out wA g4)
   rw [e4.out] at a5
   go_wp2_with fail
   refine a5.out.mono ?_;rintro e w2 ⟨rfl,b4⟩
   have a1:=r.call b4
   have M:=hG.call b4
   have k9:=a1.f2.bel
   have k5:=a1.f2.tb.c2
   have g0:=M.c0
   have g1:=M.c1
   have g2:=M.c2
   clear y0 y1 y2 y3 y4 y5 a5
   go_wp2_with fail
   refine (h7.out _).mono ?_;rintro e d ⟨rfl,b5⟩
   have K:=a1.call b5
   have J:=M.call b5
   have O:=K.f2.bel
   clear k5 g0 g1 g2
   have i0:=G.rb.lt
   have a4:=K.rb.lt
   have B:Hid (∀X,RegH (w.heap.size+2) d X->X.cell? ⟨w.heap.size,0,none⟩=some (am o.q)/\X.cell? ⟨w.heap.size,1,none⟩=some (am o.ig)/\X.cell? ⟨w.heap.size,2,none⟩=some (am o.nu)/\X.cell? ⟨w.heap.size,3,none⟩=some (.slice TA TN TC)/\X.cell? ⟨w.heap.size+1,3,none⟩=some (.slice (some ⟨b,a,none⟩) 2 Z)/\X.cell? ⟨b,a,none⟩=some (ab ae x.kind)/\X.cell? ⟨b,a+1,none⟩=some (ab ae x.num)/\X.cell? ⟨b,a+2,none⟩=some (aa x.name)/\X.cell? ⟨b,a+3,none⟩=some (.slice F x.args.length I)/\X.cell? ⟨b,a+4,none⟩=some (ab ae y.kind)/\X.cell? ⟨b,a+4+1,none⟩=some (ab ae y.num)/\X.cell? ⟨b,a+4+2,none⟩=some (aa y.name)/\X.cell? ⟨b,a+4+3,none⟩=some (.slice U y.args.length V)/\X.cell? ⟨f.heap.size,0,none⟩=some (aa op.name)/\X.cell? ⟨f.heap.size,1,none⟩=some (ab ae op.typ)/\X.cell? ⟨f.heap.size,2,none⟩=some (ab ae op.prec)/\RegH (w.heap.size+2) d X):=zq (fun X h=>by
    have D:∀g k,g<d.heap.size->g≠w.heap.size+2->X.cell? ⟨g,k,none⟩=d.cell? ⟨g,k,none⟩:=fun g k Y h2=>h.on.cell (p:=⟨g,k,none⟩) Y h2
    have E:=K.f2.wb
    have d5:=K.f2.tb
    obtain ⟨e0,e1,e2,e3,d0,d1,d2,d3⟩:=d9.out
    have l:∀k,X.cell? ⟨b,k,none⟩=w.cell? ⟨b,k,none⟩:=fun k=>(D b k (aC hb O.size) (by omega)).trans (O.cell (p:=⟨b,k,none⟩) hb)
    have h3:=d5.c3
    rw [<-L.out] at h3
    exact ⟨(D _ _ E.lt (by omega)).trans E.c0,(D _ _ E.lt (by omega)).trans E.c1,(D _ _ E.lt (by omega)).trans E.c2,(D _ _ E.lt (by omega)).trans E.c3,(D _ _ d5.lt (by omega)).trans h3,(l _).trans e0,(l _).trans e1,(l _).trans e2,(l _).trans e3,(l _).trans d0,(l _).trans d1,(l _).trans d2,(l _).trans d3,(D _ _ J.lt (by omega)).trans J.c0,(D _ _ J.lt (by omega)).trans J.c1,(D _ _ J.lt (by omega)).trans J.c2,h⟩)
   have C:Hid (∀X,(X.cell? ⟨w.heap.size,0,none⟩=some (am o.q)/\X.cell? ⟨w.heap.size,1,none⟩=some (am o.ig)/\X.cell? ⟨w.heap.size,2,none⟩=some (am o.nu)/\X.cell? ⟨w.heap.size,3,none⟩=some (.slice TA TN TC)/\X.cell? ⟨w.heap.size+1,3,none⟩=some (.slice (some ⟨b,a,none⟩) 2 Z)/\X.cell? ⟨b,a,none⟩=some (ab ae x.kind)/\X.cell? ⟨b,a+1,none⟩=some (ab ae x.num)/\X.cell? ⟨b,a+2,none⟩=some (aa x.name)/\X.cell? ⟨b,a+3,none⟩=some (.slice F x.args.length I)/\X.cell? ⟨b,a+4,none⟩=some (ab ae y.kind)/\X.cell? ⟨b,a+4+1,none⟩=some (ab ae y.num)/\X.cell? ⟨b,a+4+2,none⟩=some (aa y.name)/\X.cell? ⟨b,a+4+3,none⟩=some (.slice U y.args.length V)/\X.cell? ⟨f.heap.size,0,none⟩=some (aa op.name)/\X.cell? ⟨f.heap.size,1,none⟩=some (ab ae op.typ)/\X.cell? ⟨f.heap.size,2,none⟩=some (ab ae op.prec)/\RegH (w.heap.size+2) d X)->RegH (w.heap.size+2) d X):=zq (fun X h=>h.2.2.2.2.2.2.2.2.2.2.2.2.2.2.2.2)
   have f8:Hid (RegH (w.heap.size+2) d d.drew):=zq (RegH.drew ⟨Only.refl _ _,K.rb⟩)
   have f6:Hid (RegH (w.heap.size+2) d (d.alloc (.cells #[aa t.name] 9)).drew):=zq (RegH.drew (RegH.alloc ⟨Only.refl _ _,K.rb⟩ _))
   have a2:∀X,RegH (w.heap.size+2) d X->ax w.heap.size w X:=fun X h=>O.trans (h.on.below (by omega) O.size)
   have e6:=zq a2
   have e8:Hid (∀X,RegH (w.heap.size+2) d X->aJ ah 179 #[aN #[am o.q,am o.ig,am o.nu,.slice TA TN TC],aN #[ab ae x.kind,ab ae x.num,aa x.name,.slice F x.args.length I],aN #[aa op.name,ab ae op.typ,ab ae op.prec]] X fun e w'=>∃v,e=aw v/\ax X.heap.size X w'/\OwnS 9 d.heap.size w' v n) :=
    zq (fun X h=>(b1.out X (a2 X h) i9.out).mono fun _ _ ⟨v,l,hB,hO⟩=>⟨v,l,hB,hO.mono h.on.size⟩)
   have f5:Hid (∀X,RegH (w.heap.size+2) d X->aJ ah 75 #[aN #[am o.q,am o.ig,am o.nu,.slice TA TN TC],aN #[ab ae y.kind,ab ae y.num,aa y.name,.slice U y.args.length V],ab ae sr,am true] X fun e w'=>∃g c,e=aw (.slice (some ⟨g,0,none⟩) PL.length c)/\ax X.heap.size X w'/\∀j u,(PL.map aQ)[j]? = some u->w'.cell? ((⟨g,0,none⟩:Addr).add j)=some u) :=
    zq (fun X h=>(b3.out X (a2 X h) j0.out).mono fun _ _ ⟨v,l,hB,hO⟩=>by
     obtain ⟨g,c,rfl,hc⟩:=qo hO e5
     exact ⟨g,c,l,hB,hc⟩)
   clear a2 b1 b3 b2 b0 HX d6 d9 G r a1 hG M
   go_wp2_with fail
   go_region_held3 (fun w'=>w'.cell? ⟨w.heap.size,0,none⟩=some (am o.q)/\w'.cell? ⟨w.heap.size,1,none⟩=some (am o.ig)/\w'.cell? ⟨w.heap.size,2,none⟩=some (am o.nu)/\w'.cell? ⟨w.heap.size,3,none⟩=some (.slice TA TN TC)/\w'.cell? ⟨w.heap.size+1,3,none⟩=some (.slice (some ⟨b,a,none⟩) 2 Z)/\w'.cell? ⟨b,a,none⟩=some (ab ae x.kind)/\w'.cell? ⟨b,a+1,none⟩=some (ab ae x.num)/\w'.cell? ⟨b,a+2,none⟩=some (aa x.name)/\w'.cell? ⟨b,a+3,none⟩=some (.slice F x.args.length I)/\w'.cell? ⟨b,a+4,none⟩=some (ab ae y.kind)/\w'.cell? ⟨b,a+4+1,none⟩=some (ab ae y.num)/\w'.cell? ⟨b,a+4+2,none⟩=some (aa y.name)/\w'.cell? ⟨b,a+4+3,none⟩=some (.slice U y.args.length V)/\w'.cell? ⟨f.heap.size,0,none⟩=some (aa op.name)/\w'.cell? ⟨f.heap.size,1,none⟩=some (ab ae op.typ)/\w'.cell? ⟨f.heap.size,2,none⟩=some (ab ae op.prec)/\RegH (w.heap.size+2) d w')
    (first
     | with_reducible exact B.out _ f8.out
     | with_reducible exact B.out _ (RegH.call (C.out _ (by with_reducible assumption)) (by with_reducible assumption))
     | with_reducible exact B.out _ f6.out
     | with_reducible exact B.out _ N
     | with_reducible exact B.out _ (RegH.alloc (C.out _ (by with_reducible assumption)) _))
    (first
     | (go_at_call 179;(with_reducible refine (e8.out _ (C.out _ (by with_reducible assumption))).mono ?_);rintro e H ⟨v4,rfl,b6,a0⟩)
     | (have d4:=a0.alloc (.cells #[aa t.name] 9);have Q:=C.out (H.alloc (.cells #[aa t.name] 9)) (by with_reducible assumption);refine cg _ (by rfl) _ _ 65 (by rfl) d.heap.size 9 i _ 1 16 bw HI.out a7.out a8.out a9.out (by rfl) (by decide) v4 n.length (n.map aQ) (by rfl) d4 ⟨H.heap.size,0,none⟩ 1 1 [aa t.name] (by rfl) (by rfl) (dv (dA H _)) (by intro u R;rw [aG] at R;subst R;rfl) (by decide) (by unfold be;omega) (by omega) Q.on.size (H.heap.size+1) (by simp) ?_;intro g6 c6 w6 a6 a3 b8 c4;have N:RegH (w.heap.size+2) d w6:=Q.grown a3 (fun k P=>(d4.lt k P).1) a4)
     | (have Q:=C.out H (by with_reducible assumption);have h4:∀j u,[aQ t.name][j]? = some u->H.cell? ((⟨d.heap.size,0,none⟩:Addr).add j)=some u:=dv ((b6.block d.heap.size (by simp)).trans (dA d _));refine cg _ (by rfl) _ _ 65 (by rfl) d.heap.size 9 i _ 1 16 bw HI.out a7.out a8.out a9.out (by rfl) (by decide) v4 n.length (n.map aQ) (by rfl) a0 ⟨d.heap.size,0,none⟩ 1 1 [aa t.name] (by rfl) (by rfl) h4 (by intro u R;rw [aG] at R;subst R;rfl) (by decide) (by unfold be;omega) (by omega) Q.on.size H.heap.size rfl ?_;intro g6 c6 w6 a6 a3 b8 c4;have N:RegH (w.heap.size+2) d w6:=Q.grown a3 (fun k P=>(a0.lt k P).1) a4)
     | fail)
   all_goals
    have j8:=zq N
    have e9:=zq (iN a6)
    have f9:Hid (RegH (w.heap.size+2) d w6.drew):=zq N.drew
    clear a6 a3 b8 c4 N a0 b6
    go_wp2_with fail
    go_region_held3 (fun w'=>w'.cell? ⟨w.heap.size,0,none⟩=some (am o.q)/\w'.cell? ⟨w.heap.size,1,none⟩=some (am o.ig)/\w'.cell? ⟨w.heap.size,2,none⟩=some (am o.nu)/\w'.cell? ⟨w.heap.size,3,none⟩=some (.slice TA TN TC)/\w'.cell? ⟨w.heap.size+1,3,none⟩=some (.slice (some ⟨b,a,none⟩) 2 Z)/\w'.cell? ⟨b,a,none⟩=some (ab ae x.kind)/\w'.cell? ⟨b,a+1,none⟩=some (ab ae x.num)/\w'.cell? ⟨b,a+2,none⟩=some (aa x.name)/\w'.cell? ⟨b,a+3,none⟩=some (.slice F x.args.length I)/\w'.cell? ⟨b,a+4,none⟩=some (ab ae y.kind)/\w'.cell? ⟨b,a+4+1,none⟩=some (ab ae y.num)/\w'.cell? ⟨b,a+4+2,none⟩=some (aa y.name)/\w'.cell? ⟨b,a+4+3,none⟩=some (.slice U y.args.length V)/\w'.cell? ⟨f.heap.size,0,none⟩=some (aa op.name)/\w'.cell? ⟨f.heap.size,1,none⟩=some (ab ae op.typ)/\w'.cell? ⟨f.heap.size,2,none⟩=some (ab ae op.prec)/\RegH (w.heap.size+2) d w')
     (first
      | with_reducible exact B.out _ f9.out
      | with_reducible exact B.out _ (RegH.call (C.out _ (by with_reducible assumption)) (by with_reducible assumption))
      | with_reducible exact B.out _ z
      | with_reducible exact B.out _ (RegH.put4 (C.out _ (by with_reducible assumption)) _ _ _ _))
     (first
      | (go_at_call 75;(with_reducible refine (f5.out _ (C.out _ (by with_reducible assumption))).mono ?_);rintro e w7 ⟨g7,c7,rfl,g3,g5⟩;have b7:=ls e9.out g3)
      | (have c9:=C.out w7 (by with_reducible assumption);refine cg _ (by rfl) _ _ 65 (by rfl) d.heap.size 9 i _ 1 16 bw HI.out a7.out a8.out a9.out (by rfl) (by decide) (.slice (some ⟨g6,0,none⟩) (n.length+1) c6) (n.length+1) (n.map aQ++[aa t.name]) (by rfl) b7 ⟨g7,0,none⟩ PL.length c7 (PL.map aQ) (by rfl) (by simp) g5 (gh _) e5 (by unfold be;omega) (by omega) c9.on.size w7.heap.size rfl ?_;intro g8 c8 w8 c5 b9 k7 l1;have z:RegH (w.heap.size+2) d w8:=c9.grown b9 (fun k P=>(b7.lt k P).1) a4;obtain ⟨u0,r0⟩:=z.rb.r0;obtain ⟨u1,r1⟩:=z.rb.r1;obtain ⟨u2,r2⟩:=z.rb.r2;obtain ⟨u3,r3⟩:=z.rb.r3;have f0:=z.rb.rf 0;have f1:=z.rb.rf 1;have f2:=z.rb.rf 2;have f3:=z.rb.rf 3)
      | fail)
    all_goals
     have g9:=dg (e6.out w8 z) (w.heap.size+2) (by omega) (.slice (some ⟨g8,0,none⟩) (n.length+1+PL.length) c8) (aa op.name) (ab ae op.typ) (ab ae op.prec)
     have f4:Hid (OwnS 9 d.heap.size w8 (.slice (some ⟨g8,0,none⟩) (n.length+1+PL.length) c8) ((n++[t.name])++PL)):=zq (by
      unfold OwnS
      rw [aB,bC,aB,bC];exact c5)
     clear c5 b9
     go_wp2_with fail
     refine ay (v:=aK #[aN #[.slice (some ⟨g8,0,none⟩) (n.length+1+PL.length) c8,aa op.name,ab ae op.typ,ab ae op.prec],am true]) (by simp [results,Tryz.results150,go_sem,r0,r1,r2,r3]) rfl ⟨_,_,_,rfl,g9,?_⟩
     rw [f7.out]
     exact (f4.out.put4 a4 _ _ _ _).mono O.size
  ·have f7:Hid (jj o t.name=nm):=zq (k0.out d8 h0)
   have l3:(t.name.toList==[44])=false:=by simp [d8]
   have m5:(t.name.toList==[124])=false:=by simp [h0]
   go_enter Tryz.func150,Tryz.ntmps150
   go_wp2_with fail
   refine (b0.out _ d6).mono ?_;rintro e f ⟨rfl,d7⟩
   have G:=HX.out.call d7
   have r:=G.call ((aj _ _).alloc (ag _) (.cells #[aa op.name,ab ae op.typ,ab ae op.prec] 39))
   have g4:=r.f2.bel
   have hG:=BoxG.start f op 39
   have y1:=r.f2.wb.c1
   have y3:=r.f2.tb.c3
   have y0:=r.f2.wb.c0
   have y2:=r.f2.wb.c2
   have y4:=r.f2.wb.c3
   have y5:=r.f2.tb.c2
   rw [<-L.out] at y3
   go_upto_region 2 with fail
   generalize f.alloc (.cells #[aa op.name,ab ae op.typ,ab ae op.prec] 39)=wA at *
   rw [e4.out] at y1
   have a5:=zq (b2.out wA g4)
   rw [e4.out] at a5
   go_wp2_with fail
   refine a5.out.mono ?_;rintro e w2 ⟨rfl,b4⟩
   have a1:=r.call b4
   have M:=hG.call b4
   have k9:=a1.f2.bel
   have k5:=a1.f2.tb.c2
   have g0:=M.c0
   have g1:=M.c1
   have g2:=M.c2
   clear y0 y1 y2 y3 y4 y5 a5
   go_wp2_with fail
   refine (h7.out _).mono ?_;rintro e d ⟨rfl,b5⟩
   have K:=a1.call b5
   have J:=M.call b5
   have O:=K.f2.bel
   clear k5 g0 g1 g2
   have i0:=G.rb.lt
   have a4:=K.rb.lt
   have B:Hid (∀X,RegH (w.heap.size+2) d X->X.cell? ⟨w.heap.size,0,none⟩=some (am o.q)/\X.cell? ⟨w.heap.size,1,none⟩=some (am o.ig)/\X.cell? ⟨w.heap.size,2,none⟩=some (am o.nu)/\X.cell? ⟨w.heap.size,3,none⟩=some (.slice TA TN TC)/\X.cell? ⟨w.heap.size+1,3,none⟩=some (.slice (some ⟨b,a,none⟩) 2 Z)/\X.cell? ⟨b,a,none⟩=some (ab ae x.kind)/\X.cell? ⟨b,a+1,none⟩=some (ab ae x.num)/\X.cell? ⟨b,a+2,none⟩=some (aa x.name)/\X.cell? ⟨b,a+3,none⟩=some (.slice F x.args.length I)/\X.cell? ⟨b,a+4,none⟩=some (ab ae y.kind)/\X.cell? ⟨b,a+4+1,none⟩=some (ab ae y.num)/\X.cell? ⟨b,a+4+2,none⟩=some (aa y.name)/\X.cell? ⟨b,a+4+3,none⟩=some (.slice U y.args.length V)/\X.cell? ⟨f.heap.size,0,none⟩=some (aa op.name)/\X.cell? ⟨f.heap.size,1,none⟩=some (ab ae op.typ)/\X.cell? ⟨f.heap.size,2,none⟩=some (ab ae op.prec)/\RegH (w.heap.size+2) d X):=zq (fun X h=>by
    have D:∀g k,g<d.heap.size->g≠w.heap.size+2->X.cell? ⟨g,k,none⟩=d.cell? ⟨g,k,none⟩:=fun g k Y h2=>h.on.cell (p:=⟨g,k,none⟩) Y h2
    have E:=K.f2.wb
    have d5:=K.f2.tb
    obtain ⟨e0,e1,e2,e3,d0,d1,d2,d3⟩:=d9.out
    have l:∀k,X.cell? ⟨b,k,none⟩=w.cell? ⟨b,k,none⟩:=fun k=>(D b k (aC hb O.size) (by omega)).trans (O.cell (p:=⟨b,k,none⟩) hb)
    have h3:=d5.c3
    rw [<-L.out] at h3
    exact ⟨(D _ _ E.lt (by omega)).trans E.c0,(D _ _ E.lt (by omega)).trans E.c1,(D _ _ E.lt (by omega)).trans E.c2,(D _ _ E.lt (by omega)).trans E.c3,(D _ _ d5.lt (by omega)).trans h3,(l _).trans e0,(l _).trans e1,(l _).trans e2,(l _).trans e3,(l _).trans d0,(l _).trans d1,(l _).trans d2,(l _).trans d3,(D _ _ J.lt (by omega)).trans J.c0,(D _ _ J.lt (by omega)).trans J.c1,(D _ _ J.lt (by omega)).trans J.c2,h⟩)
   have C:Hid (∀X,(X.cell? ⟨w.heap.size,0,none⟩=some (am o.q)/\X.cell? ⟨w.heap.size,1,none⟩=some (am o.ig)/\X.cell? ⟨w.heap.size,2,none⟩=some (am o.nu)/\X.cell? ⟨w.heap.size,3,none⟩=some (.slice TA TN TC)/\X.cell? ⟨w.heap.size+1,3,none⟩=some (.slice (some ⟨b,a,none⟩) 2 Z)/\X.cell? ⟨b,a,none⟩=some (ab ae x.kind)/\X.cell? ⟨b,a+1,none⟩=some (ab ae x.num)/\X.cell? ⟨b,a+2,none⟩=some (aa x.name)/\X.cell? ⟨b,a+3,none⟩=some (.slice F x.args.length I)/\X.cell? ⟨b,a+4,none⟩=some (ab ae y.kind)/\X.cell? ⟨b,a+4+1,none⟩=some (ab ae y.num)/\X.cell? ⟨b,a+4+2,none⟩=some (aa y.name)/\X.cell? ⟨b,a+4+3,none⟩=some (.slice U y.args.length V)/\X.cell? ⟨f.heap.size,0,none⟩=some (aa op.name)/\X.cell? ⟨f.heap.size,1,none⟩=some (ab ae op.typ)/\X.cell? ⟨f.heap.size,2,none⟩=some (ab ae op.prec)/\RegH (w.heap.size+2) d X)->RegH (w.heap.size+2) d X):=zq (fun X h=>h.2.2.2.2.2.2.2.2.2.2.2.2.2.2.2.2)
   have f8:Hid (RegH (w.heap.size+2) d d.drew):=zq (RegH.drew ⟨Only.refl _ _,K.rb⟩)
   have f6:Hid (RegH (w.heap.size+2) d (d.alloc (.cells #[aa nm] 9)).drew):=zq (RegH.drew (RegH.alloc ⟨Only.refl _ _,K.rb⟩ _))
   have a2:∀X,RegH (w.heap.size+2) d X->ax w.heap.size w X:=fun X h=>O.trans (h.on.below (by omega) O.size)
   have e6:=zq a2
   have e8:Hid (∀X,RegH (w.heap.size+2) d X->aJ ah 179 #[aN #[am o.q,am o.ig,am o.nu,.slice TA TN TC],aN #[ab ae x.kind,ab ae x.num,aa x.name,.slice F x.args.length I],aN #[aa op.name,ab ae op.typ,ab ae op.prec]] X fun e w'=>∃v,e=aw v/\ax X.heap.size X w'/\OwnS 9 d.heap.size w' v n) :=
    zq (fun X h=>(b1.out X (a2 X h) i9.out).mono fun _ _ ⟨v,l,hB,hO⟩=>⟨v,l,hB,hO.mono h.on.size⟩)
   have f5:Hid (∀X,RegH (w.heap.size+2) d X->aJ ah 75 #[aN #[am o.q,am o.ig,am o.nu,.slice TA TN TC],aN #[ab ae y.kind,ab ae y.num,aa y.name,.slice U y.args.length V],ab ae sr,am true] X fun e w'=>∃g c,e=aw (.slice (some ⟨g,0,none⟩) PL.length c)/\ax X.heap.size X w'/\∀j u,(PL.map aQ)[j]? = some u->w'.cell? ((⟨g,0,none⟩:Addr).add j)=some u) :=
    zq (fun X h=>(b3.out X (a2 X h) j0.out).mono fun _ _ ⟨v,l,hB,hO⟩=>by
     obtain ⟨g,c,rfl,hc⟩:=qo hO e5
     exact ⟨g,c,l,hB,hc⟩)
   clear a2 b1 b3 b2 b0 HX d6 d9 G r a1 hG M
   go_wp2_with fail
   go_region_held3 (fun w'=>w'.cell? ⟨w.heap.size,0,none⟩=some (am o.q)/\w'.cell? ⟨w.heap.size,1,none⟩=some (am o.ig)/\w'.cell? ⟨w.heap.size,2,none⟩=some (am o.nu)/\w'.cell? ⟨w.heap.size,3,none⟩=some (.slice TA TN TC)/\w'.cell? ⟨w.heap.size+1,3,none⟩=some (.slice (some ⟨b,a,none⟩) 2 Z)/\w'.cell? ⟨b,a,none⟩=some (ab ae x.kind)/\w'.cell? ⟨b,a+1,none⟩=some (ab ae x.num)/\w'.cell? ⟨b,a+2,none⟩=some (aa x.name)/\w'.cell? ⟨b,a+3,none⟩=some (.slice F x.args.length I)/\w'.cell? ⟨b,a+4,none⟩=some (ab ae y.kind)/\w'.cell? ⟨b,a+4+1,none⟩=some (ab ae y.num)/\w'.cell? ⟨b,a+4+2,none⟩=some (aa y.name)/\w'.cell? ⟨b,a+4+3,none⟩=some (.slice U y.args.length V)/\w'.cell? ⟨f.heap.size,0,none⟩=some (aa op.name)/\w'.cell? ⟨f.heap.size,1,none⟩=some (ab ae op.typ)/\w'.cell? ⟨f.heap.size,2,none⟩=some (ab ae op.prec)/\RegH (w.heap.size+2) d w')
    (first
     | with_reducible exact B.out _ f8.out
     | with_reducible exact B.out _ (RegH.call (C.out _ (by with_reducible assumption)) (by with_reducible assumption))
     | with_reducible exact B.out _ f6.out
     | with_reducible exact B.out _ N
     | with_reducible exact B.out _ (RegH.alloc (C.out _ (by with_reducible assumption)) _))
    (first
     | (go_at_call 179;(with_reducible refine (e8.out _ (C.out _ (by with_reducible assumption))).mono ?_);rintro e H ⟨v4,rfl,b6,a0⟩)
     | (have d4:=a0.alloc (.cells #[aa nm] 9);have Q:=C.out (H.alloc (.cells #[aa nm] 9)) (by with_reducible assumption);refine cg _ (by rfl) _ _ 65 (by rfl) d.heap.size 9 i _ 1 16 bw HI.out a7.out a8.out a9.out (by rfl) (by decide) v4 n.length (n.map aQ) (by rfl) d4 ⟨H.heap.size,0,none⟩ 1 1 [aa nm] (by rfl) (by rfl) (dv (dA H _)) (by intro u R;rw [aG] at R;subst R;rfl) (by decide) (by unfold be;omega) (by omega) Q.on.size (H.heap.size+1) (by simp) ?_;intro g6 c6 w6 a6 a3 b8 c4;have N:RegH (w.heap.size+2) d w6:=Q.grown a3 (fun k P=>(d4.lt k P).1) a4)
     | (have Q:=C.out H (by with_reducible assumption);have h4:∀j u,[aQ nm][j]? = some u->H.cell? ((⟨d.heap.size,0,none⟩:Addr).add j)=some u:=dv ((b6.block d.heap.size (by simp)).trans (dA d _));refine cg _ (by rfl) _ _ 65 (by rfl) d.heap.size 9 i _ 1 16 bw HI.out a7.out a8.out a9.out (by rfl) (by decide) v4 n.length (n.map aQ) (by rfl) a0 ⟨d.heap.size,0,none⟩ 1 1 [aa nm] (by rfl) (by rfl) h4 (by intro u R;rw [aG] at R;subst R;rfl) (by decide) (by unfold be;omega) (by omega) Q.on.size H.heap.size rfl ?_;intro g6 c6 w6 a6 a3 b8 c4;have N:RegH (w.heap.size+2) d w6:=Q.grown a3 (fun k P=>(a0.lt k P).1) a4)
     | fail)
   all_goals
    have j8:=zq N
    have e9:=zq (iN a6)
    have f9:Hid (RegH (w.heap.size+2) d w6.drew):=zq N.drew
    clear a6 a3 b8 c4 N a0 b6
    go_wp2_with fail
    go_region_held3 (fun w'=>w'.cell? ⟨w.heap.size,0,none⟩=some (am o.q)/\w'.cell? ⟨w.heap.size,1,none⟩=some (am o.ig)/\w'.cell? ⟨w.heap.size,2,none⟩=some (am o.nu)/\w'.cell? ⟨w.heap.size,3,none⟩=some (.slice TA TN TC)/\w'.cell? ⟨w.heap.size+1,3,none⟩=some (.slice (some ⟨b,a,none⟩) 2 Z)/\w'.cell? ⟨b,a,none⟩=some (ab ae x.kind)/\w'.cell? ⟨b,a+1,none⟩=some (ab ae x.num)/\w'.cell? ⟨b,a+2,none⟩=some (aa x.name)/\w'.cell? ⟨b,a+3,none⟩=some (.slice F x.args.length I)/\w'.cell? ⟨b,a+4,none⟩=some (ab ae y.kind)/\w'.cell? ⟨b,a+4+1,none⟩=some (ab ae y.num)/\w'.cell? ⟨b,a+4+2,none⟩=some (aa y.name)/\w'.cell? ⟨b,a+4+3,none⟩=some (.slice U y.args.length V)/\w'.cell? ⟨f.heap.size,0,none⟩=some (aa op.name)/\w'.cell? ⟨f.heap.size,1,none⟩=some (ab ae op.typ)/\w'.cell? ⟨f.heap.size,2,none⟩=some (ab ae op.prec)/\RegH (w.heap.size+2) d w')
     (first
      | with_reducible exact B.out _ f9.out
      | with_reducible exact B.out _ (RegH.call (C.out _ (by with_reducible assumption)) (by with_reducible assumption))
      | with_reducible exact B.out _ z
      | with_reducible exact B.out _ (RegH.put4 (C.out _ (by with_reducible assumption)) _ _ _ _))
     (first
      | (go_at_call 75;(with_reducible refine (f5.out _ (C.out _ (by with_reducible assumption))).mono ?_);rintro e w7 ⟨g7,c7,rfl,g3,g5⟩;have b7:=ls e9.out g3)
      | (have c9:=C.out w7 (by with_reducible assumption);refine cg _ (by rfl) _ _ 65 (by rfl) d.heap.size 9 i _ 1 16 bw HI.out a7.out a8.out a9.out (by rfl) (by decide) (.slice (some ⟨g6,0,none⟩) (n.length+1) c6) (n.length+1) (n.map aQ++[aa nm]) (by rfl) b7 ⟨g7,0,none⟩ PL.length c7 (PL.map aQ) (by rfl) (by simp) g5 (gh _) e5 (by unfold be;omega) (by omega) c9.on.size w7.heap.size rfl ?_;intro g8 c8 w8 c5 b9 k7 l1;have z:RegH (w.heap.size+2) d w8:=c9.grown b9 (fun k P=>(b7.lt k P).1) a4;obtain ⟨u0,r0⟩:=z.rb.r0;obtain ⟨u1,r1⟩:=z.rb.r1;obtain ⟨u2,r2⟩:=z.rb.r2;obtain ⟨u3,r3⟩:=z.rb.r3;have f0:=z.rb.rf 0;have f1:=z.rb.rf 1;have f2:=z.rb.rf 2;have f3:=z.rb.rf 3)
      | fail)
    all_goals
     have g9:=dg (e6.out w8 z) (w.heap.size+2) (by omega) (.slice (some ⟨g8,0,none⟩) (n.length+1+PL.length) c8) (aa op.name) (ab ae op.typ) (ab ae op.prec)
     have f4:Hid (OwnS 9 d.heap.size w8 (.slice (some ⟨g8,0,none⟩) (n.length+1+PL.length) c8) ((n++[nm])++PL)):=zq (by
      unfold OwnS
      rw [aB,bC,aB,bC];exact c5)
     clear c5 b9
     go_wp2_with fail
     refine ay (v:=aK #[aN #[.slice (some ⟨g8,0,none⟩) (n.length+1+PL.length) c8,aa op.name,ab ae op.typ,ab ae op.prec],am true]) (by simp [results,Tryz.results150,go_sem,r0,r1,r2,r3]) rfl ⟨_,_,_,rfl,g9,?_⟩
     rw [f7.out]
     exact (f4.out.put4 a4 _ _ _ _).mono O.size
end Go.Proofs.YtlikcjbjibhjgaaGreatDoor
namespace Hb
open Go Go.RowKit
def jI (o:WO) (T:List OpR) (t:Tm):Bool:=!o.ig&&(has T t.name 1&&t.args.length==1)
def lU (o:WO) (T:List OpR) (S:Tm->WR) (t:Tm):WR:=if jI o T t=true then
  (jB o t.name::((if sx t.name (gD o T S (t.arg 0) (cP T t.name 1))=true then [s1 32] else [])++gD o T S (t.arg 0) (cP T t.name 1)),cP T t.name 1) else ([],op0)
theorem AY {o:WO} {T:List OpR} {S:Tm->WR} {t:Tm} (h:jI o T t=false):lU o T S t=([],op0):=by unfold lU;rw [h];rfl
theorem yS {o:WO} {T:List OpR} {S:Tm->WR} {t:Tm} (h:jI o T t=true):lU o T S t=(jB o t.name::((if sx t.name (gD o T S (t.arg 0) (cP T t.name 1))=true then [s1 32] else [])++gD o T S (t.arg 0) (cP T t.name 1)),cP T t.name 1):=by unfold lU;rw [if_pos h]
theorem Mw {l:List ByteArray} (h:0<l.length):(l.map aQ)[0]? = some (aa (hd l)):=by
 cases l with
 | nil=>simp at h
 | cons a l=>rfl
theorem KZ {l:List ByteArray} {b:Bool} (h:0<l.length):0<(brk l b).length:=by
 unfold brk;split
 ·simp
 ·exact h
theorem MO (l:List ByteArray) (b:Bool):(brk l b).length<=l.length+2:=by
 unfold brk;split
 ·simp
 ·omega
theorem zU {l:List ByteArray} {b:Bool} (h:(hd l).size<=1000000):(hd (brk l b)).size<=1000000:=by
 unfold brk;split
 ·exact (by decide:(s1 40).size<=1000000)
 ·exact h
theorem Hy {w:ai} {c e n:Nat} {v:Value} {l:List ByteArray} (h:w.ownsRow c e 1 v n (l.map aQ)) (d:0<l.length) (i:n=l.length):∃g a,v=.slice (some ⟨g,0,none⟩) n a/\w.cell? ⟨g,0,none⟩=some (aa (hd l))/\∀j u,(l.map aQ)[j]? = some u->w.cell? ((⟨g,0,none⟩:Addr).add j)=some u:=by
 obtain ⟨g,a,f,b⟩:=qo h (by omega)
 exact ⟨g,a,f,b 0 _ (Mw d),b⟩
end Hb
namespace Go.Proofs.YtlikcjbjibhjgaaGreatDoor
open Go.RowKit Hb
variable {o:WO} {T:List OpR} {TA:Option Addr} {TN TC:Nat} {S:Tm->WR}
theorem FH (t:Tm) (t4:t.name.size<=100) (m1:t.args.length=1->yo o T TA TN TC S (t.arg 0)) (n9:∀m,(bu o T S (t.arg 0) m true).length<=80000/\0<(bu o T S (t.arg 0) m true).length/\(hd (bu o T S (t.arg 0) m true)).size<=1000000) (A:Option Addr) (b9:Nat) (w:ai) (C:Env T TA TN TC w) (hT:TmsAt w.heap.size w A t.args) :
  aJ ah 152 #[nN o TA TN TC,er t A b9] w fun e w'=>∃H n' c',e=aw (ym H n' c' (lU o T S t).2 (jI o T t))/\ax w.heap.size w w'/\OwnS 9 w.heap.size w' (.slice H n' c') (lU o T S t).1:=by
 obtain ⟨i,hi,o6,o7,o8⟩:=info_parts jf
 have HI:=zq hi
 have i5:=zq o6
 have i6:=zq o7
 have i7:=zq o8
 clear hi o6 o7 o8
 obtain ⟨U,K⟩:=lz (t.args.length)
 have HX:=zq (Fr3.start w o TA TN TC t A b9 U 103 25 173 K.out (.slice none 0 0) (aa ⟨#[]⟩) (ab ae 0) (ab ae 0))
 have g4:=HX.out.f2.bel
 have b1:Hid (jI o T t=(!o.ig&&(has T t.name 1&&t.args.length==1))):=zq rfl
 have b7:=zq (fun W (h:ax w.heap.size w W)=>mX TA TN TC T t.name W C.tab.len C.few (C.tab.below h).ops)
 have d8:=zq (fun W (h:ax w.heap.size w W)=>sW o TA TN TC t.name W (by omega) (C.door.below h))
 have h9:=zq (fun (G:U=1) (m:Int) H Y W (h:ax w.heap.size w W) (h2:TmsAt w.heap.size w H (t.arg 0).args)=>m1 (by rw [<-K.out];exact G) m true H Y W (C.below h) ((h2.keep h).mono h.size))
 have g5:=zq (fun (h:U=1)=>hT.get 0 (by rw [<-K.out,h];decide))
 have g3:=zq (fun (h:U=1)=>Tm.arg_get t 0 (by rw [<-K.out,h];decide))
 have i0:=zq n9
 have b4:=zq (fun W (h:ax w.heap.size w W)=>mX TA TN TC T (s1 45) W C.tab.len C.few (C.tab.below h).ops)
 have b5:=zq (fun W (h:ax w.heap.size w W)=>oT TA TN TC T (s1 45) W C.tab.len C.few (C.tab.below h).ops)
 have b6:=zq (fun W (h:ax w.heap.size w W)=>lZ TA TN TC T (s1 45) W C.tab.len C.few (C.tab.below h).ops)
 have i2:=zq (uh (T:=T) (s:=t.name) (c:=1))
 have HY:=zq (yS (o:=o) (T:=T) (S:=S) (t:=t))
 have g8:=zq (AY (o:=o) (T:=T) (S:=S) (t:=t))
 have l0:Hid ((dt T t.name 1).isSome=has T t.name 1):=zq rfl
 have k7:Hid ((dt T t.name 1).getD op0=cP T t.name 1):=zq rfl
 rw [l0.out,k7.out] at b7
 clear hT C m1 n9 l0 k7
 unfold er nN ym kZ at *
 rw [<-K.out] at b1 |-
 have r6:(jI o T t=false/\(o.ig=true\/has T t.name 1=false\/¬U=1))\/(o.ig=false/\has T t.name 1=true/\U=1):=by
  rw [b1.out]
  cases o.ig <;> cases has T t.name 1 <;> by_cases h:U=1 <;> simp [h]
 rcases r6 with ⟨j8,s4⟩ | ⟨j7,f8,hl⟩
 ·rw [j8,g8.out j8]
  clear b1 h9 i0 b4 b5 b6 g5 g3 i2 HY g8 d8 j8 HI i5 i6 i7
  generalize has T t.name 1=hs at *
  generalize cP T t.name 1=op at *
  rcases s4 with d3 | d3 | d3
  all_goals
   have p3:=zq d3
   clear d3
   go_enter Tryz.func152,Tryz.ntmps152
   go_wp2_with fail
   refine (b7.out _ g4).mono ?_;rintro e l ⟨rfl,i8⟩
   have z:=HX.out.call i8
   have N:=z.call ((aj _ _).alloc (ag _) (.cells #[aa op.name,ab ae op.typ,ab ae op.prec] 39))
   have y1:=N.f2.wb.c1
   have y3:=N.f2.tb.c3
   rw [<-K.out] at y3
   obtain ⟨u0,r0⟩:=z.rb.r0
   obtain ⟨u1,r1⟩:=z.rb.r1
   obtain ⟨u2,r2⟩:=z.rb.r2
   obtain ⟨u3,r3⟩:=z.rb.r3
   have f0:=z.rb.rf 0
   have f1:=z.rb.rf 1
   have f2:=z.rb.rf 2
   have f3:=z.rb.rf 3
   have n6:=z.rb.lt
   have m7:=z.f2.bel
   clear z N
   have d3:=p3.out
   go_wp2_with fail
   all_goals
    refine ay (v:=aK #[aN #[.slice none 0 0,aa ⟨#[]⟩,ab ae 0,ab ae 0],am false]) (by simp [results,Tryz.results152,go_sem,r0,r1,r2,r3,n6]) rfl ⟨none,0,0,rfl,(dg m7 _ (by omega) _ _ _ _).alloc (by rw [eD];exact m7.size) _,OwnS.nil _ _ _⟩
 ·have k1:jI o T t=true:=by rw [b1.out,j7,f8,hl];rfl
  rw [k1,HY.out k1]
  subst hl
  obtain ⟨b,E,H,Y,rfl,hb,e0,L,M,e3,o2⟩:=g5.out rfl
  have t1:0<t.args.length:=by have:=K.out;omega
  have k2:=zq (g3.out rfl)
  have s3:=i2.out f8
  have e5:=zq (h9.out rfl (dB (cP T t.name 1)) H Y)
  have j3:=i0.out (dB (cP T t.name 1))
  have d4:Hid (gD o T S (t.arg 0) (cP T t.name 1)=brk (bu o T S (t.arg 0) (dB (cP T t.name 1)) true) (rE T (hd (bu o T S (t.arg 0) (dB (cP T t.name 1)) true)))):=zq rfl
  rw [k2.out] at e5 j3 d4 |-
  rw [f8] at b7
  rw [gY,bv] at e0 L M e3
  have p2:=zq o2
  have k5:=zq (⟨e0,L,M,e3⟩:_/\_/\_/\_)
  have o9:=zq j7
  have i3:=zq (fun W=>mH (cP T t.name 1) W (by omega))
  unfold kZ at i3
  have l1:Hid (∀h,rE T h=((decide (0<h.size)&&iK h.data.toList 0==45)&&(np h 1&&((has T (s1 45) 2||has T (s1 45) 3) && !has T (s1 45) 1)))):=zq (fun _=>rfl)
  have b0:Hid ((dt T (s1 45) 1).isSome=has T (s1 45) 1):=zq rfl
  have k8:Hid ((dt T (s1 45) 2).isSome=has T (s1 45) 2):=zq rfl
  have k9:Hid ((dt T (s1 45) 3).isSome=has T (s1 45) 3):=zq rfl
  rw [b0.out] at b4
  rw [k8.out] at b5
  rw [k9.out] at b6
  clear b1 h9 i0 g5 g3 i2 HY g8 k1 f8 s3 j7 o2 e0 L M e3 k2 b0 k8 k9
  generalize (dt T (s1 45) 1).getD op0=q1 at *
  generalize (dt T (s1 45) 2).getD op0=q2 at *
  generalize (dt T (s1 45) 3).getD op0=q3 at *
  generalize has T (s1 45) 1=o1 at *
  generalize has T (s1 45) 2=n5 at *
  generalize has T (s1 45) 3=o0 at *
  unfold s1 at b4 b5 b6
  generalize cP T t.name 1=op at *
  generalize t.args[0]=x at *
  obtain ⟨PL,l5⟩:=lz (bu o T S x (dB op) true)
  rw [<-l5.out] at e5 j3 d4
  rw [d4.out]
  obtain ⟨t7,j9,s2⟩:=j3
  obtain ⟨n,g7⟩:=lz (jB o t.name)
  rw [<-g7.out] at d8
  generalize gi op=sl at *
  generalize dB op=sr at *
  clear l5 d4
  have b2:=zq (l1.out (hd PL))
  obtain ⟨B,l2⟩:=lz (rE T (hd PL))
  rw [<-l2.out] at b2 |-
  have e6:Hid (sx t.name (brk PL B)=((hd (brk PL B)).toList==[40]||(t.name.toList==[45]&&np (hd (brk PL B)) 0))):=zq rfl
  obtain ⟨p4,l6⟩:=lz (jB o t.name::((if sx t.name (brk PL B)=true then [s1 32] else [])++brk PL B))
  rw [<-l6.out]
  clear l1
  go_enter Tryz.func152,Tryz.ntmps152
  go_wp2_with fail
  refine (b7.out _ g4).mono ?_;rintro e l ⟨rfl,i8⟩
  have z:=HX.out.call i8
  have N:=z.call ((aj _ _).alloc (ag _) (.cells #[aa op.name,ab ae op.typ,ab ae op.prec] 39))
  have s7:=N.f2.bel
  have hG:=BoxG.start l op 39
  have n6:=z.rb.lt
  have y1:=N.f2.wb.c1
  have y3:=N.f2.tb.c3
  have g0:=hG.c0
  have r:=hG.c1
  have g2:=hG.c2
  rw [<-K.out] at y3
  go_upto_region 2 with fail
  generalize l.alloc (.cells #[aa op.name,ab ae op.typ,ab ae op.prec] 39)=wA at *
  rw [o9.out] at y1
  go_wp2_with fail
  refine (i3.out _).mono ?_;rintro e d ⟨rfl,l8⟩
  have a7:=N.call l8
  have p9:=hG.call l8
  have f6:=a7.f2.bel
  clear y1 y3 g0 r g2 z
  have t2:=a7.rb.lt
  have g6:Hid (∀X,RegH (w.heap.size+2) d X->X.cell? ⟨w.heap.size,0,none⟩=some (am o.q)/\X.cell? ⟨w.heap.size,1,none⟩=some (am o.ig)/\X.cell? ⟨w.heap.size,2,none⟩=some (am o.nu)/\X.cell? ⟨w.heap.size,3,none⟩=some (.slice TA TN TC)/\X.cell? ⟨w.heap.size+1,3,none⟩=some (.slice (some ⟨b,E,none⟩) 1 b9)/\X.cell? ⟨b,E,none⟩=some (ab ae x.kind)/\X.cell? ⟨b,E+1,none⟩=some (ab ae x.num)/\X.cell? ⟨b,E+2,none⟩=some (aa x.name)/\X.cell? ⟨b,E+3,none⟩=some (.slice H x.args.length Y)/\RegH (w.heap.size+2) d X):=zq (fun X h=>by
   have J:∀g k,g<d.heap.size->g≠w.heap.size+2->X.cell? ⟨g,k,none⟩=d.cell? ⟨g,k,none⟩:=fun g k G h2=>h.on.cell (p:=⟨g,k,none⟩) G h2
   have Q:=a7.f2.wb
   have o4:=a7.f2.tb
   obtain ⟨e0,L,M,e3⟩:=k5.out
   have he:∀k,X.cell? ⟨b,k,none⟩=w.cell? ⟨b,k,none⟩:=fun k=>(J b k (aC hb f6.size) (by omega)).trans (f6.cell (p:=⟨b,k,none⟩) hb)
   have h3:=o4.c3
   rw [<-K.out] at h3
   exact ⟨(J _ _ Q.lt (by omega)).trans Q.c0,(J _ _ Q.lt (by omega)).trans Q.c1,(J _ _ Q.lt (by omega)).trans Q.c2,(J _ _ Q.lt (by omega)).trans Q.c3,(J _ _ o4.lt (by omega)).trans h3,(he _).trans e0,(he _).trans L,(he _).trans M,(he _).trans e3,h⟩)
  have h7:Hid (∀X,(X.cell? ⟨w.heap.size,0,none⟩=some (am o.q)/\X.cell? ⟨w.heap.size,1,none⟩=some (am o.ig)/\X.cell? ⟨w.heap.size,2,none⟩=some (am o.nu)/\X.cell? ⟨w.heap.size,3,none⟩=some (.slice TA TN TC)/\X.cell? ⟨w.heap.size+1,3,none⟩=some (.slice (some ⟨b,E,none⟩) 1 b9)/\X.cell? ⟨b,E,none⟩=some (ab ae x.kind)/\X.cell? ⟨b,E+1,none⟩=some (ab ae x.num)/\X.cell? ⟨b,E+2,none⟩=some (aa x.name)/\X.cell? ⟨b,E+3,none⟩=some (.slice H x.args.length Y)/\RegH (w.heap.size+2) d X)->RegH (w.heap.size+2) d X):=zq (fun X h=>h.2.2.2.2.2.2.2.2.2)
  have a3:Hid (RegH (w.heap.size+2) d d.drew):=zq (RegH.drew ⟨Only.refl _ _,a7.rb⟩)
  have j4:∀X,RegH (w.heap.size+2) d X->ax w.heap.size w X:=fun X h=>f6.trans (h.on.below (by omega) f6.size)
  have s6:=zq j4
  have l4:Hid (∀X,RegH (w.heap.size+2) d X->aJ ah 75 #[aN #[am o.q,am o.ig,am o.nu,.slice TA TN TC],aN #[ab ae x.kind,ab ae x.num,aa x.name,.slice H x.args.length Y],ab ae sr,am true] X fun e w'=>∃v,e=aw v/\ax X.heap.size X w'/\OwnS 9 d.heap.size w' v PL) :=
   zq (fun X h=>(e5.out X (j4 X h) p2.out).mono fun _ _ ⟨v,he,hB,hO⟩=>⟨v,he,hB,hO.mono h.on.size⟩)
  have d6:=zq (fun X (h:ax d.heap.size d X)=>(⟨a7.call h,p9.call h⟩:_/\_))
  clear j4 e5 b7 HX g4 k5 N hG i3
  go_wp2_with fail
  go_region_held3 (fun w'=>w'.cell? ⟨w.heap.size,0,none⟩=some (am o.q)/\w'.cell? ⟨w.heap.size,1,none⟩=some (am o.ig)/\w'.cell? ⟨w.heap.size,2,none⟩=some (am o.nu)/\w'.cell? ⟨w.heap.size,3,none⟩=some (.slice TA TN TC)/\w'.cell? ⟨w.heap.size+1,3,none⟩=some (.slice (some ⟨b,E,none⟩) 1 b9)/\w'.cell? ⟨b,E,none⟩=some (ab ae x.kind)/\w'.cell? ⟨b,E+1,none⟩=some (ab ae x.num)/\w'.cell? ⟨b,E+2,none⟩=some (aa x.name)/\w'.cell? ⟨b,E+3,none⟩=some (.slice H x.args.length Y)/\RegH (w.heap.size+2) d w')
   (first
    | with_reducible exact g6.out _ a3.out
    | with_reducible exact g6.out _ (RegH.call (h7.out _ (by with_reducible assumption)) (by with_reducible assumption)))
   (first
    | (go_at_call 75;(with_reducible refine (l4.out _ (h7.out _ (by with_reducible assumption))).mono ?_);rintro e w4 ⟨v4,rfl,l9,j1⟩)
    | fail)
  have e9:ax d.heap.size d w4:=(aj d.heap.size d).drew.trans l9
  obtain ⟨c7,p7⟩:=d6.out w4 e9
  have a8:=c7.f2.bel
  obtain ⟨gp,cp,rfl,n0,r5⟩:=Hy j1 j9 rfl
  have h4:=zq j1
  have x3:=c7.f2.wb.c3
  clear l9 j1
  go_wp2_with fail
  refine (b4.out _ a8).mono ?_;rintro e w5 ⟨rfl,c4⟩
  have a9:=(a8.trans (c4.mono a8.size)).alloc (a8.trans (c4.mono a8.size)).size (.cells #[aa q1.name,ab ae q1.typ,ab ae q1.prec] 39)
  have a4:ax w4.heap.size w4 (w5.alloc (.cells #[aa q1.name,ab ae q1.typ,ab ae q1.prec] 39)):=c4.alloc c4.size _
  have m3:=c7.call a4
  have x5:=m3.f2.wb.c3
  clear x3
  go_wp2_with fail
  refine (b5.out _ a9).mono ?_;rintro e w6 ⟨rfl,c5⟩
  have m8:=(a9.trans (c5.mono a9.size)).alloc (a9.trans (c5.mono a9.size)).size (.cells #[aa q2.name,ab ae q2.typ,ab ae q2.prec] 39)
  have a5:ax w4.heap.size w4 (w6.alloc (.cells #[aa q2.name,ab ae q2.typ,ab ae q2.prec] 39)):=(a4.trans (c5.mono a4.size)).alloc (a4.trans (c5.mono a4.size)).size _
  have m4:=c7.call a5
  have x6:=m4.f2.wb.c3
  clear x5
  go_wp2_with fail
  refine (b6.out _ m8).mono ?_;rintro e w7 ⟨rfl,i9⟩
  have e8:ax w4.heap.size w4 (w7.alloc (.cells #[aa q3.name,ab ae q3.typ,ab ae q3.prec] 39)):=(a5.trans (i9.mono a5.size)).alloc (a5.trans (i9.mono a5.size)).size _
  clear x6 m3 m4 a4 a9 m8 a5
  go_upto_region 9 with fail
  generalize w7.alloc (.cells #[aa q3.name,ab ae q3.typ,ab ae q3.prec] 39)=wB at *
  have n3:gp<w4.heap.size:=(h4.out.lt gp rfl).2
  have r7:wB.cell? ⟨gp,0,none⟩=some (aa (hd PL)):=(e8.cell (p:=⟨gp,0,none⟩) n3).trans n0
  have h6:=zq (h4.out.below e8)
  have f4:ax d.heap.size d wB:=e9.trans (e8.mono e9.size)
  obtain ⟨m5,p8⟩:=d6.out wB f4
  have q7:=m5.f2.bel
  have k0:=f4.size
  obtain ⟨pn,i1⟩:=lz (PL.length)
  rw [<-i1.out] at h6 |-
  have t8:0<pn:=by rw [i1.out];exact j9
  have t6:(0:Int)<(pn:Int):=by omega
  clear n0 r5 h4 c7 p7 a8 e9 e8 c4 c5 i9
  go_cut [10] from 18 (fun v wc=>Hid (ax wB.heap.size wB wc/\OwnS 9 d.heap.size wc v (brk PL B)))
  case first=>
   have d5:=zq (fun (bb:Bool)=>ms bb (.slice (some ⟨gp,0,none⟩) pn cp) d.heap.size PL wB (by omega) (by have h:=h6.out;rw [i1.out] at h |-;exact h) k0)
   generalize hd PL=y at *
   have a1:=zq (fun W=>CB y 1 W (by unfold be;omega) (by decide))
   by_cases hz:y.size=0
   ·have ea:=(jE y hz).1
    have p5:y.toList.isEmpty=true:=by rw [ea];rfl
    have b3:Hid (B=false):=zq (by rw [b2.out];simp [hz])
    clear hz
    go_wp2_with fail
    refine (d5.out false).mono ?_;rintro e wc ⟨vc,rfl,I,D⟩
    have R:=zq D
    clear D
    go_wp2_with fail
    go_meet
    case rel=>exact zq ⟨I,by rw [b3.out];exact R.out⟩
   ·have f9:0<y.size:=by omega
    have ea:=td y f9
    have p5:=nP y f9
    have s8:=kA y 0 f9
    have t0:(0:Int)<(y.size:Int):=by omega
    have d7:Hid (B=((iK y.data.toList 0==45)&&(np y 1&&((n5||o0) && !o1)))):=zq (by rw [b2.out,decide_eq_true f9,Bool.true_and])
    clear b2
    generalize iK y.data.toList 0=c at *
    cases hc45:(c==45)
    ·have b3:Hid (B=false):=zq (by rw [d7.out,hc45];rfl)
     have r4:¬c=45:=by simpa using hc45
     go_wp2_with fail
     refine (d5.out false).mono ?_;rintro e wc ⟨vc,rfl,I,D⟩
     have R:=zq D
     clear D
     go_wp2_with fail
     go_meet
     case rel=>exact zq ⟨I,by rw [b3.out];exact R.out⟩
    ·have r4:c=45:=by simpa using hc45
     cases hd1:np y 1
     ·have b3:Hid (B=false):=zq (by rw [d7.out,hd1,hc45];rfl)
      rw [hd1] at a1
      go_wp2_with fail
      refine (a1.out _).mono ?_;rintro e wd ⟨rfl,rfl⟩
      go_wp2_with fail
      refine (d5.out false).mono ?_;rintro e wc ⟨vc,rfl,I,D⟩
      have R:=zq D
      clear D
      go_wp2_with fail
      go_meet
      case rel=>exact zq ⟨I,by rw [b3.out];exact R.out⟩
     ·rw [hd1,hc45] at d7
      rw [hd1] at a1
      cases n5 <;> cases o0 <;> cases o1
      all_goals
       go_wp2_with fail
       refine (a1.out _).mono ?_;rintro e wd ⟨rfl,rfl⟩
       go_wp2_with fail
       refine (d5.out _).mono ?_;rintro e wc ⟨vc,rfl,I,D⟩
       have R:=zq D
       clear D
       go_wp2_with fail
       go_meet
       case rel=>exact zq ⟨I,by rw [d7.out];exact R.out⟩
  case rest=>
   obtain ⟨I,D⟩:=hcut.out
   clear hcut h6 r7 n3
   have q8:ax d.heap.size d wc:=f4.trans (I.mono k0)
   obtain ⟨P,m0⟩:=d6.out wc q8
   have q9:=P.f2.bel
   have j2:0<(brk PL B).length:=KZ j9
   have q0:=MO PL B
   have q4:=zU (b:=B) s2
   obtain ⟨n1,O⟩:=lz ((brk PL B).length)
   have n7:0<n1:=by rw [O.out];exact j2
   have t3:n1<=80002:=by rw [O.out];omega
   obtain ⟨r,c1,o5,n4,j5⟩:=Hy D j2 rfl
   rw [<-O.out] at o5
   subst o5
   have f7:d.heap.size<=r/\r<wc.heap.size:=D.lt r rfl
   obtain ⟨G,b0⟩:=lz (hd (brk PL B))
   rw [<-b0.out] at n4 q4 e6
   obtain ⟨F,b8⟩:=lz (brk PL B)
   rw [<-b8.out] at j5 O e6
   have z0:=P.f2.wb.c0
   have z1:=P.f2.wb.c1
   have z2:=P.f2.wb.c2
   have z3:=P.f2.wb.c3
   have z4:=P.f2.tb.c2
   have t5:(0:Int)<(n1:Int):=by omega
   clear D f4 m5 p8 q7 k0 I j2 q0 b2 l2 b4 b5 b6 l4 a3 h7 g6
   go_wp2_with fail
   refine (d8.out _ q9).mono ?_;rintro e a ⟨rfl,a6⟩
   have c8:=P.call a6
   have c6:=m0.call a6
   have f5:=c8.f2.bel
   have p1:Hid (RegH (w.heap.size+2) a a):=zq ⟨Only.refl _ _,c8.rb⟩
   have d1:=c8.rb.lt
   have a2:Hid (∀X,RegH (w.heap.size+2) a X->X.cell? ⟨l.heap.size,0,none⟩=some (aa op.name)/\X.cell? ⟨l.heap.size,1,none⟩=some (ab ae op.typ)/\X.cell? ⟨l.heap.size,2,none⟩=some (ab ae op.prec)/\RegH (w.heap.size+2) a X):=zq (fun X h=>by
    have J:∀k,X.cell? ⟨l.heap.size,k,none⟩=a.cell? ⟨l.heap.size,k,none⟩:=fun k=>h.on.cell (p:=⟨_,k,none⟩) c6.lt (show l.heap.size≠w.heap.size+2 by omega)
    exact ⟨(J _).trans c6.c0,(J _).trans c6.c1,(J _).trans c6.c2,h⟩)
   have e4:Hid (∀X,(X.cell? ⟨l.heap.size,0,none⟩=some (aa op.name)/\X.cell? ⟨l.heap.size,1,none⟩=some (ab ae op.typ)/\X.cell? ⟨l.heap.size,2,none⟩=some (ab ae op.prec)/\RegH (w.heap.size+2) a X)->RegH (w.heap.size+2) a X):=zq (fun X h=>h.2.2.2)
   have s0:r≠w.heap.size+2:=by omega
   have l7:Hid (∀X,RegH (w.heap.size+2) a X->∀j u,(F.map aQ)[j]? = some u->X.cell? ((⟨r,0,none⟩:Addr).add j)=some u):=zq (fun X h j u hu=>by
    have y:=j5 j u hu
    rw [fC] at y |-
    have h8:a.cell? ⟨r,0+j,none⟩=wc.cell? ⟨r,0+j,none⟩:=a6.cell (p:=⟨r,_,none⟩) f7.2
    rw [h.on.cell (p:=⟨r,_,none⟩) (aC f7.2 a6.size) s0,h8];exact y)
   have m9:∀X,RegH (w.heap.size+2) a X->ax w.heap.size w X:=fun X h=>f5.trans (h.on.below (by omega) f5.size)
   have k3:=zq m9
   have k4:=zq (RegH.alloc p1.out (.cells #[aa n] 9))
   have d9:=zq (OwnS.one 9 a n)
   have j0:ax a.heap.size a (a.alloc (.cells #[aa n] 9)):=(aj _ _).alloc (ag _) _
   have m6:=c8.call j0
   have v4:=m6.f2.tb.c2
   have s9:(a.alloc (.cells #[aa n] 9)).cell? ⟨r,0,none⟩=some (aa G):=(j0.cell (p:=⟨r,0,none⟩) (aC f7.2 a6.size)).trans ((a6.cell (p:=⟨r,0,none⟩) f7.2).trans n4)
   have o3:(a.alloc (.cells #[aa n] 9)).heap.size=a.heap.size+1:=by simp
   clear z0 z1 z2 z3 z4 m9 j5 d8 P m0 c8 c6 m6 j0 d6
   go_upto_region 11 with fail
   generalize a.alloc (.cells #[aa n] 9)=wD at *
   obtain ⟨sp,e7⟩:=lz (sx t.name F)
   rw [b8.out] at e7
   go_cut [118] from 18 (fun v wq=>v=am sp/\wq=wD)
   case first=>
    have a1:=zq (fun W=>CB G 0 W (by unfold be;omega) (by decide))
    have i4:Hid (sp=(G.toList==[40]||(t.name.toList==[45]&&np G 0))):=zq (by rw [e7.out,<-b8.out];exact e6.out)
    cases ha:(G.toList==[40])
    ·have q5:¬G.toList=[40]:=by simpa using ha
     cases hm:(t.name.toList==[45])
     ·have r9:¬t.name.toList=[45]:=by simpa using hm
      have HV:Hid (sp=false):=zq (by rw [i4.out,ha,hm];rfl)
      go_wp2_with fail
      go_meet
      case rel=>exact ⟨by rw [HV.out],rfl⟩
     ·have r9:t.name.toList=[45]:=by simpa using hm
      have HV:Hid (sp=np G 0):=zq (by rw [i4.out,ha,hm];rfl)
      go_wp2_with fail
      refine (a1.out _).mono ?_;rintro e wd ⟨rfl,rfl⟩
      go_wp2_with fail
      go_meet
      case rel=>exact ⟨by rw [HV.out],rfl⟩
    ·have q5:G.toList=[40]:=by simpa using ha
     have HV:Hid (sp=true):=zq (by rw [i4.out,ha];rfl)
     go_wp2_with fail
     go_meet
     case rel=>exact ⟨by rw [HV.out],rfl⟩
   case rest=>
    obtain ⟨rfl,rfl⟩:=hcut
    have k6:Hid (∀(wE:ai) (v:Value) (m:List ByteArray),OwnS 9 a.heap.size wE v (n::(m++F))->(if sp=true then [s1 32] else [])=m->OwnS 9 a.heap.size wE v p4):=zq (fun wE v m h hm=>by
     rw [l6.out,<-e7.out,hm,<-g7.out,<-b8.out];exact h)
    clear e7 e6 b8 g7 b0
    cases sp
    ·have a3:Hid (RegH (w.heap.size+2) a wc.drew):=zq k4.out.drew
     go_wp2_with fail
     go_region_held3 (fun w'=>w'.cell? ⟨l.heap.size,0,none⟩=some (aa op.name)/\w'.cell? ⟨l.heap.size,1,none⟩=some (ab ae op.typ)/\w'.cell? ⟨l.heap.size,2,none⟩=some (ab ae op.prec)/\RegH (w.heap.size+2) a w')
      (first
       | with_reducible exact a2.out _ a3.out
       | with_reducible exact a2.out _ f
       | with_reducible exact a2.out _ (RegH.put4 (e4.out _ (by with_reducible assumption)) _ _ _ _))
      (first
       | (have a0:=e4.out wc.drew (by with_reducible assumption);refine cg _ (by rfl) _ _ 65 (by rfl) a.heap.size 9 i _ 1 16 bw HI.out i5.out i6.out i7.out (by rfl) (by decide) (.slice (some ⟨a.heap.size,0,none⟩) 1 1) 1 ([n].map aQ) (by rfl) (iN d9.out) ⟨r,0,none⟩ n1 c1 (F.map aQ) (by rfl) (by rw [O.out];simp) (l7.out _ a0) (gh _) n7 (by unfold be;omega) (by omega) a0.on.size wc.heap.size rfl ?_;intro Z V w9 d2 d0 q6 r8;have f:RegH (w.heap.size+2) a w9:=a0.grown d0 (fun k hk=>(d9.out.lt k hk).1) d1;obtain ⟨u0,r0⟩:=f.rb.r0;obtain ⟨u1,r1⟩:=f.rb.r1;obtain ⟨u2,r2⟩:=f.rb.r2;obtain ⟨u3,r3⟩:=f.rb.r3;have f0:=f.rb.rf 0;have f1:=f.rb.rf 1;have f2:=f.rb.rf 2;have f3:=f.rb.rf 3)
       | fail)
     all_goals
      have j6:=dg (k3.out w9 f) (w.heap.size+2) (by omega) (.slice (some ⟨Z,0,none⟩) (1+n1) V) (aa op.name) (ab ae op.typ) (ab ae op.prec)
      have h5:Hid (OwnS 9 a.heap.size w9 (.slice (some ⟨Z,0,none⟩) (1+n1) V) (n::([]++F))):=zq (by
       unfold OwnS
       have L:(n::([]++F)).length=1+n1:=by rw [O.out];simp;omega
       have M:(n::([]++F)).map aQ=([n].map aQ)++F.map aQ:=by simp
       rw [L,M];exact d2)
      clear d2 d0
      go_wp2_with fail
      refine ay (v:=aK #[aN #[.slice (some ⟨Z,0,none⟩) (1+n1) V,aa op.name,ab ae op.typ,ab ae op.prec],am true]) (by simp [results,Tryz.results152,go_sem,r0,r1,r2,r3]) rfl ⟨_,_,_,rfl,j6,?_⟩
      exact ((k6.out _ _ _ h5.out rfl).put4 d1 _ _ _ _).mono f5.size
    ·go_wp2_with ((with_reducible refine jF ?_);go_must (refine dO rfl _ _ 65 9 rfl bw _ 1 16 jf rfl (by decide) a.heap.size _ _ _ rfl wc d9.out #[aa ⟨#[32]⟩] rfl (by simp [Value.oneCell']) rfl (by rw [o3];rfl) (by simp) (by simp) (by rw [o3];omega) ?_;intro s5 w10 n8 p6 n2;have m2:RegH (w.heap.size+2) a w10:=(k4.out.alloc (.cells #[aa ⟨#[32]⟩] 9)).grown n2 (fun k hk=>(d9.out.lt k hk).1) d1;have l3:=zq n8;have p0:=zq m2))
     have a3:Hid (RegH (w.heap.size+2) a w10.drew):=zq p0.out.drew
     clear n8 m2 p6 n2
     go_region_held3 (fun w'=>w'.cell? ⟨l.heap.size,0,none⟩=some (aa op.name)/\w'.cell? ⟨l.heap.size,1,none⟩=some (ab ae op.typ)/\w'.cell? ⟨l.heap.size,2,none⟩=some (ab ae op.prec)/\RegH (w.heap.size+2) a w')
      (first
       | with_reducible exact a2.out _ a3.out
       | with_reducible exact a2.out _ f
       | with_reducible exact a2.out _ (RegH.put4 (e4.out _ (by with_reducible assumption)) _ _ _ _))
      (first
       | (have a0:=e4.out w10.drew (by with_reducible assumption);refine cg _ (by rfl) _ _ 65 (by rfl) a.heap.size 9 i _ 1 16 bw HI.out i5.out i6.out i7.out (by rfl) (by decide) s5 2 ([n].map aQ++[s1 32].map aQ) (by rfl) (iN l3.out) ⟨r,0,none⟩ n1 c1 (F.map aQ) (by rfl) (by rw [O.out];simp) (l7.out _ a0) (gh _) n7 (by unfold be;omega) (by omega) a0.on.size w10.heap.size rfl ?_;intro Z V w9 d2 d0 q6 r8;have f:RegH (w.heap.size+2) a w9:=a0.grown d0 (fun k hk=>(l3.out.lt k hk).1) d1;obtain ⟨u0,r0⟩:=f.rb.r0;obtain ⟨u1,r1⟩:=f.rb.r1;obtain ⟨u2,r2⟩:=f.rb.r2;obtain ⟨u3,r3⟩:=f.rb.r3;have f0:=f.rb.rf 0;have f1:=f.rb.rf 1;have f2:=f.rb.rf 2;have f3:=f.rb.rf 3)
       | fail)
     all_goals
      have j6:=dg (k3.out w9 f) (w.heap.size+2) (by omega) (.slice (some ⟨Z,0,none⟩) (2+n1) V) (aa op.name) (ab ae op.typ) (ab ae op.prec)
      have h5:Hid (OwnS 9 a.heap.size w9 (.slice (some ⟨Z,0,none⟩) (2+n1) V) (n::([s1 32]++F))):=zq (by
       unfold OwnS
       have L:(n::([s1 32]++F)).length=2+n1:=by rw [O.out];simp;omega
       have M:(n::([s1 32]++F)).map aQ=([n].map aQ++[s1 32].map aQ)++F.map aQ:=by simp
       rw [L,M];exact d2)
      clear d2 d0
      go_wp2_with fail
      refine ay (v:=aK #[aN #[.slice (some ⟨Z,0,none⟩) (2+n1) V,aa op.name,ab ae op.typ,ab ae op.prec],am true]) (by simp [results,Tryz.results152,go_sem,r0,r1,r2,r3]) rfl ⟨_,_,_,rfl,j6,?_⟩
      exact ((k6.out _ _ _ h5.out rfl).put4 d1 _ _ _ _).mono f5.size
end Go.Proofs.YtlikcjbjibhjgaaGreatDoor
