/- Parts of the proof. -/
import Derived.Test.YtgapnafkelokaaaGreatDoorR01
import Derived.Test.YtgapnafkelokaaaGreatDoorR10
import Derived.Test.YtgapnafkelokaaaGreatDoorR08
import Derived.Test.YtgapnafkelokaaaGreatDoorR06
import Derived.Test.YtgapnafkelokaaaGreatDoorR03
set_option maxHeartbeats 12800000
set_option maxRecDepth 100000
open Go renaming Calls -> aG, TypeId -> bJ, Value -> aA, World -> aj, bodyPost_ret -> aw, maxLen -> bc
open Go.Ending renaming returned -> av
open Go.IntKind renaming i64 -> ae
open Go.Lib renaming decDigits -> aP
open Go.Proofs.Tryz renaming prog -> ah, results16 -> dI, underlying28 -> aS
open Go.RowKit renaming Below -> ay
open Go.RowKit.Below renaming refl -> ak
open Go.Value renaming agg -> aN, bool -> an, int -> ab, oneCell' -> cC, string -> aa, tuple -> aF
open Go.World renaming cell?_alloc_new -> aq
open List renaming foldl_append -> eH, getD_eq_getElem?_getD -> aR, getElem?_eq_getElem -> aT, getElem_map -> bM, length_append -> aC, length_map -> bm
open Nat renaming le_refl -> ag, le_trans -> aH, lt_of_lt_of_le -> aB, zero_add -> ap
namespace Hb
open Go Go.RowKit
def qu (o:WO) (T:List OpR) (t:Tm):List ByteArray×Int:=if (bu t&&bF T)=true then (km o T t 1200 false,0) else ([],1)
theorem oE {o:WO} {T:List OpR} {t:Tm} (h:(bu t&&bF T)=false):qu o T t=([],1):=by unfold qu;rw [h];rfl
theorem pD {o:WO} {T:List OpR} {t:Tm} (h:(bu t&&bF T)=true):qu o T t=(km o T t 1200 false,0):=by unfold qu;rw [if_pos h]
theorem tN {T:List OpR} (h:bF T=true):T.length<=100:=by
 rcases Nat.lt_or_ge 100 T.length with a | a
 ·rw [jV T a] at h;cases h
 ·exact a
def WO.v (o:WO):aA:=aN #[an o.q,an o.ig,an o.nu]
theorem Okf.of_valid {t:Tm} (h:bu t=true) (k:Tm.All (fun x=>cV x=true) t):Tm.All Okf t/\t.nodes<=2000:=by
 obtain ⟨a,b⟩:=(gV t).1 h
 exact ⟨Okf.of b k,a⟩
structure TOp (w0 w:aj) (t:Tm) (A:Option Addr) (cap:Nat) (o:WO):Prop where
 bel:ay w0.heap.size w0 w
 tb:TBx w w0.heap.size t A cap
 olt:w0.heap.size+1<w.heap.size
 o0:w.cell? ⟨w0.heap.size+1,0,none⟩=some (an o.q)
 o1:w.cell? ⟨w0.heap.size+1,1,none⟩=some (an o.ig)
 o2:w.cell? ⟨w0.heap.size+1,2,none⟩=some (an o.nu)
theorem TOp.call {w0 w w':aj} {t:Tm} {A:Option Addr} {b:Nat} {o:WO} (h:TOp w0 w t A b o) (a:ay w.heap.size w w'):TOp w0 w' t A b o :=
 ⟨h.bel.trans (a.mono h.bel.size),h.tb.call a,aB h.olt a.size,(a.cell (p:=⟨_,_,none⟩) h.olt).trans h.o0,(a.cell (p:=⟨_,_,none⟩) h.olt).trans h.o1,(a.cell (p:=⟨_,_,none⟩) h.olt).trans h.o2⟩
theorem TOp.start (w:aj) (t:Tm) (A:Option Addr) (c a:Nat) (o:WO) (e d:bJ) (k:a=t.args.length) :
  TOp w ((w.alloc (.cells #[ab ae t.kind,ab ae t.num,aa t.name,.slice A a c] e)).alloc (.cells #[an o.q,an o.ig,an o.nu] d)) t A c o:=by
 have g:=TBx.start w t A c a e k
 obtain ⟨W1,f⟩:∃W1,W1=w.alloc (.cells #[ab ae t.kind,ab ae t.num,aa t.name,.slice A a c] e):=⟨_,rfl⟩
 rw [<-f] at g |-
 have s1:W1.heap.size=w.heap.size+1:=by rw [f];simp
 have i:ay w.heap.size w W1:=by rw [f];exact (ak _ _).alloc (ag _) _
 have h:ay W1.heap.size W1 (W1.alloc (.cells #[an o.q,an o.ig,an o.nu] d)):=(ak _ _).alloc (ag _) _
 have b:∀j,(W1.alloc (.cells #[an o.q,an o.ig,an o.nu] d)).cell? ⟨w.heap.size+1,j,none⟩=(#[an o.q,an o.ig,an o.nu]:Array aA)[j]?:=fun j=>by
  have:=aq W1 #[an o.q,an o.ig,an o.nu] d j
  rw [s1] at this;exact this
 exact ⟨i.trans (h.mono (by omega)),g.call h,by simp;omega,b 0,b 1,b 2⟩
theorem Bp {o:WO} {T:List OpR} {t:Tm} (c:Tm.All (fun x=>cV x=true) t):(∀s∈(qu o T t).1,s.size<=1000000)/\(qu o T t).1.length<=20000:=by
 cases h:(bu t&&bF T)
 ·rw [oE h];exact ⟨fun s a=>(by cases a),by decide⟩
 ·have d:bu t=true:=by rw [Bool.and_eq_true] at h;exact h.1
  obtain ⟨b,e⟩:=Okf.of_valid d c
  have f:=rk o T (Okf.k4 b) 1200 false
  rw [pD h]
  refine ⟨fun s a=>?_,by show (km o T t 1200 false).length<=_;omega⟩
  have:=nD o T b 1200 false s a
  omega
def qW (s:ByteArray):ByteArray×Int:=if s.size<=16384 then (s,0) else (⟨#[]⟩,2)
def fP (l:List ByteArray):ByteArray:=⟨(dP (rt l)).toArray⟩
def oF (o:WO) (T:List OpR) (t:Tm):ByteArray×Int:=if (bu t&&bF T)=true then qW (fP (km o T t 1200 false)) else (⟨#[]⟩,1)
theorem Am {o:WO} {T:List OpR} {t:Tm} (h:(bu t&&bF T)=false):oF o T t=(⟨#[]⟩,1):=by unfold oF;rw [h];rfl
theorem rA {o:WO} {T:List OpR} {t:Tm} (h:(bu t&&bF T)=true):oF o T t=qW (fP (km o T t 1200 false)):=by unfold oF;rw [if_pos h]
theorem mV {s:ByteArray} (h:s.size<=16384):qW s=(s,0):=if_pos h
theorem rm {s:ByteArray} (h:¬s.size<=16384):qW s=(⟨#[]⟩,2):=if_neg h
def KV (t:Tm):Prop:=t.nodes<=2000\/(t.kind=3/\dE t=false/\t.nodes<=5000/\∀x∈t.args,x.nodes<=2000)
end Hb
namespace Go.Proofs.YtgapnafkelokaaaGreatDoor
open Go.RowKit Hb
theorem sa (A:Option Addr) (n a:Nat) (l:List OpR) (w:aj) (b:n=l.length) (_hm:n<=bc) (c:OpsAt w A l) :
  aG ah 31 #[.slice A n a] w fun e w'=>e=av (an (bF l))/\ay w.heap.size w w':=by
 by_cases f:100<n
 ·have g:decide ((100:Int)<n)=true:=by simp;omega
  have d:=zq (jV l (by omega))
  clear b c f
  go_enter Tryz.func31,Tryz.ntmps31
  go_wp2_with fail
  go_ret
  exact ⟨bC d.out.symm,ak _ _⟩
 ·exact nF A n a l w b (by omega) c
theorem Dk {o:WO} {T:List OpR} {TA:Option Addr} {TN TC:Nat} {t:Tm} (r:Tm.All (fun x=>cV x=true) t) (A:Option Addr) (c:Nat) (w:aj) (u:DoorOk w) (F:TN<=bc) (l:Tab w TA TN TC T) (p:TmsAt w.heap.size w A t.args) :
  aG ah 10 #[dR t A c,.slice TA TN TC,o.v] w fun e w'=>∃v,e=av (aF #[v,ab ae (qu o T t).2])/\ay w.heap.size w w'/\OwnS 9 w.heap.size w' v (qu o T t).1:=by
 have n:=zq (TOp.start w t A c t.args.length o 24 27 rfl)
 have g:=zq (fun W (h:TOp w W t A c o)=>(nw t A c W ((p.keep h.bel).mono h.bel.size)).mono fun _ _ f=>(⟨f.1,h.call f.2⟩:_/\TOp w _ t A c o))
 have k:=zq (fun W (h:TOp w W t A c o)=>(sa TA TN TC T W l.len F (l.below h.bel).ops).mono fun _ _ f=>(⟨f.1,h.call f.2⟩:_/\TOp w _ t A c o))
 have j:=zq (fun (a:bu t=true) (d:bF T=true) W (h:TOp w W t A c o)=>(uG (Ix (o:=o) (T:=T) (TA:=TA) (TN:=TN) (TC:=TC) (Okf.of_valid a r).2 (Okf.of_valid a r).1) 1200 A c W ⟨u.below h.bel,l.below h.bel,by have:=tN d;have:=l.len;omega⟩ ((p.keep h.bel).mono h.bel.size)).mono fun _ _ f=>(f.imp fun _ s=>⟨s.1,h.bel.trans (s.2.1.mono h.bel.size),s.2.2.mono h.bel.size⟩:∃v,_/\ay w.heap.size w _/\OwnS 9 w.heap.size _ v _))
 clear p l u r
 unfold dR WO.v lW at *
 generalize y:t.args.length=H at *
 have B:=zq y
 clear y
 cases a:bu t
 ·have i:=zq (oE (o:=o) (T:=T) (t:=t) (by rw [a];rfl))
  rw [a] at g
  rw [i.out]
  clear j k a
  go_enter Tryz.func10,Tryz.ntmps10
  go_wp2_with fail
  refine (g.out _ n.out).mono ?_;rintro e z ⟨rfl,m⟩
  have q:=m.bel
  go_wp2_with fail
  exact aw (v:=aF #[.slice none 0 0,ab ae 1]) (by simp [results,Tryz.results10,go_sem]) rfl ⟨_,rfl,q,OwnS.nil _ _ _⟩
 ·cases d:bF T
  ·have i:=zq (oE (o:=o) (T:=T) (t:=t) (by rw [a,d];rfl))
   rw [a] at g
   rw [d] at k
   rw [i.out]
   clear j a d
   go_enter Tryz.func10,Tryz.ntmps10
   go_wp2_with fail
   refine (g.out _ n.out).mono ?_;rintro e z ⟨rfl,m⟩
   go_wp2_with fail
   refine (k.out _ m).mono ?_;rintro e G ⟨rfl,b⟩
   have q:=b.bel
   go_wp2_with fail
   exact aw (v:=aF #[.slice none 0 0,ab ae 1]) (by simp [results,Tryz.results10,go_sem]) rfl ⟨_,rfl,q,OwnS.nil _ _ _⟩
  ·have i:=zq (pD (o:=o) (T:=T) (t:=t) (by rw [a,d];rfl))
   have j:=zq (j.out a d)
   rw [a] at g
   rw [d] at k
   rw [i.out]
   clear a d
   go_enter Tryz.func10,Tryz.ntmps10
   go_wp2_with fail
   refine (g.out _ n.out).mono ?_;rintro e z ⟨rfl,m⟩
   go_wp2_with fail
   refine (k.out _ m).mono ?_;rintro e G ⟨rfl,b⟩
   have I:=b.tb.c0
   have J:=b.tb.c1
   have K:=b.tb.c2
   have C:=b.tb.c3
   rw [B.out] at C
   have L:=b.o0
   have M:=b.o1
   have N:=b.o2
   go_wp2_with fail
   refine (j.out _ b).mono ?_;rintro e O ⟨v,rfl,D,E⟩
   go_wp2_with fail
   exact aw (v:=aF #[v,ab ae 0]) (by simp [results,Tryz.results10,go_sem]) rfl ⟨_,rfl,D,E⟩
theorem tK (s:ByteArray) (w:aj) (b:s.size<=bc):aG ah 34 #[aa s] w fun e w'=>e=av (aF #[aa (qW s).1,ab ae (qW s).2])/\w=w':=by
 unfold bc at b
 by_cases h:s.size<=16384
 ·have a:decide ((16384:Int)<(s.size:Int))=false:=by simp;omega
  rw [mV h]
  go_enter Tryz.func34,Tryz.ntmps34
  go_wp2_with fail
  exact aw (v:=aF #[aa s,ab ae 0]) (by simp [results,Tryz.results34,go_sem]) rfl ⟨rfl,rfl⟩
 ·have a:decide ((16384:Int)<(s.size:Int))=true:=by simp;omega
  rw [rm h]
  go_enter Tryz.func34,Tryz.ntmps34
  go_wp2_with fail
  exact aw (v:=aF #[aa ⟨#[]⟩,ab ae 2]) (by simp [results,Tryz.results34,go_sem]) rfl ⟨rfl,rfl⟩
theorem sx {l:List ByteArray} (h:∀s∈l,s.size<=1000000) (b:l.length<=50000):(fP l).size<=50000050000:=by
 have a:=uk 1000000 l h
 unfold fP
 rw [rL]
 refine aH a (aH (Nat.mul_le_mul_right _ b) (by decide))
theorem Ak {b:Nat} {v:aA} {l:List ByteArray} (w:aj) (h:OwnS 9 b w v l) (f:l.length<=50000) (d:∀s∈l,s.size<=1000000) :
  aG ah 35 #[v] w fun e w'=>e=av (aa (fP l))/\ay w.heap.size w w':=by
 obtain ⟨A,c,rfl,a,_⟩:=h.strs
 exact Gr A l.length c l w rfl (by omega) a d
theorem yG {o:WO} {T:List OpR} {TA:Option Addr} {TN TC:Nat} {t:Tm} (j:Tm.All (fun x=>cV x=true) t) (A:Option Addr) (g:Nat) (w:aj) (m:DoorOk w) (G:TN<=bc) (q:Tab w TA TN TC T) (p:TmsAt w.heap.size w A t.args) :
  aG ah 12 #[dR t A g,.slice TA TN TC,o.v] w fun e w'=>e=av (aF #[aa (oF o T t).1,ab ae (oF o T t).2])/\ay w.heap.size w w':=by
 have l:=zq (TOp.start w t A g t.args.length o 24 27 rfl)
 have a:=l.out.bel
 have b:=zq ((Dk j (o:=o) (TC:=TC) A g _ (m.below a) G (q.below a) ((p.keep a).mono a.size)).mono fun _ _ E=>(E.imp fun _ k=>⟨k.1,a.trans (k.2.1.mono a.size),k.2.2.mono a.size⟩:∃v,_/\ay w.heap.size w _/\OwnS 9 w.heap.size _ v _))
 obtain ⟨s,f⟩:=Bp (o:=o) (T:=T) j
 have c:=zq s
 clear p q m j s l a
 unfold dR WO.v at *
 generalize n:t.args.length=K at *
 have J:=zq n
 clear n
 cases h1:(bu t&&bF T)
 ·rw [Am h1]
  rw [oE h1] at b
  go_enter Tryz.func12,Tryz.ntmps12
  go_wp2_with fail
  refine b.out.mono ?_;rintro e I ⟨H,rfl,d,i⟩
  go_wp2_with fail
  exact aw (v:=aF #[aa ⟨#[]⟩,ab ae 1]) (by simp [results,Tryz.results12,go_sem]) rfl ⟨rfl,d⟩
 ·rw [rA h1]
  rw [pD h1] at b c f
  have u:=zq (fun v W (h:OwnS 9 w.heap.size W v (km o T t 1200 false))=>Ak W h (by show (km o T t 1200 false).length<=_;exact aH f (by decide)) c.out)
  have F:(fP (km o T t 1200 false)).size<=50000050000:=sx c.out (aH f (by decide))
  have y:=zq (fun W=>tK (fP (km o T t 1200 false)) W (by unfold bc;omega))
  have B:Hid ((qW (fP (km o T t 1200 false))).2=(qW (fP (km o T t 1200 false))).2):=zq rfl
  clear f c h1 F
  generalize qW (fP (km o T t 1200 false))=r at *
  generalize fP (km o T t 1200 false)=L at *
  generalize km o T t 1200 false=M at *
  clear B
  go_enter Tryz.func12,Tryz.ntmps12
  go_wp2_with fail
  refine b.out.mono ?_;rintro e I ⟨H,rfl,d,i⟩
  have z:=zq i
  clear i
  go_wp2_with fail
  refine (u.out _ _ z.out).mono ?_;rintro e N ⟨rfl,C⟩
  have D:=d.trans (C.mono d.size)
  go_wp2_with fail
  refine (y.out _).mono ?_;rintro e O ⟨rfl,rfl⟩
  go_wp2_with fail
  exact aw (v:=aF #[aa r.1,ab ae r.2]) (by simp [results,Tryz.results12,go_sem]) rfl ⟨rfl,D⟩
end Go.Proofs.YtgapnafkelokaaaGreatDoor
namespace Hb
open Go Go.RowKit
theorem oG {w:aj} (e:bJ) (rs:List TR) (f:rs.length<=bc) (g:∀r∈rs,TmsAt w.heap.size w r.2.1 r.1.args):TmsAt (w.alloc (.cells (dN rs).toArray e)).heap.size (w.alloc (.cells (dN rs).toArray e)) (some ⟨w.heap.size,0,none⟩) (rs.map (·.1)):=by
 have d:ay w.heap.size w (w.alloc (.cells (dN rs).toArray e)):=(ak _ _).alloc (ag _) _
 have h:(w.alloc (.cells (dN rs).toArray e)).heap.size=w.heap.size+1:=by simp
 have b:∀k u,(dN rs)[k]? = some u->(w.alloc (.cells (dN rs).toArray e)).cell? ⟨w.heap.size,0+k,none⟩=some u:=fun k u i=>by
  rw [ap,aq];simpa using i
 refine .mk _ _ (fun j=>(rs.getD j (tm0,none,0)).2.1) (fun j=>(rs.getD j (tm0,none,0)).2.2) (by rw [bm];exact f) (fun j a=>?_) (fun j a=>?_)
 ·rw [bm] at a
  obtain ⟨l,m,n,o⟩:=lF rs j a
  have c:rs.getD j (tm0,none,0)=rs[j]:=by rw [aR,aT a];rfl
  refine ⟨w.heap.size,0,rfl,by rw [h];omega,?_,?_,?_,?_⟩
  ·rw [bM];exact b _ _ l
  ·rw [bM];exact b _ _ m
  ·rw [bM];exact b _ _ n
  ·rw [bM];simp only [c];exact b _ _ o
 ·rw [bm] at a
  have c:rs.getD j (tm0,none,0)=rs[j]:=by rw [aR,aT a];rfl
  rw [bM];simp only [c]
  exact ((g _ (List.getElem_mem a)).keep d).mono d.size
end Hb
namespace Go.Proofs.YtgapnafkelokaaaGreatDoor
open Go.RowKit Hb
theorem pf (s:ByteArray) (w:aj):aG ah 22 #[aa s] w fun e w'=>e=av (aN #[ab ae 2,ab ae 0,aa s,.slice none 0 0])/\ay w.heap.size w w':=by
 have a:=(ak w.heap.size w).alloc (ag _) (.cells #[ab ae 2,ab ae 0,aa s,.slice none 0 0] 24)
 go_enter Tryz.func22,Tryz.ntmps22
 go_wp2_with fail
 exact aw (v:=aN #[ab ae 2,ab ae 0,aa s,.slice none 0 0]) (by simp [results,Tryz.results22,go_sem]) rfl ⟨rfl,a⟩
theorem ov (n:Int) (w:aj):aG ah 37 #[ab ae n] w fun e w'=>e=av (aN #[ab ae 1,ab ae n,aa ⟨#[]⟩,.slice none 0 0])/\ay w.heap.size w w':=by
 have a:=(ak w.heap.size w).alloc (ag _) (.cells #[ab ae 1,ab ae n,aa ⟨#[]⟩,.slice none 0 0] 24)
 go_enter Tryz.func37,Tryz.ntmps37
 go_wp2_with fail
 exact aw (v:=aN #[ab ae 1,ab ae n,aa ⟨#[]⟩,.slice none 0 0]) (by simp [results,Tryz.results37,go_sem]) rfl ⟨rfl,a⟩
theorem iX (s:ByteArray) (A:Option Addr) (n c:Nat) (w:aj):aG ah 23 #[aa s,.slice A n c] w fun e w'=>e=av (aN #[ab ae 3,ab ae 0,aa s,.slice A n c])/\ay w.heap.size w w':=by
 have a:=(ak w.heap.size w).alloc (ag _) (.cells #[ab ae 3,ab ae 0,aa s,.slice A n c] 24)
 go_enter Tryz.func23,Tryz.ntmps23
 go_wp2_with fail
 exact aw (v:=aN #[ab ae 3,ab ae 0,aa s,.slice A n c]) (by simp [results,Tryz.results23,go_sem]) rfl ⟨rfl,a⟩
end Go.Proofs.YtgapnafkelokaaaGreatDoor
namespace Hb
open Go Go.RowKit
def ia (t:Tm):Bool:=t.kind==3&&(t.name.toList==[58,45]&&t.args.length==2)
def fZ (u:Tm):Bool:=u.kind==2&&u.name.toList==[116,114,117,101]
def kW (t u:Tm):Tm:=if (ia t || !fZ u)=true then .mk 3 0 ⟨#[58,45]⟩ [t,u] else t
theorem FH {t u:Tm} (h:ia t=true\/fZ u=false):kW t u=.mk 3 0 ⟨#[58,45]⟩ [t,u]:=by
 unfold kW
 rw [if_pos]
 rcases h with h | h
 ·rw [h];rfl
 ·rw [h];simp
theorem yr {t u:Tm} (h:ia t=false) (k:fZ u=true):kW t u=t:=by
 unfold kW
 rw [if_neg]
 rw [h,k];decide
def oQ:WO:=⟨true,false,false⟩
def CU (T:List OpR) (t u:Tm):ByteArray×Int:=if (bu t&&(bu u&&bF T))=true then qW (fP (km oQ T (kW t u) 1200 false++[s1 46])++⟨#[10]⟩) else (⟨#[]⟩,1)
theorem vT {T:List OpR} {t u:Tm} (h:(bu t&&(bu u&&bF T))=false):CU T t u=(⟨#[]⟩,1):=by unfold CU;rw [h];rfl
theorem vS {T:List OpR} {t u:Tm} (h:(bu t&&(bu u&&bF T))=true):CU T t u=qW (fP (km oQ T (kW t u) 1200 false++[s1 46])++⟨#[10]⟩):=by unfold CU;rw [if_pos h]
theorem Ae {t u:Tm} (j:bu t=true) (k:bu u=true) (g:Tm.All (fun x=>cV x=true) t) (i:Tm.All (fun x=>cV x=true) u) :
  Tm.All Okf (kW t u)/\(kW t u).nodes<=5000/\KV (kW t u):=by
 obtain ⟨f,d⟩:=Okf.of_valid j g
 obtain ⟨m,l⟩:=Okf.of_valid k i
 by_cases h:(ia t || !fZ u)=true
 ·have e:kW t u=.mk 3 0 ⟨#[58,45]⟩ [t,u]:=by unfold kW;rw [if_pos h]
  rw [e]
  have n:(Tm.mk 3 0 ⟨#[58,45]⟩ [t,u]).nodes=1+(t.nodes+u.nodes):=by rw [Tm.nodes_eq];simp [Tm.args]
  refine ⟨.mk _ ⟨by unfold dH Tm.kind Tm.num Tm.name Tm.args;simp;decide,by unfold cV Tm.num;rfl⟩ fun a b=>?_,by omega,.inr ⟨rfl,by unfold dE Tm.isNm Tm.name;simp [iC],by omega,fun x c=>?_⟩⟩
  ·simp [Tm.args] at b
   rcases b with rfl|rfl
   ·exact f
   ·exact m
  ·simp [Tm.args] at c
   rcases c with rfl|rfl
   ·exact d
   ·exact l
 ·have e:kW t u=t:=by unfold kW;rw [if_neg h]
  rw [e]
  exact ⟨f,by omega,.inl d⟩
theorem FG {T:List OpR} {t:Tm} (b:Tm.All Okf t) (d:t.nodes<=5000):(km oQ T t 1200 false).length<=45000/\∀s∈km oQ T t 1200 false++[s1 46],s.size<=1000000:=by
 have c:=rk oQ T (Okf.k4 b) 1200 false
 refine ⟨by omega,fun s a=>?_⟩
 rcases List.mem_append.1 a with a | a
 ·have:=nD oQ T b 1200 false s a;omega
 ·rw [List.mem_singleton] at a;rw [a];show 1<=_;decide
structure CBx (w0 w:aj) (t u:Tm) (A B:Option Addr) (c d:Nat):Prop where
 bel:ay w0.heap.size w0 w
 lt:w0.heap.size<w.heap.size
 c0:w.cell? ⟨w0.heap.size,0,none⟩=some (ab ae t.kind)
 c1:w.cell? ⟨w0.heap.size,1,none⟩=some (ab ae t.num)
 c2:w.cell? ⟨w0.heap.size,2,none⟩=some (aa t.name)
 c3:w.cell? ⟨w0.heap.size,3,none⟩=some (.slice A t.args.length c)
 c4:w.cell? ⟨w0.heap.size,4,none⟩=some (ab ae u.kind)
 c5:w.cell? ⟨w0.heap.size,5,none⟩=some (ab ae u.num)
 c6:w.cell? ⟨w0.heap.size,6,none⟩=some (aa u.name)
 c7:w.cell? ⟨w0.heap.size,7,none⟩=some (.slice B u.args.length d)
theorem CBx.call {w0 w w':aj} {t u:Tm} {A B:Option Addr} {c d:Nat} (h:CBx w0 w t u A B c d) (a:ay w.heap.size w w'):CBx w0 w' t u A B c d :=
  ⟨h.bel.trans (a.mono h.bel.size),aB h.lt a.size,(a.cell (p:=⟨_,_,none⟩) h.lt).trans h.c0,(a.cell (p:=⟨_,_,none⟩) h.lt).trans h.c1,(a.cell (p:=⟨_,_,none⟩) h.lt).trans h.c2,(a.cell (p:=⟨_,_,none⟩) h.lt).trans h.c3,
   (a.cell (p:=⟨_,_,none⟩) h.lt).trans h.c4,(a.cell (p:=⟨_,_,none⟩) h.lt).trans h.c5,(a.cell (p:=⟨_,_,none⟩) h.lt).trans h.c6,(a.cell (p:=⟨_,_,none⟩) h.lt).trans h.c7⟩
theorem CBx.start (w:aj) (t u:Tm) (A B:Option Addr) (c d a f:Nat) (e:bJ) (g:a=t.args.length) (h:f=u.args.length) :
  CBx w (w.alloc (.cells #[ab ae t.kind,ab ae t.num,aa t.name,.slice A a c,ab ae u.kind,ab ae u.num,aa u.name,.slice B f d] e)) t u A B c d:=by
 subst g h
 have b:∀j,(w.alloc (.cells #[ab ae t.kind,ab ae t.num,aa t.name,.slice A t.args.length c,ab ae u.kind,ab ae u.num,aa u.name,.slice B u.args.length d] e)).cell? ⟨w.heap.size,j,none⟩=(#[ab ae t.kind,ab ae t.num,aa t.name,.slice A t.args.length c,ab ae u.kind,ab ae u.num,aa u.name,.slice B u.args.length d]:Array aA)[j]?:=fun j=>aq w _ e j
 exact ⟨(ak _ _).alloc (ag _) _,by simp,b 0,b 1,b 2,b 3,b 4,b 5,b 6,b 7⟩
def IJ (t u:Tm) (A B:Option Addr) (c d:Nat):aA:=aN #[ab ae t.kind,ab ae t.num,aa t.name,.slice A t.args.length c,ab ae u.kind,ab ae u.num,aa u.name,.slice B u.args.length d]
theorem JO {w0 W:aj} {t u:Tm} {A B:Option Addr} {c d b f:Nat} (e:bJ) (i:b=t.args.length) (j:f=u.args.length) (k:TmsAt w0.heap.size w0 A t.args) (l:TmsAt w0.heap.size w0 B u.args) (a:ay w0.heap.size w0 W) :
  TmsAt (W.alloc (.cells #[ab ae t.kind,ab ae t.num,aa t.name,.slice A b c,ab ae u.kind,ab ae u.num,aa u.name,.slice B f d] e)).heap.size (W.alloc (.cells #[ab ae t.kind,ab ae t.num,aa t.name,.slice A b c,ab ae u.kind,ab ae u.num,aa u.name,.slice B f d] e)) (some ⟨W.heap.size,0,none⟩) (Tm.mk 3 0 ⟨#[58,45]⟩ [t,u]).args:=by
 subst i j
 have h:=oG (w:=W) e [(t,A,c),(u,B,d)] (by unfold bc;simp) (fun r g=>by
  simp at g
  rcases g with rfl|rfl
  ·exact (k.keep a).mono a.size
  ·exact (l.keep a).mono a.size)
 exact h
end Hb
namespace Go.Proofs.YtgapnafkelokaaaGreatDoor
open Go.RowKit Hb
theorem JP {T:List OpR} {TA:Option Addr} {TN TC:Nat} {t u:Tm} (h:bu t=true) (i:bu u=true) (c:Tm.All (fun x=>cV x=true) t) (d:Tm.All (fun x=>cV x=true) u):uF oQ T TA TN TC (str oQ T) (kW t u):=by
 obtain ⟨b,e,a⟩:=Ae h i c d
 rcases a with a | ⟨a,f,_,g⟩
 ·exact Ix a b
 ·exact Kl a f e b g
theorem wm {T:List OpR} {TA:Option Addr} {TN TC:Nat} {t u:Tm} (ft:Tm.All (fun x=>cV x=true) t) (fu:Tm.All (fun x=>cV x=true) u) (A B:Option Addr) (c d:Nat) (w:aj) (hD:DoorOk w) (hm:TN<=bc) (a4:Tab w TA TN TC T) (hT:TmsAt w.heap.size w A t.args) (hU:TmsAt w.heap.size w B u.args) :
  aG ah 16 #[IJ t u A B c d,.slice TA TN TC] w fun e w'=>e=av (aF #[aa (CU T t u).1,ab ae (CU T t u).2])/\ay w.heap.size w w':=by
 have HX:=zq (CBx.start w t u A B c d t.args.length u.args.length 38 rfl rfl)
 have U:=zq (fun W (h:CBx w W t u A B c d)=>(nw t A c W ((hT.keep h.bel).mono h.bel.size)).mono fun _ _ M=>(⟨M.1,h.call M.2⟩:_/\CBx w _ t u A B c d))
 have a3:=zq (fun W (h:CBx w W t u A B c d)=>(nw u B d W ((hU.keep h.bel).mono h.bel.size)).mono fun _ _ M=>(⟨M.1,h.call M.2⟩:_/\CBx w _ t u A B c d))
 have a8:=zq (fun W (h:CBx w W t u A B c d)=>(sa TA TN TC T W a4.len hm (a4.below h.bel).ops).mono fun _ _ M=>(⟨M.1,h.call M.2⟩:_/\CBx w _ t u A B c d))
 cases h1:bu t
 ·have HN:=zq (vT (T:=T) (t:=t) (u:=u) (by rw [h1];rfl))
  rw [h1] at U
  rw [HN.out]
  clear a3 a8 h1 hT hU a4 ft fu hD
  unfold dR IJ at *
  generalize N:t.args.length=LN at *
  generalize O:u.args.length=MN at *
  have HL:=zq N
  have HM:=zq O
  clear N O
  go_enter Tryz.func16,Tryz.ntmps16
  go_wp2_with fail
  refine (U.out _ HX.out).mono ?_;rintro e w1 ⟨rfl,l⟩
  have k:=l.bel
  go_wp2_with fail
  exact aw (v:=aF #[aa ⟨#[]⟩,ab ae 1]) (by simp [results,dI,go_sem]) rfl ⟨rfl,k⟩
 cases h2:bu u
 ·have HN:=zq (vT (T:=T) (t:=t) (u:=u) (by rw [h1,h2];rfl))
  rw [h1] at U
  rw [h2] at a3
  rw [HN.out]
  clear a8 h1 h2 hT hU a4 ft fu hD
  unfold dR IJ at *
  generalize N:t.args.length=LN at *
  generalize O:u.args.length=MN at *
  have HL:=zq N
  have HM:=zq O
  clear N O
  go_enter Tryz.func16,Tryz.ntmps16
  go_wp2_with fail
  refine (U.out _ HX.out).mono ?_;rintro e w1 ⟨rfl,l⟩
  have c4:=l.c4
  have c5:=l.c5
  have c6:=l.c6
  have c7:=l.c7
  rw [HM.out] at c7
  go_wp2_with fail
  refine (a3.out _ l).mono ?_;rintro e w2 ⟨rfl,a9⟩
  have k:=a9.bel
  go_wp2_with fail
  exact aw (v:=aF #[aa ⟨#[]⟩,ab ae 1]) (by simp [results,dI,go_sem]) rfl ⟨rfl,k⟩
 cases h3:bF T
 ·have HN:=zq (vT (T:=T) (t:=t) (u:=u) (by rw [h1,h2,h3];rfl))
  rw [h1] at U
  rw [h2] at a3
  rw [h3] at a8
  rw [HN.out]
  clear  h1 h2 h3 hT hU a4 ft fu hD
  unfold dR IJ at *
  generalize N:t.args.length=LN at *
  generalize O:u.args.length=MN at *
  have HL:=zq N
  have HM:=zq O
  clear N O
  go_enter Tryz.func16,Tryz.ntmps16
  go_wp2_with fail
  refine (U.out _ HX.out).mono ?_;rintro e w1 ⟨rfl,l⟩
  have c4:=l.c4
  have c5:=l.c5
  have c6:=l.c6
  have c7:=l.c7
  rw [HM.out] at c7
  go_wp2_with fail
  refine (a3.out _ l).mono ?_;rintro e w2 ⟨rfl,a9⟩
  go_wp2_with fail
  refine (a8.out _ a9).mono ?_;rintro e w3 ⟨rfl,K⟩
  have k:=K.bel
  go_wp2_with fail
  exact aw (v:=aF #[aa ⟨#[]⟩,ab ae 1]) (by simp [results,dI,go_sem]) rfl ⟨rfl,k⟩
 have HN:=zq (vS (T:=T) (t:=t) (u:=u) (by rw [h1,h2,h3];rfl))
 obtain ⟨k1,k2,k5⟩:=Ae h1 h2 ft fu
 obtain ⟨k3,k4⟩:=FG (T:=T) k1 k2
 have b6:TN<=400:=by have:=tN h3;have:=a4.len;omega
 have b5:=zq (fun A' c' W (h:ay w.heap.size w W) (hA:TmsAt W.heap.size W A' (kW t u).args)=>uG (JP (T:=T) (TA:=TA) (TN:=TN) (TC:=TC) h1 h2 ft fu) 1200 A' c' W ⟨hD.below h,a4.below h,b6⟩ hA)
 have a7:Hid (kW t u=.mk 3 0 ⟨#[58,45]⟩ [t,u]->∀W g,ay w.heap.size w W->TmsAt W.heap.size W (some ⟨g,0,none⟩) (Tm.mk 3 0 ⟨#[58,45]⟩ [t,u]).args->aG ah 32 #[lW oQ TA TN TC,aN #[ab ae 3,ab ae 0,aa ⟨#[58,45]⟩,.slice (some ⟨g,0,none⟩) 2 2],ab ae 1200] W fun e w'=>∃v,e=av v/\ay w.heap.size w w'/\OwnS 9 w.heap.size w' v (km oQ T (kW t u) 1200 false)):=zq (fun h W g L ha=>by
  have:=b5.out (some ⟨g,0,none⟩) 2 W L (by rw [h];exact ha)
  rw [h] at this |-
  exact this.mono fun _ _ M=>M.imp fun _ hv=>⟨hv.1,L.trans (hv.2.1.mono L.size),hv.2.2.mono L.size⟩)
 have b4:Hid (kW t u=t->∀W,ay w.heap.size w W->aG ah 32 #[lW oQ TA TN TC,dR t A c,ab ae 1200] W fun e w'=>∃v,e=av v/\ay w.heap.size w w'/\OwnS 9 w.heap.size w' v (km oQ T (kW t u) 1200 false)):=zq (fun h W L=>by
  have:=b5.out A c W L (by rw [h];exact (hT.keep L).mono L.size)
  rw [h] at this |-
  exact this.mono fun _ _ M=>M.imp fun _ hv=>⟨hv.1,L.trans (hv.2.1.mono L.size),hv.2.2.mono L.size⟩)
 have a6:=zq (fun W g (L:ay w.heap.size w W) (hg:W.heap.size=g)=>(by have:=JO (w0:=w) (W:=W) (t:=t) (u:=u) (c:=c) (d:=d) 24 rfl rfl hT hU L;rw [hg] at this;exact this:TmsAt (W.alloc (.cells #[ab ae t.kind,ab ae t.num,aa t.name,.slice A t.args.length c,ab ae u.kind,ab ae u.num,aa u.name,.slice B u.args.length d] 24)).heap.size (W.alloc (.cells #[ab ae t.kind,ab ae t.num,aa t.name,.slice A t.args.length c,ab ae u.kind,ab ae u.num,aa u.name,.slice B u.args.length d] 24)) (some ⟨g,0,none⟩) (Tm.mk 3 0 ⟨#[58,45]⟩ [t,u]).args))
 have P:=zq (fun v W (h:OwnS 9 w.heap.size W v (km oQ T (kW t u) 1200 false++[s1 46]))=>Ak W h (by rw [aC];show _+1<=_;omega) k4)
 have b7:=sx k4 (by rw [aC];show _+1<=_;omega)
 have Q:=zq (fun W=>tK (fP (km oQ T (kW t u) 1200 false++[s1 46])++⟨#[10]⟩) W (by rw [qo];unfold bc;show _+1<=_;omega))
 rw [h1] at U
 rw [h2] at a3
 rw [h3] at a8
 rw [HN.out]
 clear h1 h2 h3 hT hU a4 ft fu hD k1 k2 k4 k5 b6 HN b5
 have a5:=zq (FH (t:=t) (u:=u))
 have b3:=zq (yr (t:=t) (u:=u))
 generalize qW (fP (km oQ T (kW t u) 1200 false++[s1 46])++⟨#[10]⟩)=r at *
 generalize fP (km oQ T (kW t u) 1200 false++[s1 46])=js at *
 generalize km oQ T (kW t u) 1200 false=R at *
 generalize kW t u=q at *
 have HR:Hid (ia t=(t.kind==3&&(t.name.toList==[58,45]&&t.args.length==2))):=zq rfl
 have S:Hid (fZ u=(u.kind==2&&u.name.toList==[116,114,117,101])):=zq rfl
 unfold dR IJ lW oQ at *
 generalize N:t.args.length=LN at *
 generalize O:u.args.length=MN at *
 have HL:=zq N
 have HM:=zq O
 clear N O
 go_enter Tryz.func16,Tryz.ntmps16
 go_wp2_with fail
 refine (U.out _ HX.out).mono ?_;rintro e w1 ⟨rfl,l⟩
 have c4:=l.c4
 have c5:=l.c5
 have c6:=l.c6
 have c7:=l.c7
 rw [HM.out] at c7
 go_wp2_with fail
 refine (a3.out _ l).mono ?_;rintro e w2 ⟨rfl,a9⟩
 clear c4 c5 c6 c7
 go_wp2_with fail
 refine (a8.out _ a9).mono ?_;rintro e w3 ⟨rfl,K⟩
 have k:=K.bel
 have b8:=K.lt
 have c0:=K.c0
 have c1:=K.c1
 have c2:=K.c2
 have c3:=K.c3
 have c4:=K.c4
 have c5:=K.c5
 have c6:=K.c6
 have c7:=K.c7
 rw [HL.out] at c3
 rw [HM.out] at c7
 have I:=k.size
 have J:Hid (∀o,(w3.alloc o).heap.size=w3.heap.size+1):=zq (fun o=>by simp)
 clear l a9 K HX U a3 a8 HL HM
 generalize t.kind=a0 at *
 generalize t.num=a1 at *
 generalize t.name=a2 at *
 generalize u.kind=b0 at *
 generalize u.num=b1 at *
 generalize u.name=V at *
 by_cases f0:a0=3
 ·subst f0
  cases f1:(a2.toList==[58,45])
  ·have f2:¬a2.toList=[58,45]:=by simpa using f1
   have hR:ia t=false:=by rw [HR.out,f1];rfl
   by_cases g0:b0=2
   ·subst g0
    cases g1:(V.toList==[116,114,117,101])
    ·have g2:¬V.toList=[116,114,117,101]:=by simpa using g1
     have H:fZ u=false:=by rw [S.out,g1];rfl
     go_wp2_with fail
     refine (a7.out (a5.out (.inr H)) _ _ ?_ (a6.out _ _ ?_ ?_)).mono ?_
     ·exact (k.alloc I _).alloc (by rw [J.out];omega) _
     ·exact k.alloc I _
     ·exact J.out _
     rintro e F ⟨X,rfl,s,b⟩
     have f:=s
     have D:=f.size
     have n:=zq b
     clear b
     go_wp2_with ((with_reducible refine ew ?_);refine bK rfl _ _ 28 9 rfl aS _ 1 16 eA rfl (by decide) w.heap.size _ _ _ rfl F n.out #[aa ⟨#[46]⟩] rfl (by simp [cC]) rfl rfl (by omega) (by omega) D ?_;intro E G j a C)
     have p:Hid (OwnS 9 w.heap.size G E (R++[s1 46])):=zq (OwnS.snoc (m:=[s1 46]) j)
     have i:=f.trans a
     clear j C a
     refine (P.out _ _ p.out).mono ?_;rintro e Y ⟨rfl,y⟩
     have z:=i.trans (y.mono i.size)
     go_wp2_with fail
     refine (Q.out _).mono ?_;rintro e Z ⟨rfl,rfl⟩
     go_wp2_with fail
     exact aw (v:=aF #[aa r.1,ab ae r.2]) (by simp [results,dI,go_sem]) rfl ⟨rfl,z⟩
    ·have g2:V.toList=[116,114,117,101]:=by simpa using g1
     have H:fZ u=true:=by rw [S.out,g1];rfl
     go_wp2_with fail
     refine (b4.out (b3.out hR H) _ ?_).mono ?_
     ·exact k.alloc I _
     rintro e F ⟨X,rfl,s,b⟩
     have f:=s
     have D:=f.size
     have n:=zq b
     clear b
     go_wp2_with ((with_reducible refine ew ?_);refine bK rfl _ _ 28 9 rfl aS _ 1 16 eA rfl (by decide) w.heap.size _ _ _ rfl F n.out #[aa ⟨#[46]⟩] rfl (by simp [cC]) rfl rfl (by omega) (by omega) D ?_;intro E G j a C)
     have p:Hid (OwnS 9 w.heap.size G E (R++[s1 46])):=zq (OwnS.snoc (m:=[s1 46]) j)
     have i:=f.trans a
     clear j C a
     refine (P.out _ _ p.out).mono ?_;rintro e Y ⟨rfl,y⟩
     have z:=i.trans (y.mono i.size)
     go_wp2_with fail
     refine (Q.out _).mono ?_;rintro e Z ⟨rfl,rfl⟩
     go_wp2_with fail
     exact aw (v:=aF #[aa r.1,ab ae r.2]) (by simp [results,dI,go_sem]) rfl ⟨rfl,z⟩
   ·have g3:(b0==2)=false:=by simpa using g0
    have H:fZ u=false:=by rw [S.out,g3];rfl
    go_wp2_with fail
    refine (a7.out (a5.out (.inr H)) _ _ ?_ (a6.out _ _ ?_ ?_)).mono ?_
    ·exact (k.alloc I _).alloc (by rw [J.out];omega) _
    ·exact k.alloc I _
    ·exact J.out _
    rintro e F ⟨X,rfl,s,b⟩
    have f:=s
    have D:=f.size
    have n:=zq b
    clear b
    go_wp2_with ((with_reducible refine ew ?_);refine bK rfl _ _ 28 9 rfl aS _ 1 16 eA rfl (by decide) w.heap.size _ _ _ rfl F n.out #[aa ⟨#[46]⟩] rfl (by simp [cC]) rfl rfl (by omega) (by omega) D ?_;intro E G j a C)
    have p:Hid (OwnS 9 w.heap.size G E (R++[s1 46])):=zq (OwnS.snoc (m:=[s1 46]) j)
    have i:=f.trans a
    clear j C a
    refine (P.out _ _ p.out).mono ?_;rintro e Y ⟨rfl,y⟩
    have z:=i.trans (y.mono i.size)
    go_wp2_with fail
    refine (Q.out _).mono ?_;rintro e Z ⟨rfl,rfl⟩
    go_wp2_with fail
    exact aw (v:=aF #[aa r.1,ab ae r.2]) (by simp [results,dI,go_sem]) rfl ⟨rfl,z⟩
  ·have f2:a2.toList=[58,45]:=by simpa using f1
   by_cases f3:LN=2
   ·subst f3
    have hR:ia t=true:=by rw [HR.out,f1];rfl
    go_wp2_with fail
    refine (a7.out (a5.out (.inl hR)) _ _ ?_ (a6.out _ _ ?_ ?_)).mono ?_
    ·exact (k.alloc I _).alloc (by rw [J.out];omega) _
    ·exact k.alloc I _
    ·exact J.out _
    rintro e F ⟨X,rfl,s,b⟩
    have f:=s
    have D:=f.size
    have n:=zq b
    clear b
    go_wp2_with ((with_reducible refine ew ?_);refine bK rfl _ _ 28 9 rfl aS _ 1 16 eA rfl (by decide) w.heap.size _ _ _ rfl F n.out #[aa ⟨#[46]⟩] rfl (by simp [cC]) rfl rfl (by omega) (by omega) D ?_;intro E G j a C)
    have p:Hid (OwnS 9 w.heap.size G E (R++[s1 46])):=zq (OwnS.snoc (m:=[s1 46]) j)
    have i:=f.trans a
    clear j C a
    refine (P.out _ _ p.out).mono ?_;rintro e Y ⟨rfl,y⟩
    have z:=i.trans (y.mono i.size)
    go_wp2_with fail
    refine (Q.out _).mono ?_;rintro e Z ⟨rfl,rfl⟩
    go_wp2_with fail
    exact aw (v:=aF #[aa r.1,ab ae r.2]) (by simp [results,dI,go_sem]) rfl ⟨rfl,z⟩
   ·have f4:(LN==2)=false:=by simpa using f3
    have f5:((LN:Int)==2)=false:=by simp;omega
    have f6:¬(LN:Int)=2:=by omega
    have hR:ia t=false:=by rw [HR.out,f1,f4];rfl
    by_cases g0:b0=2
    ·subst g0
     cases g1:(V.toList==[116,114,117,101])
     ·have g2:¬V.toList=[116,114,117,101]:=by simpa using g1
      have H:fZ u=false:=by rw [S.out,g1];rfl
      go_wp2_with fail
      refine (a7.out (a5.out (.inr H)) _ _ ?_ (a6.out _ _ ?_ ?_)).mono ?_
      ·exact (k.alloc I _).alloc (by rw [J.out];omega) _
      ·exact k.alloc I _
      ·exact J.out _
      rintro e F ⟨X,rfl,s,b⟩
      have f:=s
      have D:=f.size
      have n:=zq b
      clear b
      go_wp2_with ((with_reducible refine ew ?_);refine bK rfl _ _ 28 9 rfl aS _ 1 16 eA rfl (by decide) w.heap.size _ _ _ rfl F n.out #[aa ⟨#[46]⟩] rfl (by simp [cC]) rfl rfl (by omega) (by omega) D ?_;intro E G j a C)
      have p:Hid (OwnS 9 w.heap.size G E (R++[s1 46])):=zq (OwnS.snoc (m:=[s1 46]) j)
      have i:=f.trans a
      clear j C a
      refine (P.out _ _ p.out).mono ?_;rintro e Y ⟨rfl,y⟩
      have z:=i.trans (y.mono i.size)
      go_wp2_with fail
      refine (Q.out _).mono ?_;rintro e Z ⟨rfl,rfl⟩
      go_wp2_with fail
      exact aw (v:=aF #[aa r.1,ab ae r.2]) (by simp [results,dI,go_sem]) rfl ⟨rfl,z⟩
     ·have g2:V.toList=[116,114,117,101]:=by simpa using g1
      have H:fZ u=true:=by rw [S.out,g1];rfl
      go_wp2_with fail
      refine (b4.out (b3.out hR H) _ ?_).mono ?_
      ·exact k.alloc I _
      rintro e F ⟨X,rfl,s,b⟩
      have f:=s
      have D:=f.size
      have n:=zq b
      clear b
      go_wp2_with ((with_reducible refine ew ?_);refine bK rfl _ _ 28 9 rfl aS _ 1 16 eA rfl (by decide) w.heap.size _ _ _ rfl F n.out #[aa ⟨#[46]⟩] rfl (by simp [cC]) rfl rfl (by omega) (by omega) D ?_;intro E G j a C)
      have p:Hid (OwnS 9 w.heap.size G E (R++[s1 46])):=zq (OwnS.snoc (m:=[s1 46]) j)
      have i:=f.trans a
      clear j C a
      refine (P.out _ _ p.out).mono ?_;rintro e Y ⟨rfl,y⟩
      have z:=i.trans (y.mono i.size)
      go_wp2_with fail
      refine (Q.out _).mono ?_;rintro e Z ⟨rfl,rfl⟩
      go_wp2_with fail
      exact aw (v:=aF #[aa r.1,ab ae r.2]) (by simp [results,dI,go_sem]) rfl ⟨rfl,z⟩
    ·have g3:(b0==2)=false:=by simpa using g0
     have H:fZ u=false:=by rw [S.out,g3];rfl
     go_wp2_with fail
     refine (a7.out (a5.out (.inr H)) _ _ ?_ (a6.out _ _ ?_ ?_)).mono ?_
     ·exact (k.alloc I _).alloc (by rw [J.out];omega) _
     ·exact k.alloc I _
     ·exact J.out _
     rintro e F ⟨X,rfl,s,b⟩
     have f:=s
     have D:=f.size
     have n:=zq b
     clear b
     go_wp2_with ((with_reducible refine ew ?_);refine bK rfl _ _ 28 9 rfl aS _ 1 16 eA rfl (by decide) w.heap.size _ _ _ rfl F n.out #[aa ⟨#[46]⟩] rfl (by simp [cC]) rfl rfl (by omega) (by omega) D ?_;intro E G j a C)
     have p:Hid (OwnS 9 w.heap.size G E (R++[s1 46])):=zq (OwnS.snoc (m:=[s1 46]) j)
     have i:=f.trans a
     clear j C a
     refine (P.out _ _ p.out).mono ?_;rintro e Y ⟨rfl,y⟩
     have z:=i.trans (y.mono i.size)
     go_wp2_with fail
     refine (Q.out _).mono ?_;rintro e Z ⟨rfl,rfl⟩
     go_wp2_with fail
     exact aw (v:=aF #[aa r.1,ab ae r.2]) (by simp [results,dI,go_sem]) rfl ⟨rfl,z⟩
 ·have f4:(a0==3)=false:=by simpa using f0
  have hR:ia t=false:=by rw [HR.out,f4];rfl
  by_cases g0:b0=2
  ·subst g0
   cases g1:(V.toList==[116,114,117,101])
   ·have g2:¬V.toList=[116,114,117,101]:=by simpa using g1
    have H:fZ u=false:=by rw [S.out,g1];rfl
    go_wp2_with fail
    refine (a7.out (a5.out (.inr H)) _ _ ?_ (a6.out _ _ ?_ ?_)).mono ?_
    ·exact (k.alloc I _).alloc (by rw [J.out];omega) _
    ·exact k.alloc I _
    ·exact J.out _
    rintro e F ⟨X,rfl,s,b⟩
    have f:=s
    have D:=f.size
    have n:=zq b
    clear b
    go_wp2_with ((with_reducible refine ew ?_);refine bK rfl _ _ 28 9 rfl aS _ 1 16 eA rfl (by decide) w.heap.size _ _ _ rfl F n.out #[aa ⟨#[46]⟩] rfl (by simp [cC]) rfl rfl (by omega) (by omega) D ?_;intro E G j a C)
    have p:Hid (OwnS 9 w.heap.size G E (R++[s1 46])):=zq (OwnS.snoc (m:=[s1 46]) j)
    have i:=f.trans a
    clear j C a
    refine (P.out _ _ p.out).mono ?_;rintro e Y ⟨rfl,y⟩
    have z:=i.trans (y.mono i.size)
    go_wp2_with fail
    refine (Q.out _).mono ?_;rintro e Z ⟨rfl,rfl⟩
    go_wp2_with fail
    exact aw (v:=aF #[aa r.1,ab ae r.2]) (by simp [results,dI,go_sem]) rfl ⟨rfl,z⟩
   ·have g2:V.toList=[116,114,117,101]:=by simpa using g1
    have H:fZ u=true:=by rw [S.out,g1];rfl
    go_wp2_with fail
    refine (b4.out (b3.out hR H) _ ?_).mono ?_
    ·exact k.alloc I _
    rintro e F ⟨X,rfl,s,b⟩
    have f:=s
    have D:=f.size
    have n:=zq b
    clear b
    go_wp2_with ((with_reducible refine ew ?_);refine bK rfl _ _ 28 9 rfl aS _ 1 16 eA rfl (by decide) w.heap.size _ _ _ rfl F n.out #[aa ⟨#[46]⟩] rfl (by simp [cC]) rfl rfl (by omega) (by omega) D ?_;intro E G j a C)
    have p:Hid (OwnS 9 w.heap.size G E (R++[s1 46])):=zq (OwnS.snoc (m:=[s1 46]) j)
    have i:=f.trans a
    clear j C a
    refine (P.out _ _ p.out).mono ?_;rintro e Y ⟨rfl,y⟩
    have z:=i.trans (y.mono i.size)
    go_wp2_with fail
    refine (Q.out _).mono ?_;rintro e Z ⟨rfl,rfl⟩
    go_wp2_with fail
    exact aw (v:=aF #[aa r.1,ab ae r.2]) (by simp [results,dI,go_sem]) rfl ⟨rfl,z⟩
  ·have g3:(b0==2)=false:=by simpa using g0
   have H:fZ u=false:=by rw [S.out,g3];rfl
   go_wp2_with fail
   refine (a7.out (a5.out (.inr H)) _ _ ?_ (a6.out _ _ ?_ ?_)).mono ?_
   ·exact (k.alloc I _).alloc (by rw [J.out];omega) _
   ·exact k.alloc I _
   ·exact J.out _
   rintro e F ⟨X,rfl,s,b⟩
   have f:=s
   have D:=f.size
   have n:=zq b
   clear b
   go_wp2_with ((with_reducible refine ew ?_);refine bK rfl _ _ 28 9 rfl aS _ 1 16 eA rfl (by decide) w.heap.size _ _ _ rfl F n.out #[aa ⟨#[46]⟩] rfl (by simp [cC]) rfl rfl (by omega) (by omega) D ?_;intro E G j a C)
   have p:Hid (OwnS 9 w.heap.size G E (R++[s1 46])):=zq (OwnS.snoc (m:=[s1 46]) j)
   have i:=f.trans a
   clear j C a
   refine (P.out _ _ p.out).mono ?_;rintro e Y ⟨rfl,y⟩
   have z:=i.trans (y.mono i.size)
   go_wp2_with fail
   refine (Q.out _).mono ?_;rintro e Z ⟨rfl,rfl⟩
   go_wp2_with fail
   exact aw (v:=aF #[aa r.1,ab ae r.2]) (by simp [results,dI,go_sem]) rfl ⟨rfl,z⟩
end Go.Proofs.YtgapnafkelokaaaGreatDoor
namespace Hb
open Go Go.RowKit
theorem FC (k:Nat) (acc:List UInt8) (h:k / 10=0):aP k++acc=(48+((k % 10:Nat):Int)).toNat.toUInt8::acc:=by
 rw [aP,dif_pos (by omega)]
 have e:(48+((k % 10:Nat):Int)).toNat=48+k:=by omega
 rw [e];rfl
theorem Hu (n:Nat):kV (n:Int)=⟨(aP n).toArray⟩:=by
 unfold kV Lib.itoa;rw [if_neg (by omega)];rfl
def StrsIn (w:aj) (b:Nat) (l:List ByteArray):Prop:=b<w.heap.size/\∀(j:Nat) (a:j<l.length),w.cell? ⟨b,j,none⟩=some (aa l[j])
theorem StrsIn.below {w w':aj} {b:Nat} {l:List ByteArray} (h:StrsIn w b l) (a:ay w.heap.size w w'):StrsIn w' b l :=
 ⟨aB h.1 a.size,fun j c=>(a.cell (p:=⟨b,j,none⟩) h.1).trans (h.2 j c)⟩
theorem sD:∀(l a:List OpR),(dg a l).length=a.length+l.length:=fun l a=>by rw [(qM l a).length_eq,aC]
theorem yb (l a:List OpR) (o:OpR):dg a (l++[o])=kP o (dg a l):=by unfold dg;rw [eH];rfl
theorem zK (l m a:List OpR):dg a (l++m)=dg (dg a l) m:=by unfold dg;rw [eH]
theorem Eu (k:Nat):dg (dg [] (it k)) (KO k)=dg [] (it (k+1)):=by rw [pQ,zK]
end Hb
namespace Go.Proofs.YtgapnafkelokaaaGreatDoor
open Go.RowKit Hb
theorem GG (A:Option Addr) (n o:Nat) (l:List OpR) (d f:Int) (b m M:Nat) (names:List ByteArray) (w:aj) (V:n+m<=400) (r:Tab w A n o l) (D:m=names.length) (y:StrsIn w b names) :
  aG ah 63 #[.slice A n o,ab ae d,ab ae f,.slice (some ⟨b,0,none⟩) m M] w fun e w'=>∃c a g,e=av (.slice c a g)/\ay w.heap.size w w'/\Tab w' c a g (dg l (names.map fun s=>(⟨s,f,d⟩:OpR))):=by
 have x:=zq D
 have G:=zq y
 have H:=zq (show Tab w A n o (dg l ((names.take 0).map fun s=>(⟨s,f,d⟩:OpR))) from r)
 have F:=zq r.len
 have K:Hid (∀W c a j (s:ByteArray) (t:List OpR),a<=400->Tab W c a j t->aG ah 98 #[.slice c a j,aN #[aa s,ab ae f,ab ae d]] W fun e w'=>∃A'' n'' cap'',e=av (.slice A'' n'' cap'')/\ay W.heap.size W w'/\Tab w' A'' n'' cap'' (kP ⟨s,f,d⟩ t)):=zq fun W c a j s t q N=>Ed c a j t ⟨s,f,d⟩ W q N
 clear r D y
 go_enter Tryz.func63,Tryz.ntmps63
 go_wp2_with fail
 go_loopw [0,9] (fun v i wr=>∃(k:Nat) (c:Option Addr) (a g:Nat),k<=m/\v=.slice c a g/\i=ab ae k/\ay w.heap.size w wr/\Hid (Tab wr c a g (dg l ((names.take k).map fun s=>(⟨s,f,d⟩:OpR))))) (fun _ i _=>m-(intOf i).toNat)
 case atStart=>exact ⟨0,A,n,o,Nat.zero_le _,rfl,rfl,ak _ _,H⟩
 case round=>
  obtain ⟨k,c,a,g,T,rfl,rfl,p,h⟩:=hrel
  by_cases U:k<m
  ·have B:k<names.length:=by have:=x.out;omega
   obtain ⟨S,z⟩:=G.out.below p
   have R:=z k B
   have P:a<=400:=by
    have q:=h.out.len
    rw [sD,bm,List.length_take] at q
    have:=F.out
    omega
   have J:=zq (show kP ⟨names[k],f,d⟩ (dg l ((names.take k).map fun s=>(⟨s,f,d⟩:OpR)))=dg l ((names.take (k+1)).map fun s=>(⟨s,f,d⟩:OpR)) by
    rw [List.take_succ_eq_append_getElem B,List.map_append,List.map_cons,List.map_nil,yb])
   generalize names[k]=s at *
   clear z
   go_wp2_with fail
   refine (K.out wr c a g s _ P h.out).mono ?_;rintro e X ⟨E,Q,L,rfl,O,u⟩
   rw [J.out] at u
   have I:=zq u
   clear u
   go_wp2_with fail
   go_roundw
   case rel=>exact ⟨k+1,E,Q,L,by omega,rfl,by go_num,p.trans (O.mono p.size),I⟩
   case measure=>simp [intOf] <;> omega
  ·have C:names.take k=names:=List.take_of_length_le (by have:=x.out;omega)
   rw [C] at h
   clear C
   go_wp2_with fail
   go_ret
   exact ⟨c,a,g,rfl,p,h.out⟩
theorem ja (k:Nat) (q:k<12) (A:Option Addr) (n f b:Nat) (i W:aj) (g:Tab W A n f (dg [] (it k))) (o:BS i W b k) :
  aG ah 63 #[.slice A n f,ab ae (Lc k),ab ae (Lb k),.slice (some ⟨b,0,none⟩) (Cy k).length (Cy k).length] W fun e w'=>∃a d c,e=av (.slice a d c)/\ay W.heap.size W w'/\Tab w' a d c (dg [] (it (k+1))):=by
 have l:=g.len
 rw [sD,List.length_nil,ap] at l
 have r:=JE k q
 refine (GG A n f _ (Lc k) (Lb k) b (Cy k).length (Cy k).length (Cy k) W (by omega) g rfl (o.out (ak _ _))).mono ?_
 rintro e w' ⟨a,d,c,p,m,h⟩
 have j:((Cy k).map fun s=>(⟨s,Lb k,Lc k⟩:OpR))=KO k:=rfl
 rw [j,Eu] at h
 exact ⟨a,d,c,p,m,h⟩
theorem Kz (A:Option Addr) (n a b:Nat) (c W:aj) (d:Tab W A n a (dg [] (it 0))) (f:BS c W b 0) :
  aG ah 63 #[.slice A n a,ab ae 1200,ab ae 1,.slice (some ⟨b,0,none⟩) 2 2] W fun e w'=>∃A' n' cap',e=av (.slice A' n' cap')/\ay W.heap.size W w'/\Tab w' A' n' cap' (dg [] (it 1)) :=
 ja 0 (by decide) A n a b c W d f
theorem Ky (A:Option Addr) (n a b:Nat) (c W:aj) (d:Tab W A n a (dg [] (it 1))) (f:BS c W b 1) :
  aG ah 63 #[.slice A n a,ab ae 1200,ab ae 5,.slice (some ⟨b,0,none⟩) 2 2] W fun e w'=>∃A' n' cap',e=av (.slice A' n' cap')/\ay W.heap.size W w'/\Tab w' A' n' cap' (dg [] (it 2)) :=
 ja 1 (by decide) A n a b c W d f
theorem Kx (A:Option Addr) (n a b:Nat) (c W:aj) (d:Tab W A n a (dg [] (it 2))) (f:BS c W b 2) :
  aG ah 63 #[.slice A n a,ab ae 1100,ab ae 2,.slice (some ⟨b,0,none⟩) 1 1] W fun e w'=>∃A' n' cap',e=av (.slice A' n' cap')/\ay W.heap.size W w'/\Tab w' A' n' cap' (dg [] (it 3)) :=
 ja 2 (by decide) A n a b c W d f
theorem Kw (A:Option Addr) (n a b:Nat) (c W:aj) (d:Tab W A n a (dg [] (it 3))) (f:BS c W b 3) :
  aG ah 63 #[.slice A n a,ab ae 1050,ab ae 2,.slice (some ⟨b,0,none⟩) 1 1] W fun e w'=>∃A' n' cap',e=av (.slice A' n' cap')/\ay W.heap.size W w'/\Tab w' A' n' cap' (dg [] (it 4)) :=
 ja 3 (by decide) A n a b c W d f
theorem Kv (A:Option Addr) (n a b:Nat) (c W:aj) (d:Tab W A n a (dg [] (it 4))) (f:BS c W b 4) :
  aG ah 63 #[.slice A n a,ab ae 1000,ab ae 2,.slice (some ⟨b,0,none⟩) 1 1] W fun e w'=>∃A' n' cap',e=av (.slice A' n' cap')/\ay W.heap.size W w'/\Tab w' A' n' cap' (dg [] (it 5)) :=
 ja 4 (by decide) A n a b c W d f
theorem Ku (A:Option Addr) (n a b:Nat) (c W:aj) (d:Tab W A n a (dg [] (it 5))) (f:BS c W b 5) :
  aG ah 63 #[.slice A n a,ab ae 900,ab ae 4,.slice (some ⟨b,0,none⟩) 1 1] W fun e w'=>∃A' n' cap',e=av (.slice A' n' cap')/\ay W.heap.size W w'/\Tab w' A' n' cap' (dg [] (it 6)) :=
 ja 5 (by decide) A n a b c W d f
theorem Kt (A:Option Addr) (n a b:Nat) (c W:aj) (d:Tab W A n a (dg [] (it 6))) (f:BS c W b 6) :
  aG ah 63 #[.slice A n a,ab ae 700,ab ae 1,.slice (some ⟨b,0,none⟩) 16 16] W fun e w'=>∃A' n' cap',e=av (.slice A' n' cap')/\ay W.heap.size W w'/\Tab w' A' n' cap' (dg [] (it 7)) :=
 ja 6 (by decide) A n a b c W d f
theorem Ks (A:Option Addr) (n a b:Nat) (c W:aj) (d:Tab W A n a (dg [] (it 7))) (f:BS c W b 7) :
  aG ah 63 #[.slice A n a,ab ae 500,ab ae 3,.slice (some ⟨b,0,none⟩) 4 4] W fun e w'=>∃A' n' cap',e=av (.slice A' n' cap')/\ay W.heap.size W w'/\Tab w' A' n' cap' (dg [] (it 8)) :=
 ja 7 (by decide) A n a b c W d f
theorem Kr (A:Option Addr) (n a b:Nat) (c W:aj) (d:Tab W A n a (dg [] (it 8))) (f:BS c W b 8) :
  aG ah 63 #[.slice A n a,ab ae 400,ab ae 3,.slice (some ⟨b,0,none⟩) 8 8] W fun e w'=>∃A' n' cap',e=av (.slice A' n' cap')/\ay W.heap.size W w'/\Tab w' A' n' cap' (dg [] (it 9)) :=
 ja 8 (by decide) A n a b c W d f
theorem Kq (A:Option Addr) (n a b:Nat) (c W:aj) (d:Tab W A n a (dg [] (it 9))) (f:BS c W b 9) :
  aG ah 63 #[.slice A n a,ab ae 200,ab ae 1,.slice (some ⟨b,0,none⟩) 1 1] W fun e w'=>∃A' n' cap',e=av (.slice A' n' cap')/\ay W.heap.size W w'/\Tab w' A' n' cap' (dg [] (it 10)) :=
 ja 9 (by decide) A n a b c W d f
theorem Ji (A:Option Addr) (n a b:Nat) (c W:aj) (d:Tab W A n a (dg [] (it 10))) (f:BS c W b 10) :
  aG ah 63 #[.slice A n a,ab ae 200,ab ae 2,.slice (some ⟨b,0,none⟩) 1 1] W fun e w'=>∃A' n' cap',e=av (.slice A' n' cap')/\ay W.heap.size W w'/\Tab w' A' n' cap' (dg [] (it 11)) :=
 ja 10 (by decide) A n a b c W d f
theorem Jh (A:Option Addr) (n a b:Nat) (c W:aj) (d:Tab W A n a (dg [] (it 11))) (f:BS c W b 11) :
  aG ah 63 #[.slice A n a,ab ae 200,ab ae 4,.slice (some ⟨b,0,none⟩) 3 3] W fun e w'=>∃A' n' cap',e=av (.slice A' n' cap')/\ay W.heap.size W w'/\Tab w' A' n' cap' (dg [] (it 12)) :=
 ja 11 (by decide) A n a b c W d f
theorem xf (w:aj):aG ah 36 #[] w fun e w'=>∃A n cap,e=av (.slice A n cap)/\ay w.heap.size w w'/\Tab w' A n cap defL:=by
 have C:=zq (show Tab w none 0 0 (dg [] (it 0)) from Tab.none w)
 have o:=zq (ak w.heap.size w)
 go_enter Tryz.func36,Tryz.ntmps36
 go_wp2_with ((with_reducible refine mB ?_);refine gd rfl 0 _ _ _ rfl rfl LU ?_;intro b0 v0 a)
 refine (Kz none 0 0 b0 _ v0 (C.out.below a.bel) a).mono ?_;rintro e w1 ⟨A1,n1,c1,rfl,O,a0⟩
 have D:=zq a0
 have p:=zq (o.out.trans ((a.bel.trans (O.mono a.bel.size)).mono o.out.size))
 clear a0 O a C o
 go_wp2_with ((with_reducible refine mB ?_);refine gd rfl 1 _ _ _ rfl rfl LS ?_;intro b1 v1 b)
 refine (Ky A1 n1 c1 b1 _ v1 (D.out.below b.bel) b).mono ?_;rintro e w2 ⟨A2,n2,c2,rfl,S,a4⟩
 have G:=zq a4
 have s:=zq (p.out.trans ((b.bel.trans (S.mono b.bel.size)).mono p.out.size))
 clear a4 S b D p
 go_wp2_with ((with_reducible refine mB ?_);refine gd rfl 2 _ _ _ rfl rfl LR ?_;intro b2 v2 f)
 refine (Kx A2 n2 c2 b2 _ v2 (G.out.below f.bel) f).mono ?_;rintro e w3 ⟨A3,n3,c3,rfl,T,a5⟩
 have H:=zq a5
 have t:=zq (s.out.trans ((f.bel.trans (T.mono f.bel.size)).mono s.out.size))
 clear a5 T f G s
 go_wp2_with ((with_reducible refine mB ?_);refine gd rfl 3 _ _ _ rfl rfl LQ ?_;intro b3 v3 g)
 refine (Kw A3 n3 c3 b3 _ v3 (H.out.below g.bel) g).mono ?_;rintro e w4 ⟨A4,n4,c4,rfl,U,a6⟩
 have I:=zq a6
 have u:=zq (t.out.trans ((g.bel.trans (U.mono g.bel.size)).mono t.out.size))
 clear a6 U g H t
 go_wp2_with ((with_reducible refine mB ?_);refine gd rfl 4 _ _ _ rfl rfl LP ?_;intro b4 v4 h)
 refine (Kv A4 n4 c4 b4 _ v4 (I.out.below h.bel) h).mono ?_;rintro e w5 ⟨A5,n5,c5,rfl,V,a7⟩
 have J:=zq a7
 have v:=zq (u.out.trans ((h.bel.trans (V.mono h.bel.size)).mono u.out.size))
 clear a7 V h I u
 go_wp2_with ((with_reducible refine mB ?_);refine gd rfl 5 _ _ _ rfl rfl LO ?_;intro b5 v5 i)
 refine (Ku A5 n5 c5 b5 _ v5 (J.out.below i.bel) i).mono ?_;rintro e w6 ⟨A6,n6,c6,rfl,W,a8⟩
 have K:=zq a8
 have x:=zq (v.out.trans ((i.bel.trans (W.mono i.bel.size)).mono v.out.size))
 clear a8 W i J v
 go_wp2_with ((with_reducible refine mB ?_);refine gd rfl 6 _ _ _ rfl rfl LM ?_;intro b6 v6 j)
 refine (Kt A6 n6 c6 b6 _ v6 (K.out.below j.bel) j).mono ?_;rintro e w7 ⟨A7,n7,c7,rfl,X,a9⟩
 have L:=zq a9
 have y:=zq (x.out.trans ((j.bel.trans (X.mono j.bel.size)).mono x.out.size))
 clear a9 X j K x
 go_wp2_with ((with_reducible refine mB ?_);refine gd rfl 7 _ _ _ rfl rfl LL ?_;intro b7 v7 k)
 refine (Ks A7 n7 c7 b7 _ v7 (L.out.below k.bel) k).mono ?_;rintro e w8 ⟨A8,n8,c8,rfl,Y,c0⟩
 have M:=zq c0
 have z:=zq (y.out.trans ((k.bel.trans (Y.mono k.bel.size)).mono y.out.size))
 clear c0 Y k L y
 go_wp2_with ((with_reducible refine mB ?_);refine gd rfl 8 _ _ _ rfl rfl LK ?_;intro b8 v8 l)
 refine (Kr A8 n8 c8 b8 _ v8 (M.out.below l.bel) l).mono ?_;rintro e w9 ⟨A9,n9,c9,rfl,Z,d0⟩
 have N:=zq d0
 have B:=zq (z.out.trans ((l.bel.trans (Z.mono l.bel.size)).mono z.out.size))
 clear d0 Z l M z
 go_wp2_with ((with_reducible refine mB ?_);refine gd rfl 9 _ _ _ rfl rfl LJ ?_;intro b9 v9 m)
 refine (Kq A9 n9 c9 b9 _ v9 (N.out.below m.bel) m).mono ?_;rintro e e6 ⟨d1,e1,d8,rfl,P,a1⟩
 have E:=zq a1
 have q:=zq (B.out.trans ((m.bel.trans (P.mono m.bel.size)).mono B.out.size))
 clear a1 P m N B
 go_wp2_with ((with_reducible refine mB ?_);refine gd rfl 10 _ _ _ rfl rfl KT ?_;intro d6 e4 c)
 refine (Ji d1 e1 d8 d6 _ e4 (E.out.below c.bel) c).mono ?_;rintro e e7 ⟨d2,e2,d9,rfl,Q,a2⟩
 have F:=zq a2
 have r:=zq (q.out.trans ((c.bel.trans (Q.mono c.bel.size)).mono q.out.size))
 clear a2 Q c E q
 go_wp2_with ((with_reducible refine mB ?_);refine gd rfl 11 _ _ _ rfl rfl KS ?_;intro d7 e5 d)
 refine (Jh d2 e2 d9 d7 _ e5 (F.out.below d.bel) d).mono ?_;rintro e e8 ⟨d3,e3,e0,rfl,R,a3⟩
 have d5:=zq a3
 have d4:=zq (r.out.trans ((d.bel.trans (R.mono d.bel.size)).mono r.out.size))
 clear a3 R d F r
 go_wp2_with fail
 go_ret
 exact ⟨d3,e3,e0,rfl,d4.out,d5.out⟩
end Go.Proofs.YtgapnafkelokaaaGreatDoor
