/- Parts of the proof. -/
import Derived.Test.YtgapnafkelokaaaGreatDoorR01
import Derived.Test.YtgapnafkelokaaaGreatDoorR11
import Derived.Test.YtgapnafkelokaaaGreatDoorR03
import Derived.Test.YtgapnafkelokaaaGreatDoorR06
import Derived.Maps.OwnSet
set_option maxHeartbeats 12800000
set_option maxRecDepth 100000
open Bool renaming and_eq_true -> aE
open Go renaming Calls -> aG, Value -> aA, World -> aj, bodyPost_ret -> aw, heap_alloc_new -> eh, maxLen -> bc
open Go.Ending renaming returned -> av, returned -> em
open Go.IntKind renaming i64 -> ae
open Go.Proofs.Tryz renaming prog -> ah
open Go.RowKit renaming Below -> ay
open Go.RowKit.Below renaming refl -> ak
open Go.Value renaming agg -> aN, bool -> an, int -> ab, slice -> ex, string -> aa
open Go.World renaming news_of_block -> dh
open List renaming all_eq_true -> bh, eq_nil_of_length_eq_zero -> bH, foldl_cons -> fB, getElem_mem -> aQ, length_eq_zero_iff -> ez, length_map -> bm, length_take -> cZ, map_append -> bv, map_cons -> bR, mem_cons_of_mem -> ba, mem_cons_self -> aY, sum_cons -> gE, take_succ_eq_append_getElem -> aK
open Nat renaming le_refl -> ag, le_trans -> aH, lt_of_lt_of_le -> aB, zero_le -> bj
namespace Hb
open Go Go.RowKit
def xn (n:Int):Tm:=.mk 1 n ⟨#[]⟩ []
def xa (s:ByteArray):Tm:=.mk 2 0 s []
def xP:Tm:=.mk 3 0 ⟨#[43]⟩ [xn 1,xn 2]
def xM:Tm:=.mk 3 0 ⟨#[42]⟩ [xP,xn 3]
def xC:Tm:=.mk 3 0 ⟨#[44]⟩ [xa ⟨#[97]⟩,xa ⟨#[98,32,99]⟩]
def xD:Tm:=.mk 3 0 ⟨#[45]⟩ [xC]
theorem pa {t:Tm} (h:dH t=true) (a:t.args=[]):t.allOk=true:=by rw [Tm.allOk_eq,h,a];rfl
theorem zt {t a b:Tm} (h:dH t=true) (e:t.args=[a,b]) (c:a.allOk=true) (d:b.allOk=true):t.allOk=true:=by rw [Tm.allOk_eq,h,e];simp [c,d]
theorem Jo {t a:Tm} (h:dH t=true) (c:t.args=[a]) (b:a.allOk=true):t.allOk=true:=by rw [Tm.allOk_eq,h,c];simp [b]
theorem ot {t:Tm} (a:t.args=[]):t.nodes=1:=by rw [Tm.nodes_eq,a];rfl
theorem ES {t a b:Tm} (c:t.args=[a,b]):t.nodes=1+(a.nodes+b.nodes):=by rw [Tm.nodes_eq,c];simp
theorem KM {t a:Tm} (b:t.args=[a]):t.nodes=1+a.nodes:=by rw [Tm.nodes_eq,b];simp
theorem Dh (n:Int):(xn n).allOk=true:=pa (by unfold dH xn Tm.kind Tm.name Tm.args;simp [iC]) rfl
theorem Kg:xP.allOk=true:=zt (by decide +kernel) rfl (Dh _) (Dh _)
theorem Iu:xM.allOk=true:=zt (by decide +kernel) rfl Kg (Dh _)
theorem Kj:xC.allOk=true:=zt (by decide +kernel) rfl (pa (by decide +kernel) rfl) (pa (by decide +kernel) rfl)
theorem Iv:xD.allOk=true:=Jo (by decide +kernel) rfl Kj
theorem Lf:xP.nodes=3:=by rw [ES (a:=xn 1) (b:=xn 2) rfl,ot (t:=xn 1) rfl,ot (t:=xn 2) rfl]
theorem Kh:xM.nodes=5:=by rw [ES (a:=xP) (b:=xn 3) rfl,Lf,ot (t:=xn 3) rfl]
theorem Lh:xC.nodes=3:=by rw [ES (a:=xa ⟨#[97]⟩) (b:=xa ⟨#[98,32,99]⟩) rfl,ot (t:=xa ⟨#[97]⟩) rfl,ot (t:=xa ⟨#[98,32,99]⟩) rfl]
theorem Ki:xD.nodes=4:=by rw [KM (a:=xC) rfl,Lh]
theorem zS (k:Nat) (h:k<10):kV (k:Int)=⟨#[(48+((k % 10:Nat):Int)).toNat.toUInt8]⟩:=by
 rw [Hu]
 have:=FC k [] (by omega)
 rw [List.append_nil] at this
 rw [this]
theorem Mi:kV 1=⟨#[49]⟩:=zS 1 (by decide)
theorem Mh:kV 2=⟨#[50]⟩:=zS 2 (by decide)
theorem Mg:kV 3=⟨#[51]⟩:=zS 3 (by decide)
theorem wF {o:WO} {T:List OpR} {t:Tm} {l:List ByteArray} {s:ByteArray} (f:t.allOk=true) (d:t.nodes<=2000) (a:bF T=true) (c:km o T t 1200 false=l) (b:fP l=s) (e:s.size<=16384):oF o T t=(s,0):=by
 have g:bu t=true:=(gV t).2 ⟨d,f⟩
 rw [rA (by rw [g,a];rfl),c,b,mV e]
theorem xt {o:WO} {T:List OpR} {t:Tm} (n:Nat) (a:t.allOk=true) (c:t.nodes<=n) (m:Int) (b:Bool):km o T t m b=bo o T (tt o T n) t m b :=
 gS (K4.of_ok t a) (fun _=>(wL o T (K4.of_ok t a) c).symm) m b
theorem IS:km oQ defL xD 1200 false=[⟨#[45]⟩,⟨#[32]⟩,⟨#[40]⟩,⟨#[97]⟩,⟨#[44]⟩,⟨#[39,98,32,99,39]⟩,⟨#[41]⟩]:=by
 rw [xt 4 Iv (by rw [Ki];decide)]
 decide +kernel
theorem IN:km oQ defL xM 1200 false=[⟨#[40]⟩,kV 1,⟨#[43]⟩,kV 2,⟨#[41]⟩,⟨#[42]⟩,kV 3]:=by
 rw [xt 5 Iu (by rw [Kh];decide)]
 kernel_rfl
theorem IM:oF oQ defL xM=(⟨#[40,49,43,50,41,42,51]⟩,0):=by
 refine wF Iu (by rw [Kh];decide) vR IN ?_ (by decide)
 rw [Mi,Mh,Mg]
 decide +kernel
theorem IR:oF oQ defL xD=(⟨#[45,32,40,97,44,39,98,32,99,39,41]⟩,0):=wF Iv (by rw [Ki];decide) vR IS (by decide +kernel) (by decide)
def xH:Tm:=xa ⟨#[61]⟩
def xT:Tm:=xa ⟨#[116,114,117,101]⟩
theorem Lg:bu xH=true:=(gV _).2 ⟨by rw [ot (t:=xH) rfl];decide,pa (by decide +kernel) rfl⟩
theorem Le:bu xT=true:=(gV _).2 ⟨by rw [ot (t:=xT) rfl];decide,pa (by decide +kernel) rfl⟩
theorem IQ:CU defL xH xT=(⟨#[61,32,46,10]⟩,0):=by
 rw [vS (by rw [Lg,Le,vR];rfl),yr (by decide +kernel) (by decide +kernel)]
 have h:km oQ defL xH 1200 false=[⟨#[61]⟩]:=by
  show [jo oQ ⟨#[61]⟩]=_
  decide +kernel
 rw [h]
 decide +kernel
theorem na {t:Tm} (h:cV t=true) (b:t.args=[]):Tm.All (fun x=>cV x=true) t:=.mk _ h (by rw [b];intro a h;cases h)
theorem IL:Tm.All (fun x=>cV x=true) xP:=.mk _ (by rfl) fun a b=>by
 simp [xP,Tm.args] at b
 rcases b with rfl|rfl <;> exact na (by rfl) rfl
theorem IP:Tm.All (fun x=>cV x=true) xM:=.mk _ (by rfl) fun a b=>by
 simp [xM,Tm.args] at b
 rcases b with rfl|rfl
 ·exact IL
 ·exact na (by rfl) rfl
theorem IU:Tm.All (fun x=>cV x=true) xC:=.mk _ (by rfl) fun a b=>by
 simp [xC,Tm.args] at b
 rcases b with rfl|rfl <;> exact na (by rfl) rfl
theorem IT:Tm.All (fun x=>cV x=true) xD:=.mk _ (by rfl) fun a b=>by
 simp [xD,Tm.args] at b
 subst b
 exact IU
end Hb
namespace Go.Proofs.YtgapnafkelokaaaGreatDoor
open Go.RowKit Hb
theorem FA:defL.length=41:=by kernel_rfl
theorem qI (w:aj) (hD:DoorOk w):aG ah 15 #[] w fun e w'=>e=av (an true)/\ay w.heap.size w w':=by
 have C:=zq hD
 clear hD
 go_enter Tryz.func15,Tryz.ntmps15
 go_wp2_with fail
 refine (xf _).mono ?_;rintro e y ⟨A,n,d,rfl,c9,M⟩
 have d2:=zq M
 have hn:n<=bc:=by have:=M.len;rw [FA] at this;unfold bc;omega
 clear M
 go_wp2_with fail
 refine (ov 1 _).mono ?_;rintro e w2 ⟨rfl,H⟩
 have R:=c9.trans (H.mono c9.size)
 go_wp2_with fail
 refine (ov 2 _).mono ?_;rintro e b ⟨rfl,I⟩
 have S:=R.trans (I.mono R.size)
 have b7:Hid (TmsAt (b.alloc (.cells #[ab ae 1,ab ae 1,aa ⟨#[]⟩,.slice none 0 0,ab ae 1,ab ae 2,aa ⟨#[]⟩,.slice none 0 0] 24)).heap.size (b.alloc (.cells #[ab ae 1,ab ae 1,aa ⟨#[]⟩,.slice none 0 0,ab ae 1,ab ae 2,aa ⟨#[]⟩,.slice none 0 0] 24)) (some ⟨b.heap.size,0,none⟩) [xn 1,xn 2]) :=
  zq (oG (w:=b) 24 [(xn 1,none,0),(xn 2,none,0)] (by unfold bc;simp) (fun r a=>by simp at a;rcases a with rfl|rfl <;> exact TmsK.nil))
 have U:=S.alloc S.size (.cells #[ab ae 1,ab ae 1,aa ⟨#[]⟩,.slice none 0 0,ab ae 1,ab ae 2,aa ⟨#[]⟩,.slice none 0 0] 24)
 go_wp2_with fail
 refine (iX _ _ _ _ _).mono ?_;rintro e w4 ⟨rfl,k⟩
 have V:=U.trans (k.mono U.size)
 have c1:=zq ((b7.out.keep k).mono k.size)
 clear U b7
 go_wp2_with fail
 refine (ov 3 _).mono ?_;rintro e g ⟨rfl,l⟩
 have X:=V.trans (l.mono V.size)
 have c2:=zq ((c1.out.keep l).mono l.size)
 have c3:Hid (TmsAt (g.alloc (.cells #[ab ae 3,ab ae 0,aa ⟨#[43]⟩,.slice (some ⟨b.heap.size,0,none⟩) 2 2,ab ae 1,ab ae 3,aa ⟨#[]⟩,.slice none 0 0] 24)).heap.size (g.alloc (.cells #[ab ae 3,ab ae 0,aa ⟨#[43]⟩,.slice (some ⟨b.heap.size,0,none⟩) 2 2,ab ae 1,ab ae 3,aa ⟨#[]⟩,.slice none 0 0] 24)) (some ⟨g.heap.size,0,none⟩) [xP,xn 3]) :=
  zq (oG (w:=g) 24 [(xP,some ⟨b.heap.size,0,none⟩,2),(xn 3,none,0)] (by unfold bc;simp) (fun r a=>by
   simp at a
   rcases a with rfl|rfl
   ·exact c2.out
   ·exact TmsK.nil))
 have Y:=X.alloc X.size (.cells #[ab ae 3,ab ae 0,aa ⟨#[43]⟩,.slice (some ⟨b.heap.size,0,none⟩) 2 2,ab ae 1,ab ae 3,aa ⟨#[]⟩,.slice none 0 0] 24)
 clear c1 c2
 go_wp2_with fail
 refine (iX _ _ _ _ _).mono ?_;rintro e w6 ⟨rfl,m⟩
 have s:=Y.trans (m.mono Y.size)
 have c4:=zq ((c3.out.keep m).mono m.size)
 have D:=zq (fun W (h:ay y.heap.size y W)=>d2.out.below h)
 have x:ay y.heap.size y w6:=by
  have a2:=H
  have a3:=a2.trans (I.mono a2.size)
  have a4:=(a3.alloc a3.size (.cells #[ab ae 1,ab ae 1,aa ⟨#[]⟩,.slice none 0 0,ab ae 1,ab ae 2,aa ⟨#[]⟩,.slice none 0 0] 24))
  have a5:=a4.trans (k.mono a4.size)
  have a6:=a5.trans (l.mono a5.size)
  have a7:=(a6.alloc a6.size (.cells #[ab ae 3,ab ae 0,aa ⟨#[43]⟩,.slice (some ⟨b.heap.size,0,none⟩) 2 2,ab ae 1,ab ae 3,aa ⟨#[]⟩,.slice none 0 0] 24))
  exact a7.trans (m.mono a7.size)
 have c6:Hid (aG ah 12 #[aN #[ab ae 3,ab ae 0,aa ⟨#[42]⟩,.slice (some ⟨g.heap.size,0,none⟩) 2 2],.slice A n d,aN #[an true,an false,an false]] w6 fun e w'=>e=av (.tuple #[aa ⟨#[40,49,43,50,41,42,51]⟩,ab ae 0])/\ay w6.heap.size w6 w'):=zq (by
  have:=yG (o:=oQ) (T:=defL) (TA:=A) (TN:=n) (TC:=d) IP (some ⟨g.heap.size,0,none⟩) 2 w6 (C.out.below s) hn (D.out _ x) c4.out
  rw [IM] at this
  exact this)
 clear Y c3 c4 H I k l m R S V X
 go_wp2_with fail
 refine c6.out.mono ?_;rintro e w7 ⟨rfl,J⟩
 have Z:=s.trans (J.mono s.size)
 have b3:=x.trans (J.mono x.size)
 clear c6 J s x
 go_wp2_with fail
 refine (pf ⟨#[97]⟩ _).mono ?_;rintro e w8 ⟨rfl,K⟩
 have a0:=Z.trans (K.mono Z.size)
 have b4:=b3.trans (K.mono b3.size)
 go_wp2_with fail
 refine (pf ⟨#[98,32,99]⟩ _).mono ?_;rintro e c ⟨rfl,L⟩
 have a1:=a0.trans (L.mono a0.size)
 have b5:=b4.trans (L.mono b4.size)
 clear Z b3 a0 b4 K L
 have c5:Hid (TmsAt (c.alloc (.cells #[ab ae 2,ab ae 0,aa ⟨#[97]⟩,.slice none 0 0,ab ae 2,ab ae 0,aa ⟨#[98,32,99]⟩,.slice none 0 0] 24)).heap.size (c.alloc (.cells #[ab ae 2,ab ae 0,aa ⟨#[97]⟩,.slice none 0 0,ab ae 2,ab ae 0,aa ⟨#[98,32,99]⟩,.slice none 0 0] 24)) (some ⟨c.heap.size,0,none⟩) [xa ⟨#[97]⟩,xa ⟨#[98,32,99]⟩]) :=
  zq (oG (w:=c) 24 [(xa ⟨#[97]⟩,none,0),(xa ⟨#[98,32,99]⟩,none,0)] (by unfold bc;simp) (fun r a=>by simp at a;rcases a with rfl|rfl <;> exact TmsK.nil))
 have a8:=a1.alloc a1.size (.cells #[ab ae 2,ab ae 0,aa ⟨#[97]⟩,.slice none 0 0,ab ae 2,ab ae 0,aa ⟨#[98,32,99]⟩,.slice none 0 0] 24)
 have b6:=b5.alloc b5.size (.cells #[ab ae 2,ab ae 0,aa ⟨#[97]⟩,.slice none 0 0,ab ae 2,ab ae 0,aa ⟨#[98,32,99]⟩,.slice none 0 0] 24)
 go_wp2_with fail
 refine (iX _ _ _ _ _).mono ?_;rintro e f ⟨rfl,i⟩
 have N:=a8.trans (i.mono a8.size)
 have a9:=b6.trans (i.mono b6.size)
 have b8:=zq ((c5.out.keep i).mono i.size)
 clear c5 a8 b6 a1 b5 i
 have b9:Hid (TmsAt (f.alloc (.cells #[ab ae 3,ab ae 0,aa ⟨#[44]⟩,.slice (some ⟨c.heap.size,0,none⟩) 2 2] 24)).heap.size (f.alloc (.cells #[ab ae 3,ab ae 0,aa ⟨#[44]⟩,.slice (some ⟨c.heap.size,0,none⟩) 2 2] 24)) (some ⟨f.heap.size,0,none⟩) [xC]) :=
  zq (oG (w:=f) 24 [(xC,some ⟨c.heap.size,0,none⟩,2)] (by unfold bc;simp) (fun r a=>by simp at a;subst a;exact b8.out))
 have O:=N.alloc N.size (.cells #[ab ae 3,ab ae 0,aa ⟨#[44]⟩,.slice (some ⟨c.heap.size,0,none⟩) 2 2] 24)
 have b0:=a9.alloc a9.size (.cells #[ab ae 3,ab ae 0,aa ⟨#[44]⟩,.slice (some ⟨c.heap.size,0,none⟩) 2 2] 24)
 go_wp2_with fail
 refine (iX _ _ _ _ _).mono ?_;rintro e z ⟨rfl,j⟩
 have p:=O.trans (j.mono O.size)
 have v:=b0.trans (j.mono b0.size)
 have c0:=zq ((b9.out.keep j).mono j.size)
 clear b8 b9 O b0 N a9 j
 have c7:Hid (aG ah 12 #[aN #[ab ae 3,ab ae 0,aa ⟨#[45]⟩,.slice (some ⟨f.heap.size,0,none⟩) 1 1],.slice A n d,aN #[an true,an false,an false]] z fun e w'=>e=av (.tuple #[aa ⟨#[45,32,40,97,44,39,98,32,99,39,41]⟩,ab ae 0])/\ay z.heap.size z w'):=zq (by
  have:=yG (o:=oQ) (T:=defL) (TA:=A) (TN:=n) (TC:=d) IT (some ⟨f.heap.size,0,none⟩) 1 z (C.out.below p) hn (D.out _ v) c0.out
  rw [IR] at this
  exact this)
 go_wp2_with fail
 refine c7.out.mono ?_;rintro e d4 ⟨rfl,E⟩
 have P:=p.trans (E.mono p.size)
 have b1:=v.trans (E.mono v.size)
 clear c7 c0 p v E
 go_wp2_with fail
 refine (pf ⟨#[61]⟩ _).mono ?_;rintro e d5 ⟨rfl,F⟩
 have Q:=P.trans (F.mono P.size)
 have b2:=b1.trans (F.mono b1.size)
 go_wp2_with fail
 refine (pf ⟨#[116,114,117,101]⟩ _).mono ?_;rintro e B ⟨rfl,G⟩
 have q:=Q.trans (G.mono Q.size)
 have d1:=b2.trans (G.mono b2.size)
 clear P b1 Q b2 F G
 have c8:Hid (aG ah 16 #[aN #[ab ae 2,ab ae 0,aa ⟨#[61]⟩,.slice none 0 0,ab ae 2,ab ae 0,aa ⟨#[116,114,117,101]⟩,.slice none 0 0],.slice A n d] B fun e w'=>e=av (.tuple #[aa ⟨#[61,32,46,10]⟩,ab ae 0])/\ay B.heap.size B w'):=zq (by
  have:=wm (T:=defL) (TA:=A) (TN:=n) (TC:=d) (t:=xH) (u:=xT) (na (by rfl) rfl) (na (by rfl) rfl) none none 0 0 B (C.out.below q) hn (D.out _ d1) TmsK.nil TmsK.nil
  rw [IQ] at this
  exact this)
 go_wp2_with fail
 refine c8.out.mono ?_;rintro e d6 ⟨rfl,d0⟩
 have d3:=q.trans (d0.mono q.size)
 clear c8 d0 q d1
 go_wp2_with fail
 go_ret
 exact ⟨rfl,d3⟩
end Go.Proofs.YtgapnafkelokaaaGreatDoor
namespace Hb
open Go Go.RowKit
def fT (f:Int->Int):Tm->Tm
 | .mk k n s l=>.mk k (if k=0 then f n else n) s (l.attach.map fun ⟨a,_⟩=>fT f a)
theorem jz (f:Int->Int) (t:Tm):fT f t=.mk t.kind (if t.kind=0 then f t.num else t.num) t.name (t.args.map (fT f)):=by
 cases t with
 | mk k n s l=>unfold fT Tm.kind Tm.num Tm.name Tm.args;simp
theorem rO (f:Int->Int) (t:Tm):(fT f t).kind=t.kind:=by rw [jz];rfl
theorem xd (f:Int->Int) (t:Tm):(fT f t).name=t.name:=by rw [jz];rfl
theorem kJ (f:Int->Int) (t:Tm):(fT f t).args=t.args.map (fT f):=by rw [jz];rfl
theorem GE (f:Int->Int) (t:Tm):(fT f t).args.length=t.args.length:=by rw [kJ,bm]
theorem oV (f:Int->Int) (t:Tm):(fT f t).num=if t.kind=0 then f t.num else t.num:=by rw [jz];rfl
theorem BX (f:Int->Int):∀t:Tm,(fT f t).nodes=t.nodes:=Tm.ind fun t c=>by
 rw [Tm.nodes_eq,Tm.nodes_eq t,kJ,List.map_map]
 congr 1
 have:∀l:List Tm,(∀a∈l,(fT f a).nodes=a.nodes)->(l.map (Tm.nodes ∘ fT f)).sum=(l.map Tm.nodes).sum:=by
  intro l
  induction l with
  | nil=>intro _;rfl
  | cons a l ih2=>intro h;simp only [bR,gE,Function.comp];rw [h a (aY ..)];congr 1;exact ih2 fun x b=>h x (ba _ b)
 exact this _ c
def fg:Tm->List Int->List Int
 | .mk k n _ l=>fun b=>l.attach.foldl (fun b ⟨a,_⟩=>fg a b) (if k=0/\n ∉ b then b++[n] else b)
def mG (t:Tm) (a:List Int):List Int:=if t.kind=0/\t.num ∉ a then a++[t.num] else a
theorem mF (t:Tm) (b:List Int):fg t b=t.args.foldl (fun b a=>fg a b) (mG t b):=by
 cases t with
 | mk k n s l=>
  conv=>lhs;unfold fg
  show _=l.foldl (fun b a=>fg a b) (if k=0/\n ∉ b then b++[n] else b)
  simp
theorem Dr (t:Tm) (a:List Int):(∀n∈a,n∈mG t a)/\(mG t a).length<=a.length+1/\(t.kind=0->t.num∈mG t a):=by
 unfold mG
 split
 ·rename_i h
  exact ⟨fun n b=>List.mem_append_left _ b,by simp,fun _=>by simp⟩
 ·rename_i h
  refine ⟨fun n b=>b,by omega,fun c=>?_⟩
  exact Classical.byContradiction fun b=>h ⟨c,b⟩
theorem tM:∀(t:Tm) (b:List Int),(∀n∈b,n∈fg t b)/\(fg t b).length<=b.length+t.nodes/\Tm.All (fun x=>x.kind=0->x.num∈fg t b) t:=by
 refine Tm.ind fun t r=>?_
 intro b
 obtain ⟨m,w,o⟩:=Dr t b
 have u:∀(l:List Tm),(∀a∈l,a∈t.args)->∀c:List Int,(∀n∈c,n∈l.foldl (fun b a=>fg a b) c)/\(l.foldl (fun b a=>fg a b) c).length<=c.length+(l.map Tm.nodes).sum/\∀a∈l,Tm.All (fun x=>x.kind=0->x.num∈l.foldl (fun b a=>fg a b) c) a:=by
  intro l
  induction l with
  | nil=>intro _ c;exact ⟨fun n d=>d,by simp,fun a p=>by cases p⟩
  | cons a l ihl=>
   intro j c
   obtain ⟨f,s,i⟩:=r a (j a (aY ..)) c
   obtain ⟨k,z,v⟩:=ihl (fun x e=>j x (ba _ e)) (fg a c)
   rw [fB,bR,gE]
   refine ⟨fun n d=>k n (f n d),by omega,fun x e=>?_⟩
   rcases List.mem_cons.1 e with rfl | e
   ·exact Tm.All.imp (fun y q g=>k _ (q g)) _ i
   ·exact v x e
 obtain ⟨f,s,i⟩:=u t.args (fun _ h=>h) (mG t b)
 rw [mF]
 refine ⟨fun n d=>f n (m n d),by rw [Tm.nodes_eq t];omega,.mk _ (fun g=>f _ (o g)) i⟩
def gk (l:List Int) (n:Int):Int:=if n∈l then (l.idxOf n:Int) else -1
def iV (t:Tm):Tm:=if bu t=true then fT (gk (fg t [])) t else tm0
theorem Je {f:Int->Int}:∀t:Tm,t.allOk=true->Tm.All (fun x=>x.kind=0->0<=f x.num/\f x.num<=1099511627776) t->(fT f t).allOk=true:=Tm.ind fun t i h k=>by
 rw [Tm.allOk_eq,aE] at h
 rw [Tm.allOk_eq,aE,kJ]
 refine ⟨?_,bh.2 fun x g=>?_⟩
 ·have b:=h.1
  have e:=k.here
  unfold dH at b |-
  rw [rO,xd,oV,GE]
  by_cases c:t.kind=0
  ·rw [if_pos c] at b |-
   rw [if_pos c,decide_eq_true (e c).1,decide_eq_true (e c).2]
   simp at b |-
   exact ⟨b.1.2,b.2⟩
  ·rw [if_neg c] at b |-
   rw [if_neg c]
   exact b
 ·rw [List.mem_map] at g
  obtain ⟨a,d,rfl⟩:=g
  exact i a d (bh.1 h.2 a d) (k.sub a d)
def AtB (w:aj) (v a:aA):Prop:=a.ownBlock=v.ownBlock\/∃k,a.ownBlock=some k/\w.heap.size<=k
theorem AtB.trans {a w:aj} {v b v2:aA} (h:AtB a v b) (k:AtB w b v2) (d:a.heap.size<=w.heap.size):AtB a v v2:=by
 rcases k with k | ⟨g,k,c⟩
 ·rw [AtB,k];exact h
 ·exact .inr ⟨g,k,aH d c⟩
theorem Fj {a w w':aj} {v f:aA} (h:a.grownBy w v.ownBlock) (b:AtB a v f) (k:w.grownBy w' f.ownBlock):a.grownBy w' v.ownBlock:=by
 refine ⟨k.os.trans h.os,k.tape.trans h.tape,k.output.trans h.output,aH h.size k.size,fun i c d=>(k.block i (aB c h.size) fun e=>?_).trans (h.block i c d)⟩
 rcases b with b | ⟨g,b,j⟩
 ·rw [b] at e;exact d e
 ·rw [b] at e;injection e with e;omega
theorem qm {a w w':aj} {row:Option Nat} (h:ay a.heap.size a w) (k:w.grownBy w' row):a.grownBy w' row :=
 ⟨k.os.trans h.os,k.tape.trans h.tape,k.output.trans h.output,aH h.size k.size,fun i b c=>(k.block i (aB b h.size) c).trans (h.block i b)⟩
theorem zP {w w':aj} (h:w.grownBy w' none):ay w.heap.size w w':=⟨h.os,h.tape,h.output,h.size,fun i a=>h.block i a (by simp)⟩
theorem sG (w:aj) (row:Option Nat):w.grownBy w row:=⟨rfl,rfl,rfl,ag _,fun _ _ _=>rfl⟩
theorem sH {a w:aj} {row:Option Nat} (h:a.grownBy w row) {k:Nat} (j:Nat) (b:k<a.heap.size) (c:row≠some k):w.cell? ⟨k,j,none⟩=a.cell? ⟨k,j,none⟩:=h.cell_far ⟨k,j,none⟩ b (fun e=>c e.symm)
def oJ (l:List Tm):Nat:=(l.map Tm.nodes).sum
theorem Bs (l:List Tm) (k:Nat) (h:k<l.length):oJ (l.take (k+1))=oJ (l.take k)+l[k].nodes:=by
 unfold oJ
 rw [aK h,bv,List.sum_append];simp
theorem Gm (l:List Tm) (k:Nat):oJ (l.take k)<=oJ l:=by
 have e:oJ l=oJ (l.take k)+oJ (l.drop k):=by
  unfold oJ
  rw [<-List.sum_append,<-bv,List.take_append_drop]
 omega
def IntsAt (w:aj) (A:Option Addr) (l:List Int):Prop :=
 ∀j (a:j<l.length),∃g off,A=some ⟨g,off,none⟩/\g<w.heap.size/\w.cell? ⟨g,off+j,none⟩=some (ab ae l[j])
theorem IntsAt.below {w w':aj} {A:Option Addr} {l:List Int} (h:IntsAt w A l) (a:ay w.heap.size w w'):IntsAt w' A l:=fun j e=>by
 obtain ⟨g,f,c,b,d⟩:=h j e
 exact ⟨g,f,c,aB b a.size,(a.cell (p:=⟨_,_,none⟩) b).trans d⟩
def OwnI (e:TypeId) (b:Nat) (w:aj) (v:aA) (l:List Int):Prop:=w.ownsRow b e 1 v l.length (l.map fun n=>Value.int ae n)
theorem OwnI.below {e b:Nat} {w w':aj} {v:aA} {l:List Int} (h:OwnI e b w v l) (a:ay w.heap.size w w'):OwnI e b w' v l:=kA h a
theorem OwnI.low {e b:Nat} {w:aj} {v:aA} {l:List Int} (h:OwnI e b w v l) {k:Nat} (a:v.ownBlock=some k):b<=k/\k<w.heap.size:=⟨(World.ownsRow.lt h k a).1,(World.ownsRow.lt h k a).2⟩
theorem OwnI.nil (e b:Nat) (w:aj):OwnI e b w (.slice none 0 0) []:=World.ownsRow_nil _ _ _ _
theorem OwnI.ints {e b:Nat} {w:aj} {v:aA} {l:List Int} (h:OwnI e b w v l):∃A c,v=.slice A l.length c/\IntsAt w A l:=by
 rcases h.2 with ⟨a,f⟩ | ⟨g,c,k,a,m,i,o,n,rest⟩
 ·have:l=[]:=bH f
  subst this
  exact ⟨_,_,a,fun j d=>absurd d (by simp)⟩
 ·refine ⟨some ⟨g,0,none⟩,c,a,fun j d=>⟨g,0,rfl,(Array.getElem?_eq_some_iff.1 i).1,?_⟩⟩
  have:=World.ownsRow.cells h (g:=g) (by rw [a];rfl) j (ab ae l[j]) (by rw [List.getElem?_map,List.getElem?_eq_getElem d];rfl)
  rw [iM] at this
  exact this
theorem GM {l:List Int} {x:Int} {k:Nat} (f:k<l.length) (h:∀j (g:j<l.length),j<k->¬l[j]=x) (c:l[k]=x):gk l x=k:=by
 have d:x∈l:=by rw [<-c];exact aQ f
 unfold gk
 rw [if_pos d]
 have b:=List.idxOf_lt_length_of_mem d
 have e:l[l.idxOf x]=x:=List.getElem_idxOf b
 rcases Nat.lt_trichotomy (l.idxOf x) k with a | a | a
 ·exact absurd e (h _ b a)
 ·omega
 ·have:=List.not_of_lt_findIdx (p:=fun y=>y==x) (xs:=l) (i:=k) a
  simp [c] at this
theorem GL {l:List Int} {x:Int} (h:∀j (a:j<l.length),¬l[j]=x):gk l x=-1:=by
 unfold gk
 rw [if_neg]
 intro b
 obtain ⟨j,a,e⟩:=List.getElem_of_mem b
 exact h j a e
theorem Ez {l:List Int} {x:Int}:gk l x<0↔x ∉ l:=by
 unfold gk
 split
 ·rename_i h;simp [h]
 ·rename_i h;simp [h]
theorem zf {l:List Int} (x:Int) (h:l.length<=100000):-1<=gk l x/\gk l x<=100000:=by
 unfold gk
 split
 ·rename_i a;have:=List.idxOf_lt_length_of_mem a;omega
 ·omega
theorem pA {a w w':aj} {row:Option Nat} (h:ay a.heap.size a w) (k:w.grownBy w' row):a.grownBy w' row:=qm h k
end Hb
namespace Go.Proofs.YtgapnafkelokaaaGreatDoor
open Go.RowKit Hb
theorem Hk:(Tryz.prog.info? 2).map (fun i=>(i.zero,i.size,i.bytes))=some (some (ab ae 0),1,8):=by kernel_rfl
theorem qB (A:Option Addr) (n s:Nat) (l:List Int) (x:Int) (w:aj) (o:n=l.length) (E:n<=100000) (h:IntsAt w A l) :
  aG ah 69 #[.slice A n s,ab ae x] w fun e w'=>e=av (ab ae (gk l x))/\w=w':=by
 have f:=zq o
 have q:=zq h
 clear h o
 go_enter Tryz.func69,Tryz.ntmps69
 go_wp2_with fail
 go_loop [5] (fun i=>∃k:Nat,k<=n/\i=ab ae k/\Hid (∀j (a:j<l.length),j<k->¬l[j]=x)) (fun i=>n-(intOf i).toNat)
 case atStart=>exact ⟨0,bj _,rfl,zq fun j _ a=>absurd a (by omega)⟩
 case round=>
  obtain ⟨k,C,rfl,b⟩:=hrel
  by_cases D:k<n
  ·have m:k<l.length:=by have:=f.out;omega
   obtain ⟨g,F,rfl,z,u⟩:=q.out k m
   have p:=zq (GM m b.out)
   have r:Hid (¬l[k]=x->∀j (a:j<l.length),j<k+1->¬l[j]=x):=zq (fun t j a B=>by
    by_cases e:j=k
    ·subst e;exact t
    ·exact b.out j a (by omega))
   generalize l[k]=y at *
   by_cases d:y=x
   ·subst d
    have c:=zq (p.out rfl)
    go_wp2_with fail
    go_ret
    exact ⟨by show em (ab ae _)=_;rw [c.out],rfl⟩
   ·have v:(y==x)=false:=by simpa using d
    go_wp2_with fail
    go_round
    case rel=>exact ⟨k+1,by omega,by go_num,zq (r.out d)⟩
    case measure=>simp [intOf];omega
  ·have c:=zq (GL (l:=l) (x:=x) fun j a=>b.out j a (by have:=f.out;omega))
   go_wp2_with fail
   go_ret
   exact ⟨by show em (ab ae _)=_;rw [c.out],rfl⟩
def LV (w0:aj) (t:Tm):Prop:=∀(A:Option Addr) (b:Nat) (w:aj) (v:aA) (a:List Int),ay w0.heap.size w0 w->TmsAt w0.heap.size w0 A t.args->OwnI 2 w0.heap.size w v a->a.length+t.nodes<=100000 ->
 aG ah 47 #[v,dR t A b] w fun e w'=>∃v',e=av v'/\OwnI 2 w0.heap.size w' v' (fg t a)/\w.grownBy w' v.ownBlock/\AtB w v v'
theorem FO {b:Array Oper} {rest:List Oper} {a:Act} {Q:Exit->Act->aj->Prop} {w:aj} {d t p f x g} (h:wpList ah b Q (⟨d,.call { callee:=.builtin .append,args:=x,argTypes:=#[86,86] },t,p,f,g⟩::rest) a w):wpList ah b Q (⟨d,.call { callee:=.builtin .append,args:=x,argTypes:=#[86,86] },t,p,f,g⟩::rest) a w:=h
theorem yI {t:Tm} (h:t.args.length=0) (acc:List Int):fg t acc=mG t acc:=by
 rw [mF,bH h];rfl
theorem yH {t:Tm} (h:¬t.kind=0) (acc:List Int):fg t acc=t.args.foldl (fun acc a=>fg a acc) acc:=by
 rw [mF];unfold mG;rw [if_neg (fun e=>h e.1)]
theorem CD (l:List Tm):∀b:List Int,(l.foldl (fun b a=>fg a b) b).length<=b.length+oJ l:=by
 induction l with
 | nil=>intro b;exact Nat.le_add_right _ _
 | cons a l ih=>
  intro b
  have c:=ih (fg a b)
  have d:=(tM a b).2.1
  have e:oJ (a::l)=a.nodes+oJ l:=by unfold oJ;rw [bR,gE]
  rw [fB,e];omega
theorem Es (w0:aj) (t:Tm) (r:t.kind=0) (s:t.args.length=0):LV w0 t:=by
 intro A n w v a D Z o a3
 have K:=zq (yI s a)
 have T:=zq (fun (h:t.num∈a)=>(by unfold mG;rw [if_neg (fun e=>e.2 h)]:mG t a=a))
 have U:=zq (fun (h:¬t.num∈a)=>(by unfold mG;rw [if_pos ⟨r,h⟩]:mG t a=a++[t.num]))
 have J:=zq (Ez (l:=a) (x:=t.num))
 obtain ⟨f,g,rfl,L⟩:=o.ints
 have P:=zq (fun k (r:(ex f a.length g).ownBlock=some k)=>(o.low r).2)
 have c:=(ak w.heap.size w).alloc (ag _) (.cells #[ab ae t.kind,ab ae t.num,aa t.name,.slice A t.args.length n] 24)
 have b:=zq (TBx.start w t A n t.args.length 24 rfl)
 have m:=zq (o.below c)
 have z:=zq (qB f a.length g a t.num _ rfl (by omega) (L.below c))
 have E:=D.trans (c.mono D.size)
 have a9:a.length<=100000:=by omega
 have j:=zq c
 unfold dR
 rw [K.out,s]
 rw [s] at b c E z m j
 generalize mG t a=a7 at *
 have V:=b.out.c0
 have X:=b.out.c1
 have Y:=b.out.c2
 have C:=b.out.c3
 have G:=b.out.lt
 rw [s] at C
 rw [r] at V c E z m j G X Y C |-
 clear b K D Z o L a3
 go_enter Tryz.func47,Tryz.ntmps47
 go_wp2_with fail
 generalize w.alloc (.cells #[ab ae 0,ab ae t.num,aa t.name,.slice A 0 n] 24)=W at *
 refine z.out.mono ?_;rintro e W' ⟨rfl,rfl⟩
 have a6:=E.size
 by_cases q:t.num∈a
 ·have H:¬gk a t.num<0:=fun e=>J.out.1 e q
  have a4:decide (gk a t.num<0)=false:=by simpa using H
  have B:=zq (T.out q)
  have a1:=c
  go_wp2_with fail
  go_loopw [0,5] (fun I i wr=>I=.slice f a.length g/\i=ab ae 0/\wr=W) (fun _ _ _=>0)
  case atStart=>exact ⟨rfl,rfl,rfl⟩
  case round=>
   obtain ⟨rfl,rfl,rfl⟩:=hrel
   go_wp2_with fail
   go_ret
   exact ⟨_,rfl,by rw [B.out];exact m.out,qm a1 (sG _ _),.inl rfl⟩
 ·have H:gk a t.num<0:=J.out.2 q
  have a4:decide (gk a t.num<0)=true:=by simpa using H
  have B:=zq (U.out q)
  have d:=(ak W.heap.size W).alloc (ag _) (.cells #[ab ae t.num] 2)
  have R:=zq (m.out.below d)
  have S:Hid (tp (W.alloc (.cells #[ab ae t.num] 2)) (some ⟨W.heap.size,0,none⟩) 1 1 1 [ab ae t.num]):=zq (.inr ⟨_,rfl,rfl,dh (eh W _)⟩)
  have a5:w0.heap.size<=(W.alloc (.cells #[ab ae t.num] 2)).heap.size:=aH a6 d.size
  go_wp2_with ((with_reducible refine FO ?_);refine nV rfl _ _ 86 2 rfl Tryz.underlying86 _ 1 8 Hk rfl (by decide) w0.heap.size _ _ _ rfl R.out (some ⟨W.heap.size,0,none⟩) 1 1 [ab ae t.num] rfl S.out (by intro u O;rw [List.mem_singleton] at O;subst O;rfl) (by omega) (by omega) a5 ?_;intro v6 y N F M)
  have Q:Hid (OwnI 2 w0.heap.size y v6 a7):=zq (by
   rw [B.out]
   unfold OwnI
   rw [List.length_append,bv]
   exact N)
  have a2:w.grownBy y (ex f a.length g).ownBlock:=pA j.out (pA d F)
  have a0:AtB w (.slice f a.length g) v6:=by
   rcases M with h | h
   ·exact .inl h
   ·exact .inr ⟨_,h,aH j.out.size d.size⟩
  have a8:y.cell? ⟨w.heap.size,3,none⟩=some (.slice A 0 n):=by
   rw [sH F (k:=w.heap.size) 3 (aB G d.size) (fun e=>by have:=P.out _ e;omega),d.cell (p:=⟨w.heap.size,3,none⟩) G];exact C
  clear N F M
  go_loopw [0,5] (fun I i wr=>I=v6/\i=ab ae 0/\wr=y) (fun _ _ _=>0)
  case atStart=>exact ⟨rfl,rfl,rfl⟩
  case round=>
   obtain ⟨rfl,rfl,rfl⟩:=hrel
   go_wp2_with fail
   go_ret
   exact ⟨_,rfl,Q.out,a2,a0⟩
theorem GJ (w0:aj):∀(t:Tm),t.allOk=true->LV w0 t:=by
 refine Tm.ind fun t S h=>?_
 by_cases f:t.kind=0
 ·refine Es w0 t f ?_
  rw [Tm.allOk_eq,aE] at h
  have:=h.1
  unfold dH at this
  rw [if_pos f] at this
  simp at this
  exact ez.2 (by simpa using this.2)
 ·intro A m w v c y B z Q
  have Z:Hid (∀a∈t.args,LV w0 a):=zq (fun a N=>S a N (by
   rw [Tm.allOk_eq,aE] at h
   exact bh.1 h.2 a N))
  have a5:=zq (yH f c)
  have n:=(ak w.heap.size w).alloc (ag _) (.cells #[ab ae t.kind,ab ae t.num,aa t.name,.slice A t.args.length m] 24)
  have E:=zq (TBx.start w t A m t.args.length 24 rfl)
  have u:=zq (fun k (f:v.ownBlock=some k)=>z.low f)
  have a3:=zq (z.below n)
  have l:=zq (y.trans (n.mono y.size))
  have C:=zq n
  have HT:=zq B
  have hm:=B.len
  unfold bc at hm
  have a0:=zq Q
  have a1:Hid (t.nodes=1+oJ t.args):=zq (Tm.nodes_eq t)
  have b2:(t.kind==0)=false:=by simpa using f
  clear S h y B z Q n
  unfold dR
  rw [a5.out]
  generalize L:t.args.length=LN at *
  have s:=zq L
  have a9:=E.out.lt
  clear L
  go_enter Tryz.func47,Tryz.ntmps47
  go_wp2_with fail
  generalize w.alloc (.cells #[ab ae t.kind,ab ae t.num,aa t.name,.slice A LN m] 24)=W at *
  go_loopw [0,5] (fun T i wr=>∃k:Nat,k<=LN/\i=ab ae k/\Hid (OwnI 2 w0.heap.size wr T ((t.args.take k).foldl (fun c a=>fg a c) c))/\Hid (W.grownBy wr v.ownBlock)/\Hid (AtB W v T)) (fun _ i _=>LN-(intOf i).toNat)
  case atStart=>exact ⟨0,bj _,rfl,a3,zq (sG _ _),zq (.inl rfl)⟩
  case round=>
   obtain ⟨k,b4,rfl,x,d,r⟩:=hrel
   have b3:wr.cell? ⟨w.heap.size,3,none⟩=some (.slice A LN m):=by
    rw [sH d.out (k:=w.heap.size) 3 a9 (fun e=>by have:=(u.out _ e).2;omega)]
    have:=E.out.c3
    rw [s.out] at this
    exact this
   by_cases b5:k<LN
   ·have o:k<t.args.length:=by have:=s.out;omega
    obtain ⟨b,b6,U,a6,rfl,O,F,G,H,I,R⟩:=HT.out.get k o
    have g:∀j,wr.cell? ⟨b,j,none⟩=w0.cell? ⟨b,j,none⟩:=fun j=>by
     rw [sH d.out (k:=b) j (aB O l.out.size) (fun e=>by have:=(u.out _ e).1;omega)]
     exact l.out.cell (p:=⟨b,j,none⟩) O
    have d0:=(g _).trans F
    have d1:=(g _).trans G
    have d2:=(g _).trans H
    have d3:=(g _).trans I
    have P:ay w0.heap.size w0 wr:=l.out.grown d.out l.out.size (fun j hj=>(u.out _ hj).1)
    have a7:=CD (t.args.take k) c
    have b0:=Bs t.args k o
    have b1:=Gm t.args (k+1)
    have D:=zq (Z.out t.args[k] (aQ o) U a6 wr u0 _ P R x.out (by have:=a0.out;have:=a1.out;omega))
    have X:Hid ((t.args.take (k+1)).foldl (fun c a=>fg a c) c=fg t.args[k] ((t.args.take k).foldl (fun c a=>fg a c) c)):=zq (by rw [aK o,List.foldl_append];rfl)
    have k0:(0:Int)<=(k:Int):=by omega
    have k1:(k:Int)<(LN:Int):=by omega
    clear g F G H I R P a7 b0 b1
    unfold dR at D
    generalize t.args[k]=a at *
    go_wp2_with fail
    refine D.out.mono ?_;rintro e w6 ⟨v6,rfl,M,K,J⟩
    have a2:=zq M
    have Y:=zq (Fj d.out r.out K)
    have V:=zq (r.out.trans J d.out.size)
    clear M K J d0 d1 d2 d3 b3
    go_wp2_with fail
    go_roundw
    case rel=>exact ⟨k+1,by omega,by go_num,zq (by rw [X.out];exact a2.out),Y,V⟩
    case measure=>simp [intOf] <;> omega
   ·have a8:k=LN:=by omega
    subst a8
    have a4:Hid (t.args.take k=t.args):=zq (List.take_of_length_le (by have:=s.out;omega))
    rw [a4.out] at x
    go_wp2_with fail
    go_ret
    exact ⟨_,rfl,x.out,qm C.out d.out,r.out.imp id fun ⟨q,h1,h2⟩=>⟨q,h1,aH C.out.size h2⟩⟩
end Go.Proofs.YtgapnafkelokaaaGreatDoor
namespace Hb
open Go Go.RowKit
theorem R4.put4 {w0 w:aj} {g:Nat} (h:R4 w0 w g) (x y z u:aA):R4 w0 ((((w.setCell ⟨g,0,none⟩ x).setCell ⟨g,1,none⟩ y).setCell ⟨g,2,none⟩ z).setCell ⟨g,3,none⟩ u) g:=by
 obtain ⟨u0,f⟩:=h.r0
 obtain ⟨u1,i⟩:=h.r1
 obtain ⟨u2,j⟩:=h.r2
 obtain ⟨u3,k⟩:=h.r3
 obtain ⟨a,b,c,d,e⟩:=oa w g x y z u f i j k _ rfl
 exact ⟨h.put x y z u,h.le,by rw [ec];exact h.lt,⟨_,a⟩,⟨_,b⟩,⟨_,c⟩,⟨_,d⟩,fun o=>(e _).trans (h.fr o)⟩
structure CnH (w X:aj) (t:Tm) (A:Option Addr) (cap:Nat):Prop where
 r:R4 w X (w.heap.size+1)
 b:TBoxT w X t A cap
theorem CnH.call {w X a:aj} {t:Tm} {A:Option Addr} {cap:Nat} (h:CnH w X t A cap) (c:ay X.heap.size X a):CnH w a t A cap:=⟨h.r.call c,h.b.call c⟩
theorem CnH.drew {w X:aj} {t:Tm} {A:Option Addr} {cap:Nat} (h:CnH w X t A cap):CnH w X.drew t A cap:=h.call (ak _ _).drew
theorem CnH.put4 {w X:aj} {t:Tm} {A:Option Addr} {cap:Nat} (h:CnH w X t A cap) (x y z u:aA):CnH w ((((X.setCell ⟨w.heap.size+1,0,none⟩ x).setCell ⟨w.heap.size+1,1,none⟩ y).setCell ⟨w.heap.size+1,2,none⟩ z).setCell ⟨w.heap.size+1,3,none⟩ u) t A cap:=by
 have c:=h.r.put4 x y z u
 have a:∀j,((((X.setCell ⟨w.heap.size+1,0,none⟩ x).setCell ⟨w.heap.size+1,1,none⟩ y).setCell ⟨w.heap.size+1,2,none⟩ z).setCell ⟨w.heap.size+1,3,none⟩ u).cell? ⟨w.heap.size,j,none⟩=X.cell? ⟨w.heap.size,j,none⟩:=fun j=>World.cell?_of_block (ce X (w.heap.size+1) x y z u w.heap.size (by omega))
 exact ⟨c,⟨c.bel,by rw [ec];exact h.b.lt,(a 0).trans h.b.c0,(a 1).trans h.b.c1,(a 2).trans h.b.c2,(a 3).trans h.b.c3⟩⟩
end Hb
namespace Go.Proofs.YtgapnafkelokaaaGreatDoor
open Go.RowKit Hb
theorem za (l:List Int) (n:l.length<=100000) (D:Option Addr) (o:Nat) (t:Tm) (d:t.kind=0) (g:t.args.length=0) (A:Option Addr) (j:Nat) (w:aj) (m:IntsAt w D l) :
  aG ah 46 #[.slice D l.length o,dR t A j] w fun e w'=>∃A' cap',e=av (dR (fT (gk l) t) A' cap')/\ay w.heap.size w w'/\kt w w' A' (fT (gk l) t).args:=by
 have h:Hid (fT (gk l) t=.mk 0 (gk l t.num) t.name []):=zq (by rw [jz,if_pos d,d,bH g];rfl)
 have k:∀a b c,ay w.heap.size w (((w.alloc a).alloc b).alloc c):=fun a b c=>(((ak _ _).alloc (ag _) _).alloc (by simp) _).alloc (by simp;omega) _
 have q:=zq (fun a b c=>qB D l.length o l t.num (((w.alloc a).alloc b).alloc c) rfl n (m.below (k a b c)))
 obtain ⟨u,x⟩:=zf t.num n
 unfold dR
 rw [h.out,d,g]
 show aG _ _ _ _ (fun e w'=>∃A' cap',e=av (aN #[ab ae 0,ab ae (gk l t.num),aa t.name,.slice A' 0 cap'])/\ay w.heap.size w w'/\kt w w' A' [])
 clear h
 generalize gk l t.num=p at *
 generalize t.num=r at *
 generalize t.name=f at *
 clear d g m
 go_enter Tryz.func46,Tryz.ntmps46
 go_wp2_with fail
 refine (q.out _ _ _).mono ?_;rintro e s ⟨rfl,rfl⟩
 go_wp2_with fail
 go_loopw [6] (fun i wr=>i=ab ae 0/\wr=(((w.alloc (.cells #[ab ae 0,ab ae r,aa f,.slice A 0 j] 24)).alloc (.cells #[ab ae 0,ab ae 0,aa ⟨#[]⟩,.slice none 0 0] 24)).alloc (.cells #[ab ae 0,ab ae p,aa f,.slice none 0 0] 24))) (fun _ _=>0)
 case atStart=>exact ⟨rfl,rfl⟩
 case round=>
  obtain ⟨rfl,rfl⟩:=hrel
  go_wp2_with fail
  exact aw (v:=aN #[ab ae 0,ab ae p,aa f,.slice none 0 0]) (by simp [results,Tryz.results46,go_sem]) rfl ⟨none,0,rfl,k _ _ _,TmsK.nil⟩
theorem Cf (l:List Int) (b7:l.length<=100000) (D:Option Addr) (O:Nat):∀(t:Tm) (A:Option Addr) (r:Nat) (w:aj),IntsAt w D l->TmsAt w.heap.size w A t.args->t.allOk=true ->
    aG ah 46 #[.slice D l.length O,dR t A r] w fun e w'=>∃o s,e=av (dR (fT (gk l) t) o s)/\ay w.heap.size w w'/\kt w w' o (fT (gk l) t).args:=by
  refine Tm.ind fun t ih=>?_
  intro A r w M W p
  by_cases y:t.kind=0
  · exact za l b7 D O t y (by
      rw [Tm.allOk_eq,aE] at p
      have:=p.1
      unfold dH at this
      rw [if_pos y] at this
      simp at this
      exact ez.2 (by simpa using this.2)) A r w M
  have a4:=zq M
  have c8:(t.kind==0)=false:=by simpa using y
  have S:Hid (fT (gk l) t=.mk t.kind t.num t.name (t.args.map (fT (gk l)))):=zq (by rw [jz,if_neg y])
  rw [S.out]
  show aG _ _ _ _ (fun e w'=>∃o s,e=av (aN #[ab ae t.kind,ab ae t.num,aa t.name,.slice o (t.args.map (fT (gk l))).length s])/\ay w.heap.size w w'/\kt w w' o (t.args.map (fT (gk l))))
  rw [bm]
  clear M S y
  obtain ⟨i,X,a0,a1,a2⟩:=info_parts zL
  have HI:=zq X
  have b1:=zq a0
  have b2:=zq a1
  have b4:=zq a2
  clear X a0 a1 a2
  have HT:=zq W
  have hm:t.args.length<=8:=by
    rw [Tm.allOk_eq,aE] at p
    have:=p.1
    unfold dH at this
    grind
  have a7:Hid (∀a∈t.args,a.allOk=true):=zq (by
    rw [Tm.allOk_eq,aE,bh] at p
    exact p.2)
  have a5:=zq ih
  clear W ih p
  obtain ⟨L,q⟩:=lz (t.args.length)
  have a9:=zq (CpH.start w t A r L 24 q.out)
  unfold dR at *
  rw [<-q.out] at hm |-
  go_enter Tryz.func46,Tryz.ntmps46
  go_wp2_with fail
  go_loopw [6] (fun i wr=>∃k:Nat,∃v:aA,∃rs:List TR,k<=L/\i=ab ae k/\Hid (CpH w wr 24 t A r v rs)/\Hid (rs.map (·.1)=(t.args.take k).map (fT (gk l)))) (fun i _=>L-(intOf i).toNat)
  case atStart=>exact ⟨0,_,[],bj _,rfl,a9,zq (by simp)⟩
  case round=>
    obtain ⟨k,v,rs,hk,rfl,c,B⟩:=hrel
    have b3:=c.out.b3
    rw [<-q.out] at b3
    by_cases d0:k<L
    · have G:k<t.args.length:=by have:=q.out;omega
      obtain ⟨b,c4,o,s,rfl,f,c0,c1,g,T,hs⟩:=(HT.out.keep c.out.bel).get k G
      have E:=c.out.drew
      have P:=zq (a5.out t.args[k] (aQ G) o s wr.drew ((a4.out.below c.out.bel).below (ak _ wr).drew) ((hs.keep (ak _ wr).drew).mono c.out.bel.size) (a7.out _ (aQ G)))
      have I:Hid (aG ah 46 #[.slice D l.length O,aN #[ab ae t.args[k].kind,ab ae t.args[k].num,aa t.args[k].name,.slice o t.args[k].args.length s]] wr.drew fun e w'=>∃d g,e=av (aN #[ab ae (fT (gk l) t.args[k]).kind,ab ae (fT (gk l) t.args[k]).num,aa (fT (gk l) t.args[k]).name,.slice d (fT (gk l) t.args[k]).args.length g])/\CpH w w' 24 t (some ⟨b,c4,none⟩) r v rs/\TmsK (fun b=>w.heap.size+3<=b/\b<w'.heap.size/\v.ownBlock≠some b) w' d (fT (gk l) t.args[k]).args) :=
        zq (P.out.mono fun e w' hh=>by
          obtain ⟨d,g,z,hB,N⟩:=hh
          refine ⟨d,g,z,E.call hB,N.keep (fun _ _=>rfl) fun b f=>⟨aH E.lt f.1,f.2,fun ee=>?_⟩⟩
          have:=(E.own.own.lt b ee).2
          have h1:=f.1
          omega)
      have H:rs.length=k:=by
        have:=congrArg List.length B.out
        rw [bm,bm,cZ] at this;omega
      have J:Hid ((rs++[((fT (gk l) t.args[k],none,0):TR)]).map (fun x:TR=>x.1)=(t.args.take (k+1)).map (fT (gk l))):=zq (by
        rw [bv,B.out,aK G,bv];simp)
      have c7:=c.out.c3
      have c9:=c.out.cf 3
      have y:(0:Int)<=(k:Int):=by omega
      have c6:(k:Int)<(L:Int):=by omega
      clear hs P
      obtain ⟨x,b0⟩:=lz (t.args[k])
      rw [<-b0.out] at I J c0 c1 g T
      obtain ⟨a,a3⟩:=lz (fT (gk l) x)
      rw [<-a3.out] at I J
      go_wp2_with fail
      go_region_law (first
        | (go_simp;go_at_call 46;(with_reducible refine I.out.mono ?_);rintro e n ⟨d,m,rfl,C,V⟩;have k3:=C.c3;have kf:=C.cf 3;have h:=C.call ((ak _ _).alloc (ag _) (.cells #[ab ae a.kind,ab ae a.num,aa a.name,.slice d a.args.length m] 24));have k5:=h.c3;have b9:=h.cf 3)
        | go_must (have q1:rs.length+1<=bc:=by unfold bc;omega
                   have q2:(rs.length+1) * 56<=140737488355328:=by omega
                   have q3:w.heap.size+3<=(n.alloc (.cells #[ab ae a.kind,ab ae a.num,aa a.name,.slice d a.args.length m] 24)).heap.size:=h.lt
                   have q4:∀j u,(ir (a,d,m))[j]? = some u->(n.alloc (.cells #[ab ae a.kind,ab ae a.num,aa a.name,.slice d a.args.length m] 24)).cell? ((⟨n.heap.size,0,none⟩:Addr).add j)=some u:=dh (eh n _)
                   have q5:(n.alloc (.cells #[ab ae a.kind,ab ae a.num,aa a.name,.slice d a.args.length m] 24)).heap.size=n.heap.size+1:=by simp
                   refine step_append_lies _ (by rfl) _ _ 22 (by rfl) (w.heap.size+3) 24 i _ 4 56 Tryz.underlying22 HI.out b1.out b2.out b4.out (by rfl) (by decide) v rs.length (dN rs) (by rfl) h.own.own ⟨n.heap.size,0,none⟩ 1 1 (ir (a,d,m)) (by rfl) (by rfl) q4 (rN _) (by decide) q1 q2 q3 (n.heap.size+1) q5 ?_;intro g2 c5 w3 Y F b5 d1;clear q1 q2 q3 q4 q5;have k4:=(h.far F (w.heap.size+2) 3 (by omega)).1.trans h.c3;have b8:=(h.far F (w.heap.size+2) 3 (by omega)).2.trans (h.cf 3))
        | fail)
      all_goals
        have Q:=zq (h.app (a,d,m) (V.keep (fun b f=>heap_alloc_old n _ f.2.1) fun b f=>⟨f.1,by simp;omega,f.2.2⟩) Y F (by
          rcases b5 with K | K
          · exact .inl K.symm
          · exact .inr (by rw [K];simp [Value.ownBlock])))
        rw [H] at Q
        have a8:Hid ((rs++[((a,d,m):TR)]).map (fun x:TR=>x.1)=(t.args.take (k+1)).map (fT (gk l))):=zq (by rw [<-J.out];simp)
        clear k3 kf k4 b8 k5 b9 C V h Y F E
        go_wp2_with fail
        go_roundw
        case rel=>exact ⟨k+1,_,rs++[(a,d,m)],by omega,by go_num,Q,a8⟩
        case measure=>simp [intOf] <;> omega
    · have b6:k=L:=by omega
      subst b6
      obtain ⟨d,g,rfl,N⟩:=c.out.own.tms
      have H:rs.length=k:=by
        have:=congrArg List.length B.out
        rw [bm,bm,cZ,<-q.out] at this;omega
      have Z:rs.map (fun x:TR=>x.1)=t.args.map (fT (gk l)):=by rw [B.out,q.out,List.take_length]
      rw [H] at c
      have k0:=c.out.c0
      have k1:=c.out.c1
      have k2:=c.out.c2
      have k3:=c.out.c3
      obtain ⟨v0,r0⟩:=c.out.r0
      obtain ⟨v1,r1⟩:=c.out.r1
      obtain ⟨v2,r2⟩:=c.out.r2
      obtain ⟨v3,r3⟩:=c.out.r3
      have f0:=c.out.rf 0
      have f1:=c.out.rf 1
      have f2:=c.out.rf 2
      have f3:=c.out.rf 3
      have R:=zq (c.out.put (ab ae t.kind) (ab ae t.num) (aa t.name) (.slice d k g))
      have a6:Hid (kt w ((((wr.setCell ⟨w.heap.size+1,0,none⟩ (ab ae t.kind)).setCell ⟨w.heap.size+1,1,none⟩ (ab ae t.num)).setCell ⟨w.heap.size+1,2,none⟩ (aa t.name)).setCell ⟨w.heap.size+1,3,none⟩ (.slice d k g)) d (t.args.map (fT (gk l)))):=zq (by
        obtain ⟨A3,T,z,U⟩:=R.out.2.tms
        rw [Z] at U
        injection z with z _ _
        subst z
        exact U.keep (fun _ _=>rfl) fun b f=>⟨by have:=f.1;omega,f.2⟩)
      clear N Z H
      go_wp2_with fail
      exact aw (v:=aN #[ab ae t.kind,ab ae t.num,aa t.name,.slice d k g]) (by simp [results,Tryz.results46,go_sem,r0,r1,r2,r3]) rfl ⟨d,g,rfl,R.out.1,a6.out⟩
theorem ua (t:Tm) (A:Option Addr) (a:Nat) (w:aj) (k:TmsAt w.heap.size w A t.args) :
  aG ah 25 #[dR t A a] w fun e w'=>∃A' cap',e=av (dR (iV t) A' cap')/\ay w.heap.size w w'/\kt w w' A' (iV t).args:=by
 have q:=R4.start (w0:=w) (w:=w.alloc (.cells #[ab ae t.kind,ab ae t.num,aa t.name,.slice A t.args.length a] 24)) ((ak _ _).alloc (ag _) _) (ab ae 0) (ab ae 0) (aa ⟨#[]⟩) (.slice none 0 0) 24
 have K:(w.alloc (.cells #[ab ae t.kind,ab ae t.num,aa t.name,.slice A t.args.length a] 24)).heap.size=w.heap.size+1:=by simp
 rw [K] at q
 have i:=zq q
 have p:Hid (TBoxT w ((w.alloc (.cells #[ab ae t.kind,ab ae t.num,aa t.name,.slice A t.args.length a] 24)).alloc (.cells #[ab ae 0,ab ae 0,aa ⟨#[]⟩,.slice none 0 0] 24)) t A a) :=
  zq ((TBoxT.start w t A a 24).call ((ak _ _).alloc (ag _) _))
 have g:=zq (fun (W:aj) (h:R4 w W (w.heap.size+1))=>lY t A a W ((k.keep h.bel).mono h.bel.size))
 cases hv:bu t
 ·have l:=zq (show iV t=tm0 by unfold iV;rw [hv];rfl)
  rw [hv] at g
  clear hv p k
  rw [l.out]
  unfold dR at *
  generalize t.kind=a0 at *
  generalize t.num=G at *
  generalize t.name=H at *
  generalize t.args.length=I at *
  go_enter Tryz.func25,Tryz.ntmps25
  go_wp2_with fail
  refine (g.out _ i.out).mono ?_;rintro e w1 ⟨rfl,j⟩
  have d:=i.out.call j
  obtain ⟨v0,z⟩:=d.r0
  obtain ⟨v1,B⟩:=d.r1
  obtain ⟨v2,C⟩:=d.r2
  obtain ⟨v3,E⟩:=d.r3
  have T:=d.fr 0
  have U:=d.fr 1
  have V:=d.fr 2
  have X:=d.fr 3
  have b2:=d.put (ab ae 0) (ab ae 0) (aa ⟨#[]⟩) (.slice none 0 0)
  go_wp2_with fail
  exact aw (v:=aN #[ab ae 0,ab ae 0,aa ⟨#[]⟩,.slice none 0 0]) (by simp [results,Tryz.results25,go_sem,z,B,C,E]) rfl ⟨none,0,rfl,b2,TmsK.nil⟩
 ·obtain ⟨b1,x⟩:=(gV t).1 hv
  have l:=zq (show iV t=fT (gk (fg t [])) t by unfold iV;rw [hv];rfl)
  have M:=(tM t []).2.1
  rw [hv] at g
  rw [l.out]
  have S:=zq (fun (W:aj) (h:CnH w W t A a)=>(GJ W t x A a W (.slice none 0 0) [] (ak _ _) ((k.keep h.r.bel).mono h.r.bel.size) (OwnI.nil _ _ _) (by simp;omega)).mono (R':=fun e w'=>∃v',e=av v'/\ay W.heap.size W w'/\OwnI 2 W.heap.size w' v' (fg t [])) fun _ _ ⟨v',he,hO,hg,_⟩=>⟨v',he,zP hg,hO⟩)
  have F:=zq (fun (W:aj) (h:CnH w W t A a) (D:Option Addr) (y:Nat) (hI:IntsAt W D (fg t []))=>Cf (fg t []) (by simp at M;omega) D y t A a W hI ((k.keep h.r.bel).mono h.r.bel.size) x)
  obtain ⟨u,L⟩:∃u,u=fT (gk (fg t [])) t:=⟨_,rfl⟩
  rw [<-L] at F |-
  have O:=zq (fun W (h:R4 w W (w.heap.size+1)) (Y:TBoxT w W t A a)=>(⟨h,Y⟩:CnH w W t A a))
  have m:Hid (∀w',CnH w w' t A a->w'.cell? ⟨w.heap.size,0,none⟩=some (ab ae t.kind)/\w'.cell? ⟨w.heap.size,1,none⟩=some (ab ae t.num)/\w'.cell? ⟨w.heap.size,2,none⟩=some (aa t.name)/\w'.cell? ⟨w.heap.size,3,none⟩=some (.slice A t.args.length a)/\CnH w w' t A a):=zq (fun w' h=>⟨h.b.c0,h.b.c1,h.b.c2,h.b.c3,h⟩)
  have n:Hid (∀w',(w'.cell? ⟨w.heap.size,0,none⟩=some (ab ae t.kind)/\w'.cell? ⟨w.heap.size,1,none⟩=some (ab ae t.num)/\w'.cell? ⟨w.heap.size,2,none⟩=some (aa t.name)/\w'.cell? ⟨w.heap.size,3,none⟩=some (.slice A t.args.length a)/\CnH w w' t A a)->CnH w w' t A a):=zq (fun w' h=>h.2.2.2.2)
  clear hv k q K L M x b1 l
  generalize fg t []=vl at *
  unfold dR at *
  generalize a5:t.kind=a0 at *
  generalize a6:t.num=G at *
  generalize a7:t.name=H at *
  generalize a8:t.args.length=I at *
  clear a5 a6 a7 a8
  go_enter Tryz.func25,Tryz.ntmps25
  go_wp2_with fail
  refine (g.out _ i.out).mono ?_;rintro e w1 ⟨rfl,j⟩
  have R:=zq (CnH.drew (O.out _ (i.out.call j) (p.out.call j)))
  clear i p j g
  go_wp2_with fail
  go_region_held3 (fun w'=>w'.cell? ⟨w.heap.size,0,none⟩=some (ab ae a0)/\w'.cell? ⟨w.heap.size,1,none⟩=some (ab ae G)/\w'.cell? ⟨w.heap.size,2,none⟩=some (aa H)/\w'.cell? ⟨w.heap.size,3,none⟩=some (.slice A I a)/\CnH w w' t A a)
   (first
    | with_reducible exact m.out _ R.out
    | with_reducible exact m.out _ (CnH.call (n.out _ (by with_reducible assumption)) (by with_reducible assumption))
    | with_reducible exact m.out _ c
    | with_reducible exact m.out _ (CnH.put4 (n.out _ (by with_reducible assumption)) _ _ _ _))
   (first
    | (go_at_call 47;(with_reducible refine (S.out _ (n.out _ (by with_reducible assumption))).mono ?_);rintro e w4 ⟨v4,rfl,b3,b0⟩;obtain ⟨D,y,rfl,a4⟩:=b0.ints)
    | (go_at_call 46;have s:=n.out w4 (by with_reducible assumption);(with_reducible refine (F.out _ s D y a4).mono ?_);rintro e N ⟨f,o,rfl,Z,a9⟩;have c:=s.call Z;have b4:=s.r.lt;obtain ⟨u0,z⟩:=c.r.r0;obtain ⟨u1,B⟩:=c.r.r1;obtain ⟨u2,C⟩:=c.r.r2;obtain ⟨u3,E⟩:=c.r.r3;have T:=c.r.fr 0;have U:=c.r.fr 1;have V:=c.r.fr 2;have X:=c.r.fr 3)
    | fail)
  have Q:=zq (c.r.put (ab ae u.kind) (ab ae u.num) (aa u.name) (.slice f u.args.length o))
  have P:Hid (kt w ((((N.setCell ⟨w.heap.size+1,0,none⟩ (ab ae u.kind)).setCell ⟨w.heap.size+1,1,none⟩ (ab ae u.num)).setCell ⟨w.heap.size+1,2,none⟩ (aa u.name)).setCell ⟨w.heap.size+1,3,none⟩ (.slice f u.args.length o)) f u.args) :=
   zq (TmsK.keep a9 (fun b J=>ce N (w.heap.size+1) _ _ _ _ b (by omega)) (fun b J=>⟨by omega,by rw [ec];exact J.2⟩))
  go_wp2_with fail
  exact aw (v:=aN #[ab ae u.kind,ab ae u.num,aa u.name,.slice f u.args.length o]) (by simp [results,Tryz.results25,go_sem,z,B,C,E]) rfl ⟨f,o,rfl,Q.out,P.out⟩
end Go.Proofs.YtgapnafkelokaaaGreatDoor
namespace Hb
open Go Go.RowKit
theorem BY {f g:Int->Int}:∀t:Tm,Tm.All (fun x=>x.kind=0->f x.num=g x.num) t->fT f t=fT g t:=Tm.ind fun t e h=>by
 rw [jz f,jz g]
 have d:(if t.kind=0 then f t.num else t.num)=(if t.kind=0 then g t.num else t.num):=by
  by_cases c:t.kind=0
  ·rw [if_pos c,if_pos c,h.here c]
  ·rw [if_neg c,if_neg c]
 rw [d,List.map_congr_left fun a b=>e a b (h.sub a b)]
structure Bx (mb B:Nat) (w w':aj):Prop where
 os:w'.os=w.os
 tape:w'.tape=w.tape
 output:w'.output=w.output
 size:w.heap.size<=w'.heap.size
 block:∀k,k<B->k≠mb->w'.heap[k]? = w.heap[k]?
section
variable {mb B B':Nat} {a w w':aj}
theorem Bx.of (h:ay B w w'):Bx mb B w w':=⟨h.os,h.tape,h.output,h.size,fun k a _=>h.block k a⟩
theorem Bx.trans (h:Bx mb B a w) (k:Bx mb B w w'):Bx mb B a w':=⟨k.os.trans h.os,k.tape.trans h.tape,k.output.trans h.output,aH h.size k.size,fun i b c=>(k.block i b c).trans (h.block i b c)⟩
end
end Hb
