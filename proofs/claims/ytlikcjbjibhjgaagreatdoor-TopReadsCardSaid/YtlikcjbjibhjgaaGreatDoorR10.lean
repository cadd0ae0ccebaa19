/- Parts of the proof. -/
import Derived.Test.YtlikcjbjibhjgaaGreatDoorR01
import Derived.Test.YtlikcjbjibhjgaaGreatDoorR09
import Derived.Test.YtlikcjbjibhjgaaGreatDoorR07
import Derived.Test.YtlikcjbjibhjgaaGreatDoorR06
import Derived.Test.YtlikcjbjibhjgaaGreatDoorR03
import Derived.Maps.OwnSet
set_option maxHeartbeats 12800000
set_option maxRecDepth 100000
open Bool renaming and_eq_true -> aF
open Go renaming Calls -> aJ, Program -> dz, TypeId -> bD, Value -> az, World -> ai, bodyPost_ret -> ay, heap_alloc_new -> dA, heap_setCell_other -> aS, maxLen -> be
open Go.Ending renaming returned -> aw, returned -> eA
open Go.IntKind renaming i64 -> ae
open Go.Proofs.Tryz renaming prog -> ah
open Go.RowKit renaming Below -> ax
open Go.RowKit.Below renaming refl -> aj
open Go.Value renaming agg -> aN, bool -> am, int -> ab, slice -> ev, string -> aa, tuple -> aK
open Go.World renaming cell?_alloc_new -> aq, cell?_of_block -> bG, frozen?_alloc_at -> eF, news_of_block -> dv
open List renaming all_eq_true -> bh, append_assoc -> bj, eq_nil_of_length_eq_zero -> bL, foldl_append -> eL, foldl_cons -> dW, getElem_mem -> aR, length -> hJ, length_eq_zero_iff -> eo, length_map -> bm, length_take -> bM, map_append -> bC, map_cons -> bE, mem_append_left -> dU, mem_cons -> bg, mem_cons_of_mem -> aW, mem_cons_self -> aV, mem_singleton -> aG, sum_cons -> ic, take_succ_eq_append_getElem -> aO
open Nat renaming le_refl -> ag, le_trans -> aI, lt_of_lt_of_le -> aC, zero_le -> bp
namespace Hb
open Go Go.RowKit
def rX (o:WO) (T:List OpR) (t:Tm):List ByteArray×Int:=if (cd t&&bB T)=true then (qZ o T t 1200 false,0) else ([],1)
theorem qa {o:WO} {T:List OpR} {t:Tm} (h:(cd t&&bB T)=false):rX o T t=([],1):=by unfold rX;rw [h];rfl
theorem re {o:WO} {T:List OpR} {t:Tm} (h:(cd t&&bB T)=true):rX o T t=(qZ o T t 1200 false,0):=by unfold rX;rw [if_pos h]
theorem rk {T:List OpR} (h:bB T=true):T.length<=100:=by
 rcases Nat.lt_or_ge 100 T.length with a | a
 ·rw [kE T a] at h;cases h
 ·exact a
def WO.v (o:WO):az:=aN #[am o.q,am o.ig,am o.nu]
theorem Okf.of_valid {t:Tm} (h:cd t=true) (k:Tm.All (fun x=>dP x=true) t):Tm.All Okf t/\t.nodes<=2000:=by
 obtain ⟨a,b⟩:=(iA t).1 h
 exact ⟨Okf.of b k,a⟩
structure TOp (w0 w:ai) (t:Tm) (A:Option Addr) (cap:Nat) (o:WO):Prop where
 bel:ax w0.heap.size w0 w
 tb:TBx w w0.heap.size t A cap
 olt:w0.heap.size+1<w.heap.size
 o0:w.cell? ⟨w0.heap.size+1,0,none⟩=some (am o.q)
 o1:w.cell? ⟨w0.heap.size+1,1,none⟩=some (am o.ig)
 o2:w.cell? ⟨w0.heap.size+1,2,none⟩=some (am o.nu)
theorem TOp.call {w0 w w':ai} {t:Tm} {A:Option Addr} {cap:Nat} {o:WO} (h:TOp w0 w t A cap o) (a:ax w.heap.size w w'):TOp w0 w' t A cap o :=
 ⟨h.bel.trans (a.mono h.bel.size),h.tb.call a,aC h.olt a.size,(a.cell (p:=⟨_,_,none⟩) h.olt).trans h.o0,(a.cell (p:=⟨_,_,none⟩) h.olt).trans h.o1,(a.cell (p:=⟨_,_,none⟩) h.olt).trans h.o2⟩
theorem TOp.start (w:ai) (t:Tm) (A:Option Addr) (cap a:Nat) (o:WO) (d c:bD) (i:a=t.args.length) :
  TOp w ((w.alloc (.cells #[ab ae t.kind,ab ae t.num,aa t.name,.slice A a cap] d)).alloc (.cells #[am o.q,am o.ig,am o.nu] c)) t A cap o:=by
 have f:=TBx.start w t A cap a d i
 obtain ⟨W1,e⟩:∃W1,W1=w.alloc (.cells #[ab ae t.kind,ab ae t.num,aa t.name,.slice A a cap] d):=⟨_,rfl⟩
 rw [<-e] at f |-
 have s1:W1.heap.size=w.heap.size+1:=by rw [e];simp
 have h:ax w.heap.size w W1:=by rw [e];exact (aj _ _).alloc (ag _) _
 have g:ax W1.heap.size W1 (W1.alloc (.cells #[am o.q,am o.ig,am o.nu] c)):=(aj _ _).alloc (ag _) _
 have b:∀j,(W1.alloc (.cells #[am o.q,am o.ig,am o.nu] c)).cell? ⟨w.heap.size+1,j,none⟩=(#[am o.q,am o.ig,am o.nu]:Array az)[j]?:=fun j=>by
  have:=aq W1 #[am o.q,am o.ig,am o.nu] c j
  rw [s1] at this;exact this
 exact ⟨h.trans (g.mono (by omega)),f.call g,by simp;omega,b 0,b 1,b 2⟩
theorem DU {o:WO} {T:List OpR} {t:Tm} (c:Tm.All (fun x=>dP x=true) t):(∀s∈(rX o T t).1,s.size<=1000000)/\(rX o T t).1.length<=20000:=by
 cases h:(cd t&&bB T)
 ·rw [qa h];exact ⟨fun s a=>(by cases a),by decide⟩
 ·have d:cd t=true:=by rw [aF] at h;exact h.1
  obtain ⟨b,e⟩:=Okf.of_valid d c
  have f:=Dd o T (Okf.k4 b) 1200 false
  rw [re h]
  refine ⟨fun s a=>?_,by show (qZ o T t 1200 false).length<=_;omega⟩
  have:=vJ o T b 1200 false s a
  omega
def xW (s:ByteArray):ByteArray×Int:=if s.size<=16384 then (s,0) else (⟨#[]⟩,2)
def jU (l:List ByteArray):ByteArray:=⟨(fJ (uN l)).toArray⟩
def oZ (o:WO) (T:List OpR) (t:Tm):ByteArray×Int:=if (cd t&&bB T)=true then xW (jU (qZ o T t 1200 false)) else (⟨#[]⟩,1)
theorem wM {o:WO} {T:List OpR} {t:Tm} (h:(cd t&&bB T)=false):oZ o T t=(⟨#[]⟩,1):=by unfold oZ;rw [h];rfl
theorem qc {o:WO} {T:List OpR} {t:Tm} (h:(cd t&&bB T)=true):oZ o T t=xW (jU (qZ o T t 1200 false)):=by unfold oZ;rw [if_pos h]
theorem qw {s:ByteArray} (h:s.size<=16384):xW s=(s,0):=if_pos h
theorem xV {s:ByteArray} (h:¬s.size<=16384):xW s=(⟨#[]⟩,2):=if_neg h
end Hb
namespace Go.Proofs.YtlikcjbjibhjgaaGreatDoor
open Go.RowKit Hb
theorem Bv (A:Option Addr) (n cap:Nat) (l:List OpR) (w:ai) (a:n=l.length) (_hm:n<=be) (b:OpsAt w A l) :
  aJ ah 18 #[.slice A n cap] w fun e w'=>e=aw (am (bB l))/\ax w.heap.size w w':=by
 by_cases d:100<n
 ·have f:decide ((100:Int)<n)=true:=by simp;omega
  have c:=zq (kE l (by omega))
  clear a b d
  go_enter Tryz.func18,Tryz.ntmps18
  go_wp2_with fail
  go_ret
  exact ⟨bN c.out.symm,aj _ _⟩
 ·exact mG A n cap l w a (by omega) b
theorem FF {o:WO} {T:List OpR} {TA:Option Addr} {TN TC:Nat} {t:Tm} (q:Tm.All (fun x=>dP x=true) t) (A:Option Addr) (cap:Nat) (w:ai) (s:DoorOk w) (E:TN<=be) (k:Tab w TA TN TC T) (n:TmsAt w.heap.size w A t.args) :
  aJ ah 27 #[er t A cap,.slice TA TN TC,o.v] w fun e w'=>∃v,e=aw (aK #[v,ab ae (rX o T t).2])/\ax w.heap.size w w'/\OwnS 9 w.heap.size w' v (rX o T t).1:=by
 have m:=zq (TOp.start w t A cap t.args.length o 25 27 rfl)
 have f:=zq (fun W (h:TOp w W t A cap o)=>(mT t A cap W ((n.keep h.bel).mono h.bel.size)).mono fun _ _ d=>(⟨d.1,h.call d.2⟩:_/\TOp w _ t A cap o))
 have j:=zq (fun W (h:TOp w W t A cap o)=>(Bv TA TN TC T W k.len E (k.below h.bel).ops).mono fun _ _ d=>(⟨d.1,h.call d.2⟩:_/\TOp w _ t A cap o))
 have i:=zq (fun (a:cd t=true) (c:bB T=true) W (h:TOp w W t A cap o)=>(AO (Ng (o:=o) (T:=T) (TA:=TA) (TN:=TN) (TC:=TC) (Okf.of_valid a q).2 (Okf.of_valid a q).1) 1200 A cap W ⟨s.below h.bel,k.below h.bel,by have:=rk c;have:=k.len;omega⟩ ((n.keep h.bel).mono h.bel.size)).mono fun _ _ d=>(d.imp fun _ r=>⟨r.1,h.bel.trans (r.2.1.mono h.bel.size),r.2.2.mono h.bel.size⟩:∃v,_/\ax w.heap.size w _/\OwnS 9 w.heap.size _ v _))
 clear n k s q
 unfold er WO.v nN at *
 generalize u:t.args.length=G at *
 have z:=zq u
 clear u
 cases a:cd t
 ·have g:=zq (qa (o:=o) (T:=T) (t:=t) (by rw [a];rfl))
  rw [a] at f
  rw [g.out]
  clear i j a
  go_enter Tryz.func27,Tryz.ntmps27
  go_wp2_with fail
  refine (f.out _ m.out).mono ?_;rintro e y ⟨rfl,l⟩
  have p:=l.bel
  go_wp2_with fail
  exact ay (v:=aK #[.slice none 0 0,ab ae 1]) (by simp [results,Tryz.results27,go_sem]) rfl ⟨_,rfl,p,OwnS.nil _ _ _⟩
 ·cases c:bB T
  ·have g:=zq (qa (o:=o) (T:=T) (t:=t) (by rw [a,c];rfl))
   rw [a] at f
   rw [c] at j
   rw [g.out]
   clear i a c
   go_enter Tryz.func27,Tryz.ntmps27
   go_wp2_with fail
   refine (f.out _ m.out).mono ?_;rintro e y ⟨rfl,l⟩
   go_wp2_with fail
   refine (j.out _ l).mono ?_;rintro e F ⟨rfl,b⟩
   have p:=b.bel
   go_wp2_with fail
   exact ay (v:=aK #[.slice none 0 0,ab ae 1]) (by simp [results,Tryz.results27,go_sem]) rfl ⟨_,rfl,p,OwnS.nil _ _ _⟩
  ·have g:=zq (re (o:=o) (T:=T) (t:=t) (by rw [a,c];rfl))
   have i:=zq (i.out a c)
   rw [a] at f
   rw [c] at j
   rw [g.out]
   clear a c
   go_enter Tryz.func27,Tryz.ntmps27
   go_wp2_with fail
   refine (f.out _ m.out).mono ?_;rintro e y ⟨rfl,l⟩
   go_wp2_with fail
   refine (j.out _ l).mono ?_;rintro e F ⟨rfl,b⟩
   have H:=b.tb.c0
   have I:=b.tb.c1
   have J:=b.tb.c2
   have B:=b.tb.c3
   rw [z.out] at B
   have K:=b.o0
   have L:=b.o1
   have M:=b.o2
   go_wp2_with fail
   refine (i.out _ b).mono ?_;rintro e N ⟨v,rfl,C,D⟩
   go_wp2_with fail
   exact ay (v:=aK #[v,ab ae 0]) (by simp [results,Tryz.results27,go_sem]) rfl ⟨_,rfl,C,D⟩
theorem DN (s:ByteArray) (w:ai) (b:s.size<=be):aJ ah 28 #[aa s] w fun e w'=>e=aw (aK #[aa (xW s).1,ab ae (xW s).2])/\w=w':=by
 unfold be at b
 by_cases h:s.size<=16384
 ·have a:decide ((16384:Int)<(s.size:Int))=false:=by simp;omega
  rw [qw h]
  go_enter Tryz.func28,Tryz.ntmps28
  go_wp2_with fail
  exact ay (v:=aK #[aa s,ab ae 0]) (by simp [results,Tryz.results28,go_sem]) rfl ⟨rfl,rfl⟩
 ·have a:decide ((16384:Int)<(s.size:Int))=true:=by simp;omega
  rw [xV h]
  go_enter Tryz.func28,Tryz.ntmps28
  go_wp2_with fail
  exact ay (v:=aK #[aa ⟨#[]⟩,ab ae 2]) (by simp [results,Tryz.results28,go_sem]) rfl ⟨rfl,rfl⟩
theorem BY {l:List ByteArray} (h:∀s∈l,s.size<=1000000) (b:l.length<=50000):(jU l).size<=50000050000:=by
 have a:=vP 1000000 l h
 unfold jU
 rw [tr]
 refine aI a (aI (Nat.mul_le_mul_right _ b) (by decide))
theorem Js {b:Nat} {v:az} {l:List ByteArray} (w:ai) (h:OwnS 9 b w v l) (f:l.length<=50000) (d:∀s∈l,s.size<=1000000) :
  aJ ah 29 #[v] w fun e w'=>e=aw (aa (jU l))/\ax w.heap.size w w':=by
 obtain ⟨A,c,rfl,a,_⟩:=h.strs
 exact JM A l.length c l w rfl (by omega) a d
theorem FG {o:WO} {T:List OpR} {TA:Option Addr} {TN TC:Nat} {t:Tm} (i:Tm.All (fun x=>dP x=true) t) (A:Option Addr) (cap:Nat) (w:ai) (l:DoorOk w) (F:TN<=be) (p:Tab w TA TN TC T) (n:TmsAt w.heap.size w A t.args) :
  aJ ah 7 #[er t A cap,.slice TA TN TC,o.v] w fun e w'=>e=aw (aK #[aa (oZ o T t).1,ab ae (oZ o T t).2])/\ax w.heap.size w w':=by
 have k:=zq (TOp.start w t A cap t.args.length o 25 27 rfl)
 have a:=k.out.bel
 have b:=zq ((FF i (o:=o) (TC:=TC) A cap _ (l.below a) F (p.below a) ((n.keep a).mono a.size)).mono fun _ _ D=>(D.imp fun _ j=>⟨j.1,a.trans (j.2.1.mono a.size),j.2.2.mono a.size⟩:∃v,_/\ax w.heap.size w _/\OwnS 9 w.heap.size _ v _))
 obtain ⟨q,f⟩:=DU (o:=o) (T:=T) i
 have c:=zq q
 clear n p l i q k a
 unfold er WO.v at *
 generalize m:t.args.length=J at *
 have I:=zq m
 clear m
 cases h1:(cd t&&bB T)
 ·rw [wM h1]
  rw [qa h1] at b
  go_enter Tryz.func7,Tryz.ntmps7
  go_wp2_with fail
  refine b.out.mono ?_;rintro e H ⟨G,rfl,d,g⟩
  go_wp2_with fail
  exact ay (v:=aK #[aa ⟨#[]⟩,ab ae 1]) (by simp [results,Tryz.results7,go_sem]) rfl ⟨rfl,d⟩
 ·rw [qc h1]
  rw [re h1] at b c f
  have s:=zq (fun v W (h:OwnS 9 w.heap.size W v (qZ o T t 1200 false))=>Js W h (by show (qZ o T t 1200 false).length<=_;exact aI f (by decide)) c.out)
  have E:(jU (qZ o T t 1200 false)).size<=50000050000:=BY c.out (aI f (by decide))
  have u:=zq (fun W=>DN (jU (qZ o T t 1200 false)) W (by unfold be;omega))
  have z:Hid ((xW (jU (qZ o T t 1200 false))).2=(xW (jU (qZ o T t 1200 false))).2):=zq rfl
  clear f c h1 E
  generalize xW (jU (qZ o T t 1200 false))=r at *
  generalize jU (qZ o T t 1200 false)=K at *
  generalize qZ o T t 1200 false=L at *
  clear z
  go_enter Tryz.func7,Tryz.ntmps7
  go_wp2_with fail
  refine b.out.mono ?_;rintro e H ⟨G,rfl,d,g⟩
  have y:=zq g
  clear g
  go_wp2_with fail
  refine (s.out _ _ y.out).mono ?_;rintro e M ⟨rfl,B⟩
  have C:=d.trans (B.mono d.size)
  go_wp2_with fail
  refine (u.out _).mono ?_;rintro e N ⟨rfl,rfl⟩
  go_wp2_with fail
  exact ay (v:=aK #[aa r.1,ab ae r.2]) (by simp [results,Tryz.results7,go_sem]) rfl ⟨rfl,C⟩
end Go.Proofs.YtlikcjbjibhjgaaGreatDoor
namespace Hb
open Go Go.RowKit
def fX (f:Int->Int):Tm->Tm
 | .mk k n s l=>.mk k (if k=0 then f n else n) s (l.attach.map fun ⟨a,_⟩=>fX f a)
theorem jy (f:Int->Int) (t:Tm):fX f t=.mk t.kind (if t.kind=0 then f t.num else t.num) t.name (t.args.map (fX f)):=by
 cases t with
 | mk k n s l=>unfold fX Tm.kind Tm.num Tm.name Tm.args;simp
theorem qm (f:Int->Int) (t:Tm):(fX f t).kind=t.kind:=by rw [jy];rfl
theorem yY (f:Int->Int) (t:Tm):(fX f t).name=t.name:=by rw [jy];rfl
theorem kJ (f:Int->Int) (t:Tm):(fX f t).args=t.args.map (fX f):=by rw [jy];rfl
theorem Kc (f:Int->Int) (t:Tm):(fX f t).args.length=t.args.length:=by rw [kJ,bm]
theorem oN (f:Int->Int) (t:Tm):(fX f t).num=if t.kind=0 then f t.num else t.num:=by rw [jy];rfl
theorem EB (f:Int->Int):∀t:Tm,(fX f t).nodes=t.nodes:=Tm.ind fun t c=>by
 rw [Tm.nodes_eq,Tm.nodes_eq t,kJ,List.map_map]
 congr 1
 have:∀l:List Tm,(∀a∈l,(fX f a).nodes=a.nodes)->(l.map (Tm.nodes ∘ fX f)).sum=(l.map Tm.nodes).sum:=by
  intro l
  induction l with
  | nil=>intro _;rfl
  | cons a l ih2=>intro h;simp only [bE,ic,Function.comp];rw [h a (aV ..)];congr 1;exact ih2 fun x b=>h x (aW _ b)
 exact this _ c
def dJ:Tm->List Int->List Int
 | .mk k n _ l=>fun b=>l.attach.foldl (fun b ⟨a,_⟩=>dJ a b) (if k=0/\n ∉ b then b++[n] else b)
def jK (t:Tm) (a:List Int):List Int:=if t.kind=0/\t.num ∉ a then a++[t.num] else a
theorem lA (t:Tm) (b:List Int):dJ t b=t.args.foldl (fun b a=>dJ a b) (jK t b):=by
 cases t with
 | mk k n s l=>
  conv=>lhs;unfold dJ
  show _=l.foldl (fun b a=>dJ a b) (if k=0/\n ∉ b then b++[n] else b)
  simp
theorem FQ (t:Tm) (a:List Int):(∀n∈a,n∈jK t a)/\(jK t a).length<=a.length+1/\(t.kind=0->t.num∈jK t a):=by
 unfold jK
 split
 ·rename_i h
  exact ⟨fun n b=>dU _ b,by simp,fun _=>by simp⟩
 ·rename_i h
  refine ⟨fun n b=>b,by omega,fun c=>?_⟩
  exact Classical.byContradiction fun b=>h ⟨c,b⟩
theorem oF:∀(t:Tm) (b:List Int),(∀n∈b,n∈dJ t b)/\(dJ t b).length<=b.length+t.nodes/\Tm.All (fun x=>x.kind=0->x.num∈dJ t b) t:=by
 refine Tm.ind fun t r=>?_
 intro b
 obtain ⟨m,w,o⟩:=FQ t b
 have u:∀(l:List Tm),(∀a∈l,a∈t.args)->∀c:List Int,(∀n∈c,n∈l.foldl (fun b a=>dJ a b) c)/\(l.foldl (fun b a=>dJ a b) c).length<=c.length+(l.map Tm.nodes).sum/\∀a∈l,Tm.All (fun x=>x.kind=0->x.num∈l.foldl (fun b a=>dJ a b) c) a:=by
  intro l
  induction l with
  | nil=>intro _ c;exact ⟨fun n d=>d,by simp,fun a p=>by cases p⟩
  | cons a l ihl=>
   intro j c
   obtain ⟨f,s,i⟩:=r a (j a (aV ..)) c
   obtain ⟨k,z,v⟩:=ihl (fun x e=>j x (aW _ e)) (dJ a c)
   rw [dW,bE,ic]
   refine ⟨fun n d=>k n (f n d),by omega,fun x e=>?_⟩
   rcases bg.1 e with rfl | e
   ·exact Tm.All.imp (fun y q g=>k _ (q g)) _ i
   ·exact v x e
 obtain ⟨f,s,i⟩:=u t.args (fun _ h=>h) (jK t b)
 rw [lA]
 refine ⟨fun n d=>f n (m n d),by rw [Tm.nodes_eq t];omega,.mk _ (fun g=>f _ (o g)) i⟩
def ed (l:List Int) (n:Int):Int:=if n∈l then (l.idxOf n:Int) else -1
def gy (t:Tm):Tm:=if cd t=true then fX (ed (dJ t [])) t else tm0
theorem Mb {f:Int->Int}:∀t:Tm,t.allOk=true->Tm.All (fun x=>x.kind=0->0<=f x.num/\f x.num<=1099511627776) t->(fX f t).allOk=true:=Tm.ind fun t i h k=>by
 rw [Tm.allOk_eq,aF] at h
 rw [Tm.allOk_eq,aF,kJ]
 refine ⟨?_,bh.2 fun x g=>?_⟩
 ·have b:=h.1
  have e:=k.here
  unfold dH at b |-
  rw [qm,yY,oN,Kc]
  by_cases c:t.kind=0
  ·rw [if_pos c] at b |-
   rw [if_pos c,decide_eq_true (e c).1,decide_eq_true (e c).2]
   simp at b |-
   exact ⟨b.1.2,b.2⟩
  ·rw [if_neg c] at b |-
   rw [if_neg c]
   exact b
 ·rw [List.mem_map] at g
  obtain ⟨a,d,rfl⟩:=g
  exact i a d (bh.1 h.2 a d) (k.sub a d)
def AtB (w:ai) (v a:az):Prop:=a.ownBlock=v.ownBlock\/∃k,a.ownBlock=some k/\w.heap.size<=k
theorem AtB.trans {a w:ai} {v b v2:az} (h:AtB a v b) (k:AtB w b v2) (d:a.heap.size<=w.heap.size):AtB a v v2:=by
 rcases k with k | ⟨g,k,c⟩
 ·rw [AtB,k];exact h
 ·exact .inr ⟨g,k,aI d c⟩
theorem IB {a w w':ai} {v f:az} (h:a.grownBy w v.ownBlock) (b:AtB a v f) (k:w.grownBy w' f.ownBlock):a.grownBy w' v.ownBlock:=by
 refine ⟨k.os.trans h.os,k.tape.trans h.tape,k.output.trans h.output,aI h.size k.size,fun i c d=>(k.block i (aC c h.size) fun e=>?_).trans (h.block i c d)⟩
 rcases b with b | ⟨g,b,j⟩
 ·rw [b] at e;exact d e
 ·rw [b] at e;injection e with e;omega
theorem rQ {a w w':ai} {row:Option Nat} (h:ax a.heap.size a w) (k:w.grownBy w' row):a.grownBy w' row :=
 ⟨k.os.trans h.os,k.tape.trans h.tape,k.output.trans h.output,aI h.size k.size,fun i b c=>(k.block i (aC b h.size) c).trans (h.block i b)⟩
theorem Cd {w w':ai} (h:w.grownBy w' none):ax w.heap.size w w':=⟨h.os,h.tape,h.output,h.size,fun i a=>h.block i a (by simp)⟩
theorem ui (w:ai) (row:Option Nat):w.grownBy w row:=⟨rfl,rfl,rfl,ag _,fun _ _ _=>rfl⟩
theorem uj {a w:ai} {row:Option Nat} (h:a.grownBy w row) {k:Nat} (j:Nat) (b:k<a.heap.size) (c:row≠some k):w.cell? ⟨k,j,none⟩=a.cell? ⟨k,j,none⟩:=h.cell_far ⟨k,j,none⟩ b (fun e=>c e.symm)
def pa (l:List Tm):Nat:=(l.map Tm.nodes).sum
theorem vw (l:List Tm) (k:Nat) (h:k<l.length):pa (l.take (k+1))=pa (l.take k)+l[k].nodes:=by
 unfold pa
 rw [aO h,bC,List.sum_append];simp
theorem CH (l:List Tm) (k:Nat):pa (l.take k)<=pa l:=by
 have e:pa l=pa (l.take k)+pa (l.drop k):=by
  unfold pa
  rw [<-List.sum_append,<-bC,List.take_append_drop]
 omega
def IntsAt (w:ai) (A:Option Addr) (l:List Int):Prop :=
 ∀j (a:j<l.length),∃g off,A=some ⟨g,off,none⟩/\g<w.heap.size/\w.cell? ⟨g,off+j,none⟩=some (ab ae l[j])
theorem IntsAt.below {w w':ai} {A:Option Addr} {l:List Int} (h:IntsAt w A l) (a:ax w.heap.size w w'):IntsAt w' A l:=fun j e=>by
 obtain ⟨g,f,c,b,d⟩:=h j e
 exact ⟨g,f,c,aC b a.size,(a.cell (p:=⟨_,_,none⟩) b).trans d⟩
def OwnI (e:bD) (b:Nat) (w:ai) (v:az) (l:List Int):Prop:=w.ownsRow b e 1 v l.length (l.map fun n=>Value.int ae n)
theorem OwnI.below {e b:Nat} {w w':ai} {v:az} {l:List Int} (h:OwnI e b w v l) (a:ax w.heap.size w w'):OwnI e b w' v l:=ls h a
theorem OwnI.low {e b:Nat} {w:ai} {v:az} {l:List Int} (h:OwnI e b w v l) {k:Nat} (a:v.ownBlock=some k):b<=k/\k<w.heap.size:=⟨(World.ownsRow.lt h k a).1,(World.ownsRow.lt h k a).2⟩
theorem OwnI.nil (e b:Nat) (w:ai):OwnI e b w (.slice none 0 0) []:=World.ownsRow_nil _ _ _ _
theorem OwnI.ints {e b:Nat} {w:ai} {v:az} {l:List Int} (h:OwnI e b w v l):∃A cap,v=.slice A l.length cap/\IntsAt w A l:=by
 rcases h.2 with ⟨a,d⟩ | ⟨g,cap,i,a,k,f,n,m,rest⟩
 ·have:l=[]:=bL d
  subst this
  exact ⟨_,_,a,fun j c=>absurd c (by simp)⟩
 ·refine ⟨some ⟨g,0,none⟩,cap,a,fun j c=>⟨g,0,rfl,(Array.getElem?_eq_some_iff.1 f).1,?_⟩⟩
  have:=World.ownsRow.cells h (g:=g) (by rw [a];rfl) j (ab ae l[j]) (by rw [List.getElem?_map,List.getElem?_eq_getElem c];rfl)
  rw [fC] at this
  exact this
theorem Kj {l:List Int} {x:Int} {k:Nat} (f:k<l.length) (h:∀j (g:j<l.length),j<k->¬l[j]=x) (c:l[k]=x):ed l x=k:=by
 have d:x∈l:=by rw [<-c];exact aR f
 unfold ed
 rw [if_pos d]
 have b:=List.idxOf_lt_length_of_mem d
 have e:l[l.idxOf x]=x:=List.getElem_idxOf b
 rcases Nat.lt_trichotomy (l.idxOf x) k with a | a | a
 ·exact absurd e (h _ b a)
 ·omega
 ·have:=List.not_of_lt_findIdx (p:=fun y=>y==x) (xs:=l) (i:=k) a
  simp [c] at this
theorem Ki {l:List Int} {x:Int} (h:∀j (a:j<l.length),¬l[j]=x):ed l x=-1:=by
 unfold ed
 rw [if_neg]
 intro b
 obtain ⟨j,a,e⟩:=List.getElem_of_mem b
 exact h j a e
theorem Hl {l:List Int} {x:Int}:ed l x<0↔x ∉ l:=by
 unfold ed
 split
 ·rename_i h;simp [h]
 ·rename_i h;simp [h]
theorem Bm {l:List Int} (x:Int) (h:l.length<=100000):-1<=ed l x/\ed l x<=100000:=by
 unfold ed
 split
 ·rename_i a;have:=List.idxOf_lt_length_of_mem a;omega
 ·omega
theorem qT {a w w':ai} {row:Option Nat} (h:ax a.heap.size a w) (k:w.grownBy w' row):a.grownBy w' row:=rQ h k
end Hb
namespace Go.Proofs.YtlikcjbjibhjgaaGreatDoor
open Go.RowKit Hb
theorem KE:(Tryz.prog.info? 2).map (fun i=>(i.zero,i.size,i.bytes))=some (some (ab ae 0),1,8):=by kernel_rfl
theorem se (A:Option Addr) (n cap:Nat) (l:List Int) (x:Int) (w:ai) (o:n=l.length) (D:n<=100000) (h:IntsAt w A l) :
  aJ ah 94 #[.slice A n cap,ab ae x] w fun e w'=>e=aw (ab ae (ed l x))/\w=w':=by
 have f:=zq o
 have q:=zq h
 clear h o
 go_enter Tryz.func94,Tryz.ntmps94
 go_wp2_with fail
 go_loop [5] (fun i=>∃k:Nat,k<=n/\i=ab ae k/\Hid (∀j (a:j<l.length),j<k->¬l[j]=x)) (fun i=>n-(intOf i).toNat)
 case atStart=>exact ⟨0,bp _,rfl,zq fun j _ a=>absurd a (by omega)⟩
 case round=>
  obtain ⟨k,B,rfl,b⟩:=hrel
  by_cases C:k<n
  ·have m:k<l.length:=by have:=f.out;omega
   obtain ⟨g,E,rfl,v,t⟩:=q.out k m
   have p:=zq (Kj m b.out)
   have r:Hid (¬l[k]=x->∀j (a:j<l.length),j<k+1->¬l[j]=x):=zq (fun s j a z=>by
    by_cases e:j=k
    ·subst e;exact s
    ·exact b.out j a (by omega))
   generalize l[k]=y at *
   by_cases d:y=x
   ·subst d
    have c:=zq (p.out rfl)
    go_wp2_with fail
    go_ret
    exact ⟨by show eA (ab ae _)=_;rw [c.out],rfl⟩
   ·have u:(y==x)=false:=by simpa using d
    go_wp2_with fail
    go_round
    case rel=>exact ⟨k+1,by omega,by go_num,zq (r.out d)⟩
    case measure=>simp [intOf];omega
  ·have c:=zq (Ki (l:=l) (x:=x) fun j a=>b.out j a (by have:=f.out;omega))
   go_wp2_with fail
   go_ret
   exact ⟨by show eA (ab ae _)=_;rw [c.out],rfl⟩
def OL (w0:ai) (t:Tm):Prop:=∀(A:Option Addr) (cap:Nat) (w:ai) (v:az) (a:List Int),ax w0.heap.size w0 w->TmsAt w0.heap.size w0 A t.args->OwnI 2 w0.heap.size w v a->a.length+t.nodes<=100000 ->
 aJ ah 68 #[v,er t A cap] w fun e w'=>∃v',e=aw v'/\OwnI 2 w0.heap.size w' v' (dJ t a)/\w.grownBy w' v.ownBlock/\AtB w v v'
theorem Jf {b:Array Oper} {rest:List Oper} {a:Act} {Q:Exit->Act->ai->Prop} {w:ai} {d t p f x g} (h:wpList ah b Q (⟨d,.call { callee:=.builtin .append,args:=x,argTypes:=#[132,132] },t,p,f,g⟩::rest) a w):wpList ah b Q (⟨d,.call { callee:=.builtin .append,args:=x,argTypes:=#[132,132] },t,p,f,g⟩::rest) a w:=h
theorem py {t:Tm} (h:t.args.length=0) (acc:List Int):dJ t acc=jK t acc:=by
 rw [lA,bL h];rfl
theorem sY {t:Tm} (h:¬t.kind=0) (acc:List Int):dJ t acc=t.args.foldl (fun acc a=>dJ a acc) acc:=by
 rw [lA];unfold jK;rw [if_neg (fun e=>h e.1)]
theorem vT (l:List Tm):∀b:List Int,(l.foldl (fun b a=>dJ a b) b).length<=b.length+pa l:=by
 induction l with
 | nil=>intro b;exact Nat.le_add_right _ _
 | cons a l ih=>
  intro b
  have c:=ih (dJ a b)
  have d:=(oF a b).2.1
  have e:pa (a::l)=a.nodes+pa l:=by unfold pa;rw [bE,ic]
  rw [dW,e];omega
theorem He (w0:ai) (t:Tm) (q:t.kind=0) (r:t.args.length=0):OL w0 t:=by
 intro A cap w v a C Y n a2
 have J:=zq (py r a)
 have S:=zq (fun (h:t.num∈a)=>(by unfold jK;rw [if_neg (fun e=>e.2 h)]:jK t a=a))
 have T:=zq (fun (h:¬t.num∈a)=>(by unfold jK;rw [if_pos ⟨q,h⟩]:jK t a=a++[t.num]))
 have I:=zq (Hl (l:=a) (x:=t.num))
 obtain ⟨f,g,rfl,K⟩:=n.ints
 have O:=zq (fun k (q:(ev f a.length g).ownBlock=some k)=>(n.low q).2)
 have c:=(aj w.heap.size w).alloc (ag _) (.cells #[ab ae t.kind,ab ae t.num,aa t.name,.slice A t.args.length cap] 25)
 have b:=zq (TBx.start w t A cap t.args.length 25 rfl)
 have m:=zq (n.below c)
 have y:=zq (se f a.length g a t.num _ rfl (by omega) (K.below c))
 have D:=C.trans (c.mono C.size)
 have a8:a.length<=100000:=by omega
 have j:=zq c
 unfold er
 rw [J.out,r]
 rw [r] at b c D y m j
 generalize jK t a=a6 at *
 have U:=b.out.c0
 have V:=b.out.c1
 have X:=b.out.c2
 have B:=b.out.c3
 have F:=b.out.lt
 rw [r] at B
 rw [q] at U c D y m j F V X B |-
 clear b J C Y n K a2
 go_enter Tryz.func68,Tryz.ntmps68
 go_wp2_with fail
 generalize w.alloc (.cells #[ab ae 0,ab ae t.num,aa t.name,.slice A 0 cap] 25)=W at *
 refine y.out.mono ?_;rintro e W' ⟨rfl,rfl⟩
 have a5:=D.size
 by_cases o:t.num∈a
 ·have G:¬ed a t.num<0:=fun e=>I.out.1 e o
  have a3:decide (ed a t.num<0)=false:=by simpa using G
  have z:=zq (S.out o)
  have a0:=c
  go_wp2_with fail
  go_loopw [0,5] (fun H i wr=>H=.slice f a.length g/\i=ab ae 0/\wr=W) (fun _ _ _=>0)
  case atStart=>exact ⟨rfl,rfl,rfl⟩
  case round=>
   obtain ⟨rfl,rfl,rfl⟩:=hrel
   go_wp2_with fail
   go_ret
   exact ⟨_,rfl,by rw [z.out];exact m.out,rQ a0 (ui _ _),.inl rfl⟩
 ·have G:ed a t.num<0:=I.out.2 o
  have a3:decide (ed a t.num<0)=true:=by simpa using G
  have z:=zq (T.out o)
  have d:=(aj W.heap.size W).alloc (ag _) (.cells #[ab ae t.num] 2)
  have Q:=zq (m.out.below d)
  have R:Hid (uL (W.alloc (.cells #[ab ae t.num] 2)) (some ⟨W.heap.size,0,none⟩) 1 1 1 [ab ae t.num]):=zq (.inr ⟨_,rfl,rfl,dv (dA W _)⟩)
  have a4:w0.heap.size<=(W.alloc (.cells #[ab ae t.num] 2)).heap.size:=aI a5 d.size
  go_wp2_with ((with_reducible refine Jf ?_);refine pt rfl _ _ 132 2 rfl Tryz.underlying132 _ 1 8 KE rfl (by decide) w0.heap.size _ _ _ rfl Q.out (some ⟨W.heap.size,0,none⟩) 1 1 [ab ae t.num] rfl R.out (by intro u N;rw [aG] at N;subst N;rfl) (by omega) (by omega) a4 ?_;intro v6 s M E L)
  have P:Hid (OwnI 2 w0.heap.size s v6 a6):=zq (by
   rw [z.out]
   unfold OwnI
   rw [List.length_append,bC]
   exact M)
  have a1:w.grownBy s (ev f a.length g).ownBlock:=qT j.out (qT d E)
  have Z:AtB w (.slice f a.length g) v6:=by
   rcases L with h | h
   ·exact .inl h
   ·exact .inr ⟨_,h,aI j.out.size d.size⟩
  have a7:s.cell? ⟨w.heap.size,3,none⟩=some (.slice A 0 cap):=by
   rw [uj E (k:=w.heap.size) 3 (aC F d.size) (fun e=>by have:=O.out _ e;omega),d.cell (p:=⟨w.heap.size,3,none⟩) F];exact B
  clear M E L
  go_loopw [0,5] (fun H i wr=>H=v6/\i=ab ae 0/\wr=s) (fun _ _ _=>0)
  case atStart=>exact ⟨rfl,rfl,rfl⟩
  case round=>
   obtain ⟨rfl,rfl,rfl⟩:=hrel
   go_wp2_with fail
   go_ret
   exact ⟨_,rfl,P.out,a1,Z⟩
theorem Kg (w0:ai):∀(t:Tm),t.allOk=true->OL w0 t:=by
 refine Tm.ind fun t R h=>?_
 by_cases f:t.kind=0
 ·refine He w0 t f ?_
  rw [Tm.allOk_eq,aF] at h
  have:=h.1
  unfold dH at this
  rw [if_pos f] at this
  simp at this
  exact eo.2 (by simpa using this.2)
 ·intro A cap w v c x z y P
  have Y:Hid (∀a∈t.args,OL w0 a):=zq (fun a M=>R a M (by
   rw [Tm.allOk_eq,aF] at h
   exact bh.1 h.2 a M))
  have a4:=zq (sY f c)
  have m:=(aj w.heap.size w).alloc (ag _) (.cells #[ab ae t.kind,ab ae t.num,aa t.name,.slice A t.args.length cap] 25)
  have D:=zq (TBx.start w t A cap t.args.length 25 rfl)
  have s:=zq (fun k (f:v.ownBlock=some k)=>y.low f)
  have a2:=zq (y.below m)
  have l:=zq (x.trans (m.mono x.size))
  have B:=zq m
  have HT:=zq z
  have hm:=z.len
  unfold be at hm
  have Z:=zq P
  have a0:Hid (t.nodes=1+pa t.args):=zq (Tm.nodes_eq t)
  have b1:(t.kind==0)=false:=by simpa using f
  clear R h x z y P m
  unfold er
  rw [a4.out]
  generalize K:t.args.length=LN at *
  have r:=zq K
  have a8:=D.out.lt
  clear K
  go_enter Tryz.func68,Tryz.ntmps68
  go_wp2_with fail
  generalize w.alloc (.cells #[ab ae t.kind,ab ae t.num,aa t.name,.slice A LN cap] 25)=W at *
  go_loopw [0,5] (fun S i wr=>∃k:Nat,k<=LN/\i=ab ae k/\Hid (OwnI 2 w0.heap.size wr S ((t.args.take k).foldl (fun c a=>dJ a c) c))/\Hid (W.grownBy wr v.ownBlock)/\Hid (AtB W v S)) (fun _ i _=>LN-(intOf i).toNat)
  case atStart=>exact ⟨0,bp _,rfl,a2,zq (ui _ _),zq (.inl rfl)⟩
  case round=>
   obtain ⟨k,b2,rfl,u,d,o⟩:=hrel
   have b3:wr.cell? ⟨w.heap.size,3,none⟩=some (.slice A LN cap):=by
    rw [uj d.out (k:=w.heap.size) 3 a8 (fun e=>by have:=(s.out _ e).2;omega)]
    have:=D.out.c3
    rw [r.out] at this
    exact this
   by_cases b4:k<LN
   ·have n:k<t.args.length:=by have:=r.out;omega
    obtain ⟨b,b5,T,a5,rfl,N,E,F,G,H,Q⟩:=HT.out.get k n
    have g:∀j,wr.cell? ⟨b,j,none⟩=w0.cell? ⟨b,j,none⟩:=fun j=>by
     rw [uj d.out (k:=b) j (aC N l.out.size) (fun e=>by have:=(s.out _ e).1;omega)]
     exact l.out.cell (p:=⟨b,j,none⟩) N
    have d0:=(g _).trans E
    have d1:=(g _).trans F
    have d2:=(g _).trans G
    have d3:=(g _).trans H
    have O:ax w0.heap.size w0 wr:=l.out.grown d.out l.out.size (fun j hj=>(s.out _ hj).1)
    have a6:=vT (t.args.take k) c
    have a9:=vw t.args k n
    have b0:=CH t.args (k+1)
    have C:=zq (Y.out t.args[k] (aR n) T a5 wr u0 _ O Q u.out (by have:=Z.out;have:=a0.out;omega))
    have V:Hid ((t.args.take (k+1)).foldl (fun c a=>dJ a c) c=dJ t.args[k] ((t.args.take k).foldl (fun c a=>dJ a c) c)):=zq (by rw [aO n,eL];rfl)
    have k0:(0:Int)<=(k:Int):=by omega
    have k1:(k:Int)<(LN:Int):=by omega
    clear g E F G H Q O a6 a9 b0
    unfold er at C
    generalize t.args[k]=a at *
    go_wp2_with fail
    refine C.out.mono ?_;rintro e w6 ⟨v6,rfl,L,J,I⟩
    have a1:=zq L
    have X:=zq (IB d.out o.out J)
    have U:=zq (o.out.trans I d.out.size)
    clear L J I d0 d1 d2 d3 b3
    go_wp2_with fail
    go_roundw
    case rel=>exact ⟨k+1,by omega,by go_num,zq (by rw [V.out];exact a1.out),X,U⟩
    case measure=>simp [intOf] <;> omega
   ·have a7:k=LN:=by omega
    subst a7
    have a3:Hid (t.args.take k=t.args):=zq (List.take_of_length_le (by have:=r.out;omega))
    rw [a3.out] at u
    go_wp2_with fail
    go_ret
    exact ⟨_,rfl,u.out,rQ B.out d.out,o.out.imp id fun ⟨q,h1,h2⟩=>⟨q,h1,aI B.out.size h2⟩⟩
end Go.Proofs.YtlikcjbjibhjgaaGreatDoor
namespace Hb
open Go Go.RowKit
theorem R4.put4 {w0 w:ai} {g:Nat} (h:R4 w0 w g) (x y z u:az):R4 w0 ((((w.setCell ⟨g,0,none⟩ x).setCell ⟨g,1,none⟩ y).setCell ⟨g,2,none⟩ z).setCell ⟨g,3,none⟩ u) g:=by
 obtain ⟨u0,f⟩:=h.r0
 obtain ⟨u1,i⟩:=h.r1
 obtain ⟨u2,j⟩:=h.r2
 obtain ⟨u3,k⟩:=h.r3
 obtain ⟨a,b,c,d,e⟩:=pD w g x y z u f i j k _ rfl
 exact ⟨h.put x y z u,h.le,by rw [eD];exact h.lt,⟨_,a⟩,⟨_,b⟩,⟨_,c⟩,⟨_,d⟩,fun o=>(e _).trans (h.fr o)⟩
structure CnH (w X:ai) (t:Tm) (A:Option Addr) (cap:Nat):Prop where
 r:R4 w X (w.heap.size+1)
 b:TBoxT w X t A cap
theorem CnH.call {w X a:ai} {t:Tm} {A:Option Addr} {cap:Nat} (h:CnH w X t A cap) (c:ax X.heap.size X a):CnH w a t A cap:=⟨h.r.call c,h.b.call c⟩
theorem CnH.drew {w X:ai} {t:Tm} {A:Option Addr} {cap:Nat} (h:CnH w X t A cap):CnH w X.drew t A cap:=h.call (aj _ _).drew
theorem CnH.put4 {w X:ai} {t:Tm} {A:Option Addr} {cap:Nat} (h:CnH w X t A cap) (x y z u:az):CnH w ((((X.setCell ⟨w.heap.size+1,0,none⟩ x).setCell ⟨w.heap.size+1,1,none⟩ y).setCell ⟨w.heap.size+1,2,none⟩ z).setCell ⟨w.heap.size+1,3,none⟩ u) t A cap:=by
 have c:=h.r.put4 x y z u
 have a:∀j,((((X.setCell ⟨w.heap.size+1,0,none⟩ x).setCell ⟨w.heap.size+1,1,none⟩ y).setCell ⟨w.heap.size+1,2,none⟩ z).setCell ⟨w.heap.size+1,3,none⟩ u).cell? ⟨w.heap.size,j,none⟩=X.cell? ⟨w.heap.size,j,none⟩:=fun j=>bG (bR X (w.heap.size+1) x y z u w.heap.size (by omega))
 exact ⟨c,⟨c.bel,by rw [eD];exact h.b.lt,(a 0).trans h.b.c0,(a 1).trans h.b.c1,(a 2).trans h.b.c2,(a 3).trans h.b.c3⟩⟩
end Hb
namespace Go.Proofs.YtlikcjbjibhjgaaGreatDoor
open Go.RowKit Hb
theorem Bg (l:List Int) (m:l.length<=100000) (D:Option Addr) (n:Nat) (t:Tm) (d:t.kind=0) (g:t.args.length=0) (A:Option Addr) (cap:Nat) (w:ai) (k:IntsAt w D l) :
  aJ ah 67 #[.slice D l.length n,er t A cap] w fun e w'=>∃A' cap',e=aw (er (fX (ed l) t) A' cap')/\ax w.heap.size w w'/\kk w w' A' (fX (ed l) t).args:=by
 have h:Hid (fX (ed l) t=.mk 0 (ed l t.num) t.name []):=zq (by rw [jy,if_pos d,d,bL g];rfl)
 have j:∀a b c,ax w.heap.size w (((w.alloc a).alloc b).alloc c):=fun a b c=>(((aj _ _).alloc (ag _) _).alloc (by simp) _).alloc (by simp;omega) _
 have p:=zq (fun a b c=>se D l.length n l t.num (((w.alloc a).alloc b).alloc c) rfl m (k.below (j a b c)))
 obtain ⟨s,u⟩:=Bm t.num m
 unfold er
 rw [h.out,d,g]
 show aJ _ _ _ _ (fun e w'=>∃A' cap',e=aw (aN #[ab ae 0,ab ae (ed l t.num),aa t.name,.slice A' 0 cap'])/\ax w.heap.size w w'/\kk w w' A' [])
 clear h
 generalize ed l t.num=o at *
 generalize t.num=q at *
 generalize t.name=f at *
 clear d g k
 go_enter Tryz.func67,Tryz.ntmps67
 go_wp2_with fail
 refine (p.out _ _ _).mono ?_;rintro e r ⟨rfl,rfl⟩
 go_wp2_with fail
 go_loopw [6] (fun i wr=>i=ab ae 0/\wr=(((w.alloc (.cells #[ab ae 0,ab ae q,aa f,.slice A 0 cap] 25)).alloc (.cells #[ab ae 0,ab ae 0,aa ⟨#[]⟩,.slice none 0 0] 25)).alloc (.cells #[ab ae 0,ab ae o,aa f,.slice none 0 0] 25))) (fun _ _=>0)
 case atStart=>exact ⟨rfl,rfl⟩
 case round=>
  obtain ⟨rfl,rfl⟩:=hrel
  go_wp2_with fail
  exact ay (v:=aN #[ab ae 0,ab ae o,aa f,.slice none 0 0]) (by simp [results,Tryz.results67,go_sem]) rfl ⟨none,0,rfl,j _ _ _,TmsK.nil⟩
theorem EI (l:List Int) (b7:l.length<=100000) (D:Option Addr) (N:Nat):∀(t:Tm) (A:Option Addr) (cap:Nat) (w:ai),IntsAt w D l->TmsAt w.heap.size w A t.args->t.allOk=true ->
    aJ ah 67 #[.slice D l.length N,er t A cap] w fun e w'=>∃o r,e=aw (er (fX (ed l) t) o r)/\ax w.heap.size w w'/\kk w w' o (fX (ed l) t).args:=by
  refine Tm.ind fun t ih=>?_
  intro A cap w K V p
  by_cases s:t.kind=0
  · exact Bg l b7 D N t s (by
      rw [Tm.allOk_eq,aF] at p
      have:=p.1
      unfold dH at this
      rw [if_pos s] at this
      simp at this
      exact eo.2 (by simpa using this.2)) A cap w K
  have a4:=zq K
  have c8:(t.kind==0)=false:=by simpa using s
  have R:Hid (fX (ed l) t=.mk t.kind t.num t.name (t.args.map (fX (ed l)))):=zq (by rw [jy,if_neg s])
  rw [R.out]
  show aJ _ _ _ _ (fun e w'=>∃o r,e=aw (aN #[ab ae t.kind,ab ae t.num,aa t.name,.slice o (t.args.map (fX (ed l))).length r])/\ax w.heap.size w w'/\kk w w' o (t.args.map (fX (ed l))))
  rw [bm]
  clear K R s
  obtain ⟨i,W,a0,a1,a2⟩:=info_parts yb
  have HI:=zq W
  have b1:=zq a0
  have b2:=zq a1
  have b4:=zq a2
  clear W a0 a1 a2
  have HT:=zq V
  have hm:t.args.length<=8:=by
    rw [Tm.allOk_eq,aF] at p
    have:=p.1
    unfold dH at this
    grind
  have a7:Hid (∀a∈t.args,a.allOk=true):=zq (by
    rw [Tm.allOk_eq,aF,bh] at p
    exact p.2)
  have a5:=zq ih
  clear V ih p
  obtain ⟨L,q⟩:=lz (t.args.length)
  have a9:=zq (CpH.start w t A cap L 25 q.out)
  unfold er at *
  rw [<-q.out] at hm |-
  go_enter Tryz.func67,Tryz.ntmps67
  go_wp2_with fail
  go_loopw [6] (fun i wr=>∃k:Nat,∃v:az,∃rs:List TR,k<=L/\i=ab ae k/\Hid (CpH w wr 25 t A cap v rs)/\Hid (rs.map (·.1)=(t.args.take k).map (fX (ed l)))) (fun i _=>L-(intOf i).toNat)
  case atStart=>exact ⟨0,_,[],bp _,rfl,a9,zq (by simp)⟩
  case round=>
    obtain ⟨k,v,rs,hk,rfl,c,z⟩:=hrel
    have b3:=c.out.b3
    rw [<-q.out] at b3
    by_cases d0:k<L
    · have F:k<t.args.length:=by have:=q.out;omega
      obtain ⟨b,c4,o,r,rfl,f,c0,c1,g,S,Z⟩:=(HT.out.keep c.out.bel).get k F
      have C:=c.out.drew
      have O:=zq (a5.out t.args[k] (aR F) o r wr.drew ((a4.out.below c.out.bel).below (aj _ wr).drew) ((Z.keep (aj _ wr).drew).mono c.out.bel.size) (a7.out _ (aR F)))
      have H:Hid (aJ ah 67 #[.slice D l.length N,aN #[ab ae t.args[k].kind,ab ae t.args[k].num,aa t.args[k].name,.slice o t.args[k].args.length r]] wr.drew fun e w'=>∃d g,e=aw (aN #[ab ae (fX (ed l) t.args[k]).kind,ab ae (fX (ed l) t.args[k]).num,aa (fX (ed l) t.args[k]).name,.slice d (fX (ed l) t.args[k]).args.length g])/\CpH w w' 25 t (some ⟨b,c4,none⟩) cap v rs/\TmsK (fun b=>w.heap.size+3<=b/\b<w'.heap.size/\v.ownBlock≠some b) w' d (fX (ed l) t.args[k]).args) :=
        zq (O.out.mono fun e w' hh=>by
          obtain ⟨d,g,y,hB,M⟩:=hh
          refine ⟨d,g,y,C.call hB,M.keep (fun _ _=>rfl) fun b f=>⟨aI C.lt f.1,f.2,fun ee=>?_⟩⟩
          have:=(C.own.own.lt b ee).2
          have h1:=f.1
          omega)
      have G:rs.length=k:=by
        have:=congrArg hJ z.out
        rw [bm,bm,bM] at this;omega
      have I:Hid ((rs++[((fX (ed l) t.args[k],none,0):TR)]).map (fun x:TR=>x.1)=(t.args.take (k+1)).map (fX (ed l))):=zq (by
        rw [bC,z.out,aO F,bC];simp)
      have c7:=c.out.c3
      have c9:=c.out.cf 3
      have s:(0:Int)<=(k:Int):=by omega
      have c6:(k:Int)<(L:Int):=by omega
      clear Z O
      obtain ⟨x,b0⟩:=lz (t.args[k])
      rw [<-b0.out] at H I c0 c1 g S
      obtain ⟨a,a3⟩:=lz (fX (ed l) x)
      rw [<-a3.out] at H I
      go_wp2_with fail
      go_region_law (first
        | (go_simp;go_at_call 67;(with_reducible refine H.out.mono ?_);rintro e n ⟨d,m,rfl,B,U⟩;have k3:=B.c3;have kf:=B.cf 3;have h:=B.call ((aj _ _).alloc (ag _) (.cells #[ab ae a.kind,ab ae a.num,aa a.name,.slice d a.args.length m] 25));have k5:=h.c3;have b9:=h.cf 3)
        | go_must (have q1:rs.length+1<=be:=by unfold be;omega
                   have q2:(rs.length+1) * 56<=140737488355328:=by omega
                   have q3:w.heap.size+3<=(n.alloc (.cells #[ab ae a.kind,ab ae a.num,aa a.name,.slice d a.args.length m] 25)).heap.size:=h.lt
                   have q4:∀j u,(iW (a,d,m))[j]? = some u->(n.alloc (.cells #[ab ae a.kind,ab ae a.num,aa a.name,.slice d a.args.length m] 25)).cell? ((⟨n.heap.size,0,none⟩:Addr).add j)=some u:=dv (dA n _)
                   have q5:(n.alloc (.cells #[ab ae a.kind,ab ae a.num,aa a.name,.slice d a.args.length m] 25)).heap.size=n.heap.size+1:=by simp
                   refine step_append_lies _ (by rfl) _ _ 23 (by rfl) (w.heap.size+3) 25 i _ 4 56 Tryz.underlying23 HI.out b1.out b2.out b4.out (by rfl) (by decide) v rs.length (eB rs) (by rfl) h.own.own ⟨n.heap.size,0,none⟩ 1 1 (iW (a,d,m)) (by rfl) (by rfl) q4 (ql _) (by decide) q1 q2 q3 (n.heap.size+1) q5 ?_;intro g2 c5 w3 X E b5 d1;clear q1 q2 q3 q4 q5;have k4:=(h.far E (w.heap.size+2) 3 (by omega)).1.trans h.c3;have b8:=(h.far E (w.heap.size+2) 3 (by omega)).2.trans (h.cf 3))
        | fail)
      all_goals
        have P:=zq (h.app (a,d,m) (U.keep (fun b f=>heap_alloc_old n _ f.2.1) fun b f=>⟨f.1,by simp;omega,f.2.2⟩) X E (by
          rcases b5 with J | J
          · exact .inl J.symm
          · exact .inr (by rw [J];simp [Value.ownBlock])))
        rw [G] at P
        have a8:Hid ((rs++[((a,d,m):TR)]).map (fun x:TR=>x.1)=(t.args.take (k+1)).map (fX (ed l))):=zq (by rw [<-I.out];simp)
        clear k3 kf k4 b8 k5 b9 B U h X E C
        go_wp2_with fail
        go_roundw
        case rel=>exact ⟨k+1,_,rs++[(a,d,m)],by omega,by go_num,P,a8⟩
        case measure=>simp [intOf] <;> omega
    · have b6:k=L:=by omega
      subst b6
      obtain ⟨d,g,rfl,M⟩:=c.out.own.tms
      have G:rs.length=k:=by
        have:=congrArg hJ z.out
        rw [bm,bm,bM,<-q.out] at this;omega
      have Y:rs.map (fun x:TR=>x.1)=t.args.map (fX (ed l)):=by rw [z.out,q.out,List.take_length]
      rw [G] at c
      have k0:=c.out.c0
      have k1:=c.out.c1
      have k2:=c.out.c2
      have k3:=c.out.c3
      obtain ⟨v0,r0⟩:=c.out.r0
      obtain ⟨v1,r1⟩:=c.out.r1
      obtain ⟨v2,r2⟩:=c.out.r2
      obtain ⟨v3,r3⟩:=c.out.r3
      have f0:=c.out.rf 0
      have f1:=c.out.rf 1
      have f2:=c.out.rf 2
      have f3:=c.out.rf 3
      have Q:=zq (c.out.put (ab ae t.kind) (ab ae t.num) (aa t.name) (.slice d k g))
      have a6:Hid (kk w ((((wr.setCell ⟨w.heap.size+1,0,none⟩ (ab ae t.kind)).setCell ⟨w.heap.size+1,1,none⟩ (ab ae t.num)).setCell ⟨w.heap.size+1,2,none⟩ (aa t.name)).setCell ⟨w.heap.size+1,3,none⟩ (.slice d k g)) d (t.args.map (fX (ed l)))):=zq (by
        obtain ⟨A3,S,y,T⟩:=Q.out.2.tms
        rw [Y] at T
        injection y with y _ _
        subst y
        exact T.keep (fun _ _=>rfl) fun b f=>⟨by have:=f.1;omega,f.2⟩)
      clear M Y G
      go_wp2_with fail
      exact ay (v:=aN #[ab ae t.kind,ab ae t.num,aa t.name,.slice d k g]) (by simp [results,Tryz.results67,go_sem,r0,r1,r2,r3]) rfl ⟨d,g,rfl,Q.out.1,a6.out⟩
theorem EE (t:Tm) (A:Option Addr) (cap:Nat) (w:ai) (j:TmsAt w.heap.size w A t.args) :
  aJ ah 40 #[er t A cap] w fun e w'=>∃A' cap',e=aw (er (gy t) A' cap')/\ax w.heap.size w w'/\kk w w' A' (gy t).args:=by
 have p:=R4.start (w0:=w) (w:=w.alloc (.cells #[ab ae t.kind,ab ae t.num,aa t.name,.slice A t.args.length cap] 25)) ((aj _ _).alloc (ag _) _) (ab ae 0) (ab ae 0) (aa ⟨#[]⟩) (.slice none 0 0) 25
 have J:(w.alloc (.cells #[ab ae t.kind,ab ae t.num,aa t.name,.slice A t.args.length cap] 25)).heap.size=w.heap.size+1:=by simp
 rw [J] at p
 have g:=zq p
 have o:Hid (TBoxT w ((w.alloc (.cells #[ab ae t.kind,ab ae t.num,aa t.name,.slice A t.args.length cap] 25)).alloc (.cells #[ab ae 0,ab ae 0,aa ⟨#[]⟩,.slice none 0 0] 25)) t A cap) :=
  zq ((TBoxT.start w t A cap 25).call ((aj _ _).alloc (ag _) _))
 have f:=zq (fun (W:ai) (h:R4 w W (w.heap.size+1))=>pC t A cap W ((j.keep h.bel).mono h.bel.size))
 cases hv:cd t
 ·have k:=zq (show gy t=tm0 by unfold gy;rw [hv];rfl)
  rw [hv] at f
  clear hv o j
  rw [k.out]
  unfold er at *
  generalize t.kind=a0 at *
  generalize t.num=F at *
  generalize t.name=G at *
  generalize t.args.length=H at *
  go_enter Tryz.func40,Tryz.ntmps40
  go_wp2_with fail
  refine (f.out _ g.out).mono ?_;rintro e w1 ⟨rfl,i⟩
  have c:=g.out.call i
  obtain ⟨v0,y⟩:=c.r0
  obtain ⟨v1,z⟩:=c.r1
  obtain ⟨v2,B⟩:=c.r2
  obtain ⟨v3,C⟩:=c.r3
  have S:=c.fr 0
  have T:=c.fr 1
  have U:=c.fr 2
  have V:=c.fr 3
  have b2:=c.put (ab ae 0) (ab ae 0) (aa ⟨#[]⟩) (.slice none 0 0)
  go_wp2_with fail
  exact ay (v:=aN #[ab ae 0,ab ae 0,aa ⟨#[]⟩,.slice none 0 0]) (by simp [results,Tryz.results40,go_sem,y,z,B,C]) rfl ⟨none,0,rfl,b2,TmsK.nil⟩
 ·obtain ⟨b1,s⟩:=(iA t).1 hv
  have k:=zq (show gy t=fX (ed (dJ t [])) t by unfold gy;rw [hv];rfl)
  have L:=(oF t []).2.1
  rw [hv] at f
  rw [k.out]
  have R:=zq (fun (W:ai) (h:CnH w W t A cap)=>(Kg W t s A cap W (.slice none 0 0) [] (aj _ _) ((j.keep h.r.bel).mono h.r.bel.size) (OwnI.nil _ _ _) (by simp;omega)).mono (R':=fun e w'=>∃v',e=aw v'/\ax W.heap.size W w'/\OwnI 2 W.heap.size w' v' (dJ t [])) fun _ _ ⟨v',he,hO,hg,_⟩=>⟨v',he,Cd hg,hO⟩)
  have E:=zq (fun (W:ai) (h:CnH w W t A cap) (D:Option Addr) (x:Nat) (Z:IntsAt W D (dJ t []))=>EI (dJ t []) (by simp at L;omega) D x t A cap W Z ((j.keep h.r.bel).mono h.r.bel.size) s)
  obtain ⟨u,K⟩:∃u,u=fX (ed (dJ t [])) t:=⟨_,rfl⟩
  rw [<-K] at E |-
  have N:=zq (fun W (h:R4 w W (w.heap.size+1)) (X:TBoxT w W t A cap)=>(⟨h,X⟩:CnH w W t A cap))
  have l:Hid (∀w',CnH w w' t A cap->w'.cell? ⟨w.heap.size,0,none⟩=some (ab ae t.kind)/\w'.cell? ⟨w.heap.size,1,none⟩=some (ab ae t.num)/\w'.cell? ⟨w.heap.size,2,none⟩=some (aa t.name)/\w'.cell? ⟨w.heap.size,3,none⟩=some (.slice A t.args.length cap)/\CnH w w' t A cap):=zq (fun w' h=>⟨h.b.c0,h.b.c1,h.b.c2,h.b.c3,h⟩)
  have m:Hid (∀w',(w'.cell? ⟨w.heap.size,0,none⟩=some (ab ae t.kind)/\w'.cell? ⟨w.heap.size,1,none⟩=some (ab ae t.num)/\w'.cell? ⟨w.heap.size,2,none⟩=some (aa t.name)/\w'.cell? ⟨w.heap.size,3,none⟩=some (.slice A t.args.length cap)/\CnH w w' t A cap)->CnH w w' t A cap):=zq (fun w' h=>h.2.2.2.2)
  clear hv j p J K L s b1 k
  generalize dJ t []=vl at *
  unfold er at *
  generalize a5:t.kind=a0 at *
  generalize a6:t.num=F at *
  generalize a7:t.name=G at *
  generalize a8:t.args.length=H at *
  clear a5 a6 a7 a8
  go_enter Tryz.func40,Tryz.ntmps40
  go_wp2_with fail
  refine (f.out _ g.out).mono ?_;rintro e w1 ⟨rfl,i⟩
  have Q:=zq (CnH.drew (N.out _ (g.out.call i) (o.out.call i)))
  clear g o i f
  go_wp2_with fail
  go_region_held3 (fun w'=>w'.cell? ⟨w.heap.size,0,none⟩=some (ab ae a0)/\w'.cell? ⟨w.heap.size,1,none⟩=some (ab ae F)/\w'.cell? ⟨w.heap.size,2,none⟩=some (aa G)/\w'.cell? ⟨w.heap.size,3,none⟩=some (.slice A H cap)/\CnH w w' t A cap)
   (first
    | with_reducible exact l.out _ Q.out
    | with_reducible exact l.out _ (CnH.call (m.out _ (by with_reducible assumption)) (by with_reducible assumption))
    | with_reducible exact l.out _ a
    | with_reducible exact l.out _ (CnH.put4 (m.out _ (by with_reducible assumption)) _ _ _ _))
   (first
    | (go_at_call 68;(with_reducible refine (R.out _ (m.out _ (by with_reducible assumption))).mono ?_);rintro e w4 ⟨v4,rfl,b3,b0⟩;obtain ⟨D,x,rfl,a4⟩:=b0.ints)
    | (go_at_call 67;have q:=m.out w4 (by with_reducible assumption);(with_reducible refine (E.out _ q D x a4).mono ?_);rintro e M ⟨d,n,rfl,Y,a9⟩;have a:=q.call Y;have b4:=q.r.lt;obtain ⟨u0,y⟩:=a.r.r0;obtain ⟨u1,z⟩:=a.r.r1;obtain ⟨u2,B⟩:=a.r.r2;obtain ⟨u3,C⟩:=a.r.r3;have S:=a.r.fr 0;have T:=a.r.fr 1;have U:=a.r.fr 2;have V:=a.r.fr 3)
    | fail)
  have P:=zq (a.r.put (ab ae u.kind) (ab ae u.num) (aa u.name) (.slice d u.args.length n))
  have O:Hid (kk w ((((M.setCell ⟨w.heap.size+1,0,none⟩ (ab ae u.kind)).setCell ⟨w.heap.size+1,1,none⟩ (ab ae u.num)).setCell ⟨w.heap.size+1,2,none⟩ (aa u.name)).setCell ⟨w.heap.size+1,3,none⟩ (.slice d u.args.length n)) d u.args) :=
   zq (TmsK.keep a9 (fun b I=>bR M (w.heap.size+1) _ _ _ _ b (by omega)) (fun b I=>⟨by omega,by rw [eD];exact I.2⟩))
  go_wp2_with fail
  exact ay (v:=aN #[ab ae u.kind,ab ae u.num,aa u.name,.slice d u.args.length n]) (by simp [results,Tryz.results40,go_sem,y,z,B,C]) rfl ⟨d,n,rfl,P.out,O.out⟩
end Go.Proofs.YtlikcjbjibhjgaaGreatDoor
namespace Hb
open Go Go.RowKit
theorem ru {f g:Int->Int}:∀t:Tm,Tm.All (fun x=>x.kind=0->f x.num=g x.num) t->fX f t=fX g t:=Tm.ind fun t e h=>by
 rw [jy f,jy g]
 have d:(if t.kind=0 then f t.num else t.num)=(if t.kind=0 then g t.num else t.num):=by
  by_cases c:t.kind=0
  ·rw [if_pos c,if_pos c,h.here c]
  ·rw [if_neg c,if_neg c]
 rw [d,List.map_congr_left fun a b=>e a b (h.sub a b)]
theorem FR (t:Tm) (a:List Int):∃l,jK t a=a++l:=by
 unfold jK
 split
 ·exact ⟨_,rfl⟩
 ·exact ⟨[],by simp⟩
theorem DP:∀(t:Tm) (b:List Int),∃l,dJ t b=b++l:=by
 refine Tm.ind fun t k=>?_
 intro b
 have n:∀(l:List Tm),(∀a∈l,a∈t.args)->∀c:List Int,∃m,l.foldl (fun b a=>dJ a b) c=c++m:=by
  intro l
  induction l with
  | nil=>intro _ c;exact ⟨[],by simp⟩
  | cons a l ihl=>
   intro i c
   obtain ⟨f,d⟩:=k a (i a (aV ..)) c
   obtain ⟨g,e⟩:=ihl (fun x j=>i x (aW _ j)) (dJ a c)
   exact ⟨f++g,by rw [dW,e,d,bj]⟩
 obtain ⟨f,d⟩:=FR t b
 obtain ⟨g,e⟩:=n t.args (fun _ h=>h) (jK t b)
 exact ⟨f++g,by rw [lA,e,d,bj]⟩
theorem zl {a l:List Int} {x:Int} (h:x∈a):ed (a++l) x=ed a x:=by
 unfold ed
 rw [if_pos h,if_pos (dU _ h),List.idxOf_append,if_pos h]
theorem zm {a:List Int} {x:Int} (h:x ∉ a):ed (a++[x]) x=a.length:=by
 unfold ed
 rw [if_pos (by simp),List.idxOf_append,if_neg h]
 simp
def lj (l:List Tm) (b:List Int):List Int:=l.foldl (fun b a=>dJ a b) b
theorem wH (l:List Tm) (a:Tm) (b:List Int):lj (l++[a]) b=dJ a (lj l b):=by unfold lj;rw [eL];rfl
theorem Ka:∀(l:List Tm) (d m:List Int),l.map (fX (ed (lj l d++m)))=l.map (fX (ed (lj l d))):=by
 intro l d m
 have i:∀(l:List Tm) (d:List Int),(∀n∈d,n∈lj l d)/\∀a∈l,Tm.All (fun x=>x.kind=0->x.num∈lj l d) a:=by
  intro l
  induction l with
  | nil=>intro d;exact ⟨fun n f=>f,fun a e=>by cases e⟩
  | cons b l ih=>
   intro d
   obtain ⟨g,j⟩:=ih (dJ b d)
   obtain ⟨o,_,p⟩:=oF b d
   refine ⟨fun n f=>g n (o n f),fun a e=>?_⟩
   rcases bg.1 e with rfl | e
   ·exact Tm.All.imp (fun x k c=>g _ (k c)) _ p
   ·exact j a e
 exact List.map_congr_left fun a e=>ru a (Tm.All.imp (fun _ h c=>zl (h c)) a ((i l d).2 a e))
theorem GL (l:List Tm) (a:Tm) (b:List Int):(l++[a]).map (fX (ed (lj (l++[a]) b)))=l.map (fX (ed (lj l b)))++[fX (ed (dJ a (lj l b))) a]:=by
 rw [wH,bC]
 obtain ⟨m,c⟩:=DP a (lj l b)
 have:=Ka l b m
 rw [<-c] at this
 rw [this];rfl
def BV (x:Int):Lit:=.int .i64 x
theorem Dl {x y:Int} (h:x≠y):BV x≠BV y:=fun e=>h (by injection e)
structure MapIs (P:dz) (k e:bD) (w:ai) (b:Nat) (acc:List Int) (n:Nat) (D:DataW Unit):Prop where
 own:w.ownsMap P k (plainElem P e) b n D
 few:n<=acc.length
 has:∀x,Maps.has D (BV x)=decide (x∈acc)
 at_:∀x z,x∈acc->D.atKey (BV x) z=.lit (.int .i64 (ed acc x))
 size:Maps.size D=acc.length
theorem MapIs.start (w:ai) (P:dz) (k e:bD):MapIs P k e (w.alloc (.map #[] 0)) w.heap.size [] 0 (.map []) where
 own:=World.ownsMap_made w P k _
 few:=ag _
 has:=fun x=>by rw [Maps.has_eq];simp
 at_:=fun x _ h=>by cases h
 size:=rfl
theorem MapIs.put {P:dz} {k e:bD} (K:Maps.Keyed P k) {w w':ai} {b:Nat} {acc:List Int} {n:Nat} {D:DataW Unit} (h:MapIs P k e w b acc n D) {x:Int} (g:x ∉ acc) (i:w'.ownsMap P k (plainElem P e) b (n+1) (D.put (BV x) (.lit (.int .i64 acc.length)))) (d:WideAt.IsKeyLit (BV x)) :
  MapIs P k e w' b (acc++[x]) (n+1) (D.put (BV x) (.lit (.int .i64 acc.length))) where
 own:=i
 few:=by have:=h.few;simp;omega
 has:=fun y=>by
  by_cases c:y=x
  ·subst c;rw [Maps.has_put_same h.own.isMap d];simp
  ·rw [Maps.has_put_other (Dl c),h.has];simp [c]
 at_:=fun y z j=>by
  by_cases c:y=x
  ·subst c;rw [Maps.atKey_put_same h.own.isMap d,zm g]
  ·have f:y∈acc:=by
    rcases List.mem_append.1 j with a | a
    ·exact a
    ·exact absurd (aG.1 a) c
   rw [Maps.atKey_put_other (Dl c),h.at_ y z f,zl f]
 size:=by rw [Maps.size_put (h.own.tidy K),h.has,decide_eq_false g,h.size];simp
theorem MapIs.kept {P:dz} {k e:bD} {w w':ai} {b:Nat} {a:List Int} {n:Nat} {D:DataW Unit} (h:MapIs P k e w b a n D) {row:Option Nat} (c:w.grownBy w' row) (d:some b≠row):MapIs P k e w' b a n D:=⟨h.own.kept c d,h.few,h.has,h.at_,h.size⟩
structure Bx (mb B:Nat) (w w':ai):Prop where
 os:w'.os=w.os
 tape:w'.tape=w.tape
 output:w'.output=w.output
 size:w.heap.size<=w'.heap.size
 block:∀k,k<B->k≠mb->w'.heap[k]? = w.heap[k]?
section
variable {mb B B':Nat} {a w w':ai}
theorem Bx.of (h:ax B w w'):Bx mb B w w':=⟨h.os,h.tape,h.output,h.size,fun k a _=>h.block k a⟩
theorem Bx.refl (mb B:Nat) (w:ai):Bx mb B w w:=Bx.of (aj B w)
theorem Bx.trans (h:Bx mb B a w) (k:Bx mb B w w'):Bx mb B a w':=⟨k.os.trans h.os,k.tape.trans h.tape,k.output.trans h.output,aI h.size k.size,fun i b c=>(k.block i b c).trans (h.block i b c)⟩
theorem Bx.mono (h:Bx mb B w w') (a:B'<=B):Bx mb B' w w':=⟨h.os,h.tape,h.output,h.size,fun k b=>h.block k (aC b a)⟩
theorem Bx.grown {row:Option Nat} (h:Bx mb B a w) (b:w.grownBy w' row) (d:B<=w.heap.size) (c:∀k,row=some k->B<=k\/k=mb):Bx mb B a w' :=
 h.trans ⟨b.os,b.tape,b.output,b.size,fun k f g=>b.block k (by omega) (fun e=>by have:=c k e.symm;omega)⟩
theorem Bx.setCell (h:Bx mb B a w) {p:Addr} (b:B<=p.block) (v:az):Bx mb B a (w.setCell p v) :=
 h.trans (Bx.of ((aj B w).setCell b v))
theorem Bx.cell (h:Bx mb B w w') {p:Addr} (b:p.block<B) (a:p.block≠mb):w'.cell? p=w.cell? p:=bG (w:=w) (h.block p.block b a)
theorem Bx.frozen (h:Bx mb B w w') {p:Addr} (b:p.block<B) (a:p.block≠mb):w'.frozen? p=w.frozen? p:=World.frozen?_of_block (w:=w) (h.block p.block b a)
theorem Bx.new (h:Bx mb B w w') (b:B<=mb):ax B w w':=⟨h.os,h.tape,h.output,h.size,fun k a=>h.block k a (by omega)⟩
end
structure CpX (mb:Nat) (w0 w:ai) (e:bD) (t:Tm) (A:Option Addr) (cap:Nat) (v:az) (rs:List TR):Prop where
 bel:Bx mb w0.heap.size w0 w
 mlt:mb<w0.heap.size
 lt:w0.heap.size+3<=w.heap.size
 b3:w.cell? ⟨w0.heap.size,3,none⟩=some (.slice A t.args.length cap)
 r0:∃u,w.cell? ⟨w0.heap.size+1,0,none⟩=some u
 r1:∃u,w.cell? ⟨w0.heap.size+1,1,none⟩=some u
 r2:∃u,w.cell? ⟨w0.heap.size+1,2,none⟩=some u
 r3:∃u,w.cell? ⟨w0.heap.size+1,3,none⟩=some u
 rf:∀o,w.frozen? ⟨w0.heap.size+1,o,none⟩=false
 c0:w.cell? ⟨w0.heap.size+2,0,none⟩=some (ab ae t.kind)
 c1:w.cell? ⟨w0.heap.size+2,1,none⟩=some (ab ae t.num)
 c2:w.cell? ⟨w0.heap.size+2,2,none⟩=some (aa t.name)
 c3:w.cell? ⟨w0.heap.size+2,3,none⟩=some v
 cf:∀o,w.frozen? ⟨w0.heap.size+2,o,none⟩=false
 own:OwnR (w0.heap.size+3) e w v rs
section
variable {mb:Nat} {w0 w w':ai} {e:bD} {t:Tm} {A:Option Addr} {cap:Nat} {v:az} {rs:List TR}
theorem CpX.call (h:CpX mb w0 w e t A cap v rs) (c:Bx mb w.heap.size w w'):CpX mb w0 w' e t A cap v rs:=by
 have j:=h.lt
 have m:=h.mlt
 have a:∀b o,w0.heap.size<=b->b<w0.heap.size+3->w'.cell? ⟨b,o,none⟩=w.cell? ⟨b,o,none⟩:=fun b o f i=>c.cell (p:=⟨b,o,none⟩) (by show b<_;omega) (by show b≠_;omega)
 have d:∀b o,w0.heap.size<=b->b<w0.heap.size+3->w'.frozen? ⟨b,o,none⟩=w.frozen? ⟨b,o,none⟩:=fun b o f i=>c.frozen (p:=⟨b,o,none⟩) (by show b<_;omega) (by show b≠_;omega)
 exact ⟨h.bel.trans (c.mono (by omega)),h.mlt,aI j c.size,(a _ _ (by omega) (by omega)).trans h.b3,h.r0.imp fun _ k=>(a _ _ (by omega) (by omega)).trans k,h.r1.imp fun _ k=>(a _ _ (by omega) (by omega)).trans k,h.r2.imp fun _ k=>(a _ _ (by omega) (by omega)).trans k,h.r3.imp fun _ k=>(a _ _ (by omega) (by omega)).trans k,
  fun o=>(d _ _ (by omega) (by omega)).trans (h.rf o),(a _ _ (by omega) (by omega)).trans h.c0,(a _ _ (by omega) (by omega)).trans h.c1,(a _ _ (by omega) (by omega)).trans h.c2,(a _ _ (by omega) (by omega)).trans h.c3,fun o=>(d _ _ (by omega) (by omega)).trans (h.cf o),h.own.keep c.size (fun b l g=>c.block b g (by omega))⟩
theorem CpX.drew (h:CpX mb w0 w e t A cap v rs):CpX mb w0 w.drew e t A cap v rs:=h.call (Bx.of (aj w.heap.size w).drew)
theorem CpX.far (h:CpX mb w0 w e t A cap v rs) (a:w.grownBy w' v.ownBlock) (b o:Nat) (d:b<w0.heap.size+3):w'.cell? ⟨b,o,none⟩=w.cell? ⟨b,o,none⟩/\w'.frozen? ⟨b,o,none⟩=w.frozen? ⟨b,o,none⟩:=by
 have f:=h.lt
 have c:some b≠v.ownBlock:=fun e=>by have:=(h.own.own.lt b e.symm).1;omega
 exact ⟨a.cell_far ⟨b,o,none⟩ (by show b<_;omega) c,a.frozen_far ⟨b,o,none⟩ (by show b<_;omega) c⟩
theorem CpX.app (h:CpX mb w0 w e t A cap v rs) (r:TR) (s:TmsK (fun b=>w0.heap.size+3<=b/\b<w.heap.size/\v.ownBlock≠some b) w r.2.1 r.1.args) {c:az} {w2:ai}
  (q:w2.ownsRow (w0.heap.size+3) e 4 c (rs.length+1) (eB rs++iW r)) (d:w.grownBy w2 v.ownBlock) (l:c.ownBlock=v.ownBlock\/c.ownBlock=some w.heap.size):CpX mb w0 (w2.setCell ⟨w0.heap.size+2,3,none⟩ c) e t A cap c (rs++[r]):=by
 have u:=h.lt
 have j:=h.own.snoc r s q d l
 have m:Bx mb w0.heap.size w0 w2:=h.bel.grown d (by omega) (fun k n=>.inl (by have:=(h.own.own.lt k n).1;omega))
 have a:∀b o,b<w0.heap.size+3->(b≠w0.heap.size+2\/o≠3)->(w2.setCell ⟨w0.heap.size+2,3,none⟩ c).cell? ⟨b,o,none⟩=w.cell? ⟨b,o,none⟩:=fun b o f g=>by
  rw [World.cell?_setCell_other _ _ _ _ (by intro e;injection e with e1 e2 _;rcases g with g | g <;> omega)]
  exact (h.far d b o f).1
 have i:∀b o,b<w0.heap.size+3->(w2.setCell ⟨w0.heap.size+2,3,none⟩ c).frozen? ⟨b,o,none⟩=w.frozen? ⟨b,o,none⟩:=fun b o f=>by
  rw [World.frozen?_setCell];exact (h.far d b o f).2
 refine ⟨m.setCell (p:=⟨_,_,none⟩) (by show w0.heap.size<=w0.heap.size+2;omega) _,h.mlt,by have:=d.size;simp;omega,(a _ _ (by omega) (.inl (by omega))).trans h.b3,h.r0.imp fun _ k=>(a _ _ (by omega) (.inl (by omega))).trans k,h.r1.imp fun _ k=>(a _ _ (by omega) (.inl (by omega))).trans k,h.r2.imp fun _ k=>(a _ _ (by omega) (.inl (by omega))).trans k,h.r3.imp fun _ k=>(a _ _ (by omega) (.inl (by omega))).trans k,
  fun o=>(i _ _ (by omega)).trans (h.rf o),(a _ _ (by omega) (.inr (by omega))).trans h.c0,(a _ _ (by omega) (.inr (by omega))).trans h.c1,(a _ _ (by omega) (.inr (by omega))).trans h.c2,World.cell?_setCell_same _ _ _ ((h.far d _ _ (by omega)).1.trans h.c3),fun o=>(i _ _ (by omega)).trans (h.cf o),j.keep (by simp) fun b f _=>aS w2 ⟨w0.heap.size+2,3,none⟩ b c (fun e=>by simp at e;omega)⟩
end
theorem CpX.start {mb:Nat} (w:ai) (n:mb<w.heap.size) (t:Tm) (A:Option Addr) (cap g:Nat) (e:bD) (m:g=t.args.length) :
  CpX mb w ((((w.alloc (.cells #[ab ae t.kind,ab ae t.num,aa t.name,.slice A g cap] e)).alloc (.cells #[ab ae 0,ab ae 0,aa ⟨#[]⟩,.slice none 0 0] e)).alloc (.cells #[ab ae t.kind,ab ae t.num,aa t.name,.slice none 0 0] e))) e t A cap (.slice none 0 0) []:=by
 obtain ⟨W1,d⟩:∃W1,W1=w.alloc (.cells #[ab ae t.kind,ab ae t.num,aa t.name,.slice A g cap] e):=⟨_,rfl⟩
 obtain ⟨W2,a⟩:∃W2,W2=W1.alloc (.cells #[ab ae 0,ab ae 0,aa ⟨#[]⟩,.slice none 0 0] e):=⟨_,rfl⟩
 rw [<-d,<-a]
 have s1:W1.heap.size=w.heap.size+1:=by rw [d];simp
 have i:W2.heap.size=w.heap.size+2:=by rw [a];simp;omega
 have h:ax W1.heap.size W1 W2:=by rw [a];exact (aj _ _).alloc (ag _) _
 have b:ax W2.heap.size W2 (W2.alloc (.cells #[ab ae t.kind,ab ae t.num,aa t.name,.slice none 0 0] e)):=(aj _ _).alloc (ag _) _
 have l:ax w.heap.size w W1:=by rw [d];exact (aj _ _).alloc (ag _) _
 have k:W1.cell? ⟨w.heap.size,3,none⟩=some (.slice A t.args.length cap):=by rw [d,<-m];exact aq _ _ _ 3
 have r:∀j u,(#[ab ae 0,ab ae 0,aa ⟨#[]⟩,.slice none 0 0]:Array az)[j]? = some u->W2.cell? ⟨w.heap.size+1,j,none⟩=some u:=fun j u q=>by
  have:=aq W1 #[ab ae 0,ab ae 0,aa ⟨#[]⟩,.slice none 0 0] e j
  rw [s1,<-a] at this;rw [this];exact q
 have s:∀o,W2.frozen? ⟨w.heap.size+1,o,none⟩=false:=fun o=>by
  have:=eF (w:=W1) #[ab ae 0,ab ae 0,aa ⟨#[]⟩,.slice none 0 0] e (w.heap.size+1) o s1.symm
  rw [<-a] at this;exact this
 have c:∀j,(W2.alloc (.cells #[ab ae t.kind,ab ae t.num,aa t.name,.slice none 0 0] e)).cell? ⟨w.heap.size+2,j,none⟩=(#[ab ae t.kind,ab ae t.num,aa t.name,.slice none 0 0]:Array az)[j]?:=fun j=>by
  have:=aq W2 #[ab ae t.kind,ab ae t.num,aa t.name,.slice none 0 0] e j
  rw [i] at this;exact this
 have f:∀o,(W2.alloc (.cells #[ab ae t.kind,ab ae t.num,aa t.name,.slice none 0 0] e)).cell? ⟨w.heap.size+1,o,none⟩=W2.cell? ⟨w.heap.size+1,o,none⟩:=fun o=>b.cell (p:=⟨w.heap.size+1,o,none⟩) (show w.heap.size+1<W2.heap.size by omega)
 refine ⟨Bx.of ((l.trans (h.mono (by omega))).trans (b.mono (by omega))),n,by simp;omega,?_,⟨_,(f 0).trans (r 0 _ rfl)⟩,⟨_,(f 1).trans (r 1 _ rfl)⟩,⟨_,(f 2).trans (r 2 _ rfl)⟩,⟨_,(f 3).trans (r 3 _ rfl)⟩,fun o=>?_,c 0,c 1,c 2,c 3,fun o=>?_,OwnR.nul _ _ _⟩
 ·rw [b.cell (p:=⟨w.heap.size,3,none⟩) (show w.heap.size<W2.heap.size by omega),h.cell (p:=⟨w.heap.size,3,none⟩) (show w.heap.size<W1.heap.size by omega)];exact k
 ·rw [b.frozen (p:=⟨w.heap.size+1,o,none⟩) (show w.heap.size+1<W2.heap.size by omega)];exact s o
 ·exact eF (w:=W2) _ _ (w.heap.size+2) o i.symm
theorem CpX.put {mb:Nat} {w0 w:ai} {e:bD} {t:Tm} {A:Option Addr} {cap:Nat} {v:az} {rs:List TR} (h:CpX mb w0 w e t A cap v rs) (d f g i:az) :
  Bx mb w0.heap.size w0 ((((w.setCell ⟨w0.heap.size+1,0,none⟩ d).setCell ⟨w0.heap.size+1,1,none⟩ f).setCell ⟨w0.heap.size+1,2,none⟩ g).setCell ⟨w0.heap.size+1,3,none⟩ i) /\
  OwnR (w0.heap.size+3) e ((((w.setCell ⟨w0.heap.size+1,0,none⟩ d).setCell ⟨w0.heap.size+1,1,none⟩ f).setCell ⟨w0.heap.size+1,2,none⟩ g).setCell ⟨w0.heap.size+1,3,none⟩ i) v rs:=by
 have a:w0.heap.size<=w0.heap.size+1:=by omega
 refine ⟨((((h.bel.setCell (p:=⟨_,_,none⟩) a _).setCell (p:=⟨_,_,none⟩) a _).setCell (p:=⟨_,_,none⟩) a _).setCell (p:=⟨_,_,none⟩) a _),h.own.keep (by simp) fun b j _=>?_⟩
 have c:∀o,b≠(⟨w0.heap.size+1,o,none⟩:Addr).block:=fun o e=>by simp at e;omega
 rw [aS _ _ _ _ (c _),aS _ _ _ _ (c _),aS _ _ _ _ (c _),aS _ _ _ _ (c _)]
end Hb
