/- Parts of the proof. -/
import Derived.Test.YtlikcjbjibhjgaaGreatDoorR01
import Derived.Lib.ItoaNum
import Derived.Test.YtlikcjbjibhjgaaGreatDoorProg
import Derived.Lib.Builder
import Derived.Lib.AppendStr
import Derived.Lib.UnsafeStr
import Derived.Laws.Externs
set_option maxHeartbeats 12800000
set_option maxRecDepth 100000
open ByteArray.toList renaming loop -> ft
open Go renaming Calls -> aJ, TypeId -> bD, Value -> az, World -> ai, bodyPost_ret -> ay
open Go.Ending renaming returned -> aw
open Go.IntKind renaming i64 -> ae
open Go.Lib renaming IsBuilder -> fy
open Go.Proofs.Tryz renaming prog -> ah
open Go.RowKit renaming Below -> ax
open Go.RowKit.Below renaming refl -> aj
open Go.Value renaming bool -> am, int -> ab, pointer -> au, string -> aa, tuple -> aK
open Go.World renaming cell?_alloc_new -> aq
open List renaming all_eq_true -> bh, cons_append -> ak, drop_drop -> ci, drop_eq_getElem_cons -> eJ, drop_of_length_le -> ff, drop_succ_cons -> ij, drop_zero -> cY, eq_nil_of_length_eq_zero -> bL, foldl_append -> eL, getD_eq_getElem?_getD -> aX, getElem?_eq_getElem -> ba, length_drop -> aH, mem_range -> dx, nil_append -> an, take_succ_cons -> fU
open Nat renaming add_zero -> bv, le_of_lt -> fd, le_refl -> ag, lt_of_lt_of_le -> aC, lt_or_ge -> cS, zero_le -> bp
namespace Hb
open Go Go.RowKit
structure R3 (w0 w:ai):Prop where
 bel:ax w0.heap.size w0 w
 lt:w0.heap.size<w.heap.size
 r0:∃v,w.cell? ⟨w0.heap.size,0,none⟩=some v
 r1:∃v,w.cell? ⟨w0.heap.size,1,none⟩=some v
 r2:∃v,w.cell? ⟨w0.heap.size,2,none⟩=some v
 fr:∀o,w.frozen? ⟨w0.heap.size,o,none⟩=false
theorem R3.call {w0 w w':ai} (h:R3 w0 w) (a:ax w.heap.size w w'):R3 w0 w' where
 bel:=h.bel.trans (a.mono (fd h.lt))
 lt:=aC h.lt a.size
 r0:=h.r0.imp fun _ b=>(a.cell (p:=⟨_,_,none⟩) h.lt).trans b
 r1:=h.r1.imp fun _ b=>(a.cell (p:=⟨_,_,none⟩) h.lt).trans b
 r2:=h.r2.imp fun _ b=>(a.cell (p:=⟨_,_,none⟩) h.lt).trans b
 fr:=fun o=>(a.frozen (p:=⟨_,o,none⟩) h.lt).trans (h.fr o)
theorem R3.start (w:ai) (e:bD):R3 w (w.alloc (.cells #[aa ⟨#[]⟩,ab ae 0,ab ae 0] e)) where
 bel:=(aj _ _).alloc (ag _) _
 lt:=by simp
 r0:=⟨_,aq _ _ _ 0⟩
 r1:=⟨_,aq _ _ _ 1⟩
 r2:=⟨_,aq _ _ _ 2⟩
 fr:=fun o=>World.frozen?_alloc_new _ _ _ _
theorem R3.put {w0 w:ai} (h:R3 w0 w) (x y z:az):ax w0.heap.size w0 (((w.setCell ⟨w0.heap.size,0,none⟩ x).setCell ⟨w0.heap.size,1,none⟩ y).setCell ⟨w0.heap.size,2,none⟩ z) :=
 ((h.bel.setCell (p:=⟨_,_,none⟩) (ag _) _).setCell (p:=⟨_,_,none⟩) (ag _) _).setCell (p:=⟨_,_,none⟩) (ag _) _
def gi (o:OpR):Int:=if o.prec<1\/1200<o.prec then 0 else if o.typ=1\/o.typ=2\/o.typ=6 then o.prec-1 else if o.typ=3\/o.typ=7 then o.prec else 0
def dB (o:OpR):Int:=if o.prec<1\/1200<o.prec then 0 else if o.typ=1\/o.typ=3\/o.typ=5 then o.prec-1 else if o.typ=2\/o.typ=4 then o.prec else 0
end Hb
namespace Go.Proofs.YtlikcjbjibhjgaaGreatDoor
open Go.RowKit Hb
theorem mX (A:Option Addr) (n c:Nat) (l:List OpR) (a:ByteArray) (w:ai) (g:n=l.length) (m:n<=400) (h:OpsAt w A l) :
  aJ ah 169 #[.slice A n c,aa a] w fun e w'=>e=aw (aK #[kZ ((dt l a 1).getD op0),am (dt l a 1).isSome])/\ax w.heap.size w w':=by
 have d:=R3.start w 39
 have i:=zq (qr A n c l a 1 _ g m (h.below d.bel))
 clear g h
 generalize (dt l a 1).getD op0=r at *
 generalize (dt l a 1).isSome=b at *
 unfold kZ at *
 go_enter Tryz.func169,Tryz.ntmps169
 go_wp2_with fail
 refine i.out.mono ?_;rintro e B ⟨rfl,k⟩
 have f:=d.call k
 obtain ⟨t,u,⟨x,o⟩,⟨y,p⟩,⟨z,q⟩,j⟩:=id f
 have s:=j 0
 go_wp2_with fail
 exact ay (v:=aK #[.agg #[aa r.name,ab ae r.typ,ab ae r.prec],am b]) (by simp [results,Tryz.results169,go_sem,o,p,q]) rfl ⟨rfl,f.put _ _ _⟩
theorem oT (A:Option Addr) (n c:Nat) (l:List OpR) (a:ByteArray) (w:ai) (g:n=l.length) (m:n<=400) (h:OpsAt w A l) :
  aJ ah 132 #[.slice A n c,aa a] w fun e w'=>e=aw (aK #[kZ ((dt l a 2).getD op0),am (dt l a 2).isSome])/\ax w.heap.size w w':=by
 have d:=R3.start w 39
 have i:=zq (qr A n c l a 2 _ g m (h.below d.bel))
 clear g h
 generalize (dt l a 2).getD op0=r at *
 generalize (dt l a 2).isSome=b at *
 unfold kZ at *
 go_enter Tryz.func132,Tryz.ntmps132
 go_wp2_with fail
 refine i.out.mono ?_;rintro e B ⟨rfl,k⟩
 have f:=d.call k
 obtain ⟨t,u,⟨x,o⟩,⟨y,p⟩,⟨z,q⟩,j⟩:=id f
 have s:=j 0
 go_wp2_with fail
 exact ay (v:=aK #[.agg #[aa r.name,ab ae r.typ,ab ae r.prec],am b]) (by simp [results,Tryz.results132,go_sem,o,p,q]) rfl ⟨rfl,f.put _ _ _⟩
theorem lZ (A:Option Addr) (n c:Nat) (l:List OpR) (a:ByteArray) (w:ai) (g:n=l.length) (m:n<=400) (h:OpsAt w A l) :
  aJ ah 133 #[.slice A n c,aa a] w fun e w'=>e=aw (aK #[kZ ((dt l a 3).getD op0),am (dt l a 3).isSome])/\ax w.heap.size w w':=by
 have d:=R3.start w 39
 have i:=zq (qr A n c l a 3 _ g m (h.below d.bel))
 clear g h
 generalize (dt l a 3).getD op0=r at *
 generalize (dt l a 3).isSome=b at *
 unfold kZ at *
 go_enter Tryz.func133,Tryz.ntmps133
 go_wp2_with fail
 refine i.out.mono ?_;rintro e B ⟨rfl,k⟩
 have f:=d.call k
 obtain ⟨t,u,⟨x,o⟩,⟨y,p⟩,⟨z,q⟩,j⟩:=id f
 have s:=j 0
 go_wp2_with fail
 exact ay (v:=aK #[.agg #[aa r.name,ab ae r.typ,ab ae r.prec],am b]) (by simp [results,Tryz.results133,go_sem,o,p,q]) rfl ⟨rfl,f.put _ _ _⟩
theorem mH (o:OpR) (w:ai) (m:-9223372036854775808<=o.prec/\o.prec<=9223372036854775807):aJ ah 91 #[kZ o] w fun e w'=>e=aw (aK #[ab ae (gi o),ab ae (dB o)])/\ax w.heap.size w w':=by
 unfold kZ
 generalize c:gi o=x
 generalize d:dB o=y
 have f:=zq c
 have g:=zq d
 clear c d
 obtain ⟨z,a,b⟩:=o
 have hd:b<1\/1200<b\/((1<=b/\b<=1200)/\(a=1\/a=2\/a=3\/a=4\/a=5\/a=6\/a=7\/(¬a=1/\¬a=2/\¬a=3/\¬a=4/\¬a=5/\¬a=6/\¬a=7))):=by omega
 rcases hd with h | h | ⟨⟨k,l⟩,rfl|rfl|rfl|rfl|rfl|rfl|rfl | ⟨n,p,q,r,s,t,u⟩⟩
 all_goals
  go_enter Tryz.func91,Tryz.ntmps91
  go_wp2_with fail
  try (go_quiet (fail);go_wp2_with fail)
  refine ay (v:=aK #[ab ae x,ab ae y]) ?_ rfl ⟨rfl,by first | exact (aj _ _).alloc (ag _) _ | exact dS ((aj _ _).alloc (ag _) _) _⟩
  have i:=f.out
  have j:=g.out
  unfold gi at i
  unfold dB at j
  simp [results,Tryz.results91,go_sem]
  grind
end Go.Proofs.YtlikcjbjibhjgaaGreatDoor
namespace Hb
open Go Go.RowKit
def isNm (a:ByteArray) (o:OpR):Bool:=o.name.toList==a.toList
theorem Ix (p:OpR->Bool) (l:List OpR):decide (0<=uW p l)=l.any p:=by
 unfold uW
 cases h:l.any p
 ·simp
 ·simp
end Hb
namespace Go.Proofs.YtlikcjbjibhjgaaGreatDoor
open Go.RowKit Hb
theorem On (o:OpR) (b:Nat) (a:ByteArray) (w:ai) (f:w.cell? ⟨b,0,none⟩=some (aa a)) (d:b<w.heap.size) :
  aJ ah 143 #[kZ o,au (some ⟨b,0,none⟩)] w fun e w'=>e=aw (am (isNm a o))/\ax w.heap.size w w':=by
 unfold kZ
 have c:=zq (show isNm a o=(o.name.toList==a.toList) from rfl)
 go_enter Tryz.func143,Tryz.ntmps143
 go_wp2_with fail
 go_ret
 exact ⟨bN c.out.symm,(aj _ _).alloc (ag _) _⟩
theorem BA (A:Option Addr) (n F:Nat) (l:List OpR) (g:Nat) (c:ByteArray) (w:ai) (x:n=l.length) (P:n<=400) (y:OpsAt w A l) (G:w.cell? ⟨g,0,none⟩=some (aa c)) (z:g<w.heap.size) :
  aJ ah 44 #[.slice A n F,.func (.func 143) #[] #[au (some ⟨g,0,none⟩)]] w fun e w'=>e=aw (ab ae (uW (isNm c) l))/\ax w.heap.size w w':=by
 have t:=zq x
 have D:=zq y
 clear x y
 go_enter Tryz.func44,Tryz.ntmps44
 go_wp2_with fail
 go_loopw [8] (fun i wr=>∃k:Nat,k<=n/\i=ab ae k/\ax w.heap.size w wr/\Hid (∀j (a:j<l.length),j<k->isNm c l[j]=false)) (fun i _=>n-(intOf i).toNat)
 case atStart=>exact ⟨0,bp _,rfl,aj _ _,fun j _ a=>absurd a (by omega)⟩
 case round=>
  obtain ⟨k,N,rfl,d,m⟩:=hrel
  by_cases O:k<n
  ·have s:=d.size
   have v:k<l.length:=by have:=t.out;omega
   obtain ⟨b,Q,rfl,L,I,J,K⟩:=(D.out.below d) k v
   have B:=zq (fun h=>ox (isNm c) l k v h (fun j a=>m.out j (by omega) a))
   have f:=zq (On l[k] g c wr ((d.cell (p:=⟨g,0,none⟩) z).trans G) (aC z s))
   have E:=zq (fun (h:isNm c l[k]=false)=>(show ∀j (a:j<l.length),j<k+1->isNm c l[j]=false from fun j a M=>by
    rcases cS j k with u | u
    ·exact m.out j a u
    ·have:j=k:=by omega
     subst this;exact h))
   generalize l[k]=o at *
   unfold kZ at f
   cases hi:isNm c o
   ·rw [hi] at f
    have q:=zq hi
    clear hi
    go_wp2_with fail
    refine f.out.mono ?_;rintro e H ⟨rfl,r⟩
    go_wp2_with fail
    go_roundw
    case rel=>exact ⟨k+1,by omega,by go_num,d.trans (r.mono s),E.out q.out⟩
    case measure=>simp [intOf] <;> omega
   ·rw [hi] at f
    have q:=zq hi
    clear hi
    go_wp2_with fail
    refine f.out.mono ?_;rintro e H ⟨rfl,r⟩
    go_wp2_with fail
    go_ret
    exact ⟨dn (B.out q.out).symm,d.trans (r.mono s)⟩
  ·obtain rfl:k=n:=by omega
   have C:=zq (mN (isNm c) l (fun j a=>m.out j a (by have:=t.out;omega)))
   go_wp2_with fail
   go_ret
   exact ⟨dn C.out.symm,d⟩
theorem xJ (A:Option Addr) (n c:Nat) (l:List OpR) (b:Nat) (a:ByteArray) (w:ai) (d:n=l.length) (j:n<=400) (f:OpsAt w A l) (m:w.cell? ⟨b,0,none⟩=some (aa a)) (k:b<w.heap.size) :
  aJ ah 142 #[.slice A n c,.func (.func 143) #[] #[au (some ⟨b,0,none⟩)]] w fun e w'=>e=aw (am (l.any (isNm a)))/\ax w.heap.size w w':=by
 have h:=zq (BA A n c l b a w d j f m k)
 have g:=zq (Ix (isNm a) l)
 clear d f
 generalize uW (isNm a) l=x at *
 go_enter Tryz.func142,Tryz.ntmps142
 go_wp2_with fail
 refine h.out.mono ?_;rintro e o ⟨rfl,i⟩
 go_wp2_with fail
 go_ret
 exact ⟨bN g.out,i⟩
theorem Mf (A:Option Addr) (n i:Nat) (l:List OpR) (a:ByteArray) (w:ai) (j:n=l.length) (r:n<=400) (k:OpsAt w A l) :
  aJ ah 109 #[.slice A n i,aa a] w fun e w'=>e=aw (am (bB l&&l.any (isNm a)))/\ax w.heap.size w w':=by
 have g:=(aj w.heap.size w).alloc (ag _) (.cells #[aa a] 9)
 have s:(w.alloc (.cells #[aa a] 9)).cell? ⟨w.heap.size,0,none⟩=some (aa a):=aq _ _ _ 0
 have h:w.heap.size<(w.alloc (.cells #[aa a] 9)).heap.size:=by simp
 have f:=zq (mG A n i l _ j r (k.below g))
 have t:=zq (fun (d:ai) (c:ax (w.alloc (.cells #[aa a] 9)).heap.size (w.alloc (.cells #[aa a] 9)) d)=>xJ A n i l w.heap.size a d j r ((k.below g).below c) ((c.cell (p:=⟨_,_,none⟩) h).trans s) (aC h c.size))
 clear j k s
 cases hv:bB l
 ·rw [hv] at f
  go_enter Tryz.func109,Tryz.ntmps109
  go_wp2_with fail
  refine f.out.mono ?_;rintro e d ⟨rfl,c⟩
  go_wp2_with fail
  go_ret
  exact ⟨rfl,g.trans (c.mono (fd h))⟩
 ·rw [hv] at f
  go_enter Tryz.func109,Tryz.ntmps109
  go_wp2_with fail
  refine f.out.mono ?_;rintro e d ⟨rfl,c⟩
  have o:=zq (t.out d c)
  have q:=g.trans (c.mono (fd h))
  obtain ⟨b,m⟩:=lz (l.any (isNm a))
  rw [<-m.out] at o
  go_wp2_with fail
  refine o.out.mono ?_;rintro e v ⟨rfl,u⟩
  go_wp2_with fail
  go_ret
  exact ⟨bN (by rw [m.out];rfl),q.trans (u.mono q.size)⟩
end Go.Proofs.YtlikcjbjibhjgaaGreatDoor
namespace Hb
def iK (l:List UInt8) (k:Nat):Int:=((l.getD k 0).toNat:Int)
theorem jR (l:List UInt8) (k:Nat):0<=iK l k:=by unfold iK;omega
theorem kh (l:List UInt8) (k:Nat):iK l k<=255:=by unfold iK;have:=(l.getD k 0).toNat_lt;omega
theorem iJ (l:List UInt8) (k:Nat) (h:k<l.length):(l[k].toNat:Int)=iK l k:=by
 unfold iK;rw [aX,ba h];rfl
theorem kA (s:ByteArray) (k:Nat) (h:k<s.size):(s[k].toNat:Int)=iK s.data.toList k:=by
 have a:k<s.data.toList.length:=by simpa using h
 rw [<-iJ _ _ a];rfl
def jv (c:Int):Bool:=decide (0<=c)&&decide (c<=255)
theorem kP (c:Int):jv c=true↔0<=c/\c<=255:=by simp [jv]
def mg (l:List UInt8) (c:Int):Bool:=l.any fun b=>(b.toNat:Int)==c
def cls (c:Int):Int :=
 if ¬(0<=c/\c<=255) then 0
 else if (9<=c/\c<=13)\/c=32 then 1
 else if 97<=c/\c<=122 then 2
 else if (65<=c/\c<=90)\/c=95 then 3
 else if 48<=c/\c<=57 then 4
 else if mg [35,36,38,42,43,45,46,47,58,60,61,62,63,64,94,126,92] c then 5
 else if mg [33,40,41,44,59,91,93,123,125,37,124] c then 6
 else if mg [39,34,96] c then 7
 else 8
theorem DC (P:Int->Prop) (c:Prop) [Decidable c] (a b:Int) (d:P a) (e:P b):P (if c then a else b):=by split <;> assumption
theorem MH (c:Int):0<=cls c:=by
 unfold cls;repeat' (refine DC (0 <= ·) _ _ _ (by omega) ?_)
 omega
theorem MJ (c:Int):cls c<=8:=by
 unfold cls;repeat' (refine DC (· <= 8) _ _ _ (by omega) ?_)
 omega
theorem DB (c:Int) (h:¬(0<=c/\c<=255)):cls c=0:=by unfold cls;rw [if_pos h]
def dI (c:Int):Bool:=cls c==2||(cls c==3||cls c==4)
def rowOf:List (List UInt8):=[[9,10,11,12,13,32],
 [97,98,99,100,101,102,103,104,105,106,107,108,109,110,111,112,113,114,115,116,117,118,119,120,121,122],
 [65,66,67,68,69,70,71,72,73,74,75,76,77,78,79,80,81,82,83,84,85,86,87,88,89,90,95],
 [48,49,50,51,52,53,54,55,56,57],[35,36,38,42,43,45,46,47,58,60,61,62,63,64,94,126,92],
 [33,40,41,44,59,91,93,123,125,37,124],[39,34,96]]
def kl (c:Int):Nat:=rowOf.findIdx fun l=>mg l c
theorem Ez:∀n:Nat,n<256->cls (n:Int)=(kl (n:Int):Int)+1:=by decide +kernel
theorem yX (c:Int):kl c<=7:=List.findIdx_le_length
def MD (c a:Int):Option Int :=
 if a<2\/36<a then none
 else
  let v:=if 48<=c/\c<=57 then c-48 else if 97<=c/\c<=122 then c-97+10 else if 65<=c/\c<=90 then c-65+10 else 36
  if v<a then some v else none
def pb (c a:Int):Int:=(MD c a).getD 0
def ii (c a:Int):Bool:=(MD c a).isSome
def DQ (c:Int):Option Int :=
 if c=92\/c=39\/c=34\/c=96 then some c
 else if c=97 then some 7 else if c=98 then some 8 else if c=116 then some 9 else if c=110 then some 10
 else if c=118 then some 11 else if c=102 then some 12 else if c=114 then some 13 else none
def uP (c:Int):Int:=(DQ c).getD 0
def lP (c:Int):Bool:=(DQ c).isSome
def letters:List UInt8:=[97,98,116,110,118,102,114]
def nj (n:Nat):UInt8:=if n<10 then (48+n).toUInt8 else (87+n).toUInt8
def Ab (c:Int):List UInt8 :=
 if ¬(0<=c/\c<=255) then []
 else if 7<=c/\c<=13 then [92,letters.getD (c-7).toNat 0]
 else if c=39\/c=92 then [92,c.toNat.toUInt8]
 else if 32<=c/\c<=126 then [c.toNat.toUInt8]
 else if 16<=c then [92,120,nj (c.toNat / 16),nj (c.toNat % 16),92]
 else [92,120,nj (c.toNat % 16),92]
def rz (l:List (Int×Int)) (j:Nat):Int:=(l.getD j (0,0)).1
def si (l:List (Int×Int)) (j:Nat):Int:=(l.getD j (0,0)).2
theorem sM (l:List (Int×Int)) (j:Nat) (h:j<l.length):l[j].1=rz l j:=by
 unfold rz;rw [aX,ba h];rfl
theorem xA (l:List (Int×Int)) (j:Nat) (h:j<l.length):l[j].2=si l j:=by
 unfold si;rw [aX,ba h];rfl
def nL (l:List (Int×Int)) (j:Nat):Bool:=jv (rz l j)&&(jv (si l j)&&(!(rz l j==si l j)&&(j==0||decide (rz l (j-1)<rz l j))))
theorem Mm (l k) (h:jv (rz l k)=false):nL l k=false:=by unfold nL;rw [h];rfl
theorem Ml (l k) (h:jv (rz l k)=true) (a:jv (si l k)=false):nL l k=false:=by unfold nL;rw [h,a];rfl
theorem Mk (l k) (h:jv (rz l k)=true) (a:jv (si l k)=true) (b:(rz l k==si l k)=true):nL l k=false:=by unfold nL;rw [h,a,b];rfl
theorem Mj (l k) (a:k=0) (h:jv (rz l k)=true) (b:jv (si l k)=true) (c:(rz l k==si l k)=false):nL l k=true:=by unfold nL;rw [h,b,c,a];rfl
theorem Mi (l k) (h:jv (rz l k)=true) (a:jv (si l k)=true) (b:(rz l k==si l k)=false) (c:rz l (k-1)<rz l k):nL l k=true:=by unfold nL;rw [h,a,b];simp [c]
theorem Mh (l k) (h:jv (rz l k)=true) (a:jv (si l k)=true) (b:(rz l k==si l k)=false) (c:0<k) (d:¬rz l (k-1)<rz l k):nL l k=false:=by unfold nL;rw [h,a,b];simp;omega
def jz (l:List (Int×Int)):Bool:=(List.range l.length).all (nL l)
theorem Bi (l:List (Int×Int)) (h:∀j,j<l.length->nL l j=true):jz l=true:=by
 unfold jz;rw [bh];intro x a;exact h x (dx.1 a)
theorem EJ (l:List (Int×Int)) (j:Nat) (a:j<l.length) (h:nL l j=false):jz l=false:=by
 unfold jz;rw [List.all_eq_false];exact ⟨j,dx.2 a,by simp [h]⟩
theorem EK (l:List (Int×Int)) (h:jz l=true) (j:Nat) (a:j<l.length):nL l j=true:=by
 unfold jz at h;rw [bh] at h;exact h j (dx.2 a)
def jZ (l:List (Int×Int)) (c:Int):Int:=l.foldl (fun t p=>if p.1=c then p.2 else t) c
def av (l:List UInt8) (i:Nat):Int:=if i<l.length then iK l i else -1
theorem fq (l:List UInt8) (i:Nat) (h:i<l.length):av l i=iK l i:=by unfold av;rw [if_pos h]
theorem ko (l:List UInt8) (i:Nat) (h:l.length<=i):av l i=-1:=by unfold av;rw [if_neg (by omega)]
theorem GX (l:List UInt8) (i:Nat):av l i<=255:=by
 unfold av;split
 ·exact kh l i
 ·omega
theorem dX (l:List UInt8) (i:Nat):av l i<0↔l.length<=i:=by
 unfold av;split
 ·have:=jR l i;omega
 ·omega
theorem Az (l:List UInt8) (i j:Nat):iK (l.drop i) j=iK l (i+j):=by
 unfold iK;simp [aX,List.getElem?_drop]
theorem bZ (l:List UInt8) (i j:Nat):av (l.drop i) j=av l (i+j):=by
 unfold av;rw [Az,aH]
 by_cases h:j<l.length-i
 ·rw [if_pos h,if_pos (by omega)]
 ·rw [if_neg h,if_neg (by omega)]
theorem dy (b:UInt8) (l:List UInt8):av (b::l) 0=(b.toNat:Int):=by
 unfold av iK;simp
theorem fP (b:UInt8) (l:List UInt8) (i:Nat):av (b::l) (i+1)=av l i:=by
 unfold av iK;simp
def cU (a:Int->Int) (l:List UInt8):List UInt8:=l.map fun b=>(a (b.toNat:Int)).toNat.toUInt8
theorem dK (a:Int->Int) (l:List UInt8):(cU a l).length=l.length:=by simp [cU]
def DI (a:Int->Int):Prop:=∀c,0<=c->c<=255->0<=a c/\a c<=255
theorem MF (a:Int->Int) (c:DI a) (l:List UInt8) (i:Nat) (h:i<l.length):a (iK l i)=iK (cU a l) i:=by
 have b:i<(cU a l).length:=by rw [dK];exact h
 have d:=c (iK l i) (jR l i) (kh l i)
 rw [<-iJ _ _ b,<-iJ _ _ h] at *
 simp only [cU,List.getElem_map]
 simp;omega
def dC (c:Int):Bool:=cls c==5
def ch (q:Int->Bool):List UInt8->Nat
 | []=>0
 | b::l=>if q (b.toNat:Int) then ch q l+1 else 0
theorem fW (q : Int -> Bool) : ∀ l, ch q l <= l.length
  | [] => ag _
  | b :: l => by unfold ch; split; · have := fW q l; simp; omega
                 · exact bp _
theorem mO (l:List UInt8) (k:Nat) (h:k<l.length):l.drop k=l[k]::l.drop (k+1):=eJ h
theorem qg (q:Int->Bool) (l:List UInt8) (k:Nat) (h:k<l.length) (a:q (iK l k)=true):ch q (l.drop k)=ch q (l.drop (k+1))+1:=by
 rw [mO l k h,ch,iJ _ _ h,if_pos a]
theorem sF (q:Int->Bool) (l:List UInt8) (k:Nat) (h:k<l.length) (a:q (iK l k)=false):ch q (l.drop k)=0:=by
 rw [mO l k h,ch,iJ _ _ h,a];rfl
theorem qh (q:Int->Bool) (l:List UInt8) (k:Nat) (h:l.length<=k):ch q (l.drop k)=0:=by
 rw [ff h];rfl
def eE:List UInt8->Option Nat
 | []=>none
 | b::l=>if b=42/\av l 0=47 then some 0 else (eE l).map (· + 1)
def ie (c:Int):Bool:=!(c==10)
def pg:Nat->List UInt8->Nat
 | 0,_=>0
 | f+1,l=>
  if l.isEmpty then 0
  else if cls (av l 0)=1 then 1+pg f (l.drop 1)
  else if av l 0=37 then ch ie l+pg f (l.drop (ch ie l))
  else if av l 0=47/\av l 1=42 then
   match eE (l.drop 2) with
   | none=>0
   | some k=>(k+4)+pg f (l.drop (k+4))
  else 0
theorem lC (q:Int->Bool) (l:List UInt8) (h:0<l.length) (a:q (av l 0)=true):1<=ch q l:=by
 match l,h with
 | b::l,_=>rw [dy] at a;rw [ch,if_pos a];omega
theorem jM:∀(f g:Nat) (l:List UInt8),l.length<=f->l.length<=g->pg f l=pg g l
 | 0,0,_,_,_=>rfl
 | 0,g+1,l,h,_=>by
  have:l=[]:=bL (by omega)
  subst this;rfl
 | f+1,0,l,_,h=>by
  have:l=[]:=bL (by omega)
  subst this;rfl
 | f+1,g+1,l,h1,h2=>by
  unfold pg
  by_cases a:l.isEmpty
  ·rw [if_pos a,if_pos a]
  ·rw [if_neg a,if_neg a]
   have c:0<l.length:=by
    cases l with
    | nil=>simp at a
    | cons=>simp
   rw [jM f g (l.drop 1) (by simp;omega) (by simp;omega)]
   by_cases b:av l 0=37
   ·have:=lC ie l c (by rw [b];rfl)
    rw [jM f g (l.drop (ch ie l)) (by simp;omega) (by simp;omega)]
    simp only [if_pos b]
   ·simp only [if_neg b]
    cases eE (l.drop 2) with
    | none=>rfl
    | some k=>simp only [];rw [jM f g (l.drop (k+4)) (by simp;omega) (by simp;omega)]
def bS (l:List UInt8):Nat:=pg l.length l
theorem mB (l:List UInt8):bS l =
  if l.isEmpty then 0
  else if cls (av l 0)=1 then 1+bS (l.drop 1)
  else if av l 0=37 then ch ie l+bS (l.drop (ch ie l))
  else if av l 0=47/\av l 1=42 then
   match eE (l.drop 2) with
   | none=>0
   | some k=>(k+4)+bS (l.drop (k+4))
  else 0:=by
 unfold bS
 rw [jM l.length (l.length+1) l (ag _) (by omega),pg]
 rw [jM l.length (l.drop 1).length (l.drop 1) (by simp) (ag _),jM l.length (l.drop (ch ie l)).length (l.drop (ch ie l)) (by simp) (ag _)]
 cases eE (l.drop 2) with
 | none=>rfl
 | some k=>simp only [];rw [jM l.length (l.drop (k+4)).length (l.drop (k+4)) (by simp) (ag _)]
theorem uF:∀(l:List UInt8) (k:Nat),eE l=some k->k+2<=l.length
 | [],k,h=>by simp [eE] at h
 | b::l,k,h=>by
  unfold eE at h
  split at h
  ·rename_i a
   injection h with h
   subst h
   have:=dX l 0
   simp;omega
  ·cases hc:eE l with
   | none=>rw [hc] at h;simp at h
   | some j=>
    rw [hc] at h
    have:=uF l j hc
    simp at h;simp;omega
theorem qk:∀(f:Nat) (l:List UInt8),pg f l<=l.length
 | 0,_=>bp _
 | f+1,l=>by
  unfold pg
  by_cases a:l.isEmpty
  ·rw [if_pos a];omega
  ·rw [if_neg a]
   have j:0<l.length:=by
    cases l with
    | nil=>simp at a
    | cons=>simp
   have e:=qk f (l.drop 1)
   have g:=qk f (l.drop (ch ie l))
   have i:=fW ie l
   simp only [aH] at e g
   by_cases b:cls (av l 0)=1
   ·rw [if_pos b];omega
   rw [if_neg b]
   by_cases c:av l 0=37
   ·rw [if_pos c];omega
   rw [if_neg c]
   by_cases d:av l 0=47/\av l 1=42
   ·rw [if_pos d]
    cases hc:eE (l.drop 2) with
    | none=>simp
    | some k=>
     have:=uF _ _ hc
     have h:=qk f (l.drop (k+4))
     simp only [aH] at this h |-
     omega
   ·rw [if_neg d];omega
theorem il (l:List UInt8):bS l<=l.length:=qk _ _
theorem An (l:List UInt8) (k:Nat) (h:k<l.length) (a:av l k=42) (b:av l (k+1)=47):eE (l.drop k)=some 0:=by
 rw [fq _ _ h] at a
 rw [<-iJ _ _ h] at a
 have e:l[k]=42:=UInt8.toNat_inj.1 (by show l[k].toNat=42;omega)
 rw [mO l k h,eE,bZ,bv,if_pos ⟨e,b⟩]
theorem uE (l:List UInt8) (k:Nat) (h:k<l.length) (c:¬(av l k=42/\av l (k+1)=47)):eE (l.drop k)=(eE (l.drop (k+1))).map (· + 1):=by
 rw [fq _ _ h] at c
 rw [mO l k h,eE,bZ,bv,if_neg]
 rintro ⟨a,b⟩
 refine c ⟨?_,b⟩
 rw [<-iJ _ _ h,a];rfl
theorem Ao (l:List UInt8) (k:Nat) (h:l.length<=k):eE (l.drop k)=none:=by
 rw [ff h];rfl
theorem qj (l:List UInt8) (k:Nat) (h:k<l.length):bS (l.drop k) =
  if cls (av l k)=1 then 1+bS (l.drop (k+1))
  else if av l k=37 then ch ie (l.drop k)+bS (l.drop (k+ch ie (l.drop k)))
  else if av l k=47/\av l (k+1)=42 then
   match eE (l.drop (k+2)) with
   | none=>0
   | some j=>(j+4)+bS (l.drop (k+(j+4)))
  else 0:=by
 rw [mB]
 have:(l.drop k).isEmpty=false:=by
  rw [mO l k h];rfl
 rw [this]
 simp only [Bool.false_eq_true,if_false,bZ,ci,bv]
theorem GA (l:List UInt8) (k:Nat) (h:l.length<=k):bS (l.drop k)=0:=by
 rw [ff h];rfl
theorem Gz (l:List UInt8) (k:Nat) (h:k<l.length) (a:cls (av l k)=1):bS (l.drop k)=1+bS (l.drop (k+1)):=by rw [qj l k h,if_pos a]
theorem Gy (l:List UInt8) (k:Nat) (h:k<l.length) (a:¬cls (av l k)=1) (b:av l k=37):bS (l.drop k)=ch ie (l.drop k)+bS (l.drop (k+ch ie (l.drop k))):=by rw [qj l k h,if_neg a,if_pos b]
theorem Ep (l:List UInt8) (k:Nat) (h:k<l.length) (a:av l k=47) (b:av l (k+1)=42) (c:eE (l.drop (k+2))=none):bS (l.drop k)=0:=by
 rw [qj l k h,if_neg (by rw [a];decide),if_neg (by rw [a];decide),if_pos ⟨a,b⟩,c]
theorem GB (l:List UInt8) (k j:Nat) (h:k<l.length) (a:av l k=47) (b:av l (k+1)=42) (c:eE (l.drop (k+2))=some j):bS (l.drop k)=(j+4)+bS (l.drop (k+(j+4))):=by
 rw [qj l k h,if_neg (by rw [a];decide),if_neg (by rw [a];decide),if_pos ⟨a,b⟩,c]
theorem CL (l:List UInt8) (k:Nat) (h:k<l.length) (a:¬cls (av l k)=1) (b:¬av l k=37) (c:¬(av l k=47/\av l (k+1)=42)):bS (l.drop k)=0:=by
 rw [qj l k h,if_neg a,if_neg b,if_neg c]
structure LexR where
 kind:Int
 text:List UInt8
 n:Int
 at_:Int
 end_:Int
 err:Int
def dR (e:Int):LexR:=⟨0,[],0,0,0,e⟩
def dM (d:Int) (a:List UInt8) (b c:Int):LexR:=if 100<a.length then dR 2 else ⟨d,a,0,b,c,0⟩
def ly (c:Int):Int:=if cls c=3 then 3 else 1
def mA (c:Int):Int:=if c=33\/c=59 then 1 else 6
def pf (m:List UInt8) (p:Nat):LexR:=dM (ly (av m p)) ((m.drop p).take (ch dI (m.drop p))) p (p+ch dI (m.drop p))
def jH (c:Int):Bool:=decide (c<0)||(c==37||cls c==1)
def nI (m:List UInt8) (p:Nat):LexR :=
 if av m p=46/\jH (av m (p+1))=true then ⟨7,[46],0,p,p+1,0⟩
 else dM 1 ((m.drop p).take (ch dC (m.drop p))) p (p+ch dC (m.drop p))
def rZ (m:List UInt8) (p:Nat):LexR:=dM (mA (av m p)) ((m.drop p).take 1) p (p+1)
def db (c:Int) (l:List UInt8):Nat:=l.foldl (fun a b=>a * c.toNat+(pb (b.toNat:Int) c).toNat) 0
def intR (a:Int) (b:List UInt8) (p e:Int):LexR :=
 if db a b<=9223372036854775808 then ⟨4,[],if db a b=9223372036854775808 then -9223372036854775808 else db a b,p,e,0⟩ else dR 7
def cq (a:Int) (c:Int):Bool:=ii c a
def ke (l:List UInt8):Int:=if av l 1=120 then 16 else 8
def fo (l:List UInt8):Nat:=if av l 1=120 then 2 else 1
def fQ (l:List UInt8):Nat:=ch (cq (ke l)) (l.drop (fo l))
def jA (l:List UInt8):Nat:=db (ke l) ((l.drop (fo l)).take (fQ l))
def cO (l:List UInt8) (q:Int):Option (Int×Nat) :=
 if av l 0<0\/av l 0=10 then none
 else if av l 0=q then (if av l 1=q then some (q,2) else none)
 else if av l 0≠92 then some (av l 0,1)
 else if lP (av l 1)=true then some (uP (av l 1),2)
 else if 0<fQ l/\jA l<=255/\av l (fo l+fQ l)=92 then some (jA l,fo l+fQ l+1)
 else none
def cF (m:List UInt8) (p:Nat):Int:=if av m p=48 then (if av m (p+1)=120 then 16 else if av m (p+1)=111 then 8 else if av m (p+1)=98 then 2 else 0) else 0
def jP (m l:List UInt8) (p:Nat):LexR :=
 if av m p=48/\av m (p+1)=39 then
  match cO (l.drop (p+2)) 39 with
  | none=>dR 7
  | some (c,k)=>⟨4,[],c,p,p+2+k,0⟩
 else if 0<cF m p/\0<ch (cq (cF m p)) (m.drop (p+2)) then
  intR (cF m p) ((m.drop (p+2)).take (ch (cq (cF m p)) (m.drop (p+2)))) p (p+2+ch (cq (cF m p)) (m.drop (p+2)))
 else intR 10 ((m.drop p).take (ch (cq 10) (m.drop p))) p (p+ch (cq 10) (m.drop p))
def kd:Nat->List UInt8->Int->Option (List UInt8×Nat)
 | 0,_,_=>none
 | f+1,l,q=>
  if av l 0=q/\¬av l 1=q then some ([],0)
  else if av l 0=92/\av l 1=10 then (kd f (l.drop 2) q).map fun x=>(x.1,x.2+2)
  else match cO l q with
   | none=>none
   | some (c,k)=>(kd f (l.drop k) q).map fun x=>(c.toNat.toUInt8::x.1,x.2+k)
def lg (l:List UInt8) (q:Int):Option (List UInt8×Nat):=kd (l.length+1) l q
def nQ (p:Nat):Option (List UInt8×Nat)->LexR
 | none=>dR 7
 | some x=>⟨5,x.1,0,p,p+1+x.2+1,0⟩
def tQ (p:Nat):Option (List UInt8×Nat)->LexR
 | none=>dR 7
 | some x=>dM 2 x.1 p (p+1+x.2+1)
def iD (m l:List UInt8) (p:Nat):LexR :=
 if av m p=34 then nQ p (lg (l.drop (p+1)) 34)
 else if av m p=39 then tQ p (lg (l.drop (p+1)) 39)
 else dR 7
def cC (m l:List UInt8) (p:Nat):LexR :=
 if av m p=47/\av m (p+1)=42 then dR 7
 else if cls (av m p)=2\/cls (av m p)=3 then pf m p
 else if cls (av m p)=4 then jP m l p
 else if cls (av m p)=5 then nI m p
 else if cls (av m p)=6 then rZ m p
 else if cls (av m p)=7 then iD m l p
 else dR 7
structure NextR where
 r:LexR
 lay:Bool
 where_:Int
def bF (m l:List UInt8) (a:Nat):NextR :=
 let p:=a+bS (m.drop a)
 if p=l.length then ⟨dR 14,false,p⟩
 else if (cC m l p).err=0 then ⟨cC m l p,decide (a<p),0⟩
 else ⟨dR (cC m l p).err,false,p⟩
def qK (c:Int):Int:=if 48<=c/\c<=57 then c-48 else if 97<=c/\c<=122 then c-97+10 else if 65<=c/\c<=90 then c-65+10 else 36
theorem IN (c:Int):0<=qK c:=by unfold qK;grind
theorem IP (c:Int):qK c<=36:=by unfold qK;grind
theorem Dx (c a:Int) (b:2<=a) (d:a<=36):MD c a=if qK c<a then some (qK c) else none:=by
 unfold MD qK;grind
theorem lx (c a:Int) (b:2<=a) (d:a<=36):ii c a=decide (qK c<a):=by
 unfold ii;rw [Dx c a b d];grind
theorem Ah (c a:Int) (b:2<=a) (d:a<=36) (h:qK c<a):pb c a=qK c:=by
 unfold pb;rw [Dx c a b d,if_pos h];rfl
theorem pL (a:Int) (l:List UInt8) (b:UInt8):db a (l++[b])=db a l * a.toNat+(pb (b.toNat:Int) a).toNat:=by
 unfold db;rw [eL];rfl
theorem tR (a:Int) (l:List UInt8) (k:Nat) (h:k<l.length):db a (l.take (k+1))=db a (l.take k) * a.toNat+(pb (iK l k) a).toNat:=by
 rw [List.take_succ_eq_append_getElem h,pL,iJ _ _ h]
theorem mJ (c:Int) (h:1<=c):∀(l:List UInt8) (a:Nat),a<=l.foldl (fun a b=>a * c.toNat+(pb (b.toNat:Int) c).toNat) a
 | [],a=>ag _
 | b::l,a=>by
  have:=mJ c h l (a * c.toNat+(pb (b.toNat:Int) c).toNat)
  have d:1<=c.toNat:=by omega
  have e:a<=a * c.toNat:=Nat.le_mul_of_pos_right a d
  rw [List.foldl_cons];omega
theorem pM (c:Int) (h:1<=c) (l:List UInt8) (k:Nat):db c (l.take k)<=db c l:=by
 have e:db c l=(l.drop k).foldl (fun a b=>a * c.toNat+(pb (b.toNat:Int) c).toNat) (db c (l.take k)):=by
  unfold db
  rw [<-eL,List.take_append_drop]
 rw [e];exact mJ c h _ _
theorem JF (n a b:Int) (e:0<b) (f:a<=0):n<a.tdiv b↔n * b<a:=by
 obtain ⟨m,rfl⟩:∃m,a=-m:=⟨-a,by omega⟩
 rw [Int.neg_tdiv,Int.tdiv_eq_ediv_of_nonneg (by omega)]
 constructor
 ·intro h
  have c:m / b < -n:=by omega
  have d:=(Int.ediv_lt_iff_lt_mul e).1 c
  rw [Int.neg_mul] at d;omega
 ·intro h
  have c:m < -n * b:=by rw [Int.neg_mul];omega
  have d:=(Int.ediv_lt_iff_lt_mul e).2 c
  omega
theorem Bq (a d b:Int) (c:0<b) (e:0<=d) (f:d<=36):-a<(-9223372036854775808+d).tdiv b↔9223372036854775808<a * b+d:=by
 rw [JF _ _ _ c (by omega),Int.neg_mul];omega
theorem my (q:Int->Bool):∀(l:List UInt8) (j:Nat),j<ch q l->q (av l j)=true/\j<l.length
 | [],j,h=>by simp [ch] at h
 | b::l,j,h=>by
  rw [ch] at h
  split at h
  ·rename_i a
   match j with
   | 0=>rw [dy];exact ⟨a,by simp⟩
   | j+1=>
    have:=my q l j (by omega)
    rw [fP];exact ⟨this.1,by simp;exact this.2⟩
  ·omega
theorem rq (q:Int->Bool) (h:q (-1)=false):∀(l:List UInt8),q (av l (ch q l))=false
 | []=>by rw [ko _ _ (by simp)];exact h
 | b::l=>by
  rw [ch]
  split
  ·rw [fP];exact rq q h l
  ·rename_i a
   rw [dy];simpa using a
theorem rI (a:Int):cq a (-1)=false:=by
 unfold cq ii MD
 split
 ·rfl
 ·rename_i h
  rw [if_neg]
  ·rfl
  ·simp;omega
theorem tS (base:Int) (b:2<=base) (c:base<=36) (l:List UInt8) (j:Nat) (e:j<ch (cq base) l):(db base (l.take (j+1)):Int)=db base (l.take j) * base+pb (av l j) base/\0<=pb (av l j) base/\pb (av l j) base<=36:=by
 obtain ⟨a,d⟩:=my _ _ _ e
 rw [fq _ _ d] at a |-
 unfold cq at a
 rw [lx _ _ b c] at a
 have hd:qK (iK l j)<base:=by simpa using a
 have:=IN (iK l j)
 have:=IP (iK l j)
 rw [tR _ _ _ d,Ah _ _ b c hd]
 refine ⟨?_,by omega,by omega⟩
 push_cast
 rw [Int.toNat_of_nonneg (by omega),Int.toNat_of_nonneg (by omega)]
theorem jX (l:List UInt8) (q:Int) (h:av l 0=92) (b:¬av l 0=q) (c:lP (av l 1)=false) (d:¬(0<fQ l/\jA l<=255/\av l (fo l+fQ l)=92)):cO l q=none:=by
 unfold cO;rw [if_neg (by omega),if_neg b,if_neg (fun a=>a h),c,if_neg (by simp),if_neg d]
theorem vV (l:List UInt8) (q:Int) (h:av l 0=92) (b:¬av l 0=q) (c:lP (av l 1)=false) (d:0<fQ l/\jA l<=255/\av l (fo l+fQ l)=92):cO l q=some ((jA l:Int),fo l+fQ l+1):=by
 unfold cO;rw [if_neg (by omega),if_neg b,if_neg (fun a=>a h),c,if_neg (by simp),if_pos d]
theorem FV (c:Int) (h:lP c=true):0<=uP c/\uP c<=255/\0<=c/\c<=255:=by
 unfold lP uP DQ at *
 grind (splits:=30)
theorem fa (l:List UInt8) (q c:Int) (k:Nat) (g:0<=q/\q<=255) (h:cO l q=some (c,k)):1<=k/\k<=l.length/\0<=c/\c<=255:=by
 unfold cO at h
 have i:=dX l 0
 have j:=dX l 1
 by_cases d:av l 0<0\/av l 0=10
 ·rw [if_pos d] at h;cases h
 rw [if_neg d] at h
 by_cases e:av l 0=q
 ·rw [if_pos e] at h
  by_cases a:av l 1=q
  ·rw [if_pos a] at h;injection h with h;injection h with e1 e2;subst e1;subst e2;omega
  ·rw [if_neg a] at h;cases h
 rw [if_neg e] at h
 by_cases a:av l 0≠92
 ·rw [if_pos a] at h;injection h with h;injection h with e1 e2;subst e1;subst e2
  have:=GX l 0
  omega
 rw [if_neg a] at h
 by_cases b:lP (av l 1)=true
 ·rw [if_pos b] at h;injection h with h;injection h with e1 e2;subst e1;subst e2
  have:=FV _ b
  omega
 rw [if_neg b] at h
 by_cases f:0<fQ l/\jA l<=255/\av l (fo l+fQ l)=92
 ·rw [if_pos f] at h;injection h with h;injection h with e1 e2;subst e1;subst e2
  have m:=dX l (fo l+fQ l)
  omega
 ·rw [if_neg f] at h;cases h
theorem ni (q:Int) (d:0<=q/\q<=255):∀(f g:Nat) (l:List UInt8),l.length<f->l.length<g->kd f l q=kd g l q
 | 0,_,_,h,_=>absurd h (by omega)
 | _+1,0,_,_,h=>absurd h (by omega)
 | f+1,g+1,l,h1,h2=>by
  unfold kd
  have e:=dX l 0
  by_cases a:av l 0=q/\¬av l 1=q
  ·rw [if_pos a,if_pos a]
  rw [if_neg a,if_neg a]
  by_cases b:av l 0=92/\av l 1=10
  ·have i:=dX l 1
   rw [if_pos b,if_pos b,ni q d f g (l.drop 2) (by simp;omega) (by simp;omega)]
  rw [if_neg b,if_neg b]
  cases hs:cO l q with
  | none=>rfl
  | some ck=>
   obtain ⟨c,k⟩:=ck
   have:=fa l q c k d hs
   simp only []
   rw [ni q d f g (l.drop k) (by simp;omega) (by simp;omega)]
theorem nh (l:List UInt8) (q:Int) (d:0<=q/\q<=255):lg l q =
  if av l 0=q/\¬av l 1=q then some ([],0)
  else if av l 0=92/\av l 1=10 then (lg (l.drop 2) q).map fun x=>(x.1,x.2+2)
  else match cO l q with
   | none=>none
   | some (c,k)=>(lg (l.drop k) q).map fun x=>(c.toNat.toUInt8::x.1,x.2+k):=by
 have e:=dX l 0
 unfold lg
 rw [kd]
 by_cases a:av l 0=q/\¬av l 1=q
 ·rw [if_pos a,if_pos a]
 rw [if_neg a,if_neg a]
 by_cases b:av l 0=92/\av l 1=10
 ·have f:=dX l 1
  rw [if_pos b,if_pos b,ni q d l.length ((l.drop 2).length+1) (l.drop 2) (by simp;omega) (by omega)]
 rw [if_neg b,if_neg b]
 cases hs:cO l q with
 | none=>rfl
 | some ck=>
  obtain ⟨c,k⟩:=ck
  have:=fa l q c k d hs
  simp only []
  rw [ni q d l.length ((l.drop k).length+1) (l.drop k) (by simp;omega) (by omega)]
def iX (l:List UInt8) (q:Int) (a:List UInt8) (j:Nat):Option (List UInt8×Nat):=(lg (l.drop j) q).map fun x=>(a++x.1,j+x.2)
theorem ud (l:List UInt8) (q:Int) (d:0<=q/\q<=255) (a:List UInt8) (j:Nat) (b:av l j=q) (c:¬av l (j+1)=q):iX l q a j=some (a,j):=by
 unfold iX;rw [nh _ _ d,bZ,bZ,bv,if_pos ⟨b,c⟩];simp
theorem sn (l:List UInt8) (q:Int) (e:0<=q/\q<=255) (a:List UInt8) (j:Nat) (b:¬(av l j=q/\¬av l (j+1)=q)) (c:av l j=92) (d:av l (j+1)=10):iX l q a j=iX l q a (j+2):=by
 unfold iX;rw [nh _ _ e,bZ,bZ,bv,if_neg b,if_pos ⟨c,d⟩,ci,Option.map_map]
 congr 1;funext x;simp;omega
theorem jW (l:List UInt8) (q:Int) (e:0<=q/\q<=255) (a:List UInt8) (j:Nat) (b:¬(av l j=q/\¬av l (j+1)=q)) (c:¬(av l j=92/\av l (j+1)=10)) (d:cO (l.drop j) q=none):iX l q a j=none:=by
 unfold iX;rw [nh _ _ e,bZ,bZ,bv,if_neg b,if_neg c,d];rfl
theorem jV (l:List UInt8) (q:Int) (f:0<=q/\q<=255) (a:List UInt8) (j k:Nat) (c:Int) (b:¬(av l j=q/\¬av l (j+1)=q)) (d:¬(av l j=92/\av l (j+1)=10)) (e:cO (l.drop j) q=some (c,k)):iX l q a j=iX l q (a++[c.toNat.toUInt8]) (j+k):=by
 unfold iX;rw [nh _ _ f,bZ,bZ,bv,if_neg b,if_neg d,e]
 simp only []
 rw [ci,Option.map_map]
 congr 1;funext x;simp;omega
theorem mM (q:Int) (a:0<=q/\q<=255):∀(f:Nat) (l:List UInt8) (t:List UInt8) (k:Nat),kd f l q=some (t,k)->k+1<=l.length
 | 0,_,_,_,h=>by cases h
 | f+1,l,t,k,h=>by
  unfold kd at h
  have m:=dX l 0
  by_cases e:av l 0=q/\¬av l 1=q
  ·rw [if_pos e] at h;injection h with h;injection h with e1 e2;subst e2;omega
  rw [if_neg e] at h
  by_cases g:av l 0=92/\av l 1=10
  ·have n:=dX l 1
   rw [if_pos g] at h
   cases hi:kd f (l.drop 2) q with
   | none=>rw [hi] at h;cases h
   | some x=>
    obtain ⟨d,b⟩:=x
    have:=mM q a f (l.drop 2) d b hi
    rw [hi] at h;injection h with h;injection h with e1 e2;subst e2
    rw [aH] at this;simp only [];omega
  rw [if_neg g] at h
  cases hs:cO l q with
  | none=>rw [hs] at h;cases h
  | some ck=>
   obtain ⟨c,j⟩:=ck
   have i:=fa l q c j a hs
   rw [hs] at h
   simp only [] at h
   cases hi:kd f (l.drop j) q with
   | none=>rw [hi] at h;cases h
   | some x=>
    obtain ⟨d,b⟩:=x
    have:=mM q a f (l.drop j) d b hi
    rw [hi] at h;injection h with h;injection h with e1 e2;subst e2
    rw [aH] at this;simp only [];omega
theorem io (b:Int) (t:List UInt8) (a e:Int) (h:(dM b t a e).err=0):(dM b t a e).at_=a/\(dM b t a e).end_=e/\(dM b t a e).kind=b/\(dM b t a e).text=t:=by
 unfold dM at *
 by_cases c:100<t.length
 ·rw [if_pos c] at h;exact absurd h (by decide)
 ·rw [if_neg c];exact ⟨rfl,rfl,rfl,rfl⟩
theorem sP (b:Int) (t:List UInt8) (a e:Int) (h:(intR b t a e).err=0):(intR b t a e).at_=a/\(intR b t a e).end_=e:=by
 unfold intR at *
 by_cases c:db b t<=9223372036854775808
 ·rw [if_pos c];exact ⟨rfl,rfl⟩
 ·rw [if_neg c] at h;exact absurd h (by decide)
theorem Fr (c:Int) (h:cls c=2\/cls c=3):dI c=true:=by unfold dI;rcases h with h | h <;> rw [h] <;> rfl
theorem Fq (c:Int) (h:cls c=4):cq 10 c=true:=by
 have a:48<=c/\c<=57:=by unfold cls at h;grind (splits:=30)
 unfold cq;rw [lx _ _ (by decide) (by decide)];unfold qK;rw [if_pos a];simp;omega
theorem JC (m l:List UInt8) (v:m.length=l.length) (p:Nat) (w:p<l.length) (h:(cC m l p).err=0):(cC m l p).at_=p/\∃e:Nat,(cC m l p).end_=e/\p<e/\e<=l.length:=by
 unfold cC at *
 have hd:0<(m.drop p).length:=by simp;omega
 have o:av (m.drop p) 0=av m p:=by rw [bZ,bv]
 by_cases a0:av m p=47/\av m (p+1)=42
 ·rw [if_pos a0] at h;exact absurd h (by decide)
 rw [if_neg a0] at *
 by_cases i:cls (av m p)=2\/cls (av m p)=3
 ·rw [if_pos i] at *
  have s:=lC dI (m.drop p) hd (by rw [o];exact Fr _ i)
  have f:=fW dI (m.drop p)
  rw [aH] at f
  obtain ⟨a,b,_⟩:=io _ _ _ _ h
  exact ⟨a,p+ch dI (m.drop p),by unfold pf;rw [b];simp,by omega,by omega⟩
 rw [if_neg i] at *
 by_cases j:cls (av m p)=4
 ·rw [if_pos j] at *
  unfold jP at *
  by_cases d:av m p=48/\av m (p+1)=39
  ·rw [if_pos d] at *
   cases hq:cO (l.drop (p+2)) 39 with
   | none=>rw [hq] at h;exact absurd h (by show ¬(7:Int)=0;decide)
   | some ck=>
    obtain ⟨c,k⟩:=ck
    have u:=fa _ _ _ _ (by decide) hq
    rw [aH] at u
    exact ⟨rfl,p+2+k,by simp,by omega,by omega⟩
  rw [if_neg d] at *
  by_cases g:0<cF m p/\0<ch (cq (cF m p)) (m.drop (p+2))
  ·rw [if_pos g] at *
   have f:=fW (cq (cF m p)) (m.drop (p+2))
   rw [aH] at f
   obtain ⟨a,b⟩:=sP _ _ _ _ h
   exact ⟨a,p+2+ch (cq (cF m p)) (m.drop (p+2)),by rw [b];simp,by omega,by omega⟩
  ·rw [if_neg g] at *
   have s:=lC (cq 10) (m.drop p) hd (by rw [o];exact Fq _ j)
   have f:=fW (cq 10) (m.drop p)
   rw [aH] at f
   obtain ⟨a,b⟩:=sP _ _ _ _ h
   exact ⟨a,p+ch (cq 10) (m.drop p),by rw [b];simp,by omega,by omega⟩
 rw [if_neg j] at *
 by_cases n:cls (av m p)=5
 ·rw [if_pos n] at *
  unfold nI at *
  by_cases d:av m p=46/\jH (av m (p+1))=true
  ·rw [if_pos d];exact ⟨rfl,p+1,by simp,by omega,by omega⟩
  ·rw [if_neg d] at *
   have s:=lC dC (m.drop p) hd (by rw [o];unfold dC;rw [n];rfl)
   have f:=fW dC (m.drop p)
   rw [aH] at f
   obtain ⟨a,b,_⟩:=io _ _ _ _ h
   exact ⟨a,p+ch dC (m.drop p),by rw [b];simp,by omega,by omega⟩
 rw [if_neg n] at *
 by_cases q:cls (av m p)=6
 ·rw [if_pos q] at *
  obtain ⟨a,b,_⟩:=io _ _ _ _ h
  exact ⟨a,p+1,by unfold rZ;rw [b];simp,by omega,by omega⟩
 rw [if_neg q] at *
 by_cases r:cls (av m p)=7
 ·rw [if_pos r] at *
  unfold iD at *
  by_cases d:av m p=34
  ·rw [if_pos d] at *
   cases hi:lg (l.drop (p+1)) 34 with
   | none=>rw [hi] at h;exact absurd h (by show ¬(7:Int)=0;decide)
   | some x=>
    obtain ⟨t,k⟩:=x
    have:=mM 34 (by decide) _ _ _ _ hi
    rw [aH] at this
    exact ⟨rfl,p+1+k+1,by simp [nQ],by omega,by omega⟩
  rw [if_neg d] at *
  by_cases g:av m p=39
  ·rw [if_pos g] at *
   cases hi:lg (l.drop (p+1)) 39 with
   | none=>rw [hi] at h;exact absurd h (by show ¬(7:Int)=0;decide)
   | some x=>
    obtain ⟨t,k⟩:=x
    have:=mM 39 (by decide) _ _ _ _ hi
    rw [aH] at this
    rw [hi] at h
    obtain ⟨a,b,_⟩:=io _ _ _ _ h
    exact ⟨a,p+1+k+1,by unfold tQ;rw [b];simp,by omega,by omega⟩
  ·rw [if_neg g] at h;exact absurd h (by decide)
 ·rw [if_neg r] at h;exact absurd h (by decide)
theorem zH (m l:List UInt8) (j:m.length=l.length) (a:Nat) (n:a<=l.length) (h:(bF m l a).r.err=0) :
  ∃p e:Nat,(bF m l a).r.at_=p/\a<=p/\(bF m l a).r.end_=e/\p<e/\e<=l.length/\(bF m l a).lay=decide (a<p)/\(bF m l a).where_=0:=by
 unfold bF at *
 have k:=il (m.drop a)
 rw [aH] at k
 by_cases c:a+bS (m.drop a)=l.length
 ·simp only [if_pos c] at h;exact absurd h (by decide)
 simp only [if_neg c] at *
 by_cases b:(cC m l (a+bS (m.drop a))).err=0
 ·simp only [if_pos b] at *
  obtain ⟨d,e,f,g,i⟩:=JC m l j (a+bS (m.drop a)) (by omega) h
  exact ⟨_,e,d,by omega,f,g,i,rfl,by first | trivial | rfl⟩
 ·simp only [if_neg b] at h
  exact absurd h b
structure AllR where
 l:List NextR
 where_:Int
 err:Int
def rT:Nat->List UInt8->List UInt8->Nat->List NextR->AllR
 | 0,_,_,_,_=>⟨[],0,99⟩
 | f+1,m,l,a,acc=>
  if (bF m l a).r.err=14/\acc≠[] then ⟨[],(bF m l a).where_,7⟩
  else if ¬(bF m l a).r.err=0 then ⟨[],(bF m l a).where_,(bF m l a).r.err⟩
  else if (bF m l a).r.kind=7 then ⟨acc++[bF m l a],0,0⟩
  else rT f m l (bF m l a).r.end_.toNat (acc++[bF m l a])
def pZ (m l:List UInt8) (a:Nat):AllR:=rT (l.length+1) m l a []
theorem mS (f:Nat) (m l:List UInt8) (a:Nat) (b:List NextR):rT (f+1) m l a b =
  if (bF m l a).r.err=14/\b≠[] then ⟨[],(bF m l a).where_,7⟩
  else if ¬(bF m l a).r.err=0 then ⟨[],(bF m l a).where_,(bF m l a).r.err⟩
  else if (bF m l a).r.kind=7 then ⟨b++[bF m l a],0,0⟩
  else rT f m l (bF m l a).r.end_.toNat (b++[bF m l a]):=rfl
def MN (q:Int) (b:UInt8):List UInt8:=(if (b.toNat:Int)=34/\q=34 then [92] else [])++Ab (b.toNat:Int)
def lL (q:Int) (s:List UInt8):List UInt8:=s.flatMap (MN q)
theorem wo (q:Int) (b:UInt8) (s:List UInt8):lL q (b::s)=MN q b++lL q s:=by simp [lL]
theorem Fv (q:Int) (b:UInt8) (s:List UInt8):lL q (s++[b])=lL q s++MN q b:=by simp [lL]
theorem rx (b:UInt8) (l:List UInt8):av (b::l) 0=(b.toNat:Int):=dy b l
theorem uS (a b:UInt8) (l:List UInt8):av (a::b::l) 1=(b.toNat:Int):=by rw [fP,dy]
theorem Oh (a b c d:UInt8) (l:List UInt8):av (a::b::c::d::l) 3=(d.toNat:Int):=by rw [fP,fP,fP,dy]
theorem Og (a b c d e:UInt8) (l:List UInt8):av (a::b::c::d::e::l) 4=(e.toNat:Int):=by rw [fP,fP,fP,fP,dy]
structure Reads (q:Int) (e:List UInt8) (c:Int):Prop where
 rd:∀r,cO (e++r) q=some (c,e.length)
 n:∀r,¬av (e++r) 0=q
 k:∀r,¬(av (e++r) 0=92/\av (e++r) 1=10)
theorem za (q:Int) (b:UInt8) (d:32<=(b.toNat:Int)) (a:¬(b.toNat:Int)=q) (c:¬(b.toNat:Int)=92):Reads q [b] (b.toNat:Int) where
 rd:=fun r=>by
  unfold cO
  simp only [List.singleton_append,rx]
  rw [if_neg (by omega),if_neg a,if_pos c];rfl
 n:=fun r=>by rw [List.singleton_append,rx];exact a
 k:=fun r=>by rw [List.singleton_append,rx];exact fun h=>c h.1
theorem rv (q:Int) (x:UInt8) (c:Int) (b:q=39\/q=34) (h:DQ (x.toNat:Int)=some c) (a:¬(x.toNat:Int)=10):Reads q [92,x] c where
 rd:=fun r=>by
  unfold cO
  simp only [ak,an,rx,uS]
  rw [if_neg (by decide),if_neg (by show ¬((92:UInt8).toNat:Int)=q;simp;omega),if_neg (by decide),if_pos (by unfold lP;rw [h];rfl)]
  unfold uP;rw [h];rfl
 n:=fun r=>by simp only [ak,rx];simp;omega
 k:=fun r=>by simp only [ak,an,rx,uS];exact fun h=>a h.2
theorem KF:∀n:Nat,n<256->cq 16 ((nj (n / 16)).toNat:Int)=true/\cq 16 ((nj (n % 16)).toNat:Int)=true/\db 16 [nj (n / 16),nj (n % 16)]=n:=by decide +kernel
theorem Iy:∀n:Nat,n<16->cq 16 ((nj n).toNat:Int)=true/\db 16 [nj n]=n:=by decide +kernel
theorem Nv:cq 16 ((92:UInt8).toNat:Int)=false:=by decide +kernel
theorem Bd (q:Int) (x y:UInt8) (c:Nat) (j:q=39\/q=34) (e:cq 16 (x.toNat:Int)=true) (f:cq 16 (y.toNat:Int)=true) (g:db 16 [x,y]=c) (h:c<=255):Reads q [92,120,x,y,92] c where
 rd:=fun r=>by
  have b:ke ([92,120,x,y,92]++r)=16:=by unfold ke;simp only [ak,uS];rfl
  have a:fo ([92,120,x,y,92]++r)=2:=by unfold fo;simp only [ak,uS];rfl
  have d:fQ ([92,120,x,y,92]++r)=2:=by unfold fQ;rw [b,a];simp only [ak,an,ij,cY,ch,e,f,Nv];rfl
  have i:jA ([92,120,x,y,92]++r)=c:=by unfold jA;rw [b,a,d];simp only [ak,an,ij,cY,fU,List.take_zero];exact g
  unfold cO
  rw [d,a,i]
  simp only [ak,an,rx,uS]
  rw [if_neg (by decide),if_neg (by show ¬((92:UInt8).toNat:Int)=q;simp;omega),if_neg (by decide),if_neg (by decide +kernel),if_pos ⟨by decide,h,Og _ _ _ _ _ _⟩];rfl
 n:=fun r=>by simp only [ak,rx];simp;omega
 k:=fun r=>by simp only [ak,an,rx,uS];decide
theorem Be (q:Int) (x:UInt8) (c:Nat) (i:q=39\/q=34) (e:cq 16 (x.toNat:Int)=true) (f:db 16 [x]=c) (g:c<=255):Reads q [92,120,x,92] c where
 rd:=fun r=>by
  have b:ke ([92,120,x,92]++r)=16:=by unfold ke;simp only [ak,uS];rfl
  have a:fo ([92,120,x,92]++r)=2:=by unfold fo;simp only [ak,uS];rfl
  have d:fQ ([92,120,x,92]++r)=1:=by unfold fQ;rw [b,a];simp only [ak,an,ij,cY,ch,e,Nv];rfl
  have h:jA ([92,120,x,92]++r)=c:=by unfold jA;rw [b,a,d];simp only [ak,an,ij,cY,fU,List.take_zero];exact f
  unfold cO
  rw [d,a,h]
  simp only [ak,an,rx,uS]
  rw [if_neg (by decide),if_neg (by show ¬((92:UInt8).toNat:Int)=q;simp;omega),if_neg (by decide),if_neg (by decide +kernel),if_pos ⟨by decide,g,Oh _ _ _ _ _⟩];rfl
 n:=fun r=>by simp only [ak,rx];simp;omega
 k:=fun r=>by simp only [ak,an,rx,uS];decide
theorem zQ:∀n:Nat,n<256->7<=n/\n<=13->DQ ((letters.getD (((n:Int)-7).toNat) 0).toNat:Int)=some (n:Int)/\¬((letters.getD (((n:Int)-7).toNat) 0).toNat:Int)=10:=by decide +kernel
theorem Ft (b:UInt8):((b.toNat:Int).toNat).toUInt8=b:=by simp
theorem EF (q:Int) (b:UInt8) (c:q=39\/q=34):Reads q (MN q b) (b.toNat:Int):=by
 have g:=b.toNat_lt
 have h:=Ft b
 unfold MN Ab
 rw [if_neg (show ¬¬(0<=(b.toNat:Int)/\(b.toNat:Int)<=255) by omega)]
 by_cases e:7<=(b.toNat:Int)/\(b.toNat:Int)<=13
 ·rw [if_neg (by omega),if_pos e,an]
  have:=zQ b.toNat g (by omega)
  exact rv _ _ _ c this.1 this.2
 rw [if_neg e]
 by_cases f:(b.toNat:Int)=39\/(b.toNat:Int)=92
 ·rw [if_neg (by omega),if_pos f,an,h]
  exact rv _ _ _ c (by unfold DQ;rw [if_pos (by omega)]) (by omega)
 rw [if_neg f]
 by_cases d:32<=(b.toNat:Int)/\(b.toNat:Int)<=126
 ·rw [if_pos d,h]
  by_cases a:(b.toNat:Int)=34/\q=34
  ·rw [if_pos a]
   exact rv _ _ _ c (by unfold DQ;rw [if_pos (by omega)]) (by omega)
  ·rw [if_neg a,an]
   exact za _ _ d.1 (by omega) (by omega)
 rw [if_neg d,if_neg (by omega),an]
 simp only [Int.toNat_natCast]
 by_cases a:16<=(b.toNat:Int)
 ·rw [if_pos a]
  have:=KF b.toNat g
  exact Bd _ _ _ _ c this.1 this.2.1 this.2.2 (by omega)
 ·rw [if_neg a]
  have:=Iy b.toNat (by omega)
  rw [Nat.mod_eq_of_lt (by omega)]
  exact Be _ _ _ c this.1 this.2 (by omega)
theorem vQ (q:Int) (c:q=39\/q=34) (a:UInt8) (d:(a.toNat:Int)=q):∀s:List UInt8,lg (lL q s++[a]) q=some (s,(lL q s).length)
 | []=>by
  rw [nh _ _ (by omega)]
  show (if av [a] 0=q/\¬av [a] 1=q then _ else _)=_
  rw [if_pos ⟨by rw [rx,d],by rw [ko _ _ (by simp)];omega⟩];rfl
 | b::s=>by
  have R:=EF q b c
  rw [wo,List.append_assoc,nh _ _ (by omega),if_neg (fun h=>R.n _ h.1),if_neg (R.k _),R.rd]
  simp only [List.drop_left,vQ q c a d s]
  simp [Nat.add_comm]
def gB (s:List UInt8):List UInt8:=39::(lL 39 s++[39])
theorem IZ (b:UInt8):MN 39 b=Ab (b.toNat:Int):=by unfold MN;rw [if_neg (fun h=>absurd h.2 (by decide)),an]
def fw (q:Int->Bool) (s:List UInt8):Bool:=s.all fun b=>q (b.toNat:Int)
def wZ (s:List UInt8):Bool:=s==[91,93]||(s==[123,125]||(s==[33]||s==[59]))
def mj (s:List UInt8):Bool :=
 decide (s.length<=100)&&(wZ s||((fw dI s&&cls (av s 0)==2)||(fw dC s&&(!s.isEmpty&&(!(s==[46]) && !(s.take 2==[47,42]))))))
def gA (s:List UInt8):List UInt8:=if mj s=true then s else gB s
def fv (a b:List UInt8):Bool :=
 !a.isEmpty&&(!b.isEmpty&&((dI (av a (a.length-1))&&dI (av b 0))||((dC (av a (a.length-1))&&dC (av b 0))||((av a (a.length-1)==av b 0&&cls (av a (a.length-1))==7)||(a==[48]&&av b 0==39)))))
def mC (a b:List UInt8):List UInt8:=if fv a b=true then [32] else []
def gQ (a:List UInt8):List (List UInt8)->List UInt8
 | []=>[]
 | s::l=>mC a s++s++gQ s l
def fJ (l:List (List UInt8)):List UInt8:=gQ [] l
theorem CF (s:ByteArray):∀(d i:Nat) (r:List UInt8),s.size-i=d->ft s i r=r.reverse++s.data.toList.drop i
 | 0,i,r,h=>by
  unfold ft
  rw [if_neg (by omega),ff (by simp;omega)];simp
 | d+1,i,r,h=>by
  have a:i<s.size:=by omega
  have b:i<s.data.toList.length:=by simpa using a
  unfold ft
  rw [if_pos a,CF s d (i+1) _ (by omega),eJ b]
  simp [ByteArray.get!,a]
  first | rfl | (have:s.data[i]! = s.data[i]:=getElem!_pos s.data i a;simp [this]) | skip
theorem jb (s:ByteArray):s.toList=s.data.toList:=by
 unfold ByteArray.toList
 rw [CF s _ 0 [] rfl];simp
theorem td (s:ByteArray) (h:0<s.size):¬s.toList=[]:=fun e=>by
 rw [jb] at e
 have a:s.data.toList.length=0:=by rw [e];rfl
 have b:s.data.toList.length=s.size:=by simp
 omega
theorem nP (s:ByteArray) (h:0<s.size):s.toList.isEmpty=false:=by
 have:=td s h
 simpa using this
end Hb
namespace Hb
open Go Go.RowKit
structure WO where
 q:Bool
 ig:Bool
 nu:Bool
def tm0:Tm:=.mk 0 0 ⟨#[]⟩ []
def Tm.arg (t:Tm) (j:Nat):Tm:=t.args.getD j tm0
theorem Tm.arg_get (t:Tm) (j:Nat) (h:j<t.args.length):t.arg j=t.args[j]:=by
 unfold Tm.arg;rw [aX,ba h];rfl
def Tm.isNm (t:Tm) (l:List UInt8):Bool:=t.name.toList==l
def s1 (c:UInt8):ByteArray:=⟨#[c]⟩
def kj (n:Int):ByteArray:=⟨(Lib.itoa n).toArray⟩
def jB (o:WO) (s:ByteArray):ByteArray:=if o.q=true then ⟨(gA s.data.toList).toArray⟩ else s
def brk (l:List ByteArray) (b:Bool):List ByteArray:=if b=true then s1 40::(l++[s1 41]) else l
def lI (T:List OpR) (s:ByteArray):Bool:=bB T&&T.any (isNm s)
abbrev WR:=List ByteArray×OpR
def bu (o:WO) (T:List OpR) (S:Tm->WR) (t:Tm) (max:Int) (a:Bool):List ByteArray :=
 if t.kind=0 then [s1 95++kj t.num] else if t.kind=1 then [kj t.num]
 else if t.kind=2 then brk [jB o t.name] (a&&lI T t.name)
 else brk (S t).1 (decide (max<(S t).2.prec))
def cR (o:WO) (T:List OpR) (S:Tm->WR) (t:Tm):List ByteArray:=bu o T S t 999 false
def dh (P:Tm->List ByteArray):List Tm->List ByteArray
 | []=>[]
 | t::l=>P t++l.flatMap fun u=>s1 44::P u
def Tm.cons (t:Tm):Bool:=t.kind==3&&(t.isNm [46]&&t.args.length==2)
theorem Tm.nodes_arg (t:Tm) (j:Nat) (h:j<t.args.length):(t.arg j).nodes<t.nodes:=by
 rw [Tm.arg_get t j h,Tm.nodes_eq t]
 have:∀(l:List Tm) (a:Tm),a∈l->a.nodes<=(l.map Tm.nodes).sum:=by
  intro l
  induction l with
  | nil=>intro a c;cases c
  | cons b l ih=>
   intro a c
   rw [List.map_cons,List.sum_cons]
   rcases List.mem_cons.1 c with rfl | c
   ·omega
   ·have:=ih a c;omega
 have:=this t.args _ (List.getElem_mem h)
 omega
theorem Tm.cons_len {t:Tm} (h:t.cons=true):t.args.length=2:=by
 unfold Tm.cons at h
 simp at h
 exact h.2.2
def mq:Nat->Tm->List Tm
 | 0,_=>[]
 | f+1,t=>if t.cons=true then t.arg 0::mq f (t.arg 1) else []
def rY:Nat->Tm->Tm
 | 0,t=>t
 | f+1,t=>if t.cons=true then rY f (t.arg 1) else t
theorem uv:∀(f g:Nat) (t:Tm),t.nodes<=f->t.nodes<=g->mq f t=mq g t
 | 0,_,t,h,_=>absurd h (by have:=t.nodes_pos;omega)
 | _,0,t,_,h=>absurd h (by have:=t.nodes_pos;omega)
 | f+1,g+1,t,h,k=>by
  show (if t.cons=true then t.arg 0::mq f (t.arg 1) else [])=(if t.cons=true then t.arg 0::mq g (t.arg 1) else [])
  split
  ·rename_i a
   have:=t.nodes_arg 1 (by rw [Tm.cons_len a];decide)
   rw [uv f g (t.arg 1) (by omega) (by omega)]
  ·rfl
theorem vu:∀(f g:Nat) (t:Tm),t.nodes<=f->t.nodes<=g->rY f t=rY g t
 | 0,_,t,h,_=>absurd h (by have:=t.nodes_pos;omega)
 | _,0,t,_,h=>absurd h (by have:=t.nodes_pos;omega)
 | f+1,g+1,t,h,k=>by
  show (if t.cons=true then rY f (t.arg 1) else t)=(if t.cons=true then rY g (t.arg 1) else t)
  split
  ·rename_i a
   have:=t.nodes_arg 1 (by rw [Tm.cons_len a];decide)
   rw [vu f g (t.arg 1) (by omega) (by omega)]
  ·rfl
def cK (t:Tm):List Tm:=mq t.nodes t
def di (t:Tm):Tm:=rY t.nodes t
theorem iw {t:Tm} (h:t.cons=true):cK t=t.arg 0::cK (t.arg 1):=by
 have b:=t.nodes_arg 1 (by rw [Tm.cons_len h];decide)
 unfold cK
 obtain ⟨f,a⟩:∃f,t.nodes=f+1:=⟨t.nodes-1,by have:=t.nodes_pos;omega⟩
 rw [a]
 show (if t.cons=true then t.arg 0::mq f (t.arg 1) else [])=_
 rw [if_pos h,uv f (t.arg 1).nodes (t.arg 1) (by omega) (ag _)]
theorem iH {t:Tm} (h:t.cons=false):cK t=[]:=by
 unfold cK
 obtain ⟨f,a⟩:∃f,t.nodes=f+1:=⟨t.nodes-1,by have:=t.nodes_pos;omega⟩
 rw [a]
 show (if t.cons=true then t.arg 0::mq f (t.arg 1) else [])=_
 rw [if_neg (by simp [h])]
theorem jL {t:Tm} (h:t.cons=true):di t=di (t.arg 1):=by
 have b:=t.nodes_arg 1 (by rw [Tm.cons_len h];decide)
 unfold di
 obtain ⟨f,a⟩:∃f,t.nodes=f+1:=⟨t.nodes-1,by have:=t.nodes_pos;omega⟩
 rw [a]
 show (if t.cons=true then rY f (t.arg 1) else t)=_
 rw [if_pos h,vu f (t.arg 1).nodes (t.arg 1) (by omega) (ag _)]
theorem jt {t:Tm} (h:t.cons=false):di t=t:=by
 unfold di
 obtain ⟨f,a⟩:∃f,t.nodes=f+1:=⟨t.nodes-1,by have:=t.nodes_pos;omega⟩
 rw [a]
 show (if t.cons=true then rY f (t.arg 1) else t)=_
 rw [if_neg (by simp [h])]
def je (o:WO) (t:Tm):Bool:=o.nu&&(t.isNm [36,86,65,82]&&(t.args.length==1&&((t.arg 0).kind==1&&decide (0<=(t.arg 0).num))))
def ld (n:Int):ByteArray:=if n<26 then s1 (65+n.toNat % 26).toUInt8 else s1 (65+n.toNat % 26).toUInt8++kj (n / 26)
def np (s:ByteArray) (i:Nat):Bool:=decide (i<s.size)&&(decide (48<=iK s.data.toList i)&&decide (iK s.data.toList i<=57))
def dE (o:WO) (T:List OpR) (S:Tm->WR) (t:Tm) (op:OpR):List ByteArray :=
 if t.kind=3 then brk (S t).1 (decide (gi op<(S t).2.prec)||((op.typ==3||op.typ==7)&&((S t).2.typ==2||(S t).2.typ==4))&&(S t).2.prec==op.prec)
 else bu o T S t (gi op) true
def has (T:List OpR) (s:ByteArray) (c:Int):Bool:=(dt T s c).isSome
def cP (T:List OpR) (s:ByteArray) (c:Int):OpR:=(dt T s c).getD op0
def hd (l:List ByteArray):ByteArray:=l.headD ⟨#[]⟩
def rE (T:List OpR) (s:ByteArray):Bool:=(decide (0<s.size)&&iK s.data.toList 0==45)&&(np s 1&&((has T (s1 45) 2||has T (s1 45) 3) && !has T (s1 45) 1))
def gD (o:WO) (T:List OpR) (S:Tm->WR) (t:Tm) (op:OpR):List ByteArray :=
 let p:=bu o T S t (dB op) true
 brk p (rE T (hd p))
def sx (a:ByteArray) (p:List ByteArray):Bool:=(hd p).toList==[40]||(a.toList==[45]&&np (hd p) 0)
def jj (o:WO) (s:ByteArray):ByteArray:=if (s.toList==[44]||s.toList==[124])=true then s else jB o s
def jd (P:Tm->List ByteArray) (u:Tm):List ByteArray:=if (u.kind==2&&u.isNm [91,93])=true then [] else s1 124::P u
def mw (o:WO) (T:List OpR) (S:Tm->WR) (t:Tm):WR :=
 if je o t=true then ([ld (t.arg 0).num],op0)
 else if (t.isNm [46]&&t.args.length==2)=true then (s1 91::((dh (cR o T S) (cK t)++jd (cR o T S) (di t))++[s1 93]),op0)
 else if (!o.ig&&(t.isNm [123,125]&&t.args.length==1))=true then (s1 123::(bu o T S (t.arg 0) 1200 false++[s1 125]),op0)
 else if (!o.ig&&(has T t.name 2&&t.args.length==2))=true then ((dE o T S (t.arg 0) (cP T t.name 2)++[jj o t.name])++bu o T S (t.arg 1) (dB (cP T t.name 2)) true,cP T t.name 2)
 else if (!o.ig&&(has T t.name 1&&t.args.length==1))=true then
  (jB o t.name::((if sx t.name (gD o T S (t.arg 0) (cP T t.name 1))=true then [s1 32] else [])++gD o T S (t.arg 0) (cP T t.name 1)),cP T t.name 1)
 else if (!o.ig&&(has T t.name 3&&t.args.length==1))=true then (dE o T S (t.arg 0) (cP T t.name 3)++[jB o t.name],cP T t.name 3)
 else (jB o t.name::(s1 40::(dh (cR o T S) t.args++[s1 41])),op0)
def wY (o:WO) (T:List OpR):Nat->Tm->WR
 | 0=>fun _=>([],op0)
 | f+1=>mw o T (wY o T f)
theorem ls {w w':ai} {b e size:Nat} {v:az} {n:Nat} {xs:List az} (h:w.ownsRow b e size v n xs) (f:ax w.heap.size w w'):w'.ownsRow b e size v n xs:=by
 refine ⟨h.1,?_⟩
 rcases h.2 with j | ⟨g,c,d,k,i,a,rest⟩
 ·exact .inl j
 ·exact .inr ⟨g,c,d,k,i,(f.block g (by rw [Array.getElem?_eq_some_iff] at a;exact a.1)).trans a,rest⟩
theorem pp {T e:bD} {B b:Nat} {p:az} {a:List az} {w w':ai} (h:Lib.BuilderAt T e B b p a w) (c:ax w.heap.size w w'):Lib.BuilderAt T e B b p a w':=by
 have g:=h.lt
 obtain ⟨d,v,f,j,i⟩:=h
 exact ⟨d,v,(c.block b g).trans f,ls j c,i⟩
theorem rH {T e:bD} {B b:Nat} {a:List az} {w w':ai} (h:fy T e B b a w) (c:ax w.heap.size w w'):fy T e B b a w' :=
 h.elim (fun h=>.inl (pp h c)) (fun h=>.inr (pp h c))
theorem Dm (T e:bD) (w:ai):fy T e w.heap.size w.heap.size [] (w.alloc (.cells #[au none,.slice none 0 0] T)) :=
 .inl ⟨ag _,.slice none 0 0,by show (w.heap.push _)[w.heap.size]? = _;simp,World.ownsRow_nil _ _ _ _,by intro h;cases h⟩
end Hb
namespace Go.Proofs.YtlikcjbjibhjgaaGreatDoor
open Go.RowKit Hb
theorem sizeBuilder:(Tryz.prog.info? 108).map (fun i=>i.size)=some 2:=by kernel_rfl
theorem liesBuilder:liesAt ah Tryz.prog.depth 108 (2 / Tryz.prog.cellsOf 108) 0 108 1=true:=by kernel_rfl
theorem infoByte:(Tryz.prog.info? 5).map (fun i=>(i.zero,i.size,i.bytes))=some (some (ab .u8 0),1,1):=by kernel_rfl
theorem Fm (b:Nat) (w:ai) (c:w.cell? ⟨b,0,none⟩=some (au (some ⟨b,0,none⟩))) :
  aJ ah 76 #[au (some ⟨b,0,none⟩)] w fun e w'=>e=aw (aK #[])/\w=w':=by
 obtain ⟨j,a,_⟩:=Option.map_eq_some_iff.1 sizeBuilder
 have d:=fun w'=>Lib.run_neq_ptr_same (P:=ah) w' ⟨b,0,none⟩ Tryz.underlying105 a
 go_enter Tryz.func76,Tryz.ntmps76
 go_wp2
 go_end0
 exact ⟨rfl,rfl⟩
theorem Co (b:Nat) (w:ai) (f:w.cell? ⟨b,0,none⟩=some (au none)) (c:w.shape? b=some (108,2)) (i:w.frozen? ⟨b,0,none⟩=false) :
  aJ ah 76 #[au (some ⟨b,0,none⟩)] w fun e w'=>e=aw (aK #[])/\w'=w.setCell ⟨b,0,none⟩ (au (some ⟨b,0,none⟩)):=by
 obtain ⟨j,a,d⟩:=Option.map_eq_some_iff.1 sizeBuilder
 have k:(callFunc 111 #[au (some ⟨b,0,none⟩)]).run ah w=.ok (.value (au (some ⟨b,0,none⟩))) w:=by
  rw [run_callFunc_extern Tryz.func111 (by kernel_rfl) (by kernel_rfl) (by kernel_rfl) (e:=Extern.AbiNoEscape.same) (by kernel_rfl),Lib.run_noEscape]
  rfl
 have g:=Lib.run_to_unsafe (P:=ah) w ⟨b,0,none⟩ Tryz.underlying105 Tryz.underlying175 a (by rw [d];decide) c (Nat.zero_lt_succ 1)
 have h:=Lib.run_from_unsafe (P:=ah) w ⟨b,0,none⟩ Tryz.underlying175 Tryz.underlying105 a c liesBuilder
 go_enter Tryz.func76,Tryz.ntmps76
 go_wp2
 go_end0
 exact ⟨rfl,rfl⟩
theorem Ay (B b:Nat) (a:List az) (w:ai) (h:fy 108 5 B b a w) :
  aJ ah 76 #[au (some ⟨b,0,none⟩)] w fun e w'=>e=aw (aK #[])/\(Lib.BuilderAt 108 5 B b (au (some ⟨b,0,none⟩)) a w'/\ax B w w'):=by
 rcases h with h | h
 ·refine (Co b w h.cell0 h.shape h.frozen0).mono ?_
  rintro e w' ⟨rfl,rfl⟩
  exact ⟨rfl,h.used _,(aj B w).setCell (p:=⟨b,0,none⟩) h.1 _⟩
 ·refine (Fm b w h.cell0).mono ?_
  rintro e w' ⟨rfl,rfl⟩
  exact ⟨rfl,h,aj B _⟩
theorem vd (B b:Nat) (a:List az) (s:ByteArray) (w:ai) (h:fy 108 5 B b a w) (Q:a.length+s.size<=140737488355328) (P:B<=w.heap.size) :
  aJ ah 51 #[au (some ⟨b,0,none⟩),aa s] w fun e w'=>e=aw (aK #[ab ae s.size,.nilIface])/\(Lib.BuilderAt 108 5 B b (au (some ⟨b,0,none⟩)) (a++Lib.strCells s) w'/\ax B w w'):=by
 obtain ⟨H,z,E,F,G⟩:=info_parts infoByte
 have x:=zq (Ay B b a w h)
 go_enter Tryz.func51,Tryz.ntmps51
 go_wp2_with fail
 refine x.out.mono ?_
 rintro e f ⟨rfl,y,l⟩
 obtain ⟨o,v,d,r,D⟩:=y
 have J:f.cell? ⟨b,0,none⟩=some (au (some ⟨b,0,none⟩)):=by rw [Lib.cell_of_heap d];rfl
 have K:f.cell? ⟨b,1,none⟩=some v:=by rw [Lib.cell_of_heap d];rfl
 go_wp2_with (at_builtin;refine Lib.wpList_append_own_string _ rfl _ _ 106 9 rfl B 5 H Tryz.underlying106 Tryz.underlying9 z E F G _ _ _ rfl r s rfl ?c3 ?c4 ?c5 ?_)
 case c3=>unfold maxLen;omega
 case c4=>omega
 case c5=>have:=l.size;omega
 intro I i t q _
 have C:b<f.heap.size:=by
  rcases cS b f.heap.size with j | j
  ·exact j
  ·simp [Array.getElem?_eq_none j] at d
 have c:i.heap[b]? = some (.cells #[au (some ⟨b,0,none⟩),v] 108 (0,0)):=by
  rw [q.block b C (fun e=>D e.symm)]
  exact d
 have M:i.cell? ⟨b,0,none⟩=some (au (some ⟨b,0,none⟩)):=by rw [Lib.cell_of_heap c];rfl
 have N:i.cell? ⟨b,1,none⟩=some v:=by rw [Lib.cell_of_heap c];rfl
 have O:i.frozen? ⟨b,1,none⟩=false:=Lib.frozen_of_heap c 1
 obtain ⟨n,u,cap,rfl⟩:∃n u cap,I=.slice n u cap:=by
  rcases t.2 with ⟨m,_⟩ | ⟨g,cap,L,m,_⟩
  ·exact ⟨_,_,_,m⟩
  ·exact ⟨_,_,_,m⟩
 go_wp2
 go_ret2
 refine ⟨rfl,?_,?_⟩
 ·exact Lib.BuilderAt.put (T:=108) (e:=5) o c (bs':=a++Lib.strCells s) (by simpa [Lib.strCells_length] using t) (by decide)
 ·exact (l.grown q (by have:=l.size;omega) (fun k A=>(r.lt k A).1)).setCell (p:=⟨b,1,none⟩) o _
end Go.Proofs.YtlikcjbjibhjgaaGreatDoor
