/- Parts of the proof. -/
import Derived.Test.YtgapnafkelokaaaGreatDoorR01
import Derived.Lib.ItoaNum
import Derived.Test.YtgapnafkelokaaaGreatDoorProg
import Derived.Lib.Builder
import Derived.Lib.AppendStr
import Derived.Lib.UnsafeStr
import Derived.Laws.Externs
set_option maxHeartbeats 12800000
set_option maxRecDepth 100000
open ByteArray.toList renaming loop -> eX
open Go renaming Calls -> aG, TypeId -> bJ, Value -> aA, World -> aj, bodyPost_ret -> aw
open Go.Ending renaming returned -> av
open Go.IntKind renaming i64 -> ae
open Go.Lib renaming IsBuilder -> ff
open Go.Proofs.Tryz renaming prog -> ah
open Go.RowKit renaming Below -> ay
open Go.RowKit.Below renaming refl -> ak
open Go.Value renaming bool -> an, int -> ab, pointer -> ax, string -> aa, tuple -> aF
open Go.World renaming cell?_alloc_new -> aq
open List renaming all_eq_true -> bh, append_assoc -> bG, cons_append -> ai, drop_drop -> cI, drop_eq_getElem_cons -> dU, drop_of_length_le -> eI, drop_succ_cons -> gH, drop_zero -> cH, eq_nil_of_length_eq_zero -> bH, foldl_append -> eH, getD_eq_getElem?_getD -> aR, getElem?_eq_getElem -> aT, length_drop -> aI, mem_range -> dB, nil_append -> am
open Nat renaming add_zero -> bq, le_of_lt -> fG, le_refl -> ag, lt_of_lt_of_le -> aB, lt_or_ge -> dy, zero_le -> bj
namespace Hb
open Go Go.RowKit
structure R3 (w0 w:aj):Prop where
 bel:ay w0.heap.size w0 w
 lt:w0.heap.size<w.heap.size
 r0:∃v,w.cell? ⟨w0.heap.size,0,none⟩=some v
 r1:∃v,w.cell? ⟨w0.heap.size,1,none⟩=some v
 r2:∃v,w.cell? ⟨w0.heap.size,2,none⟩=some v
 fr:∀o,w.frozen? ⟨w0.heap.size,o,none⟩=false
theorem R3.call {w0 w w':aj} (h:R3 w0 w) (a:ay w.heap.size w w'):R3 w0 w' where
 bel:=h.bel.trans (a.mono (fG h.lt))
 lt:=aB h.lt a.size
 r0:=h.r0.imp fun _ b=>(a.cell (p:=⟨_,_,none⟩) h.lt).trans b
 r1:=h.r1.imp fun _ b=>(a.cell (p:=⟨_,_,none⟩) h.lt).trans b
 r2:=h.r2.imp fun _ b=>(a.cell (p:=⟨_,_,none⟩) h.lt).trans b
 fr:=fun o=>(a.frozen (p:=⟨_,o,none⟩) h.lt).trans (h.fr o)
theorem R3.start (w:aj) (e:bJ):R3 w (w.alloc (.cells #[aa ⟨#[]⟩,ab ae 0,ab ae 0] e)) where
 bel:=(ak _ _).alloc (ag _) _
 lt:=by simp
 r0:=⟨_,aq _ _ _ 0⟩
 r1:=⟨_,aq _ _ _ 1⟩
 r2:=⟨_,aq _ _ _ 2⟩
 fr:=fun o=>World.frozen?_alloc_new _ _ _ _
theorem R3.put {w0 w:aj} (h:R3 w0 w) (x y z:aA):ay w0.heap.size w0 (((w.setCell ⟨w0.heap.size,0,none⟩ x).setCell ⟨w0.heap.size,1,none⟩ y).setCell ⟨w0.heap.size,2,none⟩ z) :=
 ((h.bel.setCell (p:=⟨_,_,none⟩) (ag _) _).setCell (p:=⟨_,_,none⟩) (ag _) _).setCell (p:=⟨_,_,none⟩) (ag _) _
def fX (o:OpR):Int:=if o.prec<1\/1200<o.prec then 0 else if o.typ=1\/o.typ=2\/o.typ=6 then o.prec-1 else if o.typ=3\/o.typ=7 then o.prec else 0
def dv (o:OpR):Int:=if o.prec<1\/1200<o.prec then 0 else if o.typ=1\/o.typ=3\/o.typ=5 then o.prec-1 else if o.typ=2\/o.typ=4 then o.prec else 0
end Hb
namespace Go.Proofs.YtgapnafkelokaaaGreatDoor
open Go.RowKit Hb
theorem lZ (A:Option Addr) (n c:Nat) (l:List OpR) (a:ByteArray) (w:aj) (g:n=l.length) (m:n<=400) (h:OpsAt w A l) :
  aG ah 172 #[.slice A n c,aa a] w fun e w'=>e=av (aF #[kU ((dt l a 1).getD op0),an (dt l a 1).isSome])/\ay w.heap.size w w':=by
 have d:=R3.start w 80
 have i:=zq (sb A n c l a 1 _ g m (h.below d.bel))
 clear g h
 generalize (dt l a 1).getD op0=r at *
 generalize (dt l a 1).isSome=b at *
 unfold kU at *
 go_enter Tryz.func172,Tryz.ntmps172
 go_wp2_with fail
 refine i.out.mono ?_;rintro e B ⟨rfl,k⟩
 have f:=d.call k
 obtain ⟨t,u,⟨x,o⟩,⟨y,p⟩,⟨z,q⟩,j⟩:=id f
 have s:=j 0
 go_wp2_with fail
 exact aw (v:=aF #[.agg #[aa r.name,ab ae r.typ,ab ae r.prec],an b]) (by simp [results,Tryz.results172,go_sem,o,p,q]) rfl ⟨rfl,f.put _ _ _⟩
theorem nG (A:Option Addr) (n c:Nat) (l:List OpR) (a:ByteArray) (w:aj) (g:n=l.length) (m:n<=400) (h:OpsAt w A l) :
  aG ah 161 #[.slice A n c,aa a] w fun e w'=>e=av (aF #[kU ((dt l a 2).getD op0),an (dt l a 2).isSome])/\ay w.heap.size w w':=by
 have d:=R3.start w 80
 have i:=zq (sb A n c l a 2 _ g m (h.below d.bel))
 clear g h
 generalize (dt l a 2).getD op0=r at *
 generalize (dt l a 2).isSome=b at *
 unfold kU at *
 go_enter Tryz.func161,Tryz.ntmps161
 go_wp2_with fail
 refine i.out.mono ?_;rintro e B ⟨rfl,k⟩
 have f:=d.call k
 obtain ⟨t,u,⟨x,o⟩,⟨y,p⟩,⟨z,q⟩,j⟩:=id f
 have s:=j 0
 go_wp2_with fail
 exact aw (v:=aF #[.agg #[aa r.name,ab ae r.typ,ab ae r.prec],an b]) (by simp [results,Tryz.results161,go_sem,o,p,q]) rfl ⟨rfl,f.put _ _ _⟩
theorem lk (A:Option Addr) (n c:Nat) (l:List OpR) (a:ByteArray) (w:aj) (g:n=l.length) (m:n<=400) (h:OpsAt w A l) :
  aG ah 162 #[.slice A n c,aa a] w fun e w'=>e=av (aF #[kU ((dt l a 3).getD op0),an (dt l a 3).isSome])/\ay w.heap.size w w':=by
 have d:=R3.start w 80
 have i:=zq (sb A n c l a 3 _ g m (h.below d.bel))
 clear g h
 generalize (dt l a 3).getD op0=r at *
 generalize (dt l a 3).isSome=b at *
 unfold kU at *
 go_enter Tryz.func162,Tryz.ntmps162
 go_wp2_with fail
 refine i.out.mono ?_;rintro e B ⟨rfl,k⟩
 have f:=d.call k
 obtain ⟨t,u,⟨x,o⟩,⟨y,p⟩,⟨z,q⟩,j⟩:=id f
 have s:=j 0
 go_wp2_with fail
 exact aw (v:=aF #[.agg #[aa r.name,ab ae r.typ,ab ae r.prec],an b]) (by simp [results,Tryz.results162,go_sem,o,p,q]) rfl ⟨rfl,f.put _ _ _⟩
theorem lJ (o:OpR) (w:aj) (m:-9223372036854775808<=o.prec/\o.prec<=9223372036854775807):aG ah 113 #[kU o] w fun e w'=>e=av (aF #[ab ae (fX o),ab ae (dv o)])/\ay w.heap.size w w':=by
 unfold kU
 generalize c:fX o=x
 generalize d:dv o=y
 have f:=zq c
 have g:=zq d
 clear c d
 obtain ⟨z,a,b⟩:=o
 have hd:b<1\/1200<b\/((1<=b/\b<=1200)/\(a=1\/a=2\/a=3\/a=4\/a=5\/a=6\/a=7\/(¬a=1/\¬a=2/\¬a=3/\¬a=4/\¬a=5/\¬a=6/\¬a=7))):=by omega
 rcases hd with h | h | ⟨⟨k,l⟩,rfl|rfl|rfl|rfl|rfl|rfl|rfl | ⟨n,p,q,r,s,t,u⟩⟩
 all_goals
  go_enter Tryz.func113,Tryz.ntmps113
  go_wp2_with fail
  try (go_quiet (fail);go_wp2_with fail)
  refine aw (v:=aF #[ab ae x,ab ae y]) ?_ rfl ⟨rfl,by first | exact (ak _ _).alloc (ag _) _ | exact dF ((ak _ _).alloc (ag _) _) _⟩
  have i:=f.out
  have j:=g.out
  unfold fX at i
  unfold dv at j
  simp [results,Tryz.results113,go_sem]
  grind
end Go.Proofs.YtgapnafkelokaaaGreatDoor
namespace Hb
open Go Go.RowKit
def isNm (a:ByteArray) (o:OpR):Bool:=o.name.toList==a.toList
theorem Fg (p:OpR->Bool) (l:List OpR):decide (0<=vM p l)=l.any p:=by
 unfold vM
 cases h:l.any p
 ·simp
 ·simp
end Hb
namespace Go.Proofs.YtgapnafkelokaaaGreatDoor
open Go.RowKit Hb
theorem LA (o:OpR) (b:Nat) (a:ByteArray) (w:aj) (f:w.cell? ⟨b,0,none⟩=some (aa a)) (d:b<w.heap.size) :
  aG ah 121 #[kU o,ax (some ⟨b,0,none⟩)] w fun e w'=>e=av (an (isNm a o))/\ay w.heap.size w w':=by
 unfold kU
 have c:=zq (show isNm a o=(o.name.toList==a.toList) from rfl)
 go_enter Tryz.func121,Tryz.ntmps121
 go_wp2_with fail
 go_ret
 exact ⟨bC c.out.symm,(ak _ _).alloc (ag _) _⟩
theorem zo (A:Option Addr) (n F:Nat) (l:List OpR) (g:Nat) (c:ByteArray) (w:aj) (x:n=l.length) (P:n<=400) (y:OpsAt w A l) (G:w.cell? ⟨g,0,none⟩=some (aa c)) (z:g<w.heap.size) :
  aG ah 169 #[.slice A n F,.func (.func 121) #[] #[ax (some ⟨g,0,none⟩)]] w fun e w'=>e=av (ab ae (vM (isNm c) l))/\ay w.heap.size w w':=by
 have t:=zq x
 have D:=zq y
 clear x y
 go_enter Tryz.func169,Tryz.ntmps169
 go_wp2_with fail
 go_loopw [8] (fun i wr=>∃k:Nat,k<=n/\i=ab ae k/\ay w.heap.size w wr/\Hid (∀j (a:j<l.length),j<k->isNm c l[j]=false)) (fun i _=>n-(intOf i).toNat)
 case atStart=>exact ⟨0,bj _,rfl,ak _ _,fun j _ a=>absurd a (by omega)⟩
 case round=>
  obtain ⟨k,N,rfl,d,m⟩:=hrel
  by_cases O:k<n
  ·have s:=d.size
   have v:k<l.length:=by have:=t.out;omega
   obtain ⟨b,Q,rfl,L,I,J,K⟩:=(D.out.below d) k v
   have B:=zq (fun h=>sE (isNm c) l k v h (fun j a=>m.out j (by omega) a))
   have f:=zq (LA l[k] g c wr ((d.cell (p:=⟨g,0,none⟩) z).trans G) (aB z s))
   have E:=zq (fun (h:isNm c l[k]=false)=>(show ∀j (a:j<l.length),j<k+1->isNm c l[j]=false from fun j a M=>by
    rcases dy j k with u | u
    ·exact m.out j a u
    ·have:j=k:=by omega
     subst this;exact h))
   generalize l[k]=o at *
   unfold kU at f
   cases hi:isNm c o
   ·rw [hi] at f
    have q:=zq hi
    clear hi
    go_wp2_with fail
    refine f.out.mono ?_;rintro e H ⟨rfl,r⟩
    go_wp2_with fail
    go_roundw
    case rel=>exact ⟨k+1,by omega,by go_num,d.trans (r.mono s),E.out q.out⟩
    case measure=>simp [intOf] <;> omega
   ·rw [hi] at f
    have q:=zq hi
    clear hi
    go_wp2_with fail
    refine f.out.mono ?_;rintro e H ⟨rfl,r⟩
    go_wp2_with fail
    go_ret
    exact ⟨cT (B.out q.out).symm,d.trans (r.mono s)⟩
  ·obtain rfl:k=n:=by omega
   have C:=zq (qd (isNm c) l (fun j a=>m.out j a (by have:=t.out;omega)))
   go_wp2_with fail
   go_ret
   exact ⟨cT C.out.symm,d⟩
theorem vz (A:Option Addr) (n c:Nat) (l:List OpR) (b:Nat) (a:ByteArray) (w:aj) (d:n=l.length) (j:n<=400) (f:OpsAt w A l) (m:w.cell? ⟨b,0,none⟩=some (aa a)) (k:b<w.heap.size) :
  aG ah 120 #[.slice A n c,.func (.func 121) #[] #[ax (some ⟨b,0,none⟩)]] w fun e w'=>e=av (an (l.any (isNm a)))/\ay w.heap.size w w':=by
 have h:=zq (zo A n c l b a w d j f m k)
 have g:=zq (Fg (isNm a) l)
 clear d f
 generalize vM (isNm a) l=x at *
 go_enter Tryz.func120,Tryz.ntmps120
 go_wp2_with fail
 refine h.out.mono ?_;rintro e o ⟨rfl,i⟩
 go_wp2_with fail
 go_ret
 exact ⟨bC g.out,i⟩
theorem Jl (A:Option Addr) (n i:Nat) (l:List OpR) (a:ByteArray) (w:aj) (j:n=l.length) (r:n<=400) (k:OpsAt w A l) :
  aG ah 84 #[.slice A n i,aa a] w fun e w'=>e=av (an (bF l&&l.any (isNm a)))/\ay w.heap.size w w':=by
 have g:=(ak w.heap.size w).alloc (ag _) (.cells #[aa a] 9)
 have s:(w.alloc (.cells #[aa a] 9)).cell? ⟨w.heap.size,0,none⟩=some (aa a):=aq _ _ _ 0
 have h:w.heap.size<(w.alloc (.cells #[aa a] 9)).heap.size:=by simp
 have f:=zq (nF A n i l _ j r (k.below g))
 have t:=zq (fun (d:aj) (c:ay (w.alloc (.cells #[aa a] 9)).heap.size (w.alloc (.cells #[aa a] 9)) d)=>vz A n i l w.heap.size a d j r ((k.below g).below c) ((c.cell (p:=⟨_,_,none⟩) h).trans s) (aB h c.size))
 clear j k s
 cases hv:bF l
 ·rw [hv] at f
  go_enter Tryz.func84,Tryz.ntmps84
  go_wp2_with fail
  refine f.out.mono ?_;rintro e d ⟨rfl,c⟩
  go_wp2_with fail
  go_ret
  exact ⟨rfl,g.trans (c.mono (fG h))⟩
 ·rw [hv] at f
  go_enter Tryz.func84,Tryz.ntmps84
  go_wp2_with fail
  refine f.out.mono ?_;rintro e d ⟨rfl,c⟩
  have o:=zq (t.out d c)
  have q:=g.trans (c.mono (fG h))
  obtain ⟨b,m⟩:=lz (l.any (isNm a))
  rw [<-m.out] at o
  go_wp2_with fail
  refine o.out.mono ?_;rintro e v ⟨rfl,u⟩
  go_wp2_with fail
  go_ret
  exact ⟨bC (by rw [m.out];rfl),q.trans (u.mono q.size)⟩
end Go.Proofs.YtgapnafkelokaaaGreatDoor
namespace Hb
def ie (l:List UInt8) (k:Nat):Int:=((l.getD k 0).toNat:Int)
theorem jj (l:List UInt8) (k:Nat):0<=ie l k:=by unfold ie;omega
theorem jG (l:List UInt8) (k:Nat):ie l k<=255:=by unfold ie;have:=(l.getD k 0).toNat_lt;omega
theorem ic (l:List UInt8) (k:Nat) (h:k<l.length):(l[k].toNat:Int)=ie l k:=by
 unfold ie;rw [aR,aT h];rfl
theorem jU (s:ByteArray) (k:Nat) (h:k<s.size):(s[k].toNat:Int)=ie s.data.toList k:=by
 have a:k<s.data.toList.length:=by simpa using h
 rw [<-ic _ _ a];rfl
def iP (c:Int):Bool:=decide (0<=c)&&decide (c<=255)
theorem kc (c:Int):iP c=true↔0<=c/\c<=255:=by simp [iP]
def lm (l:List UInt8) (c:Int):Bool:=l.any fun b=>(b.toNat:Int)==c
def cls (c:Int):Int :=
 if ¬(0<=c/\c<=255) then 0
 else if (9<=c/\c<=13)\/c=32 then 1
 else if 97<=c/\c<=122 then 2
 else if (65<=c/\c<=90)\/c=95 then 3
 else if 48<=c/\c<=57 then 4
 else if lm [35,36,38,42,43,45,46,47,58,60,61,62,63,64,94,126,92] c then 5
 else if lm [33,40,41,44,59,91,93,123,125,37,124] c then 6
 else if lm [39,34,96] c then 7
 else 8
theorem Bc (P:Int->Prop) (c:Prop) [Decidable c] (a b:Int) (d:P a) (e:P b):P (if c then a else b):=by split <;> assumption
theorem JL (c:Int):0<=cls c:=by
 unfold cls;repeat' (refine Bc (0 <= ·) _ _ _ (by omega) ?_)
 omega
theorem JM (c:Int):cls c<=8:=by
 unfold cls;repeat' (refine Bc (· <= 8) _ _ _ (by omega) ?_)
 omega
theorem Bb (c:Int) (h:¬(0<=c/\c<=255)):cls c=0:=by unfold cls;rw [if_pos h]
def dw (c:Int):Bool:=cls c==2||(cls c==3||cls c==4)
def rowOf:List (List UInt8):=[[9,10,11,12,13,32],
 [97,98,99,100,101,102,103,104,105,106,107,108,109,110,111,112,113,114,115,116,117,118,119,120,121,122],
 [65,66,67,68,69,70,71,72,73,74,75,76,77,78,79,80,81,82,83,84,85,86,87,88,89,90,95],
 [48,49,50,51,52,53,54,55,56,57],[35,36,38,42,43,45,46,47,58,60,61,62,63,64,94,126,92],
 [33,40,41,44,59,91,93,123,125,37,124],[39,34,96]]
def jI (c:Int):Nat:=rowOf.findIdx fun l=>lm l c
theorem BV:∀n:Nat,n<256->cls (n:Int)=(jI (n:Int):Int)+1:=by decide +kernel
theorem xc (c:Int):jI c<=7:=List.findIdx_le_length
def JH (c a:Int):Option Int :=
 if a<2\/36<a then none
 else
  let v:=if 48<=c/\c<=57 then c-48 else if 97<=c/\c<=122 then c-97+10 else if 65<=c/\c<=90 then c-65+10 else 36
  if v<a then some v else none
def nL (c a:Int):Int:=(JH c a).getD 0
def gG (c a:Int):Bool:=(JH c a).isSome
def Bl (c:Int):Option Int :=
 if c=92\/c=39\/c=34\/c=96 then some c
 else if c=97 then some 7 else if c=98 then some 8 else if c=116 then some 9 else if c=110 then some 10
 else if c=118 then some 11 else if c=102 then some 12 else if c=114 then some 13 else none
def ts (c:Int):Int:=(Bl c).getD 0
def kX (c:Int):Bool:=(Bl c).isSome
def letters:List UInt8:=[97,98,116,110,118,102,114]
def mm (n:Nat):UInt8:=if n<10 then (48+n).toUInt8 else (87+n).toUInt8
def yh (c:Int):List UInt8 :=
 if ¬(0<=c/\c<=255) then []
 else if 7<=c/\c<=13 then [92,letters.getD (c-7).toNat 0]
 else if c=39\/c=92 then [92,c.toNat.toUInt8]
 else if 32<=c/\c<=126 then [c.toNat.toUInt8]
 else if 16<=c then [92,120,mm (c.toNat / 16),mm (c.toNat % 16),92]
 else [92,120,mm (c.toNat % 16),92]
def pR (l:List (Int×Int)) (j:Nat):Int:=(l.getD j (0,0)).1
def qE (l:List (Int×Int)) (j:Nat):Int:=(l.getD j (0,0)).2
theorem rj (l:List (Int×Int)) (j:Nat) (h:j<l.length):l[j].1=pR l j:=by
 unfold pR;rw [aR,aT h];rfl
theorem vv (l:List (Int×Int)) (j:Nat) (h:j<l.length):l[j].2=qE l j:=by
 unfold qE;rw [aR,aT h];rfl
def mD (l:List (Int×Int)) (j:Nat):Bool:=iP (pR l j)&&(iP (qE l j)&&(!(pR l j==qE l j)&&(j==0||decide (pR l (j-1)<pR l j))))
theorem Ju (l k) (h:iP (pR l k)=false):mD l k=false:=by unfold mD;rw [h];rfl
theorem Jt (l k) (h:iP (pR l k)=true) (a:iP (qE l k)=false):mD l k=false:=by unfold mD;rw [h,a];rfl
theorem Js (l k) (h:iP (pR l k)=true) (a:iP (qE l k)=true) (b:(pR l k==qE l k)=true):mD l k=false:=by unfold mD;rw [h,a,b];rfl
theorem Jr (l k) (a:k=0) (h:iP (pR l k)=true) (b:iP (qE l k)=true) (c:(pR l k==qE l k)=false):mD l k=true:=by unfold mD;rw [h,b,c,a];rfl
theorem Jq (l k) (h:iP (pR l k)=true) (a:iP (qE l k)=true) (b:(pR l k==qE l k)=false) (c:pR l (k-1)<pR l k):mD l k=true:=by unfold mD;rw [h,a,b];simp [c]
theorem Jp (l k) (h:iP (pR l k)=true) (a:iP (qE l k)=true) (b:(pR l k==qE l k)=false) (c:0<k) (d:¬pR l (k-1)<pR l k):mD l k=false:=by unfold mD;rw [h,a,b];simp;omega
def iT (l:List (Int×Int)):Bool:=(List.range l.length).all (mD l)
theorem zb (l:List (Int×Int)) (h:∀j,j<l.length->mD l j=true):iT l=true:=by
 unfold iT;rw [bh];intro x a;exact h x (dB.1 a)
theorem Cg (l:List (Int×Int)) (j:Nat) (a:j<l.length) (h:mD l j=false):iT l=false:=by
 unfold iT;rw [List.all_eq_false];exact ⟨j,dB.2 a,by simp [h]⟩
theorem Ch (l:List (Int×Int)) (h:iT l=true) (j:Nat) (a:j<l.length):mD l j=true:=by
 unfold iT at h;rw [bh] at h;exact h j (dB.2 a)
def jx (l:List (Int×Int)) (c:Int):Int:=l.foldl (fun t p=>if p.1=c then p.2 else t) c
def au (l:List UInt8) (i:Nat):Int:=if i<l.length then ie l i else -1
theorem eU (l:List UInt8) (i:Nat) (h:i<l.length):au l i=ie l i:=by unfold au;rw [if_pos h]
theorem jN (l:List UInt8) (i:Nat) (h:l.length<=i):au l i=-1:=by unfold au;rw [if_neg (by omega)]
theorem Eo (l:List UInt8) (i:Nat):au l i<=255:=by
 unfold au;split
 ·exact jG l i
 ·omega
theorem dK (l:List UInt8) (i:Nat):au l i<0↔l.length<=i:=by
 unfold au;split
 ·have:=jj l i;omega
 ·omega
theorem yA (l:List UInt8) (i j:Nat):ie (l.drop i) j=ie l (i+j):=by
 unfold ie;simp [aR,List.getElem?_drop]
theorem bT (l:List UInt8) (i j:Nat):au (l.drop i) j=au l (i+j):=by
 unfold au;rw [yA,aI]
 by_cases h:j<l.length-i
 ·rw [if_pos h,if_pos (by omega)]
 ·rw [if_neg h,if_neg (by omega)]
theorem cU (b:UInt8) (l:List UInt8):au (b::l) 0=(b.toNat:Int):=by
 unfold au ie;simp
theorem fs (b:UInt8) (l:List UInt8) (i:Nat):au (b::l) (i+1)=au l i:=by
 unfold au ie;simp
def cD (a:Int->Int) (l:List UInt8):List UInt8:=l.map fun b=>(a (b.toNat:Int)).toNat.toUInt8
theorem dx (a:Int->Int) (l:List UInt8):(cD a l).length=l.length:=by simp [cD]
def Bh (a:Int->Int):Prop:=∀c,0<=c->c<=255->0<=a c/\a c<=255
theorem JJ (a:Int->Int) (c:Bh a) (l:List UInt8) (i:Nat) (h:i<l.length):a (ie l i)=ie (cD a l) i:=by
 have b:i<(cD a l).length:=by rw [dx];exact h
 have d:=c (ie l i) (jj l i) (jG l i)
 rw [<-ic _ _ b,<-ic _ _ h] at *
 simp only [cD,List.getElem_map]
 simp;omega
def db (c:Int):Bool:=cls c==5
def bW (q:Int->Bool):List UInt8->Nat
 | []=>0
 | b::l=>if q (b.toNat:Int) then bW q l+1 else 0
theorem fD (q : Int -> Bool) : ∀ l, bW q l <= l.length
  | [] => ag _
  | b :: l => by unfold bW; split; · have := fD q l; simp; omega
                 · exact bj _
theorem lQ (l:List UInt8) (k:Nat) (h:k<l.length):l.drop k=l[k]::l.drop (k+1):=dU h
theorem oM (q:Int->Bool) (l:List UInt8) (k:Nat) (h:k<l.length) (a:q (ie l k)=true):bW q (l.drop k)=bW q (l.drop (k+1))+1:=by
 rw [lQ l k h,bW,ic _ _ h,if_pos a]
theorem rc (q:Int->Bool) (l:List UInt8) (k:Nat) (h:k<l.length) (a:q (ie l k)=false):bW q (l.drop k)=0:=by
 rw [lQ l k h,bW,ic _ _ h,a];rfl
theorem oN (q:Int->Bool) (l:List UInt8) (k:Nat) (h:l.length<=k):bW q (l.drop k)=0:=by
 rw [eI h];rfl
def dS:List UInt8->Option Nat
 | []=>none
 | b::l=>if b=42/\au l 0=47 then some 0 else (dS l).map (· + 1)
def gF (c:Int):Bool:=!(c==10)
def nP:Nat->List UInt8->Nat
 | 0,_=>0
 | f+1,l=>
  if l.isEmpty then 0
  else if cls (au l 0)=1 then 1+nP f (l.drop 1)
  else if au l 0=37 then bW gF l+nP f (l.drop (bW gF l))
  else if au l 0=47/\au l 1=42 then
   match dS (l.drop 2) with
   | none=>0
   | some k=>(k+4)+nP f (l.drop (k+4))
  else 0
theorem kH (q:Int->Bool) (l:List UInt8) (h:0<l.length) (a:q (au l 0)=true):1<=bW q l:=by
 match l,h with
 | b::l,_=>rw [cU] at a;rw [bW,if_pos a];omega
theorem jf:∀(f g:Nat) (l:List UInt8),l.length<=f->l.length<=g->nP f l=nP g l
 | 0,0,_,_,_=>rfl
 | 0,g+1,l,h,_=>by
  have:l=[]:=bH (by omega)
  subst this;rfl
 | f+1,0,l,_,h=>by
  have:l=[]:=bH (by omega)
  subst this;rfl
 | f+1,g+1,l,h1,h2=>by
  unfold nP
  by_cases a:l.isEmpty
  ·rw [if_pos a,if_pos a]
  ·rw [if_neg a,if_neg a]
   have c:0<l.length:=by
    cases l with
    | nil=>simp at a
    | cons=>simp
   rw [jf f g (l.drop 1) (by simp;omega) (by simp;omega)]
   by_cases b:au l 0=37
   ·have:=kH gF l c (by rw [b];rfl)
    rw [jf f g (l.drop (bW gF l)) (by simp;omega) (by simp;omega)]
    simp only [if_pos b]
   ·simp only [if_neg b]
    cases dS (l.drop 2) with
    | none=>rfl
    | some k=>simp only [];rw [jf f g (l.drop (k+4)) (by simp;omega) (by simp;omega)]
def bL (l:List UInt8):Nat:=nP l.length l
theorem lE (l:List UInt8):bL l =
  if l.isEmpty then 0
  else if cls (au l 0)=1 then 1+bL (l.drop 1)
  else if au l 0=37 then bW gF l+bL (l.drop (bW gF l))
  else if au l 0=47/\au l 1=42 then
   match dS (l.drop 2) with
   | none=>0
   | some k=>(k+4)+bL (l.drop (k+4))
  else 0:=by
 unfold bL
 rw [jf l.length (l.length+1) l (ag _) (by omega),nP]
 rw [jf l.length (l.drop 1).length (l.drop 1) (by simp) (ag _),jf l.length (l.drop (bW gF l)).length (l.drop (bW gF l)) (by simp) (ag _)]
 cases dS (l.drop 2) with
 | none=>rfl
 | some k=>simp only [];rw [jf l.length (l.drop (k+4)).length (l.drop (k+4)) (by simp) (ag _)]
theorem te:∀(l:List UInt8) (k:Nat),dS l=some k->k+2<=l.length
 | [],k,h=>by simp [dS] at h
 | b::l,k,h=>by
  unfold dS at h
  split at h
  ·rename_i a
   injection h with h
   subst h
   have:=dK l 0
   simp;omega
  ·cases hc:dS l with
   | none=>rw [hc] at h;simp at h
   | some j=>
    rw [hc] at h
    have:=te l j hc
    simp at h;simp;omega
theorem oT:∀(f:Nat) (l:List UInt8),nP f l<=l.length
 | 0,_=>bj _
 | f+1,l=>by
  unfold nP
  by_cases a:l.isEmpty
  ·rw [if_pos a];omega
  ·rw [if_neg a]
   have j:0<l.length:=by
    cases l with
    | nil=>simp at a
    | cons=>simp
   have e:=oT f (l.drop 1)
   have g:=oT f (l.drop (bW gF l))
   have i:=fD gF l
   simp only [aI] at e g
   by_cases b:cls (au l 0)=1
   ·rw [if_pos b];omega
   rw [if_neg b]
   by_cases c:au l 0=37
   ·rw [if_pos c];omega
   rw [if_neg c]
   by_cases d:au l 0=47/\au l 1=42
   ·rw [if_pos d]
    cases hc:dS (l.drop 2) with
    | none=>simp
    | some k=>
     have:=te _ _ hc
     have h:=oT f (l.drop (k+4))
     simp only [aI] at this h |-
     omega
   ·rw [if_neg d];omega
theorem gJ (l:List UInt8):bL l<=l.length:=oT _ _
theorem yp (l:List UInt8) (k:Nat) (h:k<l.length) (a:au l k=42) (b:au l (k+1)=47):dS (l.drop k)=some 0:=by
 rw [eU _ _ h] at a
 rw [<-ic _ _ h] at a
 have e:l[k]=42:=UInt8.toNat_inj.1 (by show l[k].toNat=42;omega)
 rw [lQ l k h,dS,bT,bq,if_pos ⟨e,b⟩]
theorem td (l:List UInt8) (k:Nat) (h:k<l.length) (c:¬(au l k=42/\au l (k+1)=47)):dS (l.drop k)=(dS (l.drop (k+1))).map (· + 1):=by
 rw [eU _ _ h] at c
 rw [lQ l k h,dS,bT,bq,if_neg]
 rintro ⟨a,b⟩
 refine c ⟨?_,b⟩
 rw [<-ic _ _ h,a];rfl
theorem yq (l:List UInt8) (k:Nat) (h:l.length<=k):dS (l.drop k)=none:=by
 rw [eI h];rfl
theorem oS (l:List UInt8) (k:Nat) (h:k<l.length):bL (l.drop k) =
  if cls (au l k)=1 then 1+bL (l.drop (k+1))
  else if au l k=37 then bW gF (l.drop k)+bL (l.drop (k+bW gF (l.drop k)))
  else if au l k=47/\au l (k+1)=42 then
   match dS (l.drop (k+2)) with
   | none=>0
   | some j=>(j+4)+bL (l.drop (k+(j+4)))
  else 0:=by
 rw [lE]
 have:(l.drop k).isEmpty=false:=by
  rw [lQ l k h];rfl
 rw [this]
 simp only [Bool.false_eq_true,if_false,bT,cI,bq]
theorem DU (l:List UInt8) (k:Nat) (h:l.length<=k):bL (l.drop k)=0:=by
 rw [eI h];rfl
theorem DT (l:List UInt8) (k:Nat) (h:k<l.length) (a:cls (au l k)=1):bL (l.drop k)=1+bL (l.drop (k+1)):=by rw [oS l k h,if_pos a]
theorem DS (l:List UInt8) (k:Nat) (h:k<l.length) (a:¬cls (au l k)=1) (b:au l k=37):bL (l.drop k)=bW gF (l.drop k)+bL (l.drop (k+bW gF (l.drop k))):=by rw [oS l k h,if_neg a,if_pos b]
theorem BJ (l:List UInt8) (k:Nat) (h:k<l.length) (a:au l k=47) (b:au l (k+1)=42) (c:dS (l.drop (k+2))=none):bL (l.drop k)=0:=by
 rw [oS l k h,if_neg (by rw [a];decide),if_neg (by rw [a];decide),if_pos ⟨a,b⟩,c]
theorem DV (l:List UInt8) (k j:Nat) (h:k<l.length) (a:au l k=47) (b:au l (k+1)=42) (c:dS (l.drop (k+2))=some j):bL (l.drop k)=(j+4)+bL (l.drop (k+(j+4))):=by
 rw [oS l k h,if_neg (by rw [a];decide),if_neg (by rw [a];decide),if_pos ⟨a,b⟩,c]
theorem As (l:List UInt8) (k:Nat) (h:k<l.length) (a:¬cls (au l k)=1) (b:¬au l k=37) (c:¬(au l k=47/\au l (k+1)=42)):bL (l.drop k)=0:=by
 rw [oS l k h,if_neg a,if_neg b,if_neg c]
structure LexR where
 kind:Int
 text:List UInt8
 n:Int
 at_:Int
 end_:Int
 err:Int
def dD (e:Int):LexR:=⟨0,[],0,0,0,e⟩
def dz (d:Int) (a:List UInt8) (b c:Int):LexR:=if 100<a.length then dD 2 else ⟨d,a,0,b,c,0⟩
def kE (c:Int):Int:=if cls c=3 then 3 else 1
def lD (c:Int):Int:=if c=33\/c=59 then 1 else 6
def nO (m:List UInt8) (p:Nat):LexR:=dz (kE (au m p)) ((m.drop p).take (bW dw (m.drop p))) p (p+bW dw (m.drop p))
def jb (c:Int):Bool:=decide (c<0)||(c==37||cls c==1)
def mC (m:List UInt8) (p:Nat):LexR :=
 if au m p=46/\jb (au m (p+1))=true then ⟨7,[46],0,p,p+1,0⟩
 else dz 1 ((m.drop p).take (bW db (m.drop p))) p (p+bW db (m.drop p))
def qx (m:List UInt8) (p:Nat):LexR:=dz (lD (au m p)) ((m.drop p).take 1) p (p+1)
def cL (c:Int) (l:List UInt8):Nat:=l.foldl (fun a b=>a * c.toNat+(nL (b.toNat:Int) c).toNat) 0
def intR (a:Int) (b:List UInt8) (p e:Int):LexR :=
 if cL a b<=9223372036854775808 then ⟨4,[],if cL a b=9223372036854775808 then -9223372036854775808 else cL a b,p,e,0⟩ else dD 7
def bY (a:Int) (c:Int):Bool:=gG c a
def jE (l:List UInt8):Int:=if au l 1=120 then 16 else 8
def eS (l:List UInt8):Nat:=if au l 1=120 then 2 else 1
def fv (l:List UInt8):Nat:=bW (bY (jE l)) (l.drop (eS l))
def iU (l:List UInt8):Nat:=cL (jE l) ((l.drop (eS l)).take (fv l))
def cy (l:List UInt8) (q:Int):Option (Int×Nat) :=
 if au l 0<0\/au l 0=10 then none
 else if au l 0=q then (if au l 1=q then some (q,2) else none)
 else if au l 0≠92 then some (au l 0,1)
 else if kX (au l 1)=true then some (ts (au l 1),2)
 else if 0<fv l/\iU l<=255/\au l (eS l+fv l)=92 then some (iU l,eS l+fv l+1)
 else none
def cd (m:List UInt8) (p:Nat):Int:=if au m p=48 then (if au m (p+1)=120 then 16 else if au m (p+1)=111 then 8 else if au m (p+1)=98 then 2 else 0) else 0
def jh (m l:List UInt8) (p:Nat):LexR :=
 if au m p=48/\au m (p+1)=39 then
  match cy (l.drop (p+2)) 39 with
  | none=>dD 7
  | some (c,k)=>⟨4,[],c,p,p+2+k,0⟩
 else if 0<cd m p/\0<bW (bY (cd m p)) (m.drop (p+2)) then
  intR (cd m p) ((m.drop (p+2)).take (bW (bY (cd m p)) (m.drop (p+2)))) p (p+2+bW (bY (cd m p)) (m.drop (p+2)))
 else intR 10 ((m.drop p).take (bW (bY 10) (m.drop p))) p (p+bW (bY 10) (m.drop p))
def jD:Nat->List UInt8->Int->Option (List UInt8×Nat)
 | 0,_,_=>none
 | f+1,l,q=>
  if au l 0=q/\¬au l 1=q then some ([],0)
  else if au l 0=92/\au l 1=10 then (jD f (l.drop 2) q).map fun x=>(x.1,x.2+2)
  else match cy l q with
   | none=>none
   | some (c,k)=>(jD f (l.drop k) q).map fun x=>(c.toNat.toUInt8::x.1,x.2+k)
def ko (l:List UInt8) (q:Int):Option (List UInt8×Nat):=jD (l.length+1) l q
def mJ (p:Nat):Option (List UInt8×Nat)->LexR
 | none=>dD 7
 | some x=>⟨5,x.1,0,p,p+1+x.2+1,0⟩
def si (p:Nat):Option (List UInt8×Nat)->LexR
 | none=>dD 7
 | some x=>dz 2 x.1 p (p+1+x.2+1)
def gY (m l:List UInt8) (p:Nat):LexR :=
 if au m p=34 then mJ p (ko (l.drop (p+1)) 34)
 else if au m p=39 then si p (ko (l.drop (p+1)) 39)
 else dD 7
def cj (m l:List UInt8) (p:Nat):LexR :=
 if au m p=47/\au m (p+1)=42 then dD 7
 else if cls (au m p)=2\/cls (au m p)=3 then nO m p
 else if cls (au m p)=4 then jh m l p
 else if cls (au m p)=5 then mC m p
 else if cls (au m p)=6 then qx m p
 else if cls (au m p)=7 then gY m l p
 else dD 7
structure NextR where
 r:LexR
 lay:Bool
 where_:Int
def bt (m l:List UInt8) (a:Nat):NextR :=
 let p:=a+bL (m.drop a)
 if p=l.length then ⟨dD 14,false,p⟩
 else if (cj m l p).err=0 then ⟨cj m l p,decide (a<p),0⟩
 else ⟨dD (cj m l p).err,false,p⟩
def pq (c:Int):Int:=if 48<=c/\c<=57 then c-48 else if 97<=c/\c<=122 then c-97+10 else if 65<=c/\c<=90 then c-65+10 else 36
theorem Fx (c:Int):0<=pq c:=by unfold pq;grind
theorem Fy (c:Int):pq c<=36:=by unfold pq;grind
theorem AY (c a:Int) (b:2<=a) (d:a<=36):JH c a=if pq c<a then some (pq c) else none:=by
 unfold JH pq;grind
theorem kD (c a:Int) (b:2<=a) (d:a<=36):gG c a=decide (pq c<a):=by
 unfold gG;rw [AY c a b d];grind
theorem yj (c a:Int) (b:2<=a) (d:a<=36) (h:pq c<a):nL c a=pq c:=by
 unfold nL;rw [AY c a b d,if_pos h];rfl
theorem oo (a:Int) (l:List UInt8) (b:UInt8):cL a (l++[b])=cL a l * a.toNat+(nL (b.toNat:Int) a).toNat:=by
 unfold cL;rw [eH];rfl
theorem sj (a:Int) (l:List UInt8) (k:Nat) (h:k<l.length):cL a (l.take (k+1))=cL a (l.take k) * a.toNat+(nL (ie l k) a).toNat:=by
 rw [List.take_succ_eq_append_getElem h,oo,ic _ _ h]
theorem lL (c:Int) (h:1<=c):∀(l:List UInt8) (a:Nat),a<=l.foldl (fun a b=>a * c.toNat+(nL (b.toNat:Int) c).toNat) a
 | [],a=>ag _
 | b::l,a=>by
  have:=lL c h l (a * c.toNat+(nL (b.toNat:Int) c).toNat)
  have d:1<=c.toNat:=by omega
  have e:a<=a * c.toNat:=Nat.le_mul_of_pos_right a d
  rw [List.foldl_cons];omega
theorem oq (c:Int) (h:1<=c) (l:List UInt8) (k:Nat):cL c (l.take k)<=cL c l:=by
 have e:cL c l=(l.drop k).foldl (fun a b=>a * c.toNat+(nL (b.toNat:Int) c).toNat) (cL c (l.take k)):=by
  unfold cL
  rw [<-eH,List.take_append_drop]
 rw [e];exact lL c h _ _
theorem Gj (n a b:Int) (e:0<b) (f:a<=0):n<a.tdiv b↔n * b<a:=by
 obtain ⟨m,rfl⟩:∃m,a=-m:=⟨-a,by omega⟩
 rw [Int.neg_tdiv,Int.tdiv_eq_ediv_of_nonneg (by omega)]
 constructor
 ·intro h
  have c:m / b < -n:=by omega
  have d:=(Int.ediv_lt_iff_lt_mul e).1 c
  rw [Int.neg_mul] at d;omega
 ·intro h
  have c:m < -n * b:=by rw [Int.neg_mul];omega
  have d:=(Int.ediv_lt_iff_lt_mul e).2 c
  omega
theorem zk (a d b:Int) (c:0<b) (e:0<=d) (f:d<=36):-a<(-9223372036854775808+d).tdiv b↔9223372036854775808<a * b+d:=by
 rw [Gj _ _ _ c (by omega),Int.neg_mul];omega
theorem lB (q:Int->Bool):∀(l:List UInt8) (j:Nat),j<bW q l->q (au l j)=true/\j<l.length
 | [],j,h=>by simp [bW] at h
 | b::l,j,h=>by
  rw [bW] at h
  split at h
  ·rename_i a
   match j with
   | 0=>rw [cU];exact ⟨a,by simp⟩
   | j+1=>
    have:=lB q l j (by omega)
    rw [fs];exact ⟨this.1,by simp;exact this.2⟩
  ·omega
theorem pL (q:Int->Bool) (h:q (-1)=false):∀(l:List UInt8),q (au l (bW q l))=false
 | []=>by rw [jN _ _ (by simp)];exact h
 | b::l=>by
  rw [bW]
  split
  ·rw [fs];exact pL q h l
  ·rename_i a
   rw [cU];simpa using a
theorem qa (a:Int):bY a (-1)=false:=by
 unfold bY gG JH
 split
 ·rfl
 ·rename_i h
  rw [if_neg]
  ·rfl
  ·simp;omega
theorem sk (base:Int) (b:2<=base) (c:base<=36) (l:List UInt8) (j:Nat) (e:j<bW (bY base) l):(cL base (l.take (j+1)):Int)=cL base (l.take j) * base+nL (au l j) base/\0<=nL (au l j) base/\nL (au l j) base<=36:=by
 obtain ⟨a,d⟩:=lB _ _ _ e
 rw [eU _ _ d] at a |-
 unfold bY at a
 rw [kD _ _ b c] at a
 have hd:pq (ie l j)<base:=by simpa using a
 have:=Fx (ie l j)
 have:=Fy (ie l j)
 rw [sj _ _ _ d,yj _ _ b c hd]
 refine ⟨?_,by omega,by omega⟩
 push_cast
 rw [Int.toNat_of_nonneg (by omega),Int.toNat_of_nonneg (by omega)]
theorem jt (l:List UInt8) (q:Int) (h:au l 0=92) (b:¬au l 0=q) (c:kX (au l 1)=false) (d:¬(0<fv l/\iU l<=255/\au l (eS l+fv l)=92)):cy l q=none:=by
 unfold cy;rw [if_neg (by omega),if_neg b,if_neg (fun a=>a h),c,if_neg (by simp),if_neg d]
theorem uq (l:List UInt8) (q:Int) (h:au l 0=92) (b:¬au l 0=q) (c:kX (au l 1)=false) (d:0<fv l/\iU l<=255/\au l (eS l+fv l)=92):cy l q=some ((iU l:Int),eS l+fv l+1):=by
 unfold cy;rw [if_neg (by omega),if_neg b,if_neg (fun a=>a h),c,if_neg (by simp),if_pos d]
theorem Du (c:Int) (h:kX c=true):0<=ts c/\ts c<=255/\0<=c/\c<=255:=by
 unfold kX ts Bl at *
 grind (splits:=30)
theorem eD (l:List UInt8) (q c:Int) (k:Nat) (g:0<=q/\q<=255) (h:cy l q=some (c,k)):1<=k/\k<=l.length/\0<=c/\c<=255:=by
 unfold cy at h
 have i:=dK l 0
 have j:=dK l 1
 by_cases d:au l 0<0\/au l 0=10
 ·rw [if_pos d] at h;cases h
 rw [if_neg d] at h
 by_cases e:au l 0=q
 ·rw [if_pos e] at h
  by_cases a:au l 1=q
  ·rw [if_pos a] at h;injection h with h;injection h with e1 e2;subst e1;subst e2;omega
  ·rw [if_neg a] at h;cases h
 rw [if_neg e] at h
 by_cases a:au l 0≠92
 ·rw [if_pos a] at h;injection h with h;injection h with e1 e2;subst e1;subst e2
  have:=Eo l 0
  omega
 rw [if_neg a] at h
 by_cases b:kX (au l 1)=true
 ·rw [if_pos b] at h;injection h with h;injection h with e1 e2;subst e1;subst e2
  have:=Du _ b
  omega
 rw [if_neg b] at h
 by_cases f:0<fv l/\iU l<=255/\au l (eS l+fv l)=92
 ·rw [if_pos f] at h;injection h with h;injection h with e1 e2;subst e1;subst e2
  have m:=dK l (eS l+fv l)
  omega
 ·rw [if_neg f] at h;cases h
theorem ml (q:Int) (d:0<=q/\q<=255):∀(f g:Nat) (l:List UInt8),l.length<f->l.length<g->jD f l q=jD g l q
 | 0,_,_,h,_=>absurd h (by omega)
 | _+1,0,_,_,h=>absurd h (by omega)
 | f+1,g+1,l,h1,h2=>by
  unfold jD
  have e:=dK l 0
  by_cases a:au l 0=q/\¬au l 1=q
  ·rw [if_pos a,if_pos a]
  rw [if_neg a,if_neg a]
  by_cases b:au l 0=92/\au l 1=10
  ·have i:=dK l 1
   rw [if_pos b,if_pos b,ml q d f g (l.drop 2) (by simp;omega) (by simp;omega)]
  rw [if_neg b,if_neg b]
  cases hs:cy l q with
  | none=>rfl
  | some ck=>
   obtain ⟨c,k⟩:=ck
   have:=eD l q c k d hs
   simp only []
   rw [ml q d f g (l.drop k) (by simp;omega) (by simp;omega)]
theorem mj (l:List UInt8) (q:Int) (d:0<=q/\q<=255):ko l q =
  if au l 0=q/\¬au l 1=q then some ([],0)
  else if au l 0=92/\au l 1=10 then (ko (l.drop 2) q).map fun x=>(x.1,x.2+2)
  else match cy l q with
   | none=>none
   | some (c,k)=>(ko (l.drop k) q).map fun x=>(c.toNat.toUInt8::x.1,x.2+k):=by
 have e:=dK l 0
 unfold ko
 rw [jD]
 by_cases a:au l 0=q/\¬au l 1=q
 ·rw [if_pos a,if_pos a]
 rw [if_neg a,if_neg a]
 by_cases b:au l 0=92/\au l 1=10
 ·have f:=dK l 1
  rw [if_pos b,if_pos b,ml q d l.length ((l.drop 2).length+1) (l.drop 2) (by simp;omega) (by omega)]
 rw [if_neg b,if_neg b]
 cases hs:cy l q with
 | none=>rfl
 | some ck=>
  obtain ⟨c,k⟩:=ck
  have:=eD l q c k d hs
  simp only []
  rw [ml q d l.length ((l.drop k).length+1) (l.drop k) (by simp;omega) (by omega)]
def iy (l:List UInt8) (q:Int) (a:List UInt8) (j:Nat):Option (List UInt8×Nat):=(ko (l.drop j) q).map fun x=>(a++x.1,j+x.2)
theorem sA (l:List UInt8) (q:Int) (d:0<=q/\q<=255) (a:List UInt8) (j:Nat) (b:au l j=q) (c:¬au l (j+1)=q):iy l q a j=some (a,j):=by
 unfold iy;rw [mj _ _ d,bT,bT,bq,if_pos ⟨b,c⟩];simp
theorem qJ (l:List UInt8) (q:Int) (e:0<=q/\q<=255) (a:List UInt8) (j:Nat) (b:¬(au l j=q/\¬au l (j+1)=q)) (c:au l j=92) (d:au l (j+1)=10):iy l q a j=iy l q a (j+2):=by
 unfold iy;rw [mj _ _ e,bT,bT,bq,if_neg b,if_pos ⟨c,d⟩,cI,Option.map_map]
 congr 1;funext x;simp;omega
theorem jr (l:List UInt8) (q:Int) (e:0<=q/\q<=255) (a:List UInt8) (j:Nat) (b:¬(au l j=q/\¬au l (j+1)=q)) (c:¬(au l j=92/\au l (j+1)=10)) (d:cy (l.drop j) q=none):iy l q a j=none:=by
 unfold iy;rw [mj _ _ e,bT,bT,bq,if_neg b,if_neg c,d];rfl
theorem jq (l:List UInt8) (q:Int) (f:0<=q/\q<=255) (a:List UInt8) (j k:Nat) (c:Int) (b:¬(au l j=q/\¬au l (j+1)=q)) (d:¬(au l j=92/\au l (j+1)=10)) (e:cy (l.drop j) q=some (c,k)):iy l q a j=iy l q (a++[c.toNat.toUInt8]) (j+k):=by
 unfold iy;rw [mj _ _ f,bT,bT,bq,if_neg b,if_neg d,e]
 simp only []
 rw [cI,Option.map_map]
 congr 1;funext x;simp;omega
theorem lP (q:Int) (a:0<=q/\q<=255):∀(f:Nat) (l:List UInt8) (t:List UInt8) (k:Nat),jD f l q=some (t,k)->k+1<=l.length
 | 0,_,_,_,h=>by cases h
 | f+1,l,t,k,h=>by
  unfold jD at h
  have m:=dK l 0
  by_cases e:au l 0=q/\¬au l 1=q
  ·rw [if_pos e] at h;injection h with h;injection h with e1 e2;subst e2;omega
  rw [if_neg e] at h
  by_cases g:au l 0=92/\au l 1=10
  ·have n:=dK l 1
   rw [if_pos g] at h
   cases hi:jD f (l.drop 2) q with
   | none=>rw [hi] at h;cases h
   | some x=>
    obtain ⟨d,b⟩:=x
    have:=lP q a f (l.drop 2) d b hi
    rw [hi] at h;injection h with h;injection h with e1 e2;subst e2
    rw [aI] at this;simp only [];omega
  rw [if_neg g] at h
  cases hs:cy l q with
  | none=>rw [hs] at h;cases h
  | some ck=>
   obtain ⟨c,j⟩:=ck
   have i:=eD l q c j a hs
   rw [hs] at h
   simp only [] at h
   cases hi:jD f (l.drop j) q with
   | none=>rw [hi] at h;cases h
   | some x=>
    obtain ⟨d,b⟩:=x
    have:=lP q a f (l.drop j) d b hi
    rw [hi] at h;injection h with h;injection h with e1 e2;subst e2
    rw [aI] at this;simp only [];omega
theorem gM (b:Int) (t:List UInt8) (a e:Int) (h:(dz b t a e).err=0):(dz b t a e).at_=a/\(dz b t a e).end_=e/\(dz b t a e).kind=b/\(dz b t a e).text=t:=by
 unfold dz at *
 by_cases c:100<t.length
 ·rw [if_pos c] at h;exact absurd h (by decide)
 ·rw [if_neg c];exact ⟨rfl,rfl,rfl,rfl⟩
theorem rn (b:Int) (t:List UInt8) (a e:Int) (h:(intR b t a e).err=0):(intR b t a e).at_=a/\(intR b t a e).end_=e:=by
 unfold intR at *
 by_cases c:cL b t<=9223372036854775808
 ·rw [if_pos c];exact ⟨rfl,rfl⟩
 ·rw [if_neg c] at h;exact absurd h (by decide)
theorem CP (c:Int) (h:cls c=2\/cls c=3):dw c=true:=by unfold dw;rcases h with h | h <;> rw [h] <;> rfl
theorem CO (c:Int) (h:cls c=4):bY 10 c=true:=by
 have a:48<=c/\c<=57:=by unfold cls at h;grind (splits:=30)
 unfold bY;rw [kD _ _ (by decide) (by decide)];unfold pq;rw [if_pos a];simp;omega
theorem Gg (m l:List UInt8) (v:m.length=l.length) (p:Nat) (w:p<l.length) (h:(cj m l p).err=0):(cj m l p).at_=p/\∃e:Nat,(cj m l p).end_=e/\p<e/\e<=l.length:=by
 unfold cj at *
 have hd:0<(m.drop p).length:=by simp;omega
 have o:au (m.drop p) 0=au m p:=by rw [bT,bq]
 by_cases a0:au m p=47/\au m (p+1)=42
 ·rw [if_pos a0] at h;exact absurd h (by decide)
 rw [if_neg a0] at *
 by_cases i:cls (au m p)=2\/cls (au m p)=3
 ·rw [if_pos i] at *
  have s:=kH dw (m.drop p) hd (by rw [o];exact CP _ i)
  have f:=fD dw (m.drop p)
  rw [aI] at f
  obtain ⟨a,b,_⟩:=gM _ _ _ _ h
  exact ⟨a,p+bW dw (m.drop p),by unfold nO;rw [b];simp,by omega,by omega⟩
 rw [if_neg i] at *
 by_cases j:cls (au m p)=4
 ·rw [if_pos j] at *
  unfold jh at *
  by_cases d:au m p=48/\au m (p+1)=39
  ·rw [if_pos d] at *
   cases hq:cy (l.drop (p+2)) 39 with
   | none=>rw [hq] at h;exact absurd h (by show ¬(7:Int)=0;decide)
   | some ck=>
    obtain ⟨c,k⟩:=ck
    have u:=eD _ _ _ _ (by decide) hq
    rw [aI] at u
    exact ⟨rfl,p+2+k,by simp,by omega,by omega⟩
  rw [if_neg d] at *
  by_cases g:0<cd m p/\0<bW (bY (cd m p)) (m.drop (p+2))
  ·rw [if_pos g] at *
   have f:=fD (bY (cd m p)) (m.drop (p+2))
   rw [aI] at f
   obtain ⟨a,b⟩:=rn _ _ _ _ h
   exact ⟨a,p+2+bW (bY (cd m p)) (m.drop (p+2)),by rw [b];simp,by omega,by omega⟩
  ·rw [if_neg g] at *
   have s:=kH (bY 10) (m.drop p) hd (by rw [o];exact CO _ j)
   have f:=fD (bY 10) (m.drop p)
   rw [aI] at f
   obtain ⟨a,b⟩:=rn _ _ _ _ h
   exact ⟨a,p+bW (bY 10) (m.drop p),by rw [b];simp,by omega,by omega⟩
 rw [if_neg j] at *
 by_cases n:cls (au m p)=5
 ·rw [if_pos n] at *
  unfold mC at *
  by_cases d:au m p=46/\jb (au m (p+1))=true
  ·rw [if_pos d];exact ⟨rfl,p+1,by simp,by omega,by omega⟩
  ·rw [if_neg d] at *
   have s:=kH db (m.drop p) hd (by rw [o];unfold db;rw [n];rfl)
   have f:=fD db (m.drop p)
   rw [aI] at f
   obtain ⟨a,b,_⟩:=gM _ _ _ _ h
   exact ⟨a,p+bW db (m.drop p),by rw [b];simp,by omega,by omega⟩
 rw [if_neg n] at *
 by_cases q:cls (au m p)=6
 ·rw [if_pos q] at *
  obtain ⟨a,b,_⟩:=gM _ _ _ _ h
  exact ⟨a,p+1,by unfold qx;rw [b];simp,by omega,by omega⟩
 rw [if_neg q] at *
 by_cases r:cls (au m p)=7
 ·rw [if_pos r] at *
  unfold gY at *
  by_cases d:au m p=34
  ·rw [if_pos d] at *
   cases hi:ko (l.drop (p+1)) 34 with
   | none=>rw [hi] at h;exact absurd h (by show ¬(7:Int)=0;decide)
   | some x=>
    obtain ⟨t,k⟩:=x
    have:=lP 34 (by decide) _ _ _ _ hi
    rw [aI] at this
    exact ⟨rfl,p+1+k+1,by simp [mJ],by omega,by omega⟩
  rw [if_neg d] at *
  by_cases g:au m p=39
  ·rw [if_pos g] at *
   cases hi:ko (l.drop (p+1)) 39 with
   | none=>rw [hi] at h;exact absurd h (by show ¬(7:Int)=0;decide)
   | some x=>
    obtain ⟨t,k⟩:=x
    have:=lP 39 (by decide) _ _ _ _ hi
    rw [aI] at this
    rw [hi] at h
    obtain ⟨a,b,_⟩:=gM _ _ _ _ h
    exact ⟨a,p+1+k+1,by unfold si;rw [b];simp,by omega,by omega⟩
  ·rw [if_neg g] at h;exact absurd h (by decide)
 ·rw [if_neg r] at h;exact absurd h (by decide)
theorem xL (m l:List UInt8) (j:m.length=l.length) (a:Nat) (n:a<=l.length) (h:(bt m l a).r.err=0) :
  ∃p e:Nat,(bt m l a).r.at_=p/\a<=p/\(bt m l a).r.end_=e/\p<e/\e<=l.length/\(bt m l a).lay=decide (a<p)/\(bt m l a).where_=0:=by
 unfold bt at *
 have k:=gJ (m.drop a)
 rw [aI] at k
 by_cases c:a+bL (m.drop a)=l.length
 ·simp only [if_pos c] at h;exact absurd h (by decide)
 simp only [if_neg c] at *
 by_cases b:(cj m l (a+bL (m.drop a))).err=0
 ·simp only [if_pos b] at *
  obtain ⟨d,e,f,g,i⟩:=Gg m l j (a+bL (m.drop a)) (by omega) h
  exact ⟨_,e,d,by omega,f,g,i,rfl,by first | trivial | rfl⟩
 ·simp only [if_neg b] at h
  exact absurd h b
structure AllR where
 l:List NextR
 where_:Int
 err:Int
def qq:Nat->List UInt8->List UInt8->Nat->List NextR->AllR
 | 0,_,_,_,_=>⟨[],0,99⟩
 | f+1,m,l,a,acc=>
  if (bt m l a).r.err=14/\acc≠[] then ⟨[],(bt m l a).where_,7⟩
  else if ¬(bt m l a).r.err=0 then ⟨[],(bt m l a).where_,(bt m l a).r.err⟩
  else if (bt m l a).r.kind=7 then ⟨acc++[bt m l a],0,0⟩
  else qq f m l (bt m l a).r.end_.toNat (acc++[bt m l a])
def oD (m l:List UInt8) (a:Nat):AllR:=qq (l.length+1) m l a []
theorem lV (f:Nat) (m l:List UInt8) (a:Nat) (b:List NextR):qq (f+1) m l a b =
  if (bt m l a).r.err=14/\b≠[] then ⟨[],(bt m l a).where_,7⟩
  else if ¬(bt m l a).r.err=0 then ⟨[],(bt m l a).where_,(bt m l a).r.err⟩
  else if (bt m l a).r.kind=7 then ⟨b++[bt m l a],0,0⟩
  else qq f m l (bt m l a).r.end_.toNat (b++[bt m l a]):=rfl
def JR (q:Int) (b:UInt8):List UInt8:=(if (b.toNat:Int)=34/\q=34 then [92] else [])++yh (b.toNat:Int)
def kS (q:Int) (s:List UInt8):List UInt8:=s.flatMap (JR q)
theorem uA (q:Int) (b:UInt8) (s:List UInt8):kS q (b::s)=JR q b++kS q s:=by simp [kS]
theorem CZ (q:Int) (b:UInt8) (s:List UInt8):kS q (s++[b])=kS q s++JR q b:=by simp [kS]
theorem pP (b:UInt8) (l:List UInt8):au (b::l) 0=(b.toNat:Int):=cU b l
theorem ty (a b:UInt8) (l:List UInt8):au (a::b::l) 1=(b.toNat:Int):=by rw [fs,cU]
theorem Lv (a b c d:UInt8) (l:List UInt8):au (a::b::c::d::l) 3=(d.toNat:Int):=by rw [fs,fs,fs,cU]
theorem Lu (a b c d e:UInt8) (l:List UInt8):au (a::b::c::d::e::l) 4=(e.toNat:Int):=by rw [fs,fs,fs,fs,cU]
structure Reads (q:Int) (e:List UInt8) (c:Int):Prop where
 rd:∀r,cy (e++r) q=some (c,e.length)
 n:∀r,¬au (e++r) 0=q
 k:∀r,¬(au (e++r) 0=92/\au (e++r) 1=10)
theorem xg (q:Int) (b:UInt8) (d:32<=(b.toNat:Int)) (a:¬(b.toNat:Int)=q) (c:¬(b.toNat:Int)=92):Reads q [b] (b.toNat:Int) where
 rd:=fun r=>by
  unfold cy
  simp only [List.singleton_append,pP]
  rw [if_neg (by omega),if_neg a,if_pos c];rfl
 n:=fun r=>by rw [List.singleton_append,pP];exact a
 k:=fun r=>by rw [List.singleton_append,pP];exact fun h=>c h.1
theorem pO (q:Int) (x:UInt8) (c:Int) (b:q=39\/q=34) (h:Bl (x.toNat:Int)=some c) (a:¬(x.toNat:Int)=10):Reads q [92,x] c where
 rd:=fun r=>by
  unfold cy
  simp only [ai,am,pP,ty]
  rw [if_neg (by decide),if_neg (by show ¬((92:UInt8).toNat:Int)=q;simp;omega),if_neg (by decide),if_pos (by unfold kX;rw [h];rfl)]
  unfold ts;rw [h];rfl
 n:=fun r=>by simp only [ai,pP];simp;omega
 k:=fun r=>by simp only [ai,am,pP,ty];exact fun h=>a h.2
theorem Hl:∀n:Nat,n<256->bY 16 ((mm (n / 16)).toNat:Int)=true/\bY 16 ((mm (n % 16)).toNat:Int)=true/\cL 16 [mm (n / 16),mm (n % 16)]=n:=by decide +kernel
theorem Fh:∀n:Nat,n<16->bY 16 ((mm n).toNat:Int)=true/\cL 16 [mm n]=n:=by decide +kernel
theorem KJ:bY 16 ((92:UInt8).toNat:Int)=false:=by decide +kernel
theorem yX (q:Int) (x y:UInt8) (c:Nat) (j:q=39\/q=34) (e:bY 16 (x.toNat:Int)=true) (f:bY 16 (y.toNat:Int)=true) (g:cL 16 [x,y]=c) (h:c<=255):Reads q [92,120,x,y,92] c where
 rd:=fun r=>by
  have b:jE ([92,120,x,y,92]++r)=16:=by unfold jE;simp only [ai,ty];rfl
  have a:eS ([92,120,x,y,92]++r)=2:=by unfold eS;simp only [ai,ty];rfl
  have d:fv ([92,120,x,y,92]++r)=2:=by unfold fv;rw [b,a];simp only [ai,am,gH,cH,bW,e,f,KJ];rfl
  have i:iU ([92,120,x,y,92]++r)=c:=by unfold iU;rw [b,a,d];simp only [ai,am,gH,cH,List.take_succ_cons,List.take_zero];exact g
  unfold cy
  rw [d,a,i]
  simp only [ai,am,pP,ty]
  rw [if_neg (by decide),if_neg (by show ¬((92:UInt8).toNat:Int)=q;simp;omega),if_neg (by decide),if_neg (by decide +kernel),if_pos ⟨by decide,h,Lu _ _ _ _ _ _⟩];rfl
 n:=fun r=>by simp only [ai,pP];simp;omega
 k:=fun r=>by simp only [ai,am,pP,ty];decide
theorem yY (q:Int) (x:UInt8) (c:Nat) (i:q=39\/q=34) (e:bY 16 (x.toNat:Int)=true) (f:cL 16 [x]=c) (g:c<=255):Reads q [92,120,x,92] c where
 rd:=fun r=>by
  have b:jE ([92,120,x,92]++r)=16:=by unfold jE;simp only [ai,ty];rfl
  have a:eS ([92,120,x,92]++r)=2:=by unfold eS;simp only [ai,ty];rfl
  have d:fv ([92,120,x,92]++r)=1:=by unfold fv;rw [b,a];simp only [ai,am,gH,cH,bW,e,KJ];rfl
  have h:iU ([92,120,x,92]++r)=c:=by unfold iU;rw [b,a,d];simp only [ai,am,gH,cH,List.take_succ_cons,List.take_zero];exact f
  unfold cy
  rw [d,a,h]
  simp only [ai,am,pP,ty]
  rw [if_neg (by decide),if_neg (by show ¬((92:UInt8).toNat:Int)=q;simp;omega),if_neg (by decide),if_neg (by decide +kernel),if_pos ⟨by decide,g,Lv _ _ _ _ _⟩];rfl
 n:=fun r=>by simp only [ai,pP];simp;omega
 k:=fun r=>by simp only [ai,am,pP,ty];decide
theorem xW:∀n:Nat,n<256->7<=n/\n<=13->Bl ((letters.getD (((n:Int)-7).toNat) 0).toNat:Int)=some (n:Int)/\¬((letters.getD (((n:Int)-7).toNat) 0).toNat:Int)=10:=by decide +kernel
theorem CX (b:UInt8):((b.toNat:Int).toNat).toUInt8=b:=by simp
theorem Cc (q:Int) (b:UInt8) (c:q=39\/q=34):Reads q (JR q b) (b.toNat:Int):=by
 have g:=b.toNat_lt
 have h:=CX b
 unfold JR yh
 rw [if_neg (show ¬¬(0<=(b.toNat:Int)/\(b.toNat:Int)<=255) by omega)]
 by_cases e:7<=(b.toNat:Int)/\(b.toNat:Int)<=13
 ·rw [if_neg (by omega),if_pos e,am]
  have:=xW b.toNat g (by omega)
  exact pO _ _ _ c this.1 this.2
 rw [if_neg e]
 by_cases f:(b.toNat:Int)=39\/(b.toNat:Int)=92
 ·rw [if_neg (by omega),if_pos f,am,h]
  exact pO _ _ _ c (by unfold Bl;rw [if_pos (by omega)]) (by omega)
 rw [if_neg f]
 by_cases d:32<=(b.toNat:Int)/\(b.toNat:Int)<=126
 ·rw [if_pos d,h]
  by_cases a:(b.toNat:Int)=34/\q=34
  ·rw [if_pos a]
   exact pO _ _ _ c (by unfold Bl;rw [if_pos (by omega)]) (by omega)
  ·rw [if_neg a,am]
   exact xg _ _ d.1 (by omega) (by omega)
 rw [if_neg d,if_neg (by omega),am]
 simp only [Int.toNat_natCast]
 by_cases a:16<=(b.toNat:Int)
 ·rw [if_pos a]
  have:=Hl b.toNat g
  exact yX _ _ _ _ c this.1 this.2.1 this.2.2 (by omega)
 ·rw [if_neg a]
  have:=Fh b.toNat (by omega)
  rw [Nat.mod_eq_of_lt (by omega)]
  exact yY _ _ _ c this.1 this.2 (by omega)
theorem ul (q:Int) (c:q=39\/q=34) (a:UInt8) (d:(a.toNat:Int)=q):∀s:List UInt8,ko (kS q s++[a]) q=some (s,(kS q s).length)
 | []=>by
  rw [mj _ _ (by omega)]
  show (if au [a] 0=q/\¬au [a] 1=q then _ else _)=_
  rw [if_pos ⟨by rw [pP,d],by rw [jN _ _ (by simp)];omega⟩];rfl
 | b::s=>by
  have R:=Cc q b c
  rw [uA,bG,mj _ _ (by omega),if_neg (fun h=>R.n _ h.1),if_neg (R.k _),R.rd]
  simp only [List.drop_left,ul q c a d s]
  simp [Nat.add_comm]
def fY (s:List UInt8):List UInt8:=39::(kS 39 s++[39])
theorem FK (b:UInt8):JR 39 b=yh (b.toNat:Int):=by unfold JR;rw [if_neg (fun h=>absurd h.2 (by decide)),am]
def fc (q:Int->Bool) (s:List UInt8):Bool:=s.all fun b=>q (b.toNat:Int)
def uN (s:List UInt8):Bool:=s==[91,93]||(s==[123,125]||(s==[33]||s==[59]))
def ln (s:List UInt8):Bool :=
 decide (s.length<=100)&&(uN s||((fc dw s&&cls (au s 0)==2)||(fc db s&&(!s.isEmpty&&(!(s==[46]) && !(s.take 2==[47,42]))))))
def gq (s:List UInt8):List UInt8:=if ln s=true then s else fY s
def eo (a b:List UInt8):Bool :=
 !a.isEmpty&&(!b.isEmpty&&((dw (au a (a.length-1))&&dw (au b 0))||((db (au a (a.length-1))&&db (au b 0))||((au a (a.length-1)==au b 0&&cls (au a (a.length-1))==7)||(a==[48]&&au b 0==39)))))
def lf (a b:List UInt8):List UInt8:=if eo a b=true then [32] else []
def eV (a:List UInt8):List (List UInt8)->List UInt8
 | []=>[]
 | s::l=>lf a s++s++eV s l
def dP (l:List (List UInt8)):List UInt8:=eV [] l
theorem mW:∀(l:List (List UInt8)) (a s:List UInt8),eV a (l++[s])=eV a l++(lf ((a::l).getLast (by simp)) s++s)
 | [],a,s=>by simp [eV]
 | x::l,a,s=>by
  have:=mW l x s
  simp only [ai,eV,this,bG]
  simp
theorem Ao (s:ByteArray):∀(d i:Nat) (r:List UInt8),s.size-i=d->eX s i r=r.reverse++s.data.toList.drop i
 | 0,i,r,h=>by
  unfold eX
  rw [if_neg (by omega),eI (by simp;omega)];simp
 | d+1,i,r,h=>by
  have a:i<s.size:=by omega
  have b:i<s.data.toList.length:=by simpa using a
  unfold eX
  rw [if_pos a,Ao s d (i+1) _ (by omega),dU b]
  simp [ByteArray.get!,a]
  first | rfl | (have:s.data[i]! = s.data[i]:=getElem!_pos s.data i a;simp [this]) | skip
theorem iC (s:ByteArray):s.toList=s.data.toList:=by
 unfold ByteArray.toList
 rw [Ao s _ 0 [] rfl];simp
theorem rB (s:ByteArray) (h:0<s.size):¬s.toList=[]:=fun e=>by
 rw [iC] at e
 have a:s.data.toList.length=0:=by rw [e];rfl
 have b:s.data.toList.length=s.size:=by simp
 omega
theorem mI (s:ByteArray) (h:0<s.size):s.toList.isEmpty=false:=by
 have:=rB s h
 simpa using this
end Hb
namespace Hb
open Go Go.RowKit
structure WO where
 q:Bool
 ig:Bool
 nu:Bool
def tm0:Tm:=.mk 0 0 ⟨#[]⟩ []
def Tm.arg (t:Tm) (j:Nat):Tm:=t.args.getD j tm0
theorem Tm.arg_get (t:Tm) (j:Nat) (h:j<t.args.length):t.arg j=t.args[j]:=by
 unfold Tm.arg;rw [aR,aT h];rfl
def Tm.isNm (t:Tm) (l:List UInt8):Bool:=t.name.toList==l
def s1 (c:UInt8):ByteArray:=⟨#[c]⟩
def kV (n:Int):ByteArray:=⟨(Lib.itoa n).toArray⟩
def jo (o:WO) (s:ByteArray):ByteArray:=if o.q=true then ⟨(gq s.data.toList).toArray⟩ else s
def brk (l:List ByteArray) (b:Bool):List ByteArray:=if b=true then s1 40::(l++[s1 41]) else l
def kN (T:List OpR) (s:ByteArray):Bool:=bF T&&T.any (isNm s)
abbrev WR:=List ByteArray×OpR
def bo (o:WO) (T:List OpR) (S:Tm->WR) (t:Tm) (max:Int) (a:Bool):List ByteArray :=
 if t.kind=0 then [s1 95++kV t.num] else if t.kind=1 then [kV t.num]
 else if t.kind=2 then brk [jo o t.name] (a&&kN T t.name)
 else brk (S t).1 (decide (max<(S t).2.prec))
def cF (o:WO) (T:List OpR) (S:Tm->WR) (t:Tm):List ByteArray:=bo o T S t 999 false
def cY (P:Tm->List ByteArray):List Tm->List ByteArray
 | []=>[]
 | t::l=>P t++l.flatMap fun u=>s1 44::P u
def Tm.cons (t:Tm):Bool:=t.kind==3&&(t.isNm [46]&&t.args.length==2)
theorem Tm.nodes_arg (t:Tm) (j:Nat) (h:j<t.args.length):(t.arg j).nodes<t.nodes:=by
 rw [Tm.arg_get t j h,Tm.nodes_eq t]
 have:∀(l:List Tm) (a:Tm),a∈l->a.nodes<=(l.map Tm.nodes).sum:=by
  intro l
  induction l with
  | nil=>intro a c;cases c
  | cons b l ih=>
   intro a c
   rw [List.map_cons,List.sum_cons]
   rcases List.mem_cons.1 c with rfl | c
   ·omega
   ·have:=ih a c;omega
 have:=this t.args _ (List.getElem_mem h)
 omega
theorem Tm.cons_len {t:Tm} (h:t.cons=true):t.args.length=2:=by
 unfold Tm.cons at h
 simp at h
 exact h.2.2
def lr:Nat->Tm->List Tm
 | 0,_=>[]
 | f+1,t=>if t.cons=true then t.arg 0::lr f (t.arg 1) else []
def qw:Nat->Tm->Tm
 | 0,t=>t
 | f+1,t=>if t.cons=true then qw f (t.arg 1) else t
theorem sU:∀(f g:Nat) (t:Tm),t.nodes<=f->t.nodes<=g->lr f t=lr g t
 | 0,_,t,h,_=>absurd h (by have:=t.nodes_pos;omega)
 | _,0,t,_,h=>absurd h (by have:=t.nodes_pos;omega)
 | f+1,g+1,t,h,k=>by
  show (if t.cons=true then t.arg 0::lr f (t.arg 1) else [])=(if t.cons=true then t.arg 0::lr g (t.arg 1) else [])
  split
  ·rename_i a
   have:=t.nodes_arg 1 (by rw [Tm.cons_len a];decide)
   rw [sU f g (t.arg 1) (by omega) (by omega)]
  ·rfl
theorem tR:∀(f g:Nat) (t:Tm),t.nodes<=f->t.nodes<=g->qw f t=qw g t
 | 0,_,t,h,_=>absurd h (by have:=t.nodes_pos;omega)
 | _,0,t,_,h=>absurd h (by have:=t.nodes_pos;omega)
 | f+1,g+1,t,h,k=>by
  show (if t.cons=true then qw f (t.arg 1) else t)=(if t.cons=true then qw g (t.arg 1) else t)
  split
  ·rename_i a
   have:=t.nodes_arg 1 (by rw [Tm.cons_len a];decide)
   rw [tR f g (t.arg 1) (by omega) (by omega)]
  ·rfl
def cE (t:Tm):List Tm:=lr t.nodes t
def cS (t:Tm):Tm:=qw t.nodes t
theorem ju {t:Tm} (h:t.cons=true):cE t=t.arg 0::cE (t.arg 1):=by
 have b:=t.nodes_arg 1 (by rw [Tm.cons_len h];decide)
 unfold cE
 obtain ⟨f,a⟩:∃f,t.nodes=f+1:=⟨t.nodes-1,by have:=t.nodes_pos;omega⟩
 rw [a]
 show (if t.cons=true then t.arg 0::lr f (t.arg 1) else [])=_
 rw [if_pos h,sU f (t.arg 1).nodes (t.arg 1) (by omega) (ag _)]
theorem iI {t:Tm} (h:t.cons=false):cE t=[]:=by
 unfold cE
 obtain ⟨f,a⟩:∃f,t.nodes=f+1:=⟨t.nodes-1,by have:=t.nodes_pos;omega⟩
 rw [a]
 show (if t.cons=true then t.arg 0::lr f (t.arg 1) else [])=_
 rw [if_neg (by simp [h])]
theorem kG {t:Tm} (h:t.cons=true):cS t=cS (t.arg 1):=by
 have b:=t.nodes_arg 1 (by rw [Tm.cons_len h];decide)
 unfold cS
 obtain ⟨f,a⟩:∃f,t.nodes=f+1:=⟨t.nodes-1,by have:=t.nodes_pos;omega⟩
 rw [a]
 show (if t.cons=true then qw f (t.arg 1) else t)=_
 rw [if_pos h,tR f (t.arg 1).nodes (t.arg 1) (by omega) (ag _)]
theorem jl {t:Tm} (h:t.cons=false):cS t=t:=by
 unfold cS
 obtain ⟨f,a⟩:∃f,t.nodes=f+1:=⟨t.nodes-1,by have:=t.nodes_pos;omega⟩
 rw [a]
 show (if t.cons=true then qw f (t.arg 1) else t)=_
 rw [if_neg (by simp [h])]
def iD (o:WO) (t:Tm):Bool:=o.nu&&(t.isNm [36,86,65,82]&&(t.args.length==1&&((t.arg 0).kind==1&&decide (0<=(t.arg 0).num))))
def kn (n:Int):ByteArray:=if n<26 then s1 (65+n.toNat % 26).toUInt8 else s1 (65+n.toNat % 26).toUInt8++kV (n / 26)
def mr (s:ByteArray) (i:Nat):Bool:=decide (i<s.size)&&(decide (48<=ie s.data.toList i)&&decide (ie s.data.toList i<=57))
def dC (o:WO) (T:List OpR) (S:Tm->WR) (t:Tm) (op:OpR):List ByteArray :=
 if t.kind=3 then brk (S t).1 (decide (fX op<(S t).2.prec)||((op.typ==3||op.typ==7)&&((S t).2.typ==2||(S t).2.typ==4))&&(S t).2.prec==op.prec)
 else bo o T S t (fX op) true
def has (T:List OpR) (s:ByteArray) (c:Int):Bool:=(dt T s c).isSome
def cQ (T:List OpR) (s:ByteArray) (c:Int):OpR:=(dt T s c).getD op0
def hd (l:List ByteArray):ByteArray:=l.headD ⟨#[]⟩
def pW (T:List OpR) (s:ByteArray):Bool:=(decide (0<s.size)&&ie s.data.toList 0==45)&&(mr s 1&&((has T (s1 45) 2||has T (s1 45) 3) && !has T (s1 45) 1))
def iL (o:WO) (T:List OpR) (S:Tm->WR) (t:Tm) (op:OpR):List ByteArray :=
 let p:=bo o T S t (dv op) true
 brk p (pW T (hd p))
def tu (a:ByteArray) (p:List ByteArray):Bool:=(hd p).toList==[40]||(a.toList==[45]&&mr (hd p) 0)
def jm (o:WO) (s:ByteArray):ByteArray:=if (s.toList==[44]||s.toList==[124])=true then s else jo o s
def iR (P:Tm->List ByteArray) (u:Tm):List ByteArray:=if (u.kind==2&&u.isNm [91,93])=true then [] else s1 124::P u
def mx (o:WO) (T:List OpR) (S:Tm->WR) (t:Tm):WR :=
 if iD o t=true then ([kn (t.arg 0).num],op0)
 else if (t.isNm [46]&&t.args.length==2)=true then (s1 91::((cY (cF o T S) (cE t)++iR (cF o T S) (cS t))++[s1 93]),op0)
 else if (!o.ig&&(t.isNm [123,125]&&t.args.length==1))=true then (s1 123::(bo o T S (t.arg 0) 1200 false++[s1 125]),op0)
 else if (!o.ig&&(has T t.name 2&&t.args.length==2))=true then ((dC o T S (t.arg 0) (cQ T t.name 2)++[jm o t.name])++bo o T S (t.arg 1) (dv (cQ T t.name 2)) true,cQ T t.name 2)
 else if (!o.ig&&(has T t.name 1&&t.args.length==1))=true then
  (jo o t.name::((if tu t.name (iL o T S (t.arg 0) (cQ T t.name 1))=true then [s1 32] else [])++iL o T S (t.arg 0) (cQ T t.name 1)),cQ T t.name 1)
 else if (!o.ig&&(has T t.name 3&&t.args.length==1))=true then (dC o T S (t.arg 0) (cQ T t.name 3)++[jo o t.name],cQ T t.name 3)
 else (jo o t.name::(s1 40::(cY (cF o T S) t.args++[s1 41])),op0)
def tt (o:WO) (T:List OpR):Nat->Tm->WR
 | 0=>fun _=>([],op0)
 | f+1=>mx o T (tt o T f)
theorem kA {w w':aj} {b e size:Nat} {v:aA} {n:Nat} {xs:List aA} (h:w.ownsRow b e size v n xs) (f:ay w.heap.size w w'):w'.ownsRow b e size v n xs:=by
 refine ⟨h.1,?_⟩
 rcases h.2 with j | ⟨g,c,d,k,i,a,rest⟩
 ·exact .inl j
 ·exact .inr ⟨g,c,d,k,i,(f.block g (by rw [Array.getElem?_eq_some_iff] at a;exact a.1)).trans a,rest⟩
theorem nT {T e:bJ} {B b:Nat} {p:aA} {a:List aA} {w w':aj} (h:Lib.BuilderAt T e B b p a w) (c:ay w.heap.size w w'):Lib.BuilderAt T e B b p a w':=by
 have g:=h.lt
 obtain ⟨d,v,f,j,i⟩:=h
 exact ⟨d,v,(c.block b g).trans f,kA j c,i⟩
theorem pZ {T e:bJ} {B b:Nat} {a:List aA} {w w':aj} (h:ff T e B b a w) (c:ay w.heap.size w w'):ff T e B b a w' :=
 h.elim (fun h=>.inl (nT h c)) (fun h=>.inr (nT h c))
theorem AS (T e:bJ) (w:aj):ff T e w.heap.size w.heap.size [] (w.alloc (.cells #[ax none,.slice none 0 0] T)) :=
 .inl ⟨ag _,.slice none 0 0,by show (w.heap.push _)[w.heap.size]? = _;simp,World.ownsRow_nil _ _ _ _,by intro h;cases h⟩
end Hb
namespace Go.Proofs.YtgapnafkelokaaaGreatDoor
open Go.RowKit Hb
theorem sizeBuilder:(Tryz.prog.info? 108).map (fun i=>i.size)=some 2:=by kernel_rfl
theorem liesBuilder:liesAt ah Tryz.prog.depth 108 (2 / Tryz.prog.cellsOf 108) 0 108 1=true:=by kernel_rfl
theorem infoByte:(Tryz.prog.info? 5).map (fun i=>(i.zero,i.size,i.bytes))=some (some (ab .u8 0),1,1):=by kernel_rfl
theorem CL (b:Nat) (w:aj) (c:w.cell? ⟨b,0,none⟩=some (ax (some ⟨b,0,none⟩))) :
  aG ah 94 #[ax (some ⟨b,0,none⟩)] w fun e w'=>e=av (aF #[])/\w=w':=by
 obtain ⟨j,a,_⟩:=Option.map_eq_some_iff.1 sizeBuilder
 have d:=fun w'=>Lib.run_neq_ptr_same (P:=ah) w' ⟨b,0,none⟩ Tryz.underlying106 a
 go_enter Tryz.func94,Tryz.ntmps94
 go_wp2
 go_end0
 exact ⟨rfl,rfl⟩
theorem zY (b:Nat) (w:aj) (f:w.cell? ⟨b,0,none⟩=some (ax none)) (c:w.shape? b=some (108,2)) (i:w.frozen? ⟨b,0,none⟩=false) :
  aG ah 94 #[ax (some ⟨b,0,none⟩)] w fun e w'=>e=av (aF #[])/\w'=w.setCell ⟨b,0,none⟩ (ax (some ⟨b,0,none⟩)):=by
 obtain ⟨j,a,d⟩:=Option.map_eq_some_iff.1 sizeBuilder
 have k:(callFunc 140 #[ax (some ⟨b,0,none⟩)]).run ah w=.ok (.value (ax (some ⟨b,0,none⟩))) w:=by
  rw [run_callFunc_extern Tryz.func140 (by kernel_rfl) (by kernel_rfl) (by kernel_rfl) (e:=Extern.AbiNoEscape.same) (by kernel_rfl),Lib.run_noEscape]
  rfl
 have g:=Lib.run_to_unsafe (P:=ah) w ⟨b,0,none⟩ Tryz.underlying106 Tryz.underlying176 a (by rw [d];decide) c (Nat.zero_lt_succ 1)
 have h:=Lib.run_from_unsafe (P:=ah) w ⟨b,0,none⟩ Tryz.underlying176 Tryz.underlying106 a c liesBuilder
 go_enter Tryz.func94,Tryz.ntmps94
 go_wp2
 go_end0
 exact ⟨rfl,rfl⟩
theorem yz (B b:Nat) (a:List aA) (w:aj) (h:ff 108 5 B b a w) :
  aG ah 94 #[ax (some ⟨b,0,none⟩)] w fun e w'=>e=av (aF #[])/\(Lib.BuilderAt 108 5 B b (ax (some ⟨b,0,none⟩)) a w'/\ay B w w'):=by
 rcases h with h | h
 ·refine (zY b w h.cell0 h.shape h.frozen0).mono ?_
  rintro e w' ⟨rfl,rfl⟩
  exact ⟨rfl,h.used _,(ak B w).setCell (p:=⟨b,0,none⟩) h.1 _⟩
 ·refine (CL b w h.cell0).mono ?_
  rintro e w' ⟨rfl,rfl⟩
  exact ⟨rfl,h,ak B _⟩
theorem tI (B b:Nat) (a:List aA) (s:ByteArray) (w:aj) (h:ff 108 5 B b a w) (Q:a.length+s.size<=140737488355328) (P:B<=w.heap.size) :
  aG ah 60 #[ax (some ⟨b,0,none⟩),aa s] w fun e w'=>e=av (aF #[ab ae s.size,.nilIface])/\(Lib.BuilderAt 108 5 B b (ax (some ⟨b,0,none⟩)) (a++Lib.strCells s) w'/\ay B w w'):=by
 obtain ⟨H,z,E,F,G⟩:=info_parts infoByte
 have x:=zq (yz B b a w h)
 go_enter Tryz.func60,Tryz.ntmps60
 go_wp2_with fail
 refine x.out.mono ?_
 rintro e f ⟨rfl,y,l⟩
 obtain ⟨o,v,d,r,D⟩:=y
 have J:f.cell? ⟨b,0,none⟩=some (ax (some ⟨b,0,none⟩)):=by rw [Lib.cell_of_heap d];rfl
 have K:f.cell? ⟨b,1,none⟩=some v:=by rw [Lib.cell_of_heap d];rfl
 go_wp2_with (at_builtin;refine Lib.wpList_append_own_string _ rfl _ _ 75 9 rfl B 5 H Tryz.underlying75 Tryz.underlying9 z E F G _ _ _ rfl r s rfl ?c3 ?c4 ?c5 ?_)
 case c3=>unfold maxLen;omega
 case c4=>omega
 case c5=>have:=l.size;omega
 intro I i t q _
 have C:b<f.heap.size:=by
  rcases dy b f.heap.size with j | j
  ·exact j
  ·simp [Array.getElem?_eq_none j] at d
 have c:i.heap[b]? = some (.cells #[ax (some ⟨b,0,none⟩),v] 108 (0,0)):=by
  rw [q.block b C (fun e=>D e.symm)]
  exact d
 have M:i.cell? ⟨b,0,none⟩=some (ax (some ⟨b,0,none⟩)):=by rw [Lib.cell_of_heap c];rfl
 have N:i.cell? ⟨b,1,none⟩=some v:=by rw [Lib.cell_of_heap c];rfl
 have O:i.frozen? ⟨b,1,none⟩=false:=Lib.frozen_of_heap c 1
 obtain ⟨n,u,cap,rfl⟩:∃n u cap,I=.slice n u cap:=by
  rcases t.2 with ⟨m,_⟩ | ⟨g,cap,L,m,_⟩
  ·exact ⟨_,_,_,m⟩
  ·exact ⟨_,_,_,m⟩
 go_wp2
 go_ret2
 refine ⟨rfl,?_,?_⟩
 ·exact Lib.BuilderAt.put (T:=108) (e:=5) o c (bs':=a++Lib.strCells s) (by simpa [Lib.strCells_length] using t) (by decide)
 ·exact (l.grown q (by have:=l.size;omega) (fun k A=>(r.lt k A).1)).setCell (p:=⟨b,1,none⟩) o _
end Go.Proofs.YtgapnafkelokaaaGreatDoor
