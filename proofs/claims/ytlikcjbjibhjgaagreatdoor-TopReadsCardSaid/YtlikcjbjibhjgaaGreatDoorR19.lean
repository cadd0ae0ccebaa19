/- Parts of the proof. -/
import Derived.Test.YtlikcjbjibhjgaaGreatDoorR01
import Derived.Test.YtlikcjbjibhjgaaGreatDoorR18
import Derived.Test.YtlikcjbjibhjgaaGreatDoorR16
import Derived.RegionTactic
import Derived.BigRegion
import Derived.Test.YtlikcjbjibhjgaaGreatDoorR02
set_option maxHeartbeats 12800000
set_option maxRecDepth 100000
open Array renaming getElem?_append_left -> ez
open Go renaming Calls -> aJ, Value -> az, World -> ai, bodyPost_ret -> ay, execOp -> aP, maxLen -> be, wpList -> cH
open Go.Ending renaming returned -> aw
open Go.IntKind renaming i64 -> ae
open Go.Proofs.Tryz renaming func59 -> fE, ntmps59 -> fc, prog -> ah, results59 -> cG
open Go.RowKit renaming Below -> ax
open Go.RowKit.Below renaming refl -> aj
open Go.Value renaming bool -> am, int -> ab, oneCell' -> eO, pointer -> au, slice -> ev, string -> aa, tuple -> aK
open Go.World renaming cell?_alloc_new -> aq, cell?_of_block -> bG, cell?_setCell_other -> cW
open Int renaming eq_ofNat_of_zero_le -> bJ, toNat_natCast -> aD
open List renaming length_append -> aB, length_drop -> aH
open Nat renaming le_refl -> ag, le_trans -> aI, zero_le -> bp
namespace Go.Proofs.YtlikcjbjibhjgaaGreatDoor
open Go.RowKit Hb
theorem BI (b:Nat) (s:ByteArray) (c:Int->Int) (a:Nat) (Z:Int) (w:ai) (h:Lex w b s c Z) (ha:a<=s.size) (x:¬(a+bS ((cU c s.data.toList).drop a))=s.size) (C:¬av (cU c s.data.toList) (a+bS ((cU c s.data.toList).drop a))=47) (F:cls (av (cU c s.data.toList) (a+bS ((cU c s.data.toList).drop a)))=6) :
  aJ ah 59 #[au (some ⟨b,0,none⟩),ab ae a] w fun e w'=>iZ (bF (cU c s.data.toList) s.data.toList a) e/\Only b w w'/\∃q,Lex w' b s c q:=by
 have m:=NHeld.start h
 have b0:=h.lt
 have b3:=h.sz
 clear h
 have a3:Hid ((cU c s.data.toList).length=s.size):=by show _=_;rw [dK];simp
 have J:Hid (s.data.toList.length=s.size):=size_data s
 have a4:=il ((cU c s.data.toList).drop a)
 rw [aH,a3.out] at a4
 generalize O:cU c s.data.toList=M at *
 have u:=zq O
 clear O
 generalize P:bS (M.drop a)=S at *
 have B:=zq P
 clear P
 have b1:((a:Int)+S==(s.size:Int))=false:=by simp;omega
 have W:Hid (∀e,¬e=0->(cC M s.data.toList (a+S)).err=e->Hid (bF M s.data.toList a=⟨dR e,false,a+S⟩)):=fun e i h=>by
  show bF M s.data.toList a=_
  unfold bF;simp only [B.out];rw [if_neg (by rw [J.out];exact x),if_neg (by rw [h];exact i),h];simp
 have X:Hid ((cC M s.data.toList (a+S)).err=0->Hid (bF M s.data.toList a=⟨cC M s.data.toList (a+S),decide (a<a+S),0⟩)):=fun h=>by
  show bF M s.data.toList a=_
  unfold bF;simp only [B.out];rw [if_neg (by rw [J.out];exact x),if_pos h]
 have hp:a+S<s.size:=by omega
 have a8:=zq x
 clear x
 have b2:(av M (a+S)==47)=false:=by simp [C]
 have U:=zq F
 have Y:=zq (show cC M s.data.toList (a+S)=rZ M (a+S) by unfold cC;rw [if_neg (fun h=>C h.1),F];rfl)
 clear C F
 go_enter fE,fc
 go_wp2_with fail
 refine (iT _ _ _ _ _ _ m.lex (by omega)).mono ?_;rintro e w1 ⟨rfl,K⟩;rw [aD,u.out,B.out]
 have j:=NHeld.call K m.lt m
 have c1:=j.lex.ca
 have f1:=j.lex.fr 257
 have a2:=j.lex.lt
 have k:=j.setAt (a+S)
 clear K m j
 go_wp2_with fail
 generalize a5:w1.setCell ⟨b,257,none⟩ (ab ae ((a:Int)+S))=I at *
 clear a5 c1 f1 a2
 have c2:=k.lex.ca
 have d2:=k.lex.c0
 go_quiet (fail)
 have f:=NHeld.call (dS (aj I.heap.size I) nq) k.lt k
 clear k c2 d2
 generalize a6:I.drewN nq=y at *
 clear a6
 have c3:=f.lex.ca
 obtain ⟨t6,v0,v1,v2,v3,v4,v5,t0,t1,t2,t3,t4,t5⟩:=f.tok
 have a9:=f.lt
 have a0:=f.lex.lt
 have n:=fun o=>NHeld.call ((aj y.heap.size y).alloc (ag _) o) f.lt f
 go_wp2_with fail
 refine (bt _ _ _ _ _ _ (n _).lex (by omega)).mono ?_;rintro e w6 ⟨rfl,L⟩;rw [show ((a:Int)+S).toNat=a+S by omega,u.out]
 have l:=NHeld.call L (n _).lt (n _)
 have c6:=l.lex.ca
 have G:=L
 go_wp2_with fail
 refine (bt _ _ _ _ _ _ l.lex (by omega)).mono ?_;rintro e w7 ⟨rfl,D⟩;rw [show ((a:Int)+S).toNat=a+S by omega,u.out]
 have z:=NHeld.call D l.lt l
 have H:=G.trans (D.mono G.size)
 go_wp2_with fail
 refine (cZ _ _).mono ?_;rintro e w8 ⟨rfl,E⟩;rw [U.out]
 have t:=NHeld.call E z.lt z
 have T:=H.trans (E.mono H.size)
 have fk:=(T.cell (p:=⟨y.heap.size,6,none⟩) (by simp)).trans (xo y)
 clear D E z H G l c6 f n c3 a0 t0 t1 t2 t3 t4 t5 t6 T
 go_wp2_with fail
 refine (Ip b s c (a+S) _ t.lex hp).mono ?_;rintro e w9 ⟨i,N⟩
 have d:=NHeld.call N t.lt t
 rw [u.out] at i
 rw [<-Y.out] at i
 generalize R:cC M s.data.toList (a+S)=r at *
 have HR:=zq R
 clear R
 unfold gj bV at i;subst i
 have c9:=d.lex.ca
 have Q:=d.lt
 have a7:=d.lex.lt
 obtain ⟨u6,x0,x1,x2,x3,x4,x5,u0,u1,u2,u3,u4,u5⟩:=d.tok
 clear t N fk
 by_cases g:r.err=0
 ·have z1:(r.err != 0)=false:=by simp [g]
  have A:=X.out g
  have V:=zq g
  clear g
  go_wp2_with fail
  have a1:Hid (decide ((a:Int)<(a:Int)+S)=decide (a<a+S)):=by show _=_;rw [decide_eq_decide];omega
  refine ay (v:=dp ⟨r,decide ((a:Int)<(a:Int)+S),0⟩) ?_ rfl ⟨?_,cj d.only (ag _) _ _ _ _ _ _ _,_,cJ d.lex (by have:=d.blt;omega) _ _ _ _ _ _ _⟩
  ·simp [dp,results,cG,go_sem,u0,u1,u2,u3,u4,u5,V.out,Q]
  ·rw [A.out,<-a1.out];rfl
 ·have z1:(r.err != 0)=true:=by simp [g]
  have A:=W.out r.err g rfl
  clear g
  go_wp2_with fail
  go_region
  go_wp2_with fail
  refine ay (v:=dp ⟨dR r.err,false,(a:Int)+S⟩) ?_ rfl ⟨?_,(cj d.only (ag _) _ _ _ _ _ _ _).drew,_,(cJ d.lex (by have:=d.blt;omega) _ _ _ _ _ _ _).drewN 1⟩
  ·simp [dp,dR,results,cG,go_sem,u0,u1,u2,u3,u4,u5,Q]
  ·rw [A.out];rfl
theorem BH (b:Nat) (s:ByteArray) (c:Int->Int) (a:Nat) (Z:Int) (w:ai) (h:Lex w b s c Z) (ha:a<=s.size) (x:¬(a+bS ((cU c s.data.toList).drop a))=s.size) (C:¬av (cU c s.data.toList) (a+bS ((cU c s.data.toList).drop a))=47) (F:cls (av (cU c s.data.toList) (a+bS ((cU c s.data.toList).drop a)))=7) :
  aJ ah 59 #[au (some ⟨b,0,none⟩),ab ae a] w fun e w'=>iZ (bF (cU c s.data.toList) s.data.toList a) e/\Only b w w'/\∃q,Lex w' b s c q:=by
 have m:=NHeld.start h
 have b0:=h.lt
 have b3:=h.sz
 clear h
 have a3:Hid ((cU c s.data.toList).length=s.size):=by show _=_;rw [dK];simp
 have J:Hid (s.data.toList.length=s.size):=size_data s
 have a4:=il ((cU c s.data.toList).drop a)
 rw [aH,a3.out] at a4
 generalize O:cU c s.data.toList=M at *
 have u:=zq O
 clear O
 generalize P:bS (M.drop a)=S at *
 have B:=zq P
 clear P
 have b1:((a:Int)+S==(s.size:Int))=false:=by simp;omega
 have W:Hid (∀e,¬e=0->(cC M s.data.toList (a+S)).err=e->Hid (bF M s.data.toList a=⟨dR e,false,a+S⟩)):=fun e i h=>by
  show bF M s.data.toList a=_
  unfold bF;simp only [B.out];rw [if_neg (by rw [J.out];exact x),if_neg (by rw [h];exact i),h];simp
 have X:Hid ((cC M s.data.toList (a+S)).err=0->Hid (bF M s.data.toList a=⟨cC M s.data.toList (a+S),decide (a<a+S),0⟩)):=fun h=>by
  show bF M s.data.toList a=_
  unfold bF;simp only [B.out];rw [if_neg (by rw [J.out];exact x),if_pos h]
 have hp:a+S<s.size:=by omega
 have a8:=zq x
 clear x
 have b2:(av M (a+S)==47)=false:=by simp [C]
 have U:=zq F
 have Y:=zq (show cC M s.data.toList (a+S)=iD M s.data.toList (a+S) by unfold cC;rw [if_neg (fun h=>C h.1),F];rfl)
 clear C F
 go_enter fE,fc
 go_wp2_with fail
 refine (iT _ _ _ _ _ _ m.lex (by omega)).mono ?_;rintro e w1 ⟨rfl,K⟩;rw [aD,u.out,B.out]
 have j:=NHeld.call K m.lt m
 have c1:=j.lex.ca
 have f1:=j.lex.fr 257
 have a2:=j.lex.lt
 have k:=j.setAt (a+S)
 clear K m j
 go_wp2_with fail
 generalize a5:w1.setCell ⟨b,257,none⟩ (ab ae ((a:Int)+S))=I at *
 clear a5 c1 f1 a2
 have c2:=k.lex.ca
 have d2:=k.lex.c0
 go_quiet (fail)
 have f:=NHeld.call (dS (aj I.heap.size I) nq) k.lt k
 clear k c2 d2
 generalize a6:I.drewN nq=y at *
 clear a6
 have c3:=f.lex.ca
 obtain ⟨t6,v0,v1,v2,v3,v4,v5,t0,t1,t2,t3,t4,t5⟩:=f.tok
 have a9:=f.lt
 have a0:=f.lex.lt
 have n:=fun o=>NHeld.call ((aj y.heap.size y).alloc (ag _) o) f.lt f
 go_wp2_with fail
 refine (bt _ _ _ _ _ _ (n _).lex (by omega)).mono ?_;rintro e w6 ⟨rfl,L⟩;rw [show ((a:Int)+S).toNat=a+S by omega,u.out]
 have l:=NHeld.call L (n _).lt (n _)
 have c6:=l.lex.ca
 have G:=L
 go_wp2_with fail
 refine (bt _ _ _ _ _ _ l.lex (by omega)).mono ?_;rintro e w7 ⟨rfl,D⟩;rw [show ((a:Int)+S).toNat=a+S by omega,u.out]
 have z:=NHeld.call D l.lt l
 have H:=G.trans (D.mono G.size)
 go_wp2_with fail
 refine (cZ _ _).mono ?_;rintro e w8 ⟨rfl,E⟩;rw [U.out]
 have t:=NHeld.call E z.lt z
 have T:=H.trans (E.mono H.size)
 have fk:=(T.cell (p:=⟨y.heap.size,7,none⟩) (by simp)).trans (xm y)
 clear D E z H G l c6 f n c3 a0 t0 t1 t2 t3 t4 t5 t6 T
 go_wp2_with fail
 refine (EY b s c (a+S) _ t.lex hp).mono ?_;rintro e w9 ⟨i,N⟩
 have d:=NHeld.call N t.lt t
 rw [u.out] at i
 rw [<-Y.out] at i
 generalize R:cC M s.data.toList (a+S)=r at *
 have HR:=zq R
 clear R
 unfold gj bV at i;subst i
 have c9:=d.lex.ca
 have Q:=d.lt
 have a7:=d.lex.lt
 obtain ⟨u6,x0,x1,x2,x3,x4,x5,u0,u1,u2,u3,u4,u5⟩:=d.tok
 clear t N fk
 by_cases g:r.err=0
 ·have z1:(r.err != 0)=false:=by simp [g]
  have A:=X.out g
  have V:=zq g
  clear g
  go_wp2_with fail
  have a1:Hid (decide ((a:Int)<(a:Int)+S)=decide (a<a+S)):=by show _=_;rw [decide_eq_decide];omega
  refine ay (v:=dp ⟨r,decide ((a:Int)<(a:Int)+S),0⟩) ?_ rfl ⟨?_,cj d.only (ag _) _ _ _ _ _ _ _,_,cJ d.lex (by have:=d.blt;omega) _ _ _ _ _ _ _⟩
  ·simp [dp,results,cG,go_sem,u0,u1,u2,u3,u4,u5,V.out,Q]
  ·rw [A.out,<-a1.out];rfl
 ·have z1:(r.err != 0)=true:=by simp [g]
  have A:=W.out r.err g rfl
  clear g
  go_wp2_with fail
  go_region
  go_wp2_with fail
  refine ay (v:=dp ⟨dR r.err,false,(a:Int)+S⟩) ?_ rfl ⟨?_,(cj d.only (ag _) _ _ _ _ _ _ _).drew,_,(cJ d.lex (by have:=d.blt;omega) _ _ _ _ _ _ _).drewN 1⟩
  ·simp [dp,dR,results,cG,go_sem,u0,u1,u2,u3,u4,u5,Q]
  ·rw [A.out];rfl
theorem tY (b:Nat) (s:ByteArray) (c:Int->Int) (a:Nat) (a0:Int) (w:ai) (h:Lex w b s c a0) (ha:a<=s.size) (y:¬(a+bS ((cU c s.data.toList).drop a))=s.size) (z:av (cU c s.data.toList) (a+bS ((cU c s.data.toList).drop a))=47) (E:¬av (cU c s.data.toList) ((a+bS ((cU c s.data.toList).drop a))+1)=42) :
  aJ ah 59 #[au (some ⟨b,0,none⟩),ab ae a] w fun e w'=>iZ (bF (cU c s.data.toList) s.data.toList a) e/\Only b w w'/\∃q,Lex w' b s c q:=by
 have n:=NHeld.start h
 have b4:=h.lt
 have b5:=h.sz
 clear h
 have a4:Hid ((cU c s.data.toList).length=s.size):=by show _=_;rw [dK];simp
 have L:Hid (s.data.toList.length=s.size):=size_data s
 have a5:=il ((cU c s.data.toList).drop a)
 rw [aH,a4.out] at a5
 generalize Q:cU c s.data.toList=M at *
 have m:=zq Q
 clear Q
 generalize R:bS (M.drop a)=S at *
 have D:=zq R
 clear R
 have b1:((a:Int)+S==(s.size:Int))=false:=by simp;omega
 have Y:Hid (∀e,¬e=0->(cC M s.data.toList (a+S)).err=e->Hid (bF M s.data.toList a=⟨dR e,false,a+S⟩)):=fun e i h=>by
  show bF M s.data.toList a=_
  unfold bF;simp only [D.out];rw [if_neg (by rw [L.out];exact y),if_neg (by rw [h];exact i),h];simp
 have Z:Hid ((cC M s.data.toList (a+S)).err=0->Hid (bF M s.data.toList a=⟨cC M s.data.toList (a+S),decide (a<a+S),0⟩)):=fun h=>by
  show bF M s.data.toList a=_
  unfold bF;simp only [D.out];rw [if_neg (by rw [L.out];exact y),if_pos h]
 have hp:a+S<s.size:=by omega
 have a9:=zq y
 clear y
 have b2:(av M (a+S)==47)=true:=by simp [z]
 have b3:(av M (a+S+1)==42)=false:=by simp [E]
 have W:Hid (cls (av M (a+S))=5):=by show _=_;rw [z];decide
 have HT:=zq (show cC M s.data.toList (a+S)=nI M (a+S) by unfold cC;rw [if_neg (fun h=>E h.2),z];rfl)
 clear z E
 go_enter fE,fc
 go_wp2_with fail
 refine (iT _ _ _ _ _ _ n.lex (by omega)).mono ?_;rintro e w1 ⟨rfl,N⟩;rw [aD,m.out,D.out]
 have j:=NHeld.call N n.lt n
 have c1:=j.lex.ca
 have f1:=j.lex.fr 257
 have a3:=j.lex.lt
 have k:=j.setAt (a+S)
 clear N n j
 go_wp2_with fail
 generalize a6:w1.setCell ⟨b,257,none⟩ (ab ae ((a:Int)+S))=K at *
 clear a6 c1 f1 a3
 have c2:=k.lex.ca
 have d2:=k.lex.c0
 go_quiet (fail)
 have f:=NHeld.call (dS (aj K.heap.size K) nq) k.lt k
 clear k c2 d2
 generalize a7:K.drewN nq=A at *
 clear a7
 have c3:=f.lex.ca
 obtain ⟨t6,v0,v1,v2,v3,v4,v5,t0,t1,t2,t3,t4,t5⟩:=f.tok
 have b0:=f.lt
 have a1:=f.lex.lt
 have t:=fun o=>NHeld.call ((aj A.heap.size A).alloc (ag _) o) f.lt f
 go_wp2_with fail
 refine (bt _ _ _ _ _ _ (t _).lex (by omega)).mono ?_;rintro e w5 ⟨rfl,F⟩;rw [show ((a:Int)+S).toNat=a+S by omega,m.out]
 have u:=NHeld.call F (t _).lt (t _)
 have c5:=u.lex.ca
 have r5:=F
 go_wp2_with fail
 refine (bt _ _ _ _ _ _ u.lex (by omega)).mono ?_;rintro e w6 ⟨rfl,O⟩;rw [show ((a:Int)+S+1).toNat=a+S+1 by omega,m.out]
 have l:=NHeld.call O u.lt u
 have c6:=l.lex.ca
 have I:=r5.trans (O.mono F.size)
 go_wp2_with fail
 refine (bt _ _ _ _ _ _ l.lex (by omega)).mono ?_;rintro e w7 ⟨rfl,G⟩;rw [show ((a:Int)+S).toNat=a+S by omega,m.out]
 have B:=NHeld.call G l.lt l
 have J:=I.trans (G.mono I.size)
 go_wp2_with fail
 refine (cZ _ _).mono ?_;rintro e w8 ⟨rfl,H⟩;rw [W.out]
 have x:=NHeld.call H B.lt B
 have V:=J.trans (H.mono J.size)
 have fk:=(V.cell (p:=⟨A.heap.size,5,none⟩) (by simp)).trans (qn A)
 clear G H B J I l c6 f t c3 a1 t0 t1 t2 t3 t4 t5 t6 V
 go_wp2_with fail
 refine (tW b s c (a+S) _ x.lex (by omega)).mono ?_;rintro e w9 ⟨i,P⟩
 have d:=NHeld.call P x.lt x
 rw [m.out] at i
 rw [<-HT.out] at i
 generalize U:cC M s.data.toList (a+S)=r at *
 have HR:=zq U
 clear U
 unfold gj bV at i;subst i
 have c9:=d.lex.ca
 have T:=d.lt
 have a8:=d.lex.lt
 obtain ⟨u6,x0,x1,x2,x3,x4,x5,u0,u1,u2,u3,u4,u5⟩:=d.tok
 clear x P fk
 by_cases g:r.err=0
 ·have z1:(r.err != 0)=false:=by simp [g]
  have C:=Z.out g
  have X:=zq g
  clear g
  go_wp2_with fail
  have a2:Hid (decide ((a:Int)<(a:Int)+S)=decide (a<a+S)):=by show _=_;rw [decide_eq_decide];omega
  refine ay (v:=dp ⟨r,decide ((a:Int)<(a:Int)+S),0⟩) ?_ rfl ⟨?_,cj d.only (ag _) _ _ _ _ _ _ _,_,cJ d.lex (by have:=d.blt;omega) _ _ _ _ _ _ _⟩
  ·simp [dp,results,cG,go_sem,u0,u1,u2,u3,u4,u5,X.out,T]
  ·rw [C.out,<-a2.out];rfl
 ·have z1:(r.err != 0)=true:=by simp [g]
  have C:=Y.out r.err g rfl
  clear g
  go_wp2_with fail
  go_region
  go_wp2_with fail
  refine ay (v:=dp ⟨dR r.err,false,(a:Int)+S⟩) ?_ rfl ⟨?_,(cj d.only (ag _) _ _ _ _ _ _ _).drew,_,(cJ d.lex (by have:=d.blt;omega) _ _ _ _ _ _ _).drewN 1⟩
  ·simp [dp,dR,results,cG,go_sem,u0,u1,u2,u3,u4,u5,T]
  ·rw [C.out];rfl
theorem Iq (b:Nat) (s:ByteArray) (c:Int->Int) (a:Nat) (f:Int) (w:ai) (h:Lex w b s c f) (i:a<=s.size) :
  aJ ah 59 #[au (some ⟨b,0,none⟩),ab ae a] w fun e w'=>iZ (bF (cU c s.data.toList) s.data.toList a) e/\Only b w w'/\∃q,Lex w' b s c q:=by
 by_cases g:(a+bS ((cU c s.data.toList).drop a))=s.size
 ·exact xZ b s c a f w h i g
 by_cases j:av (cU c s.data.toList) (a+bS ((cU c s.data.toList).drop a))=47
 ·by_cases k:av (cU c s.data.toList) ((a+bS ((cU c s.data.toList).drop a))+1)=42
  ·exact uV b s c a f w h i g ⟨j,k⟩
  ·exact tY b s c a f w h i g j k
 have m:=MH (av (cU c s.data.toList) (a+bS ((cU c s.data.toList).drop a)))
 have n:=MJ (av (cU c s.data.toList) (a+bS ((cU c s.data.toList).drop a)))
 have l:cls (av (cU c s.data.toList) (a+bS ((cU c s.data.toList).drop a)))=0\/cls (av (cU c s.data.toList) (a+bS ((cU c s.data.toList).drop a)))=1\/cls (av (cU c s.data.toList) (a+bS ((cU c s.data.toList).drop a)))=2\/cls (av (cU c s.data.toList) (a+bS ((cU c s.data.toList).drop a)))=3\/cls (av (cU c s.data.toList) (a+bS ((cU c s.data.toList).drop a)))=4\/cls (av (cU c s.data.toList) (a+bS ((cU c s.data.toList).drop a)))=5\/cls (av (cU c s.data.toList) (a+bS ((cU c s.data.toList).drop a)))=6\/cls (av (cU c s.data.toList) (a+bS ((cU c s.data.toList).drop a)))=7\/cls (av (cU c s.data.toList) (a+bS ((cU c s.data.toList).drop a)))=8:=by omega
 rcases l with d | d | d | d | d | d | d | d | d
 ·exact BR b s c a f w h i g j d
 ·exact BQ b s c a f w h i g j d
 ·exact BO b s c a f w h i g j d
 ·exact BM b s c a f w h i g j d
 ·exact BK b s c a f w h i g j d
 ·exact BJ b s c a f w h i g j d
 ·exact BI b s c a f w h i g j d
 ·exact BH b s c a f w h i g j d
 ·exact BG b s c a f w h i g j d
def gP (s:ByteArray) (a:Int):Array az:=#[aa s]++Array.replicate 256 (ab ae 0) ++ #[ab ae a]
def Ir (s:ByteArray) (a:Int):az:=.agg (gP s a)
theorem Aq (s:ByteArray) (a:Int) (w:ai):(Instr.build 146 #[(0,aa s),(2,ab ae a)]).run ah w=.ok (Ir s a) w:=by kernel_rfl
theorem Fw (s:ByteArray) (a:Int) (w:ai):(Instr.box 146 (Ir s a)).run ah w=.ok (au (some ⟨w.heap.size,0,none⟩)) (w.alloc (.cells (gP s a) 146)):=by kernel_rfl
theorem pq {c:Array Oper} {rest:List Oper} {o:Oper} {a:Act} {Q:Exit->Act->ai->Prop} {w:ai} (f:o.guard=none) (x y:Operand) (s:ByteArray) (b:Int)
  (i:o.op=.build 146 #[(0,x),(2,y)]) (j:a.eval x=aa s) (k:a.eval y=ab ae b)
  (h:cH ah c Q rest (a.put o.dst (Ir s b)) w):cH ah c Q (o::rest) a w:=by
 refine wpList_plain f fun K d=>?_
 have e:(aP a.eval o).run ah w=.ok (.value (Ir s b)) w:=by
  unfold aP
  rw [i]
  have g:Array.map (fun x=>(x.fst,a.eval x.snd)) #[(0,x),(2,y)]=#[(0,aa s),(2,ab ae b)]:=by simp [j,k]
  simp only [g]
  rw [Sem.run_bind,Aq]
  rfl
 unfold Oper.wp
 rw [e]
 exact d _ _ h
theorem rg {c:Array Oper} {rest:List Oper} {o:Oper} {a:Act} {Q:Exit->Act->ai->Prop} {w:ai} (f:o.guard=none) (x:Operand) (s:ByteArray) (b:Int)
  (g:o.op=.box 146 x) (i:a.eval x=Ir s b)
  (h:cH ah c Q rest (a.put o.dst (au (some ⟨w.heap.size,0,none⟩))) (w.alloc (.cells (gP s b) 146))):cH ah c Q (o::rest) a w:=by
 refine wpList_plain f fun K d=>?_
 have e:(aP a.eval o).run ah w=.ok (.value (au (some ⟨w.heap.size,0,none⟩))) (w.alloc (.cells (gP s b) 146)):=by
  unfold aP
  rw [g]
  simp only [i]
  rw [Sem.run_bind,Fw]
  rfl
 unfold Oper.wp
 rw [e]
 exact d _ _ h
theorem qy (s:ByteArray) (a:Int):(gP s a)[0]? = some (aa s)/\(gP s a)[257]? = some (ab ae a):=by
 unfold gP
 constructor
 ·rw [ez (by simp),ez (by simp)];rfl
 ·rw [Array.getElem?_append_right (by simp)];simp
structure LexP (w:ai) (b:Nat) (s:ByteArray) (tab:Int->Int) (at_:Int):Prop where
 lt:b<w.heap.size
 c0:w.cell? ⟨b,0,none⟩=some (aa s)
 ct:∀c:Nat,c<256->w.cell? ⟨b,1+c,none⟩=some (ab ae (tab c))
 ca:w.cell? ⟨b,257,none⟩=some (ab ae at_)
 fr:∀o,w.frozen? ⟨b,o,none⟩=false
theorem zP (s:ByteArray) (a:Int) (c:Nat) (h:c<256):(gP s a)[1+c]? = some (ab ae 0):=by
 unfold gP
 rw [ez (by simp;omega),Array.getElem?_append_right (by simp)]
 simp [Array.getElem?_replicate];omega
theorem LexP.start (w:ai) (s:ByteArray) (a:Int) (t:TypeId):LexP (w.alloc (.cells (gP s a) t)) w.heap.size s (fun _=>0) a where
 lt:=by simp
 c0:=by rw [aq];exact (qy s a).1
 ct:=fun c d=>by rw [aq];exact zP s a c d
 ca:=by rw [aq];exact (qy s a).2
 fr:=fun o=>by
  have b:(w.alloc (.cells (gP s a) t)).heap[w.heap.size]? = some (.cells (gP s a) t):=by show (w.heap.push _)[w.heap.size]? = _;simp
  unfold World.frozen?;simp only [b];simp
theorem LexP.set {w:ai} {b:Nat} {s:ByteArray} {f:Int->Int} {d:Int} (h:LexP w b s f d) (k:Nat) (i:k<256) (v:Int):LexP (w.setCell ⟨b,1+k,none⟩ (ab ae v)) b s (fun x=>if x=k then v else f x) d where
 lt:=by simp [World.setCell];exact h.lt
 c0:=(cW w _ _ _ (by intro a;injection a with _ h2 _;omega)).trans h.c0
 ct:=fun c e=>by
  by_cases g:c=k
  ·subst g
   rw [World.cell?_setCell_same w _ _ (h.ct c e)];simp
  ·rw [cW w _ _ _ (by intro a;injection a with _ h2 _;omega),h.ct c e]
   simp [show ¬((c:Int)=(k:Int)) by omega]
 ca:=(cW w _ _ _ (by intro a;injection a with _ h2 _;omega)).trans h.ca
 fr:=fun o=>(nk _ _ _ _).trans (h.fr o)
theorem LexP.same {w w':ai} {b:Nat} {s:ByteArray} {e:Int->Int} {d:Int} (h:LexP w b s e d) (g:w.heap.size<=w'.heap.size) (a:w'.heap[b]? = w.heap[b]?):LexP w' b s e d where
 lt:=Nat.lt_of_lt_of_le h.lt g
 c0:=(bG (w:=w) a).trans h.c0
 ct:=fun c f=>(bG (w:=w) a).trans (h.ct c f)
 ca:=(bG (w:=w) a).trans h.ca
 fr:=fun o=>(World.frozen?_of_block (w:=w) a).trans (h.fr o)
theorem LexP.congr {w:ai} {b:Nat} {s:ByteArray} {d f:Int->Int} {at_:Int} (h:LexP w b s d at_) (e:∀c:Nat,c<256->d c=f c):LexP w b s f at_ :=
 ⟨h.lt,h.c0,fun c a=>by rw [h.ct c a,e c a],h.ca,h.fr⟩
theorem LexP.lex {w:ai} {b:Nat} {s:ByteArray} {a:Int->Int} {at_:Int} (h:LexP w b s a at_) (d:s.size<=16384) (c:DI a):Lex w b s a at_:=⟨h.lt,h.c0,h.ct,h.ca,h.fr,d,c⟩
theorem ux (l:List (Int×Int)) (k:Nat) (h:k<l.length) (c:Int):jZ (l.take (k+1)) c=if rz l k=c then si l k else jZ (l.take k) c:=by
 unfold jZ
 rw [List.take_succ_eq_append_getElem h,List.foldl_append]
 simp only [List.foldl_cons,List.foldl_nil]
 rw [sM _ _ h,xA _ _ h]
theorem Ak (l:List (Int×Int)) (h:∀j,j<l.length->0<=si l j/\si l j<=255):∀k,k<=l.length->DI (jZ (l.take k))
 | 0,_=>fun c a b=>by simp [jZ];omega
 | k+1,hk=>fun c a b=>by
  rw [ux l k (by omega)]
  split
  ·exact h k (by omega)
  ·exact Ak l h k (by omega) c a b
def rC (s:ByteArray) (a:Int) (l:List (Int×Int)):Prop:=s.size<=16384/\0<=a/\a<=s.size/\jz l=true
theorem zO (s:ByteArray) (a:Int) (A:Option Addr) (n h:Nat) (l:List (Int×Int)) (w:ai) (m:n=l.length) (x:n<=be) (y:s.size<=be) (o:Pairs w A l) (f:¬rC s a l) :
  aJ ah 58 #[aa s,ab ae a,.slice A n h] w fun e w'=>e=aw (aK #[au none,am false])/\ax w.heap.size w w':=by
 unfold be at y
 have hd:(16384:Int)<s.size\/((s.size:Int)<=16384/\a<0)\/((s.size:Int)<=16384/\0<=a/\(s.size:Int)<a)\/((s.size:Int)<=16384/\0<=a/\a<=s.size/\jz l=false):=by
  unfold rC at f
  by_cases r:s.size<=16384
  ·by_cases b:0<=a
   ·by_cases g:a<=s.size
    ·refine .inr (.inr (.inr ⟨by omega,b,g,?_⟩))
     cases hv:jz l
     ·rfl
     ·exact absurd ⟨r,b,g,hv⟩ f
    ·exact .inr (.inr (.inl ⟨by omega,b,by omega⟩))
   ·exact .inr (.inl ⟨by omega,by omega⟩)
  ·exact .inl (by omega)
 have q:=zq (oB A n h l w m x o)
 clear m o f
 rcases hd with c | ⟨c,i⟩ | ⟨c,i,t⟩ | ⟨c,i,t,j⟩
 ·have d:decide (16384<s.size)=true:=by simp;omega
  go_enter Tryz.func58,Tryz.ntmps58
  go_wp2_with fail
  go_ret2
  exact ⟨rfl,aj _ _⟩
 ·have d:decide (16384<s.size)=false:=by simp;omega
  have k:decide (a<0)=true:=by simp;omega
  go_enter Tryz.func58,Tryz.ntmps58
  go_wp2_with fail
  go_ret2
  exact ⟨rfl,aj _ _⟩
 ·have d:decide (16384<s.size)=false:=by simp;omega
  have k:decide (a<0)=false:=by simp;omega
  have u:decide ((s.size:Int)<a)=true:=by simp;omega
  go_enter Tryz.func58,Tryz.ntmps58
  go_wp2_with fail
  go_ret2
  exact ⟨rfl,aj _ _⟩
 ·have d:decide (16384<s.size)=false:=by simp;omega
  have k:decide (a<0)=false:=by simp;omega
  have u:decide ((s.size:Int)<a)=false:=by simp;omega
  have p:=zq j
  clear j
  go_enter Tryz.func58,Tryz.ntmps58
  go_wp2_with fail
  refine q.out.mono ?_;rintro e z ⟨rfl,v⟩;rw [p.out]
  go_wp2_with fail
  go_ret2
  exact ⟨rfl,v⟩
theorem xY (s:ByteArray) (at_:Int) (A:Option Addr) (n G:Nat) (l:List (Int×Int)) (w:ai) (z:n=l.length) (L:n<=be) (C:Pairs w A l) (ho:rC s at_ l) :
  aJ ah 58 #[aa s,ab ae at_,.slice A n G] w fun e w'=>∃b,e=aw (aK #[au (some ⟨b,0,none⟩),am true])/\w.heap.size<=b/\ax w.heap.size w w'/\Lex w' b s (jZ l) at_:=by
 obtain ⟨Y,d2,d3,H⟩:=ho
 have e1:decide (16384<s.size)=false:=by simp;omega
 have e2:decide (at_<0)=false:=by simp;omega
 have e3:decide ((s.size:Int)<at_)=false:=by simp;omega
 have R:=zq (oB A n G l w z L C)
 have Q:=zq C
 have E:=zq z
 have D:=zq H
 unfold be at L
 have J:Hid (∀j,j<l.length->(0<=rz l j/\rz l j<=255)/\0<=si l j/\si l j<=255):=fun j v=>by
  have:=EK l D.out j v
  unfold nL at this
  simp only [Bool.and_eq_true] at this
  exact ⟨(kP _).1 this.1,(kP _).1 this.2.1⟩
 clear z C H
 go_enter Tryz.func58,Tryz.ntmps58
 go_wp2_with fail
 refine R.out.mono ?_;rintro e g ⟨rfl,q⟩;rw [D.out]
 go_wp2_with (first | (refine pq rfl _ _ s at_ rfl rfl rfl ?_) | (refine rg rfl _ s at_ rfl rfl ?_))
 have T:=LexP.start g s at_ 146
 have a0:=q.trans (((aj g.heap.size g).alloc (ag _) (.cells (gP s at_) 146)).mono q.size)
 have u:=q.size
 generalize a4:g.alloc (.cells (gP s at_) 146)=w2 at *
 generalize a2:g.heap.size=b at *
 clear a4 a2 q
 go_loopw [34] (fun i wr=>∃k:Nat,k<=256/\i=ab ae k/\ax w.heap.size w wr/\LexP wr b s (fun x=>if x<k then x else 0) at_) (fun i _=>256-(intOf i).toNat)
 case atStart=>exact ⟨0,bp _,rfl,a0,T.congr fun c _=>by rw [if_neg (by omega)]⟩
 case round=>
  obtain ⟨k,hk,rfl,I,d⟩:=hrel
  by_cases K:k<256
  ·have X:=d.ct k K
   have Z:=d.fr (1+k)
   have a3:=d.lt
   have a:=d.set k K k
   go_wp2_with fail
   go_roundw
   case rel=>exact ⟨k+1,by omega,by go_num,I.setCell (p:=⟨b,_,none⟩) u _,a.congr fun c _=>by grind⟩
   case measure=>simp [intOf];omega
  ·obtain rfl:k=256:=by omega
   have V:LexP wr b s (jZ (l.take 0)) at_:=d.congr fun c hc=>by rw [if_pos (by omega)];rfl
   clear d
   go_wp2_with fail
   go_loopw [46] (fun i O=>∃k:Nat,k<=n/\i=ab ae k/\ax w.heap.size w O/\LexP O b s (jZ (l.take k)) at_) (fun i _=>n-(intOf i).toNat)
   case atStart=>exact ⟨0,bp _,rfl,I,V⟩
   case round=>
    obtain ⟨k,hk,rfl,r,a⟩:=hrel
    by_cases a8:k<n
    ·have f:k<l.length:=by have:=E.out;omega
     obtain ⟨b',a9,rfl,a6,F,W⟩:=(Q.out.below r) k f
     rw [sM _ _ f] at F
     rw [xA _ _ f] at W
     obtain ⟨⟨N,q1⟩,q2,q3⟩:=J.out k f
     obtain ⟨m,y⟩:=bJ N
     rw [y] at F
     have M:m<256:=by omega
     have t:=zq (ux l k f)
     have S:=zq y
     clear N q1 y
     go_wp2_with fail
     have o:=(aj wr.heap.size wr).alloc (ag _) (.cells #[ab ae m,ab ae (si l k)] 143)
     have h:=a.same o.size (o.block b a.lt)
     have a1:=r.trans (o.mono r.size)
     have g0:(wr.alloc (.cells #[ab ae m,ab ae (si l k)] 143)).cell? ⟨wr.heap.size,0,none⟩=some (ab ae m):=by rw [aq];rfl
     have g1:(wr.alloc (.cells #[ab ae m,ab ae (si l k)] 143)).cell? ⟨wr.heap.size,1,none⟩=some (ab ae (si l k)):=by rw [aq];rfl
     generalize a5:wr.alloc (.cells #[ab ae m,ab ae (si l k)] 143)=w4 at *
     clear a5 o a
     have X:=h.ct m M
     have Z:=h.fr (1+m)
     have a3:=h.lt
     have U:=h.set m M (si l k)
     go_region
     go_wp2_with fail
     go_roundw
     case rel=>exact ⟨k+1,by omega,by go_num,(a1.setCell (p:=⟨b,_,none⟩) u _).drew,(U.congr fun c _=>by rw [t.out,S.out];grind).same (ag _) rfl⟩
     case measure=>simp [intOf];omega
    ·have a7:k=l.length:=by have:=E.out;omega
     have t:=zq (show l.take k=l from List.take_of_length_le (by omega))
     rw [t.out] at a
     have B:=Ak l (fun j v=>(J.out j v).2) l.length (ag _)
     rw [List.take_length] at B
     have P:=zq B
     clear B
     go_wp2_with fail
     go_ret2
     exact ⟨b,rfl,u,r,a.lex Y P.out⟩
def xQ (L:List UInt8) (a:Int) (b:List (Int×Int)):Bool:=decide (L.length<=16384)&&(decide (0<=a)&&(decide (a<=L.length)&&jz b))
theorem tL (s:ByteArray) (a:Int) (conv:List (Int×Int)):xQ s.data.toList a conv=true↔rC s a conv:=by
 unfold xQ rC;rw [size_data];simp
end Go.Proofs.YtlikcjbjibhjgaaGreatDoor
namespace Hb
open Go Go.RowKit
theorem zt {w:ai} {a b e size:Nat} {v:az} {n:Nat} {xs:List az} (h:w.ownsRow a e size v n xs) (j:b<=a):w.ownsRow b e size v n xs:=by
 refine ⟨h.1,?_⟩
 rcases h.2 with f | ⟨g,c,d,i,k,rest⟩
 ·exact .inl f
 ·exact .inr ⟨g,c,d,i,by omega,rest⟩
theorem qp (w:ai) (a e size:Nat):w.ownsRow a e size (.slice none 0 0) 0 []:=⟨by simp,.inl ⟨rfl,rfl⟩⟩
theorem zo {w w':ai} {a e size b:Nat} {v:az} {n:Nat} {xs:List az} (h:w.ownsRow a e size v n xs) (o:b<a) (l:∀k,k<w.heap.size->k≠b->w'.heap[k]? = w.heap[k]?):w'.ownsRow a e size v n xs:=by
 refine ⟨h.1,?_⟩
 rcases h.2 with j | ⟨g,d,f,m,i,c,rest⟩
 ·exact .inl j
 ·exact .inr ⟨g,d,f,m,i,(l g (by rw [Array.getElem?_eq_some_iff] at c;exact c.1) (by omega)).trans c,rest⟩
def kM (r:NextR):List az:=[ab ae r.r.kind,aa ⟨r.r.text.toArray⟩,ab ae r.r.n,ab ae r.r.at_,ab ae r.r.end_,am r.lay]
def gG (l:List NextR):List az:=l.flatMap kM
theorem nO (l:List NextR) (r:NextR):gG (l++[r])=gG l++kM r:=by simp [gG]
theorem qP (w:ai) (a:Array az) (e:TypeId) (o:Obj) (j:Nat) (v:az) (h:a[j]? = some v):((w.alloc (.cells a e)).alloc o).cell? ⟨w.heap.size,j,none⟩=some v :=
 (World.grownBy_alloc _ o none).cell ((aq w a e j).trans h) (by simp)
theorem tp (w:ai) (o:Obj):ev (some ⟨w.heap.size+1,0,none⟩) 1 1=ev (some ⟨(w.alloc o).heap.size,0,none⟩) 1 1:=by simp
theorem xE {w:ai} {a e size:Nat} {v:az} {n:Nat} {xs:List az} (h:w.ownsRow a e size v n xs) {k:Nat} (c:w.heap.size<=k):some k≠v.ownBlock:=fun b=>by
 have:=h.lt k b.symm
 omega
end Hb
namespace Go.Proofs.YtlikcjbjibhjgaaGreatDoor
open Go.RowKit Hb
theorem Do:(Tryz.prog.info? 83).map (fun i=>(i.zero,i.size,i.bytes))=some (some (.agg #[ab ae 0,aa ⟨#[]⟩,ab ae 0,ab ae 0,ab ae 0,am false]),6,56):=by kernel_rfl
def pY (L:List UInt8) (a:Int) (b:List (Int×Int)):AllR:=if xQ L a b=true then pZ (cU (jZ b) L) L a.toNat else ⟨[],0,1⟩
def MX (r:AllR) (w:ai) (e:Ending) (w':ai):Prop:=∃v,e=aw (aK #[v,ab ae r.where_,ab ae r.err])/\ax w.heap.size w w'/\w'.ownsRow w.heap.size 83 6 v r.l.length (gG r.l)
theorem DT (s:ByteArray) (t:Int) (A:Option Addr) (n Z:Nat) (l:List (Int×Int)) (w:ai) (V:n=l.length) (hm:n<=be) (hs:s.size<=be) (W:Pairs w A l) :
  aJ ah 33 #[aa s,ab ae t,.slice A n Z] w (MX (pY s.data.toList t l) w):=by
 by_cases y:rC s t l
 ·have J:=zq (show pY s.data.toList t l=pZ (cU (jZ l) s.data.toList) s.data.toList t.toNat by unfold pY;rw [if_pos ((tL s t l).2 y)])
  obtain ⟨k,hk⟩:=bJ y.2.1
  subst hk
  have a5:k<=s.size:=by have:=y.2.2.1;omega
  have a8:=y.1
  have X:=zq (xY s k A n Z l w V hm W y)
  clear V W y
  rw [aD] at J
  have Y:Hid (s.data.toList.length=s.size):=size_data s
  have a4:Hid ((cU (jZ l) s.data.toList).length=s.data.toList.length):=dK _ _
  rw [J.out]
  clear J
  go_enter Tryz.func33,Tryz.ntmps33
  go_wp2_with fail
  refine X.out.mono ?_;rintro e H ⟨b,rfl,P,G,L⟩
  have a0:=L.lt
  go_wp2_with fail
  go_loopw [1,6] (fun i v wr=>∃a f:Nat,∃q:Int,∃B:List NextR,i=ab ae a/\a<=s.size/\s.size-a<f/\B.length<=a/\ax w.heap.size w wr/\H.heap.size<=wr.heap.size/\Lex wr b s (jZ l) q/\wr.ownsRow H.heap.size 83 6 v B.length (gG B)/\Hid (rT f (cU (jZ l) s.data.toList) s.data.toList a B=pZ (cU (jZ l) s.data.toList) s.data.toList k)) (fun i _ _=>s.size-(intOf i).toNat)
  case atStart=>exact ⟨k,s.size+1,_,[],rfl,a5,by omega,bp _,G,ag _,L,qp _ _ _ _,by show _=_;unfold pZ;rw [Y.out]⟩
  case round=>
   obtain ⟨a,f,q,B,rfl,ha,hf,a7,F,a3,Lr,D,o⟩:=hrel
   obtain ⟨U,rfl⟩:∃U,f=U+1:=⟨f-1,by omega⟩
   obtain ⟨A',a6,rfl⟩:=kt D
   have Q:=F.size
   have C:=zH (cU (jZ l) s.data.toList) s.data.toList a4.out a (by rw [Y.out];exact ha)
   rw [Y.out] at C
   have I:=zq (mS U (cU (jZ l) s.data.toList) s.data.toList a B)
   have M:=zq (Iq b s _ a _ wr Lr ha)
   generalize hr:bF (cU (jZ l) s.data.toList) s.data.toList a=r at *
   clear hr Lr
   by_cases m:r.r.err=14
   ·have b1:(r.r.err==14)=true:=by simp [m]
    cases B with
    | nil=>
     have b2:(r.r.err != 0)=true:=by simp [m]
     have j:=zq (I.out.trans (by rw [if_neg (by simp),if_pos (by omega)]))
     clear C m
     go_wp2_with fail
     refine M.out.mono ?_;rintro e z ⟨g,c,S,N⟩
     unfold iZ dp at g;subst g
     have d:=F.trans (c.toBelow' P Q)
     go_wp2_with fail
     refine ay (v:=aK #[.slice none 0 0,ab ae r.where_,ab ae r.r.err]) (by simp [results,Tryz.results33,go_sem]) rfl ⟨_,by rw [<-o.out,j.out],d.alloc d.size _,by rw [<-o.out,j.out];exact qp _ _ _ _⟩
    | cons x xs=>
     have j:=zq (I.out.trans (by rw [if_pos ⟨m,by simp⟩]))
     clear C m
     go_wp2_with fail
     refine M.out.mono ?_;rintro e z ⟨g,c,S,N⟩
     unfold iZ dp at g;subst g
     have d:=F.trans (c.toBelow' P Q)
     go_wp2_with fail
     refine ay (v:=aK #[.slice none 0 0,ab ae r.where_,ab ae 7]) (by simp [results,Tryz.results33,go_sem]) rfl ⟨_,by rw [<-o.out,j.out],d.alloc d.size _,by rw [<-o.out,j.out];exact qp _ _ _ _⟩
   have b1:(r.r.err==14)=false:=by simp [m]
   by_cases u:r.r.err=0
   ·have b2:(r.r.err != 0)=false:=by simp [u]
    obtain ⟨p,en,e1,e2,T,e4,e5,e6,e7⟩:=C u
    by_cases E:r.r.kind=7
    ·have b3:(r.r.kind==7)=true:=by simp [E]
     have j:=zq (I.out.trans (by rw [if_neg (by simp [m]),if_neg (by simpa using u),if_pos E]))
     clear C m u E e1 T e6 e7
     go_wp2_with fail
     refine M.out.mono ?_;rintro e z ⟨g,c,S,N⟩
     unfold iZ dp at g;subst g
     have d:=F.trans (c.toBelow' P Q)
     have K:=zq ((zo D a0 c.block).alloc (.cells #[ab ae r.r.kind,aa ⟨r.r.text.toArray⟩,ab ae r.r.n,ab ae r.r.at_,ab ae r.r.end_,am r.lay] 83))
     go_wp2_with (at_builtin;go_must (refine dO rfl _ _ 72 83 rfl Tryz.underlying72 _ 6 56 Do rfl (by decide) H.heap.size _ _ _ rfl _ K.out #[ab ae r.r.kind,aa ⟨r.r.text.toArray⟩,ab ae r.r.n,ab ae r.r.at_,ab ae r.r.end_,am r.lay] rfl (by simp [eO]) rfl (tp _ _) (by omega) (by omega) (by simp;have:=c.size;omega) ?_;intro v1 w3 a1 O R;have t0:=R.cell (qP z _ _ _ 0 _ rfl) (xE D c.size);have t4:=R.cell (qP z _ _ _ 4 _ rfl) (xE D c.size);clear K))
     refine ay (v:=aK #[v1,ab ae 0,ab ae 0]) (by simp [results,Tryz.results33,go_sem]) rfl ⟨v1,by rw [<-o.out,j.out],(d.alloc d.size _).trans (O.mono G.size),by rw [<-o.out,j.out,nO,aB];exact zt a1 G.size⟩
    ·have b3:(r.r.kind==7)=false:=by simp [E]
     have j:=zq (I.out.trans (by rw [if_neg (by simp [m]),if_neg (by simpa using u),if_neg E,T,aD]))
     have a2:=zq T
     clear C m u E e1 T e6 e7
     go_wp2_with fail
     refine M.out.mono ?_;rintro e z ⟨g,c,S,N⟩
     unfold iZ dp at g;subst g
     have d:=F.trans (c.toBelow' P Q)
     have K:=zq ((zo D a0 c.block).alloc (.cells #[ab ae r.r.kind,aa ⟨r.r.text.toArray⟩,ab ae r.r.n,ab ae r.r.at_,ab ae r.r.end_,am r.lay] 83))
     go_wp2_with (at_builtin;go_must (refine dO rfl _ _ 72 83 rfl Tryz.underlying72 _ 6 56 Do rfl (by decide) H.heap.size _ _ _ rfl _ K.out #[ab ae r.r.kind,aa ⟨r.r.text.toArray⟩,ab ae r.r.n,ab ae r.r.at_,ab ae r.r.end_,am r.lay] rfl (by simp [eO]) rfl (tp _ _) (by omega) (by omega) (by simp;have:=c.size;omega) ?_;intro v1 w3 a1 O R;have t0:=R.cell (qP z _ _ _ 0 _ rfl) (xE D c.size);have t4:=R.cell (qP z _ _ _ 4 _ rfl) (xE D c.size);clear K))
     go_roundw
     case rel=>exact ⟨en,U,S,B++[r],congrArg (Value.int IntKind.i64) a2.out,by omega,by omega,by simp;omega,(d.alloc d.size _).trans (O.mono G.size),aI a3 (aI c.size (aI (by simp) O.size)),N.below (((aj H.heap.size z).alloc (aI a3 c.size) _).trans O) a0,by rw [nO,aB];exact a1,j.out.symm.trans o.out⟩
     case measure=>rw [a2.out];simp [intOf];omega
   ·have b2:(r.r.err != 0)=true:=by simp [u]
    have j:=zq (I.out.trans (by rw [if_neg (by simp [m]),if_pos u]))
    clear C m u
    go_wp2_with fail
    refine M.out.mono ?_;rintro e z ⟨g,c,S,N⟩
    unfold iZ dp at g;subst g
    have d:=F.trans (c.toBelow' P Q)
    go_wp2_with fail
    refine ay (v:=aK #[.slice none 0 0,ab ae r.where_,ab ae r.r.err]) (by simp [results,Tryz.results33,go_sem]) rfl ⟨_,by rw [<-o.out,j.out],d.alloc d.size _,by rw [<-o.out,j.out];exact qp _ _ _ _⟩
 ·have J:=zq (show pY s.data.toList t l=⟨[],0,1⟩ by unfold pY;rw [if_neg (fun h=>y ((tL s t l).1 h))])
  have X:=zq (zO s t A n Z l w V hm hs W y)
  clear V W y
  rw [J.out]
  go_enter Tryz.func33,Tryz.ntmps33
  go_wp2_with fail
  refine X.out.mono ?_;rintro e H ⟨rfl,G⟩
  go_wp2_with fail
  refine ay (v:=aK #[.slice none 0 0,ab ae 0,ab ae 1]) (by simp [results,Tryz.results33,go_sem]) rfl ⟨_,rfl,G,qp _ _ _ _⟩
end Go.Proofs.YtlikcjbjibhjgaaGreatDoor
