/- Parts of the proof. -/
import Derived.Test.YtgapnafkelokaaaGreatDoorR01
import Derived.Test.YtgapnafkelokaaaGreatDoorR18
import Derived.Test.YtgapnafkelokaaaGreatDoorR03
import Derived.RegionTactic
import Derived.BigRegion
import Derived.Test.YtgapnafkelokaaaGreatDoorR02
import Derived.Test.YtgapnafkelokaaaGreatDoorR16
import Derived.Test.YtgapnafkelokaaaGreatDoorR13
import Derived.Test.YtgapnafkelokaaaGreatDoorR14
import Derived.Maps.OwnSet
import Derived.Maps.Views
import Derived.StringKeys
import Derived.Carry
set_option maxHeartbeats 12800000
set_option maxRecDepth 100000
set_option linter.unusedSimpArgs false
open Array renaming getElem?_append_left -> eJ
open Bool renaming and_eq_true -> aE
open Go renaming Calls -> aG, Program -> dJ, TypeId -> bJ, Value -> aA, World -> aj, bodyPost_ret -> aw, execOp -> aV, heap_setCell_other -> bd, maxLen -> bc, wpList -> dW
open Go.Ending renaming returned -> av
open Go.IntKind renaming i64 -> ae
open Go.IntWalk renaming wrap64_in -> dZ
open Go.Proofs.Tryz renaming func73 -> fl, ntmps73 -> eF, prog -> ah, results73 -> cg
open Go.RowKit renaming Below -> ay
open Go.RowKit.Below renaming refl -> ak
open Go.Value renaming agg -> aN, bool -> an, int -> ab, oneCell' -> cC, pointer -> ax, slice -> ex, string -> aa, tuple -> aF
open Go.World renaming cell?_alloc_new -> aq, cell?_of_block -> cG, cell?_setCell_other -> cP
open Int renaming eq_ofNat_of_zero_le -> bA, toNat_natCast -> aD
open List renaming append_nil -> az, cons_append -> ai, getD_eq_getElem?_getD -> aR, getElem?_eq_getElem -> aT, getElem?_eq_some_iff -> dG, getElem?_set -> eG, getElem_map -> bM, length_append -> aC, length_drop -> aI, length_map -> bm, mem_append_left -> ey, mem_singleton -> aJ, nil_append -> am
open Nat renaming le_refl -> ag, le_trans -> aH, lt_of_lt_of_le -> aB, lt_or_ge -> dy, reduceAdd -> ar, zero_add -> ap, zero_le -> bj
namespace Go.Proofs.YtgapnafkelokaaaGreatDoor
open Go.RowKit Hb
theorem zz (b:Nat) (s:ByteArray) (c:Int->Int) (a:Nat) (Z:Int) (w:aj) (h:Lex w b s c Z) (ha:a<=s.size) (x:¬(a+bL ((cD c s.data.toList).drop a))=s.size) (C:¬au (cD c s.data.toList) (a+bL ((cD c s.data.toList).drop a))=47) (F:cls (au (cD c s.data.toList) (a+bL ((cD c s.data.toList).drop a)))=6) :
  aG ah 73 #[ax (some ⟨b,0,none⟩),ab ae a] w fun e w'=>iA (bt (cD c s.data.toList) s.data.toList a) e/\Only b w w'/\∃q,Lex w' b s c q:=by
 have m:=NHeld.start h
 have b0:=h.lt
 have b3:=h.sz
 clear h
 have a3:Hid ((cD c s.data.toList).length=s.size):=by show _=_;rw [dx];simp
 have J:Hid (s.data.toList.length=s.size):=size_data s
 have a4:=gJ ((cD c s.data.toList).drop a)
 rw [aI,a3.out] at a4
 generalize O:cD c s.data.toList=M at *
 have u:=zq O
 clear O
 generalize P:bL (M.drop a)=S at *
 have B:=zq P
 clear P
 have b1:((a:Int)+S==(s.size:Int))=false:=by simp;omega
 have W:Hid (∀e,¬e=0->(cj M s.data.toList (a+S)).err=e->Hid (bt M s.data.toList a=⟨dD e,false,a+S⟩)):=fun e i h=>by
  show bt M s.data.toList a=_
  unfold bt;simp only [B.out];rw [if_neg (by rw [J.out];exact x),if_neg (by rw [h];exact i),h];simp
 have X:Hid ((cj M s.data.toList (a+S)).err=0->Hid (bt M s.data.toList a=⟨cj M s.data.toList (a+S),decide (a<a+S),0⟩)):=fun h=>by
  show bt M s.data.toList a=_
  unfold bt;simp only [B.out];rw [if_neg (by rw [J.out];exact x),if_pos h]
 have hp:a+S<s.size:=by omega
 have a8:=zq x
 clear x
 have b2:(au M (a+S)==47)=false:=by simp [C]
 have U:=zq F
 have Y:=zq (show cj M s.data.toList (a+S)=qx M (a+S) by unfold cj;rw [if_neg (fun h=>C h.1),F];rfl)
 clear C F
 go_enter fl,eF
 go_wp2_with fail
 refine (iu _ _ _ _ _ _ m.lex (by omega)).mono ?_;rintro e w1 ⟨rfl,K⟩;rw [aD,u.out,B.out]
 have j:=NHeld.call K m.lt m
 have c1:=j.lex.ca
 have f1:=j.lex.fr 257
 have a2:=j.lex.lt
 have k:=j.setAt (a+S)
 clear K m j
 go_wp2_with fail
 generalize a5:w1.setCell ⟨b,257,none⟩ (ab ae ((a:Int)+S))=I at *
 clear a5 c1 f1 a2
 have c2:=k.lex.ca
 have d2:=k.lex.c0
 go_quiet (fail)
 have f:=NHeld.call (dF (ak I.heap.size I) nq) k.lt k
 clear k c2 d2
 generalize a6:I.drewN nq=y at *
 clear a6
 have c3:=f.lex.ca
 obtain ⟨t6,v0,v1,v2,v3,v4,v5,t0,t1,t2,t3,t4,t5⟩:=f.tok
 have a9:=f.lt
 have a0:=f.lex.lt
 have n:=fun o=>NHeld.call ((ak y.heap.size y).alloc (ag _) o) f.lt f
 go_wp2_with fail
 refine (bf _ _ _ _ _ _ (n _).lex (by omega)).mono ?_;rintro e w6 ⟨rfl,L⟩;rw [show ((a:Int)+S).toNat=a+S by omega,u.out]
 have l:=NHeld.call L (n _).lt (n _)
 have c6:=l.lex.ca
 have G:=L
 go_wp2_with fail
 refine (bf _ _ _ _ _ _ l.lex (by omega)).mono ?_;rintro e w7 ⟨rfl,D⟩;rw [show ((a:Int)+S).toNat=a+S by omega,u.out]
 have z:=NHeld.call D l.lt l
 have H:=G.trans (D.mono G.size)
 go_wp2_with fail
 refine (cK _ _).mono ?_;rintro e w8 ⟨rfl,E⟩;rw [U.out]
 have t:=NHeld.call E z.lt z
 have T:=H.trans (E.mono H.size)
 have fk:=(T.cell (p:=⟨y.heap.size,6,none⟩) (by simp)).trans (vd y)
 clear D E z H G l c6 f n c3 a0 t0 t1 t2 t3 t4 t5 t6 T
 go_wp2_with fail
 refine (EW b s c (a+S) _ t.lex hp).mono ?_;rintro e w9 ⟨i,N⟩
 have d:=NHeld.call N t.lt t
 rw [u.out] at i
 rw [<-Y.out] at i
 generalize R:cj M s.data.toList (a+S)=r at *
 have HR:=zq R
 clear R
 unfold fR bN at i;subst i
 have c9:=d.lex.ca
 have Q:=d.lt
 have a7:=d.lex.lt
 obtain ⟨u6,x0,x1,x2,x3,x4,x5,u0,u1,u2,u3,u4,u5⟩:=d.tok
 clear t N fk
 by_cases g:r.err=0
 ·have z1:(r.err != 0)=false:=by simp [g]
  have A:=X.out g
  have V:=zq g
  clear g
  go_wp2_with fail
  have a1:Hid (decide ((a:Int)<(a:Int)+S)=decide (a<a+S)):=by show _=_;rw [decide_eq_decide];omega
  refine aw (v:=cR ⟨r,decide ((a:Int)<(a:Int)+S),0⟩) ?_ rfl ⟨?_,bX d.only (ag _) _ _ _ _ _ _ _,_,ch d.lex (by have:=d.blt;omega) _ _ _ _ _ _ _⟩
  ·simp [cR,results,cg,go_sem,u0,u1,u2,u3,u4,u5,V.out,Q]
  ·rw [A.out,<-a1.out];rfl
 ·have z1:(r.err != 0)=true:=by simp [g]
  have A:=W.out r.err g rfl
  clear g
  go_wp2_with fail
  go_region
  go_wp2_with fail
  refine aw (v:=cR ⟨dD r.err,false,(a:Int)+S⟩) ?_ rfl ⟨?_,(bX d.only (ag _) _ _ _ _ _ _ _).drew,_,(ch d.lex (by have:=d.blt;omega) _ _ _ _ _ _ _).drewN 1⟩
  ·simp [cR,dD,results,cg,go_sem,u0,u1,u2,u3,u4,u5,Q]
  ·rw [A.out];rfl
theorem zy (b:Nat) (s:ByteArray) (c:Int->Int) (a:Nat) (Z:Int) (w:aj) (h:Lex w b s c Z) (ha:a<=s.size) (x:¬(a+bL ((cD c s.data.toList).drop a))=s.size) (C:¬au (cD c s.data.toList) (a+bL ((cD c s.data.toList).drop a))=47) (F:cls (au (cD c s.data.toList) (a+bL ((cD c s.data.toList).drop a)))=7) :
  aG ah 73 #[ax (some ⟨b,0,none⟩),ab ae a] w fun e w'=>iA (bt (cD c s.data.toList) s.data.toList a) e/\Only b w w'/\∃q,Lex w' b s c q:=by
 have m:=NHeld.start h
 have b0:=h.lt
 have b3:=h.sz
 clear h
 have a3:Hid ((cD c s.data.toList).length=s.size):=by show _=_;rw [dx];simp
 have J:Hid (s.data.toList.length=s.size):=size_data s
 have a4:=gJ ((cD c s.data.toList).drop a)
 rw [aI,a3.out] at a4
 generalize O:cD c s.data.toList=M at *
 have u:=zq O
 clear O
 generalize P:bL (M.drop a)=S at *
 have B:=zq P
 clear P
 have b1:((a:Int)+S==(s.size:Int))=false:=by simp;omega
 have W:Hid (∀e,¬e=0->(cj M s.data.toList (a+S)).err=e->Hid (bt M s.data.toList a=⟨dD e,false,a+S⟩)):=fun e i h=>by
  show bt M s.data.toList a=_
  unfold bt;simp only [B.out];rw [if_neg (by rw [J.out];exact x),if_neg (by rw [h];exact i),h];simp
 have X:Hid ((cj M s.data.toList (a+S)).err=0->Hid (bt M s.data.toList a=⟨cj M s.data.toList (a+S),decide (a<a+S),0⟩)):=fun h=>by
  show bt M s.data.toList a=_
  unfold bt;simp only [B.out];rw [if_neg (by rw [J.out];exact x),if_pos h]
 have hp:a+S<s.size:=by omega
 have a8:=zq x
 clear x
 have b2:(au M (a+S)==47)=false:=by simp [C]
 have U:=zq F
 have Y:=zq (show cj M s.data.toList (a+S)=gY M s.data.toList (a+S) by unfold cj;rw [if_neg (fun h=>C h.1),F];rfl)
 clear C F
 go_enter fl,eF
 go_wp2_with fail
 refine (iu _ _ _ _ _ _ m.lex (by omega)).mono ?_;rintro e w1 ⟨rfl,K⟩;rw [aD,u.out,B.out]
 have j:=NHeld.call K m.lt m
 have c1:=j.lex.ca
 have f1:=j.lex.fr 257
 have a2:=j.lex.lt
 have k:=j.setAt (a+S)
 clear K m j
 go_wp2_with fail
 generalize a5:w1.setCell ⟨b,257,none⟩ (ab ae ((a:Int)+S))=I at *
 clear a5 c1 f1 a2
 have c2:=k.lex.ca
 have d2:=k.lex.c0
 go_quiet (fail)
 have f:=NHeld.call (dF (ak I.heap.size I) nq) k.lt k
 clear k c2 d2
 generalize a6:I.drewN nq=y at *
 clear a6
 have c3:=f.lex.ca
 obtain ⟨t6,v0,v1,v2,v3,v4,v5,t0,t1,t2,t3,t4,t5⟩:=f.tok
 have a9:=f.lt
 have a0:=f.lex.lt
 have n:=fun o=>NHeld.call ((ak y.heap.size y).alloc (ag _) o) f.lt f
 go_wp2_with fail
 refine (bf _ _ _ _ _ _ (n _).lex (by omega)).mono ?_;rintro e w6 ⟨rfl,L⟩;rw [show ((a:Int)+S).toNat=a+S by omega,u.out]
 have l:=NHeld.call L (n _).lt (n _)
 have c6:=l.lex.ca
 have G:=L
 go_wp2_with fail
 refine (bf _ _ _ _ _ _ l.lex (by omega)).mono ?_;rintro e w7 ⟨rfl,D⟩;rw [show ((a:Int)+S).toNat=a+S by omega,u.out]
 have z:=NHeld.call D l.lt l
 have H:=G.trans (D.mono G.size)
 go_wp2_with fail
 refine (cK _ _).mono ?_;rintro e w8 ⟨rfl,E⟩;rw [U.out]
 have t:=NHeld.call E z.lt z
 have T:=H.trans (E.mono H.size)
 have fk:=(T.cell (p:=⟨y.heap.size,7,none⟩) (by simp)).trans (vb y)
 clear D E z H G l c6 f n c3 a0 t0 t1 t2 t3 t4 t5 t6 T
 go_wp2_with fail
 refine (Cs b s c (a+S) _ t.lex hp).mono ?_;rintro e w9 ⟨i,N⟩
 have d:=NHeld.call N t.lt t
 rw [u.out] at i
 rw [<-Y.out] at i
 generalize R:cj M s.data.toList (a+S)=r at *
 have HR:=zq R
 clear R
 unfold fR bN at i;subst i
 have c9:=d.lex.ca
 have Q:=d.lt
 have a7:=d.lex.lt
 obtain ⟨u6,x0,x1,x2,x3,x4,x5,u0,u1,u2,u3,u4,u5⟩:=d.tok
 clear t N fk
 by_cases g:r.err=0
 ·have z1:(r.err != 0)=false:=by simp [g]
  have A:=X.out g
  have V:=zq g
  clear g
  go_wp2_with fail
  have a1:Hid (decide ((a:Int)<(a:Int)+S)=decide (a<a+S)):=by show _=_;rw [decide_eq_decide];omega
  refine aw (v:=cR ⟨r,decide ((a:Int)<(a:Int)+S),0⟩) ?_ rfl ⟨?_,bX d.only (ag _) _ _ _ _ _ _ _,_,ch d.lex (by have:=d.blt;omega) _ _ _ _ _ _ _⟩
  ·simp [cR,results,cg,go_sem,u0,u1,u2,u3,u4,u5,V.out,Q]
  ·rw [A.out,<-a1.out];rfl
 ·have z1:(r.err != 0)=true:=by simp [g]
  have A:=W.out r.err g rfl
  clear g
  go_wp2_with fail
  go_region
  go_wp2_with fail
  refine aw (v:=cR ⟨dD r.err,false,(a:Int)+S⟩) ?_ rfl ⟨?_,(bX d.only (ag _) _ _ _ _ _ _ _).drew,_,(ch d.lex (by have:=d.blt;omega) _ _ _ _ _ _ _).drewN 1⟩
  ·simp [cR,dD,results,cg,go_sem,u0,u1,u2,u3,u4,u5,Q]
  ·rw [A.out];rfl
theorem su (b:Nat) (s:ByteArray) (c:Int->Int) (a:Nat) (a0:Int) (w:aj) (h:Lex w b s c a0) (ha:a<=s.size) (y:¬(a+bL ((cD c s.data.toList).drop a))=s.size) (z:au (cD c s.data.toList) (a+bL ((cD c s.data.toList).drop a))=47) (E:¬au (cD c s.data.toList) ((a+bL ((cD c s.data.toList).drop a))+1)=42) :
  aG ah 73 #[ax (some ⟨b,0,none⟩),ab ae a] w fun e w'=>iA (bt (cD c s.data.toList) s.data.toList a) e/\Only b w w'/\∃q,Lex w' b s c q:=by
 have n:=NHeld.start h
 have b4:=h.lt
 have b5:=h.sz
 clear h
 have a4:Hid ((cD c s.data.toList).length=s.size):=by show _=_;rw [dx];simp
 have L:Hid (s.data.toList.length=s.size):=size_data s
 have a5:=gJ ((cD c s.data.toList).drop a)
 rw [aI,a4.out] at a5
 generalize Q:cD c s.data.toList=M at *
 have m:=zq Q
 clear Q
 generalize R:bL (M.drop a)=S at *
 have D:=zq R
 clear R
 have b1:((a:Int)+S==(s.size:Int))=false:=by simp;omega
 have Y:Hid (∀e,¬e=0->(cj M s.data.toList (a+S)).err=e->Hid (bt M s.data.toList a=⟨dD e,false,a+S⟩)):=fun e i h=>by
  show bt M s.data.toList a=_
  unfold bt;simp only [D.out];rw [if_neg (by rw [L.out];exact y),if_neg (by rw [h];exact i),h];simp
 have Z:Hid ((cj M s.data.toList (a+S)).err=0->Hid (bt M s.data.toList a=⟨cj M s.data.toList (a+S),decide (a<a+S),0⟩)):=fun h=>by
  show bt M s.data.toList a=_
  unfold bt;simp only [D.out];rw [if_neg (by rw [L.out];exact y),if_pos h]
 have hp:a+S<s.size:=by omega
 have a9:=zq y
 clear y
 have b2:(au M (a+S)==47)=true:=by simp [z]
 have b3:(au M (a+S+1)==42)=false:=by simp [E]
 have W:Hid (cls (au M (a+S))=5):=by show _=_;rw [z];decide
 have HT:=zq (show cj M s.data.toList (a+S)=mC M (a+S) by unfold cj;rw [if_neg (fun h=>E h.2),z];rfl)
 clear z E
 go_enter fl,eF
 go_wp2_with fail
 refine (iu _ _ _ _ _ _ n.lex (by omega)).mono ?_;rintro e w1 ⟨rfl,N⟩;rw [aD,m.out,D.out]
 have j:=NHeld.call N n.lt n
 have c1:=j.lex.ca
 have f1:=j.lex.fr 257
 have a3:=j.lex.lt
 have k:=j.setAt (a+S)
 clear N n j
 go_wp2_with fail
 generalize a6:w1.setCell ⟨b,257,none⟩ (ab ae ((a:Int)+S))=K at *
 clear a6 c1 f1 a3
 have c2:=k.lex.ca
 have d2:=k.lex.c0
 go_quiet (fail)
 have f:=NHeld.call (dF (ak K.heap.size K) nq) k.lt k
 clear k c2 d2
 generalize a7:K.drewN nq=A at *
 clear a7
 have c3:=f.lex.ca
 obtain ⟨t6,v0,v1,v2,v3,v4,v5,t0,t1,t2,t3,t4,t5⟩:=f.tok
 have b0:=f.lt
 have a1:=f.lex.lt
 have t:=fun o=>NHeld.call ((ak A.heap.size A).alloc (ag _) o) f.lt f
 go_wp2_with fail
 refine (bf _ _ _ _ _ _ (t _).lex (by omega)).mono ?_;rintro e w5 ⟨rfl,F⟩;rw [show ((a:Int)+S).toNat=a+S by omega,m.out]
 have u:=NHeld.call F (t _).lt (t _)
 have c5:=u.lex.ca
 have r5:=F
 go_wp2_with fail
 refine (bf _ _ _ _ _ _ u.lex (by omega)).mono ?_;rintro e w6 ⟨rfl,O⟩;rw [show ((a:Int)+S+1).toNat=a+S+1 by omega,m.out]
 have l:=NHeld.call O u.lt u
 have c6:=l.lex.ca
 have I:=r5.trans (O.mono F.size)
 go_wp2_with fail
 refine (bf _ _ _ _ _ _ l.lex (by omega)).mono ?_;rintro e w7 ⟨rfl,G⟩;rw [show ((a:Int)+S).toNat=a+S by omega,m.out]
 have B:=NHeld.call G l.lt l
 have J:=I.trans (G.mono I.size)
 go_wp2_with fail
 refine (cK _ _).mono ?_;rintro e w8 ⟨rfl,H⟩;rw [W.out]
 have x:=NHeld.call H B.lt B
 have V:=J.trans (H.mono J.size)
 have fk:=(V.cell (p:=⟨A.heap.size,5,none⟩) (by simp)).trans (oW A)
 clear G H B J I l c6 f t c3 a1 t0 t1 t2 t3 t4 t5 t6 V
 go_wp2_with fail
 refine (sq b s c (a+S) _ x.lex (by omega)).mono ?_;rintro e w9 ⟨i,P⟩
 have d:=NHeld.call P x.lt x
 rw [m.out] at i
 rw [<-HT.out] at i
 generalize U:cj M s.data.toList (a+S)=r at *
 have HR:=zq U
 clear U
 unfold fR bN at i;subst i
 have c9:=d.lex.ca
 have T:=d.lt
 have a8:=d.lex.lt
 obtain ⟨u6,x0,x1,x2,x3,x4,x5,u0,u1,u2,u3,u4,u5⟩:=d.tok
 clear x P fk
 by_cases g:r.err=0
 ·have z1:(r.err != 0)=false:=by simp [g]
  have C:=Z.out g
  have X:=zq g
  clear g
  go_wp2_with fail
  have a2:Hid (decide ((a:Int)<(a:Int)+S)=decide (a<a+S)):=by show _=_;rw [decide_eq_decide];omega
  refine aw (v:=cR ⟨r,decide ((a:Int)<(a:Int)+S),0⟩) ?_ rfl ⟨?_,bX d.only (ag _) _ _ _ _ _ _ _,_,ch d.lex (by have:=d.blt;omega) _ _ _ _ _ _ _⟩
  ·simp [cR,results,cg,go_sem,u0,u1,u2,u3,u4,u5,X.out,T]
  ·rw [C.out,<-a2.out];rfl
 ·have z1:(r.err != 0)=true:=by simp [g]
  have C:=Y.out r.err g rfl
  clear g
  go_wp2_with fail
  go_region
  go_wp2_with fail
  refine aw (v:=cR ⟨dD r.err,false,(a:Int)+S⟩) ?_ rfl ⟨?_,(bX d.only (ag _) _ _ _ _ _ _ _).drew,_,(ch d.lex (by have:=d.blt;omega) _ _ _ _ _ _ _).drewN 1⟩
  ·simp [cR,dD,results,cg,go_sem,u0,u1,u2,u3,u4,u5,T]
  ·rw [C.out];rfl
theorem EX (b:Nat) (s:ByteArray) (c:Int->Int) (a:Nat) (f:Int) (w:aj) (h:Lex w b s c f) (i:a<=s.size) :
  aG ah 73 #[ax (some ⟨b,0,none⟩),ab ae a] w fun e w'=>iA (bt (cD c s.data.toList) s.data.toList a) e/\Only b w w'/\∃q,Lex w' b s c q:=by
 by_cases g:(a+bL ((cD c s.data.toList).drop a))=s.size
 ·exact vK b s c a f w h i g
 by_cases j:au (cD c s.data.toList) (a+bL ((cD c s.data.toList).drop a))=47
 ·by_cases k:au (cD c s.data.toList) ((a+bL ((cD c s.data.toList).drop a))+1)=42
  ·exact tD b s c a f w h i g ⟨j,k⟩
  ·exact su b s c a f w h i g j k
 have m:=JL (au (cD c s.data.toList) (a+bL ((cD c s.data.toList).drop a)))
 have n:=JM (au (cD c s.data.toList) (a+bL ((cD c s.data.toList).drop a)))
 have l:cls (au (cD c s.data.toList) (a+bL ((cD c s.data.toList).drop a)))=0\/cls (au (cD c s.data.toList) (a+bL ((cD c s.data.toList).drop a)))=1\/cls (au (cD c s.data.toList) (a+bL ((cD c s.data.toList).drop a)))=2\/cls (au (cD c s.data.toList) (a+bL ((cD c s.data.toList).drop a)))=3\/cls (au (cD c s.data.toList) (a+bL ((cD c s.data.toList).drop a)))=4\/cls (au (cD c s.data.toList) (a+bL ((cD c s.data.toList).drop a)))=5\/cls (au (cD c s.data.toList) (a+bL ((cD c s.data.toList).drop a)))=6\/cls (au (cD c s.data.toList) (a+bL ((cD c s.data.toList).drop a)))=7\/cls (au (cD c s.data.toList) (a+bL ((cD c s.data.toList).drop a)))=8:=by omega
 rcases l with d | d | d | d | d | d | d | d | d
 ·exact zF b s c a f w h i g j d
 ·exact zE b s c a f w h i g j d
 ·exact zD b s c a f w h i g j d
 ·exact zC b s c a f w h i g j d
 ·exact zB b s c a f w h i g j d
 ·exact zA b s c a f w h i g j d
 ·exact zz b s c a f w h i g j d
 ·exact zy b s c a f w h i g j d
 ·exact zx b s c a f w h i g j d
theorem eL (c:Int) (b:Bool) (h:iP c=b) (w:aj) :
  aG ah 102 #[ab ae c] w fun e w'=>e=av (an b)/\w=w':=by subst h;exact jF c w
theorem nf (A:Option Addr) (n C:Nat) (l:List (Int×Int)) (w:aj) (t:n=l.length) (E:n<=bc) (u:Pairs w A l) :
  aG ah 71 #[.slice A n C] w fun e w'=>e=av (an (iT l))/\ay w.heap.size w w':=by
 unfold bc at E
 have r:=zq t
 clear t
 have s:=zq u
 clear u
 go_enter Tryz.func71,Tryz.ntmps71
 go_wp2
 go_loopw [7] (fun i wr=>∃k:Nat,k<=n/\i=ab ae k/\ay w.heap.size w wr/\Hid (∀j,j<k->mD l j=true)) (fun i _=>n-(intOf i).toNat)
 case atStart=>exact ⟨0,bj _,rfl,ak _ _,fun j m=>absurd m (by omega)⟩
 case round=>
  obtain ⟨k,H,rfl,f,p⟩:=hrel
  by_cases I:k<n
  ·have J:=f.size
   have o:k<l.length:=by have:=r.out;omega
   obtain ⟨b,K,rfl,G,y,z⟩:=(s.out.below f) k o
   rw [rj _ _ o] at y
   rw [vv _ _ o] at z
   have g:=zq (Cg l k o)
   cases q1:iP (pR l k)
   ·have a:=zq q1
    have c:=zq (Ju l k q1)
    clear q1
    go_wp2
    go_quiet ((go_at_call 102;first | with_reducible exact jC (eL _ _ a.out _) | with_reducible exact jC (eL _ _ d.out _)))
    go_wp2
    go_ret
    exact ⟨bC (g.out c.out).symm,dF (f.alloc (by omega) _) _⟩
   have a:=zq q1
   clear q1
   cases q2:iP (qE l k)
   ·have d:=zq q2
    have c:=zq (Jt l k a.out q2)
    clear q2
    go_wp2
    go_quiet ((go_at_call 102;first | with_reducible exact jC (eL _ _ a.out _) | with_reducible exact jC (eL _ _ d.out _)))
    go_wp2
    go_ret
    exact ⟨bC (g.out c.out).symm,dF (f.alloc (by omega) _) _⟩
   have d:=zq q2
   clear q2
   cases q3:(pR l k==qE l k)
   ·by_cases D:0<k
    ·obtain ⟨F,L,q,_,B,_⟩:=(s.out.below f) (k-1) (by omega)
     injection q with q
     injection q with e1 e2
     subst e1 e2
     rw [rj _ _ (by omega)] at B
     by_cases v:pR l (k-1)<pR l k
     ·have c:=zq (Jq l k a.out d.out q3 v)
      go_wp2
      go_quiet ((go_at_call 102;first | with_reducible exact jC (eL _ _ a.out _) | with_reducible exact jC (eL _ _ d.out _)))
      go_wp2
      go_roundw
      case rel=>exact ⟨k+1,by omega,by go_num,dF (f.alloc (by omega) _) _,fun j m=>by
       rcases dy j k with h | h
       ·exact p.out j h
       ·have:j=k:=by omega
        subst this;exact c.out⟩
      case measure=>simp [intOf];omega
     ·have c:=zq (Jp l k a.out d.out q3 D v)
      go_wp2
      go_quiet ((go_at_call 102;first | with_reducible exact jC (eL _ _ a.out _) | with_reducible exact jC (eL _ _ d.out _)))
      go_wp2
      go_ret
      exact ⟨bC (g.out c.out).symm,dF (f.alloc (by omega) _) _⟩
    ·have c:=zq (Jr l k (by omega) a.out d.out q3)
     have hd:decide ((0:Int)<(k:Int))=false:=by simp;omega
     go_wp2
     go_quiet ((go_at_call 102;first | with_reducible exact jC (eL _ _ a.out _) | with_reducible exact jC (eL _ _ d.out _)))
     go_wp2
     go_roundw
     case rel=>exact ⟨k+1,by omega,by go_num,dF (f.alloc (by omega) _) _,fun j m=>by
      rcases dy j k with h | h
      ·exact p.out j h
      ·have:j=k:=by omega
       subst this;exact c.out⟩
     case measure=>simp [intOf];omega
   ·have c:=zq (Js l k a.out d.out q3)
    go_wp2
    go_quiet ((go_at_call 102;first | with_reducible exact jC (eL _ _ a.out _) | with_reducible exact jC (eL _ _ d.out _)))
    go_wp2
    go_ret
    exact ⟨bC (g.out c.out).symm,dF (f.alloc (by omega) _) _⟩
  ·have x:=zq (zb l (fun j m=>p.out j (by have:=r.out;omega)))
   go_wp2
   go_ret
   exact ⟨bC x.out.symm,f⟩
def gn (s:ByteArray) (a:Int):Array aA:=#[aa s]++Array.replicate 256 (ab ae 0) ++ #[ab ae a]
def EY (s:ByteArray) (a:Int):aA:=aN (gn s a)
theorem yu (s:ByteArray) (a:Int) (w:aj):(Instr.build 157 #[(0,aa s),(2,ab ae a)]).run ah w=.ok (EY s a) w:=by kernel_rfl
theorem Da (s:ByteArray) (a:Int) (w:aj):(Instr.box 157 (EY s a)).run ah w=.ok (ax (some ⟨w.heap.size,0,none⟩)) (w.alloc (.cells (gn s a) 157)):=by kernel_rfl
theorem nU {c:Array Oper} {rest:List Oper} {o:Oper} {a:Act} {Q:Exit->Act->aj->Prop} {w:aj} (f:o.guard=none) (x y:Operand) (s:ByteArray) (b:Int)
  (i:o.op=.build 157 #[(0,x),(2,y)]) (j:a.eval x=aa s) (k:a.eval y=ab ae b)
  (h:dW ah c Q rest (a.put o.dst (EY s b)) w):dW ah c Q (o::rest) a w:=by
 refine wpList_plain f fun K d=>?_
 have e:(aV a.eval o).run ah w=.ok (.value (EY s b)) w:=by
  unfold aV
  rw [i]
  have g:Array.map (fun x=>(x.fst,a.eval x.snd)) #[(0,x),(2,y)]=#[(0,aa s),(2,ab ae b)]:=by simp [j,k]
  simp only [g]
  rw [Sem.run_bind,yu]
  rfl
 unfold Oper.wp
 rw [e]
 exact d _ _ h
theorem pE {c:Array Oper} {rest:List Oper} {o:Oper} {a:Act} {Q:Exit->Act->aj->Prop} {w:aj} (f:o.guard=none) (x:Operand) (s:ByteArray) (b:Int)
  (g:o.op=.box 157 x) (i:a.eval x=EY s b)
  (h:dW ah c Q rest (a.put o.dst (ax (some ⟨w.heap.size,0,none⟩))) (w.alloc (.cells (gn s b) 157))):dW ah c Q (o::rest) a w:=by
 refine wpList_plain f fun K d=>?_
 have e:(aV a.eval o).run ah w=.ok (.value (ax (some ⟨w.heap.size,0,none⟩))) (w.alloc (.cells (gn s b) 157)):=by
  unfold aV
  rw [g]
  simp only [i]
  rw [Sem.run_bind,Da]
  rfl
 unfold Oper.wp
 rw [e]
 exact d _ _ h
theorem pd (s:ByteArray) (a:Int):(gn s a)[0]? = some (aa s)/\(gn s a)[257]? = some (ab ae a):=by
 unfold gn
 constructor
 ·rw [eJ (by simp),eJ (by simp)];rfl
 ·rw [Array.getElem?_append_right (by simp)];simp
structure LexP (w:aj) (b:Nat) (s:ByteArray) (tab:Int->Int) (at_:Int):Prop where
 lt:b<w.heap.size
 c0:w.cell? ⟨b,0,none⟩=some (aa s)
 ct:∀c:Nat,c<256->w.cell? ⟨b,1+c,none⟩=some (ab ae (tab c))
 ca:w.cell? ⟨b,257,none⟩=some (ab ae at_)
 fr:∀o,w.frozen? ⟨b,o,none⟩=false
theorem xV (s:ByteArray) (a:Int) (c:Nat) (h:c<256):(gn s a)[1+c]? = some (ab ae 0):=by
 unfold gn
 rw [eJ (by simp;omega),Array.getElem?_append_right (by simp)]
 simp [Array.getElem?_replicate];omega
theorem LexP.start (w:aj) (s:ByteArray) (a:Int) (t:bJ):LexP (w.alloc (.cells (gn s a) t)) w.heap.size s (fun _=>0) a where
 lt:=by simp
 c0:=by rw [aq];exact (pd s a).1
 ct:=fun c d=>by rw [aq];exact xV s a c d
 ca:=by rw [aq];exact (pd s a).2
 fr:=fun o=>by
  have b:(w.alloc (.cells (gn s a) t)).heap[w.heap.size]? = some (.cells (gn s a) t):=by show (w.heap.push _)[w.heap.size]? = _;simp
  unfold World.frozen?;simp only [b];simp
theorem LexP.set {w:aj} {b:Nat} {s:ByteArray} {f:Int->Int} {d:Int} (h:LexP w b s f d) (k:Nat) (i:k<256) (v:Int):LexP (w.setCell ⟨b,1+k,none⟩ (ab ae v)) b s (fun x=>if x=k then v else f x) d where
 lt:=by simp [World.setCell];exact h.lt
 c0:=(cP w _ _ _ (by intro a;injection a with _ h2 _;omega)).trans h.c0
 ct:=fun c e=>by
  by_cases g:c=k
  ·subst g
   rw [World.cell?_setCell_same w _ _ (h.ct c e)];simp
  ·rw [cP w _ _ _ (by intro a;injection a with _ h2 _;omega),h.ct c e]
   simp [show ¬((c:Int)=(k:Int)) by omega]
 ca:=(cP w _ _ _ (by intro a;injection a with _ h2 _;omega)).trans h.ca
 fr:=fun o=>(mq _ _ _ _).trans (h.fr o)
theorem LexP.same {w w':aj} {b:Nat} {s:ByteArray} {e:Int->Int} {d:Int} (h:LexP w b s e d) (g:w.heap.size<=w'.heap.size) (a:w'.heap[b]? = w.heap[b]?):LexP w' b s e d where
 lt:=aB h.lt g
 c0:=(cG (w:=w) a).trans h.c0
 ct:=fun c f=>(cG (w:=w) a).trans (h.ct c f)
 ca:=(cG (w:=w) a).trans h.ca
 fr:=fun o=>(World.frozen?_of_block (w:=w) a).trans (h.fr o)
theorem LexP.congr {w:aj} {b:Nat} {s:ByteArray} {d f:Int->Int} {at_:Int} (h:LexP w b s d at_) (e:∀c:Nat,c<256->d c=f c):LexP w b s f at_ :=
 ⟨h.lt,h.c0,fun c a=>by rw [h.ct c a,e c a],h.ca,h.fr⟩
theorem LexP.lex {w:aj} {b:Nat} {s:ByteArray} {a:Int->Int} {at_:Int} (h:LexP w b s a at_) (d:s.size<=16384) (c:Bh a):Lex w b s a at_:=⟨h.lt,h.c0,h.ct,h.ca,h.fr,d,c⟩
theorem sV (l:List (Int×Int)) (k:Nat) (h:k<l.length) (c:Int):jx (l.take (k+1)) c=if pR l k=c then qE l k else jx (l.take k) c:=by
 unfold jx
 rw [List.take_succ_eq_append_getElem h,List.foldl_append]
 simp only [List.foldl_cons,List.foldl_nil]
 rw [rj _ _ h,vv _ _ h]
theorem yk (l:List (Int×Int)) (h:∀j,j<l.length->0<=qE l j/\qE l j<=255):∀k,k<=l.length->Bh (jx (l.take k))
 | 0,_=>fun c a b=>by simp [jx];omega
 | k+1,hk=>fun c a b=>by
  rw [sV l k (by omega)]
  split
  ·exact h k (by omega)
  ·exact yk l h k (by omega) c a b
def pT (s:ByteArray) (a:Int) (l:List (Int×Int)):Prop:=s.size<=16384/\0<=a/\a<=s.size/\iT l=true
theorem xU (s:ByteArray) (a:Int) (A:Option Addr) (n h:Nat) (l:List (Int×Int)) (w:aj) (m:n=l.length) (x:n<=bc) (y:s.size<=bc) (o:Pairs w A l) (f:¬pT s a l) :
  aG ah 72 #[aa s,ab ae a,.slice A n h] w fun e w'=>e=av (aF #[ax none,an false])/\ay w.heap.size w w':=by
 unfold bc at y
 have hd:(16384:Int)<s.size\/((s.size:Int)<=16384/\a<0)\/((s.size:Int)<=16384/\0<=a/\(s.size:Int)<a)\/((s.size:Int)<=16384/\0<=a/\a<=s.size/\iT l=false):=by
  unfold pT at f
  by_cases r:s.size<=16384
  ·by_cases b:0<=a
   ·by_cases g:a<=s.size
    ·refine .inr (.inr (.inr ⟨by omega,b,g,?_⟩))
     cases hv:iT l
     ·rfl
     ·exact absurd ⟨r,b,g,hv⟩ f
    ·exact .inr (.inr (.inl ⟨by omega,b,by omega⟩))
   ·exact .inr (.inl ⟨by omega,by omega⟩)
  ·exact .inl (by omega)
 have q:=zq (nf A n h l w m x o)
 clear m o f
 rcases hd with c | ⟨c,i⟩ | ⟨c,i,t⟩ | ⟨c,i,t,j⟩
 ·have d:decide (16384<s.size)=true:=by simp;omega
  go_enter Tryz.func72,Tryz.ntmps72
  go_wp2_with fail
  go_ret2
  exact ⟨rfl,ak _ _⟩
 ·have d:decide (16384<s.size)=false:=by simp;omega
  have k:decide (a<0)=true:=by simp;omega
  go_enter Tryz.func72,Tryz.ntmps72
  go_wp2_with fail
  go_ret2
  exact ⟨rfl,ak _ _⟩
 ·have d:decide (16384<s.size)=false:=by simp;omega
  have k:decide (a<0)=false:=by simp;omega
  have u:decide ((s.size:Int)<a)=true:=by simp;omega
  go_enter Tryz.func72,Tryz.ntmps72
  go_wp2_with fail
  go_ret2
  exact ⟨rfl,ak _ _⟩
 ·have d:decide (16384<s.size)=false:=by simp;omega
  have k:decide (a<0)=false:=by simp;omega
  have u:decide ((s.size:Int)<a)=false:=by simp;omega
  have p:=zq j
  clear j
  go_enter Tryz.func72,Tryz.ntmps72
  go_wp2_with fail
  refine q.out.mono ?_;rintro e z ⟨rfl,v⟩;rw [p.out]
  go_wp2_with fail
  go_ret2
  exact ⟨rfl,v⟩
theorem vJ (s:ByteArray) (at_:Int) (A:Option Addr) (n G:Nat) (l:List (Int×Int)) (w:aj) (z:n=l.length) (L:n<=bc) (C:Pairs w A l) (ho:pT s at_ l) :
  aG ah 72 #[aa s,ab ae at_,.slice A n G] w fun e w'=>∃b,e=av (aF #[ax (some ⟨b,0,none⟩),an true])/\w.heap.size<=b/\ay w.heap.size w w'/\Lex w' b s (jx l) at_:=by
 obtain ⟨Y,d2,d3,H⟩:=ho
 have e1:decide (16384<s.size)=false:=by simp;omega
 have e2:decide (at_<0)=false:=by simp;omega
 have e3:decide ((s.size:Int)<at_)=false:=by simp;omega
 have R:=zq (nf A n G l w z L C)
 have Q:=zq C
 have E:=zq z
 have D:=zq H
 unfold bc at L
 have J:Hid (∀j,j<l.length->(0<=pR l j/\pR l j<=255)/\0<=qE l j/\qE l j<=255):=fun j v=>by
  have:=Ch l D.out j v
  unfold mD at this
  simp only [aE] at this
  exact ⟨(kc _).1 this.1,(kc _).1 this.2.1⟩
 clear z C H
 go_enter Tryz.func72,Tryz.ntmps72
 go_wp2_with fail
 refine R.out.mono ?_;rintro e g ⟨rfl,q⟩;rw [D.out]
 go_wp2_with (first | (refine nU rfl _ _ s at_ rfl rfl rfl ?_) | (refine pE rfl _ s at_ rfl rfl ?_))
 have T:=LexP.start g s at_ 157
 have a0:=q.trans (((ak g.heap.size g).alloc (ag _) (.cells (gn s at_) 157)).mono q.size)
 have u:=q.size
 generalize a4:g.alloc (.cells (gn s at_) 157)=w2 at *
 generalize a2:g.heap.size=b at *
 clear a4 a2 q
 go_loopw [34] (fun i wr=>∃k:Nat,k<=256/\i=ab ae k/\ay w.heap.size w wr/\LexP wr b s (fun x=>if x<k then x else 0) at_) (fun i _=>256-(intOf i).toNat)
 case atStart=>exact ⟨0,bj _,rfl,a0,T.congr fun c _=>by rw [if_neg (by omega)]⟩
 case round=>
  obtain ⟨k,hk,rfl,I,d⟩:=hrel
  by_cases K:k<256
  ·have X:=d.ct k K
   have Z:=d.fr (1+k)
   have a3:=d.lt
   have a:=d.set k K k
   go_wp2_with fail
   go_roundw
   case rel=>exact ⟨k+1,by omega,by go_num,I.setCell (p:=⟨b,_,none⟩) u _,a.congr fun c _=>by grind⟩
   case measure=>simp [intOf];omega
  ·obtain rfl:k=256:=by omega
   have V:LexP wr b s (jx (l.take 0)) at_:=d.congr fun c hc=>by rw [if_pos (by omega)];rfl
   clear d
   go_wp2_with fail
   go_loopw [46] (fun i O=>∃k:Nat,k<=n/\i=ab ae k/\ay w.heap.size w O/\LexP O b s (jx (l.take k)) at_) (fun i _=>n-(intOf i).toNat)
   case atStart=>exact ⟨0,bj _,rfl,I,V⟩
   case round=>
    obtain ⟨k,hk,rfl,r,a⟩:=hrel
    by_cases a8:k<n
    ·have f:k<l.length:=by have:=E.out;omega
     obtain ⟨b',a9,rfl,a6,F,W⟩:=(Q.out.below r) k f
     rw [rj _ _ f] at F
     rw [vv _ _ f] at W
     obtain ⟨⟨N,q1⟩,q2,q3⟩:=J.out k f
     obtain ⟨m,y⟩:=bA N
     rw [y] at F
     have M:m<256:=by omega
     have t:=zq (sV l k f)
     have S:=zq y
     clear N q1 y
     go_wp2_with fail
     have o:=(ak wr.heap.size wr).alloc (ag _) (.cells #[ab ae m,ab ae (qE l k)] 154)
     have h:=a.same o.size (o.block b a.lt)
     have a1:=r.trans (o.mono r.size)
     have g0:(wr.alloc (.cells #[ab ae m,ab ae (qE l k)] 154)).cell? ⟨wr.heap.size,0,none⟩=some (ab ae m):=by rw [aq];rfl
     have g1:(wr.alloc (.cells #[ab ae m,ab ae (qE l k)] 154)).cell? ⟨wr.heap.size,1,none⟩=some (ab ae (qE l k)):=by rw [aq];rfl
     generalize a5:wr.alloc (.cells #[ab ae m,ab ae (qE l k)] 154)=w4 at *
     clear a5 o a
     have X:=h.ct m M
     have Z:=h.fr (1+m)
     have a3:=h.lt
     have U:=h.set m M (qE l k)
     go_region
     go_wp2_with fail
     go_roundw
     case rel=>exact ⟨k+1,by omega,by go_num,(a1.setCell (p:=⟨b,_,none⟩) u _).drew,(U.congr fun c _=>by rw [t.out,S.out];grind).same (ag _) rfl⟩
     case measure=>simp [intOf];omega
    ·have a7:k=l.length:=by have:=E.out;omega
     have t:=zq (show l.take k=l from List.take_of_length_le (by omega))
     rw [t.out] at a
     have B:=yk l (fun j v=>(J.out j v).2) l.length (ag _)
     rw [List.take_length] at B
     have P:=zq B
     clear B
     go_wp2_with fail
     go_ret2
     exact ⟨b,rfl,u,r,a.lex Y P.out⟩
def vF (L:List UInt8) (a:Int) (b:List (Int×Int)):Bool:=decide (L.length<=16384)&&(decide (0<=a)&&(decide (a<=L.length)&&iT b))
theorem se (s:ByteArray) (a:Int) (conv:List (Int×Int)):vF s.data.toList a conv=true↔pT s a conv:=by
 unfold vF pT;rw [size_data];simp
end Go.Proofs.YtgapnafkelokaaaGreatDoor
namespace Hb
open Go Go.RowKit
theorem xv {w:aj} {a b e size:Nat} {v:aA} {n:Nat} {xs:List aA} (h:w.ownsRow a e size v n xs) (j:b<=a):w.ownsRow b e size v n xs:=by
 refine ⟨h.1,?_⟩
 rcases h.2 with f | ⟨g,c,d,i,k,rest⟩
 ·exact .inl f
 ·exact .inr ⟨g,c,d,i,by omega,rest⟩
theorem oZ (w:aj) (a e size:Nat):w.ownsRow a e size (.slice none 0 0) 0 []:=⟨by simp,.inl ⟨rfl,rfl⟩⟩
theorem xu {w w':aj} {a e size b:Nat} {v:aA} {n:Nat} {xs:List aA} (h:w.ownsRow a e size v n xs) (o:b<a) (l:∀k,k<w.heap.size->k≠b->w'.heap[k]? = w.heap[k]?):w'.ownsRow a e size v n xs:=by
 refine ⟨h.1,?_⟩
 rcases h.2 with j | ⟨g,d,f,m,i,c,rest⟩
 ·exact .inl j
 ·exact .inr ⟨g,d,f,m,i,(l g (by rw [Array.getElem?_eq_some_iff] at c;exact c.1) (by omega)).trans c,rest⟩
def kb (r:NextR):List aA:=[ab ae r.r.kind,aa ⟨r.r.text.toArray⟩,ab ae r.r.n,ab ae r.r.at_,ab ae r.r.end_,an r.lay]
def ge (l:List NextR):List aA:=l.flatMap kb
theorem mH (l:List NextR) (r:NextR):ge (l++[r])=ge l++kb r:=by simp [ge]
theorem py (w:aj) (a:Array aA) (e:bJ) (o:Obj) (j:Nat) (v:aA) (h:a[j]? = some v):((w.alloc (.cells a e)).alloc o).cell? ⟨w.heap.size,j,none⟩=some v :=
 (World.grownBy_alloc _ o none).cell ((aq w a e j).trans h) (by simp)
theorem rJ (w:aj) (o:Obj):ex (some ⟨w.heap.size+1,0,none⟩) 1 1=ex (some ⟨(w.alloc o).heap.size,0,none⟩) 1 1:=by simp
theorem vx {w:aj} {a e size:Nat} {v:aA} {n:Nat} {xs:List aA} (h:w.ownsRow a e size v n xs) {k:Nat} (c:w.heap.size<=k):some k≠v.ownBlock:=fun b=>by
 have:=h.lt k b.symm
 omega
end Hb
namespace Go.Proofs.YtgapnafkelokaaaGreatDoor
open Go.RowKit Hb
theorem AV:(Tryz.prog.info? 100).map (fun i=>(i.zero,i.size,i.bytes))=some (some (aN #[ab ae 0,aa ⟨#[]⟩,ab ae 0,ab ae 0,ab ae 0,an false]),6,56):=by kernel_rfl
def oC (L:List UInt8) (a:Int) (b:List (Int×Int)):AllR:=if vF L a b=true then oD (cD (jx b) L) L a.toNat else ⟨[],0,1⟩
def JX (r:AllR) (w:aj) (e:Ending) (w':aj):Prop:=∃v,e=av (aF #[v,ab ae r.where_,ab ae r.err])/\ay w.heap.size w w'/\w'.ownsRow w.heap.size 100 6 v r.l.length (ge r.l)
theorem Bo (s:ByteArray) (t:Int) (A:Option Addr) (n Z:Nat) (l:List (Int×Int)) (w:aj) (V:n=l.length) (hm:n<=bc) (hs:s.size<=bc) (W:Pairs w A l) :
  aG ah 49 #[aa s,ab ae t,.slice A n Z] w (JX (oC s.data.toList t l) w):=by
 by_cases y:pT s t l
 ·have J:=zq (show oC s.data.toList t l=oD (cD (jx l) s.data.toList) s.data.toList t.toNat by unfold oC;rw [if_pos ((se s t l).2 y)])
  obtain ⟨k,hk⟩:=bA y.2.1
  subst hk
  have a5:k<=s.size:=by have:=y.2.2.1;omega
  have a8:=y.1
  have X:=zq (vJ s k A n Z l w V hm W y)
  clear V W y
  rw [aD] at J
  have Y:Hid (s.data.toList.length=s.size):=size_data s
  have a4:Hid ((cD (jx l) s.data.toList).length=s.data.toList.length):=dx _ _
  rw [J.out]
  clear J
  go_enter Tryz.func49,Tryz.ntmps49
  go_wp2_with fail
  refine X.out.mono ?_;rintro e H ⟨b,rfl,P,G,L⟩
  have a0:=L.lt
  go_wp2_with fail
  go_loopw [1,6] (fun i v wr=>∃a f:Nat,∃q:Int,∃B:List NextR,i=ab ae a/\a<=s.size/\s.size-a<f/\B.length<=a/\ay w.heap.size w wr/\H.heap.size<=wr.heap.size/\Lex wr b s (jx l) q/\wr.ownsRow H.heap.size 100 6 v B.length (ge B)/\Hid (qq f (cD (jx l) s.data.toList) s.data.toList a B=oD (cD (jx l) s.data.toList) s.data.toList k)) (fun i _ _=>s.size-(intOf i).toNat)
  case atStart=>exact ⟨k,s.size+1,_,[],rfl,a5,by omega,bj _,G,ag _,L,oZ _ _ _ _,by show _=_;unfold oD;rw [Y.out]⟩
  case round=>
   obtain ⟨a,f,q,B,rfl,ha,hf,a7,F,a3,Lr,D,o⟩:=hrel
   obtain ⟨U,rfl⟩:∃U,f=U+1:=⟨f-1,by omega⟩
   obtain ⟨A',a6,rfl⟩:=jQ D
   have Q:=F.size
   have C:=xL (cD (jx l) s.data.toList) s.data.toList a4.out a (by rw [Y.out];exact ha)
   rw [Y.out] at C
   have I:=zq (lV U (cD (jx l) s.data.toList) s.data.toList a B)
   have M:=zq (EX b s _ a _ wr Lr ha)
   generalize hr:bt (cD (jx l) s.data.toList) s.data.toList a=r at *
   clear hr Lr
   by_cases m:r.r.err=14
   ·have b1:(r.r.err==14)=true:=by simp [m]
    cases B with
    | nil=>
     have b2:(r.r.err != 0)=true:=by simp [m]
     have j:=zq (I.out.trans (by rw [if_neg (by simp),if_pos (by omega)]))
     clear C m
     go_wp2_with fail
     refine M.out.mono ?_;rintro e z ⟨g,c,S,N⟩
     unfold iA cR at g;subst g
     have d:=F.trans (c.toBelow' P Q)
     go_wp2_with fail
     refine aw (v:=aF #[.slice none 0 0,ab ae r.where_,ab ae r.r.err]) (by simp [results,Tryz.results49,go_sem]) rfl ⟨_,by rw [<-o.out,j.out],d.alloc d.size _,by rw [<-o.out,j.out];exact oZ _ _ _ _⟩
    | cons x xs=>
     have j:=zq (I.out.trans (by rw [if_pos ⟨m,by simp⟩]))
     clear C m
     go_wp2_with fail
     refine M.out.mono ?_;rintro e z ⟨g,c,S,N⟩
     unfold iA cR at g;subst g
     have d:=F.trans (c.toBelow' P Q)
     go_wp2_with fail
     refine aw (v:=aF #[.slice none 0 0,ab ae r.where_,ab ae 7]) (by simp [results,Tryz.results49,go_sem]) rfl ⟨_,by rw [<-o.out,j.out],d.alloc d.size _,by rw [<-o.out,j.out];exact oZ _ _ _ _⟩
   have b1:(r.r.err==14)=false:=by simp [m]
   by_cases u:r.r.err=0
   ·have b2:(r.r.err != 0)=false:=by simp [u]
    obtain ⟨p,en,e1,e2,T,e4,e5,e6,e7⟩:=C u
    by_cases E:r.r.kind=7
    ·have b3:(r.r.kind==7)=true:=by simp [E]
     have j:=zq (I.out.trans (by rw [if_neg (by simp [m]),if_neg (by simpa using u),if_pos E]))
     clear C m u E e1 T e6 e7
     go_wp2_with fail
     refine M.out.mono ?_;rintro e z ⟨g,c,S,N⟩
     unfold iA cR at g;subst g
     have d:=F.trans (c.toBelow' P Q)
     have K:=zq ((xu D a0 c.block).alloc (.cells #[ab ae r.r.kind,aa ⟨r.r.text.toArray⟩,ab ae r.r.n,ab ae r.r.at_,ab ae r.r.end_,an r.lay] 100))
     go_wp2_with (at_builtin;go_must (refine bK rfl _ _ 89 100 rfl Tryz.underlying89 _ 6 56 AV rfl (by decide) H.heap.size _ _ _ rfl _ K.out #[ab ae r.r.kind,aa ⟨r.r.text.toArray⟩,ab ae r.r.n,ab ae r.r.at_,ab ae r.r.end_,an r.lay] rfl (by simp [cC]) rfl (rJ _ _) (by omega) (by omega) (by simp;have:=c.size;omega) ?_;intro v1 w3 a1 O R;have t0:=R.cell (py z _ _ _ 0 _ rfl) (vx D c.size);have t4:=R.cell (py z _ _ _ 4 _ rfl) (vx D c.size);clear K))
     refine aw (v:=aF #[v1,ab ae 0,ab ae 0]) (by simp [results,Tryz.results49,go_sem]) rfl ⟨v1,by rw [<-o.out,j.out],(d.alloc d.size _).trans (O.mono G.size),by rw [<-o.out,j.out,mH,aC];exact xv a1 G.size⟩
    ·have b3:(r.r.kind==7)=false:=by simp [E]
     have j:=zq (I.out.trans (by rw [if_neg (by simp [m]),if_neg (by simpa using u),if_neg E,T,aD]))
     have a2:=zq T
     clear C m u E e1 T e6 e7
     go_wp2_with fail
     refine M.out.mono ?_;rintro e z ⟨g,c,S,N⟩
     unfold iA cR at g;subst g
     have d:=F.trans (c.toBelow' P Q)
     have K:=zq ((xu D a0 c.block).alloc (.cells #[ab ae r.r.kind,aa ⟨r.r.text.toArray⟩,ab ae r.r.n,ab ae r.r.at_,ab ae r.r.end_,an r.lay] 100))
     go_wp2_with (at_builtin;go_must (refine bK rfl _ _ 89 100 rfl Tryz.underlying89 _ 6 56 AV rfl (by decide) H.heap.size _ _ _ rfl _ K.out #[ab ae r.r.kind,aa ⟨r.r.text.toArray⟩,ab ae r.r.n,ab ae r.r.at_,ab ae r.r.end_,an r.lay] rfl (by simp [cC]) rfl (rJ _ _) (by omega) (by omega) (by simp;have:=c.size;omega) ?_;intro v1 w3 a1 O R;have t0:=R.cell (py z _ _ _ 0 _ rfl) (vx D c.size);have t4:=R.cell (py z _ _ _ 4 _ rfl) (vx D c.size);clear K))
     go_roundw
     case rel=>exact ⟨en,U,S,B++[r],congrArg (Value.int IntKind.i64) a2.out,by omega,by omega,by simp;omega,(d.alloc d.size _).trans (O.mono G.size),aH a3 (aH c.size (aH (by simp) O.size)),N.below (((ak H.heap.size z).alloc (aH a3 c.size) _).trans O) a0,by rw [mH,aC];exact a1,j.out.symm.trans o.out⟩
     case measure=>rw [a2.out];simp [intOf];omega
   ·have b2:(r.r.err != 0)=true:=by simp [u]
    have j:=zq (I.out.trans (by rw [if_neg (by simp [m]),if_pos u]))
    clear C m u
    go_wp2_with fail
    refine M.out.mono ?_;rintro e z ⟨g,c,S,N⟩
    unfold iA cR at g;subst g
    have d:=F.trans (c.toBelow' P Q)
    go_wp2_with fail
    refine aw (v:=aF #[.slice none 0 0,ab ae r.where_,ab ae r.r.err]) (by simp [results,Tryz.results49,go_sem]) rfl ⟨_,by rw [<-o.out,j.out],d.alloc d.size _,by rw [<-o.out,j.out];exact oZ _ _ _ _⟩
 ·have J:=zq (show oC s.data.toList t l=⟨[],0,1⟩ by unfold oC;rw [if_neg (fun h=>y ((se s t l).1 h))])
  have X:=zq (xU s t A n Z l w V hm hs W y)
  clear V W y
  rw [J.out]
  go_enter Tryz.func49,Tryz.ntmps49
  go_wp2_with fail
  refine X.out.mono ?_;rintro e H ⟨rfl,G⟩
  go_wp2_with fail
  refine aw (v:=aF #[.slice none 0 0,ab ae 0,ab ae 1]) (by simp [results,Tryz.results49,go_sem]) rfl ⟨_,rfl,G,oZ _ _ _ _⟩
end Go.Proofs.YtgapnafkelokaaaGreatDoor
namespace Hb
open Go Go.RowKit
def NumMap (P:dJ) (k e:bJ) (w:aj) (b N:Nat) (f:List UInt8->Option Nat):Prop :=
 ∃D:DataW Unit,w.ownsMap P k (plainElem P e) b N D/\∀x,¬x=[95]->Maps.has D (.string x)=(f x).isSome/\D.atKey (.string x) (.lit (.int .i64 0))=.lit (.int .i64 (((f x).getD 0:Nat):Int))
def CntMap (P:dJ) (k e:bJ) (w:aj) (b N:Nat) (f:Nat->Nat):Prop :=
 ∃D:DataW Unit,w.ownsMap P k (plainElem P e) b N D/\∀x:Nat,D.atKey (.int .i64 x) (.lit (.int .i64 0))=.lit (.int .i64 (f x:Int))
theorem NumMap.new (P:dJ) (k e:bJ) (w:aj):NumMap P k e (w.alloc (.map #[] 0)) w.heap.size 0 (fun _=>none):=⟨_,World.ownsMap_made w P k _,fun _ _=>⟨rfl,rfl⟩⟩
theorem CntMap.new (P:dJ) (k e:bJ) (w:aj):CntMap P k e (w.alloc (.map #[] 0)) w.heap.size 0 (fun _=>0):=⟨_,World.ownsMap_made w P k _,fun _=>rfl⟩
theorem NumMap.lt {P:dJ} {k e:bJ} {w:aj} {b N:Nat} {f:List UInt8->Option Nat} (h:NumMap P k e w b N f):b<w.heap.size:=by
 obtain ⟨D,h,_⟩:=h;exact h.lt
theorem CntMap.lt {P:dJ} {k e:bJ} {w:aj} {b N:Nat} {f:Nat->Nat} (h:CntMap P k e w b N f):b<w.heap.size:=by
 obtain ⟨D,h,_⟩:=h;exact h.lt
theorem NumMap.keep {P:dJ} {k e:bJ} {w w':aj} {b N:Nat} {f:List UInt8->Option Nat} (h:NumMap P k e w b N f) (l:w'.heap[b]? = w.heap[b]?):NumMap P k e w' b N f:=by
 obtain ⟨D,⟨c,a,d,g,i⟩,j⟩:=h
 exact ⟨D,⟨c,a,l.trans d,g,i⟩,j⟩
theorem CntMap.keep {P:dJ} {k e:bJ} {w w':aj} {b N:Nat} {f:Nat->Nat} (h:CntMap P k e w b N f) (l:w'.heap[b]? = w.heap[b]?):CntMap P k e w' b N f:=by
 obtain ⟨D,⟨c,a,d,g,i⟩,j⟩:=h
 exact ⟨D,⟨c,a,l.trans d,g,i⟩,j⟩
theorem NumMap.mono {P:dJ} {k e:bJ} {w:aj} {b N a:Nat} {f:List UInt8->Option Nat} (h:NumMap P k e w b N f) (d:N<=a):NumMap P k e w b a f:=by
 obtain ⟨D,h,c⟩:=h;exact ⟨D,h.mono d,c⟩
def qT {α β:Type} [DecidableEq α] (f:α->β) (x:α) (y:β):α->β:=fun z=>if z=x then y else f z
theorem mg (x:Nat) (h:x<=1000000):(Lit.int .i64 (x:Int)).wf=true:=by
 unfold Lit.wf;rw [aE,decide_eq_true_iff,decide_eq_true_iff]
 exact ⟨by show (-9223372036854775808:Int)<=_;omega,by show _<=(9223372036854775807:Int);omega⟩
theorem NumMap.look {P:dJ} {k e t:bJ} {w:aj} {b N:Nat} {f:List UInt8->Option Nat} (h:NumMap P k e w b N f) (j:P.underlying k=some .string) (r:P.underlying t=some (.map k e)) (i:P.underlying e=some (.int ae)) (s:ByteArray) (q:s.size<=bc) (y:(zeroValue e).run P w=.ok (ab ae 0) w) :
  ∃(c:Int) (g:Bool),(Instr.lookup t (.map (some b)) (aa s) true).run P w=.ok (aF #[ab ae c,an g]) w/\(¬s.data.toList=[95]->g=(f s.data.toList).isSome/\c=((f s.data.toList).getD 0:Nat)):=by
 obtain ⟨D,o,n⟩:=h
 obtain ⟨v,z,p,u⟩:=o.look_ok (Maps.string_keyed j) r y (zd:=.lit (.int .i64 0)) (zp:=[]) (plainElem_int i (by decide)) (WideMaps.keyOf_string_mk j q)
 obtain ⟨a,rfl,d,_⟩:=plainElem_int_inv i u
 refine ⟨a,_,p,fun x=>?_⟩
 obtain ⟨l,m⟩:=n _ x
 rw [m] at d
 simp only [Prod.mk.injEq,DataW.lit.injEq,Lit.int.injEq,true_and] at d
 exact ⟨l,d.1.symm⟩
theorem NumMap.put {P:dJ} {k e t:bJ} {w:aj} {b N:Nat} {f:List UInt8->Option Nat} (h:NumMap P k e w b N f) (j:P.underlying k=some .string) (v:P.underlying t=some (.map k e)) (n:P.underlying e=some (.int ae)) (s:ByteArray) (c:Nat) (u:s.size<=bc) (p:N<bc) (m:c<=1000000) :
  ∃w',(Instr.mapUpdate t (.map (some b)) (aa s) (ab ae c)).run P w=.ok () w'/\NumMap P k e w' b (N+1) (if s.data.toList=[95] then f else qT f s.data.toList (some c))/\w.grownBy w' (some b):=by
 obtain ⟨D,d,i⟩:=h
 obtain ⟨w',r,q,o⟩:=d.update (Maps.string_keyed j) v p (WideMaps.keyOf_string_mk j u) (plainElem_int n (mg c m))
 refine ⟨w',r,⟨_,q,fun x g=>?_⟩,o⟩
 by_cases a:x=s.data.toList
 ·subst a
  rw [if_neg g,Maps.atKey_put_same d.isMap (show WideAt.IsKeyLit (.string _) from trivial),Maps.has_put_same d.isMap (show WideAt.IsKeyLit (.string _) from trivial)]
  simp [qT]
 ·have l:(Lit.string s.data.toList)≠.string x:=fun h=>a (by injection h with h;exact h.symm)
  rw [Maps.atKey_put_other (fun h=>l h.symm),Maps.has_put_other (fun h=>l h.symm)]
  split
  ·exact i x g
  ·unfold qT;rw [if_neg a];exact i x g
theorem CntMap.look {P:dJ} {k e t:bJ} {w:aj} {b N:Nat} {f:Nat->Nat} (h:CntMap P k e w b N f) (d:P.underlying k=some (.int ae)) (m:P.underlying t=some (.map k e)) (i:P.underlying e=some (.int ae)) (x:Nat) (n:x<=1000000) (o:(zeroValue e).run P w=.ok (ab ae 0) w) :
  (Instr.lookup t (.map (some b)) (ab ae x) false).run P w=.ok (ab ae (f x:Int)) w:=by
 obtain ⟨D,j,g⟩:=h
 obtain ⟨c,l,a,_⟩:=j.lookup_int (Maps.int_keyed d) m i o (Maps.keyOf_int_mk d (mg x n))
 rw [g] at a
 simp only [DataW.lit.injEq,Lit.int.injEq,true_and] at a
 rw [l,<-a]
theorem CntMap.put {P:dJ} {k e t:bJ} {w:aj} {b N:Nat} {f:Nat->Nat} (h:CntMap P k e w b N f) (d:P.underlying k=some (.int ae)) (q:P.underlying t=some (.map k e)) (l:P.underlying e=some (.int ae)) (x c:Nat) (r:x<=1000000) (n:N<bc) (j:c<=1000000) :
  ∃w',(Instr.mapUpdate t (.map (some b)) (ab ae x) (ab ae c)).run P w=.ok () w'/\CntMap P k e w' b (N+1) (qT f x c)/\w.grownBy w' (some b):=by
 obtain ⟨D,g,i⟩:=h
 obtain ⟨w',p,o,m⟩:=g.update (Maps.int_keyed d) q n (Maps.keyOf_int_mk d (mg x r)) (plainElem_int l (mg c j))
 refine ⟨w',p,⟨_,o,fun y=>?_⟩,m⟩
 by_cases a:y=x
 ·subst a
  rw [Maps.atKey_put_same g.isMap (show WideAt.IsKeyLit (.int _ _) from trivial)]
  simp [qT]
 ·rw [Maps.atKey_put_other (fun h=>a (by injection h with _ h;omega)),i]
  unfold qT;rw [if_neg a]
def yF (w:aj) (g:Nat) (T:List NextR):Prop:=∀j (h:j<T.length) i v,(kb T[j])[i]? = some v->w.cell? ⟨g,j * 6+i,none⟩=some v
def gZ (m:List (List UInt8×Nat)):List aA:=m.flatMap fun p=>[aa ⟨p.1.toArray⟩,ab ae (p.2:Int)]
structure PC where
 B0:Nat
 B1:Nat
 lo:Nat
 P:Nat
 V:Nat
 O:Nat
 g:Nat
 tc:Nat
 OA:Option Addr
 on:Nat
 oc:Nat
 E:RE
def PC.cells (c:PC) (n:Nat) (v:VS) (a:aA):List aA:=[.slice (some ⟨c.g,0,none⟩) c.E.T.length c.tc,ab ae (n:Int),.slice c.OA c.on c.oc,ab ae c.E.q,.map (some c.V),.map (some c.O),ab ae (v.c:Int),a]
structure PC.Ok (c:PC):Prop where
 b01:c.B0<=c.B1
 p1:c.B1<=c.P/\c.P<c.lo
 v1:c.B1<=c.V/\c.V<c.lo
 o1:c.B1<=c.O/\c.O<c.lo
 pv:c.P≠c.V
 po:c.P≠c.O
 vo:c.V≠c.O
 gl:c.g<c.B1
 len:c.E.T.length<=20000
 pos:0<c.E.T.length
 tcap:c.E.T.length<=c.tc
 opl:c.on=c.E.P.length
 few:c.on<=100
 ob:0<c.E.P.length->∀b off,c.OA=some ⟨b,off,none⟩->b<c.B1
 endk:(c.E.at (c.E.T.length-1)).r.kind=7
 txt:∀t∈c.E.T,t.r.text.length<=20000 /\ -9223372036854775808<=t.r.n/\t.r.n<=9223372036854775807
 nms:∀t∈c.E.T,fH t=true->t.r.text.length<=100
def PC.mine (c:PC) (a:aA) (b:Nat):Prop:=b=c.P\/b=c.V\/b=c.O\/a.ownBlock=some b
end Hb
namespace Go.Proofs.YtgapnafkelokaaaGreatDoor
open Go.RowKit Hb
structure PsAt (c:PC) (n:Nat) (v:VS) (nv:aA) (w:aj):Prop where
 ok:c.Ok
 low:c.lo<=w.heap.size
 bk:Bk w c.P (c.cells n v nv)
 tk:yF w c.g c.E.T
 ops:OpsAt w c.OA c.E.P
 vm:NumMap ah 9 2 w c.V v.o.length v.look
 om:CntMap ah 2 3 w c.O v.o.length (fun x=>v.o.count x)
 nm:w.ownsRow c.lo 103 2 nv v.m.length (gZ v.m)
 n1:n<c.E.T.length
 vn:v.o.length<=n
 vc:v.Ok
structure Stp (c:PC) (nv:aA) (w:aj) (nv':aA) (w':aj):Prop where
 os:w'.os=w.os
 tape:w'.tape=w.tape
 output:w'.output=w.output
 size:w.heap.size<=w'.heap.size
 block:∀b,b<w.heap.size->¬c.mine nv b->w'.heap[b]? = w.heap[b]?
 own:∀b,nv'.ownBlock=some b->nv.ownBlock=some b\/w.heap.size<=b
theorem Stp.trans {c:PC} {i j l:aA} {a b d:aj} (h:Stp c i a j b) (k:Stp c j b l d):Stp c i a l d where
 os:=k.os.trans h.os
 tape:=k.tape.trans h.tape
 output:=k.output.trans h.output
 size:=aH h.size k.size
 block:=fun x f g=>(k.block x (aB f h.size) (fun e=>g (by
  rcases e with e | e | e | e
  ·exact .inl e
  ·exact .inr (.inl e)
  ·exact .inr (.inr (.inl e))
  ·rcases h.own x e with e | e
   ·exact .inr (.inr (.inr e))
   ·omega))).trans (h.block x f g)
 own:=fun x f=>by
  rcases k.own x f with e | e
  ·exact h.own x e
  ·exact .inr (aH h.size e)
theorem Stp.of {c:PC} {d:aA} {a b:aj} (h:ay a.heap.size a b):Stp c d a d b:=⟨h.os,h.tape,h.output,h.size,fun k e _=>h.block k e,fun _ h=>.inl h⟩
theorem Stp.refl (c:PC) (a:aA) (w:aj):Stp c a w a w:=.of (ak _ _)
theorem Stp.low {c:PC} {n:Nat} {v:VS} {a b:aA} {w w':aj} (h:Stp c a w b w') (p:PsAt c n v a w):ay c.B1 w w':=⟨h.os,h.tape,h.output,h.size,fun k i=>h.block k (by have:=p.low;have:=p.ok.p1;omega) (fun e=>by
 have d:=p.ok.p1;have f:=p.ok.v1;have g:=p.ok.o1
 rcases e with e | e | e | e
 ·omega
 ·omega
 ·omega
 ·have:=(p.nm.lt k e).1;omega)⟩
theorem PsAt.lts {c:PC} {n:Nat} {v:VS} {a:aA} {w:aj} (p:PsAt c n v a w) {b:Nat} (h:c.mine a b):b<w.heap.size:=by
 have d:=p.ok.p1;have f:=p.ok.v1;have g:=p.ok.o1;have:=p.low
 rcases h with e | e | e | e
 ·omega
 ·omega
 ·omega
 ·exact (p.nm.lt b e).2
theorem jW {w w':aj} {g:Nat} {T:List NextR} (h:yF w g T) (b:w'.heap[g]? = w.heap[g]?):yF w' g T:=fun j c i v d=>(cG (a:=⟨g,_,none⟩) b).trans (h j c i v d)
theorem lK {w w':aj} {A:Option Addr} {l:List OpR} (h:OpsAt w A l) (n:w.heap.size<=w'.heap.size) (i:0<l.length->∀b a,A=some ⟨b,a,none⟩->w'.heap[b]? = w.heap[b]?):OpsAt w' A l:=fun j k=>by
 obtain ⟨b,a,e,m,d,f,g⟩:=h j k
 have c:∀o,w'.cell? ⟨b,o,none⟩=w.cell? ⟨b,o,none⟩:=fun o=>cG (i (by omega) b a e)
 exact ⟨b,a,e,aB m n,(c _).trans d,(c _).trans f,(c _).trans g⟩
theorem iq {w w':aj} {a e size:Nat} {v:aA} {n:Nat} {xs:List aA} (h:w.ownsRow a e size v n xs) (f:∀k,v.ownBlock=some k->w'.heap[k]? = w.heap[k]?):w'.ownsRow a e size v n xs:=by
 refine ⟨h.1,?_⟩
 rcases h.2 with l | ⟨g,c,d,b,i,j,rest⟩
 ·exact .inl l
 ·exact .inr ⟨g,c,d,b,i,(f g (by rw [b];rfl)).trans j,rest⟩
theorem PsAt.call {c:PC} {n:Nat} {v:VS} {a:aA} {w w':aj} (p:PsAt c n v a w) (h:ay w.heap.size w w'):PsAt c n v a w' where
 ok:=p.ok
 low:=aH p.low h.size
 bk:=p.bk.call h
 tk:=jW p.tk (h.block _ (by have:=p.ok.gl;have:=p.ok.p1;have:=p.low;omega))
 ops:=p.ops.below h
 vm:=p.vm.keep (h.block _ p.vm.lt)
 om:=p.om.keep (h.block _ p.om.lt)
 nm:=iq p.nm fun k b=>h.block k (p.nm.lt k b).2
 n1:=p.n1
 vn:=p.vn
 vc:=p.vc
theorem PsAt.next {c:PC} {n:Nat} {v:VS} {f:aA} {w:aj} (p:PsAt c n v f w) (k:Nat) (g:n<=k) (h:k<c.E.T.length):PsAt c k v f (w.setCell ⟨c.P,1,none⟩ (ab ae (k:Int))):=by
 have a:∀b,b≠c.P->(w.setCell ⟨c.P,1,none⟩ (ab ae (k:Int))).heap[b]? = w.heap[b]?:=fun b d=>bd _ _ _ _ d
 have l:=p.ok.p1
 refine ⟨p.ok,by simpa using p.low,p.bk.set 1 _,jW p.tk (a _ (by have:=p.ok.gl;omega)),lK p.ops (by simp) (fun i b j e=>a b (by have:=p.ok.ob i b j e;omega)),p.vm.keep (a _ (fun e=>p.ok.pv e.symm)),p.om.keep (a _ (fun e=>p.ok.po e.symm)),iq p.nm (fun b d=>a b (by have:=(p.nm.lt b d).1;omega)),h,aH p.vn g,p.vc⟩
theorem Stp.put {c:PC} {d f:aA} {w w':aj} (h:Stp c d w f w') (i:Nat) (u:aA):Stp c d w f (w'.setCell ⟨c.P,i,none⟩ u) where
 os:=h.os
 tape:=h.tape
 output:=h.output
 size:=by simpa using h.size
 block:=fun b g a=>(bd _ _ _ _ (fun e=>a (.inl e))).trans (h.block b g a)
 own:=h.own
structure Wk (c:PC) (n:Nat) (v:VS) (nv0:aA) (w0:aj) (nv:aA) (w:aj) (L:List (Nat×List aA)):Prop where
 p:PsAt c n v nv w
 s:Stp c nv0 w0 nv w
 low:ay c.B1 w0 w
 b:Bks w (L++[(c.P,c.cells n v nv)])
 off:∀x∈L,¬c.mine nv x.1
 start0:c.B1<=w0.heap.size
theorem Wk.start {c:PC} {n:Nat} {v:VS} {b:aA} {w:aj} (p:PsAt c n v b w):Wk c n v b w b w [] :=
 ⟨p,.refl _ _ _,.refl _ _,⟨fun x a=>by rw [am,aJ] at a;subst a;exact p.bk,List.pairwise_singleton _ _⟩,fun x a=>(by cases a),by have:=p.low;have:=p.ok.p1;omega⟩
theorem Wk.call {c:PC} {n:Nat} {v:VS} {e d:aA} {w0 w w':aj} {L:List (Nat×List aA)} (h:Wk c n v e w0 d w L) (a:ay w.heap.size w w'):Wk c n v e w0 d w' L :=
 ⟨h.p.call a,h.s.trans (.of a),h.low.trans (a.mono (by have:=h.p.low;have:=h.p.ok.p1;omega)),h.b.call a,h.off,h.start0⟩
theorem Wk.new {c:PC} {n:Nat} {v:VS} {j i:aA} {w0 w:aj} {L:List (Nat×List aA)} (h:Wk c n v j w0 i w L) (vs:List aA) (e:bJ) {g:Nat} (f:w.heap.size=g):Wk c n v j w0 i (w.alloc (.cells vs.toArray e)) ((g,vs)::L):=by
 have a:=h.call ((ak w.heap.size w).alloc (ag _) (.cells vs.toArray e))
 refine ⟨a.p,a.s,a.low,h.b.new vs e f,fun x d=>?_,h.start0⟩
 rcases List.mem_cons.1 d with rfl | d
 ·intro k
  have:=h.p.lts k
  have:w.heap.size=g:=f
  simp only at *
  omega
 ·exact h.off x d
theorem Wk.turn {c:PC} {n f:Nat} {v i:VS} {d g:aA} {w w':aj} {L:List (Nat×List aA)} (h:Bks w (L++[(c.P,c.cells n v d)])) (k:∀x∈L,¬c.mine d x.1) (p:PsAt c f i g w') (j:∀b,b<w.heap.size->¬c.mine d b->w'.heap[b]? = w.heap[b]?):Bks w' (L++[(c.P,c.cells f i g)]):=by
 refine ⟨fun x a=>?_,?_⟩
 ·rcases List.mem_append.1 a with a | a
  ·have e:=h.bk x (ey _ a)
   exact e.keeps (j _ e.lt (k x a))
  ·rw [aJ] at a;subst a;exact p.bk
 ·have:=h.ord
  rw [List.map_append] at this |-
  exact this
theorem Wk.step {c:PC} {n f:Nat} {v j:VS} {i g a:aA} {w0 w w':aj} {L:List (Nat×List aA)} (h:Wk c n v i w0 g w L) (p:PsAt c f j a w') (s:Stp c g w a w'):Wk c f j i w0 a w' L :=
 ⟨p,h.s.trans s,h.low.trans (s.low h.p),Wk.turn h.b h.off p s.block,fun x d k=>h.off x d (by
  rcases k with e | e | e | e
  ·exact .inl e
  ·exact .inr (.inl e)
  ·exact .inr (.inr (.inl e))
  ·rcases s.own x.1 e with e | e
   ·exact .inr (.inr (.inr e))
   ·have:=(h.b.bk x (ey _ d)).lt;omega),h.start0⟩
theorem Wk.next {c:PC} {n:Nat} {v:VS} {b a:aA} {w0 w:aj} {L:List (Nat×List aA)} (h:Wk c n v b w0 a w L) (k:Nat) (d:n<=k) (e:k<c.E.T.length):Wk c k v b w0 a (w.setCell ⟨c.P,1,none⟩ (ab ae (k:Int))) L :=
 h.step (h.p.next k d e) ((Stp.refl c a w).put 1 _)
theorem Wk.put {c:PC} {n:Nat} {v:VS} {q d:aA} {w0 w:aj} {L:List (Nat×List aA)} (h:Wk c n v q w0 d w L) (j i:Nat) {g:Nat} {vs:List aA} (f:L[j]? = some (g,vs)) (u:aA) (C:w0.heap.size<=g):Wk c n v q w0 d (w.setCell ⟨g,i,none⟩ u) (L.set j (g,vs.set i u)):=by
 have m:=List.mem_of_getElem? f
 have t:¬c.mine d g:=h.off _ m
 have k:∀b,c.mine d b->(w.setCell ⟨g,i,none⟩ u).heap[b]? = w.heap[b]?:=fun b a=>bd _ _ _ _ (fun e=>t (by have r:b=g:=e;rw [<-r];exact a))
 have A:c.B1<=g:=aH h.start0 C
 have B:PsAt c n v d (w.setCell ⟨g,i,none⟩ u):=by
  have G:=h.p.ok.p1
  have o:∀b,b<c.B1->(w.setCell ⟨g,i,none⟩ u).heap[b]? = w.heap[b]?:=fun b a=>bd _ _ _ _ (show b≠g by omega)
  exact ⟨h.p.ok,by simpa using h.p.low,h.p.bk.keeps (k _ (.inl rfl)),jW h.p.tk (o _ h.p.ok.gl),lK h.p.ops (by simp) (fun z b F e=>o b (h.p.ok.ob z b F e)),h.p.vm.keep (k _ (.inr (.inl rfl))),h.p.om.keep (k _ (.inr (.inr (.inl rfl)))),iq h.p.nm (fun b a=>k b (.inr (.inr (.inr a)))),h.p.n1,h.p.vn,h.p.vc⟩
 refine ⟨B,⟨h.s.os,h.s.tape,h.s.output,by simpa using h.s.size,fun b a m=>(bd _ _ _ _ (show b≠g by omega)).trans (h.s.block b a m),h.s.own⟩,h.low.setCell (p:=⟨g,i,none⟩) A u,?_,fun x D=>?_,h.start0⟩
 ·have:=h.b.set (l:=L++[(c.P,c.cells n v d)]) j i (g:=g) (vs:=vs) (by rw [List.getElem?_append_left (dG.1 f).1];exact f) u
  rwa [List.set_append_left _ _ (dG.1 f).1] at this
 ·obtain ⟨y,E,e⟩:=Ay (vs.set i u) f x D
  rw [<-e];exact h.off y E
theorem PsAt.more {c:PC} {n:Nat} {v:VS} {b:aA} {w:aj} (p:PsAt c n v b w) (h:¬(c.E.at n).r.kind=7):n+1<c.E.T.length:=by
 have:=p.n1
 rcases dy (n+1) c.E.T.length with a | a
 ·exact a
 ·exact absurd (by have:=p.ok.endk;rwa [show c.E.T.length-1=n by omega] at this) h
theorem Wk.inc {c:PC} {n:Nat} {v:VS} {b a:aA} {w0 w:aj} {L:List (Nat×List aA)} (h:Wk c n v b w0 a w L) (d:n+1<c.E.T.length):Wk c (n+1) v b w0 a (w.setCell ⟨c.P,1,none⟩ (ab ae ((n:Int)+1))) L:=h.next (n+1) (Nat.le_succ n) d
theorem mA {n:Nat} (h:n<=1000000):wrap64 ((n:Int)+1)=(n:Int)+1:=dZ _ (by omega)
theorem Wk.put4 {c:PC} {n:Nat} {v:VS} {m l:aA} {w0 w:aj} {L:List (Nat×List aA)} (h:Wk c n v m w0 l w L) (j:Nat) {g:Nat} {u0 u1 u2 u3:aA} (k:L[j]? = some (g,[u0,u1,u2,u3])) (a b e i:aA) (d:w0.heap.size<=g) :
  Wk c n v m w0 l ((((w.setCell ⟨g,0,none⟩ a).setCell ⟨g,1,none⟩ b).setCell ⟨g,2,none⟩ e).setCell ⟨g,3,none⟩ i) (L.set j (g,[a,b,e,i])):=by
 have f:j<L.length:=(dG.1 k).1
 have o:=h.put j 0 k a d
 have p:=o.put j 1 (g:=g) (vs:=[a,u1,u2,u3]) (by rw [eG];simp [f]) b d
 have q:=p.put j 2 (g:=g) (vs:=[a,b,u2,u3]) (by rw [eG];simp [f]) e d
 have r:=q.put j 3 (g:=g) (vs:=[a,b,e,u3]) (by rw [eG];simp [f]) i d
 simpa using r
theorem Wk.tl {c:PC} {n:Nat} {v:VS} {d a:aA} {w0 w:aj} {x:Nat×List aA} {L:List (Nat×List aA)} (h:Wk c n v d w0 a w (x::L)):Wk c n v d w0 a w L:=⟨h.p,h.s,h.low,h.b.tl,fun y e=>h.off y (List.mem_cons_of_mem _ e),h.start0⟩
def pC (t:NextR):aA:=aN #[ab ae t.r.kind,aa t.txt,ab ae t.r.n,ab ae t.r.at_,ab ae t.r.end_,an t.lay]
def Fall (c:PC) (a:aA) (w0 w:aj):Prop:=ay c.B1 w0 w/\∃nv',Stp c a w0 nv' w
theorem Wk.fall {c:PC} {n:Nat} {v:VS} {b a:aA} {w0 w w':aj} {L:List (Nat×List aA)} (h:Wk c n v b w0 a w L) (f:Fall c a w w'):Fall c b w0 w':=by
 obtain ⟨d,s⟩:=f.2
 exact ⟨h.low.trans f.1,d,h.s.trans s⟩
theorem Fall.of {c:PC} {n:Nat} {v:VS} {a:aA} {w w':aj} (p:PsAt c n v a w) (h:ay w.heap.size w w'):Fall c a w w':=⟨h.mono (by have:=p.low;have:=p.ok.p1;omega),a,.of h⟩
def Is (c:PC) (a:aA) (w0:aj) (k:Nat) (e:Ending) (w:aj):Prop:=e=.panicked [{ v:=.iface 125 (aN #[ab ae (c.E.at k).r.at_]),recovered:=false }]/\Fall c a w0 w
end Go.Proofs.YtgapnafkelokaaaGreatDoor
namespace Go.Proofs.YtgapnafkelokaaaGreatDoor
open Go.RowKit Hb
theorem Gf {c:PC} {n:Nat} {v:VS} {d:aA} {w:aj} (p:PsAt c n v d w) (k:Nat):∃j,j<c.E.T.length/\j=min (n+k) (c.E.T.length-1) /\
  w.cell? ⟨c.g,j * 6,none⟩=some (ab ae (c.E.at (n+k)).r.kind)/\w.cell? ⟨c.g,j * 6+1,none⟩=some (aa (c.E.at (n+k)).txt)/\w.cell? ⟨c.g,j * 6+2,none⟩=some (ab ae (c.E.at (n+k)).r.n)/\w.cell? ⟨c.g,j * 6+3,none⟩=some (ab ae (c.E.at (n+k)).r.at_)/\w.cell? ⟨c.g,j * 6+4,none⟩=some (ab ae (c.E.at (n+k)).r.end_)/\w.cell? ⟨c.g,j * 6+5,none⟩=some (an (c.E.at (n+k)).lay):=by
 have e:=p.ok.pos
 have a:min (n+k) (c.E.T.length-1)<c.E.T.length:=by omega
 have b:c.E.at (n+k)=c.E.T[min (n+k) (c.E.T.length-1)]:=by
  unfold RE.at uI
  rw [aR,aT a];rfl
 refine ⟨_,a,rfl,?_⟩
 rw [b]
 have h:=p.tk _ a
 exact ⟨h 0 _ rfl,h 1 _ rfl,h 2 _ rfl,h 3 _ rfl,h 4 _ rfl,h 5 _ rfl⟩
theorem eC (s:ByteArray):s.toList=s.data.toList:=DH s
theorem JA (t:NextR) (s:ByteArray):isP t s.data.toList=(t.r.kind==6&&t.txt.toList==s.toList):=by
 rw [eC,eC];rfl
theorem Lz {n k len j:Nat} (c:n+k<=100000) (d:0<len) (b:len<=20000) (a:j=min (n+k) (len-1)):min (wrap64 ((n:Int)+(k:Int))) (wrap64 ((len:Int)-1))=(j:Int):=by
 rw [dZ _ (by omega),dZ _ (by omega)]
 omega
theorem jB {c:PC} {n:Nat} {v:VS} {l:aA} {w:aj} (p:PsAt c n v l w) (k:Nat) (i:k<=1):aG ah 51 #[ax (some ⟨c.P,0,none⟩),ab ae (k:Int)] w fun e w'=>e=av (pC (c.E.at (n+k)))/\ay w.heap.size w w':=by
 have a:=(Wk.start p).new [ab ae 0,aa ⟨#[]⟩,ab ae 0,ab ae 0,ab ae 0,an false] 100 rfl
 have g:Hid (ay w.heap.size w (w.alloc (.cells #[ab ae 0,aa ⟨#[]⟩,ab ae 0,ab ae 0,ab ae 0,an false] 100))):=zq ((ak _ _).alloc (ag _) _)
 obtain ⟨j,h,f,s,u,x,y,z,A⟩:=Gf a.p k
 have m:=Lz (len:=c.E.T.length) (by have:=p.n1;have:=p.ok.len;omega) p.ok.pos p.ok.len f
 have o:(0:Int)<=(j:Int):=by omega
 have q:(j:Int)<(c.E.T.length:Int):=by omega
 have d:=a.b.all
 simp only [PC.cells,ai,am,az,aU,aW,ap,ar,and_true] at d
 generalize c.E.at (n+k)=t at *
 generalize c.E.T.length=len at *
 clear a p f h i
 unfold pC
 go_enter Tryz.func51,Tryz.ntmps51
 go_wp2_with fail
 go_region
 all_goals
  go_wp2_with fail
  refine aw (v:=aN #[ab ae t.r.kind,aa t.txt,ab ae t.r.n,ab ae t.r.at_,ab ae t.r.end_,an t.lay]) (by simp [results,Tryz.results51,go_sem,d]) rfl ⟨rfl,?_⟩
  repeat (first | (with_reducible exact g.out) | (with_reducible exact ak _ _) | (with_reducible refine Below.setCell ?_ (by simp) _) | (with_reducible refine Below.alloc ?_ (by simp) _) | (with_reducible refine Below.drew ?_))
theorem iH (t:NextR) (s:ByteArray) (w:aj):aG ah 157 #[pC t,aa s] w fun e w'=>e=av (an (isP t s.data.toList))/\ay w.heap.size w w':=by
 have c:=zq ((ak w.heap.size w).alloc (ag _) (.cells #[ab ae t.r.kind,aa t.txt,ab ae t.r.n,ab ae t.r.at_,ab ae t.r.end_,an t.lay] 100))
 have d:Hid (isP t s.data.toList=(t.r.kind==6&&t.txt.toList==s.toList)):=zq (JA t s)
 rw [d.out]
 unfold pC
 generalize t.txt=x at *
 by_cases a:t.r.kind=6
 ·have b:(t.r.kind==6)=true:=by simpa using a
  rw [b]
  clear a
  go_enter Tryz.func157,Tryz.ntmps157
  go_wp2_with fail
  go_ret
  exact ⟨by simp,c.out⟩
 ·have b:(t.r.kind==6)=false:=by simpa using a
  rw [b]
  clear a
  go_enter Tryz.func157,Tryz.ntmps157
  go_wp2_with fail
  go_ret
  exact ⟨rfl,c.out⟩
theorem rh (t:NextR) (w:aj):aG ah 159 #[pC t] w fun e w'=>e=av (an (fH t))/\ay w.heap.size w w':=by
 have c:=zq ((ak w.heap.size w).alloc (ag _) (.cells #[ab ae t.r.kind,aa t.txt,ab ae t.r.n,ab ae t.r.at_,ab ae t.r.end_,an t.lay] 100))
 unfold pC fH
 by_cases a:t.r.kind=1
 ·have b:(t.r.kind==1)=true:=by simpa using a
  rw [b]
  clear a
  go_enter Tryz.func159,Tryz.ntmps159
  go_wp2_with fail
  go_ret
  exact ⟨rfl,c.out⟩
 ·have b:(t.r.kind==1)=false:=by simpa using a
  rw [b]
  clear a
  go_enter Tryz.func159,Tryz.ntmps159
  go_wp2_with fail
  go_ret
  exact ⟨rfl,c.out⟩
theorem xk (t:NextR) (w:aj):aG ah 210 #[pC t] w fun e w'=>e=av (an (opn t))/\ay w.heap.size w w':=by
 have a:=zq ((ak w.heap.size w).alloc (ag _) (.cells #[ab ae t.r.kind,aa t.txt,ab ae t.r.n,ab ae t.r.at_,ab ae t.r.end_,an t.lay] 100))
 have c:=zq fun W=>iH t ⟨#[40]⟩ W
 have d:=zq ((Bks.nil w).new [ab ae t.r.kind,aa t.txt,ab ae t.r.n,ab ae t.r.at_,ab ae t.r.end_,an t.lay] 100 rfl)
 unfold pC opn at *
 have g:isP t (⟨#[40]⟩:ByteArray).data.toList=isP t [40]:=rfl
 rw [g] at c
 generalize isP t [40]=b at *
 clear g
 cases b
 all_goals
  have f:=d.out.all
  simp only [PC.cells,ai,am,az,aU,aW,ap,ar,and_true] at f
  go_enter Tryz.func210,Tryz.ntmps210
  go_wp2_with fail
  refine (c.out _).mono ?_;rintro e k ⟨rfl,h⟩
  have i:=(d.out.call h).all
  simp only [PC.cells,ai,am,az,aU,aW,ap,ar,and_true] at i
  clear f
  have j:=a.out.trans (h.mono a.out.size)
  go_wp2_with fail
  go_ret
  exact ⟨rfl,j⟩
theorem jA (s:ByteArray) (A:Option Addr) (n a:Nat) (w:aj):aG ah 114 #[aa s,.slice A n a] w fun e w'=>e=av (aN #[ab ae 3,ab ae 0,aa s,.slice A n a])/\ay w.heap.size w w':=by
 have b:=zq ((ak w.heap.size w).alloc (ag _) (.cells #[ab ae 3,ab ae 0,aa s,.slice A n a] 24))
 go_enter Tryz.func114,Tryz.ntmps114
 go_wp2_with fail
 exact aw (v:=aN #[ab ae 3,ab ae 0,aa s,.slice A n a]) (by simp [results,Tryz.results114,go_sem]) rfl ⟨rfl,b.out⟩
theorem ri {c:PC} {n:Nat} {v:VS} {b:aA} {w:aj} (p:PsAt c n v b w):aG ah 76 #[ax (some ⟨c.P,0,none⟩)] w fun e w'=>Is c b w n e w':=by
 have a:=zq (jB p 0 (by decide))
 have d:Hid (∀w',ay w.heap.size w w'->Is c b w n (.panicked [{ v:=.iface 125 (aN #[ab ae (c.E.at n).r.at_]),recovered:=false }]) w'):=zq fun w' h=>⟨rfl,Fall.of p h⟩
 rw [Nat.add_zero] at a
 unfold pC at a
 generalize c.E.at n=t at *
 clear p
 have g:∀W,(Instr.field 100 (aN #[ab ae t.r.kind,aa t.txt,ab ae t.r.n,ab ae t.r.at_,ab ae t.r.end_,an t.lay]) 3).run ah W=.ok (ab ae t.r.at_) W:=fun W=>by kernel_rfl
 go_enter Tryz.func76,Tryz.ntmps76
 go_wp2_with fail
 refine a.out.mono ?_;rintro e i ⟨rfl,f⟩
 go_wp2_with fail
 exact ⟨rfl,d.out _ f⟩
end Go.Proofs.YtgapnafkelokaaaGreatDoor
namespace Hb
open Go Go.RowKit
theorem wH {K K':Nat->Prop} {w:aj} (e:bJ) (rs:List TR) (i:rs.length<=bc) (h:K w.heap.size) (g:∀b,K' b->K b/\b<w.heap.size) (l:∀r∈rs,TmsK K' w r.2.1 r.1.args):TmsK K (w.alloc (.cells (dN rs).toArray e)) (some ⟨w.heap.size,0,none⟩) (rs.map (·.1)):=by
 have c:∀k u,(dN rs)[k]? = some u->(w.alloc (.cells (dN rs).toArray e)).cell? ⟨w.heap.size,0+k,none⟩=some u:=fun k u m=>by
  rw [ap,aq];simpa using m
 refine .mk _ _ (fun j=>(rs.getD j (tm0,none,0)).2.1) (fun j=>(rs.getD j (tm0,none,0)).2.2) (by rw [bm];exact i) (fun j a=>?_) (fun j a=>?_)
 ·rw [bm] at a
  obtain ⟨n,o,p,q⟩:=lF rs j a
  have d:rs.getD j (tm0,none,0)=rs[j]:=by rw [aR,aT a];rfl
  refine ⟨w.heap.size,0,rfl,h,?_,?_,?_,?_⟩
  ·rw [bM];exact c _ _ n
  ·rw [bM];exact c _ _ o
  ·rw [bM];exact c _ _ p
  ·rw [bM];simp only [d];exact c _ _ q
 ·rw [bm] at a
  have d:rs.getD j (tm0,none,0)=rs[j]:=by rw [aR,aT a];rfl
  rw [bM];simp only [d]
  exact (l _ (List.getElem_mem a)).keep (fun b f=>heap_alloc_old w _ (g b f).2) (fun b f=>(g b f).1)
end Hb
