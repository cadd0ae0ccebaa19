/- Parts of the proof. -/
import Derived.Test.YtbojljpldcijgaaGreatR01
import Derived.Test.YtbojljpldcijgaaGreatR04
import Derived.Test.YtbojljpldcijgaaGreatR02
import Derived.RegionTactic
import Derived.BigRegion
set_option maxHeartbeats 12800000
set_option maxRecDepth 100000
open Array renaming getElem?_append_left -> eu, getElem?_append_right -> fH
open Go renaming Calls -> aU, World -> au, bodyPost_ret -> aw, execOp -> aL, maxLen -> bF, wpList -> cq
open Go.Ending renaming returned -> aD
open Go.IntKind renaming i64 -> ab
open Go.Proofs.Tryz renaming func54 -> fo, ntmps54 -> eW, prog -> am, results54 -> cI
open Go.RowKit renaming Below -> aB
open Go.RowKit.Below renaming refl -> ap
open Go.Sem renaming run_bind -> fE
open Go.Value renaming bool -> av, int -> aa, pointer -> ar, string -> ac
open Go.World renaming cell?_alloc_new -> aF, cell?_of_block -> bd, cell?_setCell_other -> dj
open Int renaming toNat_natCast -> aI
open List renaming length_drop -> aN
open Nat renaming le_refl -> ae, lt_or_ge -> dn, zero_le -> bc
namespace Go.Proofs.YtbojljpldcijgaaGreat
open Go.RowKit Hb
theorem vb (b:Nat) (s:ByteArray) (c:Int->Int) (a:Nat) (Z:Int) (w:au) (h:Lex w b s c Z) (ha:a<=s.size) (t:¬(a+cd ((ba c s.data.toList).drop a))=s.size) (C:¬ak (ba c s.data.toList) (a+cd ((ba c s.data.toList).drop a))=47) (F:cls (ak (ba c s.data.toList) (a+cd ((ba c s.data.toList).drop a)))=0) :
  aU am 54 #[ar (some ⟨b,0,none⟩),aa ab a] w fun e w'=>fC (bD (ba c s.data.toList) s.data.toList a) e/\Only b w w'/\∃q,Lex w' b s c q:=by
 have m:=NHeld.start h
 have b0:=h.lt
 have b3:=h.sz
 clear h
 have a3:Hid ((ba c s.data.toList).length=s.size):=by show _=_;rw [bL];simp
 have J:Hid (s.data.toList.length=s.size):=ci s
 have a4:=fQ ((ba c s.data.toList).drop a)
 rw [aN,a3.out] at a4
 generalize O:ba c s.data.toList=M at *
 have A:=zq O
 clear O
 generalize P:cd (M.drop a)=S at *
 have B:=zq P
 clear P
 have b1:((a:Int)+S==(s.size:Int))=false:=by simp;omega
 have W:Hid (∀e,¬e=0->(dg M s.data.toList (a+S)).err=e->Hid (bD M s.data.toList a=⟨cY e,false,a+S⟩)):=fun e l h=>by
  show bD M s.data.toList a=_
  unfold bD;simp only [B.out];rw [if_neg (by rw [J.out];exact t),if_neg (by rw [h];exact l),h];simp
 have X:Hid ((dg M s.data.toList (a+S)).err=0->Hid (bD M s.data.toList a=⟨dg M s.data.toList (a+S),decide (a<a+S),0⟩)):=fun h=>by
  show bD M s.data.toList a=_
  unfold bD;simp only [B.out];rw [if_neg (by rw [J.out];exact t),if_pos h]
 have hp:a+S<s.size:=by omega
 have a8:=zq t
 clear t
 have b2:(ak M (a+S)==47)=false:=by simp [C]
 have U:=zq F
 have Y:=zq (show dg M s.data.toList (a+S)=cY 7 by unfold dg;rw [if_neg (fun h=>C h.1),F];rfl)
 clear C F
 go_enter fo,eW
 go_wp2_with fail
 refine (ik _ _ _ _ _ _ m.lex (by omega)).mono ?_;rintro e w1 ⟨rfl,K⟩;rw [aI,A.out,B.out]
 have i:=NHeld.call K m.lt m
 have c1:=i.lex.ca
 have f1:=i.lex.fr 257
 have a2:=i.lex.lt
 have j:=i.setAt (a+S)
 clear K m i
 go_wp2_with fail
 generalize a5:w1.setCell ⟨b,257,none⟩ (aa ab ((a:Int)+S))=I at *
 clear a5 c1 f1 a2
 have c2:=j.lex.ca
 have d2:=j.lex.c0
 go_quiet (fail)
 have f:=NHeld.call (dF (ap I.heap.size I) nq) j.lt j
 clear j c2 d2
 generalize a6:I.drewN nq=u at *
 clear a6
 have c3:=f.lex.ca
 obtain ⟨t6,v0,v1,v2,v3,v4,v5,t0,t1,t2,t3,t4,t5⟩:=f.tok
 have a9:=f.lt
 have a0:=f.lex.lt
 have n:=fun o=>NHeld.call ((ap u.heap.size u).alloc (ae _) o) f.lt f
 go_wp2_with fail
 refine (bE _ _ _ _ _ _ (n _).lex (by omega)).mono ?_;rintro e w6 ⟨rfl,L⟩;rw [show ((a:Int)+S).toNat=a+S by omega,A.out]
 have k:=NHeld.call L (n _).lt (n _)
 have c6:=k.lex.ca
 have G:=L
 go_wp2_with fail
 refine (bE _ _ _ _ _ _ k.lex (by omega)).mono ?_;rintro e w7 ⟨rfl,D⟩;rw [show ((a:Int)+S).toNat=a+S by omega,A.out]
 have x:=NHeld.call D k.lt k
 have H:=G.trans (D.mono G.size)
 go_wp2_with fail
 refine (dz _ _).mono ?_;rintro e w8 ⟨rfl,E⟩;rw [U.out]
 have y:=NHeld.call E x.lt x
 have T:=H.trans (E.mono H.size)
 have fk:=(T.cell (p:=⟨u.heap.size,0,none⟩) (by simp)).trans (rT u)
 clear D E x H G k c6 f n c3 a0 t0 t1 t2 t3 t4 t5 t6 T
 go_wp2_with fail
 refine (pM b _).mono ?_;rintro e w9 ⟨l,N⟩
 have d:=NHeld.call N y.lt y
 rw [<-Y.out] at l
 generalize R:dg M s.data.toList (a+S)=r at *
 have HR:=zq R
 clear R
 unfold dL bq at l;subst l
 have c9:=d.lex.ca
 have Q:=d.lt
 have a7:=d.lex.lt
 obtain ⟨u6,x0,x1,x2,x3,x4,x5,u0,u1,u2,u3,u4,u5⟩:=d.tok
 clear y N fk
 by_cases g:r.err=0
 ·have z1:(r.err != 0)=false:=by simp [g]
  have z:=X.out g
  have V:=zq g
  clear g
  go_wp2_with fail
  have a1:Hid (decide ((a:Int)<(a:Int)+S)=decide (a<a+S)):=by show _=_;rw [decide_eq_decide];omega
  refine aw (v:=cK ⟨r,decide ((a:Int)<(a:Int)+S),0⟩) ?_ rfl ⟨?_,cE d.only (ae _) _ _ _ _ _ _ _,_,cQ d.lex (by have:=d.blt;omega) _ _ _ _ _ _ _⟩
  ·simp [cK,results,cI,go_sem,u0,u1,u2,u3,u4,u5,V.out,Q]
  ·rw [z.out,<-a1.out];rfl
 ·have z1:(r.err != 0)=true:=by simp [g]
  have z:=W.out r.err g rfl
  clear g
  go_wp2_with fail
  go_region
  go_wp2_with fail
  refine aw (v:=cK ⟨cY r.err,false,(a:Int)+S⟩) ?_ rfl ⟨?_,(cE d.only (ae _) _ _ _ _ _ _ _).drew,_,(cQ d.lex (by have:=d.blt;omega) _ _ _ _ _ _ _).drewN 1⟩
  ·simp [cK,cY,results,cI,go_sem,u0,u1,u2,u3,u4,u5,Q]
  ·rw [z.out];rfl
theorem uZ (b:Nat) (s:ByteArray) (c:Int->Int) (a:Nat) (Z:Int) (w:au) (h:Lex w b s c Z) (ha:a<=s.size) (t:¬(a+cd ((ba c s.data.toList).drop a))=s.size) (C:¬ak (ba c s.data.toList) (a+cd ((ba c s.data.toList).drop a))=47) (F:cls (ak (ba c s.data.toList) (a+cd ((ba c s.data.toList).drop a)))=1) :
  aU am 54 #[ar (some ⟨b,0,none⟩),aa ab a] w fun e w'=>fC (bD (ba c s.data.toList) s.data.toList a) e/\Only b w w'/\∃q,Lex w' b s c q:=by
 have m:=NHeld.start h
 have b0:=h.lt
 have b3:=h.sz
 clear h
 have a3:Hid ((ba c s.data.toList).length=s.size):=by show _=_;rw [bL];simp
 have J:Hid (s.data.toList.length=s.size):=ci s
 have a4:=fQ ((ba c s.data.toList).drop a)
 rw [aN,a3.out] at a4
 generalize O:ba c s.data.toList=M at *
 have A:=zq O
 clear O
 generalize P:cd (M.drop a)=S at *
 have B:=zq P
 clear P
 have b1:((a:Int)+S==(s.size:Int))=false:=by simp;omega
 have W:Hid (∀e,¬e=0->(dg M s.data.toList (a+S)).err=e->Hid (bD M s.data.toList a=⟨cY e,false,a+S⟩)):=fun e l h=>by
  show bD M s.data.toList a=_
  unfold bD;simp only [B.out];rw [if_neg (by rw [J.out];exact t),if_neg (by rw [h];exact l),h];simp
 have X:Hid ((dg M s.data.toList (a+S)).err=0->Hid (bD M s.data.toList a=⟨dg M s.data.toList (a+S),decide (a<a+S),0⟩)):=fun h=>by
  show bD M s.data.toList a=_
  unfold bD;simp only [B.out];rw [if_neg (by rw [J.out];exact t),if_pos h]
 have hp:a+S<s.size:=by omega
 have a8:=zq t
 clear t
 have b2:(ak M (a+S)==47)=false:=by simp [C]
 have U:=zq F
 have Y:=zq (show dg M s.data.toList (a+S)=cY 7 by unfold dg;rw [if_neg (fun h=>C h.1),F];rfl)
 clear C F
 go_enter fo,eW
 go_wp2_with fail
 refine (ik _ _ _ _ _ _ m.lex (by omega)).mono ?_;rintro e w1 ⟨rfl,K⟩;rw [aI,A.out,B.out]
 have i:=NHeld.call K m.lt m
 have c1:=i.lex.ca
 have f1:=i.lex.fr 257
 have a2:=i.lex.lt
 have j:=i.setAt (a+S)
 clear K m i
 go_wp2_with fail
 generalize a5:w1.setCell ⟨b,257,none⟩ (aa ab ((a:Int)+S))=I at *
 clear a5 c1 f1 a2
 have c2:=j.lex.ca
 have d2:=j.lex.c0
 go_quiet (fail)
 have f:=NHeld.call (dF (ap I.heap.size I) nq) j.lt j
 clear j c2 d2
 generalize a6:I.drewN nq=u at *
 clear a6
 have c3:=f.lex.ca
 obtain ⟨t6,v0,v1,v2,v3,v4,v5,t0,t1,t2,t3,t4,t5⟩:=f.tok
 have a9:=f.lt
 have a0:=f.lex.lt
 have n:=fun o=>NHeld.call ((ap u.heap.size u).alloc (ae _) o) f.lt f
 go_wp2_with fail
 refine (bE _ _ _ _ _ _ (n _).lex (by omega)).mono ?_;rintro e w6 ⟨rfl,L⟩;rw [show ((a:Int)+S).toNat=a+S by omega,A.out]
 have k:=NHeld.call L (n _).lt (n _)
 have c6:=k.lex.ca
 have G:=L
 go_wp2_with fail
 refine (bE _ _ _ _ _ _ k.lex (by omega)).mono ?_;rintro e w7 ⟨rfl,D⟩;rw [show ((a:Int)+S).toNat=a+S by omega,A.out]
 have x:=NHeld.call D k.lt k
 have H:=G.trans (D.mono G.size)
 go_wp2_with fail
 refine (dz _ _).mono ?_;rintro e w8 ⟨rfl,E⟩;rw [U.out]
 have y:=NHeld.call E x.lt x
 have T:=H.trans (E.mono H.size)
 have fk:=(T.cell (p:=⟨u.heap.size,1,none⟩) (by simp)).trans (rS u)
 clear D E x H G k c6 f n c3 a0 t0 t1 t2 t3 t4 t5 t6 T
 go_wp2_with fail
 refine (pM b _).mono ?_;rintro e w9 ⟨l,N⟩
 have d:=NHeld.call N y.lt y
 rw [<-Y.out] at l
 generalize R:dg M s.data.toList (a+S)=r at *
 have HR:=zq R
 clear R
 unfold dL bq at l;subst l
 have c9:=d.lex.ca
 have Q:=d.lt
 have a7:=d.lex.lt
 obtain ⟨u6,x0,x1,x2,x3,x4,x5,u0,u1,u2,u3,u4,u5⟩:=d.tok
 clear y N fk
 by_cases g:r.err=0
 ·have z1:(r.err != 0)=false:=by simp [g]
  have z:=X.out g
  have V:=zq g
  clear g
  go_wp2_with fail
  have a1:Hid (decide ((a:Int)<(a:Int)+S)=decide (a<a+S)):=by show _=_;rw [decide_eq_decide];omega
  refine aw (v:=cK ⟨r,decide ((a:Int)<(a:Int)+S),0⟩) ?_ rfl ⟨?_,cE d.only (ae _) _ _ _ _ _ _ _,_,cQ d.lex (by have:=d.blt;omega) _ _ _ _ _ _ _⟩
  ·simp [cK,results,cI,go_sem,u0,u1,u2,u3,u4,u5,V.out,Q]
  ·rw [z.out,<-a1.out];rfl
 ·have z1:(r.err != 0)=true:=by simp [g]
  have z:=W.out r.err g rfl
  clear g
  go_wp2_with fail
  go_region
  go_wp2_with fail
  refine aw (v:=cK ⟨cY r.err,false,(a:Int)+S⟩) ?_ rfl ⟨?_,(cE d.only (ae _) _ _ _ _ _ _ _).drew,_,(cQ d.lex (by have:=d.blt;omega) _ _ _ _ _ _ _).drewN 1⟩
  ·simp [cK,cY,results,cI,go_sem,u0,u1,u2,u3,u4,u5,Q]
  ·rw [z.out];rfl
theorem uS (b:Nat) (s:ByteArray) (c:Int->Int) (a:Nat) (Z:Int) (w:au) (h:Lex w b s c Z) (ha:a<=s.size) (t:¬(a+cd ((ba c s.data.toList).drop a))=s.size) (C:¬ak (ba c s.data.toList) (a+cd ((ba c s.data.toList).drop a))=47) (F:cls (ak (ba c s.data.toList) (a+cd ((ba c s.data.toList).drop a)))=8) :
  aU am 54 #[ar (some ⟨b,0,none⟩),aa ab a] w fun e w'=>fC (bD (ba c s.data.toList) s.data.toList a) e/\Only b w w'/\∃q,Lex w' b s c q:=by
 have m:=NHeld.start h
 have b0:=h.lt
 have b3:=h.sz
 clear h
 have a3:Hid ((ba c s.data.toList).length=s.size):=by show _=_;rw [bL];simp
 have J:Hid (s.data.toList.length=s.size):=ci s
 have a4:=fQ ((ba c s.data.toList).drop a)
 rw [aN,a3.out] at a4
 generalize O:ba c s.data.toList=M at *
 have A:=zq O
 clear O
 generalize P:cd (M.drop a)=S at *
 have B:=zq P
 clear P
 have b1:((a:Int)+S==(s.size:Int))=false:=by simp;omega
 have W:Hid (∀e,¬e=0->(dg M s.data.toList (a+S)).err=e->Hid (bD M s.data.toList a=⟨cY e,false,a+S⟩)):=fun e l h=>by
  show bD M s.data.toList a=_
  unfold bD;simp only [B.out];rw [if_neg (by rw [J.out];exact t),if_neg (by rw [h];exact l),h];simp
 have X:Hid ((dg M s.data.toList (a+S)).err=0->Hid (bD M s.data.toList a=⟨dg M s.data.toList (a+S),decide (a<a+S),0⟩)):=fun h=>by
  show bD M s.data.toList a=_
  unfold bD;simp only [B.out];rw [if_neg (by rw [J.out];exact t),if_pos h]
 have hp:a+S<s.size:=by omega
 have a8:=zq t
 clear t
 have b2:(ak M (a+S)==47)=false:=by simp [C]
 have U:=zq F
 have Y:=zq (show dg M s.data.toList (a+S)=cY 7 by unfold dg;rw [if_neg (fun h=>C h.1),F];rfl)
 clear C F
 go_enter fo,eW
 go_wp2_with fail
 refine (ik _ _ _ _ _ _ m.lex (by omega)).mono ?_;rintro e w1 ⟨rfl,K⟩;rw [aI,A.out,B.out]
 have i:=NHeld.call K m.lt m
 have c1:=i.lex.ca
 have f1:=i.lex.fr 257
 have a2:=i.lex.lt
 have j:=i.setAt (a+S)
 clear K m i
 go_wp2_with fail
 generalize a5:w1.setCell ⟨b,257,none⟩ (aa ab ((a:Int)+S))=I at *
 clear a5 c1 f1 a2
 have c2:=j.lex.ca
 have d2:=j.lex.c0
 go_quiet (fail)
 have f:=NHeld.call (dF (ap I.heap.size I) nq) j.lt j
 clear j c2 d2
 generalize a6:I.drewN nq=u at *
 clear a6
 have c3:=f.lex.ca
 obtain ⟨t6,v0,v1,v2,v3,v4,v5,t0,t1,t2,t3,t4,t5⟩:=f.tok
 have a9:=f.lt
 have a0:=f.lex.lt
 have n:=fun o=>NHeld.call ((ap u.heap.size u).alloc (ae _) o) f.lt f
 go_wp2_with fail
 refine (bE _ _ _ _ _ _ (n _).lex (by omega)).mono ?_;rintro e w6 ⟨rfl,L⟩;rw [show ((a:Int)+S).toNat=a+S by omega,A.out]
 have k:=NHeld.call L (n _).lt (n _)
 have c6:=k.lex.ca
 have G:=L
 go_wp2_with fail
 refine (bE _ _ _ _ _ _ k.lex (by omega)).mono ?_;rintro e w7 ⟨rfl,D⟩;rw [show ((a:Int)+S).toNat=a+S by omega,A.out]
 have x:=NHeld.call D k.lt k
 have H:=G.trans (D.mono G.size)
 go_wp2_with fail
 refine (dz _ _).mono ?_;rintro e w8 ⟨rfl,E⟩;rw [U.out]
 have y:=NHeld.call E x.lt x
 have T:=H.trans (E.mono H.size)
 have fk:=(T.cell (p:=⟨u.heap.size,8,none⟩) (by simp)).trans (rM u)
 clear D E x H G k c6 f n c3 a0 t0 t1 t2 t3 t4 t5 t6 T
 go_wp2_with fail
 refine (pM b _).mono ?_;rintro e w9 ⟨l,N⟩
 have d:=NHeld.call N y.lt y
 rw [<-Y.out] at l
 generalize R:dg M s.data.toList (a+S)=r at *
 have HR:=zq R
 clear R
 unfold dL bq at l;subst l
 have c9:=d.lex.ca
 have Q:=d.lt
 have a7:=d.lex.lt
 obtain ⟨u6,x0,x1,x2,x3,x4,x5,u0,u1,u2,u3,u4,u5⟩:=d.tok
 clear y N fk
 by_cases g:r.err=0
 ·have z1:(r.err != 0)=false:=by simp [g]
  have z:=X.out g
  have V:=zq g
  clear g
  go_wp2_with fail
  have a1:Hid (decide ((a:Int)<(a:Int)+S)=decide (a<a+S)):=by show _=_;rw [decide_eq_decide];omega
  refine aw (v:=cK ⟨r,decide ((a:Int)<(a:Int)+S),0⟩) ?_ rfl ⟨?_,cE d.only (ae _) _ _ _ _ _ _ _,_,cQ d.lex (by have:=d.blt;omega) _ _ _ _ _ _ _⟩
  ·simp [cK,results,cI,go_sem,u0,u1,u2,u3,u4,u5,V.out,Q]
  ·rw [z.out,<-a1.out];rfl
 ·have z1:(r.err != 0)=true:=by simp [g]
  have z:=W.out r.err g rfl
  clear g
  go_wp2_with fail
  go_region
  go_wp2_with fail
  refine aw (v:=cK ⟨cY r.err,false,(a:Int)+S⟩) ?_ rfl ⟨?_,(cE d.only (ae _) _ _ _ _ _ _ _).drew,_,(cQ d.lex (by have:=d.blt;omega) _ _ _ _ _ _ _).drewN 1⟩
  ·simp [cK,cY,results,cI,go_sem,u0,u1,u2,u3,u4,u5,Q]
  ·rw [z.out];rfl
theorem uY (b:Nat) (s:ByteArray) (c:Int->Int) (a:Nat) (Z:Int) (w:au) (h:Lex w b s c Z) (ha:a<=s.size) (x:¬(a+cd ((ba c s.data.toList).drop a))=s.size) (C:¬ak (ba c s.data.toList) (a+cd ((ba c s.data.toList).drop a))=47) (F:cls (ak (ba c s.data.toList) (a+cd ((ba c s.data.toList).drop a)))=2) :
  aU am 54 #[ar (some ⟨b,0,none⟩),aa ab a] w fun e w'=>fC (bD (ba c s.data.toList) s.data.toList a) e/\Only b w w'/\∃q,Lex w' b s c q:=by
 have m:=NHeld.start h
 have b0:=h.lt
 have b3:=h.sz
 clear h
 have a3:Hid ((ba c s.data.toList).length=s.size):=by show _=_;rw [bL];simp
 have J:Hid (s.data.toList.length=s.size):=ci s
 have a4:=fQ ((ba c s.data.toList).drop a)
 rw [aN,a3.out] at a4
 generalize O:ba c s.data.toList=M at *
 have u:=zq O
 clear O
 generalize P:cd (M.drop a)=S at *
 have B:=zq P
 clear P
 have b1:((a:Int)+S==(s.size:Int))=false:=by simp;omega
 have W:Hid (∀e,¬e=0->(dg M s.data.toList (a+S)).err=e->Hid (bD M s.data.toList a=⟨cY e,false,a+S⟩)):=fun e i h=>by
  show bD M s.data.toList a=_
  unfold bD;simp only [B.out];rw [if_neg (by rw [J.out];exact x),if_neg (by rw [h];exact i),h];simp
 have X:Hid ((dg M s.data.toList (a+S)).err=0->Hid (bD M s.data.toList a=⟨dg M s.data.toList (a+S),decide (a<a+S),0⟩)):=fun h=>by
  show bD M s.data.toList a=_
  unfold bD;simp only [B.out];rw [if_neg (by rw [J.out];exact x),if_pos h]
 have hp:a+S<s.size:=by omega
 have a8:=zq x
 clear x
 have b2:(ak M (a+S)==47)=false:=by simp [C]
 have U:=zq F
 have Y:=zq (show dg M s.data.toList (a+S)=oi M (a+S) by unfold dg;rw [if_neg (fun h=>C h.1),F];rfl)
 clear C F
 go_enter fo,eW
 go_wp2_with fail
 refine (ik _ _ _ _ _ _ m.lex (by omega)).mono ?_;rintro e w1 ⟨rfl,K⟩;rw [aI,u.out,B.out]
 have j:=NHeld.call K m.lt m
 have c1:=j.lex.ca
 have f1:=j.lex.fr 257
 have a2:=j.lex.lt
 have k:=j.setAt (a+S)
 clear K m j
 go_wp2_with fail
 generalize a5:w1.setCell ⟨b,257,none⟩ (aa ab ((a:Int)+S))=I at *
 clear a5 c1 f1 a2
 have c2:=k.lex.ca
 have d2:=k.lex.c0
 go_quiet (fail)
 have f:=NHeld.call (dF (ap I.heap.size I) nq) k.lt k
 clear k c2 d2
 generalize a6:I.drewN nq=y at *
 clear a6
 have c3:=f.lex.ca
 obtain ⟨t6,v0,v1,v2,v3,v4,v5,t0,t1,t2,t3,t4,t5⟩:=f.tok
 have a9:=f.lt
 have a0:=f.lex.lt
 have n:=fun o=>NHeld.call ((ap y.heap.size y).alloc (ae _) o) f.lt f
 go_wp2_with fail
 refine (bE _ _ _ _ _ _ (n _).lex (by omega)).mono ?_;rintro e w6 ⟨rfl,L⟩;rw [show ((a:Int)+S).toNat=a+S by omega,u.out]
 have l:=NHeld.call L (n _).lt (n _)
 have c6:=l.lex.ca
 have G:=L
 go_wp2_with fail
 refine (bE _ _ _ _ _ _ l.lex (by omega)).mono ?_;rintro e w7 ⟨rfl,D⟩;rw [show ((a:Int)+S).toNat=a+S by omega,u.out]
 have z:=NHeld.call D l.lt l
 have H:=G.trans (D.mono G.size)
 go_wp2_with fail
 refine (dz _ _).mono ?_;rintro e w8 ⟨rfl,E⟩;rw [U.out]
 have t:=NHeld.call E z.lt z
 have T:=H.trans (E.mono H.size)
 have fk:=(T.cell (p:=⟨y.heap.size,2,none⟩) (by simp)).trans (rR y)
 clear D E z H G l c6 f n c3 a0 t0 t1 t2 t3 t4 t5 t6 T
 go_wp2_with fail
 refine (tv b s c (a+S) _ t.lex (by omega)).mono ?_;rintro e w9 ⟨i,N⟩
 have d:=NHeld.call N t.lt t
 rw [u.out] at i
 rw [<-Y.out] at i
 generalize R:dg M s.data.toList (a+S)=r at *
 have HR:=zq R
 clear R
 unfold dL bq at i;subst i
 have c9:=d.lex.ca
 have Q:=d.lt
 have a7:=d.lex.lt
 obtain ⟨u6,x0,x1,x2,x3,x4,x5,u0,u1,u2,u3,u4,u5⟩:=d.tok
 clear t N fk
 by_cases g:r.err=0
 ·have z1:(r.err != 0)=false:=by simp [g]
  have A:=X.out g
  have V:=zq g
  clear g
  go_wp2_with fail
  have a1:Hid (decide ((a:Int)<(a:Int)+S)=decide (a<a+S)):=by show _=_;rw [decide_eq_decide];omega
  refine aw (v:=cK ⟨r,decide ((a:Int)<(a:Int)+S),0⟩) ?_ rfl ⟨?_,cE d.only (ae _) _ _ _ _ _ _ _,_,cQ d.lex (by have:=d.blt;omega) _ _ _ _ _ _ _⟩
  ·simp [cK,results,cI,go_sem,u0,u1,u2,u3,u4,u5,V.out,Q]
  ·rw [A.out,<-a1.out];rfl
 ·have z1:(r.err != 0)=true:=by simp [g]
  have A:=W.out r.err g rfl
  clear g
  go_wp2_with fail
  go_region
  go_wp2_with fail
  refine aw (v:=cK ⟨cY r.err,false,(a:Int)+S⟩) ?_ rfl ⟨?_,(cE d.only (ae _) _ _ _ _ _ _ _).drew,_,(cQ d.lex (by have:=d.blt;omega) _ _ _ _ _ _ _).drewN 1⟩
  ·simp [cK,cY,results,cI,go_sem,u0,u1,u2,u3,u4,u5,Q]
  ·rw [A.out];rfl
theorem uX (b:Nat) (s:ByteArray) (c:Int->Int) (a:Nat) (Z:Int) (w:au) (h:Lex w b s c Z) (ha:a<=s.size) (x:¬(a+cd ((ba c s.data.toList).drop a))=s.size) (C:¬ak (ba c s.data.toList) (a+cd ((ba c s.data.toList).drop a))=47) (F:cls (ak (ba c s.data.toList) (a+cd ((ba c s.data.toList).drop a)))=3) :
  aU am 54 #[ar (some ⟨b,0,none⟩),aa ab a] w fun e w'=>fC (bD (ba c s.data.toList) s.data.toList a) e/\Only b w w'/\∃q,Lex w' b s c q:=by
 have m:=NHeld.start h
 have b0:=h.lt
 have b3:=h.sz
 clear h
 have a3:Hid ((ba c s.data.toList).length=s.size):=by show _=_;rw [bL];simp
 have J:Hid (s.data.toList.length=s.size):=ci s
 have a4:=fQ ((ba c s.data.toList).drop a)
 rw [aN,a3.out] at a4
 generalize O:ba c s.data.toList=M at *
 have u:=zq O
 clear O
 generalize P:cd (M.drop a)=S at *
 have B:=zq P
 clear P
 have b1:((a:Int)+S==(s.size:Int))=false:=by simp;omega
 have W:Hid (∀e,¬e=0->(dg M s.data.toList (a+S)).err=e->Hid (bD M s.data.toList a=⟨cY e,false,a+S⟩)):=fun e i h=>by
  show bD M s.data.toList a=_
  unfold bD;simp only [B.out];rw [if_neg (by rw [J.out];exact x),if_neg (by rw [h];exact i),h];simp
 have X:Hid ((dg M s.data.toList (a+S)).err=0->Hid (bD M s.data.toList a=⟨dg M s.data.toList (a+S),decide (a<a+S),0⟩)):=fun h=>by
  show bD M s.data.toList a=_
  unfold bD;simp only [B.out];rw [if_neg (by rw [J.out];exact x),if_pos h]
 have hp:a+S<s.size:=by omega
 have a8:=zq x
 clear x
 have b2:(ak M (a+S)==47)=false:=by simp [C]
 have U:=zq F
 have Y:=zq (show dg M s.data.toList (a+S)=oi M (a+S) by unfold dg;rw [if_neg (fun h=>C h.1),F];rfl)
 clear C F
 go_enter fo,eW
 go_wp2_with fail
 refine (ik _ _ _ _ _ _ m.lex (by omega)).mono ?_;rintro e w1 ⟨rfl,K⟩;rw [aI,u.out,B.out]
 have j:=NHeld.call K m.lt m
 have c1:=j.lex.ca
 have f1:=j.lex.fr 257
 have a2:=j.lex.lt
 have k:=j.setAt (a+S)
 clear K m j
 go_wp2_with fail
 generalize a5:w1.setCell ⟨b,257,none⟩ (aa ab ((a:Int)+S))=I at *
 clear a5 c1 f1 a2
 have c2:=k.lex.ca
 have d2:=k.lex.c0
 go_quiet (fail)
 have f:=NHeld.call (dF (ap I.heap.size I) nq) k.lt k
 clear k c2 d2
 generalize a6:I.drewN nq=y at *
 clear a6
 have c3:=f.lex.ca
 obtain ⟨t6,v0,v1,v2,v3,v4,v5,t0,t1,t2,t3,t4,t5⟩:=f.tok
 have a9:=f.lt
 have a0:=f.lex.lt
 have n:=fun o=>NHeld.call ((ap y.heap.size y).alloc (ae _) o) f.lt f
 go_wp2_with fail
 refine (bE _ _ _ _ _ _ (n _).lex (by omega)).mono ?_;rintro e w6 ⟨rfl,L⟩;rw [show ((a:Int)+S).toNat=a+S by omega,u.out]
 have l:=NHeld.call L (n _).lt (n _)
 have c6:=l.lex.ca
 have G:=L
 go_wp2_with fail
 refine (bE _ _ _ _ _ _ l.lex (by omega)).mono ?_;rintro e w7 ⟨rfl,D⟩;rw [show ((a:Int)+S).toNat=a+S by omega,u.out]
 have z:=NHeld.call D l.lt l
 have H:=G.trans (D.mono G.size)
 go_wp2_with fail
 refine (dz _ _).mono ?_;rintro e w8 ⟨rfl,E⟩;rw [U.out]
 have t:=NHeld.call E z.lt z
 have T:=H.trans (E.mono H.size)
 have fk:=(T.cell (p:=⟨y.heap.size,3,none⟩) (by simp)).trans (rQ y)
 clear D E z H G l c6 f n c3 a0 t0 t1 t2 t3 t4 t5 t6 T
 go_wp2_with fail
 refine (tv b s c (a+S) _ t.lex (by omega)).mono ?_;rintro e w9 ⟨i,N⟩
 have d:=NHeld.call N t.lt t
 rw [u.out] at i
 rw [<-Y.out] at i
 generalize R:dg M s.data.toList (a+S)=r at *
 have HR:=zq R
 clear R
 unfold dL bq at i;subst i
 have c9:=d.lex.ca
 have Q:=d.lt
 have a7:=d.lex.lt
 obtain ⟨u6,x0,x1,x2,x3,x4,x5,u0,u1,u2,u3,u4,u5⟩:=d.tok
 clear t N fk
 by_cases g:r.err=0
 ·have z1:(r.err != 0)=false:=by simp [g]
  have A:=X.out g
  have V:=zq g
  clear g
  go_wp2_with fail
  have a1:Hid (decide ((a:Int)<(a:Int)+S)=decide (a<a+S)):=by show _=_;rw [decide_eq_decide];omega
  refine aw (v:=cK ⟨r,decide ((a:Int)<(a:Int)+S),0⟩) ?_ rfl ⟨?_,cE d.only (ae _) _ _ _ _ _ _ _,_,cQ d.lex (by have:=d.blt;omega) _ _ _ _ _ _ _⟩
  ·simp [cK,results,cI,go_sem,u0,u1,u2,u3,u4,u5,V.out,Q]
  ·rw [A.out,<-a1.out];rfl
 ·have z1:(r.err != 0)=true:=by simp [g]
  have A:=W.out r.err g rfl
  clear g
  go_wp2_with fail
  go_region
  go_wp2_with fail
  refine aw (v:=cK ⟨cY r.err,false,(a:Int)+S⟩) ?_ rfl ⟨?_,(cE d.only (ae _) _ _ _ _ _ _ _).drew,_,(cQ d.lex (by have:=d.blt;omega) _ _ _ _ _ _ _).drewN 1⟩
  ·simp [cK,cY,results,cI,go_sem,u0,u1,u2,u3,u4,u5,Q]
  ·rw [A.out];rfl
theorem uW (b:Nat) (s:ByteArray) (c:Int->Int) (a:Nat) (Z:Int) (w:au) (h:Lex w b s c Z) (ha:a<=s.size) (x:¬(a+cd ((ba c s.data.toList).drop a))=s.size) (C:¬ak (ba c s.data.toList) (a+cd ((ba c s.data.toList).drop a))=47) (F:cls (ak (ba c s.data.toList) (a+cd ((ba c s.data.toList).drop a)))=4) :
  aU am 54 #[ar (some ⟨b,0,none⟩),aa ab a] w fun e w'=>fC (bD (ba c s.data.toList) s.data.toList a) e/\Only b w w'/\∃q,Lex w' b s c q:=by
 have n:=NHeld.start h
 have b0:=h.lt
 have b3:=h.sz
 clear h
 have a3:Hid ((ba c s.data.toList).length=s.size):=by show _=_;rw [bL];simp
 have K:Hid (s.data.toList.length=s.size):=ci s
 have a4:=fQ ((ba c s.data.toList).drop a)
 rw [aN,a3.out] at a4
 generalize P:ba c s.data.toList=M at *
 have m:=zq P
 clear P
 generalize Q:cd (M.drop a)=S at *
 have B:=zq Q
 clear Q
 have b1:((a:Int)+S==(s.size:Int))=false:=by simp;omega
 have W:Hid (∀e,¬e=0->(dg M s.data.toList (a+S)).err=e->Hid (bD M s.data.toList a=⟨cY e,false,a+S⟩)):=fun e i h=>by
  show bD M s.data.toList a=_
  unfold bD;simp only [B.out];rw [if_neg (by rw [K.out];exact x),if_neg (by rw [h];exact i),h];simp
 have X:Hid ((dg M s.data.toList (a+S)).err=0->Hid (bD M s.data.toList a=⟨dg M s.data.toList (a+S),decide (a<a+S),0⟩)):=fun h=>by
  show bD M s.data.toList a=_
  unfold bD;simp only [B.out];rw [if_neg (by rw [K.out];exact x),if_pos h]
 have hp:a+S<s.size:=by omega
 have a8:=zq x
 clear x
 have b2:(ak M (a+S)==47)=false:=by simp [C]
 have J:=zq F
 have Y:=zq (show dg M s.data.toList (a+S)=ew M s.data.toList (a+S) by unfold dg;rw [if_neg (fun h=>C h.1),F];rfl)
 clear C F
 go_enter fo,eW
 go_wp2_with fail
 refine (ik _ _ _ _ _ _ n.lex (by omega)).mono ?_;rintro e w1 ⟨rfl,L⟩;rw [aI,m.out,B.out]
 have j:=NHeld.call L n.lt n
 have c1:=j.lex.ca
 have f1:=j.lex.fr 257
 have a2:=j.lex.lt
 have k:=j.setAt (a+S)
 clear L n j
 go_wp2_with fail
 generalize a5:w1.setCell ⟨b,257,none⟩ (aa ab ((a:Int)+S))=I at *
 clear a5 c1 f1 a2
 have c2:=k.lex.ca
 have d2:=k.lex.c0
 go_quiet (fail)
 have f:=NHeld.call (dF (ap I.heap.size I) nq) k.lt k
 clear k c2 d2
 generalize a6:I.drewN nq=y at *
 clear a6
 have c3:=f.lex.ca
 obtain ⟨t6,v0,v1,v2,v3,v4,v5,t0,t1,t2,t3,t4,t5⟩:=f.tok
 have a9:=f.lt
 have a0:=f.lex.lt
 have t:=fun o=>NHeld.call ((ap y.heap.size y).alloc (ae _) o) f.lt f
 go_wp2_with fail
 refine (bE _ _ _ _ _ _ (t _).lex (by omega)).mono ?_;rintro e w6 ⟨rfl,N⟩;rw [show ((a:Int)+S).toNat=a+S by omega,m.out]
 have l:=NHeld.call N (t _).lt (t _)
 have c6:=l.lex.ca
 have G:=N
 go_wp2_with fail
 refine (bE _ _ _ _ _ _ l.lex (by omega)).mono ?_;rintro e w7 ⟨rfl,D⟩;rw [show ((a:Int)+S).toNat=a+S by omega,m.out]
 have z:=NHeld.call D l.lt l
 have H:=G.trans (D.mono G.size)
 go_wp2_with fail
 refine (dz _ _).mono ?_;rintro e w8 ⟨rfl,E⟩;rw [J.out]
 have u:=NHeld.call E z.lt z
 have U:=H.trans (E.mono H.size)
 have fk:=(U.cell (p:=⟨y.heap.size,4,none⟩) (by simp)).trans (rP y)
 clear D E z H G l c6 f t c3 a0 t0 t1 t2 t3 t4 t5 t6 U
 go_wp2_with fail
 refine (uR b s c (a+S) _ u.lex hp (by rw [m.out];exact Az _ J.out)).mono ?_;rintro e w9 ⟨i,O⟩
 have d:=NHeld.call O u.lt u
 rw [m.out] at i
 rw [<-Y.out] at i
 generalize T:dg M s.data.toList (a+S)=r at *
 have HR:=zq T
 clear T
 unfold dL bq at i;subst i
 have c9:=d.lex.ca
 have R:=d.lt
 have a7:=d.lex.lt
 obtain ⟨u6,x0,x1,x2,x3,x4,x5,u0,u1,u2,u3,u4,u5⟩:=d.tok
 clear u O fk
 by_cases g:r.err=0
 ·have z1:(r.err != 0)=false:=by simp [g]
  have A:=X.out g
  have V:=zq g
  clear g
  go_wp2_with fail
  have a1:Hid (decide ((a:Int)<(a:Int)+S)=decide (a<a+S)):=by show _=_;rw [decide_eq_decide];omega
  refine aw (v:=cK ⟨r,decide ((a:Int)<(a:Int)+S),0⟩) ?_ rfl ⟨?_,cE d.only (ae _) _ _ _ _ _ _ _,_,cQ d.lex (by have:=d.blt;omega) _ _ _ _ _ _ _⟩
  ·simp [cK,results,cI,go_sem,u0,u1,u2,u3,u4,u5,V.out,R]
  ·rw [A.out,<-a1.out];rfl
 ·have z1:(r.err != 0)=true:=by simp [g]
  have A:=W.out r.err g rfl
  clear g
  go_wp2_with fail
  go_region
  go_wp2_with fail
  refine aw (v:=cK ⟨cY r.err,false,(a:Int)+S⟩) ?_ rfl ⟨?_,(cE d.only (ae _) _ _ _ _ _ _ _).drew,_,(cQ d.lex (by have:=d.blt;omega) _ _ _ _ _ _ _).drewN 1⟩
  ·simp [cK,cY,results,cI,go_sem,u0,u1,u2,u3,u4,u5,R]
  ·rw [A.out];rfl
theorem uV (b:Nat) (s:ByteArray) (c:Int->Int) (a:Nat) (Z:Int) (w:au) (h:Lex w b s c Z) (ha:a<=s.size) (x:¬(a+cd ((ba c s.data.toList).drop a))=s.size) (C:¬ak (ba c s.data.toList) (a+cd ((ba c s.data.toList).drop a))=47) (F:cls (ak (ba c s.data.toList) (a+cd ((ba c s.data.toList).drop a)))=5) :
  aU am 54 #[ar (some ⟨b,0,none⟩),aa ab a] w fun e w'=>fC (bD (ba c s.data.toList) s.data.toList a) e/\Only b w w'/\∃q,Lex w' b s c q:=by
 have m:=NHeld.start h
 have b0:=h.lt
 have b3:=h.sz
 clear h
 have a3:Hid ((ba c s.data.toList).length=s.size):=by show _=_;rw [bL];simp
 have J:Hid (s.data.toList.length=s.size):=ci s
 have a4:=fQ ((ba c s.data.toList).drop a)
 rw [aN,a3.out] at a4
 generalize O:ba c s.data.toList=M at *
 have u:=zq O
 clear O
 generalize P:cd (M.drop a)=S at *
 have B:=zq P
 clear P
 have b1:((a:Int)+S==(s.size:Int))=false:=by simp;omega
 have W:Hid (∀e,¬e=0->(dg M s.data.toList (a+S)).err=e->Hid (bD M s.data.toList a=⟨cY e,false,a+S⟩)):=fun e i h=>by
  show bD M s.data.toList a=_
  unfold bD;simp only [B.out];rw [if_neg (by rw [J.out];exact x),if_neg (by rw [h];exact i),h];simp
 have X:Hid ((dg M s.data.toList (a+S)).err=0->Hid (bD M s.data.toList a=⟨dg M s.data.toList (a+S),decide (a<a+S),0⟩)):=fun h=>by
  show bD M s.data.toList a=_
  unfold bD;simp only [B.out];rw [if_neg (by rw [J.out];exact x),if_pos h]
 have hp:a+S<s.size:=by omega
 have a8:=zq x
 clear x
 have b2:(ak M (a+S)==47)=false:=by simp [C]
 have U:=zq F
 have Y:=zq (show dg M s.data.toList (a+S)=km M (a+S) by unfold dg;rw [if_neg (fun h=>C h.1),F];rfl)
 clear C F
 go_enter fo,eW
 go_wp2_with fail
 refine (ik _ _ _ _ _ _ m.lex (by omega)).mono ?_;rintro e w1 ⟨rfl,K⟩;rw [aI,u.out,B.out]
 have j:=NHeld.call K m.lt m
 have c1:=j.lex.ca
 have f1:=j.lex.fr 257
 have a2:=j.lex.lt
 have k:=j.setAt (a+S)
 clear K m j
 go_wp2_with fail
 generalize a5:w1.setCell ⟨b,257,none⟩ (aa ab ((a:Int)+S))=I at *
 clear a5 c1 f1 a2
 have c2:=k.lex.ca
 have d2:=k.lex.c0
 go_quiet (fail)
 have f:=NHeld.call (dF (ap I.heap.size I) nq) k.lt k
 clear k c2 d2
 generalize a6:I.drewN nq=y at *
 clear a6
 have c3:=f.lex.ca
 obtain ⟨t6,v0,v1,v2,v3,v4,v5,t0,t1,t2,t3,t4,t5⟩:=f.tok
 have a9:=f.lt
 have a0:=f.lex.lt
 have n:=fun o=>NHeld.call ((ap y.heap.size y).alloc (ae _) o) f.lt f
 go_wp2_with fail
 refine (bE _ _ _ _ _ _ (n _).lex (by omega)).mono ?_;rintro e w6 ⟨rfl,L⟩;rw [show ((a:Int)+S).toNat=a+S by omega,u.out]
 have l:=NHeld.call L (n _).lt (n _)
 have c6:=l.lex.ca
 have G:=L
 go_wp2_with fail
 refine (bE _ _ _ _ _ _ l.lex (by omega)).mono ?_;rintro e w7 ⟨rfl,D⟩;rw [show ((a:Int)+S).toNat=a+S by omega,u.out]
 have z:=NHeld.call D l.lt l
 have H:=G.trans (D.mono G.size)
 go_wp2_with fail
 refine (dz _ _).mono ?_;rintro e w8 ⟨rfl,E⟩;rw [U.out]
 have t:=NHeld.call E z.lt z
 have T:=H.trans (E.mono H.size)
 have fk:=(T.cell (p:=⟨y.heap.size,5,none⟩) (by simp)).trans (nf y)
 clear D E z H G l c6 f n c3 a0 t0 t1 t2 t3 t4 t5 t6 T
 go_wp2_with fail
 refine (pL b s c (a+S) _ t.lex (by omega)).mono ?_;rintro e w9 ⟨i,N⟩
 have d:=NHeld.call N t.lt t
 rw [u.out] at i
 rw [<-Y.out] at i
 generalize R:dg M s.data.toList (a+S)=r at *
 have HR:=zq R
 clear R
 unfold dL bq at i;subst i
 have c9:=d.lex.ca
 have Q:=d.lt
 have a7:=d.lex.lt
 obtain ⟨u6,x0,x1,x2,x3,x4,x5,u0,u1,u2,u3,u4,u5⟩:=d.tok
 clear t N fk
 by_cases g:r.err=0
 ·have z1:(r.err != 0)=false:=by simp [g]
  have A:=X.out g
  have V:=zq g
  clear g
  go_wp2_with fail
  have a1:Hid (decide ((a:Int)<(a:Int)+S)=decide (a<a+S)):=by show _=_;rw [decide_eq_decide];omega
  refine aw (v:=cK ⟨r,decide ((a:Int)<(a:Int)+S),0⟩) ?_ rfl ⟨?_,cE d.only (ae _) _ _ _ _ _ _ _,_,cQ d.lex (by have:=d.blt;omega) _ _ _ _ _ _ _⟩
  ·simp [cK,results,cI,go_sem,u0,u1,u2,u3,u4,u5,V.out,Q]
  ·rw [A.out,<-a1.out];rfl
 ·have z1:(r.err != 0)=true:=by simp [g]
  have A:=W.out r.err g rfl
  clear g
  go_wp2_with fail
  go_region
  go_wp2_with fail
  refine aw (v:=cK ⟨cY r.err,false,(a:Int)+S⟩) ?_ rfl ⟨?_,(cE d.only (ae _) _ _ _ _ _ _ _).drew,_,(cQ d.lex (by have:=d.blt;omega) _ _ _ _ _ _ _).drewN 1⟩
  ·simp [cK,cY,results,cI,go_sem,u0,u1,u2,u3,u4,u5,Q]
  ·rw [A.out];rfl
theorem uU (b:Nat) (s:ByteArray) (c:Int->Int) (a:Nat) (Z:Int) (w:au) (h:Lex w b s c Z) (ha:a<=s.size) (x:¬(a+cd ((ba c s.data.toList).drop a))=s.size) (C:¬ak (ba c s.data.toList) (a+cd ((ba c s.data.toList).drop a))=47) (F:cls (ak (ba c s.data.toList) (a+cd ((ba c s.data.toList).drop a)))=6) :
  aU am 54 #[ar (some ⟨b,0,none⟩),aa ab a] w fun e w'=>fC (bD (ba c s.data.toList) s.data.toList a) e/\Only b w w'/\∃q,Lex w' b s c q:=by
 have m:=NHeld.start h
 have b0:=h.lt
 have b3:=h.sz
 clear h
 have a3:Hid ((ba c s.data.toList).length=s.size):=by show _=_;rw [bL];simp
 have J:Hid (s.data.toList.length=s.size):=ci s
 have a4:=fQ ((ba c s.data.toList).drop a)
 rw [aN,a3.out] at a4
 generalize O:ba c s.data.toList=M at *
 have u:=zq O
 clear O
 generalize P:cd (M.drop a)=S at *
 have B:=zq P
 clear P
 have b1:((a:Int)+S==(s.size:Int))=false:=by simp;omega
 have W:Hid (∀e,¬e=0->(dg M s.data.toList (a+S)).err=e->Hid (bD M s.data.toList a=⟨cY e,false,a+S⟩)):=fun e i h=>by
  show bD M s.data.toList a=_
  unfold bD;simp only [B.out];rw [if_neg (by rw [J.out];exact x),if_neg (by rw [h];exact i),h];simp
 have X:Hid ((dg M s.data.toList (a+S)).err=0->Hid (bD M s.data.toList a=⟨dg M s.data.toList (a+S),decide (a<a+S),0⟩)):=fun h=>by
  show bD M s.data.toList a=_
  unfold bD;simp only [B.out];rw [if_neg (by rw [J.out];exact x),if_pos h]
 have hp:a+S<s.size:=by omega
 have a8:=zq x
 clear x
 have b2:(ak M (a+S)==47)=false:=by simp [C]
 have U:=zq F
 have Y:=zq (show dg M s.data.toList (a+S)=pl M (a+S) by unfold dg;rw [if_neg (fun h=>C h.1),F];rfl)
 clear C F
 go_enter fo,eW
 go_wp2_with fail
 refine (ik _ _ _ _ _ _ m.lex (by omega)).mono ?_;rintro e w1 ⟨rfl,K⟩;rw [aI,u.out,B.out]
 have j:=NHeld.call K m.lt m
 have c1:=j.lex.ca
 have f1:=j.lex.fr 257
 have a2:=j.lex.lt
 have k:=j.setAt (a+S)
 clear K m j
 go_wp2_with fail
 generalize a5:w1.setCell ⟨b,257,none⟩ (aa ab ((a:Int)+S))=I at *
 clear a5 c1 f1 a2
 have c2:=k.lex.ca
 have d2:=k.lex.c0
 go_quiet (fail)
 have f:=NHeld.call (dF (ap I.heap.size I) nq) k.lt k
 clear k c2 d2
 generalize a6:I.drewN nq=y at *
 clear a6
 have c3:=f.lex.ca
 obtain ⟨t6,v0,v1,v2,v3,v4,v5,t0,t1,t2,t3,t4,t5⟩:=f.tok
 have a9:=f.lt
 have a0:=f.lex.lt
 have n:=fun o=>NHeld.call ((ap y.heap.size y).alloc (ae _) o) f.lt f
 go_wp2_with fail
 refine (bE _ _ _ _ _ _ (n _).lex (by omega)).mono ?_;rintro e w6 ⟨rfl,L⟩;rw [show ((a:Int)+S).toNat=a+S by omega,u.out]
 have l:=NHeld.call L (n _).lt (n _)
 have c6:=l.lex.ca
 have G:=L
 go_wp2_with fail
 refine (bE _ _ _ _ _ _ l.lex (by omega)).mono ?_;rintro e w7 ⟨rfl,D⟩;rw [show ((a:Int)+S).toNat=a+S by omega,u.out]
 have z:=NHeld.call D l.lt l
 have H:=G.trans (D.mono G.size)
 go_wp2_with fail
 refine (dz _ _).mono ?_;rintro e w8 ⟨rfl,E⟩;rw [U.out]
 have t:=NHeld.call E z.lt z
 have T:=H.trans (E.mono H.size)
 have fk:=(T.cell (p:=⟨y.heap.size,6,none⟩) (by simp)).trans (rO y)
 clear D E z H G l c6 f n c3 a0 t0 t1 t2 t3 t4 t5 t6 T
 go_wp2_with fail
 refine (yP b s c (a+S) _ t.lex hp).mono ?_;rintro e w9 ⟨i,N⟩
 have d:=NHeld.call N t.lt t
 rw [u.out] at i
 rw [<-Y.out] at i
 generalize R:dg M s.data.toList (a+S)=r at *
 have HR:=zq R
 clear R
 unfold dL bq at i;subst i
 have c9:=d.lex.ca
 have Q:=d.lt
 have a7:=d.lex.lt
 obtain ⟨u6,x0,x1,x2,x3,x4,x5,u0,u1,u2,u3,u4,u5⟩:=d.tok
 clear t N fk
 by_cases g:r.err=0
 ·have z1:(r.err != 0)=false:=by simp [g]
  have A:=X.out g
  have V:=zq g
  clear g
  go_wp2_with fail
  have a1:Hid (decide ((a:Int)<(a:Int)+S)=decide (a<a+S)):=by show _=_;rw [decide_eq_decide];omega
  refine aw (v:=cK ⟨r,decide ((a:Int)<(a:Int)+S),0⟩) ?_ rfl ⟨?_,cE d.only (ae _) _ _ _ _ _ _ _,_,cQ d.lex (by have:=d.blt;omega) _ _ _ _ _ _ _⟩
  ·simp [cK,results,cI,go_sem,u0,u1,u2,u3,u4,u5,V.out,Q]
  ·rw [A.out,<-a1.out];rfl
 ·have z1:(r.err != 0)=true:=by simp [g]
  have A:=W.out r.err g rfl
  clear g
  go_wp2_with fail
  go_region
  go_wp2_with fail
  refine aw (v:=cK ⟨cY r.err,false,(a:Int)+S⟩) ?_ rfl ⟨?_,(cE d.only (ae _) _ _ _ _ _ _ _).drew,_,(cQ d.lex (by have:=d.blt;omega) _ _ _ _ _ _ _).drewN 1⟩
  ·simp [cK,cY,results,cI,go_sem,u0,u1,u2,u3,u4,u5,Q]
  ·rw [A.out];rfl
theorem uT (b:Nat) (s:ByteArray) (c:Int->Int) (a:Nat) (Z:Int) (w:au) (h:Lex w b s c Z) (ha:a<=s.size) (x:¬(a+cd ((ba c s.data.toList).drop a))=s.size) (C:¬ak (ba c s.data.toList) (a+cd ((ba c s.data.toList).drop a))=47) (F:cls (ak (ba c s.data.toList) (a+cd ((ba c s.data.toList).drop a)))=7) :
  aU am 54 #[ar (some ⟨b,0,none⟩),aa ab a] w fun e w'=>fC (bD (ba c s.data.toList) s.data.toList a) e/\Only b w w'/\∃q,Lex w' b s c q:=by
 have m:=NHeld.start h
 have b0:=h.lt
 have b3:=h.sz
 clear h
 have a3:Hid ((ba c s.data.toList).length=s.size):=by show _=_;rw [bL];simp
 have J:Hid (s.data.toList.length=s.size):=ci s
 have a4:=fQ ((ba c s.data.toList).drop a)
 rw [aN,a3.out] at a4
 generalize O:ba c s.data.toList=M at *
 have u:=zq O
 clear O
 generalize P:cd (M.drop a)=S at *
 have B:=zq P
 clear P
 have b1:((a:Int)+S==(s.size:Int))=false:=by simp;omega
 have W:Hid (∀e,¬e=0->(dg M s.data.toList (a+S)).err=e->Hid (bD M s.data.toList a=⟨cY e,false,a+S⟩)):=fun e i h=>by
  show bD M s.data.toList a=_
  unfold bD;simp only [B.out];rw [if_neg (by rw [J.out];exact x),if_neg (by rw [h];exact i),h];simp
 have X:Hid ((dg M s.data.toList (a+S)).err=0->Hid (bD M s.data.toList a=⟨dg M s.data.toList (a+S),decide (a<a+S),0⟩)):=fun h=>by
  show bD M s.data.toList a=_
  unfold bD;simp only [B.out];rw [if_neg (by rw [J.out];exact x),if_pos h]
 have hp:a+S<s.size:=by omega
 have a8:=zq x
 clear x
 have b2:(ak M (a+S)==47)=false:=by simp [C]
 have U:=zq F
 have Y:=zq (show dg M s.data.toList (a+S)=gR M s.data.toList (a+S) by unfold dg;rw [if_neg (fun h=>C h.1),F];rfl)
 clear C F
 go_enter fo,eW
 go_wp2_with fail
 refine (ik _ _ _ _ _ _ m.lex (by omega)).mono ?_;rintro e w1 ⟨rfl,K⟩;rw [aI,u.out,B.out]
 have j:=NHeld.call K m.lt m
 have c1:=j.lex.ca
 have f1:=j.lex.fr 257
 have a2:=j.lex.lt
 have k:=j.setAt (a+S)
 clear K m j
 go_wp2_with fail
 generalize a5:w1.setCell ⟨b,257,none⟩ (aa ab ((a:Int)+S))=I at *
 clear a5 c1 f1 a2
 have c2:=k.lex.ca
 have d2:=k.lex.c0
 go_quiet (fail)
 have f:=NHeld.call (dF (ap I.heap.size I) nq) k.lt k
 clear k c2 d2
 generalize a6:I.drewN nq=y at *
 clear a6
 have c3:=f.lex.ca
 obtain ⟨t6,v0,v1,v2,v3,v4,v5,t0,t1,t2,t3,t4,t5⟩:=f.tok
 have a9:=f.lt
 have a0:=f.lex.lt
 have n:=fun o=>NHeld.call ((ap y.heap.size y).alloc (ae _) o) f.lt f
 go_wp2_with fail
 refine (bE _ _ _ _ _ _ (n _).lex (by omega)).mono ?_;rintro e w6 ⟨rfl,L⟩;rw [show ((a:Int)+S).toNat=a+S by omega,u.out]
 have l:=NHeld.call L (n _).lt (n _)
 have c6:=l.lex.ca
 have G:=L
 go_wp2_with fail
 refine (bE _ _ _ _ _ _ l.lex (by omega)).mono ?_;rintro e w7 ⟨rfl,D⟩;rw [show ((a:Int)+S).toNat=a+S by omega,u.out]
 have z:=NHeld.call D l.lt l
 have H:=G.trans (D.mono G.size)
 go_wp2_with fail
 refine (dz _ _).mono ?_;rintro e w8 ⟨rfl,E⟩;rw [U.out]
 have t:=NHeld.call E z.lt z
 have T:=H.trans (E.mono H.size)
 have fk:=(T.cell (p:=⟨y.heap.size,7,none⟩) (by simp)).trans (rN y)
 clear D E z H G l c6 f n c3 a0 t0 t1 t2 t3 t4 t5 t6 T
 go_wp2_with fail
 refine (xq b s c (a+S) _ t.lex hp).mono ?_;rintro e w9 ⟨i,N⟩
 have d:=NHeld.call N t.lt t
 rw [u.out] at i
 rw [<-Y.out] at i
 generalize R:dg M s.data.toList (a+S)=r at *
 have HR:=zq R
 clear R
 unfold dL bq at i;subst i
 have c9:=d.lex.ca
 have Q:=d.lt
 have a7:=d.lex.lt
 obtain ⟨u6,x0,x1,x2,x3,x4,x5,u0,u1,u2,u3,u4,u5⟩:=d.tok
 clear t N fk
 by_cases g:r.err=0
 ·have z1:(r.err != 0)=false:=by simp [g]
  have A:=X.out g
  have V:=zq g
  clear g
  go_wp2_with fail
  have a1:Hid (decide ((a:Int)<(a:Int)+S)=decide (a<a+S)):=by show _=_;rw [decide_eq_decide];omega
  refine aw (v:=cK ⟨r,decide ((a:Int)<(a:Int)+S),0⟩) ?_ rfl ⟨?_,cE d.only (ae _) _ _ _ _ _ _ _,_,cQ d.lex (by have:=d.blt;omega) _ _ _ _ _ _ _⟩
  ·simp [cK,results,cI,go_sem,u0,u1,u2,u3,u4,u5,V.out,Q]
  ·rw [A.out,<-a1.out];rfl
 ·have z1:(r.err != 0)=true:=by simp [g]
  have A:=W.out r.err g rfl
  clear g
  go_wp2_with fail
  go_region
  go_wp2_with fail
  refine aw (v:=cK ⟨cY r.err,false,(a:Int)+S⟩) ?_ rfl ⟨?_,(cE d.only (ae _) _ _ _ _ _ _ _).drew,_,(cQ d.lex (by have:=d.blt;omega) _ _ _ _ _ _ _).drewN 1⟩
  ·simp [cK,cY,results,cI,go_sem,u0,u1,u2,u3,u4,u5,Q]
  ·rw [A.out];rfl
theorem pN (b:Nat) (s:ByteArray) (c:Int->Int) (a:Nat) (a0:Int) (w:au) (h:Lex w b s c a0) (ha:a<=s.size) (y:¬(a+cd ((ba c s.data.toList).drop a))=s.size) (z:ak (ba c s.data.toList) (a+cd ((ba c s.data.toList).drop a))=47) (E:¬ak (ba c s.data.toList) ((a+cd ((ba c s.data.toList).drop a))+1)=42) :
  aU am 54 #[ar (some ⟨b,0,none⟩),aa ab a] w fun e w'=>fC (bD (ba c s.data.toList) s.data.toList a) e/\Only b w w'/\∃q,Lex w' b s c q:=by
 have n:=NHeld.start h
 have b4:=h.lt
 have b5:=h.sz
 clear h
 have a4:Hid ((ba c s.data.toList).length=s.size):=by show _=_;rw [bL];simp
 have L:Hid (s.data.toList.length=s.size):=ci s
 have a5:=fQ ((ba c s.data.toList).drop a)
 rw [aN,a4.out] at a5
 generalize Q:ba c s.data.toList=M at *
 have m:=zq Q
 clear Q
 generalize R:cd (M.drop a)=S at *
 have D:=zq R
 clear R
 have b1:((a:Int)+S==(s.size:Int))=false:=by simp;omega
 have Y:Hid (∀e,¬e=0->(dg M s.data.toList (a+S)).err=e->Hid (bD M s.data.toList a=⟨cY e,false,a+S⟩)):=fun e i h=>by
  show bD M s.data.toList a=_
  unfold bD;simp only [D.out];rw [if_neg (by rw [L.out];exact y),if_neg (by rw [h];exact i),h];simp
 have Z:Hid ((dg M s.data.toList (a+S)).err=0->Hid (bD M s.data.toList a=⟨dg M s.data.toList (a+S),decide (a<a+S),0⟩)):=fun h=>by
  show bD M s.data.toList a=_
  unfold bD;simp only [D.out];rw [if_neg (by rw [L.out];exact y),if_pos h]
 have hp:a+S<s.size:=by omega
 have a9:=zq y
 clear y
 have b2:(ak M (a+S)==47)=true:=by simp [z]
 have b3:(ak M (a+S+1)==42)=false:=by simp [E]
 have W:Hid (cls (ak M (a+S))=5):=by show _=_;rw [z];decide
 have HT:=zq (show dg M s.data.toList (a+S)=km M (a+S) by unfold dg;rw [if_neg (fun h=>E h.2),z];rfl)
 clear z E
 go_enter fo,eW
 go_wp2_with fail
 refine (ik _ _ _ _ _ _ n.lex (by omega)).mono ?_;rintro e w1 ⟨rfl,N⟩;rw [aI,m.out,D.out]
 have j:=NHeld.call N n.lt n
 have c1:=j.lex.ca
 have f1:=j.lex.fr 257
 have a3:=j.lex.lt
 have k:=j.setAt (a+S)
 clear N n j
 go_wp2_with fail
 generalize a6:w1.setCell ⟨b,257,none⟩ (aa ab ((a:Int)+S))=K at *
 clear a6 c1 f1 a3
 have c2:=k.lex.ca
 have d2:=k.lex.c0
 go_quiet (fail)
 have f:=NHeld.call (dF (ap K.heap.size K) nq) k.lt k
 clear k c2 d2
 generalize a7:K.drewN nq=A at *
 clear a7
 have c3:=f.lex.ca
 obtain ⟨t6,v0,v1,v2,v3,v4,v5,t0,t1,t2,t3,t4,t5⟩:=f.tok
 have b0:=f.lt
 have a1:=f.lex.lt
 have t:=fun o=>NHeld.call ((ap A.heap.size A).alloc (ae _) o) f.lt f
 go_wp2_with fail
 refine (bE _ _ _ _ _ _ (t _).lex (by omega)).mono ?_;rintro e w5 ⟨rfl,F⟩;rw [show ((a:Int)+S).toNat=a+S by omega,m.out]
 have u:=NHeld.call F (t _).lt (t _)
 have c5:=u.lex.ca
 have r5:=F
 go_wp2_with fail
 refine (bE _ _ _ _ _ _ u.lex (by omega)).mono ?_;rintro e w6 ⟨rfl,O⟩;rw [show ((a:Int)+S+1).toNat=a+S+1 by omega,m.out]
 have l:=NHeld.call O u.lt u
 have c6:=l.lex.ca
 have I:=r5.trans (O.mono F.size)
 go_wp2_with fail
 refine (bE _ _ _ _ _ _ l.lex (by omega)).mono ?_;rintro e w7 ⟨rfl,G⟩;rw [show ((a:Int)+S).toNat=a+S by omega,m.out]
 have B:=NHeld.call G l.lt l
 have J:=I.trans (G.mono I.size)
 go_wp2_with fail
 refine (dz _ _).mono ?_;rintro e w8 ⟨rfl,H⟩;rw [W.out]
 have x:=NHeld.call H B.lt B
 have V:=J.trans (H.mono J.size)
 have fk:=(V.cell (p:=⟨A.heap.size,5,none⟩) (by simp)).trans (nf A)
 clear G H B J I l c6 f t c3 a1 t0 t1 t2 t3 t4 t5 t6 V
 go_wp2_with fail
 refine (pL b s c (a+S) _ x.lex (by omega)).mono ?_;rintro e w9 ⟨i,P⟩
 have d:=NHeld.call P x.lt x
 rw [m.out] at i
 rw [<-HT.out] at i
 generalize U:dg M s.data.toList (a+S)=r at *
 have HR:=zq U
 clear U
 unfold dL bq at i;subst i
 have c9:=d.lex.ca
 have T:=d.lt
 have a8:=d.lex.lt
 obtain ⟨u6,x0,x1,x2,x3,x4,x5,u0,u1,u2,u3,u4,u5⟩:=d.tok
 clear x P fk
 by_cases g:r.err=0
 ·have z1:(r.err != 0)=false:=by simp [g]
  have C:=Z.out g
  have X:=zq g
  clear g
  go_wp2_with fail
  have a2:Hid (decide ((a:Int)<(a:Int)+S)=decide (a<a+S)):=by show _=_;rw [decide_eq_decide];omega
  refine aw (v:=cK ⟨r,decide ((a:Int)<(a:Int)+S),0⟩) ?_ rfl ⟨?_,cE d.only (ae _) _ _ _ _ _ _ _,_,cQ d.lex (by have:=d.blt;omega) _ _ _ _ _ _ _⟩
  ·simp [cK,results,cI,go_sem,u0,u1,u2,u3,u4,u5,X.out,T]
  ·rw [C.out,<-a2.out];rfl
 ·have z1:(r.err != 0)=true:=by simp [g]
  have C:=Y.out r.err g rfl
  clear g
  go_wp2_with fail
  go_region
  go_wp2_with fail
  refine aw (v:=cK ⟨cY r.err,false,(a:Int)+S⟩) ?_ rfl ⟨?_,(cE d.only (ae _) _ _ _ _ _ _ _).drew,_,(cQ d.lex (by have:=d.blt;omega) _ _ _ _ _ _ _).drewN 1⟩
  ·simp [cK,cY,results,cI,go_sem,u0,u1,u2,u3,u4,u5,T]
  ·rw [C.out];rfl
theorem yQ (b:Nat) (s:ByteArray) (c:Int->Int) (a:Nat) (f:Int) (w:au) (h:Lex w b s c f) (i:a<=s.size) :
  aU am 54 #[ar (some ⟨b,0,none⟩),aa ab a] w fun e w'=>fC (bD (ba c s.data.toList) s.data.toList a) e/\Only b w w'/\∃q,Lex w' b s c q:=by
 by_cases g:(a+cd ((ba c s.data.toList).drop a))=s.size
 ·exact sk b s c a f w h i g
 by_cases j:ak (ba c s.data.toList) (a+cd ((ba c s.data.toList).drop a))=47
 ·by_cases k:ak (ba c s.data.toList) ((a+cd ((ba c s.data.toList).drop a))+1)=42
  ·exact qv b s c a f w h i g ⟨j,k⟩
  ·exact pN b s c a f w h i g j k
 have m:=BE (ak (ba c s.data.toList) (a+cd ((ba c s.data.toList).drop a)))
 have n:=BF (ak (ba c s.data.toList) (a+cd ((ba c s.data.toList).drop a)))
 have l:cls (ak (ba c s.data.toList) (a+cd ((ba c s.data.toList).drop a)))=0\/cls (ak (ba c s.data.toList) (a+cd ((ba c s.data.toList).drop a)))=1\/cls (ak (ba c s.data.toList) (a+cd ((ba c s.data.toList).drop a)))=2\/cls (ak (ba c s.data.toList) (a+cd ((ba c s.data.toList).drop a)))=3\/cls (ak (ba c s.data.toList) (a+cd ((ba c s.data.toList).drop a)))=4\/cls (ak (ba c s.data.toList) (a+cd ((ba c s.data.toList).drop a)))=5\/cls (ak (ba c s.data.toList) (a+cd ((ba c s.data.toList).drop a)))=6\/cls (ak (ba c s.data.toList) (a+cd ((ba c s.data.toList).drop a)))=7\/cls (ak (ba c s.data.toList) (a+cd ((ba c s.data.toList).drop a)))=8:=by omega
 rcases l with d | d | d | d | d | d | d | d | d
 ·exact vb b s c a f w h i g j d
 ·exact uZ b s c a f w h i g j d
 ·exact uY b s c a f w h i g j d
 ·exact uX b s c a f w h i g j d
 ·exact uW b s c a f w h i g j d
 ·exact uV b s c a f w h i g j d
 ·exact uU b s c a f w h i g j d
 ·exact uT b s c a f w h i g j d
 ·exact uS b s c a f w h i g j d
theorem fb (c:Int) (b:Bool) (h:iM c=b) (w:au) :
  aU am 84 #[aa ab c] w fun e w'=>e=aD (av b)/\w=w':=by subst h;exact mc c w
theorem fZ (c:Int) (b:Bool) (h:iM c=b) (w:au) :
  aU am 102 #[aa ab c] w fun e w'=>e=aD (av b)/\w=w':=by subst h;exact ye c w
theorem ma (A:Option Addr) (n C:Nat) (l:List (Int×Int)) (w:au) (t:n=l.length) (E:n<=bF) (u:Pairs w A l) :
  aU am 52 #[.slice A n C] w fun e w'=>e=aD (av (gq l))/\aB w.heap.size w w':=by
 unfold bF at E
 have r:=zq t
 clear t
 have s:=zq u
 clear u
 go_enter Tryz.func52,Tryz.ntmps52
 go_wp2
 go_loopw [7] (fun i wr=>∃k:Nat,k<=n/\i=aa ab k/\aB w.heap.size w wr/\Hid (∀j,j<k->kE l j=true)) (fun i _=>n-(intOf i).toNat)
 case atStart=>exact ⟨0,bc _,rfl,ap _ _,fun j m=>absurd m (by omega)⟩
 case round=>
  obtain ⟨k,H,rfl,f,p⟩:=hrel
  by_cases I:k<n
  ·have J:=f.size
   have o:k<l.length:=by have:=r.out;omega
   obtain ⟨b,K,rfl,G,y,z⟩:=(s.out.below f) k o
   rw [li _ _ o] at y
   rw [ng _ _ o] at z
   have g:=zq (qR l k o)
   cases q1:iM (mt l k)
   ·have a:=zq q1
    have c:=zq (yI l k q1)
    clear q1
    go_wp2
    go_quiet ((go_at_call 84;first | with_reducible exact fh (fb _ _ a.out _) | with_reducible exact fh (fb _ _ d.out _)))
    go_wp2
    go_ret
    exact ⟨bY (g.out c.out).symm,dF (f.alloc (by omega) _) _⟩
   have a:=zq q1
   clear q1
   cases q2:iM (mm l k)
   ·have d:=zq q2
    have c:=zq (yH l k a.out q2)
    clear q2
    go_wp2
    go_quiet ((go_at_call 84;first | with_reducible exact fh (fb _ _ a.out _) | with_reducible exact fh (fb _ _ d.out _)))
    go_wp2
    go_ret
    exact ⟨bY (g.out c.out).symm,dF (f.alloc (by omega) _) _⟩
   have d:=zq q2
   clear q2
   cases q3:(mt l k==mm l k)
   ·by_cases D:0<k
    ·obtain ⟨F,L,q,_,B,_⟩:=(s.out.below f) (k-1) (by omega)
     injection q with q
     injection q with e1 e2
     subst e1 e2
     rw [li _ _ (by omega)] at B
     by_cases v:mt l (k-1)<mt l k
     ·have c:=zq (yE l k a.out d.out q3 v)
      go_wp2
      go_quiet ((go_at_call 84;first | with_reducible exact fh (fb _ _ a.out _) | with_reducible exact fh (fb _ _ d.out _)))
      go_wp2
      go_roundw
      case rel=>exact ⟨k+1,by omega,by go_num,dF (f.alloc (by omega) _) _,fun j m=>by
       rcases dn j k with h | h
       ·exact p.out j h
       ·have:j=k:=by omega
        subst this;exact c.out⟩
      case measure=>simp [intOf];omega
     ·have c:=zq (yD l k a.out d.out q3 D v)
      go_wp2
      go_quiet ((go_at_call 84;first | with_reducible exact fh (fb _ _ a.out _) | with_reducible exact fh (fb _ _ d.out _)))
      go_wp2
      go_ret
      exact ⟨bY (g.out c.out).symm,dF (f.alloc (by omega) _) _⟩
    ·have c:=zq (yF l k (by omega) a.out d.out q3)
     have hd:decide ((0:Int)<(k:Int))=false:=by simp;omega
     go_wp2
     go_quiet ((go_at_call 84;first | with_reducible exact fh (fb _ _ a.out _) | with_reducible exact fh (fb _ _ d.out _)))
     go_wp2
     go_roundw
     case rel=>exact ⟨k+1,by omega,by go_num,dF (f.alloc (by omega) _) _,fun j m=>by
      rcases dn j k with h | h
      ·exact p.out j h
      ·have:j=k:=by omega
       subst this;exact c.out⟩
     case measure=>simp [intOf];omega
   ·have c:=zq (yG l k a.out d.out q3)
    go_wp2
    go_quiet ((go_at_call 84;first | with_reducible exact fh (fb _ _ a.out _) | with_reducible exact fh (fb _ _ d.out _)))
    go_wp2
    go_ret
    exact ⟨bY (g.out c.out).symm,dF (f.alloc (by omega) _) _⟩
  ·have x:=zq (pC l (fun j m=>p.out j (by have:=r.out;omega)))
   go_wp2
   go_ret
   exact ⟨bY x.out.symm,f⟩
theorem pt (A:Option Addr) (n C:Nat) (l:List (Int×Int)) (w:au) (t:n=l.length) (E:n<=bF) (u:Pairs w A l) :
  aU am 62 #[.slice A n C] w fun e w'=>e=aD (av (gq l))/\aB w.heap.size w w':=by
 unfold bF at E
 have r:=zq t
 clear t
 have s:=zq u
 clear u
 go_enter Tryz.func62,Tryz.ntmps62
 go_wp2
 go_loopw [3] (fun i wr=>∃k:Nat,k<=n/\i=aa ab k/\aB w.heap.size w wr/\Hid (∀j,j<k->kE l j=true)) (fun i _=>n-(intOf i).toNat)
 case atStart=>exact ⟨0,bc _,rfl,ap _ _,fun j m=>absurd m (by omega)⟩
 case round=>
  obtain ⟨k,H,rfl,f,p⟩:=hrel
  by_cases I:k<n
  ·have J:=f.size
   have o:k<l.length:=by have:=r.out;omega
   obtain ⟨b,K,rfl,G,y,z⟩:=(s.out.below f) k o
   rw [li _ _ o] at y
   rw [ng _ _ o] at z
   have g:=zq (qR l k o)
   cases q1:iM (mt l k)
   ·have a:=zq q1
    have c:=zq (yI l k q1)
    clear q1
    go_wp2
    go_quiet ((go_at_call 102;first | with_reducible exact fh (fZ _ _ a.out _) | with_reducible exact fh (fZ _ _ d.out _)))
    go_wp2
    go_ret
    exact ⟨bY (g.out c.out).symm,dF f _⟩
   have a:=zq q1
   clear q1
   cases q2:iM (mm l k)
   ·have d:=zq q2
    have c:=zq (yH l k a.out q2)
    clear q2
    go_wp2
    go_quiet ((go_at_call 102;first | with_reducible exact fh (fZ _ _ a.out _) | with_reducible exact fh (fZ _ _ d.out _)))
    go_wp2
    go_ret
    exact ⟨bY (g.out c.out).symm,dF f _⟩
   have d:=zq q2
   clear q2
   cases q3:(mt l k==mm l k)
   ·by_cases D:0<k
    ·obtain ⟨F,L,q,_,B,_⟩:=(s.out.below f) (k-1) (by omega)
     injection q with q
     injection q with e1 e2
     subst e1 e2
     rw [li _ _ (by omega)] at B
     by_cases v:mt l (k-1)<mt l k
     ·have c:=zq (yE l k a.out d.out q3 v)
      go_wp2
      go_quiet ((go_at_call 102;first | with_reducible exact fh (fZ _ _ a.out _) | with_reducible exact fh (fZ _ _ d.out _)))
      go_wp2
      go_roundw
      case rel=>exact ⟨k+1,by omega,by go_num,dF f _,fun j m=>by
       rcases dn j k with h | h
       ·exact p.out j h
       ·have:j=k:=by omega
        subst this;exact c.out⟩
      case measure=>simp [intOf];omega
     ·have c:=zq (yD l k a.out d.out q3 D v)
      go_wp2
      go_quiet ((go_at_call 102;first | with_reducible exact fh (fZ _ _ a.out _) | with_reducible exact fh (fZ _ _ d.out _)))
      go_wp2
      go_ret
      exact ⟨bY (g.out c.out).symm,dF f _⟩
    ·have c:=zq (yF l k (by omega) a.out d.out q3)
     have hd:decide ((0:Int)<(k:Int))=false:=by simp;omega
     go_wp2
     go_quiet ((go_at_call 102;first | with_reducible exact fh (fZ _ _ a.out _) | with_reducible exact fh (fZ _ _ d.out _)))
     go_wp2
     go_roundw
     case rel=>exact ⟨k+1,by omega,by go_num,dF f _,fun j m=>by
      rcases dn j k with h | h
      ·exact p.out j h
      ·have:j=k:=by omega
       subst this;exact c.out⟩
     case measure=>simp [intOf];omega
   ·have c:=zq (yG l k a.out d.out q3)
    go_wp2
    go_quiet ((go_at_call 102;first | with_reducible exact fh (fZ _ _ a.out _) | with_reducible exact fh (fZ _ _ d.out _)))
    go_wp2
    go_ret
    exact ⟨bY (g.out c.out).symm,dF f _⟩
  ·have x:=zq (pC l (fun j m=>p.out j (by have:=r.out;omega)))
   go_wp2
   go_ret
   exact ⟨bY x.out.symm,f⟩
def gg (s:ByteArray) (a:Int):Array Value:=#[ac s]++Array.replicate 256 (aa ab 0) ++ #[aa ab a]
def yR (s:ByteArray) (a:Int):Value:=.agg (gg s a)
theorem tQ (s:ByteArray) (a:Int) (w:au):(Instr.build 134 #[(0,ac s),(2,aa ab a)]).run am w=.ok (yR s a) w:=by kernel_rfl
theorem xA (s:ByteArray) (a:Int) (w:au):(Instr.box 134 (yR s a)).run am w=.ok (ar (some ⟨w.heap.size,0,none⟩)) (w.alloc (.cells (gg s a) 134)):=by kernel_rfl
theorem mD {c:Array Oper} {d:List Oper} {o:Oper} {a:Act} {Q:Exit->Act->au->Prop} {w:au} (g:o.guard=none) (x y:Operand) (s:ByteArray) (b:Int)
  (j:o.op=.build 134 #[(0,x),(2,y)]) (k:a.eval x=ac s) (l:a.eval y=aa ab b)
  (h:cq am c Q d (a.put o.dst (yR s b)) w):cq am c Q (o::d) a w:=by
 refine wpList_plain g fun K f=>?_
 have e:(aL a.eval o).run am w=.ok (.value (yR s b)) w:=by
  unfold aL
  rw [j]
  have i:Array.map (fun x=>(x.fst,a.eval x.snd)) #[(0,x),(2,y)]=#[(0,ac s),(2,aa ab b)]:=by simp [k,l]
  simp only [i]
  rw [fE,tQ]
  rfl
 unfold Oper.wp
 rw [e]
 exact f _ _ h
theorem nH {c:Array Oper} {d:List Oper} {o:Oper} {a:Act} {Q:Exit->Act->au->Prop} {w:au} (g:o.guard=none) (x:Operand) (s:ByteArray) (b:Int)
  (i:o.op=.box 134 x) (j:a.eval x=yR s b)
  (h:cq am c Q d (a.put o.dst (ar (some ⟨w.heap.size,0,none⟩))) (w.alloc (.cells (gg s b) 134))):cq am c Q (o::d) a w:=by
 refine wpList_plain g fun K f=>?_
 have e:(aL a.eval o).run am w=.ok (.value (ar (some ⟨w.heap.size,0,none⟩))) (w.alloc (.cells (gg s b) 134)):=by
  unfold aL
  rw [i]
  simp only [j]
  rw [fE,xA]
  rfl
 unfold Oper.wp
 rw [e]
 exact f _ _ h
theorem nw (s:ByteArray) (a:Int):(gg s a)[0]? = some (ac s)/\(gg s a)[257]? = some (aa ab a):=by
 unfold gg
 constructor
 ·rw [eu (by simp),eu (by simp)];rfl
 ·rw [fH (by simp)];simp
structure LexP (w:au) (b:Nat) (s:ByteArray) (tab:Int->Int) (at_:Int):Prop where
 lt:b<w.heap.size
 c0:w.cell? ⟨b,0,none⟩=some (ac s)
 ct:∀c:Nat,c<256->w.cell? ⟨b,1+c,none⟩=some (aa ab (tab c))
 ca:w.cell? ⟨b,257,none⟩=some (aa ab at_)
 fr:∀o,w.frozen? ⟨b,o,none⟩=false
theorem tx (s:ByteArray) (a:Int) (c:Nat) (h:c<256):(gg s a)[1+c]? = some (aa ab 0):=by
 unfold gg
 rw [eu (by simp;omega),fH (by simp)]
 simp [Array.getElem?_replicate];omega
theorem LexP.start (w:au) (s:ByteArray) (a:Int) (t:TypeId):LexP (w.alloc (.cells (gg s a) t)) w.heap.size s (fun _=>0) a where
 lt:=by simp
 c0:=by rw [aF];exact (nw s a).1
 ct:=fun c d=>by rw [aF];exact tx s a c d
 ca:=by rw [aF];exact (nw s a).2
 fr:=fun o=>by
  have b:(w.alloc (.cells (gg s a) t)).heap[w.heap.size]? = some (.cells (gg s a) t):=by show (w.heap.push _)[w.heap.size]? = _;simp
  unfold World.frozen?;simp only [b];simp
theorem LexP.set {w:au} {b:Nat} {s:ByteArray} {f:Int->Int} {d:Int} (h:LexP w b s f d) (k:Nat) (i:k<256) (v:Int):LexP (w.setCell ⟨b,1+k,none⟩ (aa ab v)) b s (fun x=>if x=k then v else f x) d where
 lt:=by simp [World.setCell];exact h.lt
 c0:=(dj w _ _ _ (by intro a;injection a with _ h2 _;omega)).trans h.c0
 ct:=fun c e=>by
  by_cases g:c=k
  ·subst g
   rw [World.cell?_setCell_same w _ _ (h.ct c e)];simp
  ·rw [dj w _ _ _ (by intro a;injection a with _ h2 _;omega),h.ct c e]
   simp [show ¬((c:Int)=(k:Int)) by omega]
 ca:=(dj w _ _ _ (by intro a;injection a with _ h2 _;omega)).trans h.ca
 fr:=fun o=>(kh _ _ _ _).trans (h.fr o)
theorem LexP.same {w w':au} {b:Nat} {s:ByteArray} {e:Int->Int} {d:Int} (h:LexP w b s e d) (g:w.heap.size<=w'.heap.size) (a:w'.heap[b]? = w.heap[b]?):LexP w' b s e d where
 lt:=Nat.lt_of_lt_of_le h.lt g
 c0:=(bd (w:=w) a).trans h.c0
 ct:=fun c f=>(bd (w:=w) a).trans (h.ct c f)
 ca:=(bd (w:=w) a).trans h.ca
 fr:=fun o=>(World.frozen?_of_block (w:=w) a).trans (h.fr o)
theorem LexP.congr {w:au} {b:Nat} {s:ByteArray} {d f:Int->Int} {at_:Int} (h:LexP w b s d at_) (e:∀c:Nat,c<256->d c=f c):LexP w b s f at_ :=
 ⟨h.lt,h.c0,fun c a=>by rw [h.ct c a,e c a],h.ca,h.fr⟩
theorem LexP.lex {w:au} {b:Nat} {s:ByteArray} {a:Int->Int} {at_:Int} (h:LexP w b s a at_) (d:s.size<=16384) (c:ex a):Lex w b s a at_:=⟨h.lt,h.c0,h.ct,h.ca,h.fr,d,c⟩
theorem mV (l:List (Int×Int)) (k:Nat) (h:k<l.length) (c:Int):fj (l.take (k+1)) c=if mt l k=c then mm l k else fj (l.take k) c:=by
 unfold fj
 rw [List.take_succ_eq_append_getElem h,List.foldl_append]
 simp only [List.foldl_cons,List.foldl_nil]
 rw [li _ _ h,ng _ _ h]
theorem pX (l:List (Int×Int)) (h:∀j,j<l.length->0<=mm l j/\mm l j<=255):∀k,k<=l.length->ex (fj (l.take k))
 | 0,_=>fun c a b=>by simp [fj];omega
 | k+1,hk=>fun c a b=>by
  rw [mV l k (by omega)]
  split
  ·exact h k (by omega)
  ·exact pX l h k (by omega) c a b
def mN (s:ByteArray) (a:Int) (l:List (Int×Int)):Prop:=s.size<=16384/\0<=a/\a<=s.size/\gq l=true
theorem tw (s:ByteArray) (a:Int) (A:Option Addr) (n h:Nat) (l:List (Int×Int)) (w:au) (m:n=l.length) (x:n<=bF) (y:s.size<=bF) (o:Pairs w A l) (f:¬mN s a l) :
  aU am 53 #[ac s,aa ab a,.slice A n h] w fun e w'=>e=aD (.tuple #[ar none,av false])/\aB w.heap.size w w':=by
 unfold bF at y
 have hd:(16384:Int)<s.size\/((s.size:Int)<=16384/\a<0)\/((s.size:Int)<=16384/\0<=a/\(s.size:Int)<a)\/((s.size:Int)<=16384/\0<=a/\a<=s.size/\gq l=false):=by
  unfold mN at f
  by_cases r:s.size<=16384
  ·by_cases b:0<=a
   ·by_cases g:a<=s.size
    ·refine .inr (.inr (.inr ⟨by omega,b,g,?_⟩))
     cases hv:gq l
     ·rfl
     ·exact absurd ⟨r,b,g,hv⟩ f
    ·exact .inr (.inr (.inl ⟨by omega,b,by omega⟩))
   ·exact .inr (.inl ⟨by omega,by omega⟩)
  ·exact .inl (by omega)
 have q:=zq (ma A n h l w m x o)
 clear m o f
 rcases hd with c | ⟨c,i⟩ | ⟨c,i,t⟩ | ⟨c,i,t,j⟩
 ·have d:decide (16384<s.size)=true:=by simp;omega
  go_enter Tryz.func53,Tryz.ntmps53
  go_wp2_with fail
  go_ret2
  exact ⟨rfl,ap _ _⟩
 ·have d:decide (16384<s.size)=false:=by simp;omega
  have k:decide (a<0)=true:=by simp;omega
  go_enter Tryz.func53,Tryz.ntmps53
  go_wp2_with fail
  go_ret2
  exact ⟨rfl,ap _ _⟩
 ·have d:decide (16384<s.size)=false:=by simp;omega
  have k:decide (a<0)=false:=by simp;omega
  have u:decide ((s.size:Int)<a)=true:=by simp;omega
  go_enter Tryz.func53,Tryz.ntmps53
  go_wp2_with fail
  go_ret2
  exact ⟨rfl,ap _ _⟩
 ·have d:decide (16384<s.size)=false:=by simp;omega
  have k:decide (a<0)=false:=by simp;omega
  have u:decide ((s.size:Int)<a)=false:=by simp;omega
  have p:=zq j
  clear j
  go_enter Tryz.func53,Tryz.ntmps53
  go_wp2_with fail
  refine q.out.mono ?_;rintro e z ⟨rfl,v⟩;rw [p.out]
  go_wp2_with fail
  go_ret2
  exact ⟨rfl,v⟩
theorem sj (s:ByteArray) (at_:Int) (A:Option Addr) (n G:Nat) (l:List (Int×Int)) (w:au) (z:n=l.length) (L:n<=bF) (C:Pairs w A l) (ho:mN s at_ l) :
  aU am 53 #[ac s,aa ab at_,.slice A n G] w fun e w'=>∃b,e=aD (.tuple #[ar (some ⟨b,0,none⟩),av true])/\w.heap.size<=b/\aB w.heap.size w w'/\Lex w' b s (fj l) at_:=by
 obtain ⟨Y,d2,d3,H⟩:=ho
 have e1:decide (16384<s.size)=false:=by simp;omega
 have e2:decide (at_<0)=false:=by simp;omega
 have e3:decide ((s.size:Int)<at_)=false:=by simp;omega
 have R:=zq (ma A n G l w z L C)
 have Q:=zq C
 have E:=zq z
 have D:=zq H
 unfold bF at L
 have J:Hid (∀j,j<l.length->(0<=mt l j/\mt l j<=255)/\0<=mm l j/\mm l j<=255):=fun j v=>by
  have:=nU l D.out j v
  unfold kE at this
  simp only [Bool.and_eq_true] at this
  exact ⟨(iG _).1 this.1,(iG _).1 this.2.1⟩
 clear z C H
 go_enter Tryz.func53,Tryz.ntmps53
 go_wp2_with fail
 refine R.out.mono ?_;rintro e g ⟨rfl,q⟩;rw [D.out]
 go_wp2_with (first | (refine mD rfl _ _ s at_ rfl rfl rfl ?_) | (refine nH rfl _ s at_ rfl rfl ?_))
 have T:=LexP.start g s at_ 134
 have a0:=q.trans (((ap g.heap.size g).alloc (ae _) (.cells (gg s at_) 134)).mono q.size)
 have u:=q.size
 generalize a4:g.alloc (.cells (gg s at_) 134)=w2 at *
 generalize a2:g.heap.size=b at *
 clear a4 a2 q
 go_loopw [34] (fun i wr=>∃k:Nat,k<=256/\i=aa ab k/\aB w.heap.size w wr/\LexP wr b s (fun x=>if x<k then x else 0) at_) (fun i _=>256-(intOf i).toNat)
 case atStart=>exact ⟨0,bc _,rfl,a0,T.congr fun c _=>by rw [if_neg (by omega)]⟩
 case round=>
  obtain ⟨k,hk,rfl,I,d⟩:=hrel
  by_cases K:k<256
  ·have X:=d.ct k K
   have Z:=d.fr (1+k)
   have a3:=d.lt
   have a:=d.set k K k
   go_wp2_with fail
   go_roundw
   case rel=>exact ⟨k+1,by omega,by go_num,I.setCell (p:=⟨b,_,none⟩) u _,a.congr fun c _=>by grind⟩
   case measure=>simp [intOf];omega
  ·obtain rfl:k=256:=by omega
   have V:LexP wr b s (fj (l.take 0)) at_:=d.congr fun c hc=>by rw [if_pos (by omega)];rfl
   clear d
   go_wp2_with fail
   go_loopw [46] (fun i O=>∃k:Nat,k<=n/\i=aa ab k/\aB w.heap.size w O/\LexP O b s (fj (l.take k)) at_) (fun i _=>n-(intOf i).toNat)
   case atStart=>exact ⟨0,bc _,rfl,I,V⟩
   case round=>
    obtain ⟨k,hk,rfl,r,a⟩:=hrel
    by_cases a8:k<n
    ·have f:k<l.length:=by have:=E.out;omega
     obtain ⟨b',a9,rfl,a6,F,W⟩:=(Q.out.below r) k f
     rw [li _ _ f] at F
     rw [ng _ _ f] at W
     obtain ⟨⟨N,q1⟩,q2,q3⟩:=J.out k f
     obtain ⟨m,y⟩:=Int.eq_ofNat_of_zero_le N
     rw [y] at F
     have M:m<256:=by omega
     have t:=zq (mV l k f)
     have S:=zq y
     clear N q1 y
     go_wp2_with fail
     have o:=(ap wr.heap.size wr).alloc (ae _) (.cells #[aa ab m,aa ab (mm l k)] 131)
     have h:=a.same o.size (o.block b a.lt)
     have a1:=r.trans (o.mono r.size)
     have g0:(wr.alloc (.cells #[aa ab m,aa ab (mm l k)] 131)).cell? ⟨wr.heap.size,0,none⟩=some (aa ab m):=by rw [aF];rfl
     have g1:(wr.alloc (.cells #[aa ab m,aa ab (mm l k)] 131)).cell? ⟨wr.heap.size,1,none⟩=some (aa ab (mm l k)):=by rw [aF];rfl
     generalize a5:wr.alloc (.cells #[aa ab m,aa ab (mm l k)] 131)=w4 at *
     clear a5 o a
     have X:=h.ct m M
     have Z:=h.fr (1+m)
     have a3:=h.lt
     have U:=h.set m M (mm l k)
     go_region
     go_wp2_with fail
     go_roundw
     case rel=>exact ⟨k+1,by omega,by go_num,(a1.setCell (p:=⟨b,_,none⟩) u _).drew,(U.congr fun c _=>by rw [t.out,S.out];grind).same (ae _) rfl⟩
     case measure=>simp [intOf];omega
    ·have a7:k=l.length:=by have:=E.out;omega
     have t:=zq (show l.take k=l from List.take_of_length_le (by omega))
     rw [t.out] at a
     have B:=pX l (fun j v=>(J.out j v).2) l.length (ae _)
     rw [List.take_length] at B
     have P:=zq B
     clear B
     go_wp2_with fail
     go_ret2
     exact ⟨b,rfl,u,r,a.lex Y P.out⟩
def ll (L:List UInt8) (a:Int) (b:List (Int×Int)):Bool:=decide (L.length<=16384)&&(decide (0<=a)&&(decide (a<=L.length)&&gq b))
theorem mP (s:ByteArray) (a:Int) (conv:List (Int×Int)):ll s.data.toList a conv=true↔mN s a conv:=by
 unfold ll mN;rw [ci];simp
end Go.Proofs.YtbojljpldcijgaaGreat
