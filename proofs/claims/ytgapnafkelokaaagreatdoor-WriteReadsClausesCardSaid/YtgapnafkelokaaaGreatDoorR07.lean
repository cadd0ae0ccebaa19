/- Parts of the proof. -/
import Derived.Test.YtgapnafkelokaaaGreatDoorR01
import Derived.Test.YtgapnafkelokaaaGreatDoorR05
set_option maxRecDepth 100000
open List renaming getElem_of_mem -> dO
namespace Go.Proofs.YtgapnafkelokaaaGreatDoor
open Go.RowKit Hb
theorem cJ {P:Program} {b:Array Oper} {C:World->Prop} {Q:Act->Prop} {a:Act} {o:Oper} {rest:List Oper} (d:Region.wanted o (yielded b a.tmps)=true) (h:∀K:Act->Prop,(∀a,wpQuiet P b C Q rest a->K a)->o.quiet P a C K):wpQuiet P b C Q (o::rest) a :=
 wpQuiet_step fun K c=>by rw [if_pos d];exact h K c
theorem iN {P:Program} {b:Array Oper} {C:World->Prop} {Q:Act->Prop} {a:Act} {o:Oper} {rest:List Oper} (d:Region.wanted o (yielded b a.tmps)=false) (h:wpQuiet P b C Q rest (a.put o.dst undef)):wpQuiet P b C Q (o::rest) a :=
 wpQuiet_step fun K c=>by rw [if_neg (by rw [d];simp)];exact c _ h
end Go.Proofs.YtgapnafkelokaaaGreatDoor
namespace Hb
open Go Go.RowKit
theorem nX {l:List OpR} (h:Ai l) {i j:Nat} (b:j<l.length) (a:i<j):fp (l[i]'(by omega)) l[j]=true:=(List.pairwise_iff_getElem.1 h) i j (by omega) b a
theorem uC {a b:OpR} (h:fp a b=true):a.name.toList<=b.name.toList:=by
 rw [lS] at h
 rcases h with h | ⟨h,_⟩
 ·exact List.le_of_lt h
 ·rw [h];exact List.le_refl _
theorem vZ {a b:OpR} (h:fp a b=true) (c:a.name.toList=b.name.toList):cO a.typ<cO b.typ:=by
 rw [lS] at h
 rcases h with h | ⟨_,h⟩
 ·rw [c] at h;exact absurd h (List.lt_irrefl _)
 ·exact h
def KW (l:List OpR):Prop:=∀a∈l,∀b∈l,a.name.toList=b.name.toList->¬(cO a.typ=2/\cO b.typ=3)
theorem xK {l:List OpR} (h:bF l=true):KW l:=by
 intro a n b o d ⟨h2,h3⟩
 have e:=uO h
 obtain ⟨i,q,rfl⟩:=dO n
 obtain ⟨j,m,rfl⟩:=dO o
 rcases Nat.lt_trichotomy i j with c | c | c
 ·rcases Nat.eq_or_lt_of_le (show i+1<=j from c) with p | r
  ·subst p
   have:=nW h i m
   rw [EK,d,h2,h3] at this
   simp at this
  ·have f:=nX e (i:=i) (j:=i+1) (by omega) (by omega)
   have g:=nX e (i:=i+1) (j:=j) m r
   have s:=uC f
   have t:=uC g
   have k:l[i].name.toList=l[i+1].name.toList:=List.le_antisymm s (by rw [d];exact t)
   have u:=vZ f k
   have v:=vZ g (k.symm.trans d)
   omega
 ·subst c;omega
 ·have:=vZ (nX e q c) d.symm
  omega
theorem pG {l:List OpR} (h:bF l=true):∀a∈l,oj a=true:=by
 intro a b
 obtain ⟨j,c,rfl⟩:=dO b
 exact Ds h j c
end Hb
