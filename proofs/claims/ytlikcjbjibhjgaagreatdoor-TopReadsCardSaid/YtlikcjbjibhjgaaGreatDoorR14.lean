/- Parts of the proof. -/
import Derived.Test.YtlikcjbjibhjgaaGreatDoorR01
import Derived.Test.YtlikcjbjibhjgaaGreatDoorR12
import Derived.Test.YtlikcjbjibhjgaaGreatDoorR11
open Array renaming getElem?_eq_getElem -> bf, getElem?_eq_some_iff -> aM
open Go.Region renaming binds -> gX, ready -> iQ
namespace Hb
open Go Go.RowKit
def gR (n:Nat) (S:Nat->Bool):Array Bool:=Array.ofFn fun i:Fin n=>S i
theorem iV (n:Nat) (S:Nat->Bool) (j:Nat) (d:Bool) (a:j<n):(gR n S).getD j d=S j:=by
 unfold gR
 simp [Array.getD,a]
theorem vY (n:Nat) (S:Nat->Bool) (j:Nat):(gR n S).setIfInBounds j true=gR n (ik S j):=by
 apply Array.ext
 ·simp [gR]
 ·intro i f c
  have a:i<n:=by simpa [gR] using c
  rw [Array.getElem_setIfInBounds (by simpa [gR] using a)]
  have d:(gR n (ik S j))[i]=ik S j i:=Array.getElem_ofFn ..
  have b:(gR n S)[i]'(by simpa [gR] using a)=S i:=Array.getElem_ofFn ..
  rw [d,b]
  split
  ·rename_i e;subst e;exact (lm S j).symm
  ·rename_i e;exact (ce S (fun h=>e h.symm)).symm
theorem uw (n:Nat):gR n (fun _=>false)=Array.replicate n false:=by
 apply Array.ext
 ·simp [gR]
 ·intro i a b;simp [gR]
def tI (md:Region.Mode) (a:Array Oper):Bool:=(List.range a.size).all fun j=>(a[j]?).all fun o=>o.after.all fun e=>!gX md e||decide (e.on<j)
theorem qq {md:Region.Mode} {d:Array Oper} (h:tI md d=true) {j:Nat} {o:Oper} (c:d[j]? = some o) {e:Edge} (g:e∈o.after) (f:gX md e=true):e.on<j:=by
 unfold tI at h
 rw [List.all_eq_true] at h
 have a:=h j (List.mem_range.2 (aM.1 c).1)
 rw [c] at a
 simp only [Option.all_some] at a
 have b:=Array.all_eq_true_iff_forall_mem.1 a e g
 rw [f] at b
 simpa using b
theorem DL {P:Program} {b:Array Oper} {Q:Exit->Act->World->Prop} {md:Region.Mode} (I:(Nat->Bool)->Act->World->Prop) (y:tI md b=true)
  (D:∀S j o a w,b[j]? = some o->S j=false->(∀e∈o.after,gX md e=true->S e.on=true)->I S a w->if Region.wanted o (yielded b a.tmps) then o.wp P a w (I (ik S j)) Q else I (ik S j) (a.put o.dst undef) w)
  (v:∀S a w,(∀j,j<b.size->S j=true)->I S a w->Q .normal a w):∀(m:Nat) (S:Nat->Bool) (a:Act) (w:World),nM b.size S<=m->I S a w->wpAny P md b Q m (gR b.size S) a w:=by
 have B:∀S,iQ md b (gR b.size S)=[]->∀j,j<b.size->S j=true:=fun S s j=>by
  induction j using Nat.strongRecOn with
  | ind j ih=>
   intro r
   cases hs:S j with
   | true=>rfl
   | false=>
    have:j∈iQ md b (gR b.size S):=mem_ready.2 ⟨by rw [iV _ _ _ _ r];exact hs,_,bf r,fun e n l=>by
     have x:=qq y (bf r) n l
     rw [iV _ _ _ _ (by omega)]
     exact ih e.on x (by omega)⟩
    rw [s] at this
    cases this
 intro m
 induction m with
 | zero=>
  intro S a w A k
  have u:=rO b.size S (by omega)
  refine ⟨?_,v S a w u k⟩
  refine List.eq_nil_iff_forall_not_mem.2 fun i q=>?_
  obtain ⟨c,o,d,_⟩:=mem_ready.1 q
  have f:=(aM.1 d).1
  rw [iV _ _ _ _ f,u i f] at c
  cases c
 | succ m ih=>
  intro S a w A k
  refine ⟨fun s=>v S a w (B S s) k,fun i q=>?_⟩
  obtain ⟨c,o,d,C⟩:=mem_ready.1 q
  have f:=(aM.1 d).1
  rw [iV _ _ _ _ f] at c
  have p:=D S i o a w d c (fun e n l=>by
   have:=C e n l
   have x:=qq y d n l
   rw [iV _ _ _ _ (by omega)] at this
   exact this) k
  have E:=uB b.size S i f c
  have z:∀g w',I (ik S i) g w'->wpAny P md b Q m ((gR b.size S).setIfInBounds i true) g w':=fun g w' h=>by
   rw [vY]
   exact ih (ik S i) g w' (by omega) h
  unfold wpOp
  rw [d]
  dsimp only
  split
  ·rename_i t
   rw [if_pos t] at p
   exact .inl (Oper.wp_mono z p)
  ·rename_i t
   rw [if_neg t] at p
   exact z _ _ p
end Hb
