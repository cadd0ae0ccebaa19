/- Parts of the proof. -/
import Derived.Test.YtpokpgkjaifccaaGreatDoorRRH05
import Derived.Test.YtpokpgkjaifccaaGreatDoorRRProg
import Derived.Test.YtpokpgkjaifccaaGreatDoorRRH01
import Derived.Laws.Rows
import Derived.Laws.Tables
import Derived.Laws.CopyOwn
import Derived.Shelf.SlSortCmp.Insertion
import Derived.Laws.OwnMore
import Derived.Laws.AppendOwnNone
import Derived.Lib.SliceRun
import Derived.Deep.RegionHeld3
import Derived.Laws.Shifts
import Derived.Test.YtpokpgkjaifccaaGreatDoorRRH04
namespace Hb
open Go Go.RowKit
def doneA (n:Nat) (S:Nat→Bool):Array Bool:=Array.ofFn fun i:Fin n=>S i
theorem doneA_get (n:Nat) (S:Nat→Bool) (j:Nat) (d:Bool) (hj:j<n):(doneA n S).getD j d=S j:=by
 unfold doneA
 simp [Array.getD,hj]
theorem doneA_set (n:Nat) (S:Nat→Bool) (j:Nat):(doneA n S).setIfInBounds j true=doneA n (updF S j):=by
 apply Array.ext
 ·simp [doneA]
 ·intro i h1 h2
  have hi:i<n:=by simpa [doneA] using h2
  rw [Array.getElem_setIfInBounds (by simpa [doneA] using hi)]
  have h2':(doneA n (updF S j))[i]=updF S j i:=Array.getElem_ofFn ..
  have h1':(doneA n S)[i]'(by simpa [doneA] using hi)=S i:=Array.getElem_ofFn ..
  rw [h2',h1']
  split
  ·rename_i e;subst e;exact (updF_same S j).symm
  ·rename_i e;exact (updF_other S (fun h=>e h.symm)).symm
theorem doneA_zero (n:Nat):doneA n (fun _=>false)=Array.replicate n false:=by
 apply Array.ext
 ·simp [doneA]
 ·intro i h1 h2;simp [doneA]
def ordOk (md:Region.Mode) (ops:Array Oper):Bool:=(List.range ops.size).all fun j=>(ops[j]?).all fun o=>o.after.all fun e=>!Region.binds md e||decide (e.on<j)
theorem ordOk_at {md:Region.Mode} {ops:Array Oper} (h:ordOk md ops=true) {j:Nat} {o:Oper} (ho:ops[j]? = some o) {e:Edge} (he:e∈o.after) (hb:Region.binds md e=true):e.on<j:=by
 unfold ordOk at h
 rw [List.all_eq_true] at h
 have h1:=h j (List.mem_range.2 (Array.getElem?_eq_some_iff.1 ho).1)
 rw [ho] at h1
 simp only [Option.all_some] at h1
 have h2:=Array.all_eq_true_iff_forall_mem.1 h1 e he
 rw [hb] at h2
 simpa using h2
theorem wpAny_inv {P:Program} {ops:Array Oper} {Q:Exit→Act→World→Prop} {md:Region.Mode} (I:(Nat→Bool)→Act→World→Prop) (hord:ordOk md ops=true)
  (hstep:∀S j o a w,ops[j]? = some o→S j=false→(∀e∈o.after,Region.binds md e=true→S e.on=true)→I S a w→if Region.wanted o (yielded ops a.tmps) then o.wp P a w (I (updF S j)) Q else I (updF S j) (a.put o.dst undef) w)
  (hend:∀S a w,(∀j,j<ops.size→S j=true)→I S a w→Q .normal a w):∀(m:Nat) (S:Nat→Bool) (a:Act) (w:World),cntF ops.size S≤m→I S a w→wpAny P md ops Q m (doneA ops.size S) a w:=by
 have hnone:∀S,Region.ready md ops (doneA ops.size S)=[]→∀j,j<ops.size→S j=true:=fun S hr j=>by
  induction j using Nat.strongRecOn with
  | ind j ih=>
   intro hj
   cases hs:S j with
   | true=>rfl
   | false=>
    have:j∈Region.ready md ops (doneA ops.size S):=mem_ready.2 ⟨by rw [doneA_get _ _ _ _ hj];exact hs,_,Array.getElem?_eq_getElem hj,fun e he hb=>by
     have hl:=ordOk_at hord (Array.getElem?_eq_getElem hj) he hb
     rw [doneA_get _ _ _ _ (by omega)]
     exact ih e.on hl (by omega)⟩
    rw [hr] at this
    cases this
 intro m
 induction m with
 | zero=>
  intro S a w hc hI
  have hall:=cntF_zero ops.size S (by omega)
  refine ⟨?_,hend S a w hall hI⟩
  refine List.eq_nil_iff_forall_not_mem.2 fun i hi=>?_
  obtain ⟨h1,o,ho,_⟩:=mem_ready.1 hi
  have hlt:=(Array.getElem?_eq_some_iff.1 ho).1
  rw [doneA_get _ _ _ _ hlt,hall i hlt] at h1
  cases h1
 | succ m ih=>
  intro S a w hc hI
  refine ⟨fun hr=>hend S a w (hnone S hr) hI,fun i hi=>?_⟩
  obtain ⟨h1,o,ho,hp⟩:=mem_ready.1 hi
  have hlt:=(Array.getElem?_eq_some_iff.1 ho).1
  rw [doneA_get _ _ _ _ hlt] at h1
  have hstep':=hstep S i o a w ho h1 (fun e he hb=>by
   have:=hp e he hb
   have hl:=ordOk_at hord ho he hb
   rw [doneA_get _ _ _ _ (by omega)] at this
   exact this) hI
  have hcu:=cntF_upd ops.size S i hlt h1
  have next:∀a' w',I (updF S i) a' w'→wpAny P md ops Q m ((doneA ops.size S).setIfInBounds i true) a' w':=fun a' w' h=>by
   rw [doneA_set]
   exact ih (updF S i) a' w' (by omega) h
  unfold wpOp
  rw [ho]
  dsimp only
  split
  ·rename_i hw
   rw [if_pos hw] at hstep'
   exact .inl (Oper.wp_mono next hstep')
  ·rename_i hw
   rw [if_neg hw] at hstep'
   exact next _ _ hstep'
end Hb
