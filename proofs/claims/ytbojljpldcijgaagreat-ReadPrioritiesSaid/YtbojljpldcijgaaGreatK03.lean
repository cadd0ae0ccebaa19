/- Parts of the proof. -/
import Derived.Test.YtbojljpldcijgaaGreatH01
import Derived.Test.YtbojljpldcijgaaGreatH02
import Derived.Test.YtbojljpldcijgaaGreatH03
import Derived.Test.YtbojljpldcijgaaGreatH04
import Derived.Test.YtbojljpldcijgaaGreatH05
import Derived.Test.YtbojljpldcijgaaGreatH06
import Derived.Test.YtbojljpldcijgaaGreatH07
import Derived.Test.YtbojljpldcijgaaGreatH08
import Derived.Test.YtbojljpldcijgaaGreatH09
import Derived.Test.YtbojljpldcijgaaGreatH10
import Derived.Test.YtbojljpldcijgaaGreatH11
import Derived.Test.YtbojljpldcijgaaGreatH12
import Derived.Test.YtbojljpldcijgaaGreatH13
import Derived.Test.YtbojljpldcijgaaGreatH14
import Derived.Test.YtbojljpldcijgaaGreatH15
import Derived.Test.YtbojljpldcijgaaGreatH16
import Derived.Test.YtbojljpldcijgaaGreatH17
import Derived.Test.YtbojljpldcijgaaGreatH18
import Derived.Test.YtbojljpldcijgaaGreatH21
import Derived.Test.YtbojljpldcijgaaGreatH22
import Derived.Test.YtbojljpldcijgaaGreatH23
import Derived.Test.YtbojljpldcijgaaGreatH24
import Derived.Test.YtbojljpldcijgaaGreatH25
import Derived.Test.YtbojljpldcijgaaGreatH26
import Derived.Test.YtbojljpldcijgaaGreatH27
import Derived.Test.YtbojljpldcijgaaGreatK01
import Derived.Test.YtbojljpldcijgaaGreatK02
namespace Hb
open Go Go.RowKit
theorem ops_bk {W:World} {g:Nat} {l:List OpR} (h:Bk W g (opsCells l)):OpsAt W (some ⟨g,0,none⟩) l:=fun j hj=>by
 obtain ⟨h0,h1,h2⟩:=oc_get l j hj
 refine ⟨g,0,rfl,h.lt,?_,?_,?_⟩ <;> rw [Nat.zero_add]
 ·exact h.c _ _ h0
 ·exact h.c _ _ h1
 ·exact h.c _ _ h2
theorem rem_in {a n:Int} (ha:0≤a∧a≤65535) (hn:0<n∧n≤1200) (k:Int) (hk:1≤k∧k≤4):∃t,wrap64 ((wrap64 a).tmod n+k)=t∧k≤t∧t≤n+k-1:=by
 have h1:wrap64 a=a:=IntWalk.wrap64_in _ (by omega)
 have h2:a.tmod n=a % n:=Int.tmod_eq_emod_of_nonneg ha.1
 have h3:=Int.emod_nonneg a (show n≠0 by omega)
 have h4:=Int.emod_lt_of_pos a hn.1
 refine ⟨a % n+k,?_,by omega,by omega⟩
 rw [h1,h2]
 exact IntWalk.wrap64_in _ (by omega)
theorem u16_range {n:Int} (h:(Lit.int .u16 n).wf=true):0≤n∧n≤65535:=by
 unfold Lit.wf at h
 rw [Bool.and_eq_true,decide_eq_true_iff,decide_eq_true_iff] at h
 exact ⟨h.1,h.2⟩
end Hb
namespace Go.Proofs.YtbojljpldcijgaaGreat
open Go.RowKit Hb
set_option maxRecDepth 100000
set_option linter.unusedSimpArgs false
attribute [local go_sem] Oper.semAt_some
end Go.Proofs.YtbojljpldcijgaaGreat
