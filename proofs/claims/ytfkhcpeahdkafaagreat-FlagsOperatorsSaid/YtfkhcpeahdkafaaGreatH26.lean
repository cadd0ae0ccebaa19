/- Flags: what the predicates answer, in plain words; char_conversion. -/
import Derived.Test.YtfkhcpeahdkafaaGreatH25
import Derived.Test.YtfkhcpeahdkafaaGreatH23
import Derived.Test.YtfkhcpeahdkafaaGreatH20
namespace Hb
open Go Go.RowKit
structure SyP where
 ops : List OpR
 fl : FlR
 cv : List (Int × Int)
inductive CR where
 | ok (s : SyP) (l : List Tm)
 | ball (b : Tm)
 | err (n : Int)
def RIs (B : Nat) (w w' : World) (r : RV) : CR → Prop
 | .ok s l => r.er = 0 ∧ Tab w' r.oa r.on r.oc s.ops ∧ (⟨r.q, r.u, r.c, r.d⟩ : FlR) = s.fl ∧ PrI B w' r.ca r.cn r.cc s.cv ∧ r.rn = l.length ∧ NewT w w' r.ra l
 | .ball b => r.er = 8 ∧ b.kind = r.bk ∧ b.num = r.bn ∧ b.name = r.bs ∧ b.args.length = r.bz ∧ NewT w w' r.ba b.args
 | .err n => r.er = n ∧ n ≠ 0 ∧ n ≠ 8 ∧ r.bk = 0 ∧ r.bn = 0 ∧ r.bs = ⟨#[]⟩ ∧ r.bz = 0
def typeT (k : ByteArray) (c : Tm) : Tm := aboutT ⟨#[116, 121, 112, 101, 95, 101, 114, 114, 111, 114]⟩ [k] c
def domT (k : ByteArray) (c : Tm) : Tm := aboutT ⟨#[100, 111, 109, 97, 105, 110, 95, 101, 114, 114, 111, 114]⟩ [k] c
def permT (a k : ByteArray) (c : Tm) : Tm := aboutT ⟨#[112, 101, 114, 109, 105, 115, 115, 105, 111, 110, 95, 101, 114, 114, 111, 114]⟩ [a, k] c
end Hb
namespace Go.Proofs.YtfkhcpeahdkafaaGreat
open Go.RowKit Hb
set_option maxRecDepth 100000
end Go.Proofs.YtfkhcpeahdkafaaGreat
