/- Flags: the check of op's arguments, where nothing is wrong. -/
import Derived.Test.YtfkhcpeahdkafaaGreatH08
namespace Hb
open Go Go.RowKit
structure ChkOk (p t n : Tm) : Prop where
 v1 : anyVar [p, t, tailT n] = false
 v2 : (isNilT (tailT n) && anyVar (elemsT n)) = false
 ta : isAtomT t = true
 na : (isAtomT n || isNilT (tailT n)) = true
 all : ∀ x ∈ nmL n, isAtomT x = true
 pr : isPrioT p = true
 ty : isTypeT t = true
end Hb
namespace Go.Proofs.YtfkhcpeahdkafaaGreat
open Go.RowKit Hb Go.Shelf
attribute [local go_sem] Oper.semAt_some
set_option maxRecDepth 100000
end Go.Proofs.YtfkhcpeahdkafaaGreat
