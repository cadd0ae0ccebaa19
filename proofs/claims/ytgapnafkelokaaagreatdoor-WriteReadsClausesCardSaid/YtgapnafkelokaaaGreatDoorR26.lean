/- Parts of the proof. -/
import Derived.Test.YtgapnafkelokaaaGreatDoorR01
import Derived.Test.YtgapnafkelokaaaGreatDoorR15
set_option maxRecDepth 100000
namespace Go.Proofs.YtgapnafkelokaaaGreatDoor
open Go.RowKit Hb Go.Shelf
attribute [local go_sem] Oper.semAt_some
end Go.Proofs.YtgapnafkelokaaaGreatDoor
