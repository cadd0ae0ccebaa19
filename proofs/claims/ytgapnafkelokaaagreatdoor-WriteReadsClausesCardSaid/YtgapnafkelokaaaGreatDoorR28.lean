/- Parts of the proof. -/
import Derived.Test.YtgapnafkelokaaaGreatDoorR01
import Derived.Test.YtgapnafkelokaaaGreatDoorR26
import Derived.Test.YtgapnafkelokaaaGreatDoorR27
import Derived.Test.YtgapnafkelokaaaGreatDoorR05
import Derived.Test.YtgapnafkelokaaaGreatDoorR13
set_option maxRecDepth 100000
namespace Go.Proofs.YtgapnafkelokaaaGreatDoor
open Go.RowKit Hb Go.Shelf
attribute [local go_sem] Oper.semAt_some
end Go.Proofs.YtgapnafkelokaaaGreatDoor
