/- Parts of the proof. -/
import Derived.Test.YtbojljpldcijgaaGreatR01
import Derived.Test.YtbojljpldcijgaaGreatR18
set_option maxRecDepth 100000
namespace Go.Proofs.YtbojljpldcijgaaGreat
open Go.RowKit Hb Go.Shelf
attribute [local go_sem] Oper.semAt_some
end Go.Proofs.YtbojljpldcijgaaGreat
