/- Parts of the proof. -/
import Derived.Test.YtbojljpldcijgaaGreatH01
import Derived.Test.YtbojljpldcijgaaGreatH18
namespace Go.Proofs.YtbojljpldcijgaaGreat
open Go.RowKit Hb Go.Shelf
attribute [local go_sem] Oper.semAt_some
set_option maxRecDepth 100000
end Go.Proofs.YtbojljpldcijgaaGreat
