/- Flags: the arguments of op/3 with a variable. Flags: op/3 with a variable. -/
import Derived.Test.YtfkhcpeahdkafaaGreatH18
import Derived.Test.YtfkhcpeahdkafaaGreatH09
import Derived.Test.YtfkhcpeahdkafaaGreatH10
namespace Hb
open Go Go.RowKit
def instT : Tm := ballT ⟨#[105, 110, 115, 116, 97, 110, 116, 105, 97, 116, 105, 111, 110, 95, 101, 114, 114, 111, 114]⟩ []
end Hb
namespace Go.Proofs.YtfkhcpeahdkafaaGreat
open Go.RowKit Hb
attribute [local go_sem] Oper.semAt_some
set_option maxRecDepth 100000
end Go.Proofs.YtfkhcpeahdkafaaGreat
namespace Go.Proofs.YtfkhcpeahdkafaaGreat
open Go.RowKit Hb Go.Shelf
attribute [local go_sem] Oper.semAt_some
set_option maxRecDepth 100000
end Go.Proofs.YtfkhcpeahdkafaaGreat
