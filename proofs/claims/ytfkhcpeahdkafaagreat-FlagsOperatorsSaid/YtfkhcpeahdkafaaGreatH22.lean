/- Flags: current_prolog_flag with a variable. -/
import Derived.Test.YtfkhcpeahdkafaaGreatH21
import Derived.Test.YtfkhcpeahdkafaaGreatH13
import Derived.Test.YtfkhcpeahdkafaaGreatH17
namespace Hb
open Go Go.RowKit
end Hb
namespace Go.Proofs.YtfkhcpeahdkafaaGreat
open Go.RowKit Hb
set_option maxRecDepth 100000
end Go.Proofs.YtfkhcpeahdkafaaGreat
