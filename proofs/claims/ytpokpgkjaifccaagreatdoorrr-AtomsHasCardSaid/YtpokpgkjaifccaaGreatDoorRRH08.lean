/- Flags: op/3 where nothing is wrong. -/
import Derived.Test.YtpokpgkjaifccaaGreatDoorRRH01
import Derived.Test.YtpokpgkjaifccaaGreatDoorRRH06
import Derived.Test.YtpokpgkjaifccaaGreatDoorRRH07
namespace Hb
open Go Go.RowKit
end Hb
namespace Go.Proofs.YtpokpgkjaifccaaGreatDoorRR
open Go.RowKit Hb Go.Shelf
attribute [local go_sem] Oper.semAt_some
set_option maxRecDepth 100000
end Go.Proofs.YtpokpgkjaifccaaGreatDoorRR
