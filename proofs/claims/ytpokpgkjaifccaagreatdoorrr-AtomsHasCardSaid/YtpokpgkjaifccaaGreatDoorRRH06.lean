/- Flags: the check of op's arguments, where nothing is wrong. -/
import Derived.Test.YtpokpgkjaifccaaGreatDoorRRH01
import Derived.Test.YtpokpgkjaifccaaGreatDoorRRH05
namespace Hb
open Go Go.RowKit
end Hb
namespace Go.Proofs.YtpokpgkjaifccaaGreatDoorRR
open Go.RowKit Hb Go.Shelf
attribute [local go_sem] Oper.semAt_some
set_option maxRecDepth 100000
end Go.Proofs.YtpokpgkjaifccaaGreatDoorRR
