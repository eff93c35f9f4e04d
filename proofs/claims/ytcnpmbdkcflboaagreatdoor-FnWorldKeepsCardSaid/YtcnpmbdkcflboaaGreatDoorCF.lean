/- Walks: a run is drawn for the laws; whether peers are connected, whether a number is in a list, whether two lists are the same. No condition. -/
import Derived.Test.YtcnpmbdkcflboaaGreatDoorDg
set_option linter.unusedVariables false
set_option linter.unusedSimpArgs false
namespace Go.Proofs.YtcnpmbdkcflboaaGreatDoor
open Go.RowKit
attribute [local go_sem ↓] Go.wp_at_zero Go.wp_at_succ

end Go.Proofs.YtcnpmbdkcflboaaGreatDoor
