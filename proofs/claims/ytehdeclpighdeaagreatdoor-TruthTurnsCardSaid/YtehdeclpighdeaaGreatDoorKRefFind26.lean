/- The reference's Find and Value. -/
import Derived.Test.YtehdeclpighdeaaGreatDoorKRefAt
namespace Go.Proofs.YtehdeclpighdeaaGreatDoor
open Go.RowKit
set_option linter.unusedVariables false
attribute [local go_sem ↓] Go.wp_at_zero Go.wp_at_succ
end Go.Proofs.YtehdeclpighdeaaGreatDoor
