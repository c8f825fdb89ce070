/- The reference's small steps in texts: is, word, until. -/
import Derived.Test.YtehdeclpighdeaaGreatDoorKSubFind
namespace Go.Proofs.YtehdeclpighdeaaGreatDoor
open Go.RowKit
set_option linter.unusedVariables false
attribute [local go_sem ↓] Go.wp_at_zero Go.wp_at_succ
end Go.Proofs.YtehdeclpighdeaaGreatDoor
