/- The walks of the reference's rules on tests: one, not, bracket. -/
import Derived.Test.YtehdeclpighdeaaGreatDoorKTestR2
import Derived.Test.YtehdeclpighdeaaGreatDoorKTestW7
namespace Go.Proofs.YtehdeclpighdeaaGreatDoor
open Go.RowKit
set_option linter.unusedVariables false
theorem RGot.past {n m : Nat} {W : World} {g : Got} {v : Value} (h : RGot (From n) W g v) (hn : m < n) : RGot (fun z => m < z) W g v := h.weak (fun b _ hb => by have : n ≤ b := hb; omega)
end Go.Proofs.YtehdeclpighdeaaGreatDoor
