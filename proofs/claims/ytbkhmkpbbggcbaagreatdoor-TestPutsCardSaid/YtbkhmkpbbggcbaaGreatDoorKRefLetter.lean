/- The walk of the reference's letters. -/
import Derived.Test.YtbkhmkpbbggcbaaGreatDoorKBase
namespace Go.Proofs.YtbkhmkpbbggcbaaGreatDoor
open Go.RowKit
set_option linter.unusedVariables false
theorem ref01_Letter (c : UInt8) (w : World) :
    Calls Tryz.prog 81 #[.int .u8 ((c.toNat : Nat) : Int)] w fun e w' => e = .returned (.bool (alnum c)) ∧ w = w' := by
  go_enter Tryz.func81, Tryz.ntmps81
  go_wp2
  all_goals
    go_ret
    exact ⟨ret_bool (by unfold alnum; rw [Bool.eq_iff_iff]; simp only [Bool.or_eq_true, decide_eq_true_eq, true_iff, Bool.false_eq_true, false_iff]; omega), rfl⟩
end Go.Proofs.YtbkhmkpbbggcbaaGreatDoor
