/- The walk of the program's layer 1: trimming. -/
import Derived.Test.YtehdeclpighdeaaGreatDoorText1
namespace Go.Proofs.YtehdeclpighdeaaGreatDoor
open Go.RowKit
set_option linter.unusedVariables false

theorem text_Trim (s : ByteArray) (w : World) (hs : s.size ≤ 9223372036854775807) :
    Calls Tryz.prog 165 #[.string s] w (Ret w (.string ⟨(trim s.data.toList).toArray⟩)) := by
  go_enter Tryz.func165, Tryz.ntmps165
  go_wp2_with fail
  refine (Any.strings_Trim_laid Tryz.lays160 (by kernel_rfl) s ⟨#[32, 9]⟩ _ hs (by decide) (ascii_of_all (by decide))).mono ?_
  rintro e w1 ⟨rfl, hb1⟩
  go_wp2_with fail
  go_ret
  exact ⟨rfl, hb1⟩
end Go.Proofs.YtehdeclpighdeaaGreatDoor
