/- The walk of the program's layer 1: trimming. -/
import Derived.Test.YtmkpejioinkceaaDoorText1
namespace Go.Proofs.YtmkpejioinkceaaDoor
open Go.RowKit
set_option linter.unusedVariables false

theorem text_Trim (s : ByteArray) (w : World) (hs : s.size ≤ 9223372036854775807) :
    Calls Tryd.prog 49 #[.string s] w (Ret w (.string ⟨(trim s.data.toList).toArray⟩)) := by
  go_enter Tryd.func49, Tryd.ntmps49
  go_wp2_with fail
  refine (Any.strings_Trim_laid Tryd.lays160 (by kernel_rfl) s ⟨#[32, 9]⟩ _ hs (by decide) (ascii_of_all (by decide))).mono ?_
  rintro e w1 ⟨rfl, hb1⟩
  go_wp2_with fail
  go_ret
  exact ⟨rfl, hb1⟩
end Go.Proofs.YtmkpejioinkceaaDoor
