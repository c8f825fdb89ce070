/- A strings.Builder's Len and String. -/
import Derived.Test.YtobhceopfjcmnaaGreatDoorBuild
namespace Go.Proofs.YtobhceopfjcmnaaGreatDoor
open Go.RowKit
set_option linter.unusedVariables false

theorem b_Len (b B : Nat) (l : Bs) (w : World) (h : Bld w b B l) (hb : b ≤ B) : Calls Tryz.prog 75 #[.pointer (some ⟨b, 0, none⟩)] w fun e w' => e = .returned (.int .i64 l.length) ∧ w = w' := by
  refine (Tryz.Builder_Len b b _ w (h.lib hb)).mono ?_
  rintro e w' ⟨rfl, rfl⟩
  refine ⟨?_, rfl⟩
  simp [Lib.byteCells]
theorem b_String (b B : Nat) (l : Bs) (w : World) (h : Bld w b B l) (hb : b ≤ B) : Calls Tryz.prog 66 #[.pointer (some ⟨b, 0, none⟩)] w fun e w' => e = .returned (.string ⟨l.toArray⟩) ∧ Below b w w' :=
  Tryz.Builder_String_any b b l w (h.lib hb) (Nat.le_of_lt h.lt)

end Go.Proofs.YtobhceopfjcmnaaGreatDoor
