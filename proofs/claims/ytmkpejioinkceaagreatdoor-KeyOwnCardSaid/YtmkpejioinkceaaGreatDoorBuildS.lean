/- A strings.Builder's String. -/
import Derived.Test.YtmkpejioinkceaaGreatDoorBuild
namespace Go.Proofs.YtmkpejioinkceaaGreatDoor
open Go.RowKit
set_option linter.unusedVariables false

theorem b_String (b B : Nat) (l : Bs) (w : World) (h : Bld w b B l) (hb : b ≤ B) : Calls Tryz.prog 49 #[.pointer (some ⟨b, 0, none⟩)] w fun e w' => e = .returned (.string ⟨l.toArray⟩) ∧ Below b w w' :=
  Tryz.Builder_String_any b b l w (h.lib hb) (Nat.le_of_lt h.lt)

end Go.Proofs.YtmkpejioinkceaaGreatDoor
