/- Walks of the program's variables: what needs no loop over pieces. Walks of the program's variables: choose, agent, nought. The walk of the program's nought. -/
import Derived.Lib.BufferMore
import Derived.Test.YtehdeclpighdeaaGreatDoorKLib
namespace Go.Proofs.YtehdeclpighdeaaGreatDoor
open Go.RowKit
set_option linter.unusedVariables false
set_option maxRecDepth 100000 in
theorem vars_Key (s : ByteArray) (w : World) (hs : s.size ≤ 140737488351232) :
    Calls Tryz.prog 119 #[.string s] w (Ret w (.bool (vkey s.data.toList))) := by
  have HK := Lib.hid (vkey_eq s.data.toList)
  rcases he : s.toList.isEmpty with _ | _
  · have hne : (!s.toList.isEmpty) = true := by rw [he]; rfl
    have He := Lib.hid (show (s.data.toList != []) = true by rw [Lib.toList_data] at he; simpa using he)
    by_cases hl : (s.size : Int) ≤ 64
    · have hl2 : decide ((s.size : Int) ≤ 64) = true := by simpa using hl
      have Hl := Lib.hid (show decide (s.data.toList.length ≤ 64) = true by rw [bs_size, decide_eq_true_eq]; omega)
      go_enter Tryz.func119, Tryz.ntmps119
      go_wp2_with fail
      refine (lib_TrimLeft s ⟨keySet.toArray⟩ _ (by decide) (ascii_of_all (by decide))).mono ?_
      rintro e w1 ⟨rfl, hb1⟩
      have hat : (⟨keySet.toArray⟩ : ByteArray).data.toList = keySet := rfl
      rw [hat]
      clear hat
      go_wp2
      go_ret
      exact ⟨ret_bool (by rw [HK.out, He.out, Hl.out, Bool.eq_iff_iff]; simp), hb1⟩
    · have hl2 : decide ((s.size : Int) ≤ 64) = false := by simpa using hl
      have Hl := Lib.hid (show decide (s.data.toList.length ≤ 64) = false by rw [bs_size, decide_eq_false_iff_not]; omega)
      go_enter Tryz.func119, Tryz.ntmps119
      go_wp2
      go_ret
      exact ⟨ret_bool (by rw [HK.out, He.out, Hl.out]; rfl), Below.refl _ _⟩
  · have hne : (!s.toList.isEmpty) = false := by rw [he]; rfl
    have He := Lib.hid (show (s.data.toList != []) = false by rw [Lib.toList_data] at he; simpa using he)
    go_enter Tryz.func119, Tryz.ntmps119
    go_wp2
    go_ret
    exact ⟨ret_bool (by rw [HK.out, He.out]; rfl), Below.refl _ _⟩
end Go.Proofs.YtehdeclpighdeaaGreatDoor
namespace Go.Proofs.YtehdeclpighdeaaGreatDoor
open Go.RowKit
set_option linter.unusedVariables false
end Go.Proofs.YtehdeclpighdeaaGreatDoor
namespace Go.Proofs.YtehdeclpighdeaaGreatDoor
open Go.RowKit
set_option linter.unusedVariables false
end Go.Proofs.YtehdeclpighdeaaGreatDoor
