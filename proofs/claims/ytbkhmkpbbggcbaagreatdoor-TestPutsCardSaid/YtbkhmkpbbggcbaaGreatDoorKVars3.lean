/- Walks of the program's variables: what needs no loop over pieces. Walks of the program's variables: choose, agent, nought. The walk of the program's nought. -/
import Derived.Test.YtbkhmkpbbggcbaaGreatDoorKShelf
import Derived.Shelf.Strings.SlTrimAscii
import Derived.WalkSmall
import Derived.Test.YtbkhmkpbbggcbaaGreatDoorKCopy
import Derived.Lib.BufferMore
namespace Go.Proofs.YtbkhmkpbbggcbaaGreatDoor
open Go.RowKit
set_option linter.unusedVariables false
theorem ret_drew {w w' : World} (h : ∃ n, w' = w.drewN n) : Below w.heap.size w w' := by
  obtain ⟨n, rfl⟩ := h; exact ⟨rfl, rfl, rfl, Nat.le_refl _, fun _ _ => rfl⟩
theorem lib_Cut1 (s : ByteArray) (c : UInt8) (w : World) (hg : Good w) (hs : s.size < 4294967281) :
    Calls Tryz.prog 92 #[.string s, .string ⟨#[c]⟩] w (Ret w (.tuple #[.string ⟨(upto c s.data.toList).toArray⟩, .string ⟨(past c s.data.toList).toArray⟩, .bool (hasB c s.data.toList)])) := by
  obtain ⟨m, hm⟩ := hg
  refine (Tryz.strings_Cut s ⟨#[c]⟩ m w hs hm).mono ?_
  rintro e w' ⟨rfl, h⟩
  have : (⟨#[c]⟩ : ByteArray).data.toList = [c] := rfl
  rw [this, cut_byte]
  exact ⟨rfl, ret_drew h⟩
theorem lib_Contains (s sub : ByteArray) (w : World) (hg : Good w) (hs : s.size < 4294967281) :
    Calls Tryz.prog 39 #[.string s, .string sub] w fun e w' => e = .returned (.bool (Lib.contains s.data.toList sub.data.toList)) ∧ w = w' := by
  obtain ⟨m, hm⟩ := hg
  refine (Tryz.strings_Contains s sub m w hs hm).mono ?_
  rintro e w' ⟨rfl, rfl⟩
  exact ⟨rfl, rfl⟩
theorem lib_Index (s sub : ByteArray) (w : World) (hg : Good w) (hs : s.size < 4294967281) :
    Calls Tryz.prog 49 #[.string s, .string sub] w fun e w' => e = .returned (.int .i64 (Lib.index s.data.toList sub.data.toList)) ∧ w = w' := by
  obtain ⟨m, hm⟩ := hg
  refine (Tryz.strings_Index s sub m w hs hm).mono ?_
  rintro e w' ⟨rfl, rfl⟩
  exact ⟨rfl, rfl⟩
theorem lib_HasPrefix (s p : ByteArray) (w : World) :
    Calls Tryz.prog 60 #[.string s, .string p] w fun e w' => e = .returned (.bool (Lib.hasPrefix s.data.toList p.data.toList)) ∧ w = w' := by
  refine (Tryz.strings_HasPrefix s p w).mono ?_
  rintro e w' ⟨rfl, rfl⟩
  exact ⟨rfl, rfl⟩
end Go.Proofs.YtbkhmkpbbggcbaaGreatDoor
namespace Go.Proofs.YtbkhmkpbbggcbaaGreatDoor
open Go.RowKit
set_option linter.unusedVariables false
theorem lib_CutPrefix (s p : ByteArray) (w : World) :
    Calls Tryz.prog 75 #[.string s, .string p] w fun e w' => e = .returned (.tuple #[.string ⟨(Lib.trimPrefix s.data.toList p.data.toList).toArray⟩, .bool (Lib.hasPrefix s.data.toList p.data.toList)]) ∧ w = w' := by
  refine (Tryz.strings_CutPrefix s p w).mono ?_
  rintro e w' ⟨rfl, rfl⟩
  exact ⟨rfl, rfl⟩
theorem lib_TrimLeft (s cs : ByteArray) (w : World) (hcs : cs.size < 4294967281) (ha : ∀ (j : Nat) b, cs.data.toList[j]? = some b → b.toNat < 128) :
    Calls Tryz.prog 40 #[.string s, .string cs] w (Ret w (.string ⟨(Lib.trimLeftS s.data.toList cs.data.toList).toArray⟩)) :=
  Any.strings_TrimLeft_laid Tryz.lays161 (by kernel_rfl) s cs w hcs ha
end Go.Proofs.YtbkhmkpbbggcbaaGreatDoor
namespace Go.Proofs.YtbkhmkpbbggcbaaGreatDoor
open Go.RowKit
set_option linter.unusedVariables false
set_option maxRecDepth 100000 in
theorem vars_Key (s : ByteArray) (w : World) (hs : s.size ≤ 140737488351232) :
    Calls Tryz.prog 77 #[.string s] w (Ret w (.bool (vkey s.data.toList))) := by
  have HK := Lib.hid (vkey_eq s.data.toList)
  rcases he : s.toList.isEmpty with _ | _
  · have hne : (!s.toList.isEmpty) = true := by rw [he]; rfl
    have He := Lib.hid (show (s.data.toList != []) = true by rw [Lib.toList_data] at he; simpa using he)
    by_cases hl : (s.size : Int) ≤ 64
    · have hl2 : decide ((s.size : Int) ≤ 64) = true := by simpa using hl
      have Hl := Lib.hid (show decide (s.data.toList.length ≤ 64) = true by rw [bs_size, decide_eq_true_eq]; omega)
      go_enter Tryz.func77, Tryz.ntmps77
      go_wp2_with fail
      refine (lib_TrimLeft s ⟨keySet.toArray⟩ _ (by decide) (ascii_of_all (by decide))).mono ?_
      rintro e w1 ⟨rfl, hb1⟩
      have hat : (⟨keySet.toArray⟩ : ByteArray).data.toList = keySet := rfl
      rw [hat]
      clear hat
      go_wp2
      go_ret
      exact ⟨ret_bool (by rw [HK.out, He.out, Hl.out, Bool.eq_iff_iff]; simp), hb1⟩
    · have hl2 : decide ((s.size : Int) ≤ 64) = false := by simpa using hl
      have Hl := Lib.hid (show decide (s.data.toList.length ≤ 64) = false by rw [bs_size, decide_eq_false_iff_not]; omega)
      go_enter Tryz.func77, Tryz.ntmps77
      go_wp2
      go_ret
      exact ⟨ret_bool (by rw [HK.out, He.out, Hl.out]; rfl), Below.refl _ _⟩
  · have hne : (!s.toList.isEmpty) = false := by rw [he]; rfl
    have He := Lib.hid (show (s.data.toList != []) = false by rw [Lib.toList_data] at he; simpa using he)
    go_enter Tryz.func77, Tryz.ntmps77
    go_wp2
    go_ret
    exact ⟨ret_bool (by rw [HK.out, He.out]; rfl), Below.refl _ _⟩
end Go.Proofs.YtbkhmkpbbggcbaaGreatDoor
namespace Go.Proofs.YtbkhmkpbbggcbaaGreatDoor
open Go.RowKit
set_option linter.unusedVariables false
end Go.Proofs.YtbkhmkpbbggcbaaGreatDoor
namespace Go.Proofs.YtbkhmkpbbggcbaaGreatDoor
open Go.RowKit
set_option linter.unusedVariables false
end Go.Proofs.YtbkhmkpbbggcbaaGreatDoor
