/- The library's contracts in this seat's own words: those that most walks ask. -/
import Derived.Test.YtehdeclpighdeaaGreatDoorKBase
import Derived.Test.YtehdeclpighdeaaGreatDoorKShelf
import Derived.Shelf.Strings.SlTrimAscii
import Derived.WalkSmall
namespace Go.Proofs.YtehdeclpighdeaaGreatDoor
open Go.RowKit
set_option linter.unusedVariables false
theorem ret_drew {w w' : World} (h : ∃ n, w' = w.drewN n) : Below w.heap.size w w' := by
  obtain ⟨n, rfl⟩ := h; exact below_drewN (Below.refl _ _) n
theorem lib_Cut1 (s : ByteArray) (c : UInt8) (w : World) (hg : Good w) (hs : s.size < 4294967281) :
    Calls Tryz.prog 124 #[.string s, .string ⟨#[c]⟩] w (Ret w (.tuple #[.string ⟨(upto c s.data.toList).toArray⟩, .string ⟨(past c s.data.toList).toArray⟩, .bool (hasB c s.data.toList)])) := by
  obtain ⟨m, hm⟩ := hg
  refine (Tryz.strings_Cut s ⟨#[c]⟩ m w hs hm).mono ?_
  rintro e w' ⟨rfl, h⟩
  have : (⟨#[c]⟩ : ByteArray).data.toList = [c] := rfl
  rw [this, cut_byte]
  exact ⟨rfl, ret_drew h⟩
theorem lib_Contains (s sub : ByteArray) (w : World) (hg : Good w) (hs : s.size < 4294967281) :
    Calls Tryz.prog 92 #[.string s, .string sub] w fun e w' => e = .returned (.bool (Lib.contains s.data.toList sub.data.toList)) ∧ w = w' := by
  obtain ⟨m, hm⟩ := hg
  refine (Tryz.strings_Contains s sub m w hs hm).mono ?_
  rintro e w' ⟨rfl, rfl⟩
  exact ⟨rfl, rfl⟩
theorem lib_Index (s sub : ByteArray) (w : World) (hg : Good w) (hs : s.size < 4294967281) :
    Calls Tryz.prog 108 #[.string s, .string sub] w fun e w' => e = .returned (.int .i64 (Lib.index s.data.toList sub.data.toList)) ∧ w = w' := by
  obtain ⟨m, hm⟩ := hg
  refine (Tryz.strings_Index s sub m w hs hm).mono ?_
  rintro e w' ⟨rfl, rfl⟩
  exact ⟨rfl, rfl⟩
theorem lib_HasPrefix (s p : ByteArray) (w : World) :
    Calls Tryz.prog 49 #[.string s, .string p] w fun e w' => e = .returned (.bool (Lib.hasPrefix s.data.toList p.data.toList)) ∧ w = w' := by
  refine (Tryz.strings_HasPrefix s p w).mono ?_
  rintro e w' ⟨rfl, rfl⟩
  exact ⟨rfl, rfl⟩
end Go.Proofs.YtehdeclpighdeaaGreatDoor
