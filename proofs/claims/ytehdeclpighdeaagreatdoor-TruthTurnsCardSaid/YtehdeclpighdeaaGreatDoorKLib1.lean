/- The library's contracts in this seat's own words: those that most walks ask. -/
import Derived.Test.YtehdeclpighdeaaGreatDoorKBase
import Derived.Test.YtehdeclpighdeaaGreatDoorKShelf
import Derived.Shelf.Strings.SlTrimAscii
import Derived.WalkSmall
namespace Go.Proofs.YtehdeclpighdeaaGreatDoor
open Go.RowKit
set_option linter.unusedVariables false
theorem ret_drew {w w' : World} (h : ∃ n, w' = w.drewN n) : Below w.heap.size w w' := by
  obtain ⟨n, rfl⟩ := h; exact below_drewN (Below.refl _ _) n
theorem lib_Join (v : Value) (ls : List Bs) (sep : ByteArray) (w : World) (h : StrsAt w v ls) (hl : LimS ls) (hs : sep.size ≤ 2) :
    Calls Tryz.prog 163 #[v, .string sep] w (Ret w (.string ⟨(Lib.join ls sep.data.toList).toArray⟩)) := by
  have hm := hl.many
  rcases h with ⟨a, c, rfl, rfl⟩ | ⟨b, o, c, rfl, hc, hlt, hcell⟩
  · refine (Tryz.strings_Join_none a c sep w).mono ?_
    rintro e w' ⟨rfl, rfl⟩
    exact ⟨rfl, Below.refl _ _⟩
  · have hx : ((ls.map fun l => (⟨l.toArray⟩ : ByteArray)).map (·.data.toList)) = ls := by
      rw [List.map_map]; exact List.map_id' ls
    have hj := join_len hl sep.data.toList (by rw [bs_size]; exact hs)
    have := Tryz.strings_Join b o c (ls.map fun l => (⟨l.toArray⟩ : ByteArray)) sep w (fun j x hx => by
      rw [List.getElem?_map] at hx
      obtain ⟨l, hl, rfl⟩ := Option.map_eq_some_iff.1 hx
      exact hcell j l hl) hlt (by rw [List.length_map]; omega) (by rw [List.length_map]; exact hc) (by rw [hx]; omega)
    rw [hx, List.length_map] at this
    exact this
theorem lib_Cut1 (s : ByteArray) (c : UInt8) (w : World) (hg : Good w) (hs : s.size < 4294967281) :
    Calls Tryz.prog 124 #[.string s, .string ⟨#[c]⟩] w (Ret w (.tuple #[.string ⟨(upto c s.data.toList).toArray⟩, .string ⟨(past c s.data.toList).toArray⟩, .bool (hasB c s.data.toList)])) := by
  obtain ⟨m, hm⟩ := hg
  refine (Tryz.strings_Cut s ⟨#[c]⟩ m w hs hm).mono ?_
  rintro e w' ⟨rfl, h⟩
  have : (⟨#[c]⟩ : ByteArray).data.toList = [c] := rfl
  rw [this, cut_byte]
  exact ⟨rfl, ret_drew h⟩
theorem lib_Cut (s sep : ByteArray) (w : World) (hg : Good w) (hs : s.size < 4294967281) :
    Calls Tryz.prog 124 #[.string s, .string sep] w (Ret w (.tuple #[.string ⟨(Lib.cut s.data.toList sep.data.toList).1.toArray⟩, .string ⟨(Lib.cut s.data.toList sep.data.toList).2.1.toArray⟩, .bool (Lib.cut s.data.toList sep.data.toList).2.2])) := by
  obtain ⟨m, hm⟩ := hg
  refine (Tryz.strings_Cut s sep m w hs hm).mono ?_
  rintro e w' ⟨rfl, h⟩
  exact ⟨rfl, ret_drew h⟩
theorem lib_Contains (s sub : ByteArray) (w : World) (hg : Good w) (hs : s.size < 4294967281) :
    Calls Tryz.prog 92 #[.string s, .string sub] w fun e w' => e = .returned (.bool (Lib.contains s.data.toList sub.data.toList)) ∧ w = w' := by
  obtain ⟨m, hm⟩ := hg
  refine (Tryz.strings_Contains s sub m w hs hm).mono ?_
  rintro e w' ⟨rfl, rfl⟩
  exact ⟨rfl, rfl⟩
theorem lib_Index (s sub : ByteArray) (w : World) (hg : Good w) (hs : s.size < 4294967281) :
    Calls Tryz.prog 108 #[.string s, .string sub] w fun e w' => e = .returned (.int .i64 (Lib.index s.data.toList sub.data.toList)) ∧ w = w' := by
  obtain ⟨m, hm⟩ := hg
  refine (Tryz.strings_Index s sub m w hs hm).mono ?_
  rintro e w' ⟨rfl, rfl⟩
  exact ⟨rfl, rfl⟩
theorem lib_HasPrefix (s p : ByteArray) (w : World) :
    Calls Tryz.prog 49 #[.string s, .string p] w fun e w' => e = .returned (.bool (Lib.hasPrefix s.data.toList p.data.toList)) ∧ w = w' := by
  refine (Tryz.strings_HasPrefix s p w).mono ?_
  rintro e w' ⟨rfl, rfl⟩
  exact ⟨rfl, rfl⟩
theorem lib_Trim (s cs : ByteArray) (w : World) (hs : s.size ≤ 9223372036854775807) (hcs : cs.size < 4294967281) (ha : ∀ (j : Nat) b, cs.data.toList[j]? = some b → b.toNat < 128) :
    Calls Tryz.prog 145 #[.string s, .string cs] w (Ret w (.string ⟨(Lib.trimS s.data.toList cs.data.toList).toArray⟩)) :=
  Any.strings_Trim_laid Tryz.lays160 (by kernel_rfl) s cs w hs hcs ha
end Go.Proofs.YtehdeclpighdeaaGreatDoor
