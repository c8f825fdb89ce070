/- The library's contracts in this seat's own words: some more. -/
import Derived.Test.YtehdeclpighdeaaGreatDoorLib1
import Derived.Test.YtehdeclpighdeaaGreatDoorCopy
namespace Go.Proofs.YtehdeclpighdeaaGreatDoor
open Go.RowKit
set_option linter.unusedVariables false

theorem lib_CutPrefix (s p : ByteArray) (w : World) :
    Calls Tryz.prog 132 #[.string s, .string p] w fun e w' => e = .returned (.tuple #[.string ⟨(Lib.trimPrefix s.data.toList p.data.toList).toArray⟩, .bool (Lib.hasPrefix s.data.toList p.data.toList)]) ∧ w = w' := by
  refine (Tryz.strings_CutPrefix s p w).mono ?_
  rintro e w' ⟨rfl, rfl⟩
  exact ⟨rfl, rfl⟩

theorem lib_TrimLeft (s cs : ByteArray) (w : World) (hcs : cs.size < 4294967281) (ha : ∀ (j : Nat) b, cs.data.toList[j]? = some b → b.toNat < 128) :
    Calls Tryz.prog 61 #[.string s, .string cs] w (Ret w (.string ⟨(Lib.trimLeftS s.data.toList cs.data.toList).toArray⟩)) :=
  Any.strings_TrimLeft_laid Tryz.lays161 (by kernel_rfl) s cs w hcs ha

/-- Split at a byte. -/
theorem lib_Split1 (s : ByteArray) (c : UInt8) (w : World) (hg : Good w) (hs : s.size < 4294967281) :
    Calls Tryz.prog 177 #[.string s, .string ⟨#[c]⟩] w (RetStrs w (pieces c s.data.toList)) := by
  obtain ⟨m, hm⟩ := hg
  refine (Tryz.strings_Split s ⟨#[c]⟩ m w hs hm (Nat.le_refl 1)).mono ?_
  rintro e w' ⟨rfl, rfl⟩
  have hp : (Lib.splitB ⟨#[c]⟩ 0 (Lib.countB s ⟨#[c]⟩) s).map (·.data.toList) = pieces c s.data.toList := by
    rw [Lib.splitB_data]; exact split_pieces c _ _ (Nat.le_refl _)
  have hlen : (pieces c s.data.toList).length = Lib.countB s ⟨#[c]⟩ + 1 := by
    rw [← hp, List.length_map]; exact Lib.splitB_all ⟨#[c]⟩ (Nat.le_refl 1) 0 _ s rfl
  have hcells : (Lib.splitB ⟨#[c]⟩ 0 (Lib.countB s ⟨#[c]⟩) s).map Value.string = scells (pieces c s.data.toList) := by
    rw [← hp]; unfold scells; rw [List.map_map]; rfl
  have hcnt : Lib.countB s ⟨#[c]⟩ ≤ s.size := Lib.countB_le ⟨#[c]⟩ (Nat.le_refl 1) s.size s (Nat.le_refl _)
  refine ⟨_, rfl, ?_, (Below.refl _ _).alloc (Nat.le_refl _) _⟩
  rw [hcells, hlen]
  refine ⟨by rw [scells_len, hlen]; omega, .inr ⟨w.heap.size, _, _, rfl, Nat.le_refl _, heap_alloc_new w _, Nat.le_refl _, by unfold maxLen; omega, ?_, ?_⟩⟩
  · simp [scells_len, hlen]
  · simp only [Nat.mul_one]
    rw [List.take_of_length_le (by rw [List.toList_toArray, scells_len, hlen]; omega)]
end Go.Proofs.YtehdeclpighdeaaGreatDoor
