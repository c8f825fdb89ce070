/- The walk of the program's layer 1: trimming. -/
import Derived.Test.YtehdeclpighdeaaGreatDoorKVals
namespace Go.Proofs.YtehdeclpighdeaaGreatDoor
open Go.RowKit
set_option linter.unusedVariables false
theorem lib_CutPrefix (s p : ByteArray) (w : World) :
    Calls Tryz.prog 132 #[.string s, .string p] w fun e w' => e = .returned (.tuple #[.string ⟨(Lib.trimPrefix s.data.toList p.data.toList).toArray⟩, .bool (Lib.hasPrefix s.data.toList p.data.toList)]) ∧ w = w' := by
  refine (Tryz.strings_CutPrefix s p w).mono ?_
  rintro e w' ⟨rfl, rfl⟩
  exact ⟨rfl, rfl⟩
theorem lib_TrimLeft (s cs : ByteArray) (w : World) (hcs : cs.size < 4294967281) (ha : ∀ (j : Nat) b, cs.data.toList[j]? = some b → b.toNat < 128) :
    Calls Tryz.prog 61 #[.string s, .string cs] w (Ret w (.string ⟨(Lib.trimLeftS s.data.toList cs.data.toList).toArray⟩)) :=
  Any.strings_TrimLeft_laid Tryz.lays161 (by kernel_rfl) s cs w hcs ha
theorem lib_Split1 (s : ByteArray) (c : UInt8) (w : World) (hg : Good w) (hs : s.size < 4294967281) :
    Calls Tryz.prog 177 #[.string s, .string ⟨#[c]⟩] w (RetStrs w (pieces c s.data.toList)) := by
  obtain ⟨m, hm⟩ := hg
  refine (Tryz.strings_Split s ⟨#[c]⟩ m w hs hm (Nat.le_refl 1)).mono ?_
  rintro e w' ⟨rfl, rfl⟩
  have hp : (Lib.splitB ⟨#[c]⟩ 0 (Lib.countB s ⟨#[c]⟩) s).map (·.data.toList) = pieces c s.data.toList := by
    rw [Lib.splitB_data]; exact split_pieces c _ _ (Nat.le_refl _)
  have hlen : (pieces c s.data.toList).length = Lib.countB s ⟨#[c]⟩ + 1 := by
    rw [← hp, List.length_map]; exact Lib.splitB_all ⟨#[c]⟩ (Nat.le_refl 1) 0 _ s rfl
  have hcells : (Lib.splitB ⟨#[c]⟩ 0 (Lib.countB s ⟨#[c]⟩) s).map Value.string = scells (pieces c s.data.toList) := by
    rw [← hp]; unfold scells; rw [List.map_map]; rfl
  have hcnt : Lib.countB s ⟨#[c]⟩ ≤ s.size := Lib.countB_le ⟨#[c]⟩ (Nat.le_refl 1) s.size s (Nat.le_refl _)
  refine ⟨_, rfl, ?_, (Below.refl _ _).alloc (Nat.le_refl _) _⟩
  rw [hcells, hlen]
  refine ⟨by rw [scells_len, hlen]; omega, .inr ⟨w.heap.size, _, _, rfl, Nat.le_refl _, heap_alloc_new w _, Nat.le_refl _, by unfold maxLen; omega, ?_, ?_⟩⟩
  · simp [scells_len, hlen]
  · simp only [Nat.mul_one]
    rw [List.take_of_length_le (by rw [List.toList_toArray, scells_len, hlen]; omega)]
end Go.Proofs.YtehdeclpighdeaaGreatDoor
namespace Go.Proofs.YtehdeclpighdeaaGreatDoor
open Go.RowKit
set_option linter.unusedVariables false
theorem fields_Get (fs : List Fld) (v : Value) (name : ByteArray) (w : World) (hF : FieldsAt w v fs) (hlim : Lim fs) (hn : name.size ≤ 140737488351232) :
    Calls Tryz.prog 159 #[v, .string name] w (Ret w (.tuple #[.string ⟨(fget fs name.data.toList).1.toArray⟩, .bool (fget fs name.data.toList).2])) := by
  have hL := hlim.values name.data.toList
  go_enter Tryz.func159, Tryz.ntmps159
  go_wp2_with fail
  refine (fields_Values fs v name _ hF hlim hn).mono ?_
  rintro e w1 ⟨u, rfl, hown, hb1⟩
  have hS := StrsAt.of_own hown
  obtain ⟨a, c, rfl⟩ := own_shape hown
  go_wp2_with fail
  refine (lib_Join _ _ ⟨#[44, 32]⟩ _ hS hL (by decide)).mono ?_
  rintro e w2 ⟨rfl, hb2⟩
  go_wp2_with fail
  go_ret2
  exact ⟨by simp [fget], hb1.trans (hb2.mono hb1.size)⟩
theorem fget_len {fs : List Fld} (h : Lim fs) (name : Bs) : (fget fs name).1.length ≤ 100002000 := join_len (h.values name) [44, 32] (by decide)
theorem bsz (l : Bs) (n : Nat) (h : l.length ≤ n) : (⟨l.toArray⟩ : ByteArray).size ≤ n := by show l.toArray.size ≤ n; simpa using h
theorem bsz_lt (l : Bs) (n : Nat) (h : l.length < n) : (⟨l.toArray⟩ : ByteArray).size < n := by show l.toArray.size < n; simpa using h
theorem vcookies_len {fs : List Fld} (h : Lim fs) : (vcookies fs).1.length ≤ 100002000 := join_len (h.values cookieName) [59, 32] (by decide)
end Go.Proofs.YtehdeclpighdeaaGreatDoor
namespace Go.Proofs.YtehdeclpighdeaaGreatDoor
open Go.RowKit
set_option linter.unusedVariables false
theorem text_Trim (s : ByteArray) (w : World) (hs : s.size ≤ 9223372036854775807) :
    Calls Tryz.prog 165 #[.string s] w (Ret w (.string ⟨(trim s.data.toList).toArray⟩)) := by
  go_enter Tryz.func165, Tryz.ntmps165
  go_wp2_with fail
  refine (Any.strings_Trim_laid Tryz.lays160 (by kernel_rfl) s ⟨#[32, 9]⟩ _ hs (by decide) (ascii_of_all (by decide))).mono ?_
  rintro e w1 ⟨rfl, hb1⟩
  go_wp2_with fail
  go_ret
  exact ⟨rfl, hb1⟩
end Go.Proofs.YtehdeclpighdeaaGreatDoor
