/- The walk of fields.Get. -/
import Derived.Test.YtehdeclpighdeaaGreatDoorVals
import Derived.Test.YtehdeclpighdeaaGreatDoorLib
namespace Go.Proofs.YtehdeclpighdeaaGreatDoor
open Go.RowKit
set_option linter.unusedVariables false

theorem fields_Get (fs : List Fld) (v : Value) (name : ByteArray) (w : World) (hF : FieldsAt w v fs) (hlim : Lim fs) (hn : name.size ≤ 140737488351232) :
    Calls Tryz.prog 159 #[v, .string name] w (Ret w (.tuple #[.string ⟨(fget fs name.data.toList).1.toArray⟩, .bool (fget fs name.data.toList).2])) := by
  have hL := hlim.values name.data.toList
  go_enter Tryz.func159, Tryz.ntmps159
  go_wp2_with fail
  refine (fields_Values fs v name _ hF hlim hn).mono ?_
  rintro e w1 ⟨u, rfl, hown, hb1⟩
  have hS := StrsAt.of_own hown
  obtain ⟨a, c, rfl⟩ := own_shape hown
  go_wp2_with fail
  refine (lib_Join _ _ ⟨#[44, 32]⟩ _ hS hL (by decide)).mono ?_
  rintro e w2 ⟨rfl, hb2⟩
  go_wp2_with fail
  go_ret2
  exact ⟨by simp [fget], hb1.trans (hb2.mono hb1.size)⟩
theorem fget_len {fs : List Fld} (h : Lim fs) (name : Bs) : (fget fs name).1.length ≤ 100002000 := join_len (h.values name) [44, 32] (by decide)
theorem bsz (l : Bs) (n : Nat) (h : l.length ≤ n) : (⟨l.toArray⟩ : ByteArray).size ≤ n := by show l.toArray.size ≤ n; simpa using h
theorem bsz_lt (l : Bs) (n : Nat) (h : l.length < n) : (⟨l.toArray⟩ : ByteArray).size < n := by show l.toArray.size < n; simpa using h
theorem vcookies_len {fs : List Fld} (h : Lim fs) : (vcookies fs).1.length ≤ 100002000 := join_len (h.values cookieName) [59, 32] (by decide)
theorem strs_lt {w : World} {b o : Nat} {ls : List Bs} (h : SCells w b o ls) {k : Nat} {l : Bs} (hl : ls[k]? = some l) : b < w.heap.size := cell_lt (h k l hl)
end Go.Proofs.YtehdeclpighdeaaGreatDoor
