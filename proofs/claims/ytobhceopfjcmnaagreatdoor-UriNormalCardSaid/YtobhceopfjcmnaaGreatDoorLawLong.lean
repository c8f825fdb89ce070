/- The law's function long: is an address longer than is gone through? -/
import Derived.Test.YtobhceopfjcmnaaGreatDoorUriPut
import Derived.Test.YtobhceopfjcmnaaGreatDoorOpenUri
namespace Go.Proofs.YtobhceopfjcmnaaGreatDoor
open Go.RowKit
set_option linter.unusedVariables false

def longU (u : U) : Bool := decide (3000 < u.scheme.length + u.host.length + u.path.length + u.query.length)
set_option maxRecDepth 100000 in
theorem law09_long (u : U) (w : World) (hu : BigU u) : Calls Tryz.prog 14 #[uV u] w (Ret w (.bool (longU u))) := by
  have HB := Lib.hid (ubx_new w u)
  have HW := Lib.hid ((Below.refl w.heap.size w).alloc (Nat.le_refl _) (.cells #[.string ⟨u.scheme.toArray⟩, .string ⟨u.host.toArray⟩, .int .i64 u.port, .string ⟨u.path.toArray⟩, .string ⟨u.query.toArray⟩, .bool u.hq] 23))
  have HE := Lib.hid (show longU u = decide ((3000 : Int) < (u.scheme.length : Int) + u.host.length + u.path.length + u.query.length) by
    unfold longU; rw [decide_eq_decide]; omega)
  obtain ⟨l1, l2, l3, l4⟩ := hu
  obtain ⟨c0, c1, c2, c3, c4, c5⟩ := HB.out.cells
  go_enter Tryz.func14, Tryz.ntmps14
  go_wp2_with fail
  go_ret
  exact ⟨by rw [HE.out]; rfl, HW.out⟩
/-- The box's six cells. -/
abbrev SixU (b : Nat) (u : U) (w' : World) : Prop := w'.cell? ⟨b, 0, none⟩ = some (.string ⟨u.scheme.toArray⟩) ∧ w'.cell? ⟨b, 1, none⟩ = some (.string ⟨u.host.toArray⟩) ∧ w'.cell? ⟨b, 2, none⟩ = some (.int .i64 u.port) ∧ w'.cell? ⟨b, 3, none⟩ = some (.string ⟨u.path.toArray⟩) ∧ w'.cell? ⟨b, 4, none⟩ = some (.string ⟨u.query.toArray⟩) ∧ w'.cell? ⟨b, 5, none⟩ = some (.bool u.hq)
theorem UBx.six {W : World} {b : Nat} {u : U} (h : UBx W b u) : SixU b u W := by
  obtain ⟨c0, c1, c2, c3, c4, c5⟩ := h.cells
  exact ⟨c0, c1, c2, c3, c4, c5⟩
theorem not_long {u : U} (h : longU u = false) : LimU u := by
  unfold longU at h
  have := of_decide_eq_false h
  exact ⟨by omega, by omega, by omega, by omega⟩
end Go.Proofs.YtobhceopfjcmnaaGreatDoor
