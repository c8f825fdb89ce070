/- The law's function long: is an address longer than is gone through? -/
import Derived.Test.YtobhceopfjcmnaaDoorUriPut
import Derived.Test.YtobhceopfjcmnaaDoorOpenUri
namespace Go.Proofs.YtobhceopfjcmnaaDoor
open Go.RowKit
set_option linter.unusedVariables false

def longU (u : U) : Bool := decide (3000 < u.scheme.length + u.host.length + u.path.length + u.query.length)
set_option maxRecDepth 100000 in
theorem law09_long (u : U) (w : World) (hu : BigU u) : Calls Tryd.prog 11 #[uV u] w (Ret w (.bool (longU u))) := by
  have HB := Lib.hid (ubx_new w u)
  have HW := Lib.hid ((Below.refl w.heap.size w).alloc (Nat.le_refl _) (.cells #[.string ⟨u.scheme.toArray⟩, .string ⟨u.host.toArray⟩, .int .i64 u.port, .string ⟨u.path.toArray⟩, .string ⟨u.query.toArray⟩, .bool u.hq] 24))
  have HE := Lib.hid (show longU u = decide ((3000 : Int) < (u.scheme.length : Int) + u.host.length + u.path.length + u.query.length) by
    unfold longU; rw [decide_eq_decide]; omega)
  obtain ⟨l1, l2, l3, l4⟩ := hu
  obtain ⟨c0, c1, c2, c3, c4, c5⟩ := HB.out.cells
  go_enter Tryd.func11, Tryd.ntmps11
  go_wp2_with fail
  go_ret
  exact ⟨by rw [HE.out]; rfl, HW.out⟩
end Go.Proofs.YtobhceopfjcmnaaDoor
