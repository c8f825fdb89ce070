/- A number of thirty-two bits that came in. -/
import Derived.Test.YtehdeclpighdeaaGreatDoorKRowBaseT
namespace Go.Proofs.YtehdeclpighdeaaGreatDoor
open Go.RowKit Go.ChangeShapes Go.WideShapes
variable {H : Type} {enc : TypeId × Value → H} {W : World} {sp : Nat → Bool} {held : Bool}
set_option linter.unusedVariables false
theorem u68 : Tryz.prog.underlying 68 = some (.int .u32) := by kernel_rfl
set_option maxRecDepth 100000 in
theorem open_u32 {r : Reach} {b0 : Nat} {v : Value} {d : DataW H} {p : List MemPlace} (hv : Value.okWide Tryz.prog W r b0 68 v) (h : DataW.Trod enc Tryz.prog W 0 (fun _ => true) held 68 v d p) :
    ∃ m : Nat, v = .int .u32 (m : Int) ∧ m < 4294967296 := by
  obtain ⟨n, rfl, _, _, hw⟩ := open_int u68 hv h
  have : 0 ≤ n ∧ n < 4294967296 := by
    simp only [Lit.wf, Bool.and_eq_true] at hw
    have h1 := of_decide_eq_true hw.1
    have h2 := of_decide_eq_true hw.2
    have e1 : IntKind.u32.min = 0 := rfl
    have e2 : IntKind.u32.max = 4294967295 := rfl
    omega
  exact ⟨n.toNat, by rw [Int.toNat_of_nonneg this.1], by omega⟩
end Go.Proofs.YtehdeclpighdeaaGreatDoor
