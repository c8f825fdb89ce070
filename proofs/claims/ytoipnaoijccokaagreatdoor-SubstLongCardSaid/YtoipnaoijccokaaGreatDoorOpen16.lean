/- A number of sixteen bits that came in. -/
import Derived.Test.YtoipnaoijccokaaGreatDoorOpen0
namespace Go.Proofs.YtoipnaoijccokaaGreatDoor
open Go.RowKit Go.ChangeShapes Go.WideShapes
variable {H : Type} {enc : TypeId × Value → H} {W : World} {sp : Nat → Bool} {held : Bool}
set_option linter.unusedVariables false

theorem u22 : Tryz.prog.underlying 22 = some (.int .u16) := by kernel_rfl
set_option maxRecDepth 100000 in
theorem open_u16 {r : Reach} {b0 : Nat} {v : Value} {d : DataW H} {p : List MemPlace} (hv : Value.okWide Tryz.prog W r b0 22 v) (h : DataW.Trod enc Tryz.prog W 0 (fun _ => true) held 22 v d p) :
    ∃ m : Nat, v = .int .u16 (m : Int) ∧ m < 65536 := by
  obtain ⟨n, rfl, _, _, hw⟩ := open_int u22 hv h
  have : 0 ≤ n ∧ n < 65536 := by
    simp only [Lit.wf, Bool.and_eq_true] at hw
    have h1 := of_decide_eq_true hw.1
    have h2 := of_decide_eq_true hw.2
    have e1 : IntKind.u16.min = 0 := rfl
    have e2 : IntKind.u16.max = 65535 := rfl
    omega
  exact ⟨n.toNat, by rw [Int.toNat_of_nonneg this.1], by omega⟩
end Go.Proofs.YtoipnaoijccokaaGreatDoor
