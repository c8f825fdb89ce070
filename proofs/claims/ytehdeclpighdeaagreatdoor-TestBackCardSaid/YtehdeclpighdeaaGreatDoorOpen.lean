/- Arguments opened: a request. -/
import Derived.Test.YtehdeclpighdeaaGreatDoorOpenF
namespace Go.Proofs.YtehdeclpighdeaaGreatDoor
open Go.RowKit Go.ChangeShapes Go.WideShapes
set_option linter.unusedVariables false

theorem sf_req : sfields (Tryz.prog.underlying 62) = some [(0, 9), (1, 9), (2, 3), (3, 56), (4, 9)] := by kernel_rfl
theorem n_req : Tryz.prog.cellsOf 62 = 5 := by kernel_rfl
section
variable {H : Type} {enc : TypeId × Value → H} {W : World} {sp : Nat → Bool} {held : Bool}
set_option maxRecDepth 100000 in
theorem open_req {r : Reach} {b0 : Nat} {v : Value} {d : DataW H} {p : List MemPlace} (hv : Value.okWide Tryz.prog W r b0 62 v) (h : DataW.Trod enc Tryz.prog W 0 (fun _ => true) held 62 v d p) (hL : Light 62 d) :
    ∃ (m t bd : ByteArray) (mn : Int) (a : Option Addr) (n c : Nat) (fs : List Fld), v = .agg #[.string m, .string t, .int .i64 mn, .slice a n c, .string bd] ∧ FieldsAt W (.slice a n c) fs ∧ Small fs ∧ m.size ≤ 140737488351232 ∧ t.size ≤ 140737488351232 ∧ bd.size ≤ 140737488351232 := by
  obtain ⟨l, rfl, hlen⟩ := ok_struct sf_req n_req hv
  match l, hlen with
  | [c0, c1, c2, c3, c4], _ =>
    obtain ⟨fuel, hf⟩ := h
    obtain ⟨y0, n0, t0, L0⟩ := field_of sf_req hf 0 0 _ rfl n_str
    obtain ⟨y1, n1, t1, L1⟩ := field_of sf_req hf 1 1 _ rfl n_str
    obtain ⟨y2, n2, t2, L2⟩ := field_of sf_req hf 2 2 _ rfl n_int
    obtain ⟨y3, n3, t3, L3⟩ := field_of sf_req hf 3 3 _ rfl n_flds
    obtain ⟨y4, n4, t4, L4⟩ := field_of sf_req hf 4 4 _ rfl n_str
    simp only [Value.cells, List.drop, List.take] at t0 t1 t2 t3 t4
    have M0 := L0 hL
    obtain ⟨s0, k0, rfl, z0⟩ := DataW.trod_string u9 t0
    have M1 := L1 hL
    obtain ⟨s1, k1, rfl, z1⟩ := DataW.trod_string u9 t1
    obtain ⟨i2, k2, _⟩ := DataW.trod_int u3 t2
    obtain ⟨a, n, c, gs, rfl, hF, hS⟩ := open_fields t3 (L3 hL)
    have M4 := L4 hL
    obtain ⟨s4, k4, rfl, z4⟩ := DataW.trod_string u9 t4
    simp only [List.cons.injEq, and_true] at k0 k1 k2 k4
    subst k0; subst k1; subst k2; subst k4
    exact ⟨_, _, _, _, _, _, _, gs, rfl, hF, hS, by rw [← bs_size]; exact light_string M0, by rw [← bs_size]; exact light_string M1, by rw [← bs_size]; exact light_string M4⟩
end
end Go.Proofs.YtehdeclpighdeaaGreatDoor
