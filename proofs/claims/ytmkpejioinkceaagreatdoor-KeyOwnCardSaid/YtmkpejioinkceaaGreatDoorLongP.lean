/- An address opened: the argument of a row. Is an address longer than is gone through? And the six cells of its box. -/
import Derived.Test.YtmkpejioinkceaaGreatDoorOpen0
import Derived.Test.YtmkpejioinkceaaGreatDoorUriPut
namespace Go.Proofs.YtmkpejioinkceaaGreatDoor
open Go.RowKit Go.ChangeShapes Go.WideShapes
set_option linter.unusedVariables false

theorem sf_uri : sfields (Tryz.prog.underlying 23) = some [(0, 9), (1, 9), (2, 3), (3, 9), (4, 9), (5, 4)] := by kernel_rfl
theorem n_uri : Tryz.prog.cellsOf 23 = 6 := by kernel_rfl
/-- How long an address may be at all. -/
structure BigU (u : U) : Prop where
  scheme : u.scheme.length ≤ 140737488351232
  host : u.host.length ≤ 140737488351232
  path : u.path.length ≤ 140737488351232
  query : u.query.length ≤ 140737488351232
section
variable {H : Type} {enc : TypeId × Value → H} {W : World} {held : Bool}
set_option maxRecDepth 100000 in
theorem open_uri {r : Reach} {b0 : Nat} {v : Value} {d : DataW H} {p : List MemPlace} (hv : Value.okWide Tryz.prog W r b0 23 v) (h : DataW.Trod enc Tryz.prog W 0 (fun _ => true) held 23 v d p) (hL : Light 23 d) :
    ∃ u : U, v = uV u ∧ BigU u := by
  obtain ⟨l, rfl, hlen⟩ := ok_struct sf_uri n_uri hv
  match l, hlen with
  | [c0, c1, c2, c3, c4, c5], _ =>
    obtain ⟨fuel, hf⟩ := h
    obtain ⟨y0, n0, t0, L0⟩ := field_of sf_uri hf 0 0 _ rfl n_str
    obtain ⟨y1, n1, t1, L1⟩ := field_of sf_uri hf 1 1 _ rfl n_str
    obtain ⟨y2, n2, t2, L2⟩ := field_of sf_uri hf 2 2 _ rfl n_int
    obtain ⟨y3, n3, t3, L3⟩ := field_of sf_uri hf 3 3 _ rfl n_str
    obtain ⟨y4, n4, t4, L4⟩ := field_of sf_uri hf 4 4 _ rfl n_str
    obtain ⟨y5, n5, t5, L5⟩ := field_of sf_uri hf 5 5 _ rfl n_bool
    simp only [Value.cells, List.drop, List.take] at t0 t1 t2 t3 t4 t5
    have M0 := L0 hL
    have M1 := L1 hL
    have M3 := L3 hL
    have M4 := L4 hL
    obtain ⟨s0, k0, rfl, z0⟩ := DataW.trod_string u9 t0
    obtain ⟨s1, k1, rfl, z1⟩ := DataW.trod_string u9 t1
    obtain ⟨i2, k2, _⟩ := DataW.trod_int u3 t2
    obtain ⟨s3, k3, rfl, z3⟩ := DataW.trod_string u9 t3
    obtain ⟨s4, k4, rfl, z4⟩ := DataW.trod_string u9 t4
    obtain ⟨b5, k5, _⟩ := DataW.trod_bool u4 t5
    simp only [List.cons.injEq, and_true] at k0 k1 k2 k3 k4 k5
    subst k0; subst k1; subst k2; subst k3; subst k4; subst k5
    exact ⟨⟨s0.data.toList, s1.data.toList, i2, s3.data.toList, s4.data.toList, b5⟩, rfl, light_string M0, light_string M1, light_string M3, light_string M4⟩
end
end Go.Proofs.YtmkpejioinkceaaGreatDoor

namespace Go.Proofs.YtmkpejioinkceaaGreatDoor
open Go.RowKit
set_option linter.unusedVariables false

def longU (u : U) : Bool := decide (3000 < u.scheme.length + u.host.length + u.path.length + u.query.length)
/-- The box's six cells. -/
abbrev SixU (b : Nat) (u : U) (w' : World) : Prop := w'.cell? ⟨b, 0, none⟩ = some (.string ⟨u.scheme.toArray⟩) ∧ w'.cell? ⟨b, 1, none⟩ = some (.string ⟨u.host.toArray⟩) ∧ w'.cell? ⟨b, 2, none⟩ = some (.int .i64 u.port) ∧ w'.cell? ⟨b, 3, none⟩ = some (.string ⟨u.path.toArray⟩) ∧ w'.cell? ⟨b, 4, none⟩ = some (.string ⟨u.query.toArray⟩) ∧ w'.cell? ⟨b, 5, none⟩ = some (.bool u.hq)
theorem UBx.six {W : World} {b : Nat} {u : U} (h : UBx W b u) : SixU b u W := by
  obtain ⟨c0, c1, c2, c3, c4, c5⟩ := h.cells
  exact ⟨c0, c1, c2, c3, c4, c5⟩
theorem not_long {u : U} (h : longU u = false) : LimU u := by
  unfold longU at h
  have := of_decide_eq_false h
  exact ⟨by omega, by omega, by omega, by omega⟩
end Go.Proofs.YtmkpejioinkceaaGreatDoor
