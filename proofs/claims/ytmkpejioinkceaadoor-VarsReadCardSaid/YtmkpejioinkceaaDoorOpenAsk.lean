/- An argument opened: what is asked. -/
import Derived.Test.YtmkpejioinkceaaDoorOpen
namespace Go.Proofs.YtmkpejioinkceaaDoor
open Go.RowKit Go.ChangeShapes Go.WideShapes
set_option linter.unusedVariables false

theorem sf_ask : sfields (Tryd.prog.underlying 26) = some [(0, 9), (1, 9), (2, 9), (3, 4)] := by kernel_rfl
theorem n_ask : Tryd.prog.cellsOf 26 = 4 := by kernel_rfl
section
variable {H : Type} {enc : TypeId × Value → H} {W : World} {base : Nat} {sp : Nat → Bool} {held : Bool}
set_option maxRecDepth 100000 in
theorem open_ask {r : Reach} {b0 : Nat} {v : Value} {d : DataW H} {p : List MemPlace} (hv : Value.okWide Tryd.prog W r b0 26 v) (h : DataW.Trod enc Tryd.prog W 0 (fun _ => true) held 26 v d p) (hL : Light 26 d) :
    ∃ (host name key : ByteArray) (has : Bool), v = .agg #[.string host, .string name, .string key, .bool has] ∧ host.size ≤ 140737488351232 ∧ name.size ≤ 140737488351232 ∧ key.size ≤ 140737488351232 := by
  obtain ⟨l, rfl, hlen⟩ := ok_struct sf_ask n_ask hv
  match l, hlen with
  | [c0, c1, c2, c3], _ =>
    obtain ⟨fuel, hf⟩ := h
    obtain ⟨y0, n0, t0, L0⟩ := field_of sf_ask hf 0 0 _ rfl n_str
    obtain ⟨y1, n1, t1, L1⟩ := field_of sf_ask hf 1 1 _ rfl n_str
    obtain ⟨y2, n2, t2, L2⟩ := field_of sf_ask hf 2 2 _ rfl n_str
    obtain ⟨y3, n3, t3, L3⟩ := field_of sf_ask hf 3 3 _ rfl n_bool
    simp only [Value.cells, List.drop, List.take] at t0 t1 t2 t3
    have M0 := L0 hL
    obtain ⟨s0, k0, rfl, z0⟩ := DataW.trod_string u9 t0
    have M1 := L1 hL
    obtain ⟨s1, k1, rfl, z1⟩ := DataW.trod_string u9 t1
    have M2 := L2 hL
    obtain ⟨s2, k2, rfl, z2⟩ := DataW.trod_string u9 t2
    obtain ⟨b3, k3, _⟩ := DataW.trod_bool u4 t3
    simp only [List.cons.injEq, and_true] at k0 k1 k2 k3
    subst k0; subst k1; subst k2; subst k3
    exact ⟨_, _, _, _, rfl, by rw [← bs_size]; exact light_string M0, by rw [← bs_size]; exact light_string M1, by rw [← bs_size]; exact light_string M2⟩
end
end Go.Proofs.YtmkpejioinkceaaDoor
