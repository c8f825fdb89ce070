/- A reply opened: the argument of a row. -/
import Derived.Test.YtmkpejioinkceaaGreatDoorOpenF
namespace Go.Proofs.YtmkpejioinkceaaGreatDoor
open Go.RowKit Go.ChangeShapes Go.WideShapes
set_option linter.unusedVariables false

theorem sf_rep : sfields (Tryz.prog.underlying 31) = some [(0, 3), (1, 9), (2, 3), (3, 29), (4, 9)] := by kernel_rfl
theorem n_rep : Tryz.prog.cellsOf 31 = 5 := by kernel_rfl
/-- A reply as a value. -/
abbrev repV (st : Int) (m : ByteArray) (mn : Int) (a : Option Addr) (n c : Nat) (bd : ByteArray) : Value := .agg #[.int .i64 st, .string m, .int .i64 mn, .slice a n c, .string bd]
section
variable {H : Type} {enc : TypeId × Value → H} {W : World} {held : Bool}
set_option maxRecDepth 100000 in
theorem open_rep {r : Reach} {b0 : Nat} {v : Value} {d : DataW H} {p : List MemPlace} (hv : Value.okWide Tryz.prog W r b0 31 v) (h : DataW.Trod enc Tryz.prog W 0 (fun _ => true) held 31 v d p) (hL : Light 31 d) :
    ∃ (st : Int) (m bd : ByteArray) (mn : Int) (a : Option Addr) (n c : Nat) (fs : List Fld), v = repV st m mn a n c bd ∧ FieldsAt W (.slice a n c) fs ∧ Small fs := by
  obtain ⟨l, rfl, hlen⟩ := ok_struct sf_rep n_rep hv
  match l, hlen with
  | [c0, c1, c2, c3, c4], _ =>
    obtain ⟨fuel, hf⟩ := h
    obtain ⟨y0, n0, t0, L0⟩ := field_of sf_rep hf 0 0 _ rfl n_int
    obtain ⟨y1, n1, t1, L1⟩ := field_of sf_rep hf 1 1 _ rfl n_str
    obtain ⟨y2, n2, t2, L2⟩ := field_of sf_rep hf 2 2 _ rfl n_int
    obtain ⟨y3, n3, t3, L3⟩ := field_of sf_rep hf 3 3 _ rfl n_flds
    obtain ⟨y4, n4, t4, L4⟩ := field_of sf_rep hf 4 4 _ rfl n_str
    simp only [Value.cells, List.drop, List.take] at t0 t1 t2 t3 t4
    obtain ⟨i0, k0, _⟩ := DataW.trod_int u3 t0
    obtain ⟨s1, k1, rfl, z1⟩ := DataW.trod_string u9 t1
    obtain ⟨i2, k2, _⟩ := DataW.trod_int u3 t2
    obtain ⟨a, n, c, gs, rfl, hF, hS⟩ := open_fields t3 (L3 hL)
    obtain ⟨s4, k4, rfl, z4⟩ := DataW.trod_string u9 t4
    simp only [List.cons.injEq, and_true] at k0 k1 k2 k4
    subst k0; subst k1; subst k2; subst k4
    exact ⟨i0, _, _, i2, _, _, _, gs, rfl, hF, hS⟩
end
end Go.Proofs.YtmkpejioinkceaaGreatDoor
