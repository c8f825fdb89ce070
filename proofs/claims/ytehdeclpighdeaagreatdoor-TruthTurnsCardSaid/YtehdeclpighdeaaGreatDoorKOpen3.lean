/- Three trees that came in, and fields. -/
import Derived.Test.YtehdeclpighdeaaGreatDoorKCopy
import Derived.Test.YtehdeclpighdeaaGreatDoorKOpen0
import Derived.Test.YtehdeclpighdeaaGreatDoorKTestSz
namespace Go.Proofs.YtehdeclpighdeaaGreatDoor
open Go.RowKit Go.ChangeShapes Go.WideShapes
set_option linter.unusedVariables false
theorem sf_fld : sfields (Tryz.prog.underlying 103) = some [(0, 9), (1, 9)] := by kernel_rfl
theorem n_fld : Tryz.prog.cellsOf 103 = 2 := by kernel_rfl
def Small (fs : List Fld) : Prop := fs.length ≤ 140737488351232 ∧ ∀ f ∈ fs, f.1.length ≤ 140737488351232 ∧ f.2.length ≤ 140737488351232
theorem bytes_fld : Tryz.prog.bytesOf 103 = 32 := by kernel_rfl
section
variable {H : Type} {enc : TypeId × Value → H} {W : World} {sp : Nat → Bool} {held : Bool}
theorem open_fields {fuel : Nat} {v : Value} {x : DataW H × List MemPlace} (h : DataW.trod enc Tryz.prog W 0 (fun _ => true) held fuel 56 [v] = some x) (hL : Light 56 x.1) : ∃ a n c fs, v = .slice a n c ∧ FieldsAt W (.slice a n c) fs ∧ Small fs := by
  rcases Go.Deep.open_slice u56 h with ⟨hcs, hx⟩ | ⟨a, len, cap, m, n, D, Pl, hcs, _, hl, hm, hmm, hx, hi⟩
  · simp only [List.cons.injEq, and_true] at hcs
    exact ⟨none, 0, 0, [], hcs, .inl ⟨none, 0, rfl, rfl⟩, Nat.zero_le _, fun f hf => by cases hf⟩
  · simp only [List.cons.injEq, and_true] at hcs
    simp only [if_true] at hmm
    rw [n_fld] at hi
    have key : ∀ i, i < len → ∃ f : Fld, W.cell? (a.add (i * 2)) = some (.string ⟨f.1.toArray⟩) ∧ W.cell? ((a.add (i * 2)).add 1) = some (.string ⟨f.2.toArray⟩) ∧ f.1.length ≤ 140737488351232 ∧ f.2.length ≤ 140737488351232 := fun i hil => by
      obtain ⟨cs', hc, ht⟩ := hi i (by omega)
      obtain ⟨_, hcl, hat⟩ := World.cells?_some hc
      obtain ⟨y0, n0, t0, L0⟩ := field_of sf_fld ht 0 0 _ rfl n_str
      obtain ⟨y1, n1, t1, L1⟩ := field_of sf_fld ht 1 1 _ rfl n_str
      match cs', hcl with
      | [e0, e1], _ =>
        have LD : Light 103 (D i) := light_elem u56 (by rw [hx] at hL; exact hL) (List.mem_map.2 ⟨i, List.mem_range.2 hil, rfl⟩)
        have M0 := L0 LD
        have M1 := L1 LD
        obtain ⟨s0, k0, rfl, z0⟩ := DataW.trod_string u9 t0
        obtain ⟨s1, k1, rfl, z1⟩ := DataW.trod_string u9 t1
        simp at k0 k1
        subst k0; subst k1
        have a0 := hat 0 (by omega)
        have a1 := hat 1 (by omega)
        rw [Addr.add_zero'] at a0
        exact ⟨(s0.data.toList, s1.data.toList), by simpa using a0, by simpa using a1, light_string M0, light_string M1⟩
    obtain ⟨fs, hfl, hfs⟩ := list_of len key
    obtain ⟨b, o, spot⟩ := a
    have hlen : len ≤ 140737488351232 := by
      have := light_slice u56 (by rw [hx] at hL; exact hL)
      rw [bytes_fld] at this
      simp only [List.length_map, List.length_range, reachBytes] at this
      omega
    refine ⟨_, _, _, fs, hcs, ?_, by omega, fun f hf => ?_⟩
    · by_cases h0 : len = 0
      · subst h0; exact .inl ⟨_, _, rfl, List.eq_nil_of_length_eq_zero hfl⟩
      · obtain ⟨f, hf⟩ : ∃ f, fs[0]? = some f := ⟨fs[0]'(by omega), List.getElem?_eq_getElem _⟩
        have h1 := (hfs 0 f hf).1
        have hspot : spot = none := by simpa [Addr.add] using World.cell?_spot h1
        subst hspot
        rw [add_at] at h1
        refine .inr ⟨b, o, cap, by rw [hfl], by omega, cell_lt h1, fun j g hg => ?_⟩
        obtain ⟨e1, e2, _⟩ := hfs j g hg
        rw [add_at] at e1 e2
        rw [add_at] at e2
        exact ⟨e1, e2⟩
    · obtain ⟨i, hi⟩ := List.mem_iff_getElem?.1 hf
      exact (hfs i f hi).2.2
end
end Go.Proofs.YtehdeclpighdeaaGreatDoor
namespace Go.Proofs.YtehdeclpighdeaaGreatDoor
open Go.RowKit Go.ChangeShapes Go.WideShapes
set_option linter.unusedVariables false
theorem sf_three : sfields (Tryz.prog.underlying 55) = some [(0, 27), (10, 27), (20, 27)] := by kernel_rfl
theorem n_three : Tryz.prog.cellsOf 55 = 30 := by kernel_rfl
section
variable {H : Type} {enc : TypeId × Value → H} {W : World} {held : Bool}
theorem ten_of28 {l : List Value} {A : Nat → Prop} {x : Ex} (h : ExAt A W x (.agg l.toArray)) : ∃ k t u a n c, l = exL k t u (.slice a n c) ∧ ExAt A W x (exV k t u (.slice a n c)) := by
  obtain ⟨k, t, u, a, n, c, e⟩ := h.ten
  refine ⟨k, t, u, a, n, c, ?_, e ▸ h⟩
  injection e with e
  have := congrArg Array.toList e
  simpa using this
set_option maxRecDepth 100000 in
theorem open_three {r : Reach} {b0 : Nat} {v : Value} {d : DataW H} {p : List MemPlace} (hv : Value.okWide Tryz.prog W r b0 55 v) (h : DataW.Trod enc Tryz.prog W 0 (fun _ => true) held 55 v d p) (hL : Light 55 d) :
    ∃ (x1 x2 x3 : Ex) (k1 k2 k3 : Int) (t1 t2 t3 : Bs) (u1 u2 u3 : UseI) (a1 a2 a3 : Option Addr) (n1 n2 n3 c1 c2 c3 : Nat), v = .agg (exL k1 t1 u1 (.slice a1 n1 c1) ++ exL k2 t2 u2 (.slice a2 n2 c2) ++ exL k3 t3 u3 (.slice a3 n3 c3)).toArray ∧
      ExAt (fun _ => True) W x1 (exV k1 t1 u1 (.slice a1 n1 c1)) ∧ ExAt (fun _ => True) W x2 (exV k2 t2 u2 (.slice a2 n2 c2)) ∧ ExAt (fun _ => True) W x3 (exV k3 t3 u3 (.slice a3 n3 c3)) ∧ smallE x1 ∧ smallE x2 ∧ smallE x3 := by
  obtain ⟨l, rfl, hlen⟩ := ok_struct sf_three n_three hv
  obtain ⟨fuel, hf⟩ := h
  have hf : DataW.trod enc Tryz.prog W 0 (fun _ => true) held fuel 55 l = some (d, p) := by simpa [Value.cells] using hf
  obtain ⟨y1, m1, _, hy1, L1⟩ := field_ofN sf_three hf 0 0 10 _ rfl n_ex
  obtain ⟨y2, m2, _, hy2, L2⟩ := field_ofN sf_three hf 1 10 10 _ rfl n_ex
  obtain ⟨y3, m3, _, hy3, L3⟩ := field_ofN sf_three hf 2 20 10 _ rfl n_ex
  obtain ⟨x1, hx1, s1⟩ := open_ex_fuel m1 _ _ hy1 (L1 hL)
  obtain ⟨x2, hx2, s2⟩ := open_ex_fuel m2 _ _ hy2 (L2 hL)
  obtain ⟨x3, hx3, s3⟩ := open_ex_fuel m3 _ _ hy3 (L3 hL)
  obtain ⟨k1, t1, u1, a1, n1, c1, e1, g1⟩ := ten_of28 hx1
  obtain ⟨k2, t2, u2, a2, n2, c2, e2, g2⟩ := ten_of28 hx2
  obtain ⟨k3, t3, u3, a3, n3, c3, e3, g3⟩ := ten_of28 hx3
  refine ⟨x1, x2, x3, k1, k2, k3, t1, t2, t3, u1, u2, u3, a1, a2, a3, n1, n2, n3, c1, c2, c3, ?_, g1, g2, g3, s1, s2, s3⟩
  rw [← e1, ← e2, ← e3]
  congr 2
  have h1 : l = l.take 10 ++ ((l.drop 10).take 10 ++ (l.drop 10).drop 10) := by rw [List.take_append_drop, List.take_append_drop]
  have h2 : (l.drop 20).take 10 = l.drop 20 := List.take_of_length_le (by rw [List.length_drop]; omega)
  rw [h2, List.drop_zero, List.append_assoc]
  conv => lhs; rw [h1]
  rw [List.drop_drop]
set_option maxRecDepth 100000 in
theorem open_flds {r : Reach} {b0 : Nat} {v : Value} {d : DataW H} {p : List MemPlace} (hv : Value.okWide Tryz.prog W r b0 56 v) (h : DataW.Trod enc Tryz.prog W 0 (fun _ => true) held 56 v d p) (hL : Light 56 d) :
    ∃ a n c fs, v = .slice a n c ∧ FieldsAt W (.slice a n c) fs ∧ n = fs.length ∧ Small fs := by
  obtain ⟨fuel, hf⟩ := h
  obtain ⟨a1, n1, c1, rfl⟩ := okWide_slice u56 hv
  have hf : DataW.trod enc Tryz.prog W 0 (fun _ => true) held fuel 56 [.slice a1 n1 c1] = some (d, p) := by simpa [Value.cells] using hf
  obtain ⟨a, n, c, fs, e, h1, h2⟩ := open_fields hf hL
  rw [← e] at h1
  refine ⟨a1, n1, c1, fs, rfl, h1, ?_, h2⟩
  rcases h1 with ⟨_, _, e, rfl⟩ | ⟨_, _, _, e, _⟩
  · injection e
  · injection e
end
end Go.Proofs.YtehdeclpighdeaaGreatDoor
