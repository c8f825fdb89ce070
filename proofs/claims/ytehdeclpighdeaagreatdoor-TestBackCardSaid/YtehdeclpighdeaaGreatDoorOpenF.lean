/- Arguments opened: a list of fields. -/
import Derived.Test.YtehdeclpighdeaaGreatDoorCopy
import Derived.Test.YtehdeclpighdeaaGreatDoorOpen0
namespace Go.Proofs.YtehdeclpighdeaaGreatDoor
open Go.RowKit Go.ChangeShapes Go.WideShapes
set_option linter.unusedVariables false

theorem sf_fld : sfields (Tryz.prog.underlying 103) = some [(0, 9), (1, 9)] := by kernel_rfl
theorem n_fld : Tryz.prog.cellsOf 103 = 2 := by kernel_rfl
theorem n_flds : Tryz.prog.cellsOf 56 = 1 := by kernel_rfl

/-- How long the fields' texts may be. -/
def Small (fs : List Fld) : Prop := fs.length ≤ 140737488351232 ∧ ∀ f ∈ fs, f.1.length ≤ 140737488351232 ∧ f.2.length ≤ 140737488351232
theorem bytes_fld : Tryz.prog.bytesOf 103 = 32 := by kernel_rfl

section
variable {H : Type} {enc : TypeId × Value → H} {W : World} {sp : Nat → Bool} {held : Bool}
theorem open_fields {fuel : Nat} {v : Value} {x : DataW H × List MemPlace} (h : DataW.trod enc Tryz.prog W 0 (fun _ => true) held fuel 56 [v] = some x) (hL : Light 56 x.1) : ∃ a n c fs, v = .slice a n c ∧ FieldsAt W (.slice a n c) fs ∧ Small fs := by
  rcases Go.Deep.open_slice u56 h with ⟨hcs, hx⟩ | ⟨a, len, cap, m, n, D, Pl, hcs, _, hl, hm, hmm, hx, hi⟩
  · simp only [List.cons.injEq, and_true] at hcs
    exact ⟨none, 0, 0, [], hcs, .inl ⟨none, 0, rfl, rfl⟩, Nat.zero_le _, fun f hf => by cases hf⟩
  · simp only [List.cons.injEq, and_true] at hcs
    simp only [if_true] at hmm
    rw [n_fld] at hi
    have key : ∀ i, i < len → ∃ f : Fld, W.cell? (a.add (i * 2)) = some (.string ⟨f.1.toArray⟩) ∧ W.cell? ((a.add (i * 2)).add 1) = some (.string ⟨f.2.toArray⟩) ∧ f.1.length ≤ 140737488351232 ∧ f.2.length ≤ 140737488351232 := fun i hil => by
      obtain ⟨cs', hc, ht⟩ := hi i (by omega)
      obtain ⟨_, hcl, hat⟩ := World.cells?_some hc
      obtain ⟨y0, n0, t0, L0⟩ := field_of sf_fld ht 0 0 _ rfl n_str
      obtain ⟨y1, n1, t1, L1⟩ := field_of sf_fld ht 1 1 _ rfl n_str
      match cs', hcl with
      | [e0, e1], _ =>
        have LD : Light 103 (D i) := light_elem u56 (by rw [hx] at hL; exact hL) (List.mem_map.2 ⟨i, List.mem_range.2 hil, rfl⟩)
        have M0 := L0 LD
        have M1 := L1 LD
        obtain ⟨s0, k0, rfl, z0⟩ := DataW.trod_string u9 t0
        obtain ⟨s1, k1, rfl, z1⟩ := DataW.trod_string u9 t1
        simp at k0 k1
        subst k0; subst k1
        have a0 := hat 0 (by omega)
        have a1 := hat 1 (by omega)
        rw [Addr.add_zero'] at a0
        exact ⟨(s0.data.toList, s1.data.toList), by simpa using a0, by simpa using a1, light_string M0, light_string M1⟩
    obtain ⟨fs, hfl, hfs⟩ := list_of len key
    obtain ⟨b, o, spot⟩ := a
    have hlen : len ≤ 140737488351232 := by
      have := light_slice u56 (by rw [hx] at hL; exact hL)
      rw [bytes_fld] at this
      simp only [List.length_map, List.length_range, reachBytes] at this
      omega
    refine ⟨_, _, _, fs, hcs, ?_, by omega, fun f hf => ?_⟩
    · by_cases h0 : len = 0
      · subst h0; exact .inl ⟨_, _, rfl, List.eq_nil_of_length_eq_zero hfl⟩
      · obtain ⟨f, hf⟩ : ∃ f, fs[0]? = some f := ⟨fs[0]'(by omega), List.getElem?_eq_getElem _⟩
        have h1 := (hfs 0 f hf).1
        have hspot : spot = none := by simpa [Addr.add] using World.cell?_spot h1
        subst hspot
        rw [add_at] at h1
        refine .inr ⟨b, o, cap, by rw [hfl], by omega, cell_lt h1, fun j g hg => ?_⟩
        obtain ⟨e1, e2, _⟩ := hfs j g hg
        rw [add_at] at e1 e2
        rw [add_at] at e2
        exact ⟨e1, e2⟩
    · obtain ⟨i, hi⟩ := List.mem_iff_getElem?.1 hf
      exact (hfs i f hi).2.2
end
end Go.Proofs.YtehdeclpighdeaaGreatDoor
