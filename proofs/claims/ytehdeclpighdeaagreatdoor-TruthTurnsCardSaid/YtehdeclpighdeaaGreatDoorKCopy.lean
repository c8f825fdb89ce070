/- How lists of fields and of texts lie in memory. Lists of fields that a call owns: copied, and built. -/
import Derived.Test.YtehdeclpighdeaaGreatDoorKBase
import Derived.RegionTactic
namespace Go.Proofs.YtehdeclpighdeaaGreatDoor
open Go.RowKit
set_option linter.unusedVariables false
theorem u56 : Tryz.prog.underlying 56 = some (.slice 103) := by kernel_rfl
theorem info103 : (Tryz.prog.info? 103).map (fun i => (i.zero, i.size, i.bytes)) = some (some (.agg #[.string ⟨#[]⟩, .string ⟨#[]⟩]), 2, 32) := by kernel_rfl
def FieldsAt (w : World) (v : Value) (fs : List Fld) : Prop :=
  (∃ a c, v = .slice a 0 c ∧ fs = []) ∨
  ∃ b o c, v = .slice (some ⟨b, o, none⟩) fs.length c ∧ fs.length ≤ c ∧ b < w.heap.size ∧
    ∀ (j : Nat) (f : Fld), fs[j]? = some f → w.cell? ⟨b, o + j * 2, none⟩ = some (.string ⟨f.1.toArray⟩) ∧ w.cell? ⟨b, o + j * 2 + 1, none⟩ = some (.string ⟨f.2.toArray⟩)
def FCells (w : World) (b o : Nat) (fs : List Fld) : Prop :=
  ∀ (j : Nat) (f : Fld), fs[j]? = some f → w.cell? ⟨b, o + j * 2, none⟩ = some (.string ⟨f.1.toArray⟩) ∧ w.cell? ⟨b, o + j * 2 + 1, none⟩ = some (.string ⟨f.2.toArray⟩)
theorem FCells.below {w w' : World} {b o n : Nat} {fs : List Fld} (h : FCells w b o fs) (hb : Below n w w') (hlt : b < n) : FCells w' b o fs := fun j f hf =>
  ⟨(hb.cell (p := ⟨b, _, none⟩) hlt).trans (h j f hf).1, (hb.cell (p := ⟨b, _, none⟩) hlt).trans (h j f hf).2⟩
theorem FieldsAt.below {w w' : World} {v : Value} {fs : List Fld} (h : FieldsAt w v fs) (hb : Below w.heap.size w w') : FieldsAt w' v fs := by
  rcases h with h | ⟨b, o, c, rfl, hc, hlt, hcell⟩
  · exact .inl h
  · exact .inr ⟨b, o, c, rfl, hc, Nat.lt_of_lt_of_le hlt hb.size, FCells.below hcell hb hlt⟩
end Go.Proofs.YtehdeclpighdeaaGreatDoor
namespace Go.Proofs.YtehdeclpighdeaaGreatDoor
open Go.RowKit
set_option linter.unusedVariables false
def fcells : List Fld → List Value
  | [] => []
  | f :: r => .string ⟨f.1.toArray⟩ :: .string ⟨f.2.toArray⟩ :: fcells r
theorem fcells_len : ∀ fs : List Fld, (fcells fs).length = fs.length * 2
  | [] => rfl
  | f :: r => by simp [fcells, fcells_len r]; omega
theorem fcells_app : ∀ fs gs : List Fld, fcells (fs ++ gs) = fcells fs ++ fcells gs
  | [], gs => rfl
  | f :: r, gs => by simp [fcells, fcells_app r gs]
theorem fcells_one : ∀ (fs : List Fld) (u : Value), u ∈ fcells fs → u.oneCell' = true
  | [], u, h => by cases h
  | f :: r, u, h => by
    simp only [fcells, List.mem_cons] at h
    rcases h with rfl | rfl | h
    · rfl
    · rfl
    · exact fcells_one r u h
theorem fcells_at : ∀ (fs : List Fld) (j : Nat) (f : Fld), fs[j]? = some f → (fcells fs)[j * 2]? = some (.string ⟨f.1.toArray⟩) ∧ (fcells fs)[j * 2 + 1]? = some (.string ⟨f.2.toArray⟩)
  | [], j, f, h => by simp at h
  | g :: r, 0, f, h => by obtain rfl : g = f := by simpa using h
                          exact ⟨rfl, rfl⟩
  | g :: r, j + 1, f, h => by
    have := fcells_at r j f (by simpa using h)
    rw [show (j + 1) * 2 = j * 2 + 1 + 1 by omega]
    exact this
theorem cells_of {w : World} {b : Nat} : ∀ (fs : List Fld) (o : Nat), FCells w b o fs → ∀ (j : Nat) (u : Value), (fcells fs)[j]? = some u → w.cell? ⟨b, o + j, none⟩ = some u
  | [], o, h, j, u, hu => by simp [fcells] at hu
  | f :: r, o, h, 0, u, hu => by
    obtain rfl : Value.string ⟨f.1.toArray⟩ = u := by simpa [fcells] using hu
    have := (h 0 f rfl).1
    simpa using this
  | f :: r, o, h, 1, u, hu => by
    obtain rfl : Value.string ⟨f.2.toArray⟩ = u := by simpa [fcells] using hu
    have := (h 0 f rfl).2
    simpa using this
  | f :: r, o, h, j + 2, u, hu => by
    have := cells_of r (o + 2) (fun i g hg => by
      have := h (i + 1) g (by simpa using hg)
      rw [show o + 2 + i * 2 = o + (i + 1) * 2 by omega]; exact this) j u (by simpa [fcells] using hu)
    rw [show o + (j + 2) = o + 2 + j by omega]; exact this
theorem add_at (g o j : Nat) : ((⟨g, o, none⟩ : Addr).add j) = ⟨g, o + j, none⟩ := by
  unfold Addr.add; by_cases h0 : j = 0
  · subst h0; rfl
  · rw [if_neg h0]
def FOwn (w : World) (base : Nat) (v : Value) (fs : List Fld) : Prop := w.ownsRow base 103 2 v fs.length (fcells fs)
theorem FOwn.at {w : World} {base : Nat} {v : Value} {fs : List Fld} (h : FOwn w base v fs) : FieldsAt w v fs := by
  have hc := fun (g : Nat) (hg : v.ownBlock = some g) => h.cells hg
  have hl := h.lt
  rcases h.2 with ⟨rfl, h0⟩ | ⟨g, cap, cur, rfl, _, hg, hle, _, _, _⟩
  · exact .inl ⟨none, 0, rfl, List.eq_nil_of_length_eq_zero h0⟩
  · refine .inr ⟨g, 0, cap, rfl, by omega, (hl g rfl).2, fun j f hf => ?_⟩
    obtain ⟨h1, h2⟩ := fcells_at fs j f hf
    have e1 := hc g rfl _ _ h1
    have e2 := hc g rfl _ _ h2
    rw [add_at] at e1 e2
    exact ⟨e1, by rw [Nat.add_assoc]; exact e2⟩
theorem FOwn.below {w w' : World} {base : Nat} {v : Value} {fs : List Fld} (h : FOwn w base v fs) (hb : Below w.heap.size w w') : FOwn w' base v fs := own_below h hb
theorem fown_nil (w : World) (base : Nat) : FOwn w base (.slice none 0 0) [] := ⟨rfl, .inl ⟨rfl, rfl⟩⟩
theorem info_fld : ∃ i, Tryz.prog.info? 103 = some i ∧ i.zero = some (.agg #[.string ⟨#[]⟩, .string ⟨#[]⟩]) ∧ i.size = 2 ∧ i.bytes = 32 := info_parts info103
theorem run_copy {W : World} {x v : Value} {fs gs : List Fld} {base : Nat} (ty : TypeId) (hF : FieldsAt W x fs) (hown : FOwn W base v gs) (hn : gs.length + fs.length ≤ 100000) (hbase : base ≤ W.heap.size) :
    ∃ a' c' W', (Builtin.append_ #[56, 56] ty #[v, x]).run Tryz.prog W = .ok (.slice a' (gs.length + fs.length) c') W' ∧ FOwn W' base (.slice a' (gs.length + fs.length) c') (gs ++ fs) ∧ W.grownBy W' v.ownBlock := by
  obtain ⟨i, hi, hz, hs, hby⟩ := info_fld
  rcases hF with ⟨a, c, rfl, rfl⟩ | ⟨b, o, c, rfl, hc, hlt, hcell⟩
  · obtain ⟨a0, c0, hv⟩ := own_shape hown
    refine ⟨a0, c0, W, ?_, by rw [List.append_nil]; show FOwn W base (.slice a0 gs.length c0) gs; rw [← hv]; exact hown, World.grownBy.refl _ _⟩
    have hle : gs.length ≤ c0 := by
      rcases hown.2 with ⟨rfl, h0⟩ | ⟨g, cap, cur, rfl, _, _, hle, _⟩
      · omega
      · simp only [Value.slice.injEq] at hv; omega
    rw [hv]
    cases a <;> cases a0 <;> simp [Builtin.append_, run_underlying u56, sizeOf, typeInfo, hi, Builtin.lenOf, Builtin.firstCells, hle, storeCells, loadCells, loadCellsFrom]
  · obtain ⟨v', W', hr, h2, h3, _⟩ := run_append_own (P := Tryz.prog) W base 56 ty 103 i _ 2 32 u56 hi hz hs hby rfl (by omega) v gs.length (fcells gs) hown ⟨b, o, none⟩ fs.length c (fcells fs)
      (fcells_len fs) (fun j u hu => by rw [add_at]; exact cells_of fs o hcell j u hu) (fcells_one fs) (by unfold maxLen; omega) (by omega) hbase
    obtain ⟨a', c', rfl⟩ := own_shape h2
    refine ⟨a', c', W', hr, ?_, h3⟩
    unfold FOwn
    rw [List.length_append, fcells_app]; exact h2
theorem step_copy {ops : Array Oper} {o : Oper} {a : Act} {K : Act → World → Prop} {Q : Exit → Act → World → Prop} {E : Prop} {W : World} (hgd : o.guard = none) (s x : Operand)
    (ho : o.op = .call { callee := .builtin .append, args := #[s, x], argTypes := #[56, 56] })
    (v vx : Value) (fs gs : List Fld) (base : Nat) (hs : a.eval s = v) (hx : a.eval x = vx) (hF : FieldsAt W vx fs) (hown : FOwn W base v gs) (hn : gs.length + fs.length ≤ 100000) (hbase : base ≤ W.heap.size)
    (h : ∀ a' c' W', FOwn W' base (.slice a' (gs.length + fs.length) c') (gs ++ fs) → W.grownBy W' v.ownBlock → K (a.put o.dst (.slice a' (gs.length + fs.length) c')) W') :
    if Region.wanted o (yielded ops a.tmps) = true then Oper.wp Tryz.prog o a W K Q else E := by
  have hw : Region.wanted o (yielded ops a.tmps) = true := by simp [Region.wanted, hgd]
  rw [if_pos hw]
  obtain ⟨a', c', W', hr, h2, h3⟩ := run_copy o.type hF hown hn hbase
  unfold Oper.wp execOp
  simp only [ho, resolve, invoke, builtin, Sem.run_bind, Sem.run_pure, Result.andThen_ok, List.map_toArray, List.map_cons, List.map_nil, hs, hx, hr]
  exact h a' c' W' h2 h3
end Go.Proofs.YtehdeclpighdeaaGreatDoor
