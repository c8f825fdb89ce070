/- How lists of fields and of texts lie in memory. -/
import Derived.Test.YtoipnaoijccokaaDoorStrs
namespace Go.Proofs.YtoipnaoijccokaaDoor
open Go.RowKit
set_option linter.unusedVariables false

theorem u22 : Tryd.prog.underlying 22 = some (.slice 33) := by kernel_rfl
theorem info33 : (Tryd.prog.info? 33).map (fun i => (i.zero, i.size, i.bytes)) = some (some (.agg #[.string ⟨#[]⟩, .string ⟨#[]⟩]), 2, 32) := by kernel_rfl

/-- The slice v reads as the fields fs. -/
def FieldsAt (w : World) (v : Value) (fs : List Fld) : Prop :=
  (∃ a c, v = .slice a 0 c ∧ fs = []) ∨
  ∃ b o c, v = .slice (some ⟨b, o, none⟩) fs.length c ∧ fs.length ≤ c ∧ b < w.heap.size ∧
    ∀ (j : Nat) (f : Fld), fs[j]? = some f → w.cell? ⟨b, o + j * 2, none⟩ = some (.string ⟨f.1.toArray⟩) ∧ w.cell? ⟨b, o + j * 2 + 1, none⟩ = some (.string ⟨f.2.toArray⟩)

/-- The cells of fields that begin at a place. -/
def FCells (w : World) (b o : Nat) (fs : List Fld) : Prop :=
  ∀ (j : Nat) (f : Fld), fs[j]? = some f → w.cell? ⟨b, o + j * 2, none⟩ = some (.string ⟨f.1.toArray⟩) ∧ w.cell? ⟨b, o + j * 2 + 1, none⟩ = some (.string ⟨f.2.toArray⟩)

theorem FCells.below {w w' : World} {b o n : Nat} {fs : List Fld} (h : FCells w b o fs) (hb : Below n w w') (hlt : b < n) : FCells w' b o fs := fun j f hf =>
  ⟨(hb.cell (p := ⟨b, _, none⟩) hlt).trans (h j f hf).1, (hb.cell (p := ⟨b, _, none⟩) hlt).trans (h j f hf).2⟩
theorem FieldsAt.below {w w' : World} {v : Value} {fs : List Fld} (h : FieldsAt w v fs) (hb : Below w.heap.size w w') : FieldsAt w' v fs := by
  rcases h with h | ⟨b, o, c, rfl, hc, hlt, hcell⟩
  · exact .inl h
  · exact .inr ⟨b, o, c, rfl, hc, Nat.lt_of_lt_of_le hlt hb.size, FCells.below hcell hb hlt⟩

end Go.Proofs.YtoipnaoijccokaaDoor
