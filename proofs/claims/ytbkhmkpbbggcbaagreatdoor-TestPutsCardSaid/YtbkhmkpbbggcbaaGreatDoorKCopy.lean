/- How lists of fields and of texts lie in memory. Lists of fields that a call owns: copied, and built. -/
import Derived.Test.YtbkhmkpbbggcbaaGreatDoorKBase
import Derived.RegionTactic
namespace Go.Proofs.YtbkhmkpbbggcbaaGreatDoor
open Go.RowKit
set_option linter.unusedVariables false
def FieldsAt (w : World) (v : Value) (fs : List Fld) : Prop :=
  (∃ a c, v = .slice a 0 c ∧ fs = []) ∨
  ∃ b o c, v = .slice (some ⟨b, o, none⟩) fs.length c ∧ fs.length ≤ c ∧ b < w.heap.size ∧
    ∀ (j : Nat) (f : Fld), fs[j]? = some f → w.cell? ⟨b, o + j * 2, none⟩ = some (.string ⟨f.1.toArray⟩) ∧ w.cell? ⟨b, o + j * 2 + 1, none⟩ = some (.string ⟨f.2.toArray⟩)
def FCells (w : World) (b o : Nat) (fs : List Fld) : Prop :=
  ∀ (j : Nat) (f : Fld), fs[j]? = some f → w.cell? ⟨b, o + j * 2, none⟩ = some (.string ⟨f.1.toArray⟩) ∧ w.cell? ⟨b, o + j * 2 + 1, none⟩ = some (.string ⟨f.2.toArray⟩)
theorem FCells.below {w w' : World} {b o n : Nat} {fs : List Fld} (h : FCells w b o fs) (hb : Below n w w') (hlt : b < n) : FCells w' b o fs := fun j f hf =>
  ⟨(hb.cell (p := ⟨b, _, none⟩) hlt).trans (h j f hf).1, (hb.cell (p := ⟨b, _, none⟩) hlt).trans (h j f hf).2⟩
theorem FieldsAt.below {w w' : World} {v : Value} {fs : List Fld} (h : FieldsAt w v fs) (hb : Below w.heap.size w w') : FieldsAt w' v fs := by
  rcases h with h | ⟨b, o, c, rfl, hc, hlt, hcell⟩
  · exact .inl h
  · exact .inr ⟨b, o, c, rfl, hc, Nat.lt_of_lt_of_le hlt hb.size, FCells.below hcell hb hlt⟩
end Go.Proofs.YtbkhmkpbbggcbaaGreatDoor
namespace Go.Proofs.YtbkhmkpbbggcbaaGreatDoor
open Go.RowKit
set_option linter.unusedVariables false
def fcells : List Fld → List Value
  | [] => []
  | f :: r => .string ⟨f.1.toArray⟩ :: .string ⟨f.2.toArray⟩ :: fcells r
theorem fcells_at : ∀ (fs : List Fld) (j : Nat) (f : Fld), fs[j]? = some f → (fcells fs)[j * 2]? = some (.string ⟨f.1.toArray⟩) ∧ (fcells fs)[j * 2 + 1]? = some (.string ⟨f.2.toArray⟩)
  | [], j, f, h => by simp at h
  | g :: r, 0, f, h => by obtain rfl : g = f := by simpa using h
                          exact ⟨rfl, rfl⟩
  | g :: r, j + 1, f, h => by
    have := fcells_at r j f (by simpa using h)
    rw [show (j + 1) * 2 = j * 2 + 1 + 1 by omega]
    exact this
theorem add_at (g o j : Nat) : ((⟨g, o, none⟩ : Addr).add j) = ⟨g, o + j, none⟩ := by
  unfold Addr.add; by_cases h0 : j = 0
  · subst h0; rfl
  · rw [if_neg h0]
def FOwn (w : World) (base : Nat) (v : Value) (fs : List Fld) : Prop := w.ownsRow base 140 2 v fs.length (fcells fs)
theorem FOwn.at {w : World} {base : Nat} {v : Value} {fs : List Fld} (h : FOwn w base v fs) : FieldsAt w v fs := by
  have hc := fun (g : Nat) (hg : v.ownBlock = some g) => h.cells hg
  have hl := h.lt
  rcases h.2 with ⟨rfl, h0⟩ | ⟨g, cap, cur, rfl, _, hg, hle, _, _, _⟩
  · exact .inl ⟨none, 0, rfl, List.eq_nil_of_length_eq_zero h0⟩
  · refine .inr ⟨g, 0, cap, rfl, by omega, (hl g rfl).2, fun j f hf => ?_⟩
    obtain ⟨h1, h2⟩ := fcells_at fs j f hf
    have e1 := hc g rfl _ _ h1
    have e2 := hc g rfl _ _ h2
    rw [add_at] at e1 e2
    exact ⟨e1, by rw [Nat.add_assoc]; exact e2⟩
theorem FOwn.below {w w' : World} {base : Nat} {v : Value} {fs : List Fld} (h : FOwn w base v fs) (hb : Below w.heap.size w w') : FOwn w' base v fs := own_below h hb
end Go.Proofs.YtbkhmkpbbggcbaaGreatDoor
