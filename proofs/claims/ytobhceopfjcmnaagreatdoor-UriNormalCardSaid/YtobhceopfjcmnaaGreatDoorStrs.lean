/- How lists of texts lie in memory. -/
import Derived.Test.YtobhceopfjcmnaaGreatDoorBase
import Derived.Test.YtobhceopfjcmnaaGreatDoorPlain
namespace Go.Proofs.YtobhceopfjcmnaaGreatDoor
open Go.RowKit
set_option linter.unusedVariables false

def scells (ls : List Bs) : List Value := ls.map fun l => Value.string ⟨l.toArray⟩
theorem scells_snoc (ls : List Bs) (l : Bs) : scells (ls ++ [l]) = scells ls ++ [.string ⟨l.toArray⟩] := by simp [scells]
theorem scells_len (ls : List Bs) : (scells ls).length = ls.length := by simp [scells]

/-- The slice v reads as the texts ls. -/
def StrsAt (w : World) (v : Value) (ls : List Bs) : Prop :=
  (∃ a c, v = .slice a 0 c ∧ ls = []) ∨
  ∃ b o c, v = .slice (some ⟨b, o, none⟩) ls.length c ∧ ls.length ≤ c ∧ b < w.heap.size ∧
    ∀ (j : Nat) (l : Bs), ls[j]? = some l → w.cell? ⟨b, o + j, none⟩ = some (.string ⟨l.toArray⟩)

def SCells (w : World) (b o : Nat) (ls : List Bs) : Prop := ∀ (j : Nat) (l : Bs), ls[j]? = some l → w.cell? ⟨b, o + j, none⟩ = some (.string ⟨l.toArray⟩)

theorem SCells.below {w w' : World} {b o n : Nat} {ls : List Bs} (h : SCells w b o ls) (hb : Below n w w') (hlt : b < n) : SCells w' b o ls := fun j l hl =>
  (hb.cell (p := ⟨b, _, none⟩) hlt).trans (h j l hl)
theorem StrsAt.below {w w' : World} {v : Value} {ls : List Bs} (h : StrsAt w v ls) (hb : Below w.heap.size w w') : StrsAt w' v ls := by
  rcases h with h | ⟨b, o, c, rfl, hc, hlt, hcell⟩
  · exact .inl h
  · exact .inr ⟨b, o, c, rfl, hc, Nat.lt_of_lt_of_le hlt hb.size, SCells.below hcell hb hlt⟩

theorem StrsAt.of_own {w : World} {base : Nat} {v : Value} {n : Nat} {ls : List Bs} (h : w.ownsRow base 9 1 v n (scells ls)) : StrsAt w v ls := by
  have hn : n = ls.length := by have := h.1; simpa [scells] using this.symm
  have hc := fun (g : Nat) (hg : v.ownBlock = some g) => h.cells hg
  have hl := h.lt
  rcases h.2 with ⟨rfl, h0⟩ | ⟨g, cap, cur, rfl, _, hg, hle, _, _, _⟩
  · subst h0; exact .inl ⟨none, 0, rfl, List.eq_nil_of_length_eq_zero hn.symm⟩
  · refine .inr ⟨g, 0, cap, by rw [hn], by omega, (hl g rfl).2, fun j l hl => ?_⟩
    have := hc g rfl j (.string ⟨l.toArray⟩) (by simp [scells, hl])
    have e : ((⟨g, 0, none⟩ : Addr).add j) = ⟨g, 0 + j, none⟩ := by
      unfold Addr.add; by_cases h0 : j = 0
      · subst h0; rfl
      · rw [if_neg h0]
    rw [e] at this; exact this

/-- The shape of a slice that owns n elements. -/
theorem own_shape {w : World} {base : Nat} {e : TypeId} {size : Nat} {v : Value} {n : Nat} {xs : List Value} (h : w.ownsRow base e size v n xs) : ∃ a c, v = .slice a n c := by
  rcases h.2 with ⟨rfl, rfl⟩ | ⟨g, cap, _, rfl, _⟩
  · exact ⟨none, 0, rfl⟩
  · exact ⟨_, _, rfl⟩

/-- A new list of texts was returned, and nothing that was there has changed. -/
def RetStrs (w : World) (ls : List Bs) : Ending → World → Prop := fun e w' => ∃ v, e = .returned v ∧ w'.ownsRow w.heap.size 9 1 v ls.length (scells ls) ∧ Below w.heap.size w w'
end Go.Proofs.YtobhceopfjcmnaaGreatDoor
