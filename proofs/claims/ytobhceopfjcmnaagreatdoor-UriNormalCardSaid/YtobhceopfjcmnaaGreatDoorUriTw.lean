/- twist: what its walk needs. -/
import Derived.Test.YtobhceopfjcmnaaGreatDoorUriT
import Derived.Test.YtobhceopfjcmnaaGreatDoorRes
namespace Go.Proofs.YtobhceopfjcmnaaGreatDoor
open Go.RowKit
set_option linter.unusedVariables false

theorem lib_UpperA (l : Bs) (hl : l.length ≤ 100000) (ha : ∀ c ∈ l, c.toNat < 128) (w : World) :
    Calls Tryz.prog 22 #[.string ⟨l.toArray⟩] w (Ret w (.string ⟨(upper l).toArray⟩)) := by
  have h := Tryz.strings_ToUpper_ascii ⟨l.toArray⟩ w (by show l.length ≤ _; omega) (by
    intro j c hj
    exact ha c (List.mem_of_getElem? hj))
  have e : Lib.toUpperA (⟨l.toArray⟩ : ByteArray).data.toList = upper l := by
    show l.map Lib.upperB = upper l
    unfold upper; congr 1; funext c; exact upperB_upc c
  rw [e] at h
  exact h

/-- The three arms of a step. -/
theorem tw_esc {s how : Bs} {i : Nat} {c : UInt8} (h1 : c = 37) (h2 : i + 2 < s.length) (h3 : howAt how i % 2 = 1) : twStep s how i c = (37 :: lower ((s.drop (i + 1)).take 2), 3) := by
  unfold twStep
  have : (c == 37 && decide (i + 2 < s.length) && howAt how i % 2 == 1) = true := by
    rw [Bool.and_eq_true, Bool.and_eq_true, beq_iff_eq, decide_eq_true_eq, beq_iff_eq]; exact ⟨⟨h1, h2⟩, h3⟩
  rw [this]; rfl
theorem tw_turn {s how : Bs} {i : Nat} {c : UInt8} (h1 : ¬ (c = 37 ∧ i + 2 < s.length ∧ howAt how i % 2 = 1)) (h2 : turnc c = true) (h3 : howAt how i % 4 = 3) (h4 : clear2 s i = true) : twStep s how i c = (escOf c (howAt how i), 1) := by
  unfold twStep
  have e1 : (c == 37 && decide (i + 2 < s.length) && howAt how i % 2 == 1) = false := by
    rw [← Bool.not_eq_true, Bool.and_eq_true, Bool.and_eq_true, beq_iff_eq, decide_eq_true_eq, beq_iff_eq]; exact fun h => h1 ⟨h.1.1, h.1.2, h.2⟩
  have e2 : (turnc c && howAt how i % 4 == 3 && clear2 s i) = true := by
    rw [Bool.and_eq_true, Bool.and_eq_true, beq_iff_eq]; exact ⟨⟨h2, h3⟩, h4⟩
  rw [e1, e2]; rfl
theorem tw_else {s how : Bs} {i : Nat} {c : UInt8} (h1 : ¬ (c = 37 ∧ i + 2 < s.length ∧ howAt how i % 2 = 1)) (h2 : ¬ (turnc c = true ∧ howAt how i % 4 = 3 ∧ clear2 s i = true)) : twStep s how i c = ([c], 1) := by
  unfold twStep
  have e1 : (c == 37 && decide (i + 2 < s.length) && howAt how i % 2 == 1) = false := by
    rw [← Bool.not_eq_true, Bool.and_eq_true, Bool.and_eq_true, beq_iff_eq, decide_eq_true_eq, beq_iff_eq]; exact fun h => h1 ⟨h.1.1, h.1.2, h.2⟩
  have e2 : (turnc c && howAt how i % 4 == 3 && clear2 s i) = false := by
    rw [← Bool.not_eq_true, Bool.and_eq_true, Bool.and_eq_true, beq_iff_eq]; exact fun h => h2 ⟨h.1.1, h.1.2, h.2⟩
  rw [e1, e2]; rfl

theorem tw_pos (s how : Bs) (i : Nat) (c : UInt8) : 1 ≤ (twStep s how i c).2 ∧ (twStep s how i c).1.length ≤ 3 * (twStep s how i c).2 := by
  by_cases h1 : c = 37 ∧ i + 2 < s.length ∧ howAt how i % 2 = 1
  · rw [tw_esc h1.1 h1.2.1 h1.2.2]
    refine ⟨by show 1 ≤ 3; omega, ?_⟩
    show (lower ((s.drop (i + 1)).take 2)).length + 1 ≤ 3 * 3
    unfold lower
    rw [List.length_map, List.length_take]; omega
  · by_cases h2 : turnc c = true ∧ howAt how i % 4 = 3 ∧ clear2 s i = true
    · rw [tw_turn h1 h2.1 h2.2.1 h2.2.2]; exact ⟨by show 1 ≤ 1; omega, by show 3 ≤ 3; omega⟩
    · rw [tw_else h1 h2]; exact ⟨by show 1 ≤ 1; omega, by show 1 ≤ 3; omega⟩
/-- What the walk keeps: the text so far and the text that is still to come. -/
def TwI (s how : Bs) (i : Nat) (out : Bs) : Prop := ∃ k, s.length ≤ i + k ∧ out ++ twR s how k i = twistB s how ∧ out.length ≤ 3 * i
theorem TwI.start (s how : Bs) : TwI s how 0 [] := ⟨s.length, by omega, rfl, by simp⟩
theorem TwI.step {s how : Bs} {i : Nat} {out : Bs} (h : TwI s how i out) (hi : i < s.length) : TwI s how (i + (twStep s how i s[i]).2) (out ++ (twStep s how i s[i]).1) := by
  obtain ⟨k, h1, h2, h3⟩ := h
  obtain ⟨p1, p2⟩ := tw_pos s how i s[i]
  obtain ⟨k, rfl⟩ : ∃ k', k = k' + 1 := ⟨k - 1, by omega⟩
  refine ⟨k, by omega, ?_, by rw [List.length_append]; omega⟩
  rw [← h2]
  show _ = out ++ (match s[i]? with | none => [] | some c => (twStep s how i c).1 ++ twR s how k (i + (twStep s how i c).2))
  rw [List.getElem?_eq_getElem hi, List.append_assoc]
theorem TwI.stop {s how : Bs} {i : Nat} {out : Bs} (h : TwI s how i out) (hi : s.length ≤ i) : out = twistB s how := by
  obtain ⟨k, h1, h2, h3⟩ := h
  have : twR s how k i = [] := by
    cases k with
    | zero => rfl
    | succ k =>
      show (match s[i]? with | none => [] | some c => _) = []
      rw [List.getElem?_eq_none hi]
  rw [this, List.append_nil] at h2
  exact h2
end Go.Proofs.YtobhceopfjcmnaaGreatDoor
