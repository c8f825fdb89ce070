/- Plain facts on pieces while they are being gathered. -/
import Derived.Test.YtgpeehilemidlaaDoorPlain3
namespace Go.Proofs.YtgpeehilemidlaaDoor
open Go.Lib

theorem drop_get (l : Bs) (a i : Nat) (h : a ≤ i) : (l.drop a)[i - a]? = l[i]? := by
  rw [List.getElem?_drop]; congr 1; omega

theorem pieces_hit (c : UInt8) (l : Bs) (a i : Nat) (hf : a ≤ i) (hno : i - a ≤ lead (· != c) (l.drop a)) (hi : l[i]? = some c) :
    pieces c (l.drop a) = (l.drop a).take (i - a) :: pieces c (l.drop (i + 1)) := by
  have he : i - a = lead (· != c) (l.drop a) := lead_stop _ _ _ hno (fun x hx => by
    rw [drop_get l a i hf, hi] at hx; cases hx; simp)
  have hc : (l.drop a).contains c = true := by
    rw [List.contains_iff_mem]
    exact List.mem_of_getElem? ((drop_get l a i hf).trans hi)
  rw [pieces_cut, if_pos hc]
  unfold upto past
  rw [he, take_lead]
  congr 1
  rw [← drop_lead, ← he, List.drop_drop, List.drop_drop]
  congr 2; omega

theorem pieces_last (c : UInt8) (l : Bs) (a : Nat) (hno : l.length - a ≤ lead (· != c) (l.drop a)) : pieces c (l.drop a) = [l.drop a] := by
  have hc : (l.drop a).contains c = false := by
    have hl : lead (· != c) (l.drop a) = (l.drop a).length := by
      have := lead_le (· != c) (l.drop a); rw [List.length_drop] at this ⊢; omega
    rw [lead_all, List.all_eq_true] at hl
    rw [Bool.eq_false_iff]; intro h
    rw [List.contains_iff_mem] at h
    have := hl c h
    simp at this
  rw [pieces_cut, hc]; rfl

/-- So far k bytes have been looked at; the pieces 'done' are whole, the next one begins at a. -/
def PState (l : Bs) (c : UInt8) (done : List Bs) (a k : Nat) : Prop :=
  (k ≤ l.length ∧ a ≤ k ∧ k - a ≤ lead (· != c) (l.drop a) ∧ done.length ≤ k ∧ done ++ pieces c (l.drop a) = pieces c l) ∨
  (k = l.length + 1 ∧ done = pieces c l)

theorem pstate_start (l : Bs) (c : UInt8) : PState l c [] 0 0 := .inl ⟨Nat.zero_le _, Nat.le_refl _, by omega, Nat.le_refl _, rfl⟩
theorem pstate_skip {l : Bs} {c : UInt8} {done : List Bs} {a k : Nat} (h : PState l c done a k) {x : UInt8} (hx : l[k]? = some x) (hne : x ≠ c) : PState l c done a (k + 1) := by
  have hk := (List.getElem?_eq_some_iff.1 hx).1
  rcases h with ⟨h1, h2, h3, h4, h5⟩ | ⟨h1, _⟩
  · refine .inl ⟨hk, by omega, ?_, by omega, h5⟩
    have := lead_step (· != c) (l.drop a) (k - a) x h3 (by rw [drop_get l a k h2]; exact hx) (by simp [hne])
    omega
  · omega
theorem pstate_hit {l : Bs} {c : UInt8} {done : List Bs} {a k : Nat} (h : PState l c done a k) (hx : l[k]? = some c) : PState l c (done ++ [(l.drop a).take (k - a)]) (k + 1) (k + 1) ∧ a ≤ k ∧ done.length ≤ k := by
  have hk := (List.getElem?_eq_some_iff.1 hx).1
  rcases h with ⟨h1, h2, h3, h4, h5⟩ | ⟨h1, _⟩
  · refine ⟨.inl ⟨hk, Nat.le_refl _, by omega, by simp; omega, ?_⟩, h2, h4⟩
    rw [← h5, pieces_hit c l a k h2 h3 hx]; simp
  · omega
theorem pstate_last {l : Bs} {c : UInt8} {done : List Bs} {a : Nat} (h : PState l c done a l.length) : PState l c (done ++ [(l.drop a).take (l.length - a)]) (l.length + 1) (l.length + 1) ∧ a ≤ l.length ∧ done.length ≤ l.length := by
  rcases h with ⟨h1, h2, h3, h4, h5⟩ | ⟨h1, _⟩
  · refine ⟨.inr ⟨rfl, ?_⟩, h2, h4⟩
    rw [← h5, pieces_last c l a h3, List.take_of_length_le (by rw [List.length_drop]; omega)]
  · omega
theorem pstate_end {l : Bs} {c : UInt8} {done : List Bs} {a k : Nat} (h : PState l c done a k) (hk : l.length < k) : done = pieces c l ∧ k = l.length + 1 := by
  rcases h with ⟨h1, _⟩ | ⟨h1, h2⟩
  · omega
  · exact ⟨h2, h1⟩
theorem pieces_many (c : UInt8) : ∀ l : Bs, (pieces c l).length ≤ l.length + 1
  | [] => by simp [pieces]
  | x :: l => by
    have := pieces_many c l
    have hne := pieces_ne c l
    rw [pieces_cons]
    split
    · simp; omega
    · have : 0 < (pieces c l).length := List.length_pos_iff.2 hne
      simp; omega
theorem pieces_each (c : UInt8) (n : Nat) (l : Bs) (hn : l.length ≤ n) : ∀ p ∈ pieces c l, p.length ≤ l.length := by
  induction n generalizing l with
  | zero =>
    have : l = [] := List.eq_nil_of_length_eq_zero (by omega)
    subst this; simp [pieces]
  | succ n ih =>
    rw [pieces_cut]
    by_cases hc : l.contains c
    · rw [if_pos hc]
      intro p hp
      rcases List.mem_cons.1 hp with rfl | hp
      · unfold upto; rw [← take_lead, List.length_take]; omega
      · have := past_lt c l hc
        have := ih (past c l) (by omega) p hp
        omega
    · rw [if_neg hc]; simp
theorem upto_len (c : UInt8) (l : Bs) : (upto c l).length ≤ l.length := by unfold upto; rw [← take_lead, List.length_take]; omega
theorem past_len (c : UInt8) (l : Bs) : (past c l).length ≤ l.length := by unfold past; rw [← drop_lead, List.drop_drop, List.length_drop]; omega
theorem dropWhile_len (p : UInt8 → Bool) (l : Bs) : (l.dropWhile p).length ≤ l.length := by rw [← drop_lead, List.length_drop]; omega
theorem trim_len (l : Bs) : (trim l).length ≤ l.length := by
  rw [trim_eq]
  refine Nat.le_trans (dropWhile_len _ _) ?_
  rw [List.length_reverse]
  refine Nat.le_trans (dropWhile_len _ _) ?_
  rw [List.length_reverse]; exact Nat.le_refl _
end Go.Proofs.YtgpeehilemidlaaDoor
