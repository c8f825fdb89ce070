/- Paths without dots: the plain law. -/
import Derived.Test.YtobhceopfjcmnaaGreatDoorUriP
namespace Go.Proofs.YtobhceopfjcmnaaGreatDoor
open Go.Lib

theorem catB_nil : catB [] = [] := rfl
theorem catB_cons (p : Bs) (l : List Bs) : catB (p :: l) = 47 :: p ++ catB l := by unfold catB; simp
theorem catB_snoc (l : List Bs) (p : Bs) : catB (l ++ [p]) = catB l ++ 47 :: p := by unfold catB; simp
theorem catB_app (l m : List Bs) : catB (l ++ m) = catB l ++ catB m := by unfold catB; simp

/-- The reference's way: the pieces that are left, and those that are kept. -/
def goR : List Bs → List Bs → List Bs
  | [], kept => kept
  | p :: rest, kept =>
    if p = dot1 then (if rest = [] then kept ++ [[]] else goR rest kept)
    else if p = dot2 then (if rest = [] then kept.dropLast ++ [[]] else goR rest kept.dropLast)
    else goR rest (kept ++ [p])

theorem isDot_iff (p : Bs) : isDot p = true ↔ p = dot1 ∨ p = dot2 := by
  unfold isDot; rw [Bool.or_eq_true, beq_iff_eq, beq_iff_eq]
theorem isDot_no {p : Bs} (h1 : p ≠ dot1) (h2 : p ≠ dot2) : isDot p = false := by
  rw [← Bool.not_eq_true, isDot_iff]; rintro (h | h)
  · exact h1 h
  · exact h2 h
theorem dot12 : dot2 ≠ dot1 := by decide

theorem goR_dots : ∀ (l kept : List Bs), l ≠ [] → catB (goR l kept) = catB (l.foldl dotStep kept) ++ (bif isDot (l.getLast?.getD []) then [47] else [])
  | [], _, h => (h rfl).elim
  | [p], kept, _ => by
    by_cases h1 : p = dot1
    · subst h1
      unfold goR
      rw [if_pos rfl, if_pos rfl, catB_snoc]
      show _ = catB (dotStep kept dot1) ++ _
      unfold dotStep
      rw [if_pos rfl]; rfl
    · by_cases h2 : p = dot2
      · subst h2
        unfold goR
        rw [if_neg dot12, if_pos rfl, if_pos rfl, catB_snoc]
        show _ = catB (dotStep kept dot2) ++ _
        unfold dotStep
        rw [if_neg dot12, if_pos rfl]; rfl
      · unfold goR
        rw [if_neg h1, if_neg h2]
        unfold goR
        show _ = catB (dotStep kept p) ++ (bif isDot p then [47] else [])
        unfold dotStep
        rw [if_neg h1, if_neg h2, isDot_no h1 h2]; simp
  | p :: q :: r, kept, _ => by
    have ih := fun k => goR_dots (q :: r) k (by simp)
    have hl : (p :: q :: r).getLast? = (q :: r).getLast? := by simp
    rw [hl, List.foldl_cons, ← ih]
    conv => lhs; unfold goR
    unfold dotStep
    by_cases h1 : p = dot1
    · rw [if_pos h1, if_pos h1, if_neg (by simp)]
    · by_cases h2 : p = dot2
      · rw [if_neg h1, if_pos h2, if_neg h1, if_pos h2, if_neg (by simp)]
      · rw [if_neg h1, if_neg h2, if_neg h1, if_neg h2]

theorem pieces_cat : ∀ s : Bs, catB (pieces 47 s) = 47 :: s
  | [] => rfl
  | x :: l => by
    have ih := pieces_cat l
    rw [pieces_cons]
    by_cases h : x = 47
    · subst h; rw [if_pos (by simp), catB_cons, ih]; rfl
    · rw [if_neg (by simpa using h), catB_cons]
      have hne := pieces_ne 47 l
      cases hp : pieces 47 l with
      | nil => exact (hne hp).elim
      | cons a b =>
        rw [hp, catB_cons] at ih
        simp only [List.headD_cons, List.tail_cons, List.cons_append]
        simp only [List.cons_append, List.cons.injEq, true_and] at ih
        rw [← ih]
theorem pieces_free (c : UInt8) : ∀ (s p : Bs), p ∈ pieces c s → p.contains c = false
  | [], p, h => by
    have : p = [] := by simpa [pieces] using h
    subst this; rfl
  | x :: l, p, h => by
    have ih := pieces_free c l
    rw [pieces_cons] at h
    by_cases hx : (x == c) = true
    · rw [if_pos hx] at h
      rcases List.mem_cons.1 h with rfl | h
      · rfl
      · exact ih p h
    · rw [if_neg hx] at h
      rcases List.mem_cons.1 h with rfl | h
      · have hne := pieces_ne c l
        cases hp : pieces c l with
        | nil => exact (hne hp).elim
        | cons a b =>
          have := ih a (by rw [hp]; simp)
          simp only [List.headD_cons]
          rw [has_cons, this]; simpa using hx
      · exact ih p (List.mem_of_mem_tail h)

/-! One step in the reference's list of bytes -/
/-- The first piece of 'in', its slash counted. -/
theorem cat_lead (p : Bs) (l : List Bs) (h : p.contains 47 = false) : lead (· != 47) ((catB (p :: l)).drop 1) = p.length := by
  rw [catB_cons]
  show lead (· != 47) (p ++ catB l) = p.length
  induction p with
  | nil =>
    cases l with
    | nil => rfl
    | cons a b => rw [catB_cons]; rfl
  | cons x r ih =>
    rw [has_cons, Bool.or_eq_false_iff] at h
    rw [List.cons_append, lead_cons, if_pos (by have := h.1; simp at this; simpa using this), ih h.2]; rfl
/-- How far back the last slash lies. -/
theorem free_rev (p : Bs) (h : p.contains 47 = false) (l : Bs) : ∀ k, k < p.length → (l ++ 47 :: p)[l.length + 1 + k]? ≠ some 47 := by
  intro k hk e
  rw [List.getElem?_append_right (by omega), show l.length + 1 + k - l.length = k + 1 by omega, List.getElem?_cons_succ] at e
  have := List.mem_of_getElem? e
  rw [← List.contains_iff_mem, h] at this; cases this
theorem dropLast_cat (l : List Bs) (p : Bs) : catB (l ++ [p]).dropLast = catB l := by rw [List.dropLast_concat]
theorem kept_free : ∀ (l kept : List Bs), (∀ p ∈ l, p.contains 47 = false) → (∀ p ∈ kept, p.contains 47 = false) → ∀ p ∈ l.foldl dotStep kept, p.contains 47 = false
  | [], kept, _, hk => hk
  | a :: l, kept, hl, hk => by
    rw [List.foldl_cons]
    refine kept_free l _ (fun p hp => hl p (List.mem_cons_of_mem _ hp)) ?_
    unfold dotStep
    intro p hp
    by_cases h1 : a = dot1
    · rw [if_pos h1] at hp; exact hk p hp
    · by_cases h2 : a = dot2
      · rw [if_neg h1, if_pos h2] at hp; exact hk p ((List.dropLast_sublist _).subset hp)
      · rw [if_neg h1, if_neg h2] at hp
        rcases List.mem_append.1 hp with hp | hp
        · exact hk p hp
        · obtain rfl : p = a := by simpa using hp
          exact hl p (by simp)
end Go.Proofs.YtobhceopfjcmnaaGreatDoor
