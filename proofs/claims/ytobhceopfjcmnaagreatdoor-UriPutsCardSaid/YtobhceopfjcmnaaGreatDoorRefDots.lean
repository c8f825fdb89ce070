/- The walk of the reference's Dots. -/
import Derived.Test.YtobhceopfjcmnaaGreatDoorUriAtoi
import Derived.Test.YtobhceopfjcmnaaGreatDoorDotsP
namespace Go.Proofs.YtobhceopfjcmnaaGreatDoor
open Go.RowKit
set_option linter.unusedVariables false

def strSize : Value → Nat
  | .string s => s.size
  | _ => 0
/-- What is known of the first piece in a list of bytes. -/
structure First (B : ByteArray) (p : Bs) (l : List Bs) : Prop where
  size : B.size = 1 + p.length + (catB l).length
  mid : ∀ k (h : k < B.size), 1 ≤ k → k < 1 + p.length → B[k] ≠ 47
  fin : ∀ (h : 1 + p.length < B.size), B[1 + p.length] = 47
  seg : B.extract 0 (1 + p.length) = ⟨(47 :: p).toArray⟩
  rest : B.extract (1 + p.length) B.size = ⟨(catB l).toArray⟩
theorem first_of {p : Bs} {l : List Bs} (h : p.contains 47 = false) : First ⟨(catB (p :: l)).toArray⟩ p l := by
  have e : catB (p :: l) = 47 :: p ++ catB l := catB_cons p l
  have hsz : (⟨(catB (p :: l)).toArray⟩ : ByteArray).size = 1 + p.length + (catB l).length := by rw [← bs_size]; simp [e]; omega
  refine ⟨hsz, ?_, ?_, ?_, ?_⟩
  · intro k hk h1 h2 he
    have hget := bs_get _ k hk
    rw [he] at hget
    have : (47 :: p ++ catB l)[k]? = some 47 := by rw [← e]; exact hget
    rw [List.getElem?_append_left (by simp; omega)] at this
    obtain ⟨j, rfl⟩ : ∃ j, k = j + 1 := ⟨k - 1, by omega⟩
    rw [List.getElem?_cons_succ] at this
    have := List.mem_of_getElem? this
    rw [← List.contains_iff_mem, h] at this; cases this
  · intro hk
    have hget := bs_get _ _ hk
    have h2 : (47 :: p ++ catB l)[1 + p.length]? = (catB l)[0]? := by
      rw [List.getElem?_append_right (by simp; omega)]; congr 1; simp; omega
    rw [show (⟨(catB (p :: l)).toArray⟩ : ByteArray).data.toList = 47 :: p ++ catB l from e, h2] at hget
    cases l with
    | nil => rw [hsz] at hk; simp [catB_nil] at hk
    | cons a b => rw [catB_cons] at hget; simpa using hget.symm
  · exact bs_ext (by rw [ext_data, e]; simp [Nat.add_comm])
  · exact bs_ext (by rw [ext_data, hsz, e]; simp [Nat.add_comm])
/-- What is known of the last piece that is kept. -/
structure Prev (O : ByteArray) (kept : List Bs) (m : Nat) : Prop where
  le : m ≤ O.size
  stop : ∀ (h : m - 1 < O.size), 0 < m → O[m - 1] = 47
  mid : ∀ j (h : j - 1 < O.size), m < j → O[j - 1] ≠ 47
  cut : 0 < m → O.extract 0 (m - 1) = ⟨(catB kept.dropLast).toArray⟩
  zero : m = 0 → kept = [] ∧ O.size = 0
theorem prev_of (kept : List Bs) (h : ∀ p ∈ kept, p.contains 47 = false) : ∃ m, Prev ⟨(catB kept).toArray⟩ kept m := by
  by_cases hk : kept = []
  · subst hk
    have h0 : (⟨(catB []).toArray⟩ : ByteArray).size = 0 := by rw [← bs_size]; rfl
    exact ⟨0, Nat.zero_le _, fun _ h => absurd h (by omega), fun j hj => by omega, fun h => absurd h (by omega), fun _ => ⟨rfl, h0⟩⟩
  · obtain ⟨ks, p, rfl⟩ : ∃ ks p, kept = ks ++ [p] := ⟨_, _, (List.dropLast_concat_getLast hk).symm⟩
    have hf := h p (by simp)
    have e : catB (ks ++ [p]) = catB ks ++ 47 :: p := catB_snoc ks p
    have hsz : (⟨(catB (ks ++ [p])).toArray⟩ : ByteArray).size = (catB ks).length + 1 + p.length := by rw [← bs_size]; simp [e]; omega
    refine ⟨(catB ks).length + 1, by omega, ?_, ?_, ?_, fun h => absurd h (by omega)⟩
    · intro hk _
      have hget := bs_get _ _ hk
      have h2 : (⟨(catB (ks ++ [p])).toArray⟩ : ByteArray).data.toList[(catB ks).length + 1 - 1]? = some 47 := by
        rw [show (⟨(catB (ks ++ [p])).toArray⟩ : ByteArray).data.toList = catB ks ++ 47 :: p from e, Nat.add_sub_cancel, List.getElem?_append_right (Nat.le_refl _), Nat.sub_self]; rfl
      exact Option.some.inj (hget.symm.trans h2)
    · intro j hj hm he
      have hget := bs_get _ _ hj
      rw [he, show (⟨(catB (ks ++ [p])).toArray⟩ : ByteArray).data.toList = catB ks ++ 47 :: p from e] at hget
      have hb := free_rev p hf (catB ks) (j - 1 - ((catB ks).length + 1)) (by omega)
      rw [show (catB ks).length + 1 + (j - 1 - ((catB ks).length + 1)) = j - 1 by omega] at hb
      exact hb hget
    · intro _
      rw [List.dropLast_concat]
      exact bs_ext (by rw [ext_data, e]; simp)

theorem dots_goR (r : Bs) : dotsB (47 :: r) = catB (goR (pieces 47 r) []) := by
  rw [goR_dots _ _ (pieces_ne 47 r)]; rfl
theorem goR_dot1 (l kept : List Bs) : goR (dot1 :: l) kept = if l = [] then goR [[]] kept else goR l kept := by
  conv => lhs; unfold goR
  rw [if_pos rfl]; rfl
theorem goR_dot2 (l kept : List Bs) : goR (dot2 :: l) kept = if l = [] then goR [[]] kept.dropLast else goR l kept.dropLast := by
  conv => lhs; unfold goR
  rw [if_neg dot12, if_pos rfl]; rfl
theorem goR_other {p : Bs} (h1 : p ≠ dot1) (h2 : p ≠ dot2) (l kept : List Bs) : goR (p :: l) kept = goR l (kept ++ [p]) := by
  conv => lhs; unfold goR
  rw [if_neg h1, if_neg h2]
/-- What the reference's loop holds to. -/
structure RD (T : Bs) (n : Nat) (l kept : List Bs) : Prop where
  free : ∀ p ∈ l, p.contains 47 = false
  kfree : ∀ p ∈ kept, p.contains 47 = false
  ans : catB (goR l kept) = T
  len : (catB l).length + (catB kept).length ≤ n
theorem RD.other {T : Bs} {n : Nat} {p : Bs} {l kept : List Bs} (h : RD T n (p :: l) kept) (h1 : p ≠ dot1) (h2 : p ≠ dot2) : RD T n l (kept ++ [p]) := by
  refine ⟨fun q hq => h.free q (List.mem_cons_of_mem _ hq), fun q hq => ?_, by rw [← goR_other h1 h2]; exact h.ans, ?_⟩
  · rcases List.mem_append.1 hq with hq | hq
    · exact h.kfree q hq
    · obtain rfl : q = p := by simpa using hq
      exact h.free q List.mem_cons_self
  · have := h.len
    rw [catB_cons] at this
    rw [catB_snoc]
    simp at this ⊢; omega
theorem free_nil : ∀ p ∈ ([[]] : List Bs), p.contains 47 = false := by 
  intro p hp
  obtain rfl : p = [] := by simpa using hp
  rfl
theorem RD.one {T : Bs} {n : Nat} {l kept : List Bs} (h : RD T n (dot1 :: l) kept) : RD T n (if l = [] then [[]] else l) kept := by
  have ha := h.ans
  have hl := h.len
  rw [goR_dot1] at ha
  rw [catB_cons] at hl
  by_cases h0 : l = []
  · subst h0
    rw [if_pos rfl] at ha ⊢
    exact ⟨free_nil, h.kfree, ha, by simp [dot1, catB_nil, catB_cons] at hl ⊢; omega⟩
  · rw [if_neg h0] at ha ⊢
    exact ⟨fun q hq => h.free q (List.mem_cons_of_mem _ hq), h.kfree, ha, by simp at hl; omega⟩
theorem cat_less (l : List Bs) : (catB l.dropLast).length ≤ (catB l).length := by
  by_cases h : l = []
  · subst h; exact Nat.le_refl _
  · conv => rhs; rw [← List.dropLast_concat_getLast h, catB_snoc]
    simp
theorem RD.two {T : Bs} {n : Nat} {l kept : List Bs} (h : RD T n (dot2 :: l) kept) : RD T n (if l = [] then [[]] else l) kept.dropLast := by
  have ha := h.ans
  have hl := h.len
  have hc := cat_less kept
  rw [goR_dot2] at ha
  rw [catB_cons] at hl
  by_cases h0 : l = []
  · subst h0
    rw [if_pos rfl] at ha ⊢
    exact ⟨free_nil, fun q hq => h.kfree q (List.dropLast_subset _ hq), ha, by simp [dot2, catB_nil, catB_cons] at hl ⊢; omega⟩
  · rw [if_neg h0] at ha ⊢
    exact ⟨fun q hq => h.free q (List.mem_cons_of_mem _ hq), fun q hq => h.kfree q (List.dropLast_subset _ hq), ha, by simp at hl; omega⟩
theorem RD.start (r : Bs) : RD (dotsB (47 :: r)) (r.length + 1) (pieces 47 r) [] :=
  ⟨fun p hp => pieces_free 47 r p hp, (fun p hp => absurd hp (List.not_mem_nil)), (dots_goR r).symm, by rw [pieces_cat, catB_nil]; simp⟩

end Go.Proofs.YtobhceopfjcmnaaGreatDoor
