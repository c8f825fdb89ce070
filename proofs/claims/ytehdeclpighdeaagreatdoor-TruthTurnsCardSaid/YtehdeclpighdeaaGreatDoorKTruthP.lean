/- What tests say: plain. -/
import Derived.Test.YtehdeclpighdeaaGreatDoorKTestBackP
import Derived.Lib.Atoi
import Derived.Lib.Small
import GoSem.Op.String
namespace Go.Proofs.YtehdeclpighdeaaGreatDoor
open Go.Lib
inductive TV where
  | none
  | txt (s : Bs)
  | yes (b : Bool)
def falseB : Bs := [102, 97, 108, 115, 101]
def soB : TV → Bool
  | .none => false
  | .txt s => (s != []) && (s != falseB)
  | .yes b => b
def numV (s : Bs) : Nat := s.foldl (fun m c => 10 * m + (c.toNat - 48)) 0
def cmpB (a b : Bs) : Int := if Op.bytesLess a b = true then -1 else if a = b then 0 else 1
def ordB (a b : Bs) : Int := if numOk a = true ∧ numOk b = true then compareInt (numV a) (numV b) else cmpB a b
def holdsB (k o : Int) : Bool :=
  if k = 4 then o == 0 else if k = 5 then o != 0 else if k = 6 then decide (o < 0) else if k = 7 then decide (o ≤ 0) else if k = 8 then decide (0 < o) else decide (0 ≤ o)
def comparesB (k : Int) : TV → TV → Bool
  | .txt a, .txt b => holdsB k (ordB a b)
  | .yes a, .yes b => (decide (k = 4) && (a == b)) || (decide (k = 5) && (a != b))
  | _, _ => false
def kidsN (k : Int) : Int := if k = 10 ∨ k = 11 ∨ k = 12 then 0 else if k = 3 then 1 else if 1 ≤ k ∧ k ≤ 9 then 2 else -1
def nodeV (val : UseI → Bs × Bool) (k : Int) (t : Bs) (u : UseI) (L : List (TV × Nat)) : TV × Nat :=
  if kidsN k ≠ (L.length : Int) then (.none, 0)
  else if k = 10 ∨ k = 11 then (.txt t, 0)
  else if k = 12 then (bif (val u).2 then .txt (val u).1 else .none, 1)
  else match L with
    | [] => (.none, 0)
    | A :: R =>
      if k = 3 then (.yes (!soB A.1), A.2)
      else if k = 1 ∧ soB A.1 = true then (.yes true, A.2)
      else if k = 2 ∧ soB A.1 = false then (.yes false, A.2)
      else match R with
        | [] => (.none, 0)
        | B :: _ => if k = 1 ∨ k = 2 then (.yes (soB B.1), A.2 + B.2) else (.yes (comparesB k A.1 B.1), A.2 + B.2)
mutual
def askE (val : UseI → Bs × Bool) : Ex → TV × Nat
  | .mk k t u l => nodeV val k t u (askL val l)
def askL (val : UseI → Bs × Bool) : List Ex → List (TV × Nat)
  | [] => []
  | x :: r => askE val x :: askL val r
end
def isB (val : UseI → Bs × Bool) (x : Ex) : Bool := soB (askE val x).1
theorem askL_len (val : UseI → Bs × Bool) : ∀ l, (askL val l).length = l.length
  | [] => by rw [askL]; rfl
  | x :: r => by rw [askL, List.length_cons, List.length_cons, askL_len val r]
theorem askE_mk (val : UseI → Bs × Bool) (k : Int) (t : Bs) (u : UseI) (l : List Ex) : askE val (.mk k t u l) = nodeV val k t u (askL val l) := by rw [askE]
theorem askL_one (val : UseI → Bs × Bool) (a : Ex) : askL val [a] = [askE val a] := by rw [askL, askL]
theorem askL_two (val : UseI → Bs × Bool) (a b : Ex) : askL val [a, b] = [askE val a, askE val b] := by rw [askL, askL, askL]
theorem kids_cases (k : Int) : (kidsN k = 0 ∧ (k = 10 ∨ k = 11 ∨ k = 12)) ∨ (kidsN k = 1 ∧ k = 3) ∨ (kidsN k = 2 ∧ (k = 1 ∨ k = 2 ∨ (4 ≤ k ∧ k ≤ 9))) ∨ (kidsN k = -1 ∧ (k < 1 ∨ 12 < k)) := by
  unfold kidsN
  by_cases h : k = 10 ∨ k = 11 ∨ k = 12
  · rw [if_pos h]; exact .inl ⟨rfl, h⟩
  · rw [if_neg h]
    by_cases h3 : k = 3
    · rw [if_pos h3]; exact .inr (.inl ⟨rfl, h3⟩)
    · rw [if_neg h3]
      by_cases h9 : 1 ≤ k ∧ k ≤ 9
      · rw [if_pos h9]; exact .inr (.inr (.inl ⟨rfl, by omega⟩))
      · rw [if_neg h9]; exact .inr (.inr (.inr ⟨rfl, by omega⟩))
theorem less_irr : ∀ a : Bs, Op.bytesLess a a = false
  | [] => rfl
  | x :: r => by
    have h : Op.bytesLess (x :: r) (x :: r) = (decide (x < x) || (x == x && Op.bytesLess r r)) := by rw [Op.bytesLess]
    rw [h, less_irr r]; simp
theorem less_cons (x y : UInt8) (r s : Bs) : Op.bytesLess (x :: r) (y :: s) = (decide (x < y) || (x == y && Op.bytesLess r s)) := by rw [Op.bytesLess]
theorem less_nil (a : Bs) : Op.bytesLess a [] = false := by cases a <;> rfl
theorem nil_less (x : UInt8) (r : Bs) : Op.bytesLess [] (x :: r) = true := rfl
theorem less_tri : ∀ a b : Bs, Op.bytesLess a b = false → a ≠ b → Op.bytesLess b a = true
  | [], [], _, h => absurd rfl h
  | [], _ :: _, h, _ => by rw [nil_less] at h; cases h
  | _ :: _, [], _, _ => nil_less _ _
  | x :: r, y :: s, h, hn => by
    rw [less_cons] at h ⊢
    by_cases hxy : x = y
    · subst hxy
      simp only [beq_self_eq_true, Bool.true_and, Bool.or_eq_false_iff, Bool.or_eq_true] at h ⊢
      exact .inr (less_tri r s h.2 (by intro e; exact hn (by rw [e])))
    · simp only [Bool.or_eq_false_iff, Bool.or_eq_true, decide_eq_false_iff_not, decide_eq_true_eq] at h ⊢
      left
      have h1 := h.1
      rw [UInt8.lt_iff_toNat_lt] at h1 ⊢
      have : x.toNat ≠ y.toNat := fun e => hxy (UInt8.toNat_inj.1 e)
      omega
theorem less_asym : ∀ a b : Bs, Op.bytesLess a b = true → Op.bytesLess b a = false
  | [], [], h => by rw [less_nil] at h; cases h
  | [], _ :: _, _ => less_nil _
  | _ :: _, [], h => by rw [less_nil] at h; cases h
  | x :: r, y :: s, h => by
    rw [less_cons] at h ⊢
    simp only [Bool.or_eq_false_iff, Bool.or_eq_true, Bool.and_eq_true, Bool.and_eq_false_iff, decide_eq_false_iff_not, decide_eq_true_eq, beq_iff_eq, beq_eq_false_iff_ne] at h ⊢
    rw [UInt8.lt_iff_toNat_lt] at h ⊢
    rcases h with h | ⟨rfl, h⟩
    · exact ⟨by omega, .inl (by intro e; subst e; omega)⟩
    · exact ⟨by omega, .inr (less_asym r s h)⟩
theorem cmpB_turn (a b : Bs) : cmpB b a = -cmpB a b := by
  unfold cmpB
  by_cases h : a = b
  · subst h; rw [less_irr]; simp
  · have h' : ¬ b = a := fun e => h e.symm
    rw [if_neg h, if_neg h']
    cases hl : Op.bytesLess a b
    · rw [less_tri a b hl h]; simp
    · rw [less_asym a b hl]; simp
theorem compareInt_turn (x y : Int) : compareInt y x = -compareInt x y := by
  unfold compareInt
  by_cases h1 : x < y
  · have h2 : ¬ y < x := by omega
    simp [h1, h2]
  · by_cases h2 : y < x
    · simp [h1, h2]
    · simp [h1, h2]
theorem ordB_turn (a b : Bs) : ordB b a = -ordB a b := by
  unfold ordB
  by_cases h : numOk a = true ∧ numOk b = true
  · rw [if_pos h, if_pos ⟨h.2, h.1⟩]; exact compareInt_turn _ _
  · rw [if_neg h, if_neg (fun h' => h ⟨h'.2, h'.1⟩)]; exact cmpB_turn a b
theorem ordB_self (a : Bs) : ordB a a = 0 := by have := ordB_turn a a; omega
theorem ordB_three (a b : Bs) : ordB a b = -1 ∨ ordB a b = 0 ∨ ordB a b = 1 := by
  unfold ordB
  by_cases h : numOk a = true ∧ numOk b = true
  · rw [if_pos h]; unfold compareInt
    by_cases h1 : (numV a : Int) < numV b
    · rw [if_pos h1]; exact .inl rfl
    · rw [if_neg h1]
      by_cases h2 : (numV a : Int) > numV b
      · rw [if_pos h2]; exact .inr (.inr rfl)
      · rw [if_neg h2]; exact .inr (.inl rfl)
  · rw [if_neg h]; unfold cmpB
    by_cases h1 : Op.bytesLess a b = true
    · rw [if_pos h1]; exact .inl rfl
    · rw [if_neg h1]
      by_cases h2 : a = b
      · rw [if_pos h2]; exact .inr (.inl rfl)
      · rw [if_neg h2]; exact .inr (.inr rfl)
theorem decFrom_dig : ∀ (l : Bs) (acc : Nat), l.all dig = true → decFrom acc l = some (l.foldl (fun m c => 10 * m + (c.toNat - 48)) acc)
  | [], acc, _ => rfl
  | c :: r, acc, h => by
    rw [List.all_cons, Bool.and_eq_true] at h
    have hc : 48 ≤ c.toNat ∧ c.toNat ≤ 57 := of_decide_eq_true h.1
    unfold decFrom digitVal
    rw [if_pos hc]
    show decFrom (acc * 10 + (c.toNat - 48)) r = _
    rw [decFrom_dig r _ h.2, List.foldl_cons, Nat.mul_comm acc 10]
theorem atoi_num {s : Bs} (h : numOk s = true) : atoi s = some ((numV s : Nat) : Int) := by
  unfold numOk at h
  simp only [Bool.and_eq_true, decide_eq_true_eq, Bool.not_eq_true'] at h
  cases s with
  | nil => cases h.1.1
  | cons c r =>
    have hd : dig c = true := by have := h.2; rw [List.all_cons, Bool.and_eq_true] at this; exact this.1
    have hc : 48 ≤ c.toNat ∧ c.toNat ≤ 57 := of_decide_eq_true hd
    have e1 : (c == 45) = false := beq_eq_false_iff_ne.2 (by intro e; subst e; revert hc; decide)
    have e2 : (c == 43) = false := beq_eq_false_iff_ne.2 (by intro e; subst e; revert hc; decide)
    have e3 : decNat (c :: r) = some (numV (c :: r)) := by
      have : decNat (c :: r) = decFrom 0 (c :: r) := rfl
      rw [this, decFrom_dig _ 0 h.2]; rfl
    simp [atoi, e1, e2, e3]
end Go.Proofs.YtehdeclpighdeaaGreatDoor
