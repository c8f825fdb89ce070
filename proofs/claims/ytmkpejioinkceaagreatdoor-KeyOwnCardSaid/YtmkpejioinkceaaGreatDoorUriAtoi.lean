/- A port's digits: what Atoi says of them. -/
import Derived.Test.YtmkpejioinkceaaGreatDoorUriPut
import Derived.Test.YtmkpejioinkceaaGreatDoorUriN
namespace Go.Proofs.YtmkpejioinkceaaGreatDoor
open Go.RowKit
set_option linter.unusedVariables false

theorem parse10 : ∀ (l : Bs) (acc : Nat), l.all dig = true → acc < 10 ^ (10 - l.length) → l.length ≤ 10 → Lib.parseUint10 acc l = .ok (l.foldl (fun m c => 10 * m + (c.toNat - 48)) acc)
  | [], acc, _, _, _ => rfl
  | c :: r, acc, h, ha, hl => by
    rw [List.all_cons, Bool.and_eq_true] at h
    have hc : 48 ≤ c.toNat ∧ c.toNat ≤ 57 := of_decide_eq_true h.1
    simp only [List.length_cons] at ha hl
    have h10 : 10 ^ (10 - (r.length + 1)) ≤ 10 ^ 9 := Nat.pow_le_pow_right (by decide) (by omega)
    have h9 : (10 : Nat) ^ 9 = 1000000000 := by decide
    have hacc : acc < 1000000000 := by omega
    unfold Lib.parseUint10
    rw [if_pos hc, if_neg (by omega), if_neg (by omega), List.foldl_cons]
    have e : acc * 10 + (c.toNat - 48) = 10 * acc + (c.toNat - 48) := by omega
    rw [e]
    refine parse10 r _ h.2 ?_ (by omega)
    have hp : 10 ^ (10 - r.length) = 10 * 10 ^ (10 - (r.length + 1)) := by
      rw [show 10 - r.length = (10 - (r.length + 1)) + 1 by omega, Nat.pow_succ, Nat.mul_comm]
    rw [hp]; omega
/-- What portB takes is what Atoi reads. -/
theorem atoi_port {s : Bs} (h : portB s ≠ 0) : Lib.atoiAll s = .ok (portB s) ∧ Lib.itoa (portB s) = s ∧ 1 ≤ portB s ∧ portB s < 1000000 := by
  obtain ⟨h1, h2⟩ := portB_back h
  unfold portB portB.atoi5 at h
  cases hc : (decide (1 ≤ s.length ∧ s.length ≤ 5) && s.all dig && !(s.head? == some 48))
  · rw [hc] at h; exact (h rfl).elim
  · have hp : portB s = ((foldN s : Nat) : Int) := by
      unfold portB portB.atoi5
      rw [hc]
      rw [Bool.and_eq_true, Bool.and_eq_true] at hc
      exact num_fold_nat s 0 hc.1.2
    rw [Bool.and_eq_true, Bool.and_eq_true, decide_eq_true_eq] at hc
    obtain ⟨⟨hl, hd⟩, hz⟩ := hc
    have hlt : foldN s < 1000000 := by
      have hb : ∀ (l : Bs) (acc : Nat), l.all dig = true → l.foldl (fun m c => 10 * m + (c.toNat - 48)) acc < (acc + 1) * 10 ^ l.length := by
        intro l
        induction l with
        | nil => intro acc _; simp
        | cons c r ih =>
          intro acc hd
          rw [List.all_cons, Bool.and_eq_true] at hd
          have hc : 48 ≤ c.toNat ∧ c.toNat ≤ 57 := of_decide_eq_true hd.1
          have := ih (10 * acc + (c.toNat - 48)) hd.2
          rw [List.foldl_cons, List.length_cons, Nat.pow_succ]
          refine Nat.lt_of_lt_of_le this ?_
          rw [← Nat.mul_comm 10, ← Nat.mul_assoc]
          exact Nat.mul_le_mul_right _ (by omega)
      have h5 := hb s 0 hd
      have h6 : 10 ^ s.length ≤ 10 ^ 5 := Nat.pow_le_pow_right (by decide) hl.2
      have h7 : (10 : Nat) ^ 5 = 100000 := by decide
      unfold foldN
      omega
    have hpl : Lib.parseUint10 0 s = .ok (foldN s) := parse10 s 0 hd (Nat.pow_pos (by decide)) (by omega)
    refine ⟨?_, ?_, h2, by rw [hp]; omega⟩
    · rw [hp]
      cases s with
      | nil => simp at hl
      | cons c r =>
        have hdc := hd
        rw [List.all_cons, Bool.and_eq_true] at hdc
        have hc : 48 ≤ c.toNat ∧ c.toNat ≤ 57 := of_decide_eq_true hdc.1
        have e1 : (if c.toNat = 43 ∨ c.toNat = 45 then r else c :: r) = c :: r := if_neg (by omega)
        have e2 : Lib.parseMag (c :: r) = .ok (foldN (c :: r)) := by unfold Lib.parseMag; rw [if_neg (by simp)]; exact hpl
        unfold Lib.atoiAll
        simp only [e1, e2]
        rw [if_neg (by omega), if_neg (by omega), if_neg (by omega)]
    · rw [hp] at h1
      rw [hp, numB_itoa _ hlt]
      exact h1
/-- What a text is parsed as, its parts being known. -/
def parseT (u : U) : U × Int := match portedB u with
  | none => (noU, 4)
  | some v => if checkB v = 0 then (v, 0) else (noU, checkB v)
theorem parse_short {s : Bs} (h : s.length ≤ 1024) : parseB s = parseT (rawB s) := by
  unfold parseB
  rw [decide_eq_true (show s.length ≤ maxURI from h), cond_true]; rfl
theorem parse_long {s : Bs} (h : 1024 < s.length) : parseB s = (noU, 3) := by
  unfold parseB
  rw [decide_eq_false (show ¬ s.length ≤ maxURI from fun e => by unfold maxURI at e; omega), cond_false]
theorem cut_len (s t : Bs) {n : Nat} (h : s.length ≤ n) : (Lib.cut s t).1.length ≤ n ∧ (Lib.cut s t).2.1.length ≤ n := by
  unfold Lib.cut
  split
  · exact ⟨by simp; omega, by simp; omega⟩
  · exact ⟨h, by simp⟩
/-- How the program takes a port. -/
theorem port_ok {s : Bs} {v : Int} (h : Lib.atoiAll s = .ok v) (hi : Lib.itoa v = s) (h1 : 1 ≤ v) (h2 : v ≤ 65535) : portB s = v := by
  obtain ⟨n, rfl⟩ : ∃ n : Nat, v = n := ⟨v.toNat, by omega⟩
  rw [numB_itoa n (by omega)] at hi
  rw [← hi]
  exact portB_num n (by omega) (by omega)
theorem port_big {s : Bs} {v : Int} (h : Lib.atoiAll s = .ok v) (h2 : 65535 < v) : portB s = 0 ∨ portB s = v := by
  by_cases hp : portB s = 0
  · exact .inl hp
  · have := (atoi_port hp).1
    rw [h] at this
    injection this with e
    exact .inr e.symm
theorem port_no {s : Bs} (h : ∀ v, Lib.atoiAll s = .ok v → Lib.itoa v ≠ s ∨ v < 1) : portB s = 0 := by
  by_cases hp : portB s = 0
  · exact hp
  · obtain ⟨h1, h2, h3, _⟩ := atoi_port hp
    rcases h _ h1 with h | h
    · exact (h h2).elim
    · omega
end Go.Proofs.YtmkpejioinkceaaGreatDoor
