/- Plain facts for the program's own way to the variables. -/
import Derived.Test.YtgpeehilemidlaaDoorPlain8
namespace Go.Proofs.YtgpeehilemidlaaDoor
open Go.Lib

theorem set_eq (cs : Bs) (p : UInt8 → Bool) (h : (List.range 256).all (fun n => cs.contains (UInt8.ofNat n) == p (UInt8.ofNat n)) = true) : (fun c => cs.contains c) = p := by
  funext c
  have h1 := List.all_eq_true.1 h c.toNat (by simp; exact c.toNat_lt)
  have h2 : UInt8.ofNat c.toNat = c := by simp
  rw [h2] at h1
  exact eq_of_beq h1

def keySet : Bs := [97, 98, 99, 100, 101, 102, 103, 104, 105, 106, 107, 108, 109, 110, 111, 112, 113, 114, 115, 116, 117, 118, 119, 120, 121, 122, 65, 66, 67, 68, 69, 70, 71, 72, 73, 74, 75, 76, 77, 78, 79, 80, 81, 82, 83, 84, 85, 86, 87, 88, 89, 90, 48, 49, 50, 51, 52, 53, 54, 55, 56, 57, 95, 45, 46]
theorem keySet_eq : (fun c => keySet.contains c) = keyc := set_eq _ _ (by decide +kernel)
def verSet : Bs := [48, 49, 50, 51, 52, 53, 54, 55, 56, 57, 46]
theorem verSet_eq : (fun c => verSet.contains c) = vd := set_eq _ _ (by decide +kernel)

theorem key_trim (s : Bs) : (Lib.trimLeftS s keySet == []) = s.all keyc := by
  unfold Lib.trimLeftS
  rw [show (fun x => keySet.contains x) = keyc from keySet_eq, Bool.eq_iff_iff, beq_iff_eq, dropWhile_nil_iff]
theorem vkey_eq (s : Bs) : vkey s = ((s != [] && decide (s.length ≤ 64)) && (Lib.trimLeftS s keySet == [])) := by
  rw [key_trim]
  unfold vkey
  congr 1
  rw [Bool.eq_iff_iff]
  cases s with
  | nil => simp
  | cons a l => simp

theorem cut_has (s t : Bs) (h : Lib.contains s t = true) : Lib.cut s t = (s.take (Lib.index s t).toNat, s.drop ((Lib.index s t).toNat + t.length), true) := by
  unfold Lib.cut; unfold Lib.contains at h; rw [if_pos (of_decide_eq_true h)]
theorem cut_hasnt (s t : Bs) (h : Lib.contains s t = false) : Lib.cut s t = (s, [], false) := by
  unfold Lib.cut; unfold Lib.contains at h; rw [if_neg (of_decide_eq_false h)]
theorem ver_msie (s : Bs) (h : Lib.contains s tMsie = true) : s.drop (verAt s) = (Lib.cut s tMsie).2.1 := by
  rw [cut_has s tMsie h]; unfold verAt; rw [h]; rfl
theorem ver_slash (s : Bs) (h : Lib.contains s tMsie = false) : s.drop (verAt s) = past 47 s := by
  unfold verAt; rw [h]; exact drop_past 47 s
/-- 'n := len(rest) - len(TrimLeft(rest, ..)); rest[:n], n > 0'. -/
theorem ver_take (r : Bs) : r.length - (Lib.trimLeftS r verSet).length = lead vd r := by
  unfold Lib.trimLeftS
  rw [show (fun x => verSet.contains x) = vd from verSet_eq, ← drop_lead, List.length_drop]
  have := lead_le vd r; omega
theorem ver_le (r : Bs) : (Lib.trimLeftS r verSet).length ≤ r.length := by
  unfold Lib.trimLeftS; exact dropWhile_len _ _

/-! a weight of nought -/
def isz (t : Bs) : Bool := Lib.hasPrefix t [113, 61, 48] && (Lib.trimPrefix t [113, 61, 48] == [] || ((Lib.trimPrefix t [113, 61, 48]).head? == some 46 && decide ((Lib.trimPrefix t [113, 61, 48]).length ≤ 4) && (Lib.trimS (Lib.trimPrefix t [113, 61, 48]).tail [48] == [])))
theorem trim0_all (l : Bs) : (Lib.trimS l [48] == []) = l.all (· == 48) := by
  unfold Lib.trimS Lib.trimLeftS Lib.trimRightS
  have hc : (fun x => ([48] : Bs).contains x) = (· == 48) := set_eq _ _ (by decide +kernel)
  rw [show (fun x => ([48] : Bs).contains x) = (· == 48) from hc, Bool.eq_iff_iff, beq_iff_eq, dropWhile_nil_iff]
  constructor
  · intro h
    have h2 : l.reverse.dropWhile (· == 48) = [] := by
      cases hd : l.reverse.dropWhile (· == 48) with
      | nil => rfl
      | cons a r =>
        rw [hd] at h
        have ha := List.head?_dropWhile_not (p := (· == (48 : UInt8))) (l := l.reverse)
        rw [hd] at ha
        simp at ha h
        exact absurd h.2 ha
    rw [dropWhile_nil_iff, List.all_reverse] at h2; exact h2
  · intro h
    have h2 : l.reverse.dropWhile (· == 48) = [] := by rw [dropWhile_nil_iff, List.all_reverse]; exact h
    rw [h2]; rfl
theorem isz_eq (t : Bs) : isz t = zq t := by
  unfold isz zq zeros
  match t with
  | [] => rfl
  | [a] => simp [Lib.hasPrefix, List.isPrefixOf]
  | [a, b] => simp [Lib.hasPrefix, List.isPrefixOf]
  | a :: b :: c :: r =>
    by_cases h : a = 113 ∧ b = 61 ∧ c = 48
    · obtain ⟨rfl, rfl, rfl⟩ := h
      have h1 : Lib.hasPrefix (113 :: 61 :: 48 :: r) [113, 61, 48] = true := by simp [Lib.hasPrefix]
      have h2 : Lib.trimPrefix (113 :: 61 :: 48 :: r) [113, 61, 48] = r := by unfold Lib.trimPrefix; rw [h1]; rfl
      rw [h1, h2]
      match r with
      | [] => rfl
      | [x] => rw [trim0_all]; simp
      | [x, y] => rw [trim0_all]; simp
      | [x, y, z] => rw [trim0_all]; simp
      | [x, y, z, u] => rw [trim0_all]; simp
      | x :: y :: z :: u :: v :: r => simp
    · have h1 : Lib.hasPrefix (a :: b :: c :: r) [113, 61, 48] = false := by
        unfold Lib.hasPrefix
        rw [Bool.eq_false_iff]
        simp only [List.isPrefixOf, Bool.and_true, ne_eq, Bool.and_eq_true, beq_iff_eq]
        rintro ⟨h1, h2, h3⟩
        exact h ⟨h1.symm, h2.symm, h3.symm⟩
      rw [h1]
      simp only [Bool.false_and, List.any_cons, List.any_nil, Bool.or_false]
      symm
      simp only [Bool.or_eq_false_iff, beq_eq_false_iff_ne, ne_eq, List.cons.injEq, not_and]
      refine ⟨?_, ?_, ?_, ?_, ?_⟩ <;> (intro h1 h2 h3; exact absurd ⟨h1, h2, h3⟩ h)
end Go.Proofs.YtgpeehilemidlaaDoor
