/- Variables that stand in a text: the plain law of where they stand and what the text becomes. -/
import Derived.Test.YtbkhmkpbbggcbaaGreatDoorKPlain
namespace Go.Proofs.YtbkhmkpbbggcbaaGreatDoor
open Go.Lib
structure Use where
  src : Nat
  to : Nat
  name : Bs
  key : Bs
  dft : Bs
  hk : Bool
  hd : Bool
def letc (c : UInt8) : Bool := decide ((65 ≤ c.toNat ∧ c.toNat ≤ 90 ∨ 97 ≤ c.toNat ∧ c.toNat ≤ 122 ∨ 48 ≤ c.toNat ∧ c.toNat ≤ 57) ∨ c.toNat = 95)
def letSet : Bs := [97, 98, 99, 100, 101, 102, 103, 104, 105, 106, 107, 108, 109, 110, 111, 112, 113, 114, 115, 116, 117, 118, 119, 120, 121, 122, 65, 66, 67, 68, 69, 70, 71, 72, 73, 74, 75, 76, 77, 78, 79, 80, 81, 82, 83, 84, 85, 86, 87, 88, 89, 90, 48, 49, 50, 51, 52, 53, 54, 55, 56, 57, 95]
theorem letSet_eq : (fun c => letSet.contains c) = letc := set_eq _ _ (by decide +kernel)
def wordSet : Bs := [97, 98, 99, 100, 101, 102, 103, 104, 105, 106, 107, 108, 109, 110, 111, 112, 113, 114, 115, 116, 117, 118, 119, 120, 121, 122, 65, 66, 67, 68, 69, 70, 71, 72, 73, 74, 75, 76, 77, 78, 79, 80, 81, 82, 83, 84, 85, 86, 87, 88, 89, 90, 48, 49, 50, 51, 52, 53, 54, 55, 56, 57, 95, 45, 46]
theorem wordSet_eq : (fun c => wordSet.contains c) = keyc := set_eq _ _ (by decide +kernel)
def keyAt (r : Bs) : Option (Bs × Bool × Bs) :=
  bif hasPrefix r [123] then
    bif (trimPrefix r [123]).contains 125 && vkey (upto 125 (trimPrefix r [123])) then some (upto 125 (trimPrefix r [123]), true, past 125 (trimPrefix r [123])) else none
  else some ([], false, r)
def dftIn (q : Bs) : Option (Bs × Bool × Bs) :=
  bif hasPrefix q [39] then bif (trimPrefix q [39]).contains 39 then some (upto 39 (trimPrefix q [39]), true, past 39 (trimPrefix q [39])) else none
  else bif (q.takeWhile keyc).isEmpty then none else some (q.takeWhile keyc, true, q.dropWhile keyc)
def dftAt (r : Bs) : Option (Bs × Bool × Bs) :=
  bif hasPrefix r [124] then dftIn (trimPrefix r [124]) else some ([], false, r)
structure Parts where
  name : Bs
  key : Bs
  dft : Bs
  hk : Bool
  hd : Bool
  rest : Bs
def endAt (nm k d : Bs) (hk hd : Bool) (r : Bs) : Option Parts := bif hasPrefix r [41] then some ⟨nm, k, d, hk, hd, trimPrefix r [41]⟩ else none
def otherAt (nm k : Bs) (hk : Bool) (r : Bs) : Option Parts := match dftAt r with | none => none | some (d, hd, r3) => endAt nm k d hk hd r3
def useAt (r : Bs) : Option Parts :=
  bif vknown (r.takeWhile letc) then match keyAt (r.dropWhile letc) with | none => none | some (k, hk, r2) => otherAt (r.takeWhile letc) k hk r2
  else none
def begins (s : Bs) : Bool := hasPrefix s [36, 40]
def partsAt (s : Bs) : Option Parts := bif begins s then useAt (s.drop 2) else none
def mkUse (n i : Nat) (p : Parts) : Use := ⟨i, n - p.rest.length, p.name, p.key, p.dft, p.hk, p.hd⟩
def findFrom (n : Nat) : Nat → Bs → Option Use
  | _, [] => none
  | i, c :: r => match partsAt (c :: r) with | some p => some (mkUse n i p) | none => findFrom n (i + 1) r
def vfind (s : Bs) (i : Nat) : Option Use := findFrom s.length i (s.drop i)
theorem vfind_at {s : Bs} {i : Nat} {p : Parts} (h : partsAt (s.drop i) = some p) : vfind s i = some (mkUse s.length i p) := by
  unfold vfind
  cases hs : s.drop i with
  | nil => rw [hs] at h; cases h
  | cons c r => rw [hs] at h; unfold findFrom; rw [h]
theorem vfind_next {s : Bs} {i : Nat} (h : partsAt (s.drop i) = none) : vfind s i = vfind s (i + 1) := by
  unfold vfind
  cases hs : s.drop i with
  | nil => rw [show s.drop (i + 1) = [] from by rw [← List.drop_drop, hs]; rfl]; rfl
  | cons c r =>
    rw [hs] at h
    have : s.drop (i + 1) = r := by rw [← List.drop_drop, hs]; rfl
    rw [this]
    conv => lhs; unfold findFrom
    rw [h]
theorem vfind_none {s : Bs} {i : Nat} (h : s.length ≤ i) : vfind s i = none := by
  unfold vfind; rw [List.drop_eq_nil_of_le h]; rfl
theorem partsAt_begins {s : Bs} (h : begins s = false) : partsAt s = none := by unfold partsAt; rw [h]; rfl
theorem partsAt_yes {s : Bs} (h : begins s = true) : partsAt s = useAt (s.drop 2) := by unfold partsAt; rw [h]; rfl
theorem pfx_len {s p : Bs} (h : hasPrefix s p = true) : p.length ≤ s.length := by
  unfold hasPrefix at h
  exact (List.isPrefixOf_iff_prefix.1 h).length_le
theorem tpfx_len {s p : Bs} (h : hasPrefix s p = true) : (trimPrefix s p).length + p.length = s.length := by
  unfold trimPrefix; rw [if_pos h, List.length_drop]; have := pfx_len h; omega
theorem keyAt_len {r k r2 : Bs} {hk : Bool} (h : keyAt r = some (k, hk, r2)) : r2.length ≤ r.length := by
  unfold keyAt at h
  cases h1 : hasPrefix r [123]
  · rw [h1] at h; cases h; exact Nat.le_refl _
  · rw [h1] at h
    have h3 := tpfx_len h1
    simp only [cond_true] at h
    cases h2 : ((trimPrefix r [123]).contains 125 && vkey (upto 125 (trimPrefix r [123])))
    · rw [h2] at h; cases h
    · rw [h2] at h
      simp only [cond_true, Option.some.injEq, Prod.mk.injEq] at h
      rw [← h.2.2]
      have := past_len 125 (trimPrefix r [123]); omega
theorem dftAt_len {r d r3 : Bs} {hd : Bool} (h : dftAt r = some (d, hd, r3)) : r3.length ≤ r.length := by
  unfold dftAt at h
  cases h1 : hasPrefix r [124]
  · rw [h1] at h; cases h; exact Nat.le_refl _
  · rw [h1] at h
    have h3 := tpfx_len h1
    simp only [cond_true] at h
    unfold dftIn at h
    cases h2 : hasPrefix (trimPrefix r [124]) [39]
    · rw [h2] at h
      simp only [cond_false] at h
      cases h4 : ((trimPrefix r [124]).takeWhile keyc).isEmpty
      · rw [h4] at h
        simp only [cond_false, Option.some.injEq, Prod.mk.injEq] at h
        rw [← h.2.2]
        have := dropWhile_len keyc (trimPrefix r [124]); omega
      · rw [h4] at h; cases h
    · rw [h2] at h
      have h5 := tpfx_len h2
      simp only [cond_true] at h
      cases h4 : (trimPrefix (trimPrefix r [124]) [39]).contains 39
      · rw [h4] at h; cases h
      · rw [h4] at h
        simp only [cond_true, Option.some.injEq, Prod.mk.injEq] at h
        rw [← h.2.2]
        have := past_len 39 (trimPrefix (trimPrefix r [124]) [39]); omega
theorem useAt_len {r : Bs} {p : Parts} (h : useAt r = some p) : p.rest.length + 1 ≤ r.length ∧ vknown p.name = true := by
  unfold useAt at h
  cases h1 : vknown (r.takeWhile letc)
  · rw [h1] at h; cases h
  · rw [h1] at h
    simp only [cond_true] at h
    cases h2 : keyAt (r.dropWhile letc) with
    | none => rw [h2] at h; cases h
    | some q =>
      obtain ⟨k, hk, r2⟩ := q
      rw [h2] at h
      have l1 := keyAt_len h2
      have l0 := dropWhile_len letc r
      change otherAt (r.takeWhile letc) k hk r2 = some p at h
      unfold otherAt at h
      cases h3 : dftAt r2 with
      | none => rw [h3] at h; cases h
      | some q =>
        obtain ⟨d, hd, r3⟩ := q
        rw [h3] at h
        have l2 := dftAt_len h3
        change endAt (r.takeWhile letc) k d hk hd r3 = some p at h
        unfold endAt at h
        cases h4 : hasPrefix r3 [41]
        · rw [h4] at h; cases h
        · rw [h4] at h
          simp only [cond_true, Option.some.injEq] at h
          subst h
          have := tpfx_len h4
          simp only [List.length_singleton] at this
          exact ⟨by show (trimPrefix r3 [41]).length + 1 ≤ _; omega, h1⟩
theorem partsAt_len {s : Bs} {p : Parts} (h : partsAt s = some p) : p.rest.length + 3 ≤ s.length ∧ begins s = true ∧ vknown p.name = true ∧ useAt (s.drop 2) = some p := by
  cases hb : begins s
  · rw [partsAt_begins hb] at h; cases h
  · rw [partsAt_yes hb] at h
    have := useAt_len h
    have h2 := pfx_len hb
    rw [List.length_drop] at this
    simp at h2
    exact ⟨by omega, rfl, this.2, h⟩
structure Found (s : Bs) (i : Nat) (u : Use) : Prop where
  ge : i ≤ u.src
  lt : u.src + 3 ≤ u.to
  le : u.to ≤ s.length
  begins : begins (s.drop u.src) = true
  known : vknown u.name = true
  parts : ∃ p, useAt (s.drop (u.src + 2)) = some p ∧ u = mkUse s.length u.src p
theorem vfind_found : ∀ (k : Nat) (s : Bs) (i : Nat) (u : Use), s.length ≤ k + i → vfind s i = some u → Found s i u
  | 0, s, i, u, hk, h => by rw [vfind_none (by omega)] at h; cases h
  | k + 1, s, i, u, hk, h => by
    cases hp : partsAt (s.drop i) with
    | none =>
      rw [vfind_next hp] at h
      have f := vfind_found k s (i + 1) u (by omega) h
      exact ⟨by have := f.ge; omega, f.lt, f.le, f.begins, f.known, f.parts⟩
    | some p =>
      rw [vfind_at hp] at h
      obtain rfl := Option.some.inj h
      obtain ⟨h1, h2, h3, h4⟩ := partsAt_len hp
      rw [List.length_drop] at h1
      rw [List.drop_drop] at h4
      refine ⟨Nat.le_refl _, ?_, ?_, h2, h3, p, h4, rfl⟩
      · show i + 3 ≤ s.length - p.rest.length; omega
      · show s.length - p.rest.length ≤ s.length; omega
end Go.Proofs.YtbkhmkpbbggcbaaGreatDoor
