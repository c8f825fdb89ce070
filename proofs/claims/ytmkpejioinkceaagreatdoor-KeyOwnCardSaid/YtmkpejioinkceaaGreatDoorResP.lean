/- What references mean: plain. -/
import Derived.Test.YtmkpejioinkceaaGreatDoorUriN
import Derived.Lib.LastIndexByte
namespace Go.Proofs.YtmkpejioinkceaaGreatDoor
open Go.Lib

def alphac (c : UInt8) : Bool := decide (65 ≤ c.toNat ∧ c.toNat ≤ 90 ∨ 97 ≤ c.toNat ∧ c.toNat ≤ 122)
def schc (c : UInt8) : Bool := decide ((65 ≤ c.toNat ∧ c.toNat ≤ 90 ∨ 97 ≤ c.toNat ∧ c.toNat ≤ 122 ∨ 48 ≤ c.toNat ∧ c.toNat ≤ 57) ∨ c.toNat = 43 ∨ c.toNat = 45 ∨ c.toNat = 46)
def alphaSet : Bs := [97, 98, 99, 100, 101, 102, 103, 104, 105, 106, 107, 108, 109, 110, 111, 112, 113, 114, 115, 116, 117, 118, 119, 120, 121, 122, 65, 66, 67, 68, 69, 70, 71, 72, 73, 74, 75, 76, 77, 78, 79, 80, 81, 82, 83, 84, 85, 86, 87, 88, 89, 90]
def schSet : Bs := letters ++ [43, 45, 46]
theorem alphaSet_eq : (fun c => alphaSet.contains c) = alphac := set_eq _ _ (by decide +kernel)
theorem schSet_eq : (fun c => schSet.contains c) = schc := set_eq _ _ (by decide +kernel)
/-- May a name be a scheme's? -/
def nameOk : Bs → Bool
  | [] => false
  | c :: q => alphac c && (c :: q).all schc
def schB (r : Bs) : Bool := r.contains 58 && nameOk (upto 58 r)
def twoSl : Bs := [47, 47]
/-- What a whole address means. -/
def wholeB (t : Bs) : U × Int := if (parseB t).2 = 0 then (normB (parseB t).1, 0) else (noU, (parseB t).2)
/-- Where the last slash stands; 0, if nowhere. -/
def lastAt (l : Bs) : Nat := (lastIndexByte ⟨l.toArray⟩ 47).toNat
def withPath (u base : U) : Bs → U
  | [] => u
  | c :: q => if c = 47 then { u with path := c :: q } else { u with path := base.path.take (lastAt base.path + 1) ++ (c :: q) }
def withQuery (base : U) (r : Bs) : U := if upto 63 r = [] ∧ r.contains 63 = false then base else { base with query := past 63 r, hq := r.contains 63 }
/-- What a path and a query mean by a base. -/
def withinB (base : U) (r : Bs) : U := withPath (withQuery base r) base (upto 63 r)
def checkedB (u : U) : U × Int := if checkB u = 0 then (normB u, 0) else (noU, checkB u)
def refC (base : U) (r : Bs) : U × Int :=
  if schB r = true then
    (if (lower (upto 58 r) = http ∨ lower (upto 58 r) = https) ∧ hasPrefix (past 58 r) twoSl = true then wholeB (lower (upto 58 r) ++ 58 :: past 58 r) else (noU, 4))
  else if hasPrefix r twoSl = true then wholeB (base.scheme ++ 58 :: r)
  else checkedB (withinB base r)
/-- What a reference means by a base. -/
def refB (base : U) (s : Bs) : U × Int :=
  if 1024 < s.length then (noU, 3) else if checkB base = 0 then refC base (upto 35 s) else (noU, 2)

theorem last_some {l : Bs} (h : l.contains 47 = true) : lastIndexByte ⟨l.toArray⟩ 47 = (lastAt l : Int) ∧ lastAt l < l.length := by
  rcases lastIndexByte_spec ⟨l.toArray⟩ 47 with ⟨_, hn⟩ | ⟨i, hi, e, _, _⟩
  · exfalso
    obtain ⟨j, hj, he⟩ := List.getElem_of_mem (List.contains_iff_mem.1 h)
    refine hn j hj ?_
    show ((l.toArray[j]!).toNat : Int) = 47
    rw [getElem!_pos l.toArray j (by simpa using hj)]
    simp [he]
  · refine ⟨?_, ?_⟩
    · unfold lastAt; rw [e]; simp
    · unfold lastAt; rw [e]; have h2 : i < l.toArray.size := hi; simpa using h2
theorem slash_in {q : Bs} : (47 :: q : Bs).contains 47 = true := by simp
theorem upto_sub (c : UInt8) (l : Bs) : (upto c l).length ≤ l.length := by
  unfold upto; exact (List.takeWhile_sublist _).length_le
theorem past_sub (c : UInt8) (l : Bs) : (past c l).length ≤ l.length := by
  rw [← drop_past]; simp
theorem within_lim {u : U} {r : Bs} (h1 : u.scheme.length ≤ 10000) (h2 : u.host.length ≤ 10000) (h3 : u.path.length ≤ 4000) (h4 : u.query.length ≤ 10000) (hr : r.length ≤ 4000) :
    (withinB u r).scheme.length ≤ 10000 ∧ (withinB u r).host.length ≤ 10000 ∧ (withinB u r).path.length ≤ 10000 ∧ (withinB u r).query.length ≤ 10000 := by
  have hq : (withQuery u r).scheme = u.scheme ∧ (withQuery u r).host = u.host ∧ (withQuery u r).path = u.path ∧ (withQuery u r).query.length ≤ 10000 := by
    unfold withQuery
    split
    · exact ⟨rfl, rfl, rfl, h4⟩
    · exact ⟨rfl, rfl, rfl, by have := past_sub 63 r; show (past 63 r).length ≤ _; omega⟩
  obtain ⟨a1, a2, a3, a4⟩ := hq
  have hu := upto_sub 63 r
  unfold withinB
  generalize upto 63 r = p at *
  cases p with
  | nil => exact ⟨by show (withQuery u r).scheme.length ≤ _; rw [a1]; exact h1, by show (withQuery u r).host.length ≤ _; rw [a2]; exact h2, by show (withQuery u r).path.length ≤ _; rw [a3]; omega, a4⟩
  | cons c q =>
    unfold withPath
    by_cases hc : c = 47
    · simp only [hc, if_true]
      exact ⟨by rw [a1]; exact h1, by rw [a2]; exact h2, by simp at hu ⊢; omega, a4⟩
    · simp only [hc, if_false]
      refine ⟨by rw [a1]; exact h1, by rw [a2]; exact h2, ?_, a4⟩
      simp at hu ⊢; omega
end Go.Proofs.YtmkpejioinkceaaGreatDoor
