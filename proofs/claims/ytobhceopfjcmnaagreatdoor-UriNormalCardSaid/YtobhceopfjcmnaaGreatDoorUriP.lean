/- What URIs are: the plain law of their bytes, escapes, texts and checks. -/
import Derived.Test.YtobhceopfjcmnaaGreatDoorPlain
import Derived.Lib.ItoaNum
namespace Go.Proofs.YtobhceopfjcmnaaGreatDoor
open Go.Lib

/-! The kinds of bytes -/
def hexc (c : UInt8) : Bool := decide (48 ≤ c.toNat ∧ c.toNat ≤ 57 ∨ 97 ≤ c.toNat ∧ c.toNat ≤ 102 ∨ 65 ≤ c.toNat ∧ c.toNat ≤ 70)
def hexv (c : UInt8) : Nat := if c.toNat ≤ 57 then c.toNat - 48 else if 97 ≤ c.toNat then c.toNat - 87 else c.toNat - 55
def plainc (c : UInt8) : Bool := decide ((65 ≤ c.toNat ∧ c.toNat ≤ 90 ∨ 97 ≤ c.toNat ∧ c.toNat ≤ 122 ∨ 48 ≤ c.toNat ∧ c.toNat ≤ 57) ∨ c.toNat = 45 ∨ c.toNat = 46 ∨ c.toNat = 95 ∨ c.toNat = 126)
def hostc (c : UInt8) : Bool := decide ((65 ≤ c.toNat ∧ c.toNat ≤ 90 ∨ 97 ≤ c.toNat ∧ c.toNat ≤ 122 ∨ 48 ≤ c.toNat ∧ c.toNat ≤ 57) ∨ c.toNat = 45 ∨ c.toNat = 46)
def markSet : Bs := [33, 36, 38, 39, 40, 41, 42, 43, 44, 59, 61, 58, 64, 47]
def pathc (c : UInt8) : Bool := plainc c || markSet.contains c
def queryc (c : UInt8) : Bool := pathc c || c == 63
def hexSet : Bs := [48, 49, 50, 51, 52, 53, 54, 55, 56, 57, 97, 98, 99, 100, 101, 102, 65, 66, 67, 68, 69, 70]
def letters : Bs := [97, 98, 99, 100, 101, 102, 103, 104, 105, 106, 107, 108, 109, 110, 111, 112, 113, 114, 115, 116, 117, 118, 119, 120, 121, 122, 65, 66, 67, 68, 69, 70, 71, 72, 73, 74, 75, 76, 77, 78, 79, 80, 81, 82, 83, 84, 85, 86, 87, 88, 89, 90, 48, 49, 50, 51, 52, 53, 54, 55, 56, 57]
def plainSet : Bs := letters ++ [45, 46, 95, 126]
def hostSet : Bs := letters ++ [45, 46]
def pathSet : Bs := plainSet ++ markSet
def querySet : Bs := pathSet ++ [63]
theorem hexSet_eq : (fun c => hexSet.contains c) = hexc := set_eq _ _ (by decide +kernel)
theorem plainSet_eq : (fun c => plainSet.contains c) = plainc := set_eq _ _ (by decide +kernel)
theorem hostSet_eq : (fun c => hostSet.contains c) = hostc := set_eq _ _ (by decide +kernel)
theorem pathSet_eq : (fun c => pathSet.contains c) = pathc := set_eq _ _ (by decide +kernel)
theorem querySet_eq : (fun c => querySet.contains c) = queryc := set_eq _ _ (by decide +kernel)

/-- A trim over a set leaves nothing just if all bytes are of the set. -/
theorem trimS_nil (l cs : Bs) : (trimS l cs == []) = l.all fun c => cs.contains c := by
  rw [Bool.eq_iff_iff, beq_iff_eq]
  unfold trimS trimLeftS trimRightS
  rw [dropWhile_nil_iff]
  constructor
  · intro h
    rw [List.all_eq_true] at h ⊢
    intro c hc
    by_cases hin : c ∈ l.reverse.dropWhile (fun c => cs.contains c)
    · exact h c (List.mem_reverse.2 hin)
    · have hcr : c ∈ l.reverse := List.mem_reverse.2 hc
      rw [← List.takeWhile_append_dropWhile (p := fun c => cs.contains c) (l := l.reverse), List.mem_append] at hcr
      rcases hcr with hcr | hcr
      · exact (List.all_eq_true.1 (List.all_takeWhile (p := fun c => cs.contains c) (l := l.reverse))) c hcr
      · exact (hin hcr).elim
  · intro h
    rw [List.all_eq_true] at h ⊢
    intro c hc
    exact h c (List.mem_reverse.1 (List.dropWhile_sublist _ |>.subset (List.mem_reverse.1 hc)))

/-! Escapes -/
/-- Is a text made of bytes of a kind, and escapes? -/
def madeB (p : UInt8 → Bool) : Bs → Bool
  | [] => true
  | c :: r => if c = 37 then (match r with | a :: b :: r' => hexc a && hexc b && madeB p r' | _ => false) else p c && madeB p r
theorem madeB_byte {p : UInt8 → Bool} {c : UInt8} {r : Bs} (h : c ≠ 37) : madeB p (c :: r) = (p c && madeB p r) := by
  conv => lhs; unfold madeB
  rw [if_neg h]
theorem madeB_esc {p : UInt8 → Bool} {a b : UInt8} {r : Bs} : madeB p (37 :: a :: b :: r) = (hexc a && hexc b && madeB p r) := by
  conv => lhs; unfold madeB
  rw [if_pos rfl]
theorem madeB_short {p : UInt8 → Bool} {r : Bs} (h : r.length < 2) : madeB p (37 :: r) = false := by
  match r, h with
  | [], _ => rfl
  | [_], _ => rfl
  | _ :: _ :: _, h => simp at h; omega

/-- A digit in capitals. -/
def upc (c : UInt8) : UInt8 := if 97 ≤ c.toNat ∧ c.toNat ≤ 122 then c - 32 else c
/-- What an escape becomes. -/
def unesc (a b : UInt8) : Bs := if plainc (UInt8.ofNat (16 * hexv a + hexv b)) then [UInt8.ofNat (16 * hexv a + hexv b)] else [37, upc a, upc b]
/-- Escapes of plain bytes undone, others with capitals; a text that is not made well ends where it is not. -/
def undoB : Bs → Bs
  | [] => []
  | c :: r => if c = 37 then (match r with | a :: b :: r' => if hexc a && hexc b then unesc a b ++ undoB r' else [] | _ => []) else c :: undoB r
theorem undoB_byte {c : UInt8} {r : Bs} (h : c ≠ 37) : undoB (c :: r) = c :: undoB r := by
  conv => lhs; unfold undoB
  rw [if_neg h]
theorem undoB_esc {a b : UInt8} {r : Bs} (h : (hexc a && hexc b) = true) : undoB (37 :: a :: b :: r) = unesc a b ++ undoB r := by
  conv => lhs; unfold undoB
  rw [if_pos rfl]
  show (if (hexc a && hexc b) = true then _ else _) = _
  rw [if_pos h]

/-! Numerals -/
/-- The decimal digits of a number of at most k digits. -/
def numK : Nat → Nat → Bs
  | 0, _ => []
  | k + 1, n => if n < 10 then [UInt8.ofNat (48 + n)] else numK k (n / 10) ++ [UInt8.ofNat (48 + n % 10)]
def numB (n : Nat) : Bs := numK 6 n
theorem numK_dec : ∀ (k n : Nat), n < 10 ^ k → 0 < k → numK k n = decDigits n
  | 0, n, _, h => by omega
  | k + 1, n, h, _ => by
    unfold numK
    rw [decDigits]
    by_cases h1 : n < 10
    · rw [if_pos h1, dif_pos h1]
    · rw [if_neg h1, dif_neg h1]
      have h2 : n / 10 < 10 ^ k := by rw [Nat.pow_succ] at h; omega
      have h3 : 0 < k := by
        rcases Nat.eq_zero_or_pos k with rfl | h
        · simp at h2; omega
        · exact h
      rw [numK_dec k (n / 10) h2 h3]
theorem numB_itoa (n : Nat) (h : n < 1000000) : itoa (n : Int) = numB n := by
  unfold itoa numB
  rw [if_neg (by omega), numK_dec 6 n (by simpa using h) (by omega)]
  rfl

/-! URIs -/
structure U where
  scheme : Bs
  host : Bs
  port : Int
  path : Bs
  query : Bs
  hq : Bool
def http : Bs := [104, 116, 116, 112]
def https : Bs := [104, 116, 116, 112, 115]
def noU : U := ⟨[], [], 0, [], [], false⟩
/-- A URI's text. -/
def textB (u : U) : Bs := u.scheme ++ [58, 47, 47] ++ u.host ++ (bif u.port == 0 then [] else [58] ++ numB u.port.toNat) ++ u.path ++ (bif u.hq then [63] ++ u.query else [])
def hostOk (h : Bs) : Bool := decide (1 ≤ h.length ∧ h.length ≤ 253) && h.all hostc
def pathOk (s : Bs) : Bool := hasPrefix s [47] && madeB pathc s
def formB (u : U) : Bool := (u.scheme == http || u.scheme == https) && hostOk u.host && decide (0 ≤ u.port ∧ u.port ≤ 65535) && pathOk u.path && (u.hq || u.query == []) && madeB queryc u.query
def maxURI : Nat := 1024
/-- Whether it may be: 0, or what is wrong. -/
def checkB (u : U) : Int := bif formB u then bif decide ((textB u).length ≤ maxURI) then 0 else 3 else 4
def okB (u : U) : Bool := formB u && decide ((textB u).length ≤ maxURI)
theorem checkB_ok (u : U) : (checkB u = 0) ↔ okB u = true := by
  unfold checkB okB
  cases formB u
  · simp
  · cases h : decide ((textB u).length ≤ maxURI) <;> simp
def putB (u : U) : Bs := bif okB u then textB u else []

/-! Parse -/
def sep3 : Bs := [58, 47, 47]
/-- A port's digits: a number from 1 on as it is written; 0: they are none. -/
def portB (s : Bs) : Int := match atoi5 s with
  | some n => n
  | none => 0
where
  /-- The digits of a number of five digits at most, the first not nought. -/
  atoi5 (s : Bs) : Option Int := bif decide (1 ≤ s.length ∧ s.length ≤ 5) && s.all dig && !(s.head? == some 48) then some (s.foldl (fun n c => 10 * n + ((c.toNat : Int) - 48)) 0) else none
/-- What stands before the first / or ?, and so on. -/
def rawB (s : Bs) : U :=
  let t := (cut s sep3).2.1
  let r := upto 63 t
  let p := r.dropWhile (· != 47)
  ⟨(cut s sep3).1, r.takeWhile (· != 47), 0, if p = [] then [47] else p, past 63 t, t.contains 63⟩
/-- The port taken off the host; none: it is none. -/
def portedB (u : U) : Option U :=
  bif u.host.contains 58 then (if portB (past 58 u.host) = 0 then none else some { u with host := upto 58 u.host, port := portB (past 58 u.host) })
  else some u
def parseB (s : Bs) : U × Int :=
  bif decide (s.length ≤ maxURI) then
    match portedB (rawB s) with
    | none => (noU, 4)
    | some u => if checkB u = 0 then (u, 0) else (noU, checkB u)
  else (noU, 3)

/-! Paths without dots -/
def dot1 : Bs := [46]
def dot2 : Bs := [46, 46]
/-- One more piece of a path. -/
def dotStep (kept : List Bs) (p : Bs) : List Bs := if p = dot1 then kept else if p = dot2 then kept.dropLast else kept ++ [p]
def dotKept (l : List Bs) : List Bs := l.foldl dotStep []
/-- Each behind a slash. -/
def catB (l : List Bs) : Bs := (l.map fun p => 47 :: p).flatten
def isDot (p : Bs) : Bool := p == dot1 || p == dot2
def dotsB (s : Bs) : Bs :=
  bif hasPrefix s [47] then
    catB (dotKept (pieces 47 (s.drop 1))) ++ (bif isDot ((pieces 47 (s.drop 1)).getLast?.getD []) then [47] else [])
  else []
def normB (u : U) : U :=
  bif okB u then
    { u with host := lower u.host, port := bif u.scheme == http && u.port == 80 || u.scheme == https && u.port == 443 then 0 else u.port, path := dotsB (undoB u.path), query := undoB u.query }
  else noU
end Go.Proofs.YtobhceopfjcmnaaGreatDoor
