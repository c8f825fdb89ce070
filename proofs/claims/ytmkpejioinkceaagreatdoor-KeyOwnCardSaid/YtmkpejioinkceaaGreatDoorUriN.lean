/- What URIs are: the plain law of their bytes, escapes, texts and checks. Paths without dots: the plain law. What a text is made of, piece by piece; the text of a URI is parsed as it. The normal form of a URI: it may be, is its own, and is not longer. What is parsed has the text that it was parsed of, but for the path that was none. -/
import Derived.Test.YtmkpejioinkceaaGreatDoorPlain
import Derived.Lib.ItoaNum
namespace Go.Proofs.YtmkpejioinkceaaGreatDoor
open Go.Lib

/-! The kinds of bytes -/
def hexc (c : UInt8) : Bool := decide (48 ≤ c.toNat ∧ c.toNat ≤ 57 ∨ 97 ≤ c.toNat ∧ c.toNat ≤ 102 ∨ 65 ≤ c.toNat ∧ c.toNat ≤ 70)
def hexv (c : UInt8) : Nat := if c.toNat ≤ 57 then c.toNat - 48 else if 97 ≤ c.toNat then c.toNat - 87 else c.toNat - 55
def plainc (c : UInt8) : Bool := decide ((65 ≤ c.toNat ∧ c.toNat ≤ 90 ∨ 97 ≤ c.toNat ∧ c.toNat ≤ 122 ∨ 48 ≤ c.toNat ∧ c.toNat ≤ 57) ∨ c.toNat = 45 ∨ c.toNat = 46 ∨ c.toNat = 95 ∨ c.toNat = 126)
def hostc (c : UInt8) : Bool := decide ((65 ≤ c.toNat ∧ c.toNat ≤ 90 ∨ 97 ≤ c.toNat ∧ c.toNat ≤ 122 ∨ 48 ≤ c.toNat ∧ c.toNat ≤ 57) ∨ c.toNat = 45 ∨ c.toNat = 46)
def markSet : Bs := [33, 36, 38, 39, 40, 41, 42, 43, 44, 59, 61, 58, 64, 47]
def pathc (c : UInt8) : Bool := plainc c || markSet.contains c
def queryc (c : UInt8) : Bool := pathc c || c == 63
def hexSet : Bs := [48, 49, 50, 51, 52, 53, 54, 55, 56, 57, 97, 98, 99, 100, 101, 102, 65, 66, 67, 68, 69, 70]
def letters : Bs := [97, 98, 99, 100, 101, 102, 103, 104, 105, 106, 107, 108, 109, 110, 111, 112, 113, 114, 115, 116, 117, 118, 119, 120, 121, 122, 65, 66, 67, 68, 69, 70, 71, 72, 73, 74, 75, 76, 77, 78, 79, 80, 81, 82, 83, 84, 85, 86, 87, 88, 89, 90, 48, 49, 50, 51, 52, 53, 54, 55, 56, 57]
def plainSet : Bs := letters ++ [45, 46, 95, 126]
def hostSet : Bs := letters ++ [45, 46]
def pathSet : Bs := plainSet ++ markSet
def querySet : Bs := pathSet ++ [63]
theorem hexSet_eq : (fun c => hexSet.contains c) = hexc := set_eq _ _ (by decide +kernel)
theorem plainSet_eq : (fun c => plainSet.contains c) = plainc := set_eq _ _ (by decide +kernel)
theorem hostSet_eq : (fun c => hostSet.contains c) = hostc := set_eq _ _ (by decide +kernel)
theorem pathSet_eq : (fun c => pathSet.contains c) = pathc := set_eq _ _ (by decide +kernel)
theorem querySet_eq : (fun c => querySet.contains c) = queryc := set_eq _ _ (by decide +kernel)

/-- A trim over a set leaves nothing just if all bytes are of the set. -/
theorem trimS_nil (l cs : Bs) : (trimS l cs == []) = l.all fun c => cs.contains c := by
  rw [Bool.eq_iff_iff, beq_iff_eq]
  unfold trimS trimLeftS trimRightS
  rw [dropWhile_nil_iff]
  constructor
  · intro h
    rw [List.all_eq_true] at h ⊢
    intro c hc
    by_cases hin : c ∈ l.reverse.dropWhile (fun c => cs.contains c)
    · exact h c (List.mem_reverse.2 hin)
    · have hcr : c ∈ l.reverse := List.mem_reverse.2 hc
      rw [← List.takeWhile_append_dropWhile (p := fun c => cs.contains c) (l := l.reverse), List.mem_append] at hcr
      rcases hcr with hcr | hcr
      · exact (List.all_eq_true.1 (List.all_takeWhile (p := fun c => cs.contains c) (l := l.reverse))) c hcr
      · exact (hin hcr).elim
  · intro h
    rw [List.all_eq_true] at h ⊢
    intro c hc
    exact h c (List.mem_reverse.1 (List.dropWhile_sublist _ |>.subset (List.mem_reverse.1 hc)))

/-! Escapes -/
/-- Is a text made of bytes of a kind, and escapes? -/
def madeB (p : UInt8 → Bool) : Bs → Bool
  | [] => true
  | c :: r => if c = 37 then (match r with | a :: b :: r' => hexc a && hexc b && madeB p r' | _ => false) else p c && madeB p r
theorem madeB_byte {p : UInt8 → Bool} {c : UInt8} {r : Bs} (h : c ≠ 37) : madeB p (c :: r) = (p c && madeB p r) := by
  conv => lhs; unfold madeB
  rw [if_neg h]
theorem madeB_esc {p : UInt8 → Bool} {a b : UInt8} {r : Bs} : madeB p (37 :: a :: b :: r) = (hexc a && hexc b && madeB p r) := by
  conv => lhs; unfold madeB
  rw [if_pos rfl]
theorem madeB_short {p : UInt8 → Bool} {r : Bs} (h : r.length < 2) : madeB p (37 :: r) = false := by
  match r, h with
  | [], _ => rfl
  | [_], _ => rfl
  | _ :: _ :: _, h => simp at h; omega

/-- A digit in capitals. -/
def upc (c : UInt8) : UInt8 := if 97 ≤ c.toNat ∧ c.toNat ≤ 122 then c - 32 else c
/-- What an escape becomes. -/
def unesc (a b : UInt8) : Bs := if plainc (UInt8.ofNat (16 * hexv a + hexv b)) then [UInt8.ofNat (16 * hexv a + hexv b)] else [37, upc a, upc b]
/-- Escapes of plain bytes undone, others with capitals; a text that is not made well ends where it is not. -/
def undoB : Bs → Bs
  | [] => []
  | c :: r => if c = 37 then (match r with | a :: b :: r' => if hexc a && hexc b then unesc a b ++ undoB r' else [] | _ => []) else c :: undoB r
theorem undoB_byte {c : UInt8} {r : Bs} (h : c ≠ 37) : undoB (c :: r) = c :: undoB r := by
  conv => lhs; unfold undoB
  rw [if_neg h]
theorem undoB_esc {a b : UInt8} {r : Bs} (h : (hexc a && hexc b) = true) : undoB (37 :: a :: b :: r) = unesc a b ++ undoB r := by
  conv => lhs; unfold undoB
  rw [if_pos rfl]
  show (if (hexc a && hexc b) = true then _ else _) = _
  rw [if_pos h]

/-! Numerals -/
/-- The decimal digits of a number of at most k digits. -/
def numK : Nat → Nat → Bs
  | 0, _ => []
  | k + 1, n => if n < 10 then [UInt8.ofNat (48 + n)] else numK k (n / 10) ++ [UInt8.ofNat (48 + n % 10)]
def numB (n : Nat) : Bs := numK 6 n
theorem numK_dec : ∀ (k n : Nat), n < 10 ^ k → 0 < k → numK k n = decDigits n
  | 0, n, _, h => by omega
  | k + 1, n, h, _ => by
    unfold numK
    rw [decDigits]
    by_cases h1 : n < 10
    · rw [if_pos h1, dif_pos h1]
    · rw [if_neg h1, dif_neg h1]
      have h2 : n / 10 < 10 ^ k := by rw [Nat.pow_succ] at h; omega
      have h3 : 0 < k := by
        rcases Nat.eq_zero_or_pos k with rfl | h
        · simp at h2; omega
        · exact h
      rw [numK_dec k (n / 10) h2 h3]
theorem numB_itoa (n : Nat) (h : n < 1000000) : itoa (n : Int) = numB n := by
  unfold itoa numB
  rw [if_neg (by omega), numK_dec 6 n (by simpa using h) (by omega)]
  rfl

/-! URIs -/
structure U where
  scheme : Bs
  host : Bs
  port : Int
  path : Bs
  query : Bs
  hq : Bool
def http : Bs := [104, 116, 116, 112]
def https : Bs := [104, 116, 116, 112, 115]
def noU : U := ⟨[], [], 0, [], [], false⟩
/-- A URI's text. -/
def textB (u : U) : Bs := u.scheme ++ [58, 47, 47] ++ u.host ++ (bif u.port == 0 then [] else [58] ++ numB u.port.toNat) ++ u.path ++ (bif u.hq then [63] ++ u.query else [])
def hostOk (h : Bs) : Bool := decide (1 ≤ h.length ∧ h.length ≤ 253) && h.all hostc
def pathOk (s : Bs) : Bool := hasPrefix s [47] && madeB pathc s
def formB (u : U) : Bool := (u.scheme == http || u.scheme == https) && hostOk u.host && decide (0 ≤ u.port ∧ u.port ≤ 65535) && pathOk u.path && (u.hq || u.query == []) && madeB queryc u.query
def maxURI : Nat := 1024
/-- Whether it may be: 0, or what is wrong. -/
def checkB (u : U) : Int := bif formB u then bif decide ((textB u).length ≤ maxURI) then 0 else 3 else 4
def okB (u : U) : Bool := formB u && decide ((textB u).length ≤ maxURI)
theorem checkB_ok (u : U) : (checkB u = 0) ↔ okB u = true := by
  unfold checkB okB
  cases formB u
  · simp
  · cases h : decide ((textB u).length ≤ maxURI) <;> simp
def putB (u : U) : Bs := bif okB u then textB u else []

/-! Parse -/
def sep3 : Bs := [58, 47, 47]
/-- A port's digits: a number from 1 on as it is written; 0: they are none. -/
def portB (s : Bs) : Int := match atoi5 s with
  | some n => n
  | none => 0
where
  /-- The digits of a number of five digits at most, the first not nought. -/
  atoi5 (s : Bs) : Option Int := bif decide (1 ≤ s.length ∧ s.length ≤ 5) && s.all dig && !(s.head? == some 48) then some (s.foldl (fun n c => 10 * n + ((c.toNat : Int) - 48)) 0) else none
/-- What stands before the first / or ?, and so on. -/
def rawB (s : Bs) : U :=
  let t := (cut s sep3).2.1
  let r := upto 63 t
  let p := r.dropWhile (· != 47)
  ⟨(cut s sep3).1, r.takeWhile (· != 47), 0, if p = [] then [47] else p, past 63 t, t.contains 63⟩
/-- The port taken off the host; none: it is none. -/
def portedB (u : U) : Option U :=
  bif u.host.contains 58 then (if portB (past 58 u.host) = 0 then none else some { u with host := upto 58 u.host, port := portB (past 58 u.host) })
  else some u
def parseB (s : Bs) : U × Int :=
  bif decide (s.length ≤ maxURI) then
    match portedB (rawB s) with
    | none => (noU, 4)
    | some u => if checkB u = 0 then (u, 0) else (noU, checkB u)
  else (noU, 3)

/-! Paths without dots -/
def dot1 : Bs := [46]
def dot2 : Bs := [46, 46]
/-- One more piece of a path. -/
def dotStep (kept : List Bs) (p : Bs) : List Bs := if p = dot1 then kept else if p = dot2 then kept.dropLast else kept ++ [p]
def dotKept (l : List Bs) : List Bs := l.foldl dotStep []
/-- Each behind a slash. -/
def catB (l : List Bs) : Bs := (l.map fun p => 47 :: p).flatten
def isDot (p : Bs) : Bool := p == dot1 || p == dot2
def dotsB (s : Bs) : Bs :=
  bif hasPrefix s [47] then
    catB (dotKept (pieces 47 (s.drop 1))) ++ (bif isDot ((pieces 47 (s.drop 1)).getLast?.getD []) then [47] else [])
  else []
def normB (u : U) : U :=
  bif okB u then
    { u with host := lower u.host, port := bif u.scheme == http && u.port == 80 || u.scheme == https && u.port == 443 then 0 else u.port, path := dotsB (undoB u.path), query := undoB u.query }
  else noU
end Go.Proofs.YtmkpejioinkceaaGreatDoor

namespace Go.Proofs.YtmkpejioinkceaaGreatDoor
open Go.Lib

theorem catB_nil : catB [] = [] := rfl
theorem catB_cons (p : Bs) (l : List Bs) : catB (p :: l) = 47 :: p ++ catB l := by unfold catB; simp
theorem catB_snoc (l : List Bs) (p : Bs) : catB (l ++ [p]) = catB l ++ 47 :: p := by unfold catB; simp
theorem catB_app (l m : List Bs) : catB (l ++ m) = catB l ++ catB m := by unfold catB; simp

/-- The reference's way: the pieces that are left, and those that are kept. -/
def goR : List Bs → List Bs → List Bs
  | [], kept => kept
  | p :: rest, kept =>
    if p = dot1 then (if rest = [] then kept ++ [[]] else goR rest kept)
    else if p = dot2 then (if rest = [] then kept.dropLast ++ [[]] else goR rest kept.dropLast)
    else goR rest (kept ++ [p])

theorem isDot_iff (p : Bs) : isDot p = true ↔ p = dot1 ∨ p = dot2 := by
  unfold isDot; rw [Bool.or_eq_true, beq_iff_eq, beq_iff_eq]
theorem isDot_no {p : Bs} (h1 : p ≠ dot1) (h2 : p ≠ dot2) : isDot p = false := by
  rw [← Bool.not_eq_true, isDot_iff]; rintro (h | h)
  · exact h1 h
  · exact h2 h
theorem dot12 : dot2 ≠ dot1 := by decide

theorem goR_dots : ∀ (l kept : List Bs), l ≠ [] → catB (goR l kept) = catB (l.foldl dotStep kept) ++ (bif isDot (l.getLast?.getD []) then [47] else [])
  | [], _, h => (h rfl).elim
  | [p], kept, _ => by
    by_cases h1 : p = dot1
    · subst h1
      unfold goR
      rw [if_pos rfl, if_pos rfl, catB_snoc]
      show _ = catB (dotStep kept dot1) ++ _
      unfold dotStep
      rw [if_pos rfl]; rfl
    · by_cases h2 : p = dot2
      · subst h2
        unfold goR
        rw [if_neg dot12, if_pos rfl, if_pos rfl, catB_snoc]
        show _ = catB (dotStep kept dot2) ++ _
        unfold dotStep
        rw [if_neg dot12, if_pos rfl]; rfl
      · unfold goR
        rw [if_neg h1, if_neg h2]
        unfold goR
        show _ = catB (dotStep kept p) ++ (bif isDot p then [47] else [])
        unfold dotStep
        rw [if_neg h1, if_neg h2, isDot_no h1 h2]; simp
  | p :: q :: r, kept, _ => by
    have ih := fun k => goR_dots (q :: r) k (by simp)
    have hl : (p :: q :: r).getLast? = (q :: r).getLast? := by simp
    rw [hl, List.foldl_cons, ← ih]
    conv => lhs; unfold goR
    unfold dotStep
    by_cases h1 : p = dot1
    · rw [if_pos h1, if_pos h1, if_neg (by simp)]
    · by_cases h2 : p = dot2
      · rw [if_neg h1, if_pos h2, if_neg h1, if_pos h2, if_neg (by simp)]
      · rw [if_neg h1, if_neg h2, if_neg h1, if_neg h2]

theorem pieces_cat : ∀ s : Bs, catB (pieces 47 s) = 47 :: s
  | [] => rfl
  | x :: l => by
    have ih := pieces_cat l
    rw [pieces_cons]
    by_cases h : x = 47
    · subst h; rw [if_pos (by simp), catB_cons, ih]; rfl
    · rw [if_neg (by simpa using h), catB_cons]
      have hne := pieces_ne 47 l
      cases hp : pieces 47 l with
      | nil => exact (hne hp).elim
      | cons a b =>
        rw [hp, catB_cons] at ih
        simp only [List.headD_cons, List.tail_cons, List.cons_append]
        simp only [List.cons_append, List.cons.injEq, true_and] at ih
        rw [← ih]
theorem pieces_free (c : UInt8) : ∀ (s p : Bs), p ∈ pieces c s → p.contains c = false
  | [], p, h => by
    have : p = [] := by simpa [pieces] using h
    subst this; rfl
  | x :: l, p, h => by
    have ih := pieces_free c l
    rw [pieces_cons] at h
    by_cases hx : (x == c) = true
    · rw [if_pos hx] at h
      rcases List.mem_cons.1 h with rfl | h
      · rfl
      · exact ih p h
    · rw [if_neg hx] at h
      rcases List.mem_cons.1 h with rfl | h
      · have hne := pieces_ne c l
        cases hp : pieces c l with
        | nil => exact (hne hp).elim
        | cons a b =>
          have := ih a (by rw [hp]; simp)
          simp only [List.headD_cons]
          rw [has_cons, this]; simpa using hx
      · exact ih p (List.mem_of_mem_tail h)

/-! One step in the reference's list of bytes -/
/-- The first piece of 'in', its slash counted. -/
theorem cat_lead (p : Bs) (l : List Bs) (h : p.contains 47 = false) : lead (· != 47) ((catB (p :: l)).drop 1) = p.length := by
  rw [catB_cons]
  show lead (· != 47) (p ++ catB l) = p.length
  induction p with
  | nil =>
    cases l with
    | nil => rfl
    | cons a b => rw [catB_cons]; rfl
  | cons x r ih =>
    rw [has_cons, Bool.or_eq_false_iff] at h
    rw [List.cons_append, lead_cons, if_pos (by have := h.1; simp at this; simpa using this), ih h.2]; rfl
/-- How far back the last slash lies. -/
theorem free_rev (p : Bs) (h : p.contains 47 = false) (l : Bs) : ∀ k, k < p.length → (l ++ 47 :: p)[l.length + 1 + k]? ≠ some 47 := by
  intro k hk e
  rw [List.getElem?_append_right (by omega), show l.length + 1 + k - l.length = k + 1 by omega, List.getElem?_cons_succ] at e
  have := List.mem_of_getElem? e
  rw [← List.contains_iff_mem, h] at this; cases this
theorem dropLast_cat (l : List Bs) (p : Bs) : catB (l ++ [p]).dropLast = catB l := by rw [List.dropLast_concat]
theorem kept_free : ∀ (l kept : List Bs), (∀ p ∈ l, p.contains 47 = false) → (∀ p ∈ kept, p.contains 47 = false) → ∀ p ∈ l.foldl dotStep kept, p.contains 47 = false
  | [], kept, _, hk => hk
  | a :: l, kept, hl, hk => by
    rw [List.foldl_cons]
    refine kept_free l _ (fun p hp => hl p (List.mem_cons_of_mem _ hp)) ?_
    unfold dotStep
    intro p hp
    by_cases h1 : a = dot1
    · rw [if_pos h1] at hp; exact hk p hp
    · by_cases h2 : a = dot2
      · rw [if_neg h1, if_pos h2] at hp; exact hk p ((List.dropLast_sublist _).subset hp)
      · rw [if_neg h1, if_neg h2] at hp
        rcases List.mem_append.1 hp with hp | hp
        · exact hk p hp
        · obtain rfl : p = a := by simpa using hp
          exact hl p (by simp)
end Go.Proofs.YtmkpejioinkceaaGreatDoor

namespace Go.Proofs.YtmkpejioinkceaaGreatDoor
open Go.Lib

/-- A text that is made well is gone through piece by piece. -/
theorem made_ind {p : UInt8 → Bool} {M : Bs → Prop} (h0 : M []) (h1 : ∀ c r, c ≠ 37 → p c = true → madeB p r = true → M r → M (c :: r))
    (h2 : ∀ a b r, hexc a = true → hexc b = true → madeB p r = true → M r → M (37 :: a :: b :: r)) : ∀ (n : Nat) (s : Bs), s.length ≤ n → madeB p s = true → M s
  | _, [], _, _ => h0
  | n + 1, c :: r, hn, h => by
    have hr : r.length ≤ n := by simpa using hn
    by_cases hc : c = 37
    · subst hc
      match r, hr, h with
      | [], _, h => cases h
      | [_], _, h => cases h
      | a :: b :: r', hr, h =>
        rw [madeB_esc, Bool.and_eq_true, Bool.and_eq_true] at h
        exact h2 a b r' h.1.1 h.1.2 h.2 (made_ind h0 h1 h2 n r' (by simp at hr; omega) h.2)
    · rw [madeB_byte hc, Bool.and_eq_true] at h
      exact h1 c r hc h.1 h.2 (made_ind h0 h1 h2 n r hr h.2)
theorem madeInd {p : UInt8 → Bool} {M : Bs → Prop} {s : Bs} (h : madeB p s = true) (h0 : M []) (h1 : ∀ c r, c ≠ 37 → p c = true → madeB p r = true → M r → M (c :: r))
    (h2 : ∀ a b r, hexc a = true → hexc b = true → madeB p r = true → M r → M (37 :: a :: b :: r)) : M s := made_ind h0 h1 h2 s.length s (Nat.le_refl _) h

theorem madeB_mono {p q : UInt8 → Bool} (h : ∀ c, p c = true → q c = true) {s : Bs} (hs : madeB p s = true) : madeB q s = true := by
  refine madeInd (M := fun s => madeB q s = true) hs rfl ?_ ?_
  · intro c r hc hp _ ih; rw [madeB_byte hc, h c hp, ih]; rfl
  · intro a b r ha hb _ ih; rw [madeB_esc, ha, hb, ih]; rfl
theorem madeB_app {p : UInt8 → Bool} {s t : Bs} (hs : madeB p s = true) : madeB p (s ++ t) = madeB p t := by
  refine madeInd (M := fun s => madeB p (s ++ t) = madeB p t) hs rfl ?_ ?_
  · intro c r hc hp _ ih; rw [List.cons_append, madeB_byte hc, hp, ih]; rfl
  · intro a b r ha hb _ ih; rw [List.cons_append, List.cons_append, List.cons_append, madeB_esc, ha, hb, ih]; rfl
/-- A byte that is neither of the kind nor of escapes is not there. -/
theorem madeB_free {p : UInt8 → Bool} {x : UInt8} (hp : p x = false) (hx : x ≠ 37) (hh : hexc x = false) {s : Bs} (hs : madeB p s = true) : s.contains x = false := by
  refine madeInd (M := fun s => s.contains x = false) hs rfl ?_ ?_
  · intro c r hc hpc _ ih
    rw [has_cons, ih, Bool.or_false, beq_eq_false_iff_ne]
    rintro rfl; rw [hp] at hpc; cases hpc
  · intro a b r ha hb _ ih
    rw [has_cons, has_cons, has_cons, ih, Bool.or_false]
    have h1 : (a == x) = false := by rw [beq_eq_false_iff_ne]; rintro rfl; rw [hh] at ha; cases ha
    have h2 : (b == x) = false := by rw [beq_eq_false_iff_ne]; rintro rfl; rw [hh] at hb; cases hb
    have h3 : ((37 : UInt8) == x) = false := by rw [beq_eq_false_iff_ne]; exact fun e => hx e.symm
    rw [h1, h2, h3]; rfl
theorem made_len {p : UInt8 → Bool} {c : UInt8} {r : Bs} (h : madeB p (c :: r) = true) (hc : c = 37) : 2 ≤ r.length ∧ ∃ a b r', r = a :: b :: r' ∧ hexc a = true ∧ hexc b = true ∧ madeB p r' = true := by
  subst hc
  match r, h with
  | [], h => cases h
  | [_], h => cases h
  | a :: b :: r', h =>
    rw [madeB_esc, Bool.and_eq_true, Bool.and_eq_true] at h
    exact ⟨by simp, a, b, r', rfl, h.1.1, h.1.2, h.2⟩

/-! cut at a byte, and takeWhile, of texts put together -/
theorem upto_app {c : UInt8} {a b : Bs} (h : a.contains c = false) : upto c (a ++ c :: b) = a := by
  unfold upto
  induction a with
  | nil => simp
  | cons x r ih =>
    rw [has_cons, Bool.or_eq_false_iff] at h
    have hx : (x != c) = true := by have := h.1; simp at this; simpa using this
    rw [List.cons_append, List.takeWhile_cons_of_pos (p := fun x => x != c) hx, ih h.2]
theorem past_app {c : UInt8} {a b : Bs} (h : a.contains c = false) : past c (a ++ c :: b) = b := by
  unfold past
  induction a with
  | nil => simp
  | cons x r ih =>
    rw [has_cons, Bool.or_eq_false_iff] at h
    have hx : (x != c) = true := by have := h.1; simp at this; simpa using this
    rw [List.cons_append, List.dropWhile_cons_of_pos (p := fun x => x != c) hx, ih h.2]
theorem has_app (c : UInt8) (a b : Bs) : (a ++ b).contains c = (a.contains c || b.contains c) := by
  induction a with
  | nil => simp
  | cons x r ih => rw [List.cons_append, has_cons, has_cons, ih, Bool.or_assoc]
theorem all_free {p : UInt8 → Bool} {x : UInt8} (hp : p x = false) {s : Bs} (h : s.all p = true) : s.contains x = false := by
  cases hc : s.contains x
  · rfl
  · have := List.all_eq_true.1 h x (List.contains_iff_mem.1 hc)
    rw [hp] at this; cases this
theorem takeW_app {c : UInt8} {a b : Bs} (h : a.contains c = false) : (a ++ c :: b).takeWhile (· != c) = a := upto_app h
theorem dropW_app {c : UInt8} {a b : Bs} (h : a.contains c = false) : (a ++ c :: b).dropWhile (· != c) = c :: b := by
  induction a with
  | nil => simp
  | cons x r ih =>
    rw [has_cons, Bool.or_eq_false_iff] at h
    have hx : (x != c) = true := by have := h.1; simp at this; simpa using this
    rw [List.cons_append, List.dropWhile_cons_of_pos (p := fun x => x != c) hx, ih h.2]

/-! Numerals -/
def digv (n : Int) (c : UInt8) : Int := 10 * n + ((c.toNat : Int) - 48)
theorem numK_fold : ∀ (k n : Nat), n < 10 ^ k → 0 < k → (numK k n).foldl digv 0 = n
  | 0, n, _, h => by omega
  | k + 1, n, h, _ => by
    unfold numK
    by_cases h1 : n < 10
    · rw [if_pos h1]
      show digv 0 _ = _
      unfold digv
      rw [UInt8.toNat_ofNat_of_lt' (by show 48 + n < 256; omega)]; omega
    · rw [if_neg h1, List.foldl_append]
      have h2 : n / 10 < 10 ^ k := by rw [Nat.pow_succ] at h; omega
      have h3 : 0 < k := by
        rcases Nat.eq_zero_or_pos k with rfl | h
        · simp at h2; omega
        · exact h
      rw [numK_fold k (n / 10) h2 h3]
      show digv _ _ = _
      unfold digv
      rw [UInt8.toNat_ofNat_of_lt' (by show 48 + n % 10 < 256; omega)]; omega
theorem numK_digits : ∀ (k n : Nat), n < 10 ^ k → (numK k n).all dig = true
  | 0, n, _ => rfl
  | k + 1, n, h => by
    unfold numK
    have hd : ∀ m, m < 10 → dig (UInt8.ofNat (48 + m)) = true := by
      intro m hm; unfold dig; rw [UInt8.toNat_ofNat_of_lt' (by show 48 + m < 256; omega)]; exact decide_eq_true (by omega)
    by_cases h1 : n < 10
    · rw [if_pos h1, List.all_cons, hd n h1]; rfl
    · rw [if_neg h1, List.all_append, numK_digits k (n / 10) (by rw [Nat.pow_succ] at h; omega), List.all_cons, hd _ (by omega)]; rfl
theorem numK_head : ∀ (k n : Nat), n < 10 ^ k → 0 < n → ∃ c r, numK k n = c :: r ∧ c ≠ 48
  | 0, n, h, h0 => by simp at h; omega
  | k + 1, n, h, h0 => by
    unfold numK
    by_cases h1 : n < 10
    · rw [if_pos h1]
      refine ⟨_, _, rfl, fun e => ?_⟩
      have := congrArg UInt8.toNat e
      rw [UInt8.toNat_ofNat_of_lt' (by show 48 + n < 256; omega)] at this
      simp at this; omega
    · rw [if_neg h1]
      obtain ⟨c, r, he, hc⟩ := numK_head k (n / 10) (by rw [Nat.pow_succ] at h; omega) (by omega)
      exact ⟨c, r ++ [UInt8.ofNat (48 + n % 10)], by rw [he]; rfl, hc⟩
theorem numK_len : ∀ (k j n : Nat), n < 10 ^ j → 0 < j → (numK k n).length ≤ j
  | 0, j, n, _, _ => Nat.zero_le _
  | k + 1, j, n, h, h0 => by
    unfold numK
    by_cases h1 : n < 10
    · rw [if_pos h1]; simp; omega
    · rw [if_neg h1]
      match j, h0 with
      | j + 1, _ =>
        have h2 : n / 10 < 10 ^ j := by rw [Nat.pow_succ] at h; omega
        have h3 : 0 < j := by
          rcases Nat.eq_zero_or_pos j with rfl | h
          · simp at h2; omega
          · exact h
        have := numK_len k j (n / 10) h2 h3
        simp; omega
theorem numK_pos (k n : Nat) : 1 ≤ (numK (k + 1) n).length := by
  unfold numK
  by_cases h1 : n < 10
  · rw [if_pos h1]; simp
  · rw [if_neg h1]; simp
theorem portB_num (n : Nat) (h1 : 1 ≤ n) (h2 : n ≤ 65535) : portB (numB n) = n := by
  have hd := numK_digits 6 n (by omega)
  have hl := numK_len 6 5 n (by omega) (by omega)
  have hp := numK_pos 5 n
  obtain ⟨c, r, he, hc⟩ := numK_head 6 n (by omega) (by omega)
  have hf := numK_fold 6 n (by omega) (by omega)
  unfold portB portB.atoi5 numB
  rw [hd, decide_eq_true (show 1 ≤ (numK 6 n).length ∧ (numK 6 n).length ≤ 5 from ⟨hp, hl⟩)]
  have hh : ((numK 6 n).head? == some 48) = false := by rw [he, List.head?_cons, beq_eq_false_iff_ne]; intro e; exact hc (Option.some.inj e)
  rw [hh]
  exact hf

/-! The text of a URI is parsed as it -/
theorem hasPrefix_cons (a : UInt8) (s p : Bs) : hasPrefix (a :: s) (a :: p) = hasPrefix s p := by
  unfold hasPrefix; rw [List.isPrefixOf_cons_cons, beq_self_eq_true, Bool.true_and]
theorem hasPrefix_nil (s : Bs) : hasPrefix s [] = true := by unfold hasPrefix; cases s <;> rfl
theorem hasPrefix_app (p s : Bs) : hasPrefix (p ++ s) p = true := by
  induction p with
  | nil => exact hasPrefix_nil _
  | cons a r ih => rw [List.cons_append, hasPrefix_cons, ih]
theorem pathOk_cons {s : Bs} (h : pathOk s = true) : ∃ r, s = 47 :: r ∧ madeB pathc (47 :: r) = true := by
  unfold pathOk at h
  rw [Bool.and_eq_true] at h
  cases s with
  | nil => exact absurd h.1 (by decide)
  | cons c r =>
    have h1 := h.1
    unfold hasPrefix at h1
    rw [List.isPrefixOf_cons_cons, Bool.and_eq_true, beq_iff_eq] at h1
    obtain rfl := h1.1
    exact ⟨r, rfl, h.2⟩
/-- What formB says. -/
structure Form (u : U) : Prop where
  scheme : u.scheme = http ∨ u.scheme = https
  hlen : 1 ≤ u.host.length ∧ u.host.length ≤ 253
  host : u.host.all hostc = true
  port : 0 ≤ u.port ∧ u.port ≤ 65535
  path : ∃ r, u.path = 47 :: r ∧ madeB pathc (47 :: r) = true
  query : u.hq = true ∨ u.query = []
  made : madeB queryc u.query = true
theorem form_iff (u : U) : formB u = true ↔ Form u := by
  unfold formB hostOk
  simp only [Bool.and_eq_true, Bool.or_eq_true, beq_iff_eq, decide_eq_true_eq]
  constructor
  · rintro ⟨⟨⟨⟨⟨h1, h2, h3⟩, h4⟩, h5⟩, h6⟩, h7⟩
    exact ⟨h1, h2, h3, h4, pathOk_cons h5, h6, h7⟩
  · rintro ⟨h1, h2, h3, h4, ⟨r, h5, h5'⟩, h6, h7⟩
    refine ⟨⟨⟨⟨⟨h1, h2, h3⟩, h4⟩, ?_⟩, h6⟩, h7⟩
    unfold pathOk
    rw [h5, h5', show hasPrefix (47 :: r) [47] = true from by rw [hasPrefix_cons, hasPrefix_nil]]; rfl
/-- What stands behind the scheme. -/
def behind (u : U) : Bs := u.host ++ (bif u.port == 0 then [] else [58] ++ numB u.port.toNat) ++ u.path ++ (bif u.hq then [63] ++ u.query else [])
theorem text_eq (u : U) : textB u = u.scheme ++ (sep3 ++ behind u) := by unfold textB behind sep3; simp
theorem idx_http (s : Bs) : index (http ++ (sep3 ++ s)) sep3 = 4 := by
  show index (104 :: 116 :: 116 :: 112 :: 58 :: 47 :: 47 :: s) [58, 47, 47] = 4
  have e : hasPrefix (58 :: 47 :: 47 :: s) [58, 47, 47] = true := hasPrefix_app [58, 47, 47] s
  simp [index, e]
theorem idx_https (s : Bs) : index (https ++ (sep3 ++ s)) sep3 = 5 := by
  show index (104 :: 116 :: 116 :: 112 :: 115 :: 58 :: 47 :: 47 :: s) [58, 47, 47] = 5
  have e : hasPrefix (58 :: 47 :: 47 :: s) [58, 47, 47] = true := hasPrefix_app [58, 47, 47] s
  simp [index, e]
theorem cut_scheme {c : Bs} (h : c = http ∨ c = https) (s : Bs) : cut (c ++ (sep3 ++ s)) sep3 = (c, s, true) := by
  unfold cut
  rcases h with rfl | rfl
  · rw [idx_http, if_pos (by decide)]; rfl
  · rw [idx_https, if_pos (by decide)]; rfl
theorem host_free {u : U} (h : Form u) {x : UInt8} (hx : hostc x = false) : u.host.contains x = false := all_free hx h.host
theorem num_free (k n : Nat) (hn : n < 10 ^ k) {x : UInt8} (hx : dig x = false) : (numK k n).contains x = false := all_free hx (numK_digits k n hn)
theorem authority_free {u : U} (h : Form u) {x : UInt8} (h1 : hostc x = false) (h2 : dig x = false) (h3 : x ≠ 58) : (u.host ++ (bif u.port == 0 then [] else [58] ++ numB u.port.toNat)).contains x = false := by
  rw [has_app, host_free h h1, Bool.false_or]
  cases u.port == 0
  · show ([58] ++ numK 6 u.port.toNat).contains x = false
    rw [has_app, num_free 6 _ (by have := h.port; omega) h2]
    simp; exact fun e => h3 e
  · rfl
theorem path_free {u : U} (h : Form u) {x : UInt8} (h1 : pathc x = false) (h2 : x ≠ 37) (h3 : hexc x = false) : u.path.contains x = false := by
  obtain ⟨r, e, hm⟩ := h.path
  rw [e]; exact madeB_free h1 h2 h3 hm
/-- Behind the scheme: what stands before the question mark and behind it. -/
theorem behind_cut {u : U} (h : Form u) : upto 63 (behind u) = u.host ++ (bif u.port == 0 then [] else [58] ++ numB u.port.toNat) ++ u.path ∧ past 63 (behind u) = u.query ∧ (behind u).contains 63 = u.hq := by
  have hf : (u.host ++ (bif u.port == 0 then [] else [58] ++ numB u.port.toNat) ++ u.path).contains 63 = false := by
    rw [has_app, authority_free h (by decide) (by decide) (by decide), path_free h (by decide) (by decide) (by decide)]; rfl
  unfold behind
  cases hq : u.hq
  · have hqe : u.query = [] := by
      rcases h.query with h | h
      · rw [hq] at h; cases h
      · exact h
    show upto 63 (_ ++ []) = _ ∧ past 63 (_ ++ []) = _ ∧ (_ ++ []).contains 63 = _
    rw [List.append_nil]
    exact ⟨upto_all 63 _ hf, by rw [past_all 63 _ hf, hqe], hf⟩
  · show upto 63 (_ ++ 63 :: u.query) = _ ∧ past 63 (_ ++ 63 :: u.query) = _ ∧ (_ ++ 63 :: u.query).contains 63 = _
    refine ⟨upto_app hf, past_app hf, ?_⟩
    rw [has_app, has_cons]; simp
theorem raw_text {u : U} (h : Form u) : rawB (textB u) = ⟨u.scheme, u.host ++ (bif u.port == 0 then [] else [58] ++ numB u.port.toNat), 0, u.path, u.query, u.hq⟩ := by
  obtain ⟨h1, h2, h3⟩ := behind_cut h
  obtain ⟨r, e, hm⟩ := h.path
  unfold rawB
  rw [text_eq, cut_scheme h.scheme]
  show (U.mk u.scheme ((upto 63 (behind u)).takeWhile (· != 47)) 0 (if (upto 63 (behind u)).dropWhile (· != 47) = [] then [47] else (upto 63 (behind u)).dropWhile (· != 47)) (past 63 (behind u)) ((behind u).contains 63)) = _
  rw [h1, h2, h3]
  have hf := authority_free (u := u) h (x := 47) (by decide) (by decide) (by decide)
  rw [e, takeW_app hf, dropW_app hf, if_neg (by simp)]
theorem ported_text {u : U} (h : Form u) : portedB ⟨u.scheme, u.host ++ (bif u.port == 0 then [] else [58] ++ numB u.port.toNat), 0, u.path, u.query, u.hq⟩ = some u := by
  obtain ⟨hp0, hp1⟩ := h.port
  have hf : u.host.contains 58 = false := host_free h (by decide)
  unfold portedB
  show (bif (u.host ++ (bif u.port == 0 then [] else [58] ++ numB u.port.toNat)).contains 58 then (if portB (past 58 (u.host ++ (bif u.port == 0 then [] else [58] ++ numB u.port.toNat))) = 0 then none else some (U.mk u.scheme (upto 58 (u.host ++ (bif u.port == 0 then [] else [58] ++ numB u.port.toNat))) (portB (past 58 (u.host ++ (bif u.port == 0 then [] else [58] ++ numB u.port.toNat)))) u.path u.query u.hq)) else some (U.mk u.scheme (u.host ++ (bif u.port == 0 then [] else [58] ++ numB u.port.toNat)) 0 u.path u.query u.hq)) = some u
  by_cases hp : u.port = 0
  · have e : (u.port == 0) = true := by rw [hp]; rfl
    rw [e]
    show (bif (u.host ++ []).contains 58 then _ else some (U.mk u.scheme (u.host ++ []) 0 u.path u.query u.hq)) = some u
    rw [List.append_nil, hf, ← hp]
    rfl
  · have e : (u.port == 0) = false := by rw [beq_eq_false_iff_ne]; exact hp
    rw [e]
    show (bif (u.host ++ 58 :: numB u.port.toNat).contains 58 then (if portB (past 58 (u.host ++ 58 :: numB u.port.toNat)) = 0 then none else some (U.mk u.scheme (upto 58 (u.host ++ 58 :: numB u.port.toNat)) (portB (past 58 (u.host ++ 58 :: numB u.port.toNat))) u.path u.query u.hq)) else _) = some u
    have hc : (u.host ++ 58 :: numB u.port.toNat).contains 58 = true := by rw [has_app, has_cons]; simp
    rw [hc, past_app hf, upto_app hf, portB_num u.port.toNat (by omega) (by omega), cond_true, if_neg (by omega), Int.toNat_of_nonneg hp0]
theorem parse_text {u : U} (h : okB u = true) : parseB (textB u) = (u, 0) := by
  have h0 := h
  unfold okB at h
  rw [Bool.and_eq_true, form_iff] at h
  unfold parseB
  rw [h.2, cond_true, raw_text h.1, ported_text h.1]
  show (if checkB u = 0 then (u, 0) else (noU, checkB u)) = _
  rw [if_pos ((checkB_ok u).2 h0)]
end Go.Proofs.YtmkpejioinkceaaGreatDoor

namespace Go.Proofs.YtmkpejioinkceaaGreatDoor
open Go.Lib

/-! Digits of escapes -/
theorem hexv_lt {a : UInt8} (h : hexc a = true) : hexv a < 16 := by
  unfold hexc at h
  have := of_decide_eq_true h
  unfold hexv
  split <;> (try split) <;> omega
theorem upc_nat (a : UInt8) : (upc a).toNat = if 97 ≤ a.toNat ∧ a.toNat ≤ 122 then a.toNat - 32 else a.toNat := by
  unfold upc
  by_cases h : 97 ≤ a.toNat ∧ a.toNat ≤ 122
  · rw [if_pos h, if_pos h, UInt8.toNat_sub_of_le _ _ (by rw [UInt8.le_iff_toNat_le]; show 32 ≤ _; omega)]; rfl
  · rw [if_neg h, if_neg h]
theorem upc_hex {a : UInt8} (h : hexc a = true) : hexc (upc a) = true ∧ hexv (upc a) = hexv a ∧ upc (upc a) = upc a := by
  unfold hexc at h
  have h1 := of_decide_eq_true h
  have hn := upc_nat a
  refine ⟨?_, ?_, ?_⟩
  · unfold hexc
    apply decide_eq_true
    split at hn <;> omega
  · unfold hexv
    split at hn <;> (repeat' split) <;> omega
  · have hn2 := upc_nat (upc a)
    rw [u8eq]
    split at hn <;> split at hn2 <;> omega
theorem esc_nat {a b : UInt8} (ha : hexc a = true) (hb : hexc b = true) : (UInt8.ofNat (16 * hexv a + hexv b)).toNat = 16 * hexv a + hexv b := by
  have := hexv_lt ha
  have := hexv_lt hb
  rw [UInt8.toNat_ofNat_of_lt' (by show _ < 256; omega)]
theorem plain_ne {c : UInt8} (h : plainc c = true) : c ≠ 37 ∧ c ≠ 47 := by
  unfold plainc at h
  have := of_decide_eq_true h
  constructor
  · rintro rfl; revert this; decide
  · rintro rfl; revert this; decide
theorem hex_ne {c : UInt8} (h : hexc c = true) : c ≠ 47 := by rintro rfl; revert h; decide
theorem unesc_cases (a b : UInt8) : (∃ x, plainc x = true ∧ unesc a b = [x]) ∨ (plainc (UInt8.ofNat (16 * hexv a + hexv b)) = false ∧ unesc a b = [37, upc a, upc b]) := by
  unfold unesc
  cases h : plainc (UInt8.ofNat (16 * hexv a + hexv b))
  · exact .inr ⟨rfl, by rw [if_neg (by simp)]⟩
  · exact .inl ⟨_, h, by rw [if_pos rfl]⟩

/-! Escapes undone -/
theorem undo_made {p : UInt8 → Bool} (hp : ∀ c, plainc c = true → p c = true) {s : Bs} (h : madeB p s = true) : madeB p (undoB s) = true := by
  refine madeInd (M := fun s => madeB p (undoB s) = true) h rfl ?_ ?_
  · intro c r hc hpc _ ih; rw [undoB_byte hc, madeB_byte hc, hpc, ih]; rfl
  · intro a b r ha hb _ ih
    rw [undoB_esc (by rw [ha, hb]; rfl)]
    rcases unesc_cases a b with ⟨x, hx, e⟩ | ⟨_, e⟩
    · rw [e, List.cons_append, List.nil_append, madeB_byte (plain_ne hx).1, hp x hx, ih]; rfl
    · rw [e]
      show madeB p (37 :: upc a :: upc b :: undoB r) = true
      rw [madeB_esc, (upc_hex ha).1, (upc_hex hb).1, ih]; rfl
theorem undo_idem {p : UInt8 → Bool} {s : Bs} (h : madeB p s = true) : undoB (undoB s) = undoB s := by
  refine madeInd (M := fun s => undoB (undoB s) = undoB s) h rfl ?_ ?_
  · intro c r hc hpc _ ih; rw [undoB_byte hc, undoB_byte hc, ih]
  · intro a b r ha hb _ ih
    rw [undoB_esc (by rw [ha, hb]; rfl)]
    rcases unesc_cases a b with ⟨x, hx, e⟩ | ⟨hn, e⟩
    · rw [e, List.cons_append, List.nil_append, undoB_byte (plain_ne hx).1, ih]
    · rw [e]
      show undoB (37 :: upc a :: upc b :: undoB r) = _
      obtain ⟨a1, a2, a3⟩ := upc_hex ha
      obtain ⟨b1, b2, b3⟩ := upc_hex hb
      rw [undoB_esc (by rw [a1, b1]; rfl), ih]
      have : unesc (upc a) (upc b) = [37, upc a, upc b] := by
        unfold unesc
        rw [a2, b2, hn, a3, b3]; rfl
      rw [this]
theorem undo_len {p : UInt8 → Bool} {s : Bs} (h : madeB p s = true) : (undoB s).length ≤ s.length := by
  refine madeInd (M := fun s => (undoB s).length ≤ s.length) h (Nat.le_refl _) ?_ ?_
  · intro c r hc hpc _ ih; rw [undoB_byte hc]; simpa using ih
  · intro a b r ha hb _ ih
    rw [undoB_esc (by rw [ha, hb]; rfl)]
    rcases unesc_cases a b with ⟨x, hx, e⟩ | ⟨hn, e⟩
    · rw [e]; simp; omega
    · rw [e]; simp; omega
theorem pieces_byte {c x : UInt8} (h : x ≠ c) {l q : Bs} {qs : List Bs} (hp : pieces c l = q :: qs) : pieces c (x :: l) = (x :: q) :: qs := by
  rw [pieces_cons, if_neg (by simpa using h), hp]; rfl
theorem pieces_sep (c : UInt8) (l : Bs) : pieces c (c :: l) = [] :: pieces c l := by rw [pieces_cons, if_pos (beq_self_eq_true c)]
theorem pieces_ex (c : UInt8) (l : Bs) : ∃ q qs, pieces c l = q :: qs := by
  cases h : pieces c l with
  | nil => exact (pieces_ne c l h).elim
  | cons q qs => exact ⟨q, qs, rfl⟩
theorem pieces_undo {p : UInt8 → Bool} {s : Bs} (h : madeB p s = true) : pieces 47 (undoB s) = (pieces 47 s).map undoB := by
  refine madeInd (M := fun s => pieces 47 (undoB s) = (pieces 47 s).map undoB) h rfl ?_ ?_
  · intro c r hc hpc _ ih
    rw [undoB_byte hc]
    by_cases h47 : c = 47
    · subst h47
      rw [pieces_sep, pieces_sep, ih]; rfl
    · obtain ⟨q, qs, e⟩ := pieces_ex 47 r
      rw [e] at ih
      rw [pieces_byte h47 e, pieces_byte h47 ih]
      simp only [List.map_cons]
      rw [undoB_byte hc]
  · intro a b r ha hb _ ih
    obtain ⟨q, qs, e⟩ := pieces_ex 47 r
    rw [e] at ih
    rw [undoB_esc (by rw [ha, hb]; rfl), pieces_byte (show (37 : UInt8) ≠ 47 by decide) (pieces_byte (hex_ne ha) (pieces_byte (hex_ne hb) e))]
    simp only [List.map_cons]
    rw [undoB_esc (by rw [ha, hb]; rfl)]
    rcases unesc_cases a b with ⟨x, hx, e1⟩ | ⟨hn, e1⟩
    · rw [e1]
      exact pieces_byte (plain_ne hx).2 ih
    · rw [e1]
      exact pieces_byte (show (37 : UInt8) ≠ 47 by decide) (pieces_byte (hex_ne (upc_hex ha).1) (pieces_byte (hex_ne (upc_hex hb).1) ih))
theorem made_pieces {p : UInt8 → Bool} {s : Bs} (h : madeB p s = true) : ∀ q ∈ pieces 47 s, madeB p q = true := by
  refine madeInd (M := fun s => ∀ q ∈ pieces 47 s, madeB p q = true) h ?_ ?_ ?_
  · intro q hq
    have : q = [] := by simpa [pieces] using hq
    subst this; rfl
  · intro c r hc hpc _ ih q hq
    by_cases h47 : c = 47
    · subst h47
      rw [pieces_sep] at hq
      rcases List.mem_cons.1 hq with rfl | hq
      · rfl
      · exact ih q hq
    · obtain ⟨q0, qs, e⟩ := pieces_ex 47 r
      rw [pieces_byte h47 e] at hq
      rcases List.mem_cons.1 hq with rfl | hq
      · rw [madeB_byte hc, hpc, ih q0 (by rw [e]; simp)]; rfl
      · exact ih q (by rw [e]; exact List.mem_cons_of_mem _ hq)
  · intro a b r ha hb _ ih q hq
    obtain ⟨q0, qs, e⟩ := pieces_ex 47 r
    rw [pieces_byte (show (37 : UInt8) ≠ 47 by decide) (pieces_byte (hex_ne ha) (pieces_byte (hex_ne hb) e))] at hq
    rcases List.mem_cons.1 hq with rfl | hq
    · rw [madeB_esc, ha, hb, ih q0 (by rw [e]; simp)]; rfl
    · exact ih q (by rw [e]; exact List.mem_cons_of_mem _ hq)
theorem made_cat {p : UInt8 → Bool} (hp : p 47 = true) : ∀ l : List Bs, (∀ q ∈ l, madeB p q = true) → madeB p (catB l) = true
  | [], _ => rfl
  | q :: l, h => by
    rw [catB_cons, List.cons_append, madeB_byte (by decide), hp, madeB_app (h q (by simp)), made_cat hp l (fun q hq => h q (List.mem_cons_of_mem _ hq))]; rfl
theorem undo_app {p : UInt8 → Bool} {s t : Bs} (hs : madeB p s = true) : undoB (s ++ t) = undoB s ++ undoB t := by
  refine madeInd (M := fun s => undoB (s ++ t) = undoB s ++ undoB t) hs rfl ?_ ?_
  · intro c r hc hpc _ ih; rw [List.cons_append, undoB_byte hc, undoB_byte hc, ih]; rfl
  · intro a b r ha hb _ ih
    rw [List.cons_append, List.cons_append, List.cons_append, undoB_esc (by rw [ha, hb]; rfl), undoB_esc (by rw [ha, hb]; rfl), ih, List.append_assoc]
theorem undo_cat {p : UInt8 → Bool} : ∀ l : List Bs, (∀ q ∈ l, madeB p q = true ∧ undoB q = q) → undoB (catB l) = catB l
  | [], _ => rfl
  | q :: l, h => by
    obtain ⟨h1, h2⟩ := h q (by simp)
    rw [catB_cons, List.cons_append, undoB_byte (by decide), undo_app h1, h2, undo_cat l (fun q hq => h q (List.mem_cons_of_mem _ hq))]

/-! Dots -/
/-- The pieces of a path without dots. -/
def dotEnd (l : List Bs) : List Bs := bif isDot (l.getLast?.getD []) then dotKept l ++ [[]] else dotKept l
theorem dots_end (s : Bs) : dotsB (47 :: s) = catB (dotEnd (pieces 47 s)) := by
  unfold dotsB dotEnd
  rw [show hasPrefix (47 :: s) [47] = true from by rw [hasPrefix_cons, hasPrefix_nil], cond_true]
  show catB (dotKept (pieces 47 s)) ++ (bif isDot ((pieces 47 s).getLast?.getD []) then [47] else []) = _
  cases isDot ((pieces 47 s).getLast?.getD [])
  · simp
  · rw [cond_true, cond_true, catB_snoc]
theorem kept_in : ∀ (l kept : List Bs), ∀ p ∈ l.foldl dotStep kept, p ∈ kept ∨ p ∈ l ∧ isDot p = false
  | [], kept, p, hp => .inl hp
  | a :: l, kept, p, hp => by
    rw [List.foldl_cons] at hp
    rcases kept_in l _ p hp with h | ⟨h, h'⟩
    · unfold dotStep at h
      by_cases h1 : a = dot1
      · rw [if_pos h1] at h; exact .inl h
      · by_cases h2 : a = dot2
        · rw [if_neg h1, if_pos h2] at h; exact .inl ((List.dropLast_sublist _).subset h)
        · rw [if_neg h1, if_neg h2] at h
          rcases List.mem_append.1 h with h | h
          · exact .inl h
          · obtain rfl : p = a := by simpa using h
            exact .inr ⟨by simp, isDot_no h1 h2⟩
    · exact .inr ⟨List.mem_cons_of_mem _ h, h'⟩
theorem end_in (l : List Bs) : ∀ p ∈ dotEnd l, p = [] ∨ p ∈ l ∧ isDot p = false := by
  intro p hp
  unfold dotEnd at hp
  cases h : isDot (l.getLast?.getD [])
  · rw [h] at hp
    rcases kept_in l [] p hp with h | h
    · cases h
    · exact .inr h
  · rw [h] at hp
    rcases List.mem_append.1 hp with hp | hp
    · rcases kept_in l [] p hp with h | h
      · cases h
      · exact .inr h
    · exact .inl (by simpa using hp)
theorem step_push {kept : List Bs} {x : Bs} (h : isDot x = false) : dotStep kept x = kept ++ [x] := by
  unfold dotStep
  rw [if_neg (fun e => by rw [e] at h; cases h), if_neg (fun e => by rw [e] at h; cases h)]
theorem end_ne {l : List Bs} (hl : l ≠ []) : dotEnd l ≠ [] := by
  unfold dotEnd
  cases h : isDot (l.getLast?.getD [])
  · rw [cond_false]
    have e := (List.dropLast_concat_getLast hl).symm
    have hg : l.getLast?.getD [] = l.getLast hl := by rw [List.getLast?_eq_some_getLast hl]; rfl
    rw [hg] at h
    unfold dotKept
    rw [e, List.foldl_append]
    show dotStep _ _ ≠ []
    rw [step_push h]; simp
  · rw [cond_true]; simp
theorem free_foldl : ∀ (l kept : List Bs), (∀ p ∈ l, isDot p = false) → l.foldl dotStep kept = kept ++ l
  | [], kept, _ => by simp
  | a :: l, kept, h => by
    rw [List.foldl_cons, step_push (h a (by simp)), free_foldl l _ (fun p hp => h p (List.mem_cons_of_mem _ hp))]; simp
/-- Pieces put together are these pieces. -/
theorem pieces_catB : ∀ (l : List Bs), l ≠ [] → (∀ p ∈ l, p.contains 47 = false) → ∃ r, catB l = 47 :: r ∧ pieces 47 r = l
  | [], h, _ => (h rfl).elim
  | [p], _, h => ⟨p, by rw [catB_cons, catB_nil, List.append_nil], by rw [pieces_cut, h p (by simp)]; rfl⟩
  | p :: q :: l, _, h => by
    obtain ⟨r, e, hr⟩ := pieces_catB (q :: l) (by simp) (fun x hx => h x (List.mem_cons_of_mem _ hx))
    refine ⟨p ++ 47 :: r, by rw [catB_cons, e]; rfl, ?_⟩
    have hp := h p (by simp)
    rw [pieces_cut, if_pos (by rw [has_app, has_cons]; simp), upto_app hp, past_app hp, hr]
theorem end_dots {s : Bs} : dotsB (dotsB (47 :: s)) = dotsB (47 :: s) := by
  rw [dots_end]
  have hfree : ∀ p ∈ dotEnd (pieces 47 s), p.contains 47 = false := by
    intro p hp
    rcases end_in _ p hp with rfl | ⟨h, _⟩
    · rfl
    · exact pieces_free 47 s p h
  have hno : ∀ p ∈ dotEnd (pieces 47 s), isDot p = false := by
    intro p hp
    rcases end_in _ p hp with rfl | ⟨_, h⟩
    · rfl
    · exact h
  have hne := end_ne (pieces_ne 47 s)
  generalize dotEnd (pieces 47 s) = K at *
  obtain ⟨r, e, hr⟩ := pieces_catB K hne hfree
  rw [e, dots_end, hr, ← e]
  congr 1
  unfold dotEnd dotKept
  rw [free_foldl K [] hno]
  have hg : K.getLast?.getD [] = K.getLast hne := by rw [List.getLast?_eq_some_getLast hne]; rfl
  rw [hg, hno _ (List.getLast_mem hne)]; simp
theorem cat_dropLast (l : List Bs) : (catB l.dropLast).length ≤ (catB l).length := by
  by_cases h : l = []
  · subst h; exact Nat.le_refl _
  · conv => rhs; rw [← List.dropLast_concat_getLast h, catB_snoc]
    simp
theorem kept_len : ∀ (l kept : List Bs), (catB (l.foldl dotStep kept)).length ≤ (catB kept).length + (catB l).length
  | [], kept => by simp
  | a :: l, kept => by
    rw [List.foldl_cons]
    have ih := kept_len l (dotStep kept a)
    have hs : (catB (dotStep kept a)).length ≤ (catB kept).length + (1 + a.length) := by
      unfold dotStep
      by_cases h1 : a = dot1
      · rw [if_pos h1]; omega
      · by_cases h2 : a = dot2
        · rw [if_neg h1, if_pos h2]; have := cat_dropLast kept; omega
        · rw [if_neg h1, if_neg h2, catB_snoc]; simp; omega
    rw [catB_cons]; simp; omega
theorem end_len (l : List Bs) (hl : l ≠ []) : (catB (dotEnd l)).length ≤ (catB l).length := by
  unfold dotEnd
  cases h : isDot (l.getLast?.getD [])
  · have := kept_len l []
    rw [cond_false]; unfold dotKept; simpa [catB_nil] using this
  · rw [cond_true, catB_snoc]
    have e := (List.dropLast_concat_getLast hl).symm
    have hg : l.getLast?.getD [] = l.getLast hl := by rw [List.getLast?_eq_some_getLast hl]; rfl
    rw [hg] at h
    generalize l.getLast hl = x at *
    generalize l.dropLast = l' at *
    subst e
    have hk := kept_len l' []
    have hs : (catB (dotStep (l'.foldl dotStep []) x)).length ≤ (catB (l'.foldl dotStep [])).length := by
      unfold dotStep
      rcases (isDot_iff x).1 h with rfl | rfl
      · rw [if_pos rfl]; exact Nat.le_refl _
      · rw [if_neg dot12, if_pos rfl]; exact cat_dropLast _
    unfold dotKept
    rw [List.foldl_append, catB_snoc]
    show (catB (dotStep (l'.foldl dotStep []) x) ++ [47]).length ≤ _
    have hx : 1 ≤ x.length := by rcases (isDot_iff x).1 h with rfl | rfl <;> decide
    rw [catB_nil] at hk
    simp at hk ⊢; omega

/-! The normal form -/
theorem plain_path (c : UInt8) (h : plainc c = true) : pathc c = true := by unfold pathc; rw [h]; rfl
theorem plain_query (c : UInt8) (h : plainc c = true) : queryc c = true := by unfold queryc; rw [plain_path c h]; rfl
/-- What is so of a path in its normal form. -/
structure NPath (s t : Bs) : Prop where
  ok : pathOk t = true
  undo : undoB t = t
  dots : dotsB t = t
  len : t.length ≤ s.length
theorem norm_path {s r : Bs} (e : s = 47 :: r) (h : madeB pathc (47 :: r) = true) : NPath s (dotsB (undoB s)) := by
  subst e
  have hr : madeB pathc r = true := by rw [madeB_byte (by decide), Bool.and_eq_true] at h; exact h.2
  have hu : undoB (47 :: r) = 47 :: undoB r := undoB_byte (by decide)
  rw [hu, dots_end]
  have hm := undo_made plain_path hr
  have hpm := made_pieces hm
  have hpu : ∀ q ∈ pieces 47 (undoB r), undoB q = q := by
    have e1 := pieces_undo hm
    rw [undo_idem hr] at e1
    intro q hq
    obtain ⟨i, hi, rfl⟩ := List.mem_iff_getElem.1 hq
    have := congrArg (fun l => l[i]?) e1
    simp only [List.getElem?_map, List.getElem?_eq_getElem hi, Option.map_some, Option.some.injEq] at this
    exact this.symm
  have hall : ∀ q ∈ dotEnd (pieces 47 (undoB r)), madeB pathc q = true ∧ undoB q = q := by
    intro q hq
    rcases end_in _ q hq with rfl | ⟨h, _⟩
    · exact ⟨rfl, rfl⟩
    · exact ⟨hpm q h, hpu q h⟩
  refine ⟨?_, undo_cat _ hall, ?_, ?_⟩
  · unfold pathOk
    rw [made_cat (by decide) _ (fun q hq => (hall q hq).1), Bool.and_true]
    cases hK : dotEnd (pieces 47 (undoB r)) with
    | nil => exact (end_ne (pieces_ne 47 _) hK).elim
    | cons a b => rw [catB_cons, List.cons_append, hasPrefix_cons, hasPrefix_nil]
  · rw [← dots_end]; exact end_dots
  · have h1 := end_len _ (pieces_ne 47 (undoB r))
    rw [pieces_cat] at h1
    have h2 := undo_len hr
    simp at h1 ⊢; omega
theorem lowc_host {c : UInt8} (h : hostc c = true) : hostc (lowc c) = true := by
  unfold hostc at h ⊢
  have h1 := of_decide_eq_true h
  apply decide_eq_true
  by_cases hu : 65 ≤ c.toNat ∧ c.toNat ≤ 90
  · have := lowc_up c (by omega) (by omega); omega
  · have := lowc_other c (by omega); rw [this]; omega
theorem lowc_idem (c : UInt8) : lowc (lowc c) = lowc c := by
  by_cases hu : 65 ≤ c.toNat ∧ c.toNat ≤ 90
  · have := lowc_up c (by omega) (by omega)
    exact lowc_other _ (by omega)
  · have := lowc_other c (by omega); rw [this, this]
theorem lower_idem (l : Bs) : lower (lower l) = lower l := by unfold lower; rw [List.map_map]; congr 1; funext c; exact lowc_idem c
/-- A port that is not the scheme's own. -/
def normPort (u : U) : Int := bif u.scheme == http && u.port == 80 || u.scheme == https && u.port == 443 then 0 else u.port
theorem normB_ok {u : U} (h : okB u = true) : normB u = ⟨u.scheme, lower u.host, normPort u, dotsB (undoB u.path), undoB u.query, u.hq⟩ := by unfold normB; rw [h]; rfl
theorem normPort_cases (u : U) : normPort u = 0 ∨ normPort u = u.port := by
  unfold normPort
  cases (u.scheme == http && u.port == 80 || u.scheme == https && u.port == 443)
  · exact .inr rfl
  · exact .inl rfl
theorem norm_form {u : U} (h : okB u = true) : Form (normB u) ∧ (textB (normB u)).length ≤ (textB u).length := by
  have h' := h
  unfold okB at h
  rw [Bool.and_eq_true, form_iff] at h
  obtain ⟨f, _⟩ := h
  obtain ⟨r, e, hm⟩ := f.path
  have np := norm_path e hm
  rw [normB_ok h']
  refine ⟨⟨f.scheme, by show 1 ≤ (lower u.host).length ∧ _; rw [lower_length]; exact f.hlen, ?_, ?_, pathOk_cons np.ok, ?_, undo_made plain_query f.made⟩, ?_⟩
  · show (lower u.host).all hostc = true
    unfold lower
    rw [List.all_eq_true]
    intro c hc
    obtain ⟨x, hx, rfl⟩ := List.mem_map.1 hc
    exact lowc_host (List.all_eq_true.1 f.host x hx)
  · show 0 ≤ normPort u ∧ normPort u ≤ 65535
    have := f.port
    rcases normPort_cases u with h | h <;> rw [h] <;> omega
  · show u.hq = true ∨ undoB u.query = []
    rcases f.query with h | h
    · exact .inl h
    · exact .inr (by rw [h]; rfl)
  · have l1 : (lower u.host).length = u.host.length := lower_length _
    have l2 := np.len
    have l3 := undo_len f.made
    have l4 : (bif normPort u == 0 then ([] : Bs) else [58] ++ numB (normPort u).toNat).length ≤ (bif u.port == 0 then ([] : Bs) else [58] ++ numB u.port.toNat).length := by
      rcases normPort_cases u with h | h
      · rw [h]; exact Nat.zero_le _
      · rw [h]; exact Nat.le_refl _
    have l5 : (bif u.hq then [63] ++ undoB u.query else ([] : Bs)).length ≤ (bif u.hq then [63] ++ u.query else ([] : Bs)).length := by
      cases u.hq
      · exact Nat.le_refl _
      · simpa using l3
    unfold textB
    simp only [List.length_append]
    omega
theorem norm_ok {u : U} (h : okB u = true) : okB (normB u) = true := by
  obtain ⟨h1, h2⟩ := norm_form h
  unfold okB at h ⊢
  rw [Bool.and_eq_true, decide_eq_true_eq] at h
  rw [(form_iff _).2 h1, decide_eq_true (Nat.le_trans h2 h.2)]; rfl
theorem norm_idem {u : U} (h : okB u = true) : normB (normB u) = normB u := by
  have hf := h
  unfold okB at hf
  rw [Bool.and_eq_true, form_iff] at hf
  obtain ⟨r, e, hm⟩ := hf.1.path
  have np := norm_path e hm
  rw [normB_ok (norm_ok h), normB_ok h]
  show U.mk u.scheme (lower (lower u.host)) (normPort _) (dotsB (undoB (dotsB (undoB u.path)))) (undoB (undoB u.query)) u.hq = _
  rw [lower_idem, np.undo, np.dots, undo_idem hf.1.made]
  congr 1
  unfold normPort
  show (bif u.scheme == http && (bif _ then 0 else u.port) == 80 || u.scheme == https && (bif _ then 0 else u.port) == 443 then 0 else (bif _ then 0 else u.port)) = _
  cases hc : (u.scheme == http && u.port == 80 || u.scheme == https && u.port == 443)
  · simp only [cond_false]; rw [hc]; rfl
  · simp only [cond_true]
    cases (u.scheme == http && (0 : Int) == 80 || u.scheme == https && (0 : Int) == 443) <;> rfl
end Go.Proofs.YtmkpejioinkceaaGreatDoor

namespace Go.Proofs.YtmkpejioinkceaaGreatDoor
open Go.Lib

theorem num_fold_nat : ∀ (l : Bs) (n : Nat), l.all dig = true → l.foldl digv (n : Int) = ((l.foldl (fun m c => 10 * m + (c.toNat - 48)) n : Nat) : Int)
  | [], n, _ => rfl
  | c :: l, n, h => by
    rw [List.all_cons, Bool.and_eq_true] at h
    have hc := of_decide_eq_true h.1
    rw [List.foldl_cons, List.foldl_cons, ← num_fold_nat l _ h.2]
    congr 1
    unfold digv; omega
def foldN (l : Bs) : Nat := l.foldl (fun m c => 10 * m + (c.toNat - 48)) 0
theorem foldN_snoc (l : Bs) (c : UInt8) : foldN (l ++ [c]) = 10 * foldN l + (c.toNat - 48) := by unfold foldN; rw [List.foldl_append]; rfl
theorem foldN_pos : ∀ (r : Bs) (c : UInt8), dig c = true → c ≠ 48 → 1 ≤ foldN (c :: r) := by
  intro r c hd hc
  have h1 : ∀ (l : Bs) (n : Nat), 1 ≤ n → 1 ≤ l.foldl (fun m c => 10 * m + (c.toNat - 48)) n := by
    intro l
    induction l with
    | nil => intro n h; exact h
    | cons a l ih => intro n h; rw [List.foldl_cons]; exact ih _ (by omega)
  have hn : 48 ≤ c.toNat ∧ c.toNat ≤ 57 := of_decide_eq_true hd
  have h2 : c.toNat ≠ 48 := fun e => hc (by rw [u8eq]; exact e)
  refine h1 r _ ?_
  show 1 ≤ 10 * 0 + (c.toNat - 48)
  omega
theorem numK_of : ∀ (k : Nat) (l : Bs), l.all dig = true → l ≠ [] → (∀ c r, l = c :: r → c ≠ 48 ∨ r = []) → l.length ≤ k → numK k (foldN l) = l
  | 0, l, _, h, _, hk => by cases l with | nil => exact (h rfl).elim | cons a b => simp at hk
  | k + 1, l, hd, h, hz, hk => by
    have e := (List.dropLast_concat_getLast h).symm
    generalize l.getLast h = d at *
    generalize hl' : l.dropLast = l' at *
    subst e
    rw [List.all_append, Bool.and_eq_true] at hd
    have hdd : dig d = true := by have := hd.2; rw [List.all_cons, Bool.and_eq_true] at this; exact this.1
    have hdn := of_decide_eq_true hdd
    have hrec : UInt8.ofNat (48 + (d.toNat - 48)) = d := by rw [u8eq, UInt8.toNat_ofNat_of_lt' (by show _ < 256; omega)]; omega
    rw [foldN_snoc]
    by_cases hn : l' = []
    · subst hn
      unfold numK
      have : 10 * foldN [] + (d.toNat - 48) = d.toNat - 48 := by unfold foldN; simp
      rw [this, if_pos (by omega), hrec]; rfl
    · have hp : 1 ≤ foldN l' := by
        cases hc : l' with
        | nil => exact (hn hc).elim
        | cons c r =>
          rw [hc] at hd hz
          have hcd := hd.1
          rw [List.all_cons, Bool.and_eq_true] at hcd
          rcases hz c (r ++ [d]) rfl with h | h
          · exact foldN_pos r c hcd.1 h
          · simp at h
      unfold numK
      rw [if_neg (by omega), show (10 * foldN l' + (d.toNat - 48)) / 10 = foldN l' by omega, show (10 * foldN l' + (d.toNat - 48)) % 10 = d.toNat - 48 by omega, hrec]
      rw [numK_of k l' hd.1 hn (fun c r e => by
        rcases hz c (r ++ [d]) (by rw [e]; rfl) with h | h
        · exact .inl h
        · simp at h) (by simp at hk; omega)]
theorem portB_back {s : Bs} (h : portB s ≠ 0) : numB (portB s).toNat = s ∧ 1 ≤ portB s := by
  unfold portB portB.atoi5 at h ⊢
  cases hc : (decide (1 ≤ s.length ∧ s.length ≤ 5) && s.all dig && !(s.head? == some 48))
  · rw [hc] at h; exact (h rfl).elim
  · rw [Bool.and_eq_true, Bool.and_eq_true, decide_eq_true_eq] at hc
    obtain ⟨⟨⟨h1, h2⟩, h3⟩, h4⟩ := hc
    simp only [cond_true]
    have e : s.foldl (fun n c => 10 * n + ((c.toNat : Int) - 48)) 0 = ((foldN s : Nat) : Int) := num_fold_nat s 0 h3
    rw [e]
    have hne : s ≠ [] := by rintro rfl; simp at h1
    have hz : ∀ c r, s = c :: r → c ≠ 48 := by
      rintro c r rfl rfl
      simp at h4
    refine ⟨?_, ?_⟩
    · rw [Int.toNat_natCast]
      exact numK_of 6 s h3 hne (fun c r e => .inl (hz c r e)) (by omega)
    · cases s with
      | nil => exact (hne rfl).elim
      | cons c r =>
        rw [List.all_cons, Bool.and_eq_true] at h3
        have := foldN_pos r c h3.1 (hz c r rfl)
        omega
theorem cut_back {s : Bs} (h : contains s sep3 = true) : s = (cut s sep3).1 ++ (sep3 ++ (cut s sep3).2.1) := by
  rw [cut_has s sep3 h]
  rcases index_spec s sep3 with ⟨e, _⟩ | ⟨i, e, hi, ho, _⟩
  · unfold contains at h; rw [e] at h; cases h
  · rw [e]
    show s = s.take i ++ (sep3 ++ s.drop (i + 3))
    unfold occAt at ho
    obtain ⟨t, ht⟩ := List.isPrefixOf_iff_prefix.1 ho
    have h2 : s.drop (i + 3) = t := by rw [← List.drop_drop, ← ht]; rfl
    rw [h2, ht, List.take_append_drop]
theorem lead_at {c : UInt8} {s : Bs} (h : s.contains c = true) : s[lead (· != c) s]? = some c := by
  have hl := lead_lt c s h
  rw [List.getElem?_eq_getElem hl]
  cases hx : (s[lead (· != c) s] == c)
  · have hst := lead_step (· != c) s _ s[lead (· != c) s] (Nat.le_refl _) (List.getElem?_eq_getElem hl) (by simpa using hx)
    omega
  · rw [beq_iff_eq] at hx; rw [hx]
theorem upto_past {c : UInt8} {s : Bs} (h : s.contains c = true) : s = upto c s ++ c :: past c s := by
  have hl := lead_lt c s h
  have e := lead_at h
  rw [List.getElem?_eq_getElem hl, Option.some.injEq] at e
  conv => lhs; rw [← List.take_append_drop (lead (· != c) s) s]
  rw [take_upto, List.drop_eq_getElem_cons hl, drop_past, e]
theorem upto_free (c : UInt8) (s : Bs) : (upto c s).contains c = false := by
  unfold upto
  cases h : (s.takeWhile (· != c)).contains c
  · rfl
  · have := List.all_eq_true.1 (List.all_takeWhile (p := fun x => x != c) (l := s)) c (List.contains_iff_mem.1 h)
    simp at this
/-- A text that is parsed: it is put together of the URI's parts, the path perhaps none. -/
structure Back (s : Bs) (v : U) : Prop where
  ok : okB v = true
  eq : s = textB v ∨ (v.path = [47] ∧ ∃ a b, s = a ++ b ∧ textB v = a ++ 47 :: b ∧ upto 63 s = a)
theorem parse_back {s : Bs} {v : U} (h : parseB s = (v, 0)) : Back s v := by
  unfold parseB at h
  cases hl : decide (s.length ≤ maxURI)
  · rw [hl] at h; cases h
  · rw [hl, cond_true] at h
    cases hp : portedB (rawB s) with
    | none => rw [hp] at h; cases h
    | some u =>
      rw [hp] at h
      change (if checkB u = 0 then (u, 0) else (noU, checkB u)) = (v, 0) at h
      by_cases hc : checkB u = 0
      · rw [if_pos hc] at h
        obtain rfl : u = v := by injection h
        have hok := (checkB_ok u).1 hc
        have hf := hok
        unfold okB at hf
        rw [Bool.and_eq_true, form_iff] at hf
        refine ⟨hok, ?_⟩
        have f := hf.1
        -- the parts of the text behind the scheme
        generalize ht : (cut s sep3).2.1 = t at *
        have hraw : rawB s = ⟨(cut s sep3).1, (upto 63 t).takeWhile (· != 47), 0, if (upto 63 t).dropWhile (· != 47) = [] then [47] else (upto 63 t).dropWhile (· != 47), past 63 t, t.contains 63⟩ := by rw [← ht]; rfl
        rw [hraw] at hp
        have hr : upto 63 t = (upto 63 t).takeWhile (· != 47) ++ (upto 63 t).dropWhile (· != 47) := (List.takeWhile_append_dropWhile (p := fun x => x != 47) (l := upto 63 t)).symm
        have hfree := upto_free 63 t
        have htt : t = upto 63 t ++ (bif t.contains 63 then [63] ++ past 63 t else []) := by
          cases hq : t.contains 63
          · rw [cond_false, List.append_nil, upto_all 63 t hq]
          · exact upto_past hq
        have hhf : ((upto 63 t).takeWhile (· != 47)).contains 63 = false := by
          cases h63 : ((upto 63 t).takeWhile (· != 47)).contains 63
          · rfl
          · have := (List.takeWhile_sublist (fun x => x != 47)).subset (List.contains_iff_mem.1 h63)
            rw [← List.contains_iff_mem, hfree] at this; cases this
        generalize hh : (upto 63 t).takeWhile (· != 47) = H at *
        generalize hpp : (upto 63 t).dropWhile (· != 47) = Pq at *
        -- the host and the port
        have hport : H = u.host ++ (bif u.port == 0 then [] else [58] ++ numB u.port.toNat) ∧ u.scheme = (cut s sep3).1 ∧ u.path = (if Pq = [] then [47] else Pq) ∧ u.query = past 63 t ∧ u.hq = t.contains 63 := by
          unfold portedB at hp
          cases h58 : H.contains 58
          · change (bif H.contains 58 then _ else _) = some u at hp
            rw [h58, cond_false, Option.some.injEq] at hp
            subst hp
            exact ⟨by simp, rfl, rfl, rfl, rfl⟩
          · change (bif H.contains 58 then (if portB (past 58 H) = 0 then none else some (U.mk (cut s sep3).1 (upto 58 H) (portB (past 58 H)) (if Pq = [] then [47] else Pq) (past 63 t) (t.contains 63))) else _) = some u at hp
            rw [h58, cond_true] at hp
            by_cases h0 : portB (past 58 H) = 0
            · rw [if_pos h0] at hp; cases hp
            · rw [if_neg h0, Option.some.injEq] at hp
              subst hp
              obtain ⟨b1, b2⟩ := portB_back h0
              refine ⟨?_, rfl, rfl, rfl, rfl⟩
              show H = upto 58 H ++ (bif portB (past 58 H) == 0 then [] else [58] ++ numB (portB (past 58 H)).toNat)
              rw [b1, show (portB (past 58 H) == 0) = false from by rw [beq_eq_false_iff_ne]; exact h0]
              exact upto_past h58
        obtain ⟨e1, e2, e3, e4, e5⟩ := hport
        have hs : contains s sep3 = true := by
          cases hcs : contains s sep3
          · rw [cut_hasnt s sep3 hcs] at ht
            have ht' : t = [] := ht.symm
            subst ht'
            have hH : H = [] := by rw [← hh]; rfl
            rw [hH] at e1
            have := f.hlen.1
            have h2 := congrArg List.length e1
            simp at h2; omega
          · rfl
        have hsb := cut_back hs
        rw [ht] at hsb
        have htx : textB u = (cut s sep3).1 ++ (sep3 ++ (H ++ ((if Pq = [] then [47] else Pq) ++ (bif t.contains 63 then [63] ++ past 63 t else [])))) := by
          rw [text_eq]; unfold behind
          rw [e1, e2, e3, e4, e5]; simp
        rw [hr] at htt
        by_cases hPq : Pq = []
        · right
          rw [if_pos hPq] at htx e3
          refine ⟨e3, (cut s sep3).1 ++ (sep3 ++ H), (bif t.contains 63 then [63] ++ past 63 t else []), ?_, ?_, ?_⟩
          · conv => lhs; rw [hsb, htt, hPq]
            simp
          · rw [htx]; simp
          · have hno : ((cut s sep3).1 ++ (sep3 ++ H)).contains 63 = false := by
              rw [has_app, has_app, hhf, ← e2]
              rcases f.scheme with h | h <;> rw [h] <;> rfl
            have hS : s = ((cut s sep3).1 ++ (sep3 ++ H)) ++ (bif t.contains 63 then [63] ++ past 63 t else []) := by
              conv => lhs; rw [hsb, htt, hPq]
              simp
            generalize (cut s sep3).1 ++ (sep3 ++ H) = A at *
            rw [hS]
            cases t.contains 63
            · rw [cond_false, List.append_nil, upto_all 63 A hno]
            · exact upto_app hno
        · left
          rw [if_neg hPq] at htx
          rw [htx]
          conv => lhs; rw [hsb, htt]
          simp
      · rw [if_neg hc] at h
        injection h with _ h; exact (hc h).elim
end Go.Proofs.YtmkpejioinkceaaGreatDoor
