/- Plain facts on lists of bytes, without any program: scanning, trimming, cutting, pieces, fields, and what the variables of a request are. -/
import Derived.Lib.SlTrimSet
import Derived.Lib.Join
import Derived.Lib.IndexMore
import Derived.Lib.IndexBytes
import Derived.Lib.CutLaws
import Derived.Lib.SplitLaws
namespace Go.Proofs.YtbkhmkpbbggcbaaGreatDoor
open Go.Lib
set_option linter.unusedVariables false
abbrev Bs := List UInt8
def ws (c : UInt8) : Bool := decide (c.toNat = 32 ∨ c.toNat = 9)
def dig (c : UInt8) : Bool := decide (48 ≤ c.toNat ∧ c.toNat ≤ 57)
def alnum (c : UInt8) : Bool := decide (65 ≤ c.toNat ∧ c.toNat ≤ 90 ∨ 97 ≤ c.toNat ∧ c.toNat ≤ 122 ∨ 48 ≤ c.toNat ∧ c.toNat ≤ 57)
def keyc (c : UInt8) : Bool := decide ((65 ≤ c.toNat ∧ c.toNat ≤ 90 ∨ 97 ≤ c.toNat ∧ c.toNat ≤ 122 ∨ 48 ≤ c.toNat ∧ c.toNat ≤ 57) ∨ c.toNat = 95 ∨ c.toNat = 45 ∨ c.toNat = 46)
def lowc (c : UInt8) : UInt8 := if 65 ≤ c.toNat ∧ c.toNat ≤ 90 then c + 32 else c
theorem bs_ext {s : ByteArray} {l : Bs} (h : s.data.toList = l) : s = ⟨l.toArray⟩ := by subst h; rfl
theorem bs_size (s : ByteArray) : s.data.toList.length = s.size := (Lib.size_eq s).symm
theorem bs_get (s : ByteArray) (k : Nat) (h : k < s.size) : s.data.toList[k]? = some s[k] := Lib.data_getElem? s k h
def lead (p : UInt8 → Bool) (l : Bs) : Nat := (l.takeWhile p).length
theorem lead_le (p : UInt8 → Bool) : ∀ l : Bs, lead p l ≤ l.length
  | [] => Nat.le_refl _
  | c :: l => by
    unfold lead
    by_cases h : p c
    · have := lead_le p l; simp [h]; exact this
    · simp [h]
theorem lead_nil (p : UInt8 → Bool) : lead p [] = 0 := rfl
theorem lead_cons (p : UInt8 → Bool) (c : UInt8) (l : Bs) : lead p (c :: l) = if p c then lead p l + 1 else 0 := by
  unfold lead; by_cases h : p c <;> simp [h]
theorem lead_step (p : UInt8 → Bool) : ∀ (l : Bs) (k : Nat) (c : UInt8), k ≤ lead p l → l[k]? = some c → p c = true → k + 1 ≤ lead p l
  | [], k, c, _, h, _ => by simp at h
  | a :: l, 0, c, _, h, hp => by simp at h; subst h; rw [lead_cons, if_pos hp]; omega
  | a :: l, k + 1, c, hk, h, hp => by
    rw [lead_cons] at hk ⊢
    by_cases ha : p a
    · rw [if_pos ha] at hk ⊢
      have := lead_step p l k c (by omega) (by simpa using h) hp
      omega
    · rw [if_neg ha] at hk; omega
theorem lead_stop (p : UInt8 → Bool) : ∀ (l : Bs) (k : Nat), k ≤ lead p l → (∀ c, l[k]? = some c → p c = false) → k = lead p l
  | [], k, hk, _ => by rw [lead_nil] at hk ⊢; omega
  | a :: l, 0, _, h => by rw [lead_cons, if_neg (by simp [h a rfl])]
  | a :: l, k + 1, hk, h => by
    rw [lead_cons] at hk ⊢
    by_cases ha : p a
    · rw [if_pos ha] at hk ⊢
      have := lead_stop p l k (by omega) (fun c hc => h c (by simpa using hc))
      omega
    · rw [if_neg ha] at hk; omega
theorem drop_lead (p : UInt8 → Bool) : ∀ l : Bs, l.drop (lead p l) = l.dropWhile p
  | [] => rfl
  | c :: l => by
    rw [lead_cons]
    by_cases h : p c
    · simp [h, drop_lead p l]
    · simp [h]
theorem take_lead (p : UInt8 → Bool) : ∀ l : Bs, l.take (lead p l) = l.takeWhile p
  | [] => rfl
  | c :: l => by
    rw [lead_cons]
    by_cases h : p c
    · simp [h, take_lead p l]
    · simp [h]
theorem dropWhile_nil_iff (p : UInt8 → Bool) : ∀ l : Bs, l.dropWhile p = [] ↔ l.all p = true
  | [] => by simp
  | c :: l => by
    by_cases h : p c
    · simp [h, dropWhile_nil_iff p l]
    · simp [h]
theorem lead_all (p : UInt8 → Bool) : ∀ l : Bs, lead p l = l.length ↔ l.all p = true
  | [] => by simp [lead_nil]
  | c :: l => by
    rw [lead_cons]
    by_cases h : p c
    · simp [h, lead_all p l]
    · simp [h]
def trim (l : Bs) : Bs := Lib.trimS l [32, 9]
def lower (l : Bs) : Bs := l.map lowc
end Go.Proofs.YtbkhmkpbbggcbaaGreatDoor
namespace Go.Proofs.YtbkhmkpbbggcbaaGreatDoor
open Go.Lib
set_option linter.unusedVariables false
def upto (c : UInt8) (l : Bs) : Bs := l.takeWhile (· != c)
def past (c : UInt8) (l : Bs) : Bs := (l.dropWhile (· != c)).drop 1
def hasB (c : UInt8) (l : Bs) : Bool := l.contains c
theorem has_cons (c x : UInt8) (l : Bs) : (x :: l).contains c = (x == c || l.contains c) := by
  rw [List.contains_cons]
  have : (c == x) = (x == c) := by
    by_cases h : c = x
    · subst h; rfl
    · rw [beq_eq_false_iff_ne.2 h, beq_eq_false_iff_ne.2 (Ne.symm h)]
  rw [this]
theorem index_byte (c : UInt8) : ∀ l : Bs, Lib.index l [c] = if l.contains c then (lead (· != c) l : Int) else -1
  | [] => rfl
  | x :: l => by
    have ih := index_byte c l
    unfold Lib.index
    rw [has_cons, lead_cons]
    by_cases hx : x = c
    · subst hx; simp [List.isPrefixOf]
    · have h1 : (x == c) = false := by simp [hx]
      have h2 : (c == x) = false := by simp; exact fun h => hx h.symm
      have h3 : (x != c) = true := by simp [hx]
      rw [h1, ih]
      simp only [List.isPrefixOf, h2, Bool.false_and, Bool.false_eq_true, if_false, Bool.false_or, h3, if_true]
      by_cases hc : l.contains c
      · rw [if_pos hc, if_pos hc]
        have : ((lead (· != c) l : Int) == -1) = false := by rw [beq_eq_false_iff_ne]; omega
        rw [this]; simp
      · rw [if_neg hc, if_neg hc]; rfl
theorem cut_byte (c : UInt8) (l : Bs) : Lib.cut l [c] = (upto c l, past c l, l.contains c) := by
  unfold Lib.cut upto past
  rw [index_byte]
  by_cases h : l.contains c
  · rw [if_pos h, if_pos (by omega)]
    rw [h]
    have : ((lead (· != c) l : Int)).toNat = lead (· != c) l := by omega
    rw [this, take_lead]
    simp only [List.length_cons, List.length_nil, Nat.zero_add]
    rw [← List.drop_drop, drop_lead]
  · rw [if_neg h, if_neg (by decide)]
    have hall : ∀ x ∈ l, (x != c) = true := by
      intro x hx
      simp only [bne_iff_ne, ne_eq]
      intro e; subst e; exact h (by simpa using hx)
    have h1 : l.takeWhile (· != c) = l := by
      rw [← take_lead, (lead_all _ l).2 (List.all_eq_true.2 hall), List.take_length]
    have h2 : l.dropWhile (· != c) = [] := (dropWhile_nil_iff _ l).2 (List.all_eq_true.2 hall)
    rw [h1, h2]; simp at h; simp [h]
def pieces (c : UInt8) : Bs → List Bs
  | [] => [[]]
  | x :: l => if x == c then [] :: pieces c l else (x :: (pieces c l).headD []) :: (pieces c l).tail
theorem pieces_cons (c x : UInt8) (l : Bs) : pieces c (x :: l) = if x == c then [] :: pieces c l else (x :: (pieces c l).headD []) :: (pieces c l).tail := rfl
theorem pieces_cut (c : UInt8) : ∀ l : Bs, pieces c l = if l.contains c then upto c l :: pieces c (past c l) else [l]
  | [] => rfl
  | x :: l => by
    have ih := pieces_cut c l
    rw [has_cons, pieces_cons]
    by_cases hx : x = c
    · subst hx
      have hu : upto x (x :: l) = [] := by simp [upto]
      have hp : past x (x :: l) = l := by simp [past]
      rw [hu, hp]; simp
    · have h1 : (x == c) = false := by simp [hx]
      have h3 : (x != c) = true := by simp [hx]
      have hu : upto c (x :: l) = x :: upto c l := by simp [upto, h3]
      have hp : past c (x :: l) = past c l := by simp [past, h3]
      rw [h1, hu, hp]
      simp only [Bool.false_or, Bool.false_eq_true, if_false]
      by_cases hc : l.contains c
      · rw [if_pos hc, ih, if_pos hc]; rfl
      · rw [if_neg hc, ih, if_neg hc]; rfl
end Go.Proofs.YtbkhmkpbbggcbaaGreatDoor
namespace Go.Proofs.YtbkhmkpbbggcbaaGreatDoor
open Go.Lib
set_option linter.unusedVariables false
abbrev Fld := Bs × Bs
theorem take_snoc {α : Type} (l : List α) (k : Nat) (x : α) (h : l[k]? = some x) : l.take (k + 1) = l.take k ++ [x] := by
  rw [List.take_add_one, h]; rfl
end Go.Proofs.YtbkhmkpbbggcbaaGreatDoor
namespace Go.Proofs.YtbkhmkpbbggcbaaGreatDoor
open Go.Lib
set_option linter.unusedVariables false
theorem upto_len (c : UInt8) (l : Bs) : (upto c l).length ≤ l.length := by unfold upto; rw [← take_lead, List.length_take]; omega
theorem past_len (c : UInt8) (l : Bs) : (past c l).length ≤ l.length := by unfold past; rw [← drop_lead, List.drop_drop, List.length_drop]; omega
theorem dropWhile_len (p : UInt8 → Bool) (l : Bs) : (l.dropWhile p).length ≤ l.length := by rw [← drop_lead, List.length_drop]; omega
end Go.Proofs.YtbkhmkpbbggcbaaGreatDoor
namespace Go.Proofs.YtbkhmkpbbggcbaaGreatDoor
open Go.Lib
set_option linter.unusedVariables false
def cookieName : Bs := [99, 111, 111, 107, 105, 101]
def zeros : List Bs := [[113, 61, 48], [113, 61, 48, 46], [113, 61, 48, 46, 48], [113, 61, 48, 46, 48, 48], [113, 61, 48, 46, 48, 48, 48]]
def zq (t : Bs) : Bool := zeros.any (t == ·)
def zero (w : Bs) : Bool := zq (lower (trim w))
def langName : Bs := [97, 99, 99, 101, 112, 116, 45, 108, 97, 110, 103, 117, 97, 103, 101]
theorem any_step {α : Type} {ls : List α} {p : α → Bool} {k : Nat} {l : α} (h : (ls.take k).any p = false) (hl : ls[k]? = some l) (hp : p l = false) : (ls.take (k + 1)).any p = false := by
  rw [take_snoc ls k l hl, List.any_append, h]; simp [hp]
theorem any_hit {α : Type} {ls : List α} {p : α → Bool} {k : Nat} {l : α} (hl : ls[k]? = some l) (hp : p l = true) : ls.any p = true :=
  List.any_eq_true.2 ⟨l, List.mem_of_getElem? hl, hp⟩
theorem any_end {α : Type} {ls : List α} {p : α → Bool} {k : Nat} (h : (ls.take k).any p = false) (hk : ls.length ≤ k) : ls.any p = false := by
  rw [List.take_of_length_le hk] at h; exact h
theorem pieces_head (c : UInt8) (l : Bs) : (pieces c l).head? = some (upto c l) := by
  rw [pieces_cut]
  by_cases h : l.contains c
  · rw [if_pos h]; rfl
  · rw [if_neg h]
    have hall : ∀ x ∈ l, (x != c) = true := by
      intro x hx
      simp only [bne_iff_ne, ne_eq]
      intro e; subst e; exact h (by simpa using hx)
    have h1 : upto c l = l := by
      unfold upto; rw [← take_lead, (lead_all _ l).2 (List.all_eq_true.2 hall), List.take_length]
    rw [h1]; rfl
theorem take_upto (c : UInt8) (l : Bs) : l.take (lead (· != c) l) = upto c l := take_lead _ _
theorem drop_past (c : UInt8) (l : Bs) : l.drop (lead (· != c) l + 1) = past c l := by
  unfold past; rw [← drop_lead, List.drop_drop]
theorem upto_all (c : UInt8) (l : Bs) (h : l.contains c = false) : upto c l = l := by
  have := pieces_head c l
  rw [pieces_cut, h] at this
  simpa using this.symm
theorem lead_lt (c : UInt8) (l : Bs) (h : l.contains c = true) : lead (· != c) l < l.length := by
  have h1 := lead_le (· != c) l
  rcases Nat.lt_or_ge (lead (· != c) l) l.length with h2 | h2
  · exact h2
  · have h3 : lead (· != c) l = l.length := by omega
    rw [lead_all, List.all_eq_true] at h3
    rw [List.contains_iff_mem] at h
    have := h3 c h; simp at this
end Go.Proofs.YtbkhmkpbbggcbaaGreatDoor
namespace Go.Proofs.YtbkhmkpbbggcbaaGreatDoor
open Go.Lib
set_option linter.unusedVariables false
def agentName : Bs := [117, 115, 101, 114, 45, 97, 103, 101, 110, 116]
theorem has_byte (s : Bs) (c : UInt8) : Lib.contains s [c] = s.contains c := by
  unfold Lib.contains
  rw [index_byte]
  by_cases h : s.contains c
  · rw [if_pos h, h]; simp
  · rw [if_neg h]; simp at h; simp [h]
end Go.Proofs.YtbkhmkpbbggcbaaGreatDoor
namespace Go.Proofs.YtbkhmkpbbggcbaaGreatDoor
open Go.Lib
set_option linter.unusedVariables false
def nHost : Bs := [72, 84, 84, 80, 95, 72, 79, 83, 84]
def nReferer : Bs := [72, 84, 84, 80, 95, 82, 69, 70, 69, 82, 69, 82]
def nAgent : Bs := [72, 84, 84, 80, 95, 85, 83, 69, 82, 95, 65, 71, 69, 78, 84]
def nCookie : Bs := [72, 84, 84, 80, 95, 67, 79, 79, 75, 73, 69]
def nQuery : Bs := [81, 85, 69, 82, 89, 95, 83, 84, 82, 73, 78, 71]
def nLang : Bs := [72, 84, 84, 80, 95, 65, 67, 67, 69, 80, 84, 95, 76, 65, 78, 71, 85, 65, 71, 69]
def refererName : Bs := [114, 101, 102, 101, 114, 101, 114]
def tab : List (Bs × Bs) := [(nHost, [104, 111, 115, 116]), (nReferer, refererName), (nAgent, agentName), (nCookie, cookieName), (nQuery, []), (nLang, langName)]
def names : List Bs := tab.map (·.1)
def vknown (name : Bs) : Bool := names.any (· == name)
def vkey (s : Bs) : Bool := decide (1 ≤ s.length ∧ s.length ≤ 64) && s.all keyc
theorem vkey_no (l : Bs) (k : Nat) (c : UInt8) (hc : l[k]? = some c) (hp : keyc c = false) : vkey l = false := by
  unfold vkey
  have : l.all keyc = false := by
    rw [List.all_eq_false]; exact ⟨c, List.mem_of_getElem? hc, by simp [hp]⟩
  rw [this, Bool.and_false]
theorem vkey_end (l : Bs) (h : l.length ≤ lead keyc l) : vkey l = decide (1 ≤ l.length ∧ l.length ≤ 64) := by
  unfold vkey
  have : l.all keyc = true := (lead_all keyc l).1 (by have := lead_le keyc l; omega)
  rw [this, Bool.and_true]
theorem keyc_alnum (c : UInt8) (h : alnum c = true) : keyc c = true := by
  unfold alnum at h; unfold keyc
  rw [decide_eq_true_eq] at h ⊢; exact .inl h
theorem keyc_other (c : UInt8) (h : alnum c = false) : keyc c = decide ((c.toNat : Int) = 95 ∨ (c.toNat : Int) = 45 ∨ (c.toNat : Int) = 46) := by
  unfold alnum at h; unfold keyc
  rw [decide_eq_false_iff_not] at h
  rw [Bool.eq_iff_iff, decide_eq_true_eq, decide_eq_true_eq]; omega
end Go.Proofs.YtbkhmkpbbggcbaaGreatDoor
namespace Go.Proofs.YtbkhmkpbbggcbaaGreatDoor
open Go.Lib
set_option linter.unusedVariables false
end Go.Proofs.YtbkhmkpbbggcbaaGreatDoor
namespace Go.Proofs.YtbkhmkpbbggcbaaGreatDoor
open Go.Lib
set_option linter.unusedVariables false
theorem set_eq (cs : Bs) (p : UInt8 → Bool) (h : (List.range 256).all (fun n => cs.contains (UInt8.ofNat n) == p (UInt8.ofNat n)) = true) : (fun c => cs.contains c) = p := by
  funext c
  have h1 := List.all_eq_true.1 h c.toNat (by simp; exact c.toNat_lt)
  have h2 : UInt8.ofNat c.toNat = c := by simp
  rw [h2] at h1
  exact eq_of_beq h1
def keySet : Bs := [97, 98, 99, 100, 101, 102, 103, 104, 105, 106, 107, 108, 109, 110, 111, 112, 113, 114, 115, 116, 117, 118, 119, 120, 121, 122, 65, 66, 67, 68, 69, 70, 71, 72, 73, 74, 75, 76, 77, 78, 79, 80, 81, 82, 83, 84, 85, 86, 87, 88, 89, 90, 48, 49, 50, 51, 52, 53, 54, 55, 56, 57, 95, 45, 46]
theorem keySet_eq : (fun c => keySet.contains c) = keyc := set_eq _ _ (by decide +kernel)
theorem key_trim (s : Bs) : (Lib.trimLeftS s keySet == []) = s.all keyc := by
  unfold Lib.trimLeftS
  rw [show (fun x => keySet.contains x) = keyc from keySet_eq, Bool.eq_iff_iff, beq_iff_eq, dropWhile_nil_iff]
theorem vkey_eq (s : Bs) : vkey s = ((s != [] && decide (s.length ≤ 64)) && (Lib.trimLeftS s keySet == [])) := by
  rw [key_trim]
  unfold vkey
  congr 1
  rw [Bool.eq_iff_iff]
  cases s with
  | nil => simp
  | cons a l => simp
end Go.Proofs.YtbkhmkpbbggcbaaGreatDoor
