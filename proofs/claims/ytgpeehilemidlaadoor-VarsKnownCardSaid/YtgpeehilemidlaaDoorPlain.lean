/- Plain facts on lists of bytes, without any program: scanning, trimming, cutting, pieces, fields, and what the variables of a request are. -/
import Derived.Lib.SlTrimSet
import Derived.Lib.Join
import Derived.Lib.IndexMore
import Derived.Lib.IndexBytes
import Derived.Lib.CutLaws
namespace Go.Proofs.YtgpeehilemidlaaDoor
open Go.Lib

abbrev Bs := List UInt8

/-! bytes -/
def ws (c : UInt8) : Bool := decide (c.toNat = 32 ∨ c.toNat = 9)
def dig (c : UInt8) : Bool := decide (48 ≤ c.toNat ∧ c.toNat ≤ 57)
def alnum (c : UInt8) : Bool := decide (65 ≤ c.toNat ∧ c.toNat ≤ 90 ∨ 97 ≤ c.toNat ∧ c.toNat ≤ 122 ∨ 48 ≤ c.toNat ∧ c.toNat ≤ 57)
def keyc (c : UInt8) : Bool := decide ((65 ≤ c.toNat ∧ c.toNat ≤ 90 ∨ 97 ≤ c.toNat ∧ c.toNat ≤ 122 ∨ 48 ≤ c.toNat ∧ c.toNat ≤ 57) ∨ c.toNat = 95 ∨ c.toNat = 45 ∨ c.toNat = 46)
def lowc (c : UInt8) : UInt8 := if 65 ≤ c.toNat ∧ c.toNat ≤ 90 then c + 32 else c

theorem u8eq {a b : UInt8} : a = b ↔ a.toNat = b.toNat := UInt8.toNat_inj.symm

theorem mk_data (s : ByteArray) : (⟨s.data.toList.toArray⟩ : ByteArray) = s := rfl
theorem bs_ext {s : ByteArray} {l : Bs} (h : s.data.toList = l) : s = ⟨l.toArray⟩ := by subst h; rfl
theorem bs_size (s : ByteArray) : s.data.toList.length = s.size := (Lib.size_eq s).symm
theorem bs_get (s : ByteArray) (k : Nat) (h : k < s.size) : s.data.toList[k]? = some s[k] := Lib.data_getElem? s k h

/-! how many bytes at a text's head are of a kind -/
def lead (p : UInt8 → Bool) (l : Bs) : Nat := (l.takeWhile p).length

theorem lead_le (p : UInt8 → Bool) : ∀ l : Bs, lead p l ≤ l.length
  | [] => Nat.le_refl _
  | c :: l => by
    unfold lead
    by_cases h : p c
    · have := lead_le p l; simp [List.takeWhile_cons, h]; exact this
    · simp [List.takeWhile_cons, h]

theorem lead_nil (p : UInt8 → Bool) : lead p [] = 0 := rfl
theorem lead_cons (p : UInt8 → Bool) (c : UInt8) (l : Bs) : lead p (c :: l) = if p c then lead p l + 1 else 0 := by
  unfold lead; by_cases h : p c <;> simp [List.takeWhile_cons, h]

theorem lead_step (p : UInt8 → Bool) : ∀ (l : Bs) (k : Nat) (c : UInt8), k ≤ lead p l → l[k]? = some c → p c = true → k + 1 ≤ lead p l
  | [], k, c, _, h, _ => by simp at h
  | a :: l, 0, c, _, h, hp => by simp at h; subst h; rw [lead_cons, if_pos hp]; omega
  | a :: l, k + 1, c, hk, h, hp => by
    rw [lead_cons] at hk ⊢
    by_cases ha : p a
    · rw [if_pos ha] at hk ⊢
      have := lead_step p l k c (by omega) (by simpa using h) hp
      omega
    · rw [if_neg ha] at hk; omega

theorem lead_stop (p : UInt8 → Bool) : ∀ (l : Bs) (k : Nat), k ≤ lead p l → (∀ c, l[k]? = some c → p c = false) → k = lead p l
  | [], k, hk, _ => by rw [lead_nil] at hk ⊢; omega
  | a :: l, 0, _, h => by rw [lead_cons, if_neg (by simp [h a rfl])]
  | a :: l, k + 1, hk, h => by
    rw [lead_cons] at hk ⊢
    by_cases ha : p a
    · rw [if_pos ha] at hk ⊢
      have := lead_stop p l k (by omega) (fun c hc => h c (by simpa using hc))
      omega
    · rw [if_neg ha] at hk; omega

theorem lead_get (p : UInt8 → Bool) : ∀ (l : Bs) (k : Nat) (c : UInt8), k < lead p l → l[k]? = some c → p c = true
  | [], k, c, h, _ => by rw [lead_nil] at h; omega
  | a :: l, 0, c, hk, h => by
    rw [lead_cons] at hk
    by_cases ha : p a
    · simp at h; exact h ▸ ha
    · rw [if_neg ha] at hk; omega
  | a :: l, k + 1, c, hk, h => by
    rw [lead_cons] at hk
    by_cases ha : p a
    · rw [if_pos ha] at hk
      exact lead_get p l k c (by omega) (by simpa using h)
    · rw [if_neg ha] at hk; omega

theorem drop_lead (p : UInt8 → Bool) : ∀ l : Bs, l.drop (lead p l) = l.dropWhile p
  | [] => rfl
  | c :: l => by
    rw [lead_cons]
    by_cases h : p c
    · simp [h, List.dropWhile_cons, drop_lead p l]
    · simp [h, List.dropWhile_cons]

theorem take_lead (p : UInt8 → Bool) : ∀ l : Bs, l.take (lead p l) = l.takeWhile p
  | [] => rfl
  | c :: l => by
    rw [lead_cons]
    by_cases h : p c
    · simp [h, List.takeWhile_cons, take_lead p l]
    · simp [h, List.takeWhile_cons]

theorem dropWhile_nil_iff (p : UInt8 → Bool) : ∀ l : Bs, l.dropWhile p = [] ↔ l.all p = true
  | [] => by simp
  | c :: l => by
    by_cases h : p c
    · simp [h, List.dropWhile_cons, dropWhile_nil_iff p l]
    · simp [h, List.dropWhile_cons]

theorem lead_all (p : UInt8 → Bool) : ∀ l : Bs, lead p l = l.length ↔ l.all p = true
  | [] => by simp [lead_nil]
  | c :: l => by
    rw [lead_cons]
    by_cases h : p c
    · simp [h, lead_all p l]
    · simp [h]

/-! trim -/
def trim (l : Bs) : Bs := Lib.trimS l [32, 9]

theorem contains_ws (c : UInt8) : ([32, 9] : Bs).contains c = ws c := by
  have h : ∀ a : UInt8, (c == a) = decide (c.toNat = a.toNat) := fun a => by
    rw [Bool.eq_iff_iff]; simp [u8eq]
  simp only [List.contains_cons, List.contains_nil, Bool.or_false, h]
  unfold ws
  by_cases h1 : c.toNat = 32 <;> by_cases h2 : c.toNat = 9 <;> simp_all

theorem trim_eq (l : Bs) : trim l = ((l.reverse.dropWhile ws).reverse).dropWhile ws := by
  have : (fun c => ([32, 9] : Bs).contains c) = ws := funext contains_ws
  show List.dropWhile (fun c => ([32, 9] : Bs).contains c) (List.dropWhile (fun c => ([32, 9] : Bs).contains c) l.reverse).reverse = _
  rw [this]

/-- The text from place a to place b is the text trimmed: a is the first place behind which a byte stands that is no blank. -/
theorem trim_of (l : Bs) (a b : Nat) (ha : a = lead ws l) (hab : a ≤ b) (hb : b ≤ l.length)
    (h1 : ∀ j c, b ≤ j → l[j]? = some c → ws c = true) (h2 : a < b → ∀ c, l[b - 1]? = some c → ws c = false) :
    trim l = (l.drop a).take (b - a) := by
  have hR : ((l.reverse.dropWhile ws).reverse) = if a = b then [] else l.take b := by
    have hc : (fun c => ([32, 9] : Bs).contains c) = ws := funext contains_ws
    by_cases hab' : a = b
    · rw [if_pos hab']
      have hall : l.all ws = true := by
        rw [List.all_eq_true]
        intro x hx
        obtain ⟨j, hj, rfl⟩ := List.getElem_of_mem hx
        by_cases hjb : b ≤ j
        · exact h1 j _ hjb (List.getElem?_eq_getElem hj)
        · exact lead_get ws l j _ (by omega) (List.getElem?_eq_getElem hj)
      have : l.reverse.dropWhile ws = [] := by rw [dropWhile_nil_iff, List.all_reverse]; exact hall
      rw [this]; rfl
    · rw [if_neg hab']
      have := Lib.trimRightS_take l [32, 9] b hb (fun j c hj hc' => by rw [contains_ws]; exact h1 j c hj hc') (fun c _ hc' => by rw [contains_ws]; exact h2 (by omega) c hc')
      unfold Lib.trimRightS at this
      rw [show (fun x => ([32, 9] : Bs).contains x) = ws from hc] at this
      exact this
  rw [trim_eq, hR]
  by_cases hab' : a = b
  · subst hab'; simp
  · rw [if_neg hab', ← drop_lead]
    have hlt : lead ws (l.take b) = a := by
      symm
      refine lead_stop ws (l.take b) a ?_ ?_
      · -- a ≤ lead of the part
        have : ∀ k, k ≤ a → k ≤ lead ws (l.take b) := by
          intro k
          induction k with
          | zero => intro _; omega
          | succ k ih =>
            intro hk
            have hkl : k < lead ws l := by omega
            have hkk : k < l.length := by have := lead_le ws l; omega
            refine lead_step ws _ k l[k] (ih (by omega)) ?_ ?_
            · rw [List.getElem?_take_of_lt (by omega), List.getElem?_eq_getElem hkk]
            · exact lead_get ws l k _ hkl (List.getElem?_eq_getElem hkk)
        exact this a (Nat.le_refl _)
      · intro c hc
        rw [List.getElem?_take_of_lt (by omega)] at hc
        cases hw : ws c with
        | false => rfl
        | true =>
          have := lead_step ws l a c (by omega) hc hw
          omega
    rw [hlt, List.drop_take]

/-! small letters -/
def lower (l : Bs) : Bs := l.map lowc
def same (a b : Bs) : Bool := lower a == lower b

theorem lowc_up (c : UInt8) (h1 : (65 : Int) ≤ ↑c.toNat) (h2 : (↑c.toNat : Int) ≤ 90) : ((lowc c).toNat : Int) = (c.toNat : Int) + 32 := by
  unfold lowc; rw [if_pos (by omega)]
  rw [UInt8.toNat_add]
  have : (32 : UInt8).toNat = 32 := rfl
  rw [this]; omega
theorem lowc_other (c : UInt8) (h : ¬ ((65 : Int) ≤ ↑c.toNat ∧ (↑c.toNat : Int) ≤ 90)) : lowc c = c := by
  unfold lowc; rw [if_neg (by omega)]

theorem lower_length (l : Bs) : (lower l).length = l.length := by simp [lower]

end Go.Proofs.YtgpeehilemidlaaDoor
