/- Plain facts on lists of bytes: the first byte of a kind, pieces at a byte. -/
import Derived.Test.YtgpeehilemidlaaDoorPlain
import Derived.Lib.SplitLaws
namespace Go.Proofs.YtgpeehilemidlaaDoor
open Go.Lib

def upto (c : UInt8) (l : Bs) : Bs := l.takeWhile (· != c)
def past (c : UInt8) (l : Bs) : Bs := (l.dropWhile (· != c)).drop 1

/-- Does a text hold a byte? -/
def hasB (c : UInt8) (l : Bs) : Bool := l.contains c

theorem has_cons (c x : UInt8) (l : Bs) : (x :: l).contains c = (x == c || l.contains c) := by
  rw [List.contains_cons]
  have : (c == x) = (x == c) := by
    by_cases h : c = x
    · subst h; rfl
    · rw [beq_eq_false_iff_ne.2 h, beq_eq_false_iff_ne.2 (Ne.symm h)]
  rw [this]

theorem index_byte (c : UInt8) : ∀ l : Bs, Lib.index l [c] = if l.contains c then (lead (· != c) l : Int) else -1
  | [] => rfl
  | x :: l => by
    have ih := index_byte c l
    unfold Lib.index
    rw [has_cons, lead_cons]
    by_cases hx : x = c
    · subst hx; simp [List.isPrefixOf]
    · have h1 : (x == c) = false := by simp [hx]
      have h2 : (c == x) = false := by simp; exact fun h => hx h.symm
      have h3 : (x != c) = true := by simp [hx]
      rw [h1, ih]
      simp only [List.isPrefixOf, h2, Bool.false_and, Bool.false_eq_true, if_false, Bool.false_or, h3, if_true]
      by_cases hc : l.contains c
      · rw [if_pos hc, if_pos hc]
        have : ((lead (· != c) l : Int) == -1) = false := by rw [beq_eq_false_iff_ne]; omega
        rw [this]; simp
      · rw [if_neg hc, if_neg hc]; rfl

theorem cut_byte (c : UInt8) (l : Bs) : Lib.cut l [c] = (upto c l, past c l, l.contains c) := by
  unfold Lib.cut upto past
  rw [index_byte]
  by_cases h : l.contains c
  · rw [if_pos h, if_pos (by omega)]
    rw [h]
    have : ((lead (· != c) l : Int)).toNat = lead (· != c) l := by omega
    rw [this, take_lead]
    simp only [List.length_cons, List.length_nil, Nat.zero_add]
    rw [← List.drop_drop, drop_lead]
  · rw [if_neg h, if_neg (by decide)]
    have hall : ∀ x ∈ l, (x != c) = true := by
      intro x hx
      simp only [bne_iff_ne, ne_eq]
      intro e; subst e; exact h (by simpa using hx)
    have h1 : l.takeWhile (· != c) = l := by
      rw [← take_lead, (lead_all _ l).2 (List.all_eq_true.2 hall), List.take_length]
    have h2 : l.dropWhile (· != c) = [] := (dropWhile_nil_iff _ l).2 (List.all_eq_true.2 hall)
    rw [h1, h2]; simp at h; simp [h]

/-- The pieces of a text at a byte: one more than there are such bytes. -/
def pieces (c : UInt8) : Bs → List Bs
  | [] => [[]]
  | x :: l => if x == c then [] :: pieces c l else (x :: (pieces c l).headD []) :: (pieces c l).tail

theorem pieces_cons (c x : UInt8) (l : Bs) : pieces c (x :: l) = if x == c then [] :: pieces c l else (x :: (pieces c l).headD []) :: (pieces c l).tail := rfl

theorem pieces_ne (c : UInt8) (l : Bs) : pieces c l ≠ [] := by
  cases l with
  | nil => simp [pieces]
  | cons x l => unfold pieces; split <;> simp

theorem pieces_cut (c : UInt8) : ∀ l : Bs, pieces c l = if l.contains c then upto c l :: pieces c (past c l) else [l]
  | [] => rfl
  | x :: l => by
    have ih := pieces_cut c l
    rw [has_cons, pieces_cons]
    by_cases hx : x = c
    · subst hx
      have hu : upto x (x :: l) = [] := by simp [upto]
      have hp : past x (x :: l) = l := by simp [past]
      rw [hu, hp]; simp
    · have h1 : (x == c) = false := by simp [hx]
      have h3 : (x != c) = true := by simp [hx]
      have hu : upto c (x :: l) = x :: upto c l := by simp [upto, h3]
      have hp : past c (x :: l) = past c l := by simp [past, h3]
      rw [h1, hu, hp]
      simp only [Bool.false_or, Bool.false_eq_true, if_false]
      by_cases hc : l.contains c
      · rw [if_pos hc, ih, if_pos hc]; rfl
      · rw [if_neg hc, ih, if_neg hc]; rfl

theorem past_lt (c : UInt8) (l : Bs) (h : l.contains c) : (past c l).length < l.length := by
  unfold past
  rw [← drop_lead, List.drop_drop, List.length_drop]
  have : 0 < l.length := by cases l with | nil => simp at h | cons => simp
  omega

theorem split_pieces (c : UInt8) (k : Nat) : ∀ l : Bs, Lib.count l [c] ≤ k → Lib.splitK [c] 0 k l = pieces c l := by
  induction k with
  | zero =>
    intro l h
    rw [Lib.count_one] at h
    have hc : l.contains c = false := by
      have : l.count c = 0 := by omega
      rw [List.count_eq_zero] at this; simpa using this
    rw [pieces_cut, hc]; rfl
  | succ k ih =>
    intro l h
    rw [pieces_cut]
    have hk := index_byte c l
    unfold Lib.splitK
    by_cases hc : l.contains c
    · rw [if_pos hc] at hk ⊢
      have hcut := cut_byte c l
      unfold Lib.cut at hcut
      rw [if_pos (by omega)] at hcut
      simp only [Prod.mk.injEq] at hcut
      have hne : (Lib.index l [c] == -1) = false := by rw [beq_eq_false_iff_ne]; omega
      rw [hne, hcut.2.1]
      simp only [Bool.false_eq_true, if_false, Nat.add_zero]
      rw [hcut.1, ih]
      have hi : Lib.index l [c] = (lead (· != c) l : Nat) := hk
      have := Lib.count_hit (by simp) hi
      rw [this] at h
      have hd : List.drop (lead (· != c) l + 1) l = past c l := by
        unfold past; rw [← drop_lead, List.drop_drop]
      simp only [List.length_cons, List.length_nil, Nat.zero_add] at h
      rw [hd] at h; omega
    · rw [if_neg hc] at hk ⊢
      rw [hk]; rfl
end Go.Proofs.YtgpeehilemidlaaDoor
