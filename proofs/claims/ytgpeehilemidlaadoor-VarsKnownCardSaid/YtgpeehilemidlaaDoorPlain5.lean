/- What the variables of a request are, in plain words. -/
import Derived.Test.YtgpeehilemidlaaDoorPlain4
namespace Go.Proofs.YtgpeehilemidlaaDoor
open Go.Lib

/-! searching a list -/
theorem fs_step {α β : Type} {ls : List α} {p : α → Option β} {k : Nat} {l : α} (h : (ls.take k).findSome? p = none) (hl : ls[k]? = some l) (hp : p l = none) : (ls.take (k + 1)).findSome? p = none := by
  rw [take_snoc ls k l hl, List.findSome?_append, h]; simp [hp]
theorem fs_hit {α β : Type} {ls : List α} {p : α → Option β} {k : Nat} {l : α} {x : β} (h : (ls.take k).findSome? p = none) (hl : ls[k]? = some l) (hp : p l = some x) : ls.findSome? p = some x := by
  have : ls = ls.take k ++ l :: ls.drop (k + 1) := by
    have hk := (List.getElem?_eq_some_iff.1 hl)
    obtain ⟨hk, rfl⟩ := hk
    rw [List.getElem_cons_drop hk, List.take_append_drop]
  rw [this, List.findSome?_append, h]; simp [hp]
theorem fs_end {α β : Type} {ls : List α} {p : α → Option β} {k : Nat} (h : (ls.take k).findSome? p = none) (hk : ls.length ≤ k) : ls.findSome? p = none := by
  rw [List.take_of_length_le hk] at h; exact h

/-! cookies -/
def cookieName : Bs := [99, 111, 111, 107, 105, 101]
def vcookies (fs : List Fld) : Bs × Bool := (join (values fs cookieName) [59, 32], decide (0 < (values fs cookieName).length))
def ckOf (key p : Bs) : Option Bs := if (trim p).contains 61 && upto 61 (trim p) == key then some (past 61 (trim p)) else none
def vcookie (fs : List Fld) (key : Bs) : Option Bs := (pieces 59 (vcookies fs).1).findSome? (ckOf key)

/-! the query -/
def quOf (key p : Bs) : Option Bs := if upto 61 p == key then some (past 61 p) else none
def vquery (t : Bs) : Option Bs := if t.contains 63 then some (past 63 t) else none
def vasked (t key : Bs) : Option Bs := (pieces 38 (past 63 t)).findSome? (quOf key)

/-! languages -/
def zeros : List Bs := [[113, 61, 48], [113, 61, 48, 46], [113, 61, 48, 46, 48], [113, 61, 48, 46, 48, 48], [113, 61, 48, 46, 48, 48, 48]]
def zq (t : Bs) : Bool := zeros.any (t == ·)
def zero (w : Bs) : Bool := zq (lower (trim w))
def lgOf (key p : Bs) : Bool := same (trim (upto 59 p)) key && !(pieces 59 p).tail.any zero
def langName : Bs := [97, 99, 99, 101, 112, 116, 45, 108, 97, 110, 103, 117, 97, 103, 101]
def vlang (fs : List Fld) (key : Bs) : Bool := (pieces 44 (fget fs langName).1).any (lgOf key)

/-- "true", if it is so. -/
def langV (b : Bool) : Bs := bif b then [116, 114, 117, 101] else []
theorem any_congr {α : Type} {p q : α → Bool} : ∀ {l : List α}, (∀ x ∈ l, p x = q x) → l.any p = l.any q
  | [], _ => rfl
  | x :: l, h => by rw [List.any_cons, List.any_cons, h x (by simp), any_congr fun y hy => h y (by simp [hy])]
theorem zero_any (w : Bs) : zero w = zeros.any (same (trim w)) := by
  have hz : ∀ z ∈ zeros, lower z = z := by decide
  unfold zero zq
  exact any_congr fun z hz' => by unfold same; rw [hz z hz']
theorem any_step {α : Type} {ls : List α} {p : α → Bool} {k : Nat} {l : α} (h : (ls.take k).any p = false) (hl : ls[k]? = some l) (hp : p l = false) : (ls.take (k + 1)).any p = false := by
  rw [take_snoc ls k l hl, List.any_append, h]; simp [hp]
theorem any_hit {α : Type} {ls : List α} {p : α → Bool} {k : Nat} {l : α} (hl : ls[k]? = some l) (hp : p l = true) : ls.any p = true :=
  List.any_eq_true.2 ⟨l, List.mem_of_getElem? hl, hp⟩
theorem any_end {α : Type} {ls : List α} {p : α → Bool} {k : Nat} (h : (ls.take k).any p = false) (hk : ls.length ≤ k) : ls.any p = false := by
  rw [List.take_of_length_le hk] at h; exact h

theorem pieces_head (c : UInt8) (l : Bs) : (pieces c l).head? = some (upto c l) := by
  rw [pieces_cut]
  by_cases h : l.contains c
  · rw [if_pos h]; rfl
  · rw [if_neg h]
    have hall : ∀ x ∈ l, (x != c) = true := by
      intro x hx
      simp only [bne_iff_ne, ne_eq]
      intro e; subst e; exact h (by simpa using hx)
    have h1 : upto c l = l := by
      unfold upto; rw [← take_lead, (lead_all _ l).2 (List.all_eq_true.2 hall), List.take_length]
    rw [h1]; rfl

/-- What is known of a piece of a language's list when k of its parts have been looked at. -/
def lgAt (key p : Bs) (k : Nat) : Bool := same (trim (upto 59 p)) key && !((pieces 59 p).take k).tail.any zero
theorem lgAt_one (key p : Bs) : lgAt key p 1 = same (trim (upto 59 p)) key := by
  unfold lgAt
  have : ((pieces 59 p).take 1).tail = [] := by
    have := pieces_ne 59 p
    cases h : pieces 59 p with
    | nil => exact absurd h this
    | cons x l => simp
  rw [this]; simp
theorem lgAt_step (key p : Bs) (k : Nat) (q : Bs) (hk : 1 ≤ k) (hq : (pieces 59 p)[k]? = some q) : lgAt key p (k + 1) = (lgAt key p k && !zero q) := by
  unfold lgAt
  rw [take_snoc _ k q hq]
  have hne : (pieces 59 p).take k ≠ [] := by
    intro h
    have := congrArg List.length h
    rw [List.length_take, List.length_nil] at this
    have h2 := (List.getElem?_eq_some_iff.1 hq).1
    omega
  rw [List.tail_append_of_ne_nil hne, List.any_append]
  simp [Bool.and_assoc]
theorem lgAt_end (key p : Bs) (k : Nat) (hk : (pieces 59 p).length ≤ k) : lgAt key p k = lgOf key p := by
  unfold lgAt lgOf; rw [List.take_of_length_le hk]

/-- 'Find(p, "=") >= 0 && p[:at] == key' of a piece, in the words of the place. -/
theorem index_yes (c : UInt8) (l : Bs) (h : l.contains c = true) : Lib.index l [c] = (lead (· != c) l : Nat) := by rw [index_byte, if_pos h]
theorem index_no (c : UInt8) (l : Bs) (h : l.contains c = false) : Lib.index l [c] = -1 := by rw [index_byte, h]; rfl
theorem take_upto (c : UInt8) (l : Bs) : l.take (lead (· != c) l) = upto c l := take_lead _ _
theorem drop_past (c : UInt8) (l : Bs) : l.drop (lead (· != c) l + 1) = past c l := by
  unfold past; rw [← drop_lead, List.drop_drop]
theorem upto_all (c : UInt8) (l : Bs) (h : l.contains c = false) : upto c l = l := by
  have := pieces_head c l
  rw [pieces_cut, h] at this
  simpa using this.symm
theorem past_all (c : UInt8) (l : Bs) (h : l.contains c = false) : past c l = [] := by
  have h1 := congrArg List.length (upto_all c l h)
  unfold upto at h1
  rw [← take_lead, List.length_take] at h1
  have h2 := lead_le (· != c) l
  rw [← drop_past]
  exact List.drop_eq_nil_of_le (by omega)

theorem lead_lt (c : UInt8) (l : Bs) (h : l.contains c = true) : lead (· != c) l < l.length := by
  have h1 := lead_le (· != c) l
  rcases Nat.lt_or_ge (lead (· != c) l) l.length with h2 | h2
  · exact h2
  · have h3 : lead (· != c) l = l.length := by omega
    rw [lead_all, List.all_eq_true] at h3
    rw [List.contains_iff_mem] at h
    have := h3 c h; simp at this

/-- What the walk leaves of 'p[:at] == key' and 'p[at+1:]', at being the first place of a byte. -/
theorem ext_upto (t : Bs) (c : UInt8) : ((⟨t.toArray⟩ : ByteArray).extract 0 (lead (· != c) t)).toList = upto c t := by
  rw [Lib.extract_toList, ← take_upto]; simp
theorem ext_past (t : Bs) (c : UInt8) (n : Nat) (hn : t.length ≤ n) : ((⟨t.toArray⟩ : ByteArray).extract (lead (· != c) t + 1) n).data.toList = past c t := by
  rw [Lib.extract_data, drop_past, List.take_of_length_le]
  rw [← drop_past, List.length_drop]; omega

theorem quOf_whole {key : ByteArray} {l : Bs} (hc : l.contains 61 = false) (h : (l == key.toList) = true) : quOf key.data.toList l = some [] := by
  rw [Lib.toList_data] at h
  unfold quOf; rw [upto_all 61 l hc, past_all 61 l hc, h]; rfl
theorem quOf_no {key : ByteArray} {l : Bs} (hc : l.contains 61 = false) (h : (l == key.toList) = false) : quOf key.data.toList l = none := by
  rw [Lib.toList_data] at h
  unfold quOf; rw [upto_all 61 l hc, h]; rfl
theorem quOf_ne {key : ByteArray} {l : Bs} (h : (((⟨l.toArray⟩ : ByteArray).extract 0 (lead (· != 61) l)).toList == key.toList) = false) : quOf key.data.toList l = none := by
  rw [ext_upto, Lib.toList_data] at h
  unfold quOf; rw [h]; rfl
theorem quOf_hit {key : ByteArray} {l : Bs} (h : (((⟨l.toArray⟩ : ByteArray).extract 0 (lead (· != 61) l)).toList == key.toList) = true) : quOf key.data.toList l = some (past 61 l) := by
  rw [ext_upto, Lib.toList_data] at h
  unfold quOf; rw [h]; rfl

theorem ckOf_no {key l : Bs} (h : (trim l).contains 61 = false) : ckOf key l = none := by unfold ckOf; rw [h]; rfl
theorem ckOf_ne {key : ByteArray} {l : Bs} (h : (((⟨(trim l).toArray⟩ : ByteArray).extract 0 (lead (· != 61) (trim l))).toList == key.toList) = false) : ckOf key.data.toList l = none := by
  rw [ext_upto, Lib.toList_data] at h
  unfold ckOf; rw [h, Bool.and_false]; rfl
theorem ckOf_hit {key : ByteArray} {l : Bs} (hc : (trim l).contains 61 = true) (h : (((⟨(trim l).toArray⟩ : ByteArray).extract 0 (lead (· != 61) (trim l))).toList == key.toList) = true) : ckOf key.data.toList l = some (past 61 (trim l)) := by
  rw [ext_upto, Lib.toList_data] at h
  unfold ckOf; rw [h, hc]; rfl
end Go.Proofs.YtgpeehilemidlaaDoor
