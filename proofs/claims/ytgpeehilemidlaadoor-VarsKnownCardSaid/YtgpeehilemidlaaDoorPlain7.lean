/- Plain facts on the variables' names, keys and sources. -/
import Derived.Test.YtgpeehilemidlaaDoorPlain6
namespace Go.Proofs.YtgpeehilemidlaaDoor
open Go.Lib

def nHost : Bs := [72, 84, 84, 80, 95, 72, 79, 83, 84]
def nReferer : Bs := [72, 84, 84, 80, 95, 82, 69, 70, 69, 82, 69, 82]
def nAgent : Bs := [72, 84, 84, 80, 95, 85, 83, 69, 82, 95, 65, 71, 69, 78, 84]
def nCookie : Bs := [72, 84, 84, 80, 95, 67, 79, 79, 75, 73, 69]
def nQuery : Bs := [81, 85, 69, 82, 89, 95, 83, 84, 82, 73, 78, 71]
def nLang : Bs := [72, 84, 84, 80, 95, 65, 67, 67, 69, 80, 84, 95, 76, 65, 78, 71, 85, 65, 71, 69]
def refererName : Bs := [114, 101, 102, 101, 114, 101, 114]
def tab : List (Bs × Bs) := [(nHost, [104, 111, 115, 116]), (nReferer, refererName), (nAgent, agentName), (nCookie, cookieName), (nQuery, []), (nLang, langName)]
def names : List Bs := tab.map (·.1)
def srcs : List Bs := tab.map (·.2)
def vknown (name : Bs) : Bool := names.any (· == name)
def vsrc (name : Bs) : Bs := ((tab.find? (·.1 == name)).map (·.2)).getD []
def vsource (name key : Bs) (has : Bool) : Bs := bif vsrc name == cookieName && has then cookieName ++ [46] ++ key else vsrc name
def vkey (s : Bs) : Bool := decide (1 ≤ s.length ∧ s.length ≤ 64) && s.all keyc

theorem find_hit {α : Type} {ls : List α} {p : α → Bool} {k : Nat} {l : α} (h : (ls.take k).any p = false) (hl : ls[k]? = some l) (hp : p l = true) : ls.find? p = some l := by
  have e : ls = ls.take k ++ l :: ls.drop (k + 1) := by
    obtain ⟨hk, rfl⟩ := List.getElem?_eq_some_iff.1 hl
    rw [List.getElem_cons_drop hk, List.take_append_drop]
  have hn : (ls.take k).find? p = none := by
    rw [List.find?_eq_none]; intro x hx
    rw [List.any_eq_false] at h; exact h x hx
  rw [e, List.find?_append, hn]; simp [hp]
theorem find_end {α : Type} {ls : List α} {p : α → Bool} {k : Nat} (h : (ls.take k).any p = false) (hk : ls.length ≤ k) : ls.find? p = none := by
  rw [List.take_of_length_le hk] at h
  rw [List.find?_eq_none]; intro x hx
  rw [List.any_eq_false] at h; exact h x hx

theorem all_step (p : UInt8 → Bool) (l : Bs) (k : Nat) (c : UInt8) (h : k ≤ lead p l) (hc : l[k]? = some c) (hp : p c = true) : k + 1 ≤ lead p l := lead_step p l k c h hc hp
theorem vkey_no (l : Bs) (k : Nat) (c : UInt8) (hc : l[k]? = some c) (hp : keyc c = false) : vkey l = false := by
  unfold vkey
  have : l.all keyc = false := by
    rw [List.all_eq_false]; exact ⟨c, List.mem_of_getElem? hc, by simp [hp]⟩
  rw [this, Bool.and_false]
theorem vkey_end (l : Bs) (h : l.length ≤ lead keyc l) : vkey l = decide (1 ≤ l.length ∧ l.length ≤ 64) := by
  unfold vkey
  have : l.all keyc = true := (lead_all keyc l).1 (by have := lead_le keyc l; omega)
  rw [this, Bool.and_true]
theorem keyc_alnum (c : UInt8) (h : alnum c = true) : keyc c = true := by
  unfold alnum at h; unfold keyc
  rw [decide_eq_true_eq] at h ⊢; exact .inl h
theorem keyc_other (c : UInt8) (h : alnum c = false) : keyc c = decide ((c.toNat : Int) = 95 ∨ (c.toNat : Int) = 45 ∨ (c.toNat : Int) = 46) := by
  unfold alnum at h; unfold keyc
  rw [decide_eq_false_iff_not] at h
  rw [Bool.eq_iff_iff, decide_eq_true_eq, decide_eq_true_eq]; omega
end Go.Proofs.YtgpeehilemidlaaDoor
