/- Plain facts on what is told of an agent. -/
import Derived.Test.YtgpeehilemidlaaDoorPlain5
namespace Go.Proofs.YtgpeehilemidlaaDoor
open Go.Lib

def agentName : Bs := [117, 115, 101, 114, 45, 97, 103, 101, 110, 116]
def kBrowser : Bs := [98, 114, 111, 119, 115, 101, 114]
def kVersion : Bs := [118, 101, 114, 115, 105, 111, 110]
def kOs : Bs := [111, 115]
def tMsie : Bs := [77, 83, 73, 69, 32]
def tMozilla : Bs := [77, 111, 122, 105, 108, 108, 97, 47]
def tWindows : Bs := [87, 105, 110, 100, 111, 119, 115]
def tMac : Bs := [77, 97, 99]
def tX11 : Bs := [88, 49, 49]
def tLinux : Bs := [76, 105, 110, 117, 120]

def vd (c : UInt8) : Bool := decide (48 ≤ c.toNat ∧ c.toNat ≤ 57 ∨ c.toNat = 46)
def vbrowser (s : Bs) : Bs := bif Lib.contains s tMsie then [77, 83, 73, 69] else bif Lib.hasPrefix s tMozilla then [77, 79, 90, 73, 76, 76, 65] else [79, 84, 72, 69, 82]
/-- Where the digits of a version begin. -/
def verAt (s : Bs) : Nat := bif Lib.contains s tMsie then (Lib.index s tMsie).toNat + 5 else lead (· != 47) s + 1
def vver (s : Bs) : Bs × Bool := ((s.drop (verAt s)).takeWhile vd, decide (0 < lead vd (s.drop (verAt s))))
def vos (s : Bs) : Bs := bif Lib.contains s tWindows then [87, 73, 78] else bif Lib.contains s tMac then [77, 65, 67] else bif Lib.contains s tX11 || Lib.contains s tLinux then [85, 78, 73, 88] else [79, 84, 72, 69, 82]
def vagent (s key : Bs) : Bs × Bool := bif key == kBrowser then (vbrowser s, true) else bif key == kVersion then vver s else bif key == kOs then (vos s, true) else ([], false)
def vua (fs : List Fld) (key : Bs) : Bs × Bool := bif (fget fs agentName).2 then vagent (fget fs agentName).1 key else ([], false)

theorem index_has (s t : Bs) (h : Lib.contains s t = true) : Lib.index s t = ((Lib.index s t).toNat : Nat) := by
  unfold Lib.contains at h
  have := of_decide_eq_true h
  omega
theorem index_hasnt (s t : Bs) (h : Lib.contains s t = false) : Lib.index s t = -1 := by
  unfold Lib.contains at h
  have := of_decide_eq_false h
  have := Lib.index_ge s t
  omega
theorem index_zero (s t : Bs) (ht : t ≠ []) : (Lib.index s t == 0) = Lib.hasPrefix s t := by
  unfold Lib.hasPrefix
  cases s with
  | nil =>
    cases t with
    | nil => exact absurd rfl ht
    | cons a l => rfl
  | cons b l =>
    unfold Lib.index
    by_cases h : t.isPrefixOf (b :: l)
    · rw [if_pos h, h]; rfl
    · rw [if_neg h]
      have h' : t.isPrefixOf (b :: l) = false := Bool.eq_false_iff.2 h
      rw [h', beq_eq_false_iff_ne]
      have := Lib.index_ge l t
      split
      · decide
      · rename_i hne
        have : Lib.index l t ≠ -1 := by simpa using hne
        omega
theorem has_byte (s : Bs) (c : UInt8) : Lib.contains s [c] = s.contains c := by
  unfold Lib.contains
  rw [index_byte]
  by_cases h : s.contains c
  · rw [if_pos h, h]; simp
  · rw [if_neg h]; simp at h; simp [h]
theorem index_room' (s t : Bs) (h : Lib.contains s t = true) : (Lib.index s t).toNat + t.length ≤ s.length := by
  unfold Lib.contains at h
  have h0 := of_decide_eq_true h
  have := Lib.index_room s t h0
  omega

theorem vver_none (s : Bs) (h1 : Lib.contains s tMsie = false) (h2 : s.contains 47 = false) : vver s = ([], false) := by
  have h3 : s.drop (verAt s) = [] := by
    unfold verAt; rw [h1]
    have := drop_past 47 s
    rw [past_all 47 s h2] at this
    exact this
  unfold vver; rw [h3]; rfl
/-- The digits from place d to place k. -/
theorem vver_of (s : Bs) (d k n : Nat) (hd : verAt s = d) (hn : s.length = n) (h1 : d ≤ k) (h2 : k - d ≤ lead vd (s.drop d)) (h3 : lead vd (s.drop d) ≤ k - d) :
    ((⟨s.toArray⟩ : ByteArray).extract d k).data.toList = (vver s).1 ∧ decide ((d : Int) < (k : Int)) = (vver s).2 := by
  have e : k - d = lead vd (s.drop d) := by omega
  unfold vver
  rw [hd]
  constructor
  · rw [Lib.extract_data]
    show (s.drop d).take (k - d) = _
    rw [e, take_lead]
  · rw [Bool.eq_iff_iff]; simp; omega

theorem vagent_browser (s key : Bs) (h : (key == kBrowser) = true) : vagent s key = (vbrowser s, true) := by unfold vagent; rw [h]; rfl
theorem vagent_version (s key : Bs) (h0 : (key == kBrowser) = false) (h : (key == kVersion) = true) : vagent s key = vver s := by unfold vagent; rw [h0, h]; rfl
theorem vagent_os (s key : Bs) (h0 : (key == kBrowser) = false) (h1 : (key == kVersion) = false) (h : (key == kOs) = true) : vagent s key = (vos s, true) := by unfold vagent; rw [h0, h1, h]; rfl
theorem vagent_other (s key : Bs) (h0 : (key == kBrowser) = false) (h1 : (key == kVersion) = false) (h : (key == kOs) = false) : vagent s key = ([], false) := by unfold vagent; rw [h0, h1, h]; rfl
end Go.Proofs.YtgpeehilemidlaaDoor
