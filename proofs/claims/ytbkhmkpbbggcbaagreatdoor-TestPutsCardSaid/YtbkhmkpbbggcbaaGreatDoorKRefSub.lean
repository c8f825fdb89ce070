/- The reference's small steps in texts: is, word, until. -/
import Derived.Test.YtbkhmkpbbggcbaaGreatDoorKSubFind
import Derived.Test.YtbkhmkpbbggcbaaGreatDoorKRefNames
namespace Go.Proofs.YtbkhmkpbbggcbaaGreatDoor
open Go.RowKit
set_option linter.unusedVariables false
attribute [local go_sem ↓] Go.wp_at_zero Go.wp_at_succ
theorem drop_head {l : Bs} {k : Nat} {c : UInt8} (h : l[k]? = some c) : l.drop k = c :: l.drop (k + 1) := by
  obtain ⟨h1, h2⟩ := List.getElem?_eq_some_iff.1 h
  rw [List.drop_eq_getElem_cons h1, h2]
theorem is_in {l : Bs} {k : Nat} {c x : UInt8} (h : l[k]? = some x) : Lib.hasPrefix (l.drop k) [c] = (c == x) := by
  rw [drop_head h]; unfold Lib.hasPrefix; simp [List.isPrefixOf]
theorem is_out {l : Bs} {k : Nat} {c : UInt8} (h : l.length ≤ k) : Lib.hasPrefix (l.drop k) [c] = false := by
  rw [List.drop_eq_nil_of_le h]; rfl
theorem ref26_is (s : ByteArray) (j : Int) (n : Nat) (c : UInt8) (w : World) (hj : j = (n : Int)) (hs : s.size ≤ 100000000) :
    Calls Tryz.prog 63 #[.string s, .int .i64 j, .int .u8 (c.toNat : Int)] w fun e w' => e = .returned (.bool (Lib.hasPrefix (s.data.toList.drop n) [c])) ∧ w = w' := by
  subst hj
  by_cases hlt : n < s.size
  · have hget := bs_get s n hlt
    have h1 := is_in (c := c) hget
    have e : (c == s[n]) = decide ((s[n].toNat : Int) = (c.toNat : Int)) := by
      rw [Bool.eq_iff_iff, beq_iff_eq, decide_eq_true_iff]
      constructor
      · rintro rfl; rfl
      · intro h; exact (UInt8.toNat_inj.1 (by omega)).symm
    have H1 := Lib.hid (h1.trans e)
    clear h1 e hget
    have i1 : (n : Int) < (s.size : Int) := by omega
    go_enter Tryz.func63, Tryz.ntmps63
    go_wp2
    go_ret
    rw [H1.out]
    exact ⟨by first | rfl | (congr 1) | simp, rfl⟩
  · have H1 := Lib.hid (is_out (c := c) (l := s.data.toList) (k := n) (by rw [bs_size]; omega))
    have i1 : (s.size : Int) ≤ (n : Int) := by omega
    go_enter Tryz.func63, Tryz.ntmps63
    go_wp2
    go_ret
    rw [H1.out]
    exact ⟨rfl, rfl⟩
theorem ref26_word (c : UInt8) (w : World) : Calls Tryz.prog 64 #[.int .u8 (c.toNat : Int)] w fun e w' => e = .returned (.bool (keyc c)) ∧ w = w' := by
  have hc := c.toNat_lt
  have HK := Lib.hid (show keyc c = decide ((65 ≤ c.toNat ∧ c.toNat ≤ 90 ∨ 97 ≤ c.toNat ∧ c.toNat ≤ 122 ∨ 48 ≤ c.toNat ∧ c.toNat ≤ 57) ∨ c.toNat = 95 ∨ c.toNat = 45 ∨ c.toNat = 46) from rfl)
  go_enter Tryz.func64, Tryz.ntmps64
  go_wp2
  all_goals
    go_ret
    exact ⟨ret_bool (by rw [HK.out, Bool.eq_iff_iff]; simp; omega), rfl⟩
set_option maxRecDepth 100000 in
theorem ref26_until (s : ByteArray) (j : Int) (n : Nat) (c : UInt8) (w : World) (hj : j = (n : Int)) (hn : n ≤ s.size) (hs : s.size ≤ 100000000) :
    Calls Tryz.prog 66 #[.string s, .int .i64 j, .int .u8 (c.toNat : Int)] w fun e w' => e = .returned (.int .i64 ((n + lead (· != c) (s.data.toList.drop n) : Nat) : Int)) ∧ w = w' := by
  subst hj
  go_enter Tryz.func66, Tryz.ntmps66
  go_wp2
  go_loop [1] (fun i => ∃ k : Nat, n ≤ k ∧ k ≤ s.size ∧ k - n ≤ lead (· != c) (s.data.toList.drop n) ∧ i = .int .i64 k) (fun i => s.size - (intOf i).toNat)
  case atStart => exact ⟨n, Nat.le_refl _, hn, by omega, rfl⟩
  case round =>
    obtain ⟨k, hnk, hk, hkl, rfl⟩ := hrel
    by_cases hlt : k < s.size
    · have i1 : (k : Int) < (s.size : Int) := by omega
      have hget := bs_get s k hlt
      have hdg : (s.data.toList.drop n)[k - n]? = some s[k] := by rw [List.getElem?_drop, show n + (k - n) = k by omega]; exact hget
      by_cases hcc : s[k] = c
      · have he : lead (· != c) (s.data.toList.drop n) = k - n := by
          refine (lead_stop _ _ (k - n) hkl ?_).symm
          intro x hx
          rw [hdg] at hx
          obtain rfl := Option.some.inj hx
          simp [hcc]
        have HE := Lib.hid (show (n : Int) + (lead (· != c) (s.data.toList.drop n) : Nat) = (k : Int) by omega)
        have hci : (s[k].toNat : Int) = (c.toNat : Int) := by rw [hcc]
        clear he hget hdg hkl hcc
        go_wp2
        go_ret
        rw [HE.out]
        exact ⟨rfl, rfl⟩
      · have hst := lead_step (· != c) _ (k - n) s[k] hkl hdg (by simpa using hcc)
        have HS := Lib.hid (show k + 1 - n ≤ lead (· != c) (s.data.toList.drop n) by omega)
        have hci : ¬ (s[k].toNat : Int) = (c.toNat : Int) := fun e => hcc (UInt8.toNat_inj.1 (by omega))
        clear hget hdg hkl hcc hst
        go_wp2
        go_round
        case rel => exact ⟨k + 1, by omega, by omega, HS.out, by go_num⟩
        case measure => (simp [intOf] <;> omega)
    · have hl := lead_le (· != c) (s.data.toList.drop n)
      rw [List.length_drop, bs_size] at hl
      have HE := Lib.hid (show (n : Int) + (lead (· != c) (s.data.toList.drop n) : Nat) = (k : Int) by omega)
      have i1 : (s.size : Int) ≤ (k : Int) := by omega
      clear hl hkl
      go_wp2
      go_ret
      rw [HE.out]
      exact ⟨rfl, rfl⟩
def put7w (W : World) (b : Nat) (v0 v1 v2 v3 v4 v5 v6 : Value) : World := ((((((W.setCell ⟨b, 0, none⟩ v0).setCell ⟨b, 1, none⟩ v1).setCell ⟨b, 2, none⟩ v2).setCell ⟨b, 3, none⟩ v3).setCell ⟨b, 4, none⟩ v4).setCell ⟨b, 5, none⟩ v5).setCell ⟨b, 6, none⟩ v6
end Go.Proofs.YtbkhmkpbbggcbaaGreatDoor
