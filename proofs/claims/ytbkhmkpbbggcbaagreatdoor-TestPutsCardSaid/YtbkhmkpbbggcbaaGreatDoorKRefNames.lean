/- Walks of the reference's Names, Known, Key, Source. -/
import Derived.Test.YtbkhmkpbbggcbaaGreatDoorKRefLetter
import Derived.Test.YtbkhmkpbbggcbaaGreatDoorKKnown
namespace Go.Proofs.YtbkhmkpbbggcbaaGreatDoor
open Go.RowKit
set_option linter.unusedVariables false
theorem own_lit (w : World) (us : Array Value) (ls : List Bs) (h : us = (scells ls).toArray) (hn : ls.length ≤ 1000) (n : Nat) (hl : n = ls.length) :
    (w.alloc (.cells us 9)).ownsRow w.heap.size 9 1 (.slice (some ⟨w.heap.size, 0, none⟩) n n) ls.length (scells ls) := by
  subst hl h
  refine ⟨by rw [scells_len]; omega, .inr ⟨w.heap.size, _, _, rfl, Nat.le_refl _, heap_alloc_new w _, Nat.le_refl _, by unfold maxLen; omega, by simp [scells_len], ?_⟩⟩
  simp only [Nat.mul_one]
  rw [List.take_of_length_le (by simp [scells_len])]
theorem ref25_Names (w : World) : Calls Tryz.prog 80 #[] w (RetStrs w names) := by
  go_enter Tryz.func80, Tryz.ntmps80
  go_wp2
  go_ret
  exact ⟨_, rfl, own_lit w _ names rfl (by decide) _ rfl, (Below.refl _ _).alloc (Nat.le_refl _) _⟩
set_option maxRecDepth 100000 in
set_option maxHeartbeats 400000 in
theorem ref25_Known (name : ByteArray) (w : World) : Calls Tryz.prog 65 #[.string name] w (Ret w (.bool (vknown name.data.toList))) := by
  have HG := Lib.hid (show vknown name.data.toList = names.any (· == name.data.toList) from rfl)
  have hl6 : names.length = 6 := rfl
  go_enter Tryz.func65, Tryz.ntmps65
  go_wp2_with fail
  refine (ref25_Names _).mono ?_
  rintro e w1 ⟨u, rfl, hown, hb1⟩
  have hS := StrsAt.of_own hown
  clear hown
  rcases hS with ⟨a, c, rfl, h0⟩ | ⟨b, o, c, rfl, hc, hlt, hcell⟩
  · cases h0
  · have HC : SCells w1 b o names := hcell
    clear hcell
    generalize names = ls at *
    go_wp2
    go_loop [4] (fun i => ∃ k : Nat, k ≤ ls.length ∧ i = .int .i64 k ∧ Hid ((ls.take k).any (· == name.data.toList) = false)) (fun i => ls.length - (intOf i).toNat)
    case atStart => exact ⟨0, Nat.zero_le _, rfl, Lib.hid rfl⟩
    case round =>
      obtain ⟨k, hk, rfl, hno⟩ := hrel
      by_cases hkl : k < ls.length
      · obtain ⟨l, hl⟩ : ∃ l, ls[k]? = some l := ⟨ls[k], List.getElem?_eq_getElem hkl⟩
        have hcell := HC k l hl
        have Hl := Lib.hid hl
        clear hl
        rcases hq : (l == name.toList) with _ | _
        · have hq2 : (l == name.data.toList) = false := by rw [← Lib.toList_data]; exact hq
          have Hq := Lib.hid hq2
          clear hq2
          go_wp2
          go_round
          case rel => exact ⟨k + 1, by omega, by go_num, Lib.hid (any_step hno.out Hl.out Hq.out)⟩
          case measure => (simp [intOf] <;> omega)
        · have hq2 : (l == name.data.toList) = true := by rw [← Lib.toList_data]; exact hq
          have Hq := Lib.hid hq2
          clear hq2
          go_wp2
          go_ret
          exact ⟨ret_bool (by rw [HG.out]; exact (any_hit Hl.out Hq.out).symm), hb1⟩
      · go_wp2
        go_ret
        exact ⟨ret_bool (by rw [HG.out]; exact (any_end hno.out (by omega)).symm), hb1⟩
set_option maxRecDepth 100000 in
set_option maxHeartbeats 800000 in
theorem ref25_Key (s : ByteArray) (w : World) (hs : s.size ≤ 140737488351232) : Calls Tryz.prog 67 #[.string s] w fun e w' => e = .returned (.bool (vkey s.data.toList)) ∧ w = w' := by
  go_enter Tryz.func67, Tryz.ntmps67
  go_wp2
  go_loop [3] (fun i => ∃ k : Nat, k ≤ s.size ∧ k ≤ lead keyc s.data.toList ∧ i = .int .i64 k) (fun i => s.size - (intOf i).toNat)
  case atStart => exact ⟨0, Nat.zero_le _, Nat.zero_le _, rfl⟩
  case round =>
    obtain ⟨k, hk, hld, rfl⟩ := hrel
    by_cases hkl : k < s.size
    · have hbg := bs_get s k hkl
      have Hst := Lib.hid (fun (h : keyc s[k] = true) => lead_step keyc s.data.toList k s[k] hld hbg h)
      have Hno := Lib.hid (fun (h : keyc s[k] = false) => vkey_no s.data.toList k s[k] hbg h)
      clear hbg
      rcases ha : alnum s[k] with _ | _
      · have Ha := Lib.hid (keyc_other s[k] ha)
        go_wp2_with (go_at_call 81; refine (ref01_Letter s[k] _).mono ?_; rintro e w3 ⟨rfl, rfl⟩)
        all_goals first
          | (have h95 : (↑s[k].toNat : Int) = 95 := by assumption
             have hs1 := Hst.out (by rw [Ha.out, decide_eq_true_eq]; exact .inl h95)
             go_round
             case rel => exact ⟨k + 1, by omega, by omega, by go_num⟩
             case measure => (simp [intOf] <;> omega))
          | (have h45 : (↑s[k].toNat : Int) = 45 := by assumption
             have hs1 := Hst.out (by rw [Ha.out, decide_eq_true_eq]; exact .inr (.inl h45))
             go_round
             case rel => exact ⟨k + 1, by omega, by omega, by go_num⟩
             case measure => (simp [intOf] <;> omega))
          | (have h3 : (((↑s[k].toNat : Int) != 95) = true ∧ ((↑s[k].toNat : Int) != 45) = true) ∧ ((↑s[k].toNat : Int) != 46) = true := by assumption
             simp only [bne_iff_ne] at h3
             go_ret
             exact ⟨ret_bool (Hno.out (by rw [Ha.out, decide_eq_false_iff_not]; omega)).symm, rfl⟩)
          | (have h3 : (((↑s[k].toNat : Int) != 95) = false ∨ ((↑s[k].toNat : Int) != 45) = false) ∨ ((↑s[k].toNat : Int) != 46) = false := by assumption
             simp only [bne_eq_false_iff_eq] at h3
             have hs1 := Hst.out (by rw [Ha.out, decide_eq_true_eq]; omega)
             go_round
             case rel => exact ⟨k + 1, by omega, by omega, by go_num⟩
             case measure => (simp [intOf] <;> omega))
      · have Ha := Lib.hid (keyc_alnum s[k] ha)
        go_wp2_with (go_at_call 81; refine (ref01_Letter s[k] _).mono ?_; rintro e w3 ⟨rfl, rfl⟩)
        have hs1 := Hst.out Ha.out
        go_round
        case rel => exact ⟨k + 1, by omega, by omega, by go_num⟩
        case measure => (simp [intOf] <;> omega)
    · have HE := Lib.hid (vkey_end s.data.toList (by rw [bs_size]; omega))
      go_wp2
      all_goals
        go_ret
        exact ⟨ret_bool (by rw [HE.out, bs_size, Bool.eq_iff_iff]; simp only [decide_eq_true_eq, Bool.false_eq_true, false_iff]; omega), rfl⟩
end Go.Proofs.YtbkhmkpbbggcbaaGreatDoor
