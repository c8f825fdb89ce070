/- The walks of the reference's small functions for Put: used, free, number, bracketed. -/
import Derived.Test.YtbkhmkpbbggcbaaGreatDoorKTestT2
namespace Go.Proofs.YtbkhmkpbbggcbaaGreatDoor
open Go.RowKit
set_option linter.unusedVariables false
set_option maxRecDepth 100000 in
theorem ref27_used (u : UseI) (w : World) (h1 : u.name.length ≤ 100000) (h2 : u.key.length ≤ 100000) (h3 : u.dft.length ≤ 100000) : Calls Tryz.prog 34 #[useIV u] w (Ret w (.string ⟨(usedB u).toArray⟩)) := by
  obtain ⟨src, till, name, key, dft, hk, hd⟩ := u
  have HB := Lib.hid ((Below.refl w.heap.size w).alloc (Nat.le_refl _) (.cells #[.int .i64 src, .int .i64 till, .string ⟨name.toArray⟩, .string ⟨key.toArray⟩, .string ⟨dft.toArray⟩, .bool hk, .bool hd] 34))
  have h1 : name.length ≤ 100000 := h1
  have h2 : key.length ≤ 100000 := h2
  have h3 : dft.length ≤ 100000 := h3
  cases hk <;> cases hd
  all_goals
    go_enter Tryz.func34, Tryz.ntmps34
    go_wp2_with fail
    go_ret
    exact ⟨ret_str (by simp [usedB]), HB.out⟩
theorem hasB_take (s : Bs) (k : Nat) (h : hasB 39 (s.take k) = false) (hk : k < s.length) : hasB 39 (s.take (k + 1)) = (s[k] == 39) := by
  unfold hasB at h ⊢
  rw [List.take_add_one, List.getElem?_eq_getElem hk]
  simp only [Option.toList_some, List.contains_eq_any_beq, List.any_append] at h ⊢
  rw [h]; simp only [List.any_cons, List.any_nil, Bool.or_false, Bool.false_or]
  exact Bool.beq_comm
theorem hasB_more (s : Bs) (k : Nat) (h : hasB 39 (s.take k) = true) : hasB 39 s = true := by
  unfold hasB at h ⊢
  rw [List.contains_iff_mem] at h ⊢
  exact List.mem_of_mem_take h
set_option maxRecDepth 100000 in
theorem ref27_free (s : Bs) (hs : s.length ≤ 100000) (w : World) : Calls Tryz.prog 32 #[.string ⟨s.toArray⟩] w fun e w' => e = .returned (.bool (!hasB 39 s)) ∧ w = w' := by
  go_enter Tryz.func32, Tryz.ntmps32
  go_wp2_with fail
  go_loop [3] (fun i => ∃ k : Nat, k ≤ s.length ∧ i = .int .i64 k ∧ Hid (hasB 39 (s.take k) = false)) (fun i => s.length - (intOf i).toNat)
  case atStart => exact ⟨0, Nat.zero_le _, rfl, Lib.hid rfl⟩
  case round =>
    obtain ⟨k, hk, rfl, HN⟩ := hrel
    by_cases hlt : k < s.length
    · have i1 : (k : Int) < (s.length : Int) := by omega
      have i0 : (0 : Int) ≤ (k : Int) := by omega
      obtain ⟨c, hc⟩ : ∃ c, s[k] = c := ⟨_, rfl⟩
      have HT := Lib.hid (hc ▸ hasB_take s k HN.out hlt)
      have HM := Lib.hid (hasB_more s (k + 1))
      have hb : k < (⟨s.toArray⟩ : ByteArray).size := by simpa [ByteArray.size] using hlt
      rcases Decidable.em (c = 39) with h39 | h39
      · have HE := Lib.hid (show hasB 39 s = true from HM.out (by rw [HT.out, h39]; rfl))
        have q : ((((⟨s.toArray⟩ : ByteArray)[k]'hb).toNat : Int) == 39) = true := by show ((s[k].toNat : Int) == 39) = true; rw [hc, h39]; rfl
        clear hc h39 HT HM
        go_wp2
        go_ret
        exact ⟨ret_bool (by rw [HE.out]; rfl), rfl⟩
      · have HE := Lib.hid (show hasB 39 (s.take (k + 1)) = false by rw [HT.out]; exact beq_eq_false_iff_ne.2 h39)
        have q : ((((⟨s.toArray⟩ : ByteArray)[k]'hb).toNat : Int) == 39) = false := by
          show ((s[k].toNat : Int) == 39) = false
          rw [hc, beq_eq_false_iff_ne]; intro e
          exact h39 (UInt8.toNat_inj.1 (show c.toNat = (39 : UInt8).toNat by show c.toNat = 39; omega))
        clear hc h39 HT HM
        go_wp2
        go_round
        case rel => exact ⟨k + 1, by omega, by go_num, HE⟩
        case measure => (simp [intOf] <;> omega)
    · obtain rfl : k = s.length := by omega
      have HE := Lib.hid (show hasB 39 s = false by have := HN.out; rw [List.take_length] at this; exact this)
      have i1 : ¬ (s.length : Int) < (s.length : Int) := by omega
      go_wp2
      go_ret
      exact ⟨ret_bool (by rw [HE.out]; rfl), rfl⟩
def brB (k i m : Int) : Bool := if k = 1 then decide (i = 1) && decide (m = 1) else if k = 2 then decide (m = 1) || (decide (i = 1) && decide (m = 2)) else if k = 3 then decide (m = 1) || decide (m = 2) else decide (m < 10)
set_option maxRecDepth 100000 in
set_option maxHeartbeats 4000000 in
theorem ref27_bracketed (k i m : Int) (w : World) : Calls Tryz.prog 36 #[.int .i64 k, .int .i64 i, .int .i64 m] w fun e w' => e = .returned (.bool (brB k i m)) ∧ w = w' := by
  obtain ⟨V, hV⟩ : ∃ V, brB k i m = V := ⟨_, rfl⟩
  have HV := Lib.hid hV
  rw [hV]
  clear hV
  unfold brB at HV
  rcases Decidable.em (k = 1) with rfl | h1
  · rcases Decidable.em (i = 1) with rfl | hi
    · rcases Decidable.em (m = 1) with rfl | hm
      · go_enter Tryz.func36, Tryz.ntmps36
        go_wp2_with fail
        go_ret
        exact ⟨ret_bool HV.out, rfl⟩
      · have q : (m == 1) = false := beq_eq_false_iff_ne.2 hm
        have HE := Lib.hid (show V = false by rw [← HV.out]; simp [hm])
        clear hm HV
        go_enter Tryz.func36, Tryz.ntmps36
        go_wp2_with fail
        go_ret
        exact ⟨ret_bool HE.out.symm, rfl⟩
    · have q : (i == 1) = false := beq_eq_false_iff_ne.2 hi
      have HE := Lib.hid (show V = false by rw [← HV.out]; simp [hi])
      clear hi HV
      go_enter Tryz.func36, Tryz.ntmps36
      go_wp2_with fail
      go_ret
      exact ⟨ret_bool HE.out.symm, rfl⟩
  · have q1 : (k == 1) = false := beq_eq_false_iff_ne.2 h1
    rcases Decidable.em (k = 2) with rfl | h2
    · rcases Decidable.em (m = 1) with rfl | hm
      · have HE := Lib.hid (show V = true by rw [← HV.out]; simp)
        clear h1 q1 HV
        go_enter Tryz.func36, Tryz.ntmps36
        go_wp2_with fail
        go_ret
        exact ⟨ret_bool HE.out.symm, rfl⟩
      · have q : (m == 1) = false := beq_eq_false_iff_ne.2 hm
        rcases Decidable.em (i = 1) with rfl | hi
        · have HE := Lib.hid (show V = (m == 2) by rw [← HV.out, Bool.eq_iff_iff]; simp [hm])
          clear hm h1 q1 HV
          go_enter Tryz.func36, Tryz.ntmps36
          go_wp2_with fail
          go_ret
          exact ⟨ret_bool HE.out.symm, rfl⟩
        · have qi : (i == 1) = false := beq_eq_false_iff_ne.2 hi
          have HE := Lib.hid (show V = false by rw [← HV.out]; simp [hm, hi])
          clear hm hi h1 q1 HV
          go_enter Tryz.func36, Tryz.ntmps36
          go_wp2_with fail
          go_ret
          exact ⟨ret_bool HE.out.symm, rfl⟩
    · have q2 : (k == 2) = false := beq_eq_false_iff_ne.2 h2
      rcases Decidable.em (k = 3) with rfl | h3
      · rcases Decidable.em (m = 1) with rfl | hm
        · have HE := Lib.hid (show V = true by rw [← HV.out]; simp)
          clear h1 q1 h2 q2 HV
          go_enter Tryz.func36, Tryz.ntmps36
          go_wp2_with fail
          go_ret
          exact ⟨ret_bool HE.out.symm, rfl⟩
        · have q : (m == 1) = false := beq_eq_false_iff_ne.2 hm
          have HE := Lib.hid (show V = (m == 2) by rw [← HV.out, Bool.eq_iff_iff]; simp [hm])
          clear hm h1 q1 h2 q2 HV
          go_enter Tryz.func36, Tryz.ntmps36
          go_wp2_with fail
          go_ret
          exact ⟨ret_bool HE.out.symm, rfl⟩
      · have q3 : (k == 3) = false := beq_eq_false_iff_ne.2 h3
        have HE := Lib.hid (show V = decide (m < 10) by rw [← HV.out, if_neg h1, if_neg h2, if_neg h3])
        clear h1 h2 h3 HV
        go_enter Tryz.func36, Tryz.ntmps36
        go_wp2_with fail
        go_ret
        exact ⟨ret_bool HE.out.symm, rfl⟩
theorem digAt_lt {s : Bs} {k : Nat} (h : digAt s k = true) : k < s.length := by
  unfold digAt at h
  by_cases hk : k < s.length
  · exact hk
  · rw [List.getElem?_eq_none_iff.2 (by omega)] at h; cases h
theorem num_step {s : Bs} {k : Nat} (h : (s.take k).all dig = true) (hd : digAt s k = true) : (s.take (k + 1)).all dig = true := by
  have hk := digAt_lt hd
  unfold digAt at hd
  rw [List.getElem?_eq_getElem hk] at hd
  have hd : dig s[k] = true := hd
  rw [List.take_add_one, List.getElem?_eq_getElem hk, Option.toList_some, List.all_append, h, List.all_cons, hd]; rfl
theorem num_end {s : Bs} {k : Nat} (hk : k ≤ s.length) (h : (s.take k).all dig = true) (hd : digAt s k = false) : numOk s = (decide (k = s.length) && decide (1 ≤ k) && decide (k ≤ 18)) := by
  unfold numOk
  by_cases he : k = s.length
  · subst he
    rw [List.take_length] at h
    rw [h, Bool.and_true, decide_eq_true rfl, Bool.true_and]
    cases s with
    | nil => rfl
    | cons c r => simp
  · have hlt : k < s.length := by omega
    unfold digAt at hd
    rw [List.getElem?_eq_getElem hlt] at hd
    have hd : dig s[k] = false := hd
    have : s.all dig = false := by
      rw [Bool.eq_false_iff]; intro h2
      have := List.all_eq_true.1 h2 _ (List.getElem_mem hlt)
      rw [hd] at this; cases this
    rw [this, Bool.and_false, decide_eq_false he]; rfl
set_option maxRecDepth 100000 in
set_option maxHeartbeats 4000000 in
theorem ref27_number (s : Bs) (hs : s.length ≤ 100000) (w : World) : Calls Tryz.prog 33 #[.string ⟨s.toArray⟩] w fun e w' => e = .returned (.bool (numOk s)) ∧ w = w' := by
  obtain ⟨V, hV⟩ : ∃ V, numOk s = V := ⟨_, rfl⟩
  have HV := Lib.hid hV
  rw [hV]
  clear hV
  go_enter Tryz.func33, Tryz.ntmps33
  go_wp2_with fail
  go_loop [3] (fun i => ∃ k : Nat, k ≤ s.length ∧ i = .int .i64 k ∧ Hid ((s.take k).all dig = true)) (fun i => s.length - (intOf i).toNat)
  case atStart => exact ⟨0, Nat.zero_le _, rfl, Lib.hid rfl⟩
  case round =>
    obtain ⟨k, hk, rfl, HN⟩ := hrel
    have HK := Lib.hid (ref27_digit s (k : Int) k w rfl hs)
    have i0 : (0 : Int) ≤ (k : Int) := by omega
    have i1 : (k : Int) ≤ (s.length : Int) := by omega
    obtain ⟨q, hq⟩ : ∃ q, digAt s k = q := ⟨_, rfl⟩
    rw [hq] at HK
    rcases q with _ | _
    · have HE := Lib.hid (HV.out.symm.trans (num_end hk HN.out hq))
      clear hq
      rcases Decidable.em (k = s.length) with he | he
      · have c1 : ((k : Int) == (s.length : Int)) = true := by rw [beq_iff_eq]; omega
        rcases Decidable.em (1 ≤ k) with h1 | h1
        · have HV2 := Lib.hid (show V = decide (k ≤ 18) by rw [HE.out, decide_eq_true he, decide_eq_true h1]; rfl)
          have j1 : (1 : Int) ≤ (k : Int) := by omega
          clear he h1
          go_wp2_with fail
          refine HK.out.mono ?_
          rintro e w2 ⟨rfl, rfl⟩
          go_wp2_with fail
          go_ret
          exact ⟨ret_bool (by rw [HV2.out, Bool.eq_iff_iff]; simp; try omega), rfl⟩
        · have HV2 := Lib.hid (show V = false by rw [HE.out, decide_eq_false h1]; simp)
          have j1 : ¬ (1 : Int) ≤ (k : Int) := by omega
          clear he h1
          go_wp2_with fail
          refine HK.out.mono ?_
          rintro e w2 ⟨rfl, rfl⟩
          go_wp2_with fail
          go_ret
          exact ⟨ret_bool HV2.out.symm, rfl⟩
      · have c1 : ((k : Int) == (s.length : Int)) = false := by rw [beq_eq_false_iff_ne]; omega
        have HV2 := Lib.hid (show V = false by rw [HE.out, decide_eq_false he]; rfl)
        clear he
        go_wp2_with fail
        refine HK.out.mono ?_
        rintro e w2 ⟨rfl, rfl⟩
        go_wp2_with fail
        go_ret
        exact ⟨ret_bool HV2.out.symm, rfl⟩
    · have HE := Lib.hid (num_step HN.out hq)
      have hlt := digAt_lt hq
      clear hq
      go_wp2_with fail
      refine HK.out.mono ?_
      rintro e w2 ⟨rfl, rfl⟩
      go_wp2_with fail
      go_round
      case rel => exact ⟨k + 1, by omega, by go_num, HE⟩
      case measure => (simp [intOf] <;> omega)
end Go.Proofs.YtbkhmkpbbggcbaaGreatDoor
