/- The reference's layer 9: the kinds of bytes, escapes, made, path, query, host. -/
import Derived.Test.YtmkpejioinkceaaGreatDoorUriAtoi
import Derived.Test.YtmkpejioinkceaaGreatDoorRefLetter
namespace Go.Proofs.YtmkpejioinkceaaGreatDoor
open Go.RowKit
set_option linter.unusedVariables false

/-- A digit's value; below nought: it is none. -/
def hexI (c : UInt8) : Int := if hexc c then (hexv c : Int) else -1
theorem hexI_dec (c : UInt8) : decide ((0 : Int) ≤ hexI c) = hexc c := by
  unfold hexI
  cases h : hexc c
  · rw [if_neg (by simp)]; rfl
  · rw [if_pos rfl]; exact decide_eq_true (by omega)

set_option maxHeartbeats 400000 in
theorem ref09_Hex (c : UInt8) (w : World) : Calls Tryz.prog 94 #[.int .u8 (c.toNat : Int)] w fun e w' => e = .returned (.int .i64 (hexI c)) ∧ w = w' := by
  have hc := c.toNat_lt
  have HK := Lib.hid (show hexI c = if 48 ≤ c.toNat ∧ c.toNat ≤ 57 then (c.toNat : Int) - 48 else if 97 ≤ c.toNat ∧ c.toNat ≤ 102 then (c.toNat : Int) - 87 else if 65 ≤ c.toNat ∧ c.toNat ≤ 70 then (c.toNat : Int) - 55 else -1 by
    unfold hexI hexc hexv
    by_cases h1 : 48 ≤ c.toNat ∧ c.toNat ≤ 57
    · rw [if_pos h1, if_pos (decide_eq_true (by omega)), if_pos (by omega)]; omega
    · by_cases h2 : 97 ≤ c.toNat ∧ c.toNat ≤ 102
      · rw [if_neg h1, if_pos h2, if_pos (decide_eq_true (by omega)), if_neg (by omega), if_pos (by omega)]; omega
      · by_cases h3 : 65 ≤ c.toNat ∧ c.toNat ≤ 70
        · rw [if_neg h1, if_neg h2, if_pos h3, if_pos (decide_eq_true (by omega)), if_neg (by omega), if_neg (by omega)]; omega
        · rw [if_neg h1, if_neg h2, if_neg h3, if_neg (by simp; omega)])
  by_cases h1 : 48 ≤ c.toNat ∧ c.toNat ≤ 57
  · have i1 : (48 : Int) ≤ (c.toNat : Int) := by omega
    have i2 : (c.toNat : Int) ≤ 57 := by omega
    have e1 : hexI c = (c.toNat : Int) - 48 := by rw [HK.out, if_pos h1]
    have E1 := Lib.hid e1
    clear e1 h1
    go_enter Tryz.func94, Tryz.ntmps94
    go_wp2
    go_ret
    exact ⟨ret_int E1.out.symm, rfl⟩
  · by_cases h2 : 97 ≤ c.toNat ∧ c.toNat ≤ 102
    · have i1 : (97 : Int) ≤ (c.toNat : Int) := by omega
      have i2 : (c.toNat : Int) ≤ 102 := by omega
      have i3 : (57 : Int) < (c.toNat : Int) := by omega
      have e1 : hexI c = (c.toNat : Int) - 87 := by rw [HK.out, if_neg h1, if_pos h2]
      have E1 := Lib.hid e1
      clear e1 h1 h2
      go_enter Tryz.func94, Tryz.ntmps94
      go_wp2
      go_ret
      exact ⟨ret_int (by rw [E1.out]; omega), rfl⟩
    · by_cases h3 : 65 ≤ c.toNat ∧ c.toNat ≤ 70
      · have i1 : (65 : Int) ≤ (c.toNat : Int) := by omega
        have i2 : (c.toNat : Int) ≤ 70 := by omega
        have i3 : (57 : Int) < (c.toNat : Int) := by omega
        have i4 : (c.toNat : Int) < 97 := by omega
        have e1 : hexI c = (c.toNat : Int) - 55 := by rw [HK.out, if_neg h1, if_neg h2, if_pos h3]
        have E1 := Lib.hid e1
        clear e1 h1 h2 h3
        go_enter Tryz.func94, Tryz.ntmps94
        go_wp2
        go_ret
        exact ⟨ret_int (by rw [E1.out]; omega), rfl⟩
      · have e1 : hexI c = -1 := by rw [HK.out, if_neg h1, if_neg h2, if_neg h3]
        have E1 := Lib.hid e1
        have H := Lib.hid (And.intro h1 (And.intro h2 h3))
        clear e1 h1 h2 h3
        go_enter Tryz.func94, Tryz.ntmps94
        go_wp2
        all_goals
          first
          | (go_ret
             exact ⟨ret_int E1.out.symm, rfl⟩)
          | (exfalso
             have h := H.out
             have hh : ((48 : Int) ≤ (c.toNat : Int) ∧ (c.toNat : Int) ≤ 57) ∨ ((97 : Int) ≤ (c.toNat : Int) ∧ (c.toNat : Int) ≤ 102) ∨ ((65 : Int) ≤ (c.toNat : Int) ∧ (c.toNat : Int) ≤ 70) := by
               first
               | exact .inl ⟨by assumption, by assumption⟩
               | exact .inr (.inl ⟨by assumption, by assumption⟩)
               | exact .inr (.inr ⟨by assumption, by assumption⟩)
               | (simp_all; omega)
             omega)

set_option maxRecDepth 100000 in
theorem ref01_In (c : UInt8) (s : ByteArray) (w : World) (hs : s.size ≤ 100000000) : Calls Tryz.prog 119 #[.int .u8 (c.toNat : Int), .string s] w fun e w' => e = .returned (.bool (hasB c s.data.toList)) ∧ w = w' := by
  go_enter Tryz.func119, Tryz.ntmps119
  go_wp2
  go_loop [5] (fun i => ∃ k : Nat, k ≤ s.size ∧ i = .int .i64 k ∧ Hid (k ≤ lead (· != c) s.data.toList)) (fun i => s.size - (intOf i).toNat)
  case atStart => exact ⟨0, Nat.zero_le _, rfl, Lib.hid (Nat.zero_le _)⟩
  case round =>
    obtain ⟨k, hk, rfl, HK⟩ := hrel
    by_cases hlt : k < s.size
    · have i1 : (k : Int) < (s.size : Int) := by omega
      have hget := bs_get s k hlt
      by_cases hcc : s[k] = c
      · have HE := Lib.hid (show hasB c s.data.toList = true from List.contains_iff_mem.2 (List.mem_of_getElem? (by rw [hget, hcc])))
        have hci : (s[k].toNat : Int) = (c.toNat : Int) := by rw [hcc]
        have hcb : ((s[k].toNat : Int) == (c.toNat : Int)) = true := by rw [beq_iff_eq]; exact hci
        have HCI := Lib.hid hci
        clear hget hcc hci
        go_wp2
        go_ret
        exact ⟨ret_bool HE.out.symm, rfl⟩
      · have HS := Lib.hid (lead_step (· != c) _ k s[k] HK.out hget (by simpa using hcc))
        have hcb : ((s[k].toNat : Int) == (c.toNat : Int)) = false := by rw [beq_eq_false_iff_ne]; exact fun e => hcc (UInt8.toNat_inj.1 (by omega))
        clear hget hcc
        go_wp2
        go_round
        case rel => exact ⟨k + 1, by omega, by go_num, HS⟩
        case measure => (simp [intOf] <;> omega)
    · have HE := Lib.hid (show hasB c s.data.toList = false by
        cases h : hasB c s.data.toList
        · rfl
        · have := lead_lt c _ h
          have := HK.out
          rw [bs_size] at *; omega)
      have i1 : (s.size : Int) ≤ (k : Int) := by omega
      go_wp2
      go_ret
      exact ⟨ret_bool HE.out.symm, rfl⟩

theorem plain_parts (c : UInt8) : plainc c = (alnum c || hasB c [45, 46, 95, 126]) := by
  have h : (fun c => plainSet.contains c) = fun c => (alnum c || ([45, 46, 95, 126] : Bs).contains c) := set_eq _ _ (by decide +kernel)
  rw [← congrFun plainSet_eq c]; exact congrFun h c
theorem ref09_Plain (c : UInt8) (w : World) : Calls Tryz.prog 95 #[.int .u8 (c.toNat : Int)] w fun e w' => e = .returned (.bool (plainc c)) ∧ w = w' := by
  have HE := Lib.hid (plain_parts c)
  go_enter Tryz.func95, Tryz.ntmps95
  go_wp2_with fail
  refine (ref01_Letter c w).mono ?_
  rintro e w' ⟨rfl, rfl⟩
  cases ha : alnum c
  · have HA := Lib.hid ha
    clear ha
    go_wp2_with fail
    refine (ref01_In c ⟨#[45, 46, 95, 126]⟩ w (by decide)).mono ?_
    rintro e w' ⟨rfl, rfl⟩
    rw [show hasB c (⟨#[45, 46, 95, 126]⟩ : ByteArray).data.toList = hasB c [45, 46, 95, 126] from rfl]
    generalize hasB c [45, 46, 95, 126] = b at *
    go_wp2_with fail
    go_ret
    exact ⟨ret_bool (by rw [HE.out, HA.out, Bool.false_or]), rfl⟩
  · have HA := Lib.hid ha
    clear ha
    go_wp2_with fail
    go_ret
    exact ⟨ret_bool (by rw [HE.out, HA.out]; rfl), rfl⟩

/-- Does an escape stand at the head of a text? -/
def escAt : Bs → Bool
  | c :: a :: b :: _ => c == 37 && hexc a && hexc b
  | _ => false
theorem drop_get3 {s : ByteArray} {n : Nat} (h : n + 2 < s.size) : s.data.toList.drop n = s[n] :: s[n + 1] :: s[n + 2] :: s.data.toList.drop (n + 3) := by
  have g (k : Nat) (hk : k < s.size) : s.data.toList.drop k = s[k] :: s.data.toList.drop (k + 1) := by
    have hl : k < s.data.toList.length := by rw [bs_size]; exact hk
    rw [List.drop_eq_getElem_cons hl]
    congr 1
  rw [g n (by omega), g (n + 1) (by omega), g (n + 2) h]
theorem escAt_short {l : Bs} (h : l.length < 3) : escAt l = false := by
  match l, h with
  | [], _ => rfl
  | [_], _ => rfl
  | [_, _], _ => rfl
  | _ :: _ :: _ :: _, h => simp at h; omega

set_option maxRecDepth 100000 in
theorem ref09_escape (s : ByteArray) (n : Nat) (w : World) (hn : n ≤ s.size) (hs : s.size ≤ 100000000) : Calls Tryz.prog 93 #[.string s, .int .i64 (n : Int)] w fun e w' => e = .returned (.bool (escAt (s.data.toList.drop n))) ∧ w = w' := by
  by_cases h2 : n + 2 < s.size
  · have HE := Lib.hid (show escAt (s.data.toList.drop n) = (s[n] == 37 && hexc s[n + 1] && hexc s[n + 2]) by rw [drop_get3 h2]; rfl)
    have i1 : (n : Int) + 2 < (s.size : Int) := by omega
    have i2 : (n : Int) < (s.size : Int) := by omega
    have i3 : (n : Int) + 1 < (s.size : Int) := by omega
    have t1 : ((n : Int) + 1).toNat = n + 1 := by omega
    have t2 : ((n : Int) + 2).toNat = n + 2 := by omega
    have T1 := hexI_dec s[n + 1]
    have T2 := hexI_dec s[n + 2]
    have d1 := Lib.hid T1
    have d2 := Lib.hid T2
    clear T1 T2
    by_cases hc : s[n] = 37
    · have hcb : ((s[n].toNat : Int) == 37) = true := by rw [hc]; rfl
      have HC := Lib.hid hc
      clear hc
      go_enter Tryz.func93, Tryz.ntmps93
      go_wp2_with fail
      refine (ref09_Hex s[n + 1] w).mono ?_
      rintro e w' ⟨rfl, rfl⟩
      by_cases hx1 : (0 : Int) ≤ hexI s[n + 1]
      · have e1 := Lib.hid (show hexc s[n + 1] = true by rw [← d1.out]; exact decide_eq_true hx1)
        go_wp2_with fail
        refine (ref09_Hex s[n + 2] w).mono ?_
        rintro e w' ⟨rfl, rfl⟩
        clear hx1
        generalize hexI s[n + 2] = x2 at *
        go_wp2_with fail
        go_ret
        exact ⟨ret_bool (by rw [HE.out, HC.out, e1.out, ← d2.out]; rfl), rfl⟩
      · have e1 := Lib.hid (show hexc s[n + 1] = false by rw [← d1.out]; exact decide_eq_false hx1)
        have hx2 : hexI s[n + 1] < 0 := by omega
        clear hx1
        go_wp2_with fail
        go_ret
        exact ⟨ret_bool (by rw [HE.out, e1.out, Bool.and_false]; rfl), rfl⟩
    · have hcb : ((s[n].toNat : Int) == 37) = false := by rw [beq_eq_false_iff_ne]; exact fun e => hc (by rw [u8eq]; show s[n].toNat = 37; omega)
      have HC := Lib.hid (show (s[n] == 37) = false by rw [beq_eq_false_iff_ne]; exact hc)
      clear hc
      go_enter Tryz.func93, Tryz.ntmps93
      go_wp2_with fail
      go_ret
      exact ⟨ret_bool (by rw [HE.out, HC.out]; rfl), rfl⟩
  · have HE := Lib.hid (show escAt (s.data.toList.drop n) = false from escAt_short (by rw [List.length_drop, bs_size]; omega))
    have i1 : (s.size : Int) ≤ (n : Int) + 2 := by omega
    go_enter Tryz.func93, Tryz.ntmps93
    go_wp2_with fail
    go_ret
    exact ⟨ret_bool HE.out.symm, rfl⟩

/-- What Made does at a place. -/
theorem made_at {p : UInt8 → Bool} {c : UInt8} {r : Bs} (h37 : p 37 = false) : (escAt (c :: r) = true → ∃ a b r', r = a :: b :: r' ∧ madeB p (c :: r) = madeB p r') ∧ (escAt (c :: r) = false → madeB p (c :: r) = (p c && madeB p r)) := by
  constructor
  · intro h
    match r, h with
    | [], h => cases h
    | [_], h => cases h
    | a :: b :: r', h =>
      change (c == 37 && hexc a && hexc b) = true at h
      rw [Bool.and_eq_true, Bool.and_eq_true, beq_iff_eq] at h
      obtain ⟨⟨rfl, ha⟩, hb⟩ := h
      exact ⟨a, b, r', rfl, by rw [madeB_esc, ha, hb]; rfl⟩
  · intro h
    by_cases hc : c = 37
    · subst hc
      rw [h37, Bool.false_and]
      match r, h with
      | [], _ => rfl
      | [_], _ => rfl
      | a :: b :: r', h =>
        change ((37 : UInt8) == 37 && hexc a && hexc b) = false at h
        rw [madeB_esc]
        rw [show ((37 : UInt8) == 37) = true from rfl, Bool.true_and] at h
        rw [h]; rfl
    · exact madeB_byte hc

set_option maxRecDepth 100000 in
set_option maxHeartbeats 1000000 in
theorem ref09_Made (s others : ByteArray) (p : UInt8 → Bool) (hp : ∀ c, p c = (plainc c || hasB c others.data.toList)) (h37 : p 37 = false) (w : World) (hs : s.size ≤ 100000000) (ho : others.size ≤ 100) :
    Calls Tryz.prog 91 #[.string s, .string others] w fun e w' => e = .returned (.bool (madeB p s.data.toList)) ∧ w = w' := by
  have HP := Lib.hid hp
  have H37 := Lib.hid h37
  clear hp h37
  go_enter Tryz.func91, Tryz.ntmps91
  go_wp2
  go_loop [5] (fun i => ∃ k : Nat, k ≤ s.size ∧ i = .int .i64 k ∧ Hid (madeB p (s.data.toList.drop k) = madeB p s.data.toList)) (fun i => s.size - (intOf i).toNat)
  case atStart => exact ⟨0, Nat.zero_le _, rfl, Lib.hid rfl⟩
  case round =>
    obtain ⟨k, hk, rfl, HK⟩ := hrel
    by_cases hlt : k < s.size
    · have i1 : (k : Int) < (s.size : Int) := by omega
      have hd : s.data.toList.drop k = s[k] :: s.data.toList.drop (k + 1) := by
        have hl : k < s.data.toList.length := by rw [bs_size]; exact hlt
        rw [List.drop_eq_getElem_cons hl]; congr 1
      go_wp2_with fail
      refine (ref09_escape s k w hk hs).mono ?_
      rintro e w' ⟨rfl, rfl⟩
      rcases he : escAt (s.data.toList.drop k) with _ | _
      · have hm := HK.out
        rw [hd] at he hm
        rw [(made_at H37.out).2 he] at hm
        have HM := Lib.hid hm
        have HPc := Lib.hid (HP.out s[k])
        clear he hm hd
        go_wp2_with fail
        refine (ref09_Plain s[k] w).mono ?_
        rintro e w' ⟨rfl, rfl⟩
        rcases hpl : plainc s[k] with _ | _
        · have HPL := Lib.hid hpl
          clear hpl
          go_wp2_with fail
          refine (ref01_In s[k] others w (by omega)).mono ?_
          rintro e w' ⟨rfl, rfl⟩
          rcases hin : hasB s[k] others.data.toList with _ | _
          · have HE := Lib.hid (show madeB p s.data.toList = false by rw [← HM.out, HPc.out, HPL.out, hin]; rfl)
            clear hin
            go_wp2_with fail
            go_ret
            exact ⟨ret_bool HE.out.symm, rfl⟩
          · have HE := Lib.hid (show madeB p (s.data.toList.drop (k + 1)) = madeB p s.data.toList by rw [← HM.out, HPc.out, HPL.out, hin]; rfl)
            clear hin
            go_wp2_with fail
            go_round
            case rel => exact ⟨k + 1, by omega, by go_num, HE⟩
            case measure => (simp [intOf] <;> omega)
        · have HE := Lib.hid (show madeB p (s.data.toList.drop (k + 1)) = madeB p s.data.toList by rw [← HM.out, HPc.out, hpl]; rfl)
          clear hpl
          go_wp2_with fail
          go_round
          case rel => exact ⟨k + 1, by omega, by go_num, HE⟩
          case measure => (simp [intOf] <;> omega)
      · have hm := HK.out
        rw [hd] at he hm
        obtain ⟨a, b, r', hr, hmr⟩ := (made_at (p := p) H37.out).1 he
        rw [hmr] at hm
        have hr3 : s.data.toList.drop (k + 3) = r' := by rw [show k + 3 = (k + 1) + 2 by omega, ← List.drop_drop, hr]; rfl
        have hk3 : k + 3 ≤ s.size := by
          have := congrArg List.length hr
          rw [List.length_drop, bs_size] at this; simp at this; omega
        have HE := Lib.hid (show madeB p (s.data.toList.drop (k + 3)) = madeB p s.data.toList by rw [hr3]; exact hm)
        clear he hm hd hr hmr hr3
        go_wp2_with fail
        go_round
        case rel => exact ⟨k + 3, hk3, by go_num, HE⟩
        case measure => (simp [intOf] <;> omega)
    · have HE := Lib.hid (show madeB p s.data.toList = true by
        rw [← HK.out, List.drop_eq_nil_of_le (by rw [bs_size]; omega)]; rfl)
      have i1 : (s.size : Int) ≤ (k : Int) := by omega
      go_wp2
      go_ret
      exact ⟨ret_bool HE.out.symm, rfl⟩
theorem path_kind (c : UInt8) : pathc c = (plainc c || hasB c markSet) := rfl
def markSetQ : Bs := [33, 36, 38, 39, 40, 41, 42, 43, 44, 59, 61, 58, 64, 47, 63]
theorem query_kind (c : UInt8) : queryc c = (plainc c || hasB c markSetQ) := by
  have h : (fun c => querySet.contains c) = fun c => (plainc c || markSetQ.contains c) := set_eq _ _ (by decide +kernel)
  rw [← congrFun querySet_eq c]; exact congrFun h c

set_option maxRecDepth 100000 in
theorem ref09_Query (s : ByteArray) (w : World) (hs : s.size ≤ 100000000) : Calls Tryz.prog 57 #[.string s] w fun e w' => e = .returned (.bool (madeB queryc s.data.toList)) ∧ w = w' := by
  go_enter Tryz.func57, Tryz.ntmps57
  go_wp2_with fail
  refine (ref09_Made s ⟨markSetQ.toArray⟩ queryc (fun c => query_kind c) (by decide) w hs (by decide)).mono ?_
  rintro e w' ⟨rfl, rfl⟩
  go_wp2_with fail
  go_ret
  exact ⟨rfl, rfl⟩
set_option maxRecDepth 100000 in
theorem ref09_Path (s : Bs) (w : World) (hs : s.length ≤ 100000000) : Calls Tryz.prog 56 #[.string ⟨s.toArray⟩] w fun e w' => e = .returned (.bool (pathOk s)) ∧ w = w' := by
  cases s with
  | nil =>
    go_enter Tryz.func56, Tryz.ntmps56
    go_wp2_with fail
    go_ret
    exact ⟨rfl, rfl⟩
  | cons c r =>
    have hx : ∀ h, ((⟨(c :: r).toArray⟩ : ByteArray)[0]'h) = c := fun _ => rfl
    have hl : (0 : Int) < (r.length : Int) + 1 := by omega
    by_cases hc : c = 47
    · subst hc
      have HE := Lib.hid (show pathOk (47 :: r) = madeB pathc (47 :: r) by unfold pathOk; rw [hasPrefix_cons, hasPrefix_nil, Bool.true_and])
      have hcb : (((47 : UInt8).toNat : Int) == 47) = true := rfl
      go_enter Tryz.func56, Tryz.ntmps56
      go_wp2_with fail
      refine (ref09_Made ⟨(47 :: r).toArray⟩ ⟨markSet.toArray⟩ pathc (fun c => path_kind c) (by decide) w hs (by decide)).mono ?_
      rintro e w' ⟨rfl, rfl⟩
      go_wp2_with fail
      go_ret
      exact ⟨ret_bool HE.out.symm, rfl⟩
    · have HE := Lib.hid (show pathOk (c :: r) = false by
        have h : Lib.hasPrefix (c :: r) [47] = false := by
          unfold Lib.hasPrefix
          rw [List.isPrefixOf_cons_cons, Bool.and_eq_false_iff]
          exact .inl (by rw [beq_eq_false_iff_ne]; exact fun e => hc e.symm)
        unfold pathOk; rw [h]; rfl)
      have hcb : ((c.toNat : Int) == 47) = false := by rw [beq_eq_false_iff_ne]; exact fun e => hc (by rw [u8eq]; show c.toNat = 47; omega)
      clear hc
      go_enter Tryz.func56, Tryz.ntmps56
      go_wp2_with fail
      go_ret
      exact ⟨ret_bool HE.out.symm, rfl⟩
theorem host_parts (c : UInt8) : hostc c = (alnum c || (c == 45 || c == 46)) := by
  have h : (fun c => hostSet.contains c) = fun c => (alnum c || (c == 45 || c == 46)) := set_eq _ _ (by decide +kernel)
  rw [← congrFun hostSet_eq c]; exact congrFun h c
theorem all_lead (p : UInt8 → Bool) {l : Bs} (h : l.length ≤ lead p l) : l.all p = true := (lead_all p l).1 (Nat.le_antisymm (lead_le p l) h)
set_option maxRecDepth 100000 in
theorem ref09_Host (s : ByteArray) (w : World) (hs : s.size ≤ 100000000) : Calls Tryz.prog 55 #[.string s] w fun e w' => e = .returned (.bool (hostOk s.data.toList)) ∧ w = w' := by
  go_enter Tryz.func55, Tryz.ntmps55
  go_wp2
  go_loop [3] (fun i => ∃ k : Nat, k ≤ s.size ∧ i = .int .i64 k ∧ Hid (k ≤ lead hostc s.data.toList)) (fun i => s.size - (intOf i).toNat)
  case atStart => exact ⟨0, Nat.zero_le _, rfl, Lib.hid (Nat.zero_le _)⟩
  case round =>
    obtain ⟨k, hk, rfl, HK⟩ := hrel
    by_cases hlt : k < s.size
    · have i1 : (k : Int) < (s.size : Int) := by omega
      have hget := bs_get s k hlt
      have HG := Lib.hid hget
      have HP := Lib.hid (host_parts s[k])
      clear hget
      go_wp2_with fail
      refine (ref01_Letter s[k] w).mono ?_
      rintro e w' ⟨rfl, rfl⟩
      rcases hc : hostc s[k] with _ | _
      · have hq := HP.out
        rw [hc] at hq
        have hq2 := hq.symm
        rw [Bool.or_eq_false_iff, Bool.or_eq_false_iff] at hq2
        obtain ⟨q1, q2, q3⟩ := hq2
        have HE := Lib.hid (show hostOk s.data.toList = false by
          unfold hostOk
          have : s.data.toList.all hostc = false := by
            cases h : s.data.toList.all hostc
            · rfl
            · have := List.all_eq_true.1 h s[k] (List.mem_of_getElem? HG.out)
              rw [hc] at this; cases this
          rw [this, Bool.and_false])
        rw [q1]
        have z2 : ((s[k].toNat : Int) == 45) = false := by
          rw [beq_eq_false_iff_ne] at q2 ⊢
          exact fun e => q2 (by rw [u8eq]; show s[k].toNat = 45; omega)
        have z3 : ((s[k].toNat : Int) == 46) = false := by
          rw [beq_eq_false_iff_ne] at q3 ⊢
          exact fun e => q3 (by rw [u8eq]; show s[k].toNat = 46; omega)
        have n2 : ((s[k].toNat : Int) != 45) = true := by unfold bne; rw [z2]; rfl
        have n3 : ((s[k].toNat : Int) != 46) = true := by unfold bne; rw [z3]; rfl
        have n4 : ((s[k].toNat : Int) != 45 && (s[k].toNat : Int) != 46) = true := by rw [n2, n3]; rfl
        clear q1 q2 q3 hq hc
        go_wp2_with fail
        go_ret
        exact ⟨ret_bool HE.out.symm, rfl⟩
      · have HS := Lib.hid (lead_step hostc _ k s[k] HK.out HG.out hc)
        have hq := HP.out
        rw [hc] at hq
        rcases ha : alnum s[k] with _ | _
        · rw [ha, Bool.false_or] at hq
          rcases hb : (s[k] == 45) with _ | _
          · rw [hb, Bool.false_or] at hq
            have z2 : ((s[k].toNat : Int) == 45) = false := by
              rw [beq_eq_false_iff_ne] at hb ⊢
              exact fun e => hb (by rw [u8eq]; show s[k].toNat = 45; omega)
            have z3 : ((s[k].toNat : Int) == 46) = true := by
              have := eq_of_beq hq.symm
              rw [this]; rfl
            have n2 : ((s[k].toNat : Int) != 45) = true := by unfold bne; rw [z2]; rfl
            have n3 : ((s[k].toNat : Int) != 46) = false := by unfold bne; rw [z3]; rfl
            have n4 : ((s[k].toNat : Int) != 45 && (s[k].toNat : Int) != 46) = false := by rw [n2, n3]; rfl
            have n5 : ((s[k].toNat : Int) != 45) = false ∨ ((s[k].toNat : Int) != 46) = false := .inr n3
            clear ha hb hq hc
            go_wp2_with fail
            go_round
            case rel => exact ⟨k + 1, by omega, by go_num, HS⟩
            case measure => (simp [intOf] <;> omega)
          · have z2 : ((s[k].toNat : Int) == 45) = true := by
              have := eq_of_beq hb
              rw [this]; rfl
            have n2 : ((s[k].toNat : Int) != 45) = false := by unfold bne; rw [z2]; rfl
            have n4 : ((s[k].toNat : Int) != 45 && (s[k].toNat : Int) != 46) = false := by rw [n2]; rfl
            have n5 : ((s[k].toNat : Int) != 45) = false ∨ ((s[k].toNat : Int) != 46) = false := .inl n2
            clear ha hb hq hc
            go_wp2_with fail
            go_round
            case rel => exact ⟨k + 1, by omega, by go_num, HS⟩
            case measure => (simp [intOf] <;> omega)
        · clear ha hq hc
          go_wp2_with fail
          go_round
          case rel => exact ⟨k + 1, by omega, by go_num, HS⟩
          case measure => (simp [intOf] <;> omega)
    · have hal : s.data.toList.all hostc = true := all_lead hostc (by rw [bs_size]; have := HK.out; omega)
      have i1 : (s.size : Int) ≤ (k : Int) := by omega
      by_cases h1 : 1 ≤ s.size
      · have j1 : (1 : Int) ≤ (s.size : Int) := by omega
        by_cases h2 : s.size ≤ 253
        · have j2 : (s.size : Int) ≤ 253 := by omega
          have HE := Lib.hid (show hostOk s.data.toList = true by unfold hostOk; rw [hal, bs_size, decide_eq_true ⟨h1, h2⟩]; rfl)
          clear hal
          go_wp2
          go_ret
          exact ⟨ret_bool (by rw [HE.out] <;> first | rfl | (simp <;> omega)), rfl⟩
        · have j2 : (253 : Int) < (s.size : Int) := by omega
          have HE := Lib.hid (show hostOk s.data.toList = false by unfold hostOk; rw [bs_size, decide_eq_false (fun h => h2 h.2)]; rfl)
          clear hal
          go_wp2
          go_ret
          exact ⟨ret_bool (by rw [HE.out] <;> first | rfl | (simp <;> omega)), rfl⟩
      · have j1 : (s.size : Int) < 1 := by omega
        have HE := Lib.hid (show hostOk s.data.toList = false by unfold hostOk; rw [bs_size, decide_eq_false (fun h => h1 h.1)]; rfl)
        clear hal
        go_wp2
        go_ret
        exact ⟨ret_bool (by rw [HE.out] <;> first | rfl | (simp <;> omega)), rfl⟩

set_option maxRecDepth 100000 in
set_option maxHeartbeats 1000000 in
theorem ref09_number (s : ByteArray) (w : World) (hs : s.size ≤ 100000000) : Calls Tryz.prog 120 #[.string s] w fun e w' => e = .returned (.int .i64 (portB s.data.toList)) ∧ w = w' := by
  by_cases h1 : 1 ≤ s.size ∧ s.size ≤ 5
  · have h0 : 0 < s.size := by omega
    have j1 : ((s.size : Int) == 0) = false := by rw [beq_eq_false_iff_ne]; omega
    have j2 : (s.size : Int) ≤ 5 := by omega
    have j4 : ((s.size : Int) == 0) = false ∧ (s.size : Int) ≤ 5 := ⟨j1, j2⟩
    have hhd : s.data.toList.head? = some s[0] := by rw [List.head?_eq_getElem?]; exact bs_get s 0 h0
    by_cases hc : s[0] = 48
    · have HE := Lib.hid (show portB s.data.toList = 0 by
        unfold portB portB.atoi5
        rw [hhd, hc, show (some (48 : UInt8) == some 48) = true from rfl, Bool.not_true, Bool.and_false]; rfl)
      have hcb : ((s[0].toNat : Int) == 48) = true := by rw [hc]; rfl
      clear hc hhd
      go_enter Tryz.func120, Tryz.ntmps120
      go_wp2_with fail
      go_ret
      exact ⟨ret_int HE.out.symm, rfl⟩
    · have hcb : ((s[0].toNat : Int) == 48) = false := by rw [beq_eq_false_iff_ne]; exact fun e => hc (by rw [u8eq]; show s[0].toNat = 48; omega)
      have HV := Lib.hid (show portB s.data.toList = if s.data.toList.all dig = true then ((foldN s.data.toList : Nat) : Int) else 0 by
        unfold portB portB.atoi5
        rw [hhd, show (some s[0] == some (48 : UInt8)) = false from by rw [beq_eq_false_iff_ne]; exact fun e => hc (Option.some.inj e), decide_eq_true (show 1 ≤ s.data.toList.length ∧ s.data.toList.length ≤ 5 from by rw [bs_size]; exact h1)]
        cases hd : s.data.toList.all dig
        · rfl
        · exact num_fold_nat s.data.toList 0 hd)
      have hlen5 : s.size ≤ 5 := h1.2
      clear hc hhd h1
      go_enter Tryz.func120, Tryz.ntmps120
      go_wp2_with fail
      clear hcb j1 j2 j4
      go_loop [3, 4] (fun n i => ∃ k : Nat, k ≤ s.size ∧ i = .int .i64 k ∧ n = .int .i64 (foldN (s.data.toList.take k) : Nat) ∧ foldN (s.data.toList.take k) < 10 ^ k ∧ Hid (k ≤ lead dig s.data.toList)) (fun _ i => s.size - (intOf i).toNat)
      case atStart => exact ⟨0, Nat.zero_le _, rfl, rfl, by rw [List.take_zero]; decide, Lib.hid (Nat.zero_le _)⟩
      case round =>
        obtain ⟨k, hk, rfl, rfl, hf, HK⟩ := hrel
        have hp : 10 ^ k ≤ 10 ^ 5 := Nat.pow_le_pow_right (by decide) (by omega)
        have hp5 : (10 : Nat) ^ 5 = 100000 := by decide
        have hfb : foldN (s.data.toList.take k) < 100000 := by omega
        by_cases hlt : k < s.size
        · have i1 : (k : Int) < (s.size : Int) := by omega
          have hget := bs_get s k hlt
          have hts : s.data.toList.take (k + 1) = s.data.toList.take k ++ [s[k]] := take_snoc s.data.toList k _ hget
          rcases hd : dig s[k] with _ | _
          · have HE := Lib.hid (show portB s.data.toList = 0 by
              rw [HV.out, if_neg]
              intro h
              have := List.all_eq_true.1 h s[k] (List.mem_of_getElem? hget)
              rw [hd] at this; cases this)
            have hnd : ¬ (48 ≤ s[k].toNat ∧ s[k].toNat ≤ 57) := of_decide_eq_false hd
            clear hts hd hp hp5 hf hget
            by_cases hd1 : (s[k].toNat : Int) < 48
            · clear hnd
              go_wp2_with fail
              go_ret
              exact ⟨ret_int HE.out.symm, rfl⟩
            · have hd0 : (48 : Int) ≤ (s[k].toNat : Int) := by omega
              have hd2 : (57 : Int) < (s[k].toNat : Int) := by omega
              clear hnd hd1
              go_wp2_with fail
              go_ret
              exact ⟨ret_int HE.out.symm, rfl⟩
          · have hdd : 48 ≤ s[k].toNat ∧ s[k].toNat ≤ 57 := of_decide_eq_true hd
            have HS := Lib.hid (lead_step dig s.data.toList k s[k] HK.out hget hd)
            have HF := Lib.hid (show foldN (s.data.toList.take (k + 1)) = 10 * foldN (s.data.toList.take k) + (s[k].toNat - 48) by rw [hts, foldN_snoc])
            have HB := Lib.hid (show foldN (s.data.toList.take (k + 1)) < 10 ^ (k + 1) by rw [HF.out, Nat.pow_succ]; omega)
            have hd0 : (48 : Int) ≤ (s[k].toNat : Int) := by omega
            have hd2 : (s[k].toNat : Int) ≤ 57 := by omega
            have HX := Lib.hid (show ((10 * foldN (s.data.toList.take k) + (s[k].toNat - 48) : Nat) : Int) = 10 * (foldN (s.data.toList.take k) : Int) + ((s[k].toNat : Int) - 48) by omega)
            clear hts hd hp hp5 hf hdd hget
            go_wp2_with fail
            go_round
            case rel => exact ⟨k + 1, by omega, by go_num, by rw [HF.out, HX.out], HB.out, HS⟩
            case measure => (simp [intOf] <;> omega)
        · have hke : k = s.size := by omega
          have HE := Lib.hid (show portB s.data.toList = (foldN (s.data.toList.take k) : Nat) by
            rw [HV.out, if_pos (all_lead dig (by rw [bs_size, ← hke]; exact HK.out)), hke, ← bs_size, List.take_length])
          have i1 : (s.size : Int) ≤ (k : Int) := by omega
          clear hke hp hp5 hf
          go_wp2_with fail
          go_ret
          exact ⟨ret_int HE.out.symm, rfl⟩
  · have HE := Lib.hid (show portB s.data.toList = 0 by unfold portB portB.atoi5; rw [bs_size, decide_eq_false h1]; rfl)
    by_cases h0 : s.size = 0
    · have j1 : ((s.size : Int) == 0) = true := by rw [beq_iff_eq]; omega
      have H0 := Lib.hid h0
      clear h0 h1
      go_enter Tryz.func120, Tryz.ntmps120
      go_wp2_with fail
      go_ret
      exact ⟨ret_int HE.out.symm, rfl⟩
    · have j1 : ((s.size : Int) == 0) = false := by rw [beq_eq_false_iff_ne]; omega
      have j2 : (5 : Int) < (s.size : Int) := by omega
      clear h1
      go_enter Tryz.func120, Tryz.ntmps120
      go_wp2_with fail
      go_ret
      exact ⟨ret_int HE.out.symm, rfl⟩
end Go.Proofs.YtmkpejioinkceaaGreatDoor
