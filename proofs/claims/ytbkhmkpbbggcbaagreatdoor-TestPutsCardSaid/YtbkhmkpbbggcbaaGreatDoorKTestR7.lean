/- The walk of the reference's operand of tests. The reference's rules on tests joined, and the walk of its Parse. -/
import Derived.Test.YtbkhmkpbbggcbaaGreatDoorKTestR5
import Derived.Test.YtbkhmkpbbggcbaaGreatDoorKRefFind26
import Derived.Test.YtbkhmkpbbggcbaaGreatDoorKTestWP
namespace Go.Proofs.YtbkhmkpbbggcbaaGreatDoor
open Go.RowKit
set_option linter.unusedVariables false
theorem lead_in (p : UInt8 → Bool) : ∀ (l : Bs) (m : Nat) (c : UInt8), m < lead p l → l[m]? = some c → p c = true
  | [], m, c, h, _ => by rw [lead_nil] at h; omega
  | a :: l, m, c, h, hc => by
    rw [lead_cons] at h
    by_cases hp : p a = true
    · rw [if_pos hp] at h
      cases m with
      | zero => simp at hc; rw [← hc]; exact hp
      | succ m => exact lead_in p l m c (by omega) (by simpa using hc)
    · rw [if_neg hp] at h; omega
theorem lead_out (p : UInt8 → Bool) : ∀ (l : Bs) (c : UInt8), l[lead p l]? = some c → p c = false
  | [], c, h => by simp at h
  | a :: l, c, h => by
    rw [lead_cons] at h
    by_cases hp : p a = true
    · rw [if_pos hp] at h
      exact lead_out p l c (by simpa using h)
    · rw [if_neg hp] at h
      simp at h; rw [← h]; exact Bool.eq_false_iff.2 hp
theorem dig_at {s : Bs} {n m : Nat} (hm : m ≤ lead dig (s.drop n)) : digAt s (n + m) = decide (m < lead dig (s.drop n)) := by
  unfold digAt
  rw [← List.getElem?_drop]
  cases hg : (s.drop n)[m]? with
  | none =>
    have h1 := lead_le dig (s.drop n)
    rw [List.getElem?_eq_none_iff] at hg
    rw [decide_eq_false (by omega)]
  | some c =>
    rcases Nat.lt_or_ge m (lead dig (s.drop n)) with h | h
    · rw [decide_eq_true h]; exact lead_in _ _ _ _ h hg
    · obtain rfl : m = lead dig (s.drop n) := by omega
      rw [decide_eq_false (by omega)]; exact lead_out _ _ _ hg
theorem opAt_dig {d : Option (Nat → Got)} {s r : Bs} {n : Nat} {c : UInt8} (h40 : c ≠ 40) (h39 : c ≠ 39) (hd : dig c = true) : opAt d s n (c :: r) = numG n ((c :: r).takeWhile dig) := by
  show (bif c == 40 then _ else bif c == 39 then _ else bif dig c then _ else _) = _
  rw [beq_eq_false_iff_ne.2 h40, beq_eq_false_iff_ne.2 h39, hd]; rfl
theorem opAt_var {d : Option (Nat → Got)} {s r : Bs} {n : Nat} {c : UInt8} (h40 : c ≠ 40) (h39 : c ≠ 39) (hd : dig c = false) : opAt d s n (c :: r) = varG s n (c :: r) := by
  show (bif c == 40 then _ else bif c == 39 then _ else bif dig c then _ else _) = _
  rw [beq_eq_false_iff_ne.2 h40, beq_eq_false_iff_ne.2 h39, hd]; rfl
theorem dig_some {c : UInt8} {r : Bs} {m : Nat} (h : ((c :: r).takeWhile dig).length = m) (hm : 0 < m) : dig c = true := by
  cases hd : dig c
  · rw [List.takeWhile_cons, hd] at h; simp at h; omega
  · rfl
theorem dig_none {c : UInt8} {r : Bs} (h : ((c :: r).takeWhile dig).length = 0) : dig c = false := by
  cases hd : dig c
  · rfl
  · rw [List.takeWhile_cons, hd] at h; simp at h
theorem byte_ne {c k : UInt8} (h : c ≠ k) : ((c.toNat : Int) == (k.toNat : Int)) = false := by
  rw [beq_eq_false_iff_ne]; intro e; exact h (UInt8.toNat_inj.1 (by omega))
theorem rs_cons {s : Bs} {i : Nat} {c : UInt8} {r : Bs} (hi : i ≤ s.length) (h : rs s i = c :: r) : ∃ n, pa s i = n ∧ n < s.length ∧ s.drop n = c :: r ∧ s.drop (n + 1) = r ∧ (∀ h, (⟨s.toArray⟩ : ByteArray)[n]'h = c) ∧ s.length = n + 1 + r.length := by
  have h1 := rs_lt hi h
  have h2 := drop_pa s hi
  rw [h] at h2
  refine ⟨pa s i, rfl, by omega, h2, ?_, ?_, by omega⟩
  · rw [← List.drop_drop, h2]; rfl
  · intro hh
    have h3 : (s.drop (pa s i))[0]? = some c := by rw [h2]; rfl
    rw [List.getElem?_drop, Nat.add_zero] at h3
    obtain ⟨h4, h5⟩ := List.getElem?_eq_some_iff.1 h3
    exact h5
theorem quG_yes {s r : Bs} {n m : Nat} (hm : lead (· != 39) r = m) (hx : r[m]? = some 39) : quG s n r = .good (wordE 10 (r.take m)) (n + 1 + m + 1) := by
  have hc : r.contains 39 = true := by rw [List.contains_iff_mem]; exact List.mem_of_getElem? hx
  have hl : m ≤ r.length := by rw [← hm]; exact lead_le _ _
  unfold quG
  rw [hc, cond_true, ← take_upto, hm, List.length_take, Nat.min_eq_left hl]
theorem quG_no {s r : Bs} {n : Nat} (h : r.length ≤ lead (· != 39) r) : quG s n r = .wrong s.length 15 := by
  unfold quG
  cases hc : r.contains 39
  · rfl
  · have := lead_lt 39 r hc; omega
set_option maxRecDepth 100000 in
set_option maxHeartbeats 4000000 in
theorem ref27_operand (w : World) (s : Bs) (i op k : Nat) (hi : i ≤ s.length) (hs : s.length ≤ 100000) (hop : op ≤ 16)
    (hb : ∀ (w : World) (j : Nat), j + 1 ≤ s.length → Calls Tryz.prog 109 (args3 s op j) w fun e w' => ∃ v, e = .returned v ∧ Below w.heap.size w w' ∧ Hid (RGot (From w.heap.size) w' (brG (dOrK s k) s j) v)) :
    Calls Tryz.prog 93 (args3 s op i) w fun e w' => ∃ v, e = .returned v ∧ Below w.heap.size w w' ∧ Hid (RGot (From w.heap.size) w' (opK s k i) v) := by
  have HB := Lib.hid hb
  clear hb
  have HRW0 := Lib.hid (RW.start w)
  have HSZ := Lib.hid (show (w.alloc gotZ).heap.size = w.heap.size + 1 by rw [World.size_alloc])
  go_enter Tryz.func93, Tryz.ntmps93
  go_wp2_with fail
  generalize hw0 : w.alloc (.cells #[.int .i64 0, .string ⟨#[]⟩, .int .i64 0, .int .i64 0, .string ⟨#[]⟩, .string ⟨#[]⟩, .string ⟨#[]⟩, .bool false, .bool false, .slice none 0 0, .int .i64 0, .int .i64 0, .int .i64 0] 73) = W0 at *
  clear hw0
  refine (ref27_Past s _ i W0 rfl hi hs).mono ?_
  rintro e w1 ⟨rfl, rfl⟩
  cases hr : rs s i with
  | nil =>
    have HK := Lib.hid (show opK s k i = .wrong (pa s i) 15 by unfold opK opG; rw [hr]; rfl)
    have HP := Lib.hid (show pa s i = s.length from (by have h1 := rs_len s hi; have h2 := pa_le s i; rw [hr, List.length_nil] at h1; omega))
    clear hr
    rw [HP.out]
    rw [HP.out] at HK
    go_wp2_with fail
    refine (ref27_wrong _ 15 W0).mono ?_
    rintro e w1 ⟨rfl, hb⟩
    have HRW := Lib.hid (HRW0.out.next hb)
    clear hb
    have HE := Lib.hid (got_end HRW.out (rwrong _ _ (s.length) 15))
    obtain ⟨f0, f1, f2, f3, f4, f5, f6, f7, f8, f9, f10, f11, f12⟩ := got_frozen HRW.out.box
    obtain ⟨g0, g1, g2, g3, g4, g5, g6, g7, g8, g9, g10, g11, g12⟩ := got_live HRW.out.box
    go_wp2_with fail
    clear f0 f1 f2 f3 f4 f5 f6 f7 f8 f9 f10 f11 f12 g0 g1 g2 g3 g4 g5 g6 g7 g8 g9 g10 g11 g12
    refine bodyPost_ret (v := gotV 0 [] noUseI (.slice none 0 0) 0 (s.length : Int) 15) ?_ rfl ⟨_, rfl, HE.out.1, Lib.hid (by rw [HK.out]; exact HE.out.2.1)⟩
    exact results_got (b := w.heap.size) rfl rfl HE.out.2.2
  | cons c r =>
    have HK := Lib.hid (show opK s k i = opAt (dOrK s k) s (pa s i) (c :: r) by unfold opK opG; rw [hr])
    obtain ⟨n, hn, hnl, hd0, hd1, hix, hlen⟩ := rs_cons hi hr
    rw [hn]
    rw [hn] at HK
    have HLN := Lib.hid hlen
    have HD1 := Lib.hid hd1
    have HDN := Lib.hid hd0
    have hne : ((n : Int) == (s.length : Int)) = false := by rw [beq_eq_false_iff_ne]; omega
    have n1 : (n : Int) < (s.length : Int) := by omega
    clear hr hn hd0 hd1 hlen
    go_upto_region 4 with fail
    clear hne
    by_cases h40 : c = 40
    · subst h40
      have HK2 := Lib.hid (show opK s k i = brG (dOrK s k) s n from HK.out)
      go_upto_region 5 with fail
      clear hix
      go_wp2_with fail
      refine (HB.out W0 n (by omega)).mono ?_
      rintro e w1 ⟨v, rfl, hb, hr⟩
      have hrg := hr.out
      obtain ⟨kk, t, u, a, n9, c9, x, q, e, rfl⟩ := hrg.cells
      have HRW := Lib.hid (HRW0.out.next hb)
      have HRG := Lib.hid (hrg.past (m := w.heap.size) (by have := HSZ.out; omega))
      clear hb hr hrg
      have HE := Lib.hid (got_end HRW.out (HRG.out))
      obtain ⟨f0, f1, f2, f3, f4, f5, f6, f7, f8, f9, f10, f11, f12⟩ := got_frozen HRW.out.box
      obtain ⟨g0, g1, g2, g3, g4, g5, g6, g7, g8, g9, g10, g11, g12⟩ := got_live HRW.out.box
      go_wp2_with fail
      clear f0 f1 f2 f3 f4 f5 f6 f7 f8 f9 f10 f11 f12 g0 g1 g2 g3 g4 g5 g6 g7 g8 g9 g10 g11 g12
      refine bodyPost_ret (v := gotV kk t u (.slice a n9 c9) x q e) ?_ rfl ⟨_, rfl, HE.out.1, Lib.hid (by rw [HK2.out]; exact HE.out.2.1)⟩
      exact results_got (b := w.heap.size) rfl rfl HE.out.2.2
    · have hq40 : ((c.toNat : Int) == 40) = false := byte_ne (k := 40) h40
      by_cases h39 : c = 39
      · subst h39
        have HK2 := Lib.hid (show opK s k i = quG s n r from HK.out)
        have i39 : ((39 : UInt8).toNat : Int) = 39 := rfl
        go_upto_region 7 with fail
        clear hix
        go_upto_region 8 with fail
        go_loop [7] (fun f => ∃ j : Nat, n + 1 ≤ j ∧ j ≤ s.length ∧ f = .int .i64 j ∧ Hid (j - (n + 1) ≤ lead (· != 39) r)) (fun f => s.length - (intOf f).toNat)
        case atStart => exact ⟨n + 1, Nat.le_refl _, by omega, by go_num, Lib.hid (by omega)⟩
        case round =>
          obtain ⟨j, hnj, hjl, rfl, HL⟩ := hrel
          by_cases hlt : j < s.length
          · obtain ⟨x, hx⟩ : ∃ x, s[j] = x := ⟨_, rfl⟩
            have hjx : ∀ h, (⟨s.toArray⟩ : ByteArray)[j]'h = x := fun h => by rw [← hx]; rfl
            have hrx : r[j - (n + 1)]? = some x := by rw [← HD1.out, List.getElem?_drop, show n + 1 + (j - (n + 1)) = j by omega, List.getElem?_eq_getElem hlt, hx]
            have HRX := Lib.hid hrx
            have j1 : (j : Int) < (s.length : Int) := by omega
            clear hx hrx
            by_cases h39 : x = 39
            · subst h39
              have hm : lead (· != 39) r = j - (n + 1) := (lead_stop _ _ _ HL.out (fun c hc => by rw [HRX.out] at hc; cases hc; rfl)).symm
              have HK3 := Lib.hid (show opK s k i = .good (wordE 10 (r.take (j - (n + 1)))) (j + 1) by rw [HK2.out, quG_yes hm HRX.out]; congr 1; omega)
              have hex := ext_spanL s (n + 1) (j - (n + 1))
              rw [show n + 1 + (j - (n + 1)) = j by omega, HD1.out] at hex
              obtain ⟨T, hT⟩ : ∃ T, r.take (j - (n + 1)) = T := ⟨_, rfl⟩
              rw [hT] at hex HK3
              have n1j : (n : Int) + 1 ≤ (j : Int) := by omega
              clear hm hT
              go_upto_region 11 with fail
              clear hjx
              have HE := Lib.hid (got_end HRW0.out (show RGot (fun z => w.heap.size < z) W0 (.good (wordE 10 T) (j + 1)) (gotV 10 T noUseI (.slice none 0 0) ((j : Int) + 1) 0 0) from ⟨10, T, noUseI, none, 0, 0, rfl, exAt_leaf _ _ 10 T noUseI⟩))
              obtain ⟨f0, f1, f2, f3, f4, f5, f6, f7, f8, f9, f10, f11, f12⟩ := got_frozen HRW0.out.box
              obtain ⟨g0, g1, g2, g3, g4, g5, g6, g7, g8, g9, g10, g11, g12⟩ := got_live HRW0.out.box
              go_wp2_with fail
              clear f0 f1 f2 f3 f4 f5 f6 f7 f8 f9 f10 f11 f12 g0 g1 g2 g3 g4 g5 g6 g7 g8 g9 g10 g11 g12
              refine bodyPost_ret (v := gotV 10 T noUseI (.slice none 0 0) ((j : Int) + 1) 0 0) ?_ rfl ⟨_, rfl, HE.out.1, Lib.hid (by rw [HK3.out]; exact HE.out.2.1)⟩
              exact results_got (b := w.heap.size) rfl rfl HE.out.2.2
            · have hq : ((x.toNat : Int) == 39) = false := byte_ne (k := 39) h39
              have HST := Lib.hid (lead_step (· != 39) r (j - (n + 1)) x HL.out HRX.out (by simpa using h39))
              clear h39
              go_wp2_with fail
              go_round
              case rel => exact ⟨j + 1, by omega, by omega, by go_num, Lib.hid (by have := HST.out; omega)⟩
              case measure => (simp [intOf] <;> omega)
          · obtain rfl : j = s.length := by omega
            have HK3 := Lib.hid (HK2.out.trans (quG_no (s := s) (n := n) (by have := HL.out; have := HLN.out; omega)))
            clear hlt
            go_wp2_with fail
            refine (ref27_wrong _ 15 W0).mono ?_
            rintro e w1 ⟨rfl, hb⟩
            have HRW := Lib.hid (HRW0.out.next hb)
            clear hb
            have HE := Lib.hid (got_end HRW.out (rwrong _ _ (s.length) 15))
            obtain ⟨f0, f1, f2, f3, f4, f5, f6, f7, f8, f9, f10, f11, f12⟩ := got_frozen HRW.out.box
            obtain ⟨g0, g1, g2, g3, g4, g5, g6, g7, g8, g9, g10, g11, g12⟩ := got_live HRW.out.box
            go_wp2_with fail
            clear f0 f1 f2 f3 f4 f5 f6 f7 f8 f9 f10 f11 f12 g0 g1 g2 g3 g4 g5 g6 g7 g8 g9 g10 g11 g12
            refine bodyPost_ret (v := gotV 0 [] noUseI (.slice none 0 0) 0 (s.length : Int) 15) ?_ rfl ⟨_, rfl, HE.out.1, Lib.hid (by rw [HK3.out]; exact HE.out.2.1)⟩
            exact results_got (b := w.heap.size) rfl rfl HE.out.2.2
      · have hq39 : ((c.toNat : Int) == 39) = false := byte_ne (k := 39) h39
        have H40 := Lib.hid h40
        have H39 := Lib.hid h39
        clear h40 h39
        obtain ⟨d, hd⟩ : ∃ d, lead dig (s.drop n) = d := ⟨_, rfl⟩
        have hdl : d ≤ s.length - n := by rw [← hd]; have := lead_le dig (s.drop n); rw [List.length_drop] at this; exact this
        have HD := Lib.hid hd
        clear hd
        go_upto_region 14 with fail
        clear hix hq40 hq39
        go_loop [8] (fun f => ∃ m : Nat, m ≤ d ∧ f = .int .i64 m) (fun f => d - (intOf f).toNat)
        case atStart => exact ⟨0, Nat.zero_le _, rfl⟩
        case round =>
          obtain ⟨m, hm, rfl⟩ := hrel
          have HDM := Lib.hid (dig_at (s := s) (n := n) (m := m) (by rw [HD.out]; exact hm))
          go_wp2_with fail
          refine (ref27_digit s _ (n + m) W0 (by omega) hs).mono ?_
          rintro e w1 ⟨rfl, rfl⟩
          rw [HDM.out, HD.out]
          by_cases hmd : m < d
          · rw [decide_eq_true hmd]
            go_wp2_with fail
            go_round
            case rel => exact ⟨m + 1, by omega, by go_num⟩
            case measure => (simp [intOf] <;> omega)
          · obtain rfl : m = d := by omega
            rw [decide_eq_false (Nat.lt_irrefl _)]
            have HTW := Lib.hid (show (c :: r).takeWhile dig = (s.drop n).take m by rw [← take_lead, ← HDN.out, HD.out])
            have HTL := Lib.hid (show ((c :: r).takeWhile dig).length = m by rw [HTW.out, List.length_take, List.length_drop]; omega)
            clear hmd hm
            go_upto_region 16 with fail
            by_cases h18 : 18 < m
            · have hmz : 0 < m := by omega
              have HK3 := Lib.hid (show opK s k i = .wrong (n + 18) 15 by
                rw [HK.out, opAt_dig H40.out H39.out (dig_some HTL.out (by omega))]; unfold numG; rw [HTL.out, decide_eq_false (by omega)]; rfl)
              have m18 : (18 : Int) < (m : Int) := by omega
              clear h18
              go_wp2_with fail
              clear m18
              refine (ref27_wrong _ 15 W0).mono ?_
              rintro e w1 ⟨rfl, hb⟩
              have HRW := Lib.hid (HRW0.out.next hb)
              clear hb
              have HE := Lib.hid (got_end HRW.out (rwrong _ _ ((n + 18 : Nat)) 15))
              obtain ⟨f0, f1, f2, f3, f4, f5, f6, f7, f8, f9, f10, f11, f12⟩ := got_frozen HRW.out.box
              obtain ⟨g0, g1, g2, g3, g4, g5, g6, g7, g8, g9, g10, g11, g12⟩ := got_live HRW.out.box
              go_wp2_with fail
              clear f0 f1 f2 f3 f4 f5 f6 f7 f8 f9 f10 f11 f12 g0 g1 g2 g3 g4 g5 g6 g7 g8 g9 g10 g11 g12
              refine bodyPost_ret (v := gotV 0 [] noUseI (.slice none 0 0) 0 ((n + 18 : Nat) : Int) 15) ?_ rfl ⟨_, rfl, HE.out.1, Lib.hid (by rw [HK3.out]; exact HE.out.2.1)⟩
              exact results_got (b := w.heap.size) rfl rfl HE.out.2.2
            · have m18 : ¬ (18 : Int) < (m : Int) := by omega
              by_cases hm0 : 0 < m
              · have HK3 := Lib.hid (show opK s k i = .good (wordE 11 ((s.drop n).take m)) (n + m) by
                  rw [HK.out, opAt_dig H40.out H39.out (dig_some HTL.out (by omega))]; unfold numG; rw [HTL.out, decide_eq_true (by omega), HTW.out]; rfl)
                have hex := ext_spanL s n m
                obtain ⟨T, hT⟩ : ∃ T, (s.drop n).take m = T := ⟨_, rfl⟩
                rw [hT] at hex HK3
                have m0 : (0 : Int) < (m : Int) := by omega
                clear hT h18 hm0
                have HE := Lib.hid (got_end HRW0.out (show RGot (fun z => w.heap.size < z) W0 (.good (wordE 11 T) (n + m)) (gotV 11 T noUseI (.slice none 0 0) ((n : Int) + (m : Int)) 0 0) from ⟨11, T, noUseI, none, 0, 0, rfl, exAt_leaf _ _ 11 T noUseI⟩))
                obtain ⟨f0, f1, f2, f3, f4, f5, f6, f7, f8, f9, f10, f11, f12⟩ := got_frozen HRW0.out.box
                obtain ⟨g0, g1, g2, g3, g4, g5, g6, g7, g8, g9, g10, g11, g12⟩ := got_live HRW0.out.box
                go_wp2_with fail
                clear f0 f1 f2 f3 f4 f5 f6 f7 f8 f9 f10 f11 f12 g0 g1 g2 g3 g4 g5 g6 g7 g8 g9 g10 g11 g12
                refine bodyPost_ret (v := gotV 11 T noUseI (.slice none 0 0) ((n : Int) + (m : Int)) 0 0) ?_ rfl ⟨_, rfl, HE.out.1, Lib.hid (by rw [HK3.out]; exact HE.out.2.1)⟩
                exact results_got (b := w.heap.size) rfl rfl HE.out.2.2
              · obtain rfl : m = 0 := by omega
                have HK3 := Lib.hid (show opK s k i = varG s n (c :: r) by rw [HK.out, opAt_var H40.out H39.out (dig_none HTL.out)])
                clear h18 hm0 m18
                go_upto_region 20 with fail
                have HCL := Lib.hid (show clampN (n : Int) s.length = n by unfold clampN; omega)
                obtain ⟨o, ho⟩ : ∃ o, vfind s n = o := ⟨_, rfl⟩
                obtain ⟨u, hu⟩ : ∃ u, o.getD noUse = u := ⟨_, rfl⟩
                obtain ⟨ok, hok⟩ : ∃ ok, o.isSome = ok := ⟨_, rfl⟩
                have HV := Lib.hid (show foundV (vfind (⟨s.toArray⟩ : ByteArray).data.toList (clampN (n : Int) (⟨s.toArray⟩ : ByteArray).size)) = .tuple #[.agg #[.int .i64 (u.src : Int), .int .i64 (u.to : Int), .string ⟨u.name.toArray⟩, .string ⟨u.key.toArray⟩, .string ⟨u.dft.toArray⟩, .bool u.hk, .bool u.hd], .bool ok] by
                  rw [show (⟨s.toArray⟩ : ByteArray).size = s.length from rfl, HCL.out, show (⟨s.toArray⟩ : ByteArray).data.toList = s from rfl, ho, foundV, hu, hok]; rfl)
                have HO := Lib.hid (And.intro ho (And.intro hu hok))
                clear ho hu hok
                go_wp2_with fail
                refine (ref26_Find ⟨s.toArray⟩ (n : Int) W0 (by show s.length ≤ _; omega)).mono ?_
                rintro e w1 ⟨rfl, hb⟩
                rw [HV.out]
                have hA : Below w1.heap.size w1 (w1.alloc (.cells #[.int .i64 (u.src : Int), .int .i64 (u.to : Int), .string ⟨u.name.toArray⟩, .string ⟨u.key.toArray⟩, .string ⟨u.dft.toArray⟩, .bool u.hk, .bool u.hd] 34)) := (Below.refl _ _).alloc (Nat.le_refl _) _
                have HRW1 := Lib.hid ((HRW0.out.next hb).next hA)
                have HU1 := Lib.hid (heap_alloc_new w1 (.cells #[.int .i64 (u.src : Int), .int .i64 (u.to : Int), .string ⟨u.name.toArray⟩, .string ⟨u.key.toArray⟩, .string ⟨u.dft.toArray⟩, .bool u.hk, .bool u.hd] 34))
                clear hb hA
                go_upto_region 21 with fail
                generalize w1.alloc (.cells #[.int .i64 (u.src : Int), .int .i64 (u.to : Int), .string ⟨u.name.toArray⟩, .string ⟨u.key.toArray⟩, .string ⟨u.dft.toArray⟩, .bool u.hk, .bool u.hd] 34) = W1 at *
                generalize w1.heap.size = bu at *
                cases ok
                · have HVN := Lib.hid (HK3.out.trans (var_no HDN.out (fun u' hu' => by have h1 := HO.out.1; rw [hu'] at h1; have h2 := HO.out.2.2; rw [← h1] at h2; cases h2)))
                  go_wp2_with fail
                  refine (ref27_wrong _ 15 W1).mono ?_
                  rintro e w1 ⟨rfl, hb⟩
                  have HRW := Lib.hid (HRW1.out.next hb)
                  clear hb
                  have HE := Lib.hid (got_end HRW.out (rwrong _ _ (n) 15))
                  obtain ⟨f0, f1, f2, f3, f4, f5, f6, f7, f8, f9, f10, f11, f12⟩ := got_frozen HRW.out.box
                  obtain ⟨g0, g1, g2, g3, g4, g5, g6, g7, g8, g9, g10, g11, g12⟩ := got_live HRW.out.box
                  go_wp2_with fail
                  clear f0 f1 f2 f3 f4 f5 f6 f7 f8 f9 f10 f11 f12 g0 g1 g2 g3 g4 g5 g6 g7 g8 g9 g10 g11 g12
                  refine bodyPost_ret (v := gotV 0 [] noUseI (.slice none 0 0) 0 (n : Int) 15) ?_ rfl ⟨_, rfl, HE.out.1, Lib.hid (by rw [HVN.out]; exact HE.out.2.1)⟩
                  exact results_got (b := w.heap.size) rfl rfl HE.out.2.2
                · have hou : o = some u := by
                    have h2 := HO.out.2.1
                    have h3 := HO.out.2.2
                    cases o with
                    | none => cases h3
                    | some u' => exact congrArg some h2
                  have hvf : vfind s n = some u := HO.out.1.trans hou
                  by_cases hsr : u.src = n
                  · have hvy := var_yes HDN.out (Nat.le_of_lt hnl) hvf hsr
                    have hu8 := HU1.out
                    rw [hsr] at hvy hu8
                    have HVY := Lib.hid (HK3.out.trans hvy.1)
                    obtain ⟨-, -, -, -, -, -, -, u0, u1, u2, u3, u4, u5, u6⟩ := seven_live hu8
                    clear hvy hou hvf hsr HU1 hu8
                    have HE := Lib.hid (got_end HRW1.out (show RGot (fun z => w.heap.size < z) W1 (.good (varE ⟨(n : Int), (u.to : Int), u.name, u.key, u.dft, u.hk, u.hd⟩) u.to) (gotV 12 [] ⟨(n : Int), (u.to : Int), u.name, u.key, u.dft, u.hk, u.hd⟩ (.slice none 0 0) (u.to : Int) 0 0) from ⟨12, [], ⟨(n : Int), (u.to : Int), u.name, u.key, u.dft, u.hk, u.hd⟩, none, 0, 0, rfl, exAt_leaf _ _ 12 [] _⟩))
                    obtain ⟨f0, f1, f2, f3, f4, f5, f6, f7, f8, f9, f10, f11, f12⟩ := got_frozen HRW1.out.box
                    obtain ⟨g0, g1, g2, g3, g4, g5, g6, g7, g8, g9, g10, g11, g12⟩ := got_live HRW1.out.box
                    go_wp2_with fail
                    clear u0 u1 u2 u3 u4 u5 u6 f0 f1 f2 f3 f4 f5 f6 f7 f8 f9 f10 f11 f12 g0 g1 g2 g3 g4 g5 g6 g7 g8 g9 g10 g11 g12
                    refine bodyPost_ret (v := gotV 12 [] ⟨(n : Int), (u.to : Int), u.name, u.key, u.dft, u.hk, u.hd⟩ (.slice none 0 0) (u.to : Int) 0 0) ?_ rfl ⟨_, rfl, HE.out.1, Lib.hid (by rw [HVY.out]; exact HE.out.2.1)⟩
                    exact results_got (b := w.heap.size) rfl rfl HE.out.2.2
                  · have HVN := Lib.hid (HK3.out.trans (var_no HDN.out (fun u' hu' => by rw [hvf] at hu'; cases hu'; exact hsr)))
                    have hsq : ((u.src : Int) == (n : Int)) = false := by rw [beq_eq_false_iff_ne]; omega
                    have hsq2 : ((u.src : Int) != (n : Int)) = true := by rw [bne_iff_ne]; omega
                    obtain ⟨-, -, -, -, -, -, -, u0, -, -, -, -, -, -⟩ := seven_live HU1.out
                    clear hou hvf hsr
                    go_wp2_with fail
                    clear hsq hsq2 u0
                    refine (ref27_wrong _ 15 W1).mono ?_
                    rintro e w1 ⟨rfl, hb⟩
                    have HRW := Lib.hid (HRW1.out.next hb)
                    clear hb
                    have HE := Lib.hid (got_end HRW.out (rwrong _ _ (n) 15))
                    obtain ⟨f0, f1, f2, f3, f4, f5, f6, f7, f8, f9, f10, f11, f12⟩ := got_frozen HRW.out.box
                    obtain ⟨g0, g1, g2, g3, g4, g5, g6, g7, g8, g9, g10, g11, g12⟩ := got_live HRW.out.box
                    go_wp2_with fail
                    clear f0 f1 f2 f3 f4 f5 f6 f7 f8 f9 f10 f11 f12 g0 g1 g2 g3 g4 g5 g6 g7 g8 g9 g10 g11 g12
                    refine bodyPost_ret (v := gotV 0 [] noUseI (.slice none 0 0) 0 (n : Int) 15) ?_ rfl ⟨_, rfl, HE.out.1, Lib.hid (by rw [HVN.out]; exact HE.out.2.1)⟩
                    exact results_got (b := w.heap.size) rfl rfl HE.out.2.2
end Go.Proofs.YtbkhmkpbbggcbaaGreatDoor
namespace Go.Proofs.YtbkhmkpbbggcbaaGreatDoor
open Go.RowKit
set_option linter.unusedVariables false
theorem refLevel (s : Bs) (hs : s.length ≤ 100000) (k op : Nat) (h : op + k = 16) (ih : ∀ j, k = j + 1 → (RunsR 68 (args3 s (op + 1)) s (notK s j) ∧ RunsR 37 (args4 s (op + 1) 0) s (orK s j))) : RunsR 68 (args3 s op) s (notK s k) ∧ RunsR 37 (args4 s op 0) s (orK s k) := by
  have o : RunsR 93 (args3 s op) s (opK s k) := fun w i hi => ref27_operand w s i op k hi hs (by omega) (fun w j hj => ref27_bracket w s j op k hj hs h (fun j' e => (ih j' e).2))
  have c : RunsR 82 (args3 s op) s (cmpK s k) := fun w i hi => ref27_comparison w s i op k hi hs o (op_fits (dOr_fits s k))
  have n : RunsR 68 (args3 s op) s (notK s k) := fun w i hi => ref27_not w s i op k hi hs h c (fun j e => (ih j e).1)
  have n1 : RunsR 47 (args4 s op 1) s (notK s k) := fun w i hi => ref27_one1 w s i op _ hi n
  have a : RunsR 37 (args4 s op 1) s (andK s k) := fun w i hi => ref27_row w s i op 1 2 38 (notK s k) hi hs (by omega) (.inr ⟨rfl, rfl, rfl⟩) (lev_fits s k).2 n1
  have a0 : RunsR 47 (args4 s op 0) s (andK s k) := fun w i hi => ref27_one0 w s i op _ hi a
  refine ⟨n, fun w i hi => ?_⟩
  rw [orK_eq]
  exact ref27_row w s i op 0 1 124 (andK s k) hi hs (by omega) (.inl ⟨rfl, rfl, rfl⟩) (and_fits s k) a0
theorem refLevels (s : Bs) (hs : s.length ≤ 100000) : ∀ (k op : Nat), op + k = 16 → RunsR 68 (args3 s op) s (notK s k) ∧ RunsR 37 (args4 s op 0) s (orK s k)
  | 0, op, h => refLevel s hs 0 op h (fun j e => by cases e)
  | k + 1, op, h => refLevel s hs (k + 1) op h (fun j e => by cases e; exact refLevels s hs k (op + 1) (by omega))
theorem results_ten3R {fn : Func} {W : World} {tmps : Array Value} {b slot s2 s3 : Nat} {v0 v1 v2 v3 v4 v5 v6 v7 v8 v9 x y : Value} (h : fn.results = #[.cell slot 37, .tmp s2, .tmp s3]) (ht : tmps.getD slot undef = .pointer (some ⟨b, 0, none⟩)) (hx : tmps.getD s2 undef = x) (hy : tmps.getD s3 undef = y) (hW : W.heap[b]? = some (.cells #[v0, v1, v2, v3, v4, v5, v6, v7, v8, v9] 37)) :
    (results fn tmps).run Tryz.prog W = .ok (.tuple #[.agg #[v0, v1, v2, v3, v4, v5, v6, v7, v8, v9], x, y]) W := by
  obtain ⟨y0, y1, y2, y3, y4, y5, y6, y7, y8, y9⟩ := ten_live hW
  have ht2 : tmps[slot]?.getD undef = .pointer (some ⟨b, 0, none⟩) := by rw [← ht]; simp
  have hx2 : tmps[s2]?.getD undef = x := by rw [← hx]; simp
  have hy2 : tmps[s3]?.getD undef = y := by rw [← hy]; simp
  simp [results, h, go_sem, ht2, hx2, hy2, y0, y1, y2, y3, y4, y5, y6, y7, y8, y9]
set_option maxRecDepth 100000 in
set_option maxHeartbeats 4000000 in
theorem ref27_Parse (w : World) (s : Bs) (hs : s.length ≤ 100000) :
    Calls Tryz.prog 18 #[.string ⟨s.toArray⟩] w fun e w' => ∃ v, e = .returned (.tuple #[v, .int .i64 ((testB s).2.1 : Int), .int .i64 (testB s).2.2]) ∧ Below w.heap.size w w' ∧ Hid (ExAt (From w.heap.size) w' (testB s).1 v) := by
  have HB0 := Lib.hid ((Below.refl w.heap.size w).alloc (Nat.le_refl _) (.cells #[.int .i64 0, .string ⟨#[]⟩, .int .i64 0, .int .i64 0, .string ⟨#[]⟩, .string ⟨#[]⟩, .string ⟨#[]⟩, .bool false, .bool false, .slice none 0 0] 37))
  have HN0 := Lib.hid (heap_alloc_new w (.cells #[.int .i64 0, .string ⟨#[]⟩, .int .i64 0, .int .i64 0, .string ⟨#[]⟩, .string ⟨#[]⟩, .string ⟨#[]⟩, .bool false, .bool false, .slice none 0 0] 37))
  have HSZ := Lib.hid (show (w.alloc (.cells #[.int .i64 0, .string ⟨#[]⟩, .int .i64 0, .int .i64 0, .string ⟨#[]⟩, .string ⟨#[]⟩, .string ⟨#[]⟩, .bool false, .bool false, .slice none 0 0] 37)).heap.size = w.heap.size + 1 by rw [World.size_alloc])
  go_enter Tryz.func18, Tryz.ntmps18
  go_wp2_with fail
  generalize w.alloc (.cells #[.int .i64 0, .string ⟨#[]⟩, .int .i64 0, .int .i64 0, .string ⟨#[]⟩, .string ⟨#[]⟩, .string ⟨#[]⟩, .bool false, .bool false, .slice none 0 0] 37) = W0 at *
  refine ((refLevels s hs 16 0 rfl).2 W0 0 (Nat.zero_le _)).mono ?_
  rintro e w1 ⟨v, rfl, hb, hr⟩
  have hrg := hr.out
  have hft := (lev_fits s 16).1 0 (Nat.zero_le _)
  obtain ⟨G, hG⟩ : ∃ G, orK s 16 0 = G := ⟨_, rfl⟩
  rw [hG] at hrg hft
  have HGT := Lib.hid hG
  have HN1 := Lib.hid (show w1.heap[w.heap.size]? = _ from (hb.block w.heap.size (by have := HSZ.out; omega)).trans HN0.out)
  have HB1 := Lib.hid (HB0.out.trans (hb.mono HB0.out.size))
  clear hG hr HN0 HB0
  cases G with
  | wrong q e =>
    obtain ⟨k, t, u, a, n, c, x, rfl⟩ := hrg
    have HE0 := Lib.hid (show e ≠ 0 by have := hft.2; omega)
    have HTB := Lib.hid (testB_wrong HGT.out)
    have hA : Below w1.heap.size w1 (w1.alloc (.cells (gotL k t u (.slice a n c) x (q : Int) e).toArray 73)) := (Below.refl _ _).alloc (Nat.le_refl _) _
    have HB6 := Lib.hid (HB1.out.trans (hA.mono HB1.out.size))
    have HG1 := Lib.hid (heap_alloc_new w1 (.cells (gotL k t u (.slice a n c) x (q : Int) e).toArray 73))
    have HN4 := Lib.hid (row_alloc HN1.out (.cells (gotL k t u (.slice a n c) x (q : Int) e).toArray 73))
    clear hb hA hft HN1 HB1
    go_upto_region 2 with fail
    generalize w1.alloc (.cells (gotL k t u (.slice a n c) x (q : Int) e).toArray 73) = W1 at *
    generalize w1.heap.size = b1 at *
    have hq1 : (e == 0) = false := beq_eq_false_iff_ne.2 HE0.out
    have hq2 : (e != 0) = true := by rw [bne, hq1]; rfl
    have c11 := cell_of_row _ _ 11 _ _ _ HG1.out
    have c12 := cell_of_row _ _ 12 _ _ _ HG1.out
    go_upto_region 3 with fail
    have x11 : W1.drew.cell? ⟨b1, 11, none⟩ = some (.int .i64 (q : Int)) := c11
    have x12 : W1.drew.cell? ⟨b1, 12, none⟩ = some (.int .i64 e) := c12
    have HN5 := Lib.hid (drew_row HN4.out)
    have HRW := Lib.hid (drew_row (setTen_row (k := 0) (t := []) (u := noUseI) (kv := .slice none 0 0) HN4.out))
    obtain ⟨f0, f1, f2, f3, f4, f5, f6, f7, f8, f9⟩ := ten_frozen HN5.out
    obtain ⟨g0, g1, g2, g3, g4, g5, g6, g7, g8, g9⟩ := ten_live HN5.out
    obtain ⟨e0, e1, e2, e3, e4, e5, e6, e7, e8, e9⟩ := ten_frozen HN4.out
    obtain ⟨d0, d1, d2, d3, d4, d5, d6, d7, d8, d9⟩ := ten_live HN4.out
    have h9 := setTen_turn W1 w.heap.size 0 [] noUseI (.slice none 0 0)
    have HBE := Lib.hid (below_drewn (turn_new HB6.out h9 (Nat.le_refl _)))
    clear hq1 hq2 h9
    go_region
    clear f0 f1 f2 f3 f4 f5 f6 f7 f8 f9 g0 g1 g2 g3 g4 g5 g6 g7 g8 g9 e0 e1 e2 e3 e4 e5 e6 e7 e8 e9 d0 d1 d2 d3 d4 d5 d6 d7 d8 d9 x11 x12 c11 c12
    go_wp2_with fail
    refine bodyPost_ret (v := .tuple #[exV 0 [] noUseI (.slice none 0 0), .int .i64 (q : Int), .int .i64 e]) ?_ rfl ⟨exV 0 [] noUseI (.slice none 0 0), by rw [HTB.out], HBE.out, Lib.hid (by rw [HTB.out]; exact noEx_at _ _)⟩
    exact results_ten3R (b := w.heap.size) rfl rfl rfl rfl HRW.out
  | good y tt =>
    obtain ⟨k, t, u, a, n, c, rfl, hx⟩ := hrg
    have hlt : tt ≤ s.length := hft.2
    have hA : Below w1.heap.size w1 (w1.alloc (.cells (gotL k t u (.slice a n c) (tt : Int) 0 0).toArray 73)) := (Below.refl _ _).alloc (Nat.le_refl _) _
    have HB6 := Lib.hid (HB1.out.trans (hA.mono HB1.out.size))
    have HG1 := Lib.hid (heap_alloc_new w1 (.cells (gotL k t u (.slice a n c) (tt : Int) 0 0).toArray 73))
    have HN4 := Lib.hid (row_alloc HN1.out (.cells (gotL k t u (.slice a n c) (tt : Int) 0 0).toArray 73))
    have HX := Lib.hid (hx.next hA)
    clear hb hA hft HN1 HB1 hx
    go_upto_region 2 with fail
    generalize w1.alloc (.cells (gotL k t u (.slice a n c) (tt : Int) 0 0).toArray 73) = W1 at *
    generalize w1.heap.size = b1 at *
    obtain ⟨c0, c1, c2, c3, c4, c5, c6, c7, c8, c9, c10, c11, c12⟩ := got_cells HG1.out
    go_wp2_with fail
    refine (ref27_Past s _ tt W1 rfl hlt hs).mono ?_
    rintro e w2 ⟨rfl, rfl⟩
    have hpl := pa_le s tt
    by_cases hpe : pa s tt = s.length
    · have HTB := Lib.hid (testB_end HGT.out hpe)
      rw [hpe]
      clear hpe hpl
      have h9 := setTen_turn W1 w.heap.size k t u (.slice a n c)
      have HRW := Lib.hid (setTen_row (k := k) (t := t) (u := u) (kv := .slice a n c) HN4.out)
      have HBE := Lib.hid (turn_new HB6.out h9 (Nat.le_refl _))
      have HXE := Lib.hid (exAt_lo (A' := From w.heap.size) (fun z _ h => by have : W0.heap.size ≤ z := h; have := HSZ.out; show w.heap.size ≤ z; omega) _ _ (HX.out.turn h9 (fun h => by have : W0.heap.size ≤ w.heap.size := h; have := HSZ.out; omega)))
      obtain ⟨f0, f1, f2, f3, f4, f5, f6, f7, f8, f9⟩ := ten_frozen HN4.out
      obtain ⟨g0, g1, g2, g3, g4, g5, g6, g7, g8, g9⟩ := ten_live HN4.out
      clear h9
      go_wp2_with fail
      clear f0 f1 f2 f3 f4 f5 f6 f7 f8 f9 g0 g1 g2 g3 g4 g5 g6 g7 g8 g9 c0 c1 c2 c3 c4 c5 c6 c7 c8 c9 c10 c11 c12
      refine bodyPost_ret (v := .tuple #[exV k t u (.slice a n c), .int .i64 0, .int .i64 0]) ?_ rfl ⟨exV k t u (.slice a n c), by rw [HTB.out]; rfl, HBE.out, Lib.hid (by rw [HTB.out]; exact HXE.out)⟩
      exact results_ten3R (b := w.heap.size) rfl rfl rfl rfl HRW.out
    · have HTB := Lib.hid (testB_more HGT.out hpe)
      have hpq : ((pa s tt : Int) == (s.length : Int)) = false := by rw [beq_eq_false_iff_ne]; omega
      have hpq2 : ((pa s tt : Int) != (s.length : Int)) = true := by rw [bne_iff_ne]; omega
      clear hpe hpl
      go_wp2_with fail
      refine (ref27_Past s _ tt W1 rfl hlt hs).mono ?_
      rintro e w2 ⟨rfl, rfl⟩
      have h9 := setTen_turn W1 w.heap.size 0 [] noUseI (.slice none 0 0)
      have HRW := Lib.hid (setTen_row (k := 0) (t := []) (u := noUseI) (kv := .slice none 0 0) HN4.out)
      have HBE := Lib.hid (turn_new HB6.out h9 (Nat.le_refl _))
      obtain ⟨f0, f1, f2, f3, f4, f5, f6, f7, f8, f9⟩ := ten_frozen HN4.out
      obtain ⟨g0, g1, g2, g3, g4, g5, g6, g7, g8, g9⟩ := ten_live HN4.out
      clear h9 hpq hpq2
      go_wp2_with fail
      clear f0 f1 f2 f3 f4 f5 f6 f7 f8 f9 g0 g1 g2 g3 g4 g5 g6 g7 g8 g9 c0 c1 c2 c3 c4 c5 c6 c7 c8 c9 c10 c11 c12
      refine bodyPost_ret (v := .tuple #[exV 0 [] noUseI (.slice none 0 0), .int .i64 (pa s tt : Int), .int .i64 15]) ?_ rfl ⟨exV 0 [] noUseI (.slice none 0 0), by rw [HTB.out], HBE.out, Lib.hid (by rw [HTB.out]; exact noEx_at _ _)⟩
      exact results_ten3R (b := w.heap.size) rfl rfl rfl rfl HRW.out
end Go.Proofs.YtbkhmkpbbggcbaaGreatDoor
