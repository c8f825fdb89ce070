/- The walk of twist. -/
import Derived.Test.YtobhceopfjcmnaaGreatDoorUriTw
namespace Go.Proofs.YtobhceopfjcmnaaGreatDoor
open Go.RowKit
set_option linter.unusedVariables false

/-- The numbers that say where, as they came in: none, or a row of bytes. -/
def How (W : World) (v : Value) (how : Bs) : Prop := (how = [] ∧ ∃ a c, v = .slice a 0 c) ∨
  (∃ b o c, v = .slice (some ⟨b, o, none⟩) how.length c ∧ 0 < how.length ∧ how.length ≤ 9000000000000000000 ∧ b < W.heap.size ∧ ∀ j (h : j < how.length), W.cell? ⟨b, o + j, none⟩ = some (.int .u8 (how[j].toNat : Int)))
theorem How.next {W W' : World} {v : Value} {how : Bs} (h : How W v how) (hb : Below W.heap.size W W') : How W' v how := by
  rcases h with h | ⟨b, o, c, h1, h2, h3, h4, h5⟩
  · exact .inl h
  · exact .inr ⟨b, o, c, h1, h2, h3, Nat.lt_of_lt_of_le h4 hb.size, fun j h => (hb.cell (p := ⟨b, _, none⟩) h4).trans (h5 j h)⟩

theorem hex_cut : ∀ x : Nat, x < 32 → ((⟨#[48, 49, 50, 51, 52, 53, 54, 55, 56, 57, 97, 98, 99, 100, 101, 102, 48, 49, 50, 51, 52, 53, 54, 55, 56, 57, 65, 66, 67, 68, 69, 70]⟩ : ByteArray).extract x 32).extract 0 1 = ⟨[hexD x].toArray⟩ := by decide +kernel
theorem tw_bool (s : Bs) (c : UInt8) (H i : Nat) (hi : i < s.length) : ∃ b1 b2 : UInt8, (∀ h : i - 1 < (⟨s.toArray⟩ : ByteArray).size, (⟨s.toArray⟩ : ByteArray)[i - 1]'h = b1) ∧ (∀ h : i - 2 < (⟨s.toArray⟩ : ByteArray).size, (⟨s.toArray⟩ : ByteArray)[i - 2]'h = b2) ∧
    (turnc c && H % 4 == 3 && clear2 s i) = decide (((97 ≤ c.toNat ∧ c.toNat ≤ 122 ∨ 48 ≤ c.toNat ∧ c.toNat ≤ 57) ∨ c.toNat = 126 ∨ c.toNat = 46) ∧ H % 4 = 3 ∧ (i < 2 ∨ ¬ b1.toNat = 37 ∧ ¬ b2.toNat = 37) ∧ (i < 1 ∨ ¬ b1.toNat = 37)) := by
  refine ⟨s[i - 1], s[i - 2], fun _ => rfl, fun _ => rfl, ?_⟩
  have h37 : ∀ x : UInt8, (¬ x.toNat = 37) ↔ ¬ x = 37 := fun x => by rw [u8eq]; rfl
  unfold turnc clear2
  rw [List.getElem?_eq_getElem (show i - 1 < s.length by omega), List.getElem?_eq_getElem (show i - 2 < s.length by omega), Bool.eq_iff_iff]
  simp only [decide_eq_true_eq, Bool.or_eq_true, Bool.and_eq_true, bne_iff_ne, ne_eq, beq_iff_eq, Option.some.injEq, h37, and_assoc]

set_option maxRecDepth 100000 in
set_option maxHeartbeats 12000000 in
theorem law09_twist (s how : Bs) (v : Value) (w : World) (hg : GX w) (hl : s.length ≤ 10000) (ha : ∀ c ∈ s, c.toNat < 128) (hw : How w v how) :
    Calls Tryz.prog 23 #[.string ⟨s.toArray⟩, v] w (Ret w (.string ⟨(twistB s how).toArray⟩)) := by
  have HG := Lib.hid hg
  have HA := Lib.hid ha
  obtain ⟨a, n, cp, rfl, hn⟩ : ∃ a n cp, v = .slice a n cp ∧ n = how.length := by
    rcases hw with ⟨rfl, a, c, rfl⟩ | ⟨b, o, c, rfl, h2, h3, h4, h5⟩
    · exact ⟨_, _, _, rfl, rfl⟩
    · exact ⟨_, _, _, rfl, rfl⟩
  have HN := Lib.hid hn
  have HW := Lib.hid hw
  clear hg ha hw hn
  go_enter Tryz.func23, Tryz.ntmps23
  go_wp2_with fail
  go_loopw [6, 7] (fun t ix wr => ∃ (i : Nat) (out : Bs), t = .string ⟨out.toArray⟩ ∧ ix = .int .i64 i ∧ i ≤ 10002 ∧ Hid (TwI s how i out) ∧ Hid (Below w.heap.size w wr)) (fun _ ix _ => s.length + 3 - (intOf ix).toNat)
  case atStart => exact ⟨0, [], rfl, rfl, by omega, Lib.hid (TwI.start s how), Lib.hid (Below.refl _ _)⟩
  case round =>
    obtain ⟨i, out, rfl, rfl, hi, HT, HB⟩ := hrel
    by_cases hlt : i < s.length
    · have HWr := Lib.hid (HW.out.next HB.out)
      go_upto_if 18 with fail
      go_cut [8] (fun h wx => h = .int .u8 (howAt how i : Int) ∧ wx = wr)
      case first => as_aux_lemma =>
        rcases Nat.eq_zero_or_pos n with rfl | hn0
        · have hz : howAt how i = 0 := by
            have : how = [] := List.length_eq_zero_iff.1 HN.out.symm
            rw [this]; rfl
          have HZ := Lib.hid hz
          clear hz
          go_wp2_with fail
          go_meet
          exact ⟨by rw [HZ.out]; rfl, rfl⟩
        · obtain ⟨m, hm, hmn, b, o, rfl, hc, hv⟩ : ∃ m : Nat, Int.tmod (i : Int) (n : Int) = (m : Int) ∧ m < n ∧ ∃ b o, a = some ⟨b, o, none⟩ ∧ wr.cell? ⟨b, o + m, none⟩ = some (.int .u8 (howAt how i : Int)) ∧ n ≤ 9000000000000000000 := by
            rcases HWr.out with ⟨rfl, a', c', hh⟩ | ⟨b, o, c', hh, h2, h3, h4, h5⟩
            · have := HN.out; simp at this; omega
            · have hn := HN.out
              subst hn
              have hlt9 : i % how.length < how.length := Nat.mod_lt _ hn0
              refine ⟨i % how.length, ?_, hlt9, b, o, ?_, ?_, h3⟩
              · rw [Int.tmod_eq_emod_of_nonneg (by omega)]; rfl
              · injection hh
              · rw [h5 _ hlt9]; unfold howAt; rw [List.getElem?_eq_getElem hlt9]; rfl
          have n0 : (0 : Int) < (n : Int) := by omega
          have n1 : ¬ ((n : Int) = 0) := by omega
          have m0 : (0 : Int) ≤ (m : Int) := by omega
          have m1 : (m : Int) < (n : Int) := by omega
          go_wp2_with fail
          go_meet
          exact ⟨rfl, rfl⟩
      case rest =>
        obtain ⟨rfl, rfl⟩ := hcut
        have hH : howAt how i < 256 := by unfold howAt; exact UInt8.toNat_lt _
        obtain ⟨c, hc⟩ : ∃ c, c = s[i] := ⟨_, rfl⟩
        have HS := Lib.hid (HT.out.step hlt)
        rw [← hc] at HS
        have HC := Lib.hid hc
        obtain ⟨H, hHe⟩ : ∃ H : Nat, H = howAt how i := ⟨_, rfl⟩
        rw [← hHe] at hH ⊢
        have HHE := Lib.hid hHe
        have hci : ∀ h : i < (⟨s.toArray⟩ : ByteArray).size, (⟨s.toArray⟩ : ByteArray)[i]'h = c := fun h => hc.symm
        clear hHe hc
        have q1 : Int.tmod (H : Int) 2 = ((H % 2 : Nat) : Int) := by rw [Int.tmod_eq_emod_of_nonneg (by omega)]; omega
        have q2 : IntKind.i64.wrap ((i : Int) + 2) = (i : Int) + 2 := IntWalk.i64_in _ (by omega)
        go_upto_region 11 with fail
        go_cut [34] (fun t wx => t = .bool (decide (c = 37 ∧ i + 2 < s.length ∧ H % 2 = 1)) ∧ wx = wc)
        case first => as_aux_lemma =>
          by_cases c37 : c = 37
          · subst c37
            by_cases e2 : i + 2 < s.length
            · have q5 : (i : Int) + 2 < (s.length : Int) := by omega
              rcases Nat.mod_two_eq_zero_or_one H with e3 | e3
              all_goals
                rw [e3] at q1
                go_wp2_with fail
                go_meet
                exact ⟨by simp [e2, e3], rfl⟩
            · have q5 : ¬ (i : Int) + 2 < (s.length : Int) := by omega
              go_wp2_with fail
              go_meet
              exact ⟨by simp [e2], rfl⟩
          · have c38 : ¬ (c.toNat : Int) = 37 := fun h => c37 (by rw [u8eq]; show c.toNat = 37; omega)
            go_wp2_with fail
            go_meet
            exact ⟨by simp [c37], rfl⟩
        case rest =>
        obtain ⟨rfl, rfl⟩ := hcut
        by_cases e1 : c = 37 ∧ i + 2 < s.length ∧ H % 2 = 1
        · rw [decide_eq_true e1]
          obtain ⟨rfl, e2, e3⟩ := e1
          have q3 : IntKind.i64.wrap ((i : Int) + 1) = (i : Int) + 1 := IntWalk.i64_in _ (by omega)
          have q4 : IntKind.i64.wrap ((i : Int) + 3) = (i : Int) + 3 := IntWalk.i64_in _ (by omega)
          have q5 : (i : Int) + 2 < (s.length : Int) := by omega
          have hol : out.length ≤ 30006 := by obtain ⟨k, _, _, h⟩ := HT.out; omega
          have r1 : ∀ W, (Op.stringOp .add ⟨out.toArray⟩ ⟨#[37]⟩).run Tryz.prog W = .ok (.string ⟨(out ++ [37]).toArray⟩) W := by
            intro W
            have := run_string_add_sum (P := Tryz.prog) W ⟨out.toArray⟩ ⟨#[37]⟩ (by rw [← bs_size]; show out.length + 1 ≤ _; omega)
            rw [show (⟨#[37]⟩ : ByteArray) = ⟨[37].toArray⟩ from rfl, cat_bs] at this; exact this
          have HS3 := Lib.hid (show TwI s how (i + 3) (out ++ (37 :: lower ((s.drop (i + 1)).take 2))) by
            have := HS.out
            rw [tw_esc rfl e2 (by rw [← HHE.out]; exact e3)] at this; exact this)
          have HX := Lib.hid (show (⟨s.toArray⟩ : ByteArray).extract (i + 1) (i + 3) = ⟨((s.drop (i + 1)).take 2).toArray⟩ from bs_ext (by rw [Lib.extract_data]; simp))
          have hql : ((s.drop (i + 1)).take 2).length ≤ 2 := by rw [List.length_take]; omega
          have HQA := Lib.hid (show ∀ c ∈ (s.drop (i + 1)).take 2, c.toNat < 128 from fun c hc => HA.out c (List.mem_of_mem_drop (List.mem_of_mem_take hc)))
          generalize (s.drop (i + 1)).take 2 = q at *
          have r2 : ∀ W, (Op.stringOp .add ⟨(out ++ [37]).toArray⟩ ⟨(lower q).toArray⟩).run Tryz.prog W = .ok (.string ⟨(out ++ 37 :: lower q).toArray⟩) W := by
            intro W
            have := run_string_add_sum (P := Tryz.prog) W ⟨(out ++ [37]).toArray⟩ ⟨(lower q).toArray⟩ (by rw [← bs_size, ← bs_size]; show (out ++ [37]).length + (lower q).length ≤ _; unfold lower; rw [List.length_append, List.length_map]; show out.length + 1 + q.length ≤ _; omega)
            rw [cat_bs, List.append_assoc] at this; exact this
          go_wp2_with fail
          rw [HX.out]
          refine (lib_LowerA q (by omega) HQA.out _).mono ?_
          rintro e w4 ⟨rfl, hb4⟩
          have HB4 := Lib.hid (HB.out.trans (hb4.mono HB.out.size))
          clear hb4
          go_wp2_with fail
          go_roundw
          case rel => exact ⟨i + 3, out ++ (37 :: lower q), rfl, by go_num, by omega, HS3, HB4⟩
          case measure => (simp [intOf] <;> omega)
        · rw [decide_eq_false e1]
          have HE1 := Lib.hid e1
          clear e1 q1 q2
          go_upto_region 14 with fail
          go_cut [9, 61] (fun cc t wx => cc = .int .u8 (c.toNat : Int) ∧ t = .bool (turnc c && H % 4 == 3 && clear2 s i) ∧ wx = wc)
          case first =>
            have n4 : Int.tmod (H : Int) 4 = ((H % 4 : Nat) : Int) := by rw [Int.tmod_eq_emod_of_nonneg (by omega)]; omega
            have q6 : IntKind.i64.wrap ((i : Int) - 1) = (i : Int) - 1 := IntWalk.i64_in _ (by omega)
            have q7 : IntKind.i64.wrap ((i : Int) - 2) = (i : Int) - 2 := IntWalk.i64_in _ (by omega)
            have q8 : ((i : Int) - 1).toNat = i - 1 := by omega
            have q9 : ((i : Int) - 2).toNat = i - 2 := by omega
            obtain ⟨b1, b2, g1, g2, g3⟩ := tw_bool s c H i hlt
            have HT3 := Lib.hid g3
            clear g3
            clear HG HA HN HW HS HC HHE hci HE1 HB HWr
            rcases Nat.lt_or_ge c.toNat 97 with d1 | d1
            all_goals rcases Nat.lt_or_ge i 2 with d2 | d2
            all_goals as_aux_lemma =>
              go_wp2_with fail
              all_goals go_meet
              all_goals
                refine ⟨by first | rfl | (congr 1; omega), ?_, rfl⟩
                rw [HT3.out]
                congr 1
                rw [Bool.eq_iff_iff]
                simp only [decide_eq_true_eq, Bool.or_eq_true, Bool.and_eq_true, bne_iff_ne, ne_eq, Bool.false_eq_true, false_iff, true_iff, iff_true, iff_false, beq_iff_eq]
                clear q6 q7 q8 q9
                omega
          case rest =>
            obtain ⟨rfl, rfl, rfl⟩ := hcut
            rcases ht : (turnc c && H % 4 == 3 && clear2 s i) with _ | _
            · have HS1 := Lib.hid (show TwI s how (i + 1) (out ++ [c]) by
                have := HS.out
                rw [tw_else (by rw [← HHE.out]; exact HE1.out) (by rw [← HHE.out]; intro hh; rw [hh.1, hh.2.2, show (H % 4 == 3) = true from by rw [hh.2.1]; rfl] at ht; cases ht)] at this; exact this)
              clear ht
              have hol : out.length ≤ 30006 := by obtain ⟨k, _, _, h⟩ := HT.out; omega
              have k1 := conv_one wc c (c.toNat : Int) rfl
              have k2 : ∀ W, (Op.stringOp .add ⟨out.toArray⟩ ⟨[c].toArray⟩).run Tryz.prog W = .ok (.string ⟨(out ++ [c]).toArray⟩) W := by
                intro W
                have := run_string_add_sum (P := Tryz.prog) W ⟨out.toArray⟩ ⟨[c].toArray⟩ (by rw [← bs_size]; show out.length + 1 ≤ _; omega)
                rw [cat_bs] at this; exact this
              have HB5 := Lib.hid (HB.out.alloc HB.out.size (.cells #[.int .u8 (c.toNat : Int)] 5))
              go_wp2_with fail
              go_roundw
              case rel => exact ⟨i + 1, out ++ [c], rfl, by go_num, by omega, HS1, HB5⟩
              case measure => (simp [intOf] <;> omega)
            · have HS1 := Lib.hid (show TwI s how (i + 1) (out ++ escOf c H) by
                have := HS.out
                rw [Bool.and_eq_true, Bool.and_eq_true, beq_iff_eq] at ht
                rw [tw_turn (by rw [← HHE.out]; exact HE1.out) ht.1.1 (by rw [← HHE.out]; exact ht.1.2) ht.2, ← HHE.out] at this; exact this)
              clear ht
              have hol : out.length ≤ 30006 := by obtain ⟨k, _, _, h⟩ := HT.out; omega
              go_upto_region 15 with fail
              have hc256 : c.toNat < 256 := c.toNat_lt
              obtain ⟨x, hx⟩ : ∃ x : Nat, x = c.toNat / 16 + 16 * (H / 4 % 2) := ⟨_, rfl⟩
              obtain ⟨z, hz⟩ : ∃ z : Nat, z = c.toNat % 16 + 16 * (H / 8 % 2) := ⟨_, rfl⟩
              have x1 : (c.toNat : Int) / 16 + 16 * ((H : Int) / 4 % 2) = (x : Int) := by omega
              have x2 : (x : Int) < 32 := by omega
              have z1 : (c.toNat : Int) % 16 + 16 * ((H : Int) / 8 % 2) = (z : Int) := by omega
              have z2 : (z : Int) < 32 := by omega
              have HXe := Lib.hid hx
              have HZe := Lib.hid hz
              clear hx hz
              have HX2 := Lib.hid (hex_cut x (by omega))
              have HZ2 := Lib.hid (hex_cut z (by omega))
              go_quiet (fail)
              have HB5 := Lib.hid (show Below w.heap.size w (wc.drewN nq) from below_drewN HB.out nq)
              go_wp2_with fail
              go_roundw
              case rel =>
                refine ⟨i + 1, out ++ escOf c H, ?_, by go_num, by omega, HS1, HB5⟩
                rw [HX2.out, HZ2.out, show (⟨#[37]⟩ : ByteArray) = ⟨[37].toArray⟩ from rfl, cat_bs, cat_bs, cat_bs, HXe.out, HZe.out]
                unfold escOf; simp
              case measure => (simp [intOf] <;> omega)
    · have HE := Lib.hid (HT.out.stop (by omega))
      go_wp2_with fail
      go_ret
      exact ⟨ret_str HE.out, HB.out⟩
end Go.Proofs.YtobhceopfjcmnaaGreatDoor
