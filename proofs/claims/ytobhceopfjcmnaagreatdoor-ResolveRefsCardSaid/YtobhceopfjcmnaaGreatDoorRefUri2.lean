/- The reference's layer 9: digits, text, Check, Put. -/
import Derived.Test.YtobhceopfjcmnaaGreatDoorRefUri1
import Derived.Test.YtobhceopfjcmnaaGreatDoorUriBox
import Derived.Outline
namespace Go.Proofs.YtobhceopfjcmnaaGreatDoor
open Go.RowKit
set_option linter.unusedVariables false

theorem dec_small {m : Nat} (h : m < 10) : Lib.decDigits m = [UInt8.ofNat (48 + m)] := by rw [Lib.decDigits, dif_pos h]
theorem dec_big {m : Nat} (h : ¬ m < 10) : Lib.decDigits m = Lib.decDigits (m / 10) ++ [UInt8.ofNat (48 + m % 10)] := by rw [Lib.decDigits, dif_neg h]
theorem dec_num (n : Nat) (h : n < 1000000) : Lib.decDigits n = numB n := (numK_dec 6 n (by simpa using h) (by decide)).symm

set_option maxRecDepth 100000 in
set_option maxHeartbeats 1000000 in
theorem ref09_Digits (n : Nat) (w : World) (hn : n < 1000000) : Calls Tryz.prog 104 #[.int .i64 (n : Int)] w (Ret w (.string ⟨(numB n).toArray⟩)) := by
  have HN := Lib.hid (dec_num n hn)
  go_enter Tryz.func104, Tryz.ntmps104
  go_wp2
  go_loopw [0, 3] (fun m t wr => ∃ (k : Nat) (l : Bs), k < 1000000 ∧ m = .int .i64 k ∧ t = .string ⟨l.toArray⟩ ∧ l.length + k ≤ 1000000 ∧ Hid (Lib.decDigits k ++ l = Lib.decDigits n) ∧ Hid (Below w.heap.size w wr)) (fun m _ _ => (intOf m).toNat)
  case atStart => exact ⟨n, [], hn, rfl, rfl, by simp; omega, Lib.hid (by simp), Lib.hid (Below.refl _ _)⟩
  case round =>
    obtain ⟨k, l, hk, rfl, rfl, hl, HD, HB⟩ := hrel
    have hcv := conv_one wr (UInt8.ofNat (48 + k % 10)) (48 + (k : Int) % 10) (by rw [UInt8.toNat_ofNat_of_lt' (by show _ < 256; omega)]; omega)
    have HB2 := Lib.hid (HB.out.alloc HB.out.size (.cells #[.int .u8 (48 + (k : Int) % 10)] 5))
    by_cases hs : k < 10
    · have HE := Lib.hid (show UInt8.ofNat (48 + k % 10) :: l = numB n by
        rw [← HN.out, ← HD.out, dec_small hs, Nat.mod_eq_of_lt hs]; rfl)
      have z1 : (k : Int) / 10 = 0 := by omega
      generalize UInt8.ofNat (48 + k % 10) = b at *
      go_wp2
      go_ret
      exact ⟨ret_str (by rw [← HE.out]; simp), HB2.out⟩
    · have HE := Lib.hid (show Lib.decDigits (k / 10) ++ (UInt8.ofNat (48 + k % 10) :: l) = Lib.decDigits n by
        rw [← HD.out, dec_big hs]; simp)
      have z1 : (((k : Int) / 10) == 0) = false := by rw [beq_eq_false_iff_ne]; omega
      have z2 : ¬ ((k : Int) / 10 = 0) := by omega
      generalize UInt8.ofNat (48 + k % 10) = b at *
      have HT := Lib.hid (cat_bs [b] l)
      go_wp2
      go_roundw
      case rel => exact ⟨k / 10, b :: l, by omega, by go_num, by rw [HT.out]; rfl, by simp; omega, HE, HB2⟩
      case measure => (simp [intOf] <;> omega)

set_option maxRecDepth 100000 in
theorem ref09_Text (u : U) (w : World) (hl : LimU u) (hp : 0 ≤ u.port ∧ u.port ≤ 65535) :
    Calls Tryz.prog 57 #[uV u] w (Ret w (.string ⟨(textB u).toArray⟩)) := by
  obtain ⟨sc, ho, po, pa, qu, hq⟩ := u
  obtain ⟨l1, l2, l3, l4⟩ := hl
  obtain ⟨p1, p2⟩ := hp
  simp only at l1 l2 l3 l4 p1 p2
  have HT := Lib.hid (text_parts ⟨sc, ho, po, pa, qu, hq⟩)
  have HB := Lib.hid (ubx_new w ⟨sc, ho, po, pa, qu, hq⟩)
  have HW := Lib.hid ((Below.refl w.heap.size w).alloc (Nat.le_refl _) (.cells #[.string ⟨sc.toArray⟩, .string ⟨ho.toArray⟩, .int .i64 po, .string ⟨pa.toArray⟩, .string ⟨qu.toArray⟩, .bool hq] 23))
  by_cases hp0 : po = 0
  · subst hp0
    go_enter Tryz.func57, Tryz.ntmps57
    cases hq
    all_goals
      go_wp2_with fail
      go_ret
      exact ⟨ret_str (by rw [HT.out]; simp), HW.out⟩
  · obtain ⟨n, rfl⟩ : ∃ n : Nat, po = n := ⟨po.toNat, by omega⟩
    have hn0 : ((n : Int) == 0) = false := by rw [beq_eq_false_iff_ne]; exact hp0
    have hn1 : (0 : Int) < (n : Int) := by omega
    have hn2 := numK_len 6 5 n (by omega) (by omega)
    have HE := Lib.hid hn0
    clear hn0
    go_enter Tryz.func57, Tryz.ntmps57
    go_wp2_with fail
    generalize w.alloc (.cells #[.string ⟨sc.toArray⟩, .string ⟨ho.toArray⟩, .int .i64 (n : Int), .string ⟨pa.toArray⟩, .string ⟨qu.toArray⟩, .bool hq] 23) = W at *
    refine (ref09_Digits n W (by omega)).mono ?_
    rintro e w1 ⟨rfl, hb1⟩
    obtain ⟨c0, c1, c2, c3, c4, c5⟩ := (HB.out.next hb1).cells
    have HW1 := Lib.hid (HW.out.trans (hb1.mono HW.out.size))
    clear hb1
    simp only at c0 c1 c2 c3 c4 c5
    have hnb : (numB n).length ≤ 5 := hn2
    generalize hB : numB n = nb at *
    have HNB := Lib.hid hB
    clear hB hn2
    cases hq
    all_goals
      go_wp2_with fail
      go_ret
      exact ⟨ret_str (by rw [HT.out, HE.out, Int.toNat_natCast, HNB.out]; simp), HW1.out⟩
end Go.Proofs.YtobhceopfjcmnaaGreatDoor
