/- The reference's layer 9: digits, text, Check, Put. The reference's layer 9: Check and Put. -/
import Derived.Test.YtmkpejioinkceaaGreatDoorRefUri1
import Derived.Test.YtmkpejioinkceaaGreatDoorUriBox
import Derived.Outline
namespace Go.Proofs.YtmkpejioinkceaaGreatDoor
open Go.RowKit
set_option linter.unusedVariables false

theorem dec_small {m : Nat} (h : m < 10) : Lib.decDigits m = [UInt8.ofNat (48 + m)] := by rw [Lib.decDigits, dif_pos h]
theorem dec_big {m : Nat} (h : ¬ m < 10) : Lib.decDigits m = Lib.decDigits (m / 10) ++ [UInt8.ofNat (48 + m % 10)] := by rw [Lib.decDigits, dif_neg h]
theorem dec_num (n : Nat) (h : n < 1000000) : Lib.decDigits n = numB n := (numK_dec 6 n (by simpa using h) (by decide)).symm

set_option maxRecDepth 100000 in
set_option maxHeartbeats 1000000 in
theorem ref09_Digits (n : Nat) (w : World) (hn : n < 1000000) : Calls Tryz.prog 92 #[.int .i64 (n : Int)] w (Ret w (.string ⟨(numB n).toArray⟩)) := by
  have HN := Lib.hid (dec_num n hn)
  go_enter Tryz.func92, Tryz.ntmps92
  go_wp2
  go_loopw [0, 3] (fun m t wr => ∃ (k : Nat) (l : Bs), k < 1000000 ∧ m = .int .i64 k ∧ t = .string ⟨l.toArray⟩ ∧ l.length + k ≤ 1000000 ∧ Hid (Lib.decDigits k ++ l = Lib.decDigits n) ∧ Hid (Below w.heap.size w wr)) (fun m _ _ => (intOf m).toNat)
  case atStart => exact ⟨n, [], hn, rfl, rfl, by simp; omega, Lib.hid (by simp), Lib.hid (Below.refl _ _)⟩
  case round =>
    obtain ⟨k, l, hk, rfl, rfl, hl, HD, HB⟩ := hrel
    have hcv := conv_one wr (UInt8.ofNat (48 + k % 10)) (48 + (k : Int) % 10) (by rw [UInt8.toNat_ofNat_of_lt' (by show _ < 256; omega)]; omega)
    have HB2 := Lib.hid (HB.out.alloc HB.out.size (.cells #[.int .u8 (48 + (k : Int) % 10)] 5))
    by_cases hs : k < 10
    · have HE := Lib.hid (show UInt8.ofNat (48 + k % 10) :: l = numB n by
        rw [← HN.out, ← HD.out, dec_small hs, Nat.mod_eq_of_lt hs]; rfl)
      have z1 : (k : Int) / 10 = 0 := by omega
      generalize UInt8.ofNat (48 + k % 10) = b at *
      go_wp2
      go_ret
      exact ⟨ret_str (by rw [← HE.out]; simp), HB2.out⟩
    · have HE := Lib.hid (show Lib.decDigits (k / 10) ++ (UInt8.ofNat (48 + k % 10) :: l) = Lib.decDigits n by
        rw [← HD.out, dec_big hs]; simp)
      have z1 : (((k : Int) / 10) == 0) = false := by rw [beq_eq_false_iff_ne]; omega
      have z2 : ¬ ((k : Int) / 10 = 0) := by omega
      generalize UInt8.ofNat (48 + k % 10) = b at *
      have HT := Lib.hid (cat_bs [b] l)
      go_wp2
      go_roundw
      case rel => exact ⟨k / 10, b :: l, by omega, by go_num, by rw [HT.out]; rfl, by simp; omega, HE, HB2⟩
      case measure => (simp [intOf] <;> omega)

set_option maxRecDepth 100000 in
theorem ref09_Text (u : U) (w : World) (hl : LimU u) (hp : 0 ≤ u.port ∧ u.port ≤ 65535) :
    Calls Tryz.prog 58 #[uV u] w (Ret w (.string ⟨(textB u).toArray⟩)) := by
  obtain ⟨sc, ho, po, pa, qu, hq⟩ := u
  obtain ⟨l1, l2, l3, l4⟩ := hl
  obtain ⟨p1, p2⟩ := hp
  simp only at l1 l2 l3 l4 p1 p2
  have HT := Lib.hid (text_parts ⟨sc, ho, po, pa, qu, hq⟩)
  have HB := Lib.hid (ubx_new w ⟨sc, ho, po, pa, qu, hq⟩)
  have HW := Lib.hid ((Below.refl w.heap.size w).alloc (Nat.le_refl _) (.cells #[.string ⟨sc.toArray⟩, .string ⟨ho.toArray⟩, .int .i64 po, .string ⟨pa.toArray⟩, .string ⟨qu.toArray⟩, .bool hq] 23))
  by_cases hp0 : po = 0
  · subst hp0
    go_enter Tryz.func58, Tryz.ntmps58
    cases hq
    all_goals
      go_wp2_with fail
      go_ret
      exact ⟨ret_str (by rw [HT.out]; simp), HW.out⟩
  · obtain ⟨n, rfl⟩ : ∃ n : Nat, po = n := ⟨po.toNat, by omega⟩
    have hn0 : ((n : Int) == 0) = false := by rw [beq_eq_false_iff_ne]; exact hp0
    have hn1 : (0 : Int) < (n : Int) := by omega
    have hn2 := numK_len 6 5 n (by omega) (by omega)
    have HE := Lib.hid hn0
    clear hn0
    go_enter Tryz.func58, Tryz.ntmps58
    go_wp2_with fail
    generalize w.alloc (.cells #[.string ⟨sc.toArray⟩, .string ⟨ho.toArray⟩, .int .i64 (n : Int), .string ⟨pa.toArray⟩, .string ⟨qu.toArray⟩, .bool hq] 23) = W at *
    refine (ref09_Digits n W (by omega)).mono ?_
    rintro e w1 ⟨rfl, hb1⟩
    obtain ⟨c0, c1, c2, c3, c4, c5⟩ := (HB.out.next hb1).cells
    have HW1 := Lib.hid (HW.out.trans (hb1.mono HW.out.size))
    clear hb1
    simp only at c0 c1 c2 c3 c4 c5
    have hnb : (numB n).length ≤ 5 := hn2
    generalize hB : numB n = nb at *
    have HNB := Lib.hid hB
    clear hB hn2
    cases hq
    all_goals
      go_wp2_with fail
      go_ret
      exact ⟨ret_str (by rw [HT.out, HE.out, Int.toNat_natCast, HNB.out]; simp), HW1.out⟩
end Go.Proofs.YtmkpejioinkceaaGreatDoor

namespace Go.Proofs.YtmkpejioinkceaaGreatDoor
open Go.RowKit
set_option linter.unusedVariables false

set_option maxRecDepth 100000 in
set_option maxHeartbeats 2000000 in
theorem ref09_Check_no (u : U) (w : World) (h1 : ¬ u.scheme = http) (h2 : ¬ u.scheme = https) :
    Calls Tryz.prog 32 #[uV u] w (Ret w (.int .i64 (checkB u))) := by
  have HE := Lib.hid (check_bad (bad_scheme h1 h2))
  have HW := Lib.hid ((Below.refl w.heap.size w).alloc (Nat.le_refl _) (.cells #[.string ⟨u.scheme.toArray⟩, .string ⟨u.host.toArray⟩, .int .i64 u.port, .string ⟨u.path.toArray⟩, .string ⟨u.query.toArray⟩, .bool u.hq] 23))
  have g1 : ¬ u.scheme = [104, 116, 116, 112] := h1
  have g2 : (!u.scheme == [104, 116, 116, 112]) = true := by rw [Bool.not_eq_true', beq_eq_false_iff_ne]; exact h1
  have g3 : (!u.scheme == [104, 116, 116, 112, 115]) = true := by rw [Bool.not_eq_true', beq_eq_false_iff_ne]; exact h2
  clear h1 h2
  go_enter Tryz.func32, Tryz.ntmps32
  go_wp2_with fail
  go_ret
  exact ⟨ret_int HE.out.symm, HW.out⟩

set_option maxRecDepth 100000 in
set_option maxHeartbeats 4000000 in
theorem rcheck_http (ho pa qu : Bs) (po : Int) (hq : Bool) (w : World) (hl : LimU ⟨[104, 116, 116, 112], ho, po, pa, qu, hq⟩) :
    Calls Tryz.prog 32 #[uV ⟨[104, 116, 116, 112], ho, po, pa, qu, hq⟩] w (Ret w (.int .i64 (checkB ⟨[104, 116, 116, 112], ho, po, pa, qu, hq⟩))) := by
  have HB := Lib.hid (ubx_new w ⟨[104, 116, 116, 112], ho, po, pa, qu, hq⟩)
  have HW := Lib.hid ((Below.refl w.heap.size w).alloc (Nat.le_refl _) (.cells #[.string ⟨([104, 116, 116, 112] : Bs).toArray⟩, .string ⟨ho.toArray⟩, .int .i64 po, .string ⟨pa.toArray⟩, .string ⟨qu.toArray⟩, .bool hq] 23))
  have HL := Lib.hid hl
  obtain ⟨l1, l2, l3, l4⟩ := hl
  simp only at l1 l2 l3 l4
  clear l1
  obtain ⟨c0, c1, c2, c3, c4, c5⟩ := HB.out.cells
  simp only at c0 c1 c2 c3 c4 c5
  go_enter Tryz.func32, Tryz.ntmps32
  go_wp2_with fail
  generalize w.alloc (.cells #[.string ⟨([104, 116, 116, 112] : Bs).toArray⟩, .string ⟨ho.toArray⟩, .int .i64 po, .string ⟨pa.toArray⟩, .string ⟨qu.toArray⟩, .bool hq] 23) = W at *
  refine (ref09_Host ⟨ho.toArray⟩ W (by show ho.length ≤ _; omega)).mono ?_
  rintro e w1 ⟨rfl, rfl⟩
  rw [show hostOk (⟨ho.toArray⟩ : ByteArray).data.toList = hostOk ho from rfl]
  rcases hho : hostOk ho with _ | _
  · have HE := Lib.hid (check_bad (u := ⟨[104, 116, 116, 112], ho, po, pa, qu, hq⟩) (by unfold formB; rw [show hostOk (U.host ⟨[104, 116, 116, 112], ho, po, pa, qu, hq⟩) = false from hho]; simp))
    clear hho
    go_wp2_with fail
    go_ret
    exact ⟨ret_int HE.out.symm, HW.out⟩
  · have HHO := Lib.hid hho
    clear hho
    by_cases hp : 0 ≤ po ∧ po ≤ 65535
    · obtain ⟨p1, p2⟩ := hp
      have p0 : ¬ po < 0 := by omega
      go_wp2_with fail
      refine (ref09_Path pa W (by omega)).mono ?_
      rintro e w1 ⟨rfl, rfl⟩
      rcases hpp : pathOk pa with _ | _
      · have HE := Lib.hid (check_bad (bad_path (u := ⟨[104, 116, 116, 112], ho, po, pa, qu, hq⟩) hpp))
        clear hpp
        go_wp2_with fail
        go_ret
        exact ⟨ret_int HE.out.symm, HW.out⟩
      · have HPP := Lib.hid hpp
        clear hpp
        go_wp2_with fail
        refine (ref09_Query ⟨qu.toArray⟩ W (by show qu.length ≤ _; omega)).mono ?_
        rintro e w1 ⟨rfl, rfl⟩
        rw [show madeB queryc (⟨qu.toArray⟩ : ByteArray).data.toList = madeB queryc qu from rfl]
        rcases hqm : madeB queryc qu with _ | _
        · have HE := Lib.hid (check_bad (bad_query (u := ⟨[104, 116, 116, 112], ho, po, pa, qu, hq⟩) hqm))
          clear hqm
          go_wp2_with fail
          go_ret
          exact ⟨ret_int HE.out.symm, HW.out⟩
        · by_cases hqq : hq = false ∧ ¬ qu = []
          · obtain ⟨q1, q2⟩ := hqq
            have HE := Lib.hid (check_bad (bad_hq (u := ⟨[104, 116, 116, 112], ho, po, pa, qu, hq⟩) q1 q2))
            subst q1
            have q2b : qu.isEmpty = false := by cases qu with | nil => exact (q2 rfl).elim | cons a b => rfl
            clear hqm
            go_wp2_with fail
            go_ret
            exact ⟨ret_int HE.out.symm, HW.out⟩
          · have HQ := Lib.hid (show hq = true ∨ qu = [] by
              cases hq
              · exact .inr (by by_cases h : qu = []; exact h; exact (hqq ⟨rfl, h⟩).elim)
              · exact .inl rfl)
            clear hqq
            have hhd : 1 ≤ ho.length ∧ ho.length ≤ 253 ∧ ho.all hostc = true := by
              have := HHO.out
              unfold hostOk at this
              rw [Bool.and_eq_true, decide_eq_true_eq] at this
              exact ⟨this.1.1, this.1.2, this.2⟩
            have HF := Lib.hid ((form_iff ⟨[104, 116, 116, 112], ho, po, pa, qu, hq⟩).2 ⟨.inl rfl, ⟨hhd.1, hhd.2.1⟩, hhd.2.2, ⟨p1, p2⟩, pathOk_cons HPP.out, HQ.out, hqm⟩)
            obtain ⟨tx, htx⟩ : ∃ tx, textB ⟨[104, 116, 116, 112], ho, po, pa, qu, hq⟩ = tx := ⟨_, rfl⟩
            have HEG := Lib.hid (show tx.length ≤ maxURI → checkB ⟨[104, 116, 116, 112], ho, po, pa, qu, hq⟩ = 0 from fun h => check_good HF.out (by rw [htx]; exact h))
            have HEL := Lib.hid (show maxURI < tx.length → checkB ⟨[104, 116, 116, 112], ho, po, pa, qu, hq⟩ = 3 from fun h => check_long HF.out (by rw [htx]; exact h))
            have FIN := Lib.hid (show ∀ w3, Calls Tryz.prog 58 #[uV ⟨[104, 116, 116, 112], ho, po, pa, qu, hq⟩] w3 (Ret w3 (.string ⟨tx.toArray⟩)) from fun w3 => by rw [← htx]; exact ref09_Text ⟨[104, 116, 116, 112], ho, po, pa, qu, hq⟩ w3 HL.out ⟨p1, p2⟩)
            clear htx hqm hhd
            rcases hq with _ | _
            · have hqu : qu = [] := by (rcases HQ.out with h | h; cases h; exact h)
              subst hqu
              go_wp2_with fail
              refine (FIN.out W).mono ?_
              rintro e w4 ⟨rfl, hb4⟩
              have HW4 := Lib.hid (HW.out.trans (hb4.mono HW.out.size))
              clear hb4 c0 c1 c2 c3 c4 c5
              by_cases htl : tx.length ≤ maxURI
              · have HE := Lib.hid (HEG.out htl)
                unfold maxURI at htl
                have ht : (tx.length : Int) ≤ 1024 := by omega
                go_wp2_with fail
                go_ret
                exact ⟨ret_int HE.out.symm, HW4.out⟩
              · have HE := Lib.hid (HEL.out (by omega))
                unfold maxURI at htl
                have ht : (1024 : Int) < (tx.length : Int) := by omega
                go_wp2_with fail
                go_ret
                exact ⟨ret_int HE.out.symm, HW4.out⟩
            · rcases Decidable.em (qu = []) with rfl | hqe
              all_goals
                go_wp2_with fail
                refine (FIN.out W).mono ?_
                rintro e w4 ⟨rfl, hb4⟩
                have HW4 := Lib.hid (HW.out.trans (hb4.mono HW.out.size))
                clear hb4 c0 c1 c2 c3 c4 c5
                by_cases htl : tx.length ≤ maxURI
                · have HE := Lib.hid (HEG.out htl)
                  unfold maxURI at htl
                  have ht : (tx.length : Int) ≤ 1024 := by omega
                  go_wp2_with fail
                  go_ret
                  exact ⟨ret_int HE.out.symm, HW4.out⟩
                · have HE := Lib.hid (HEL.out (by omega))
                  unfold maxURI at htl
                  have ht : (1024 : Int) < (tx.length : Int) := by omega
                  go_wp2_with fail
                  go_ret
                  exact ⟨ret_int HE.out.symm, HW4.out⟩
    · have HE := Lib.hid (check_bad (bad_port (u := ⟨[104, 116, 116, 112], ho, po, pa, qu, hq⟩) hp))
      by_cases p1 : po < 0
      · go_wp2_with fail
        go_ret
        exact ⟨ret_int HE.out.symm, HW.out⟩
      · have p0 : 0 ≤ po := by omega
        have p2 : 65535 < po := by omega
        clear hp
        go_wp2_with fail
        go_ret
        exact ⟨ret_int HE.out.symm, HW.out⟩

set_option maxRecDepth 100000 in
set_option maxHeartbeats 4000000 in
theorem rcheck_https (ho pa qu : Bs) (po : Int) (hq : Bool) (w : World) (hl : LimU ⟨[104, 116, 116, 112, 115], ho, po, pa, qu, hq⟩) :
    Calls Tryz.prog 32 #[uV ⟨[104, 116, 116, 112, 115], ho, po, pa, qu, hq⟩] w (Ret w (.int .i64 (checkB ⟨[104, 116, 116, 112, 115], ho, po, pa, qu, hq⟩))) := by
  have HB := Lib.hid (ubx_new w ⟨[104, 116, 116, 112, 115], ho, po, pa, qu, hq⟩)
  have HW := Lib.hid ((Below.refl w.heap.size w).alloc (Nat.le_refl _) (.cells #[.string ⟨([104, 116, 116, 112, 115] : Bs).toArray⟩, .string ⟨ho.toArray⟩, .int .i64 po, .string ⟨pa.toArray⟩, .string ⟨qu.toArray⟩, .bool hq] 23))
  have HL := Lib.hid hl
  obtain ⟨l1, l2, l3, l4⟩ := hl
  simp only at l1 l2 l3 l4
  clear l1
  obtain ⟨c0, c1, c2, c3, c4, c5⟩ := HB.out.cells
  simp only at c0 c1 c2 c3 c4 c5
  go_enter Tryz.func32, Tryz.ntmps32
  go_wp2_with fail
  generalize w.alloc (.cells #[.string ⟨([104, 116, 116, 112, 115] : Bs).toArray⟩, .string ⟨ho.toArray⟩, .int .i64 po, .string ⟨pa.toArray⟩, .string ⟨qu.toArray⟩, .bool hq] 23) = W at *
  refine (ref09_Host ⟨ho.toArray⟩ W (by show ho.length ≤ _; omega)).mono ?_
  rintro e w1 ⟨rfl, rfl⟩
  rw [show hostOk (⟨ho.toArray⟩ : ByteArray).data.toList = hostOk ho from rfl]
  rcases hho : hostOk ho with _ | _
  · have HE := Lib.hid (check_bad (u := ⟨[104, 116, 116, 112, 115], ho, po, pa, qu, hq⟩) (by unfold formB; rw [show hostOk (U.host ⟨[104, 116, 116, 112, 115], ho, po, pa, qu, hq⟩) = false from hho]; simp))
    clear hho
    go_wp2_with fail
    go_ret
    exact ⟨ret_int HE.out.symm, HW.out⟩
  · have HHO := Lib.hid hho
    clear hho
    by_cases hp : 0 ≤ po ∧ po ≤ 65535
    · obtain ⟨p1, p2⟩ := hp
      have p0 : ¬ po < 0 := by omega
      go_wp2_with fail
      refine (ref09_Path pa W (by omega)).mono ?_
      rintro e w1 ⟨rfl, rfl⟩
      rcases hpp : pathOk pa with _ | _
      · have HE := Lib.hid (check_bad (bad_path (u := ⟨[104, 116, 116, 112, 115], ho, po, pa, qu, hq⟩) hpp))
        clear hpp
        go_wp2_with fail
        go_ret
        exact ⟨ret_int HE.out.symm, HW.out⟩
      · have HPP := Lib.hid hpp
        clear hpp
        go_wp2_with fail
        refine (ref09_Query ⟨qu.toArray⟩ W (by show qu.length ≤ _; omega)).mono ?_
        rintro e w1 ⟨rfl, rfl⟩
        rw [show madeB queryc (⟨qu.toArray⟩ : ByteArray).data.toList = madeB queryc qu from rfl]
        rcases hqm : madeB queryc qu with _ | _
        · have HE := Lib.hid (check_bad (bad_query (u := ⟨[104, 116, 116, 112, 115], ho, po, pa, qu, hq⟩) hqm))
          clear hqm
          go_wp2_with fail
          go_ret
          exact ⟨ret_int HE.out.symm, HW.out⟩
        · by_cases hqq : hq = false ∧ ¬ qu = []
          · obtain ⟨q1, q2⟩ := hqq
            have HE := Lib.hid (check_bad (bad_hq (u := ⟨[104, 116, 116, 112, 115], ho, po, pa, qu, hq⟩) q1 q2))
            subst q1
            have q2b : qu.isEmpty = false := by cases qu with | nil => exact (q2 rfl).elim | cons a b => rfl
            clear hqm
            go_wp2_with fail
            go_ret
            exact ⟨ret_int HE.out.symm, HW.out⟩
          · have HQ := Lib.hid (show hq = true ∨ qu = [] by
              cases hq
              · exact .inr (by by_cases h : qu = []; exact h; exact (hqq ⟨rfl, h⟩).elim)
              · exact .inl rfl)
            clear hqq
            have hhd : 1 ≤ ho.length ∧ ho.length ≤ 253 ∧ ho.all hostc = true := by
              have := HHO.out
              unfold hostOk at this
              rw [Bool.and_eq_true, decide_eq_true_eq] at this
              exact ⟨this.1.1, this.1.2, this.2⟩
            have HF := Lib.hid ((form_iff ⟨[104, 116, 116, 112, 115], ho, po, pa, qu, hq⟩).2 ⟨.inr rfl, ⟨hhd.1, hhd.2.1⟩, hhd.2.2, ⟨p1, p2⟩, pathOk_cons HPP.out, HQ.out, hqm⟩)
            obtain ⟨tx, htx⟩ : ∃ tx, textB ⟨[104, 116, 116, 112, 115], ho, po, pa, qu, hq⟩ = tx := ⟨_, rfl⟩
            have HEG := Lib.hid (show tx.length ≤ maxURI → checkB ⟨[104, 116, 116, 112, 115], ho, po, pa, qu, hq⟩ = 0 from fun h => check_good HF.out (by rw [htx]; exact h))
            have HEL := Lib.hid (show maxURI < tx.length → checkB ⟨[104, 116, 116, 112, 115], ho, po, pa, qu, hq⟩ = 3 from fun h => check_long HF.out (by rw [htx]; exact h))
            have FIN := Lib.hid (show ∀ w3, Calls Tryz.prog 58 #[uV ⟨[104, 116, 116, 112, 115], ho, po, pa, qu, hq⟩] w3 (Ret w3 (.string ⟨tx.toArray⟩)) from fun w3 => by rw [← htx]; exact ref09_Text ⟨[104, 116, 116, 112, 115], ho, po, pa, qu, hq⟩ w3 HL.out ⟨p1, p2⟩)
            clear htx hqm hhd
            rcases hq with _ | _
            · have hqu : qu = [] := by (rcases HQ.out with h | h; cases h; exact h)
              subst hqu
              go_wp2_with fail
              refine (FIN.out W).mono ?_
              rintro e w4 ⟨rfl, hb4⟩
              have HW4 := Lib.hid (HW.out.trans (hb4.mono HW.out.size))
              clear hb4 c0 c1 c2 c3 c4 c5
              by_cases htl : tx.length ≤ maxURI
              · have HE := Lib.hid (HEG.out htl)
                unfold maxURI at htl
                have ht : (tx.length : Int) ≤ 1024 := by omega
                go_wp2_with fail
                go_ret
                exact ⟨ret_int HE.out.symm, HW4.out⟩
              · have HE := Lib.hid (HEL.out (by omega))
                unfold maxURI at htl
                have ht : (1024 : Int) < (tx.length : Int) := by omega
                go_wp2_with fail
                go_ret
                exact ⟨ret_int HE.out.symm, HW4.out⟩
            · rcases Decidable.em (qu = []) with rfl | hqe
              all_goals
                go_wp2_with fail
                refine (FIN.out W).mono ?_
                rintro e w4 ⟨rfl, hb4⟩
                have HW4 := Lib.hid (HW.out.trans (hb4.mono HW.out.size))
                clear hb4 c0 c1 c2 c3 c4 c5
                by_cases htl : tx.length ≤ maxURI
                · have HE := Lib.hid (HEG.out htl)
                  unfold maxURI at htl
                  have ht : (tx.length : Int) ≤ 1024 := by omega
                  go_wp2_with fail
                  go_ret
                  exact ⟨ret_int HE.out.symm, HW4.out⟩
                · have HE := Lib.hid (HEL.out (by omega))
                  unfold maxURI at htl
                  have ht : (1024 : Int) < (tx.length : Int) := by omega
                  go_wp2_with fail
                  go_ret
                  exact ⟨ret_int HE.out.symm, HW4.out⟩
    · have HE := Lib.hid (check_bad (bad_port (u := ⟨[104, 116, 116, 112, 115], ho, po, pa, qu, hq⟩) hp))
      by_cases p1 : po < 0
      · go_wp2_with fail
        go_ret
        exact ⟨ret_int HE.out.symm, HW.out⟩
      · have p0 : 0 ≤ po := by omega
        have p2 : 65535 < po := by omega
        clear hp
        go_wp2_with fail
        go_ret
        exact ⟨ret_int HE.out.symm, HW.out⟩

theorem ref09_Check (u : U) (w : World) (hl : LimU u) : Calls Tryz.prog 32 #[uV u] w (Ret w (.int .i64 (checkB u))) := by
  by_cases h1 : u.scheme = http
  · obtain ⟨sc, ho, po, pa, qu, hq⟩ := u
    obtain rfl : sc = [104, 116, 116, 112] := h1
    exact rcheck_http ho pa qu po hq w hl
  · by_cases h2 : u.scheme = https
    · obtain ⟨sc, ho, po, pa, qu, hq⟩ := u
      obtain rfl : sc = [104, 116, 116, 112, 115] := h2
      exact rcheck_https ho pa qu po hq w hl
    · exact ref09_Check_no u w h1 h2
end Go.Proofs.YtmkpejioinkceaaGreatDoor
