/- The walk of Check, the scheme being http or https. -/
import Derived.Test.YtmkpejioinkceaaGreatDoorUriCheck
namespace Go.Proofs.YtmkpejioinkceaaGreatDoor
open Go.RowKit
set_option linter.unusedVariables false

set_option maxRecDepth 100000 in
set_option maxHeartbeats 4000000 in
theorem check_http (ho pa qu : Bs) (po : Int) (hq : Bool) (w : World) (hg : GX w) (hl : LimU ⟨[104, 116, 116, 112], ho, po, pa, qu, hq⟩) :
    Calls Tryz.prog 20 #[uV ⟨[104, 116, 116, 112], ho, po, pa, qu, hq⟩] w (Ret w (.int .i64 (checkB ⟨[104, 116, 116, 112], ho, po, pa, qu, hq⟩))) := by
  have HB := Lib.hid (ubx_new w ⟨[104, 116, 116, 112], ho, po, pa, qu, hq⟩)
  have HW := Lib.hid ((Below.refl w.heap.size w).alloc (Nat.le_refl _) (.cells #[.string ⟨([104, 116, 116, 112] : Bs).toArray⟩, .string ⟨ho.toArray⟩, .int .i64 po, .string ⟨pa.toArray⟩, .string ⟨qu.toArray⟩, .bool hq] 23))
  have HG := Lib.hid hg
  have HL := Lib.hid hl
  obtain ⟨l1, l2, l3, l4⟩ := hl
  simp only at l1 l2 l3 l4
  clear hg l1
  by_cases hh : 1 ≤ ho.length ∧ ho.length ≤ 253
  · have k1 : ¬ ho = [] := by rintro rfl; simp at hh
    have k1b : ho.isEmpty = false := by cases ho with | nil => exact (k1 rfl).elim | cons a b => rfl
    have k2 : (ho.length : Int) ≤ 253 := by omega
    go_enter Tryz.func20, Tryz.ntmps20
    go_wp2_with fail
    generalize w.alloc (.cells #[.string ⟨([104, 116, 116, 112] : Bs).toArray⟩, .string ⟨ho.toArray⟩, .int .i64 po, .string ⟨pa.toArray⟩, .string ⟨qu.toArray⟩, .bool hq] 23) = W at *
    refine (lib_hostTrim ho W (by omega)).mono ?_
    rintro e w1 ⟨rfl, hb1⟩
    have HB1 := Lib.hid (HB.out.next hb1)
    have HW1 := Lib.hid (HW.out.trans (hb1.mono HW.out.size))
    obtain ⟨c0, c1, c2, c3, c4, c5⟩ := HB1.out.cells
    simp only at c0 c1 c2 c3 c4 c5
    clear hb1 HB HW
    rcases hhc : ho.all hostc with _ | _
    · have HE := Lib.hid (check_bad (bad_hostc (u := ⟨[104, 116, 116, 112], ho, po, pa, qu, hq⟩) hhc))
      have hne := host_trim_no hhc
      have hne2 : ¬ Lib.trimS ho hostSet = [] := by intro e; rw [e] at hne; cases hne
      clear hhc
      go_wp2_with fail
      go_ret
      exact ⟨ret_int HE.out.symm, HW1.out⟩
    · rw [host_trim hhc]
      have HHC := Lib.hid hhc
      clear hhc
      by_cases hp : 0 ≤ po ∧ po ≤ 65535
      · obtain ⟨p1, p2⟩ := hp
        go_wp2_with fail
        refine (lib_HasPrefix ⟨pa.toArray⟩ ⟨#[47]⟩ w1).mono ?_
        rintro e w2 ⟨rfl, rfl⟩
        rcases hpp : Lib.hasPrefix pa [47] with _ | _
        · have HE := Lib.hid (check_bad (bad_path (u := ⟨[104, 116, 116, 112], ho, po, pa, qu, hq⟩) (by unfold pathOk; rw [hpp]; rfl)))
          clear hpp
          go_wp2_with fail
          go_ret
          exact ⟨ret_int HE.out.symm, HW1.out⟩
        · have HPP := Lib.hid hpp
          clear hpp
          go_wp2_with fail
          refine (uri_path pa w1 (HG.out.next HW1.out).good (by omega)).mono ?_
          rintro e w2 ⟨rfl, hb2⟩
          have HB2 := Lib.hid (HB1.out.next hb2)
          have HW2 := Lib.hid (HW1.out.trans (hb2.mono HW1.out.size))
          clear hb2 c0 c1 c2 c3 c4 c5 HB1 HW1
          obtain ⟨c0, c1, c2, c3, c4, c5⟩ := HB2.out.cells
          simp only at c0 c1 c2 c3 c4 c5
          rcases hpm : madeB pathc pa with _ | _
          · have HE := Lib.hid (check_bad (bad_path (u := ⟨[104, 116, 116, 112], ho, po, pa, qu, hq⟩) (by unfold pathOk; rw [hpm, Bool.and_false])))
            clear hpm
            go_wp2_with fail
            go_ret
            exact ⟨ret_int HE.out.symm, HW2.out⟩
          · have HPM := Lib.hid hpm
            clear hpm
            by_cases hqq : hq = false ∧ ¬ qu = []
            · obtain ⟨q1, q2⟩ := hqq
              have HE := Lib.hid (check_bad (bad_hq (u := ⟨[104, 116, 116, 112], ho, po, pa, qu, hq⟩) q1 q2))
              subst q1
              have q2b : qu.isEmpty = false := by cases qu with | nil => exact (q2 rfl).elim | cons a b => rfl
              go_wp2_with fail
              go_ret
              exact ⟨ret_int HE.out.symm, HW2.out⟩
            · have HQ := Lib.hid (show hq = true ∨ qu = [] by
                cases hq
                · exact .inr (by by_cases h : qu = []; exact h; exact (hqq ⟨rfl, h⟩).elim)
                · exact .inl rfl)
              clear hqq
              rcases hqm : madeB queryc qu with _ | _
              · have hq1 : hq = true := by
                  rcases HQ.out with h | h
                  · exact h
                  · rw [h] at hqm; cases hqm
                subst hq1
                have HE := Lib.hid (check_bad (bad_query (u := ⟨[104, 116, 116, 112], ho, po, pa, qu, true⟩) hqm))
                go_wp2_with fail
                refine (uri_query qu w2 (HG.out.next HW2.out).good (by omega)).mono ?_
                rintro e w3 ⟨rfl, hb3⟩
                have HW3 := Lib.hid (HW2.out.trans (hb3.mono HW2.out.size))
                rw [hqm]
                clear hb3 hqm
                go_wp2_with fail
                go_ret
                exact ⟨ret_int HE.out.symm, HW3.out⟩
              · have HF := Lib.hid ((form_iff ⟨[104, 116, 116, 112], ho, po, pa, qu, hq⟩).2 ⟨.inl rfl, hh, HHC.out, ⟨p1, p2⟩, pathOk_cons (by unfold pathOk; rw [HPP.out, HPM.out]; rfl), HQ.out, hqm⟩)
                have HLd := Lib.hid (show ∀ m : Nat, (0 : Int) ≤ (m : Int) from fun m => by omega)
                obtain ⟨tx, htx⟩ : ∃ tx, textB ⟨[104, 116, 116, 112], ho, po, pa, qu, hq⟩ = tx := ⟨_, rfl⟩
                have HEG := Lib.hid (show tx.length ≤ maxURI → checkB ⟨[104, 116, 116, 112], ho, po, pa, qu, hq⟩ = 0 from fun h => check_good HF.out (by rw [htx]; exact h))
                have HEL := Lib.hid (show maxURI < tx.length → checkB ⟨[104, 116, 116, 112], ho, po, pa, qu, hq⟩ = 3 from fun h => check_long HF.out (by rw [htx]; exact h))
                have FIN := Lib.hid (show ∀ w3, Hid (Below w.heap.size w w3) → Calls Tryz.prog 40 #[uV ⟨[104, 116, 116, 112], ho, po, pa, qu, hq⟩] w3 (Ret w3 (.string ⟨tx.toArray⟩)) from fun w3 h => by rw [← htx]; exact uri_put ⟨[104, 116, 116, 112], ho, po, pa, qu, hq⟩ w3 (HG.out.next h.out) HL.out ⟨p1, p2⟩)
                clear htx
                rcases hq with _ | _
                all_goals
                  first
                  | (have hqu : qu = [] := by (rcases HQ.out with h | h; cases h; exact h)
                     subst hqu)
                  | skip
                  go_wp2_with fail
                  refine (uri_query _ w2 (HG.out.next HW2.out).good (by first | exact Nat.zero_le _ | omega)).mono ?_
                  rintro e w3 ⟨rfl, hb3⟩
                  have HB3 := Lib.hid (HB2.out.next hb3)
                  have HW3 := Lib.hid (HW2.out.trans (hb3.mono HW2.out.size))
                  rw [hqm]
                  clear hb3 c0 c1 c2 c3 c4 c5
                  obtain ⟨c0, c1, c2, c3, c4, c5⟩ := HB3.out.cells
                  simp only at c0 c1 c2 c3 c4 c5
                  go_wp2_with fail
                  go_loop [63] (fun i => ∃ k : Nat, k ≤ ho.length ∧ i = .int .i64 k) (fun i => ho.length - (intOf i).toNat)
                  case atStart => exact ⟨0, Nat.zero_le _, rfl⟩
                  case round =>
                    obtain ⟨k, hk, rfl⟩ := hrel
                    by_cases hlt : k < ho.length
                    · have i1 : (k : Int) < (ho.length : Int) := by omega
                      have i0 : (0 : Int) ≤ (k : Int) := by omega
                      have hcc : hostSet.contains (ho[k]'hlt) = true := by
                        rw [show hostSet.contains (ho[k]'hlt) = hostc (ho[k]'hlt) from congrFun hostSet_eq _]
                        exact List.all_eq_true.1 HHC.out _ (List.getElem_mem hlt)
                      have HCC := Lib.hid hcc
                      clear hcc
                      go_wp2_with fail
                      refine (lib_IndexByte ⟨hostSet.toArray⟩ (ho[k]'hlt) w3).mono ?_
                      rintro e w4 ⟨rfl, rfl⟩
                      rw [if_pos (show (⟨hostSet.toArray⟩ : ByteArray).data.toList.contains (ho[k]'hlt) = true from HCC.out)]
                      generalize lead (· != ho[k]'hlt) (⟨hostSet.toArray⟩ : ByteArray).data.toList = m at *
                      have hm := HLd.out m
                      go_wp2_with fail
                      go_round
                      case rel => exact ⟨k + 1, by omega, by go_num⟩
                      case measure => (simp [intOf] <;> omega)
                    · have i1 : (ho.length : Int) ≤ (k : Int) := by omega
                      go_wp2_with fail
                      refine (FIN.out w3 HW3).mono ?_
                      rintro e w4 ⟨rfl, hb4⟩
                      have HW4 := Lib.hid (HW3.out.trans (hb4.mono HW3.out.size))
                      clear hb4 c0 c1 c2 c3 c4 c5
                      by_cases htl : tx.length ≤ maxURI
                      · have HE := Lib.hid (HEG.out htl)
                        unfold maxURI at htl
                        have ht : (tx.length : Int) ≤ 1024 := by omega
                        go_wp2_with fail
                        go_ret
                        exact ⟨ret_int HE.out.symm, HW4.out⟩
                      · have HE := Lib.hid (HEL.out (by omega))
                        unfold maxURI at htl
                        have ht : (1024 : Int) < (tx.length : Int) := by omega
                        go_wp2_with fail
                        go_ret
                        exact ⟨ret_int HE.out.symm, HW4.out⟩
      · have HE := Lib.hid (check_bad (bad_port (u := ⟨[104, 116, 116, 112], ho, po, pa, qu, hq⟩) hp))
        by_cases p1 : po < 0
        · go_wp2_with fail
          go_ret
          exact ⟨ret_int HE.out.symm, HW1.out⟩
        · have p0 : 0 ≤ po := by omega
          have p2 : 65535 < po := by omega
          clear hp
          go_wp2_with fail
          go_ret
          exact ⟨ret_int HE.out.symm, HW1.out⟩
  · have HE := Lib.hid (check_bad (bad_host (u := ⟨[104, 116, 116, 112], ho, po, pa, qu, hq⟩) hh))
    by_cases k1 : ho = []
    · subst k1
      go_enter Tryz.func20, Tryz.ntmps20
      go_wp2_with fail
      go_ret
      exact ⟨ret_int HE.out.symm, HW.out⟩
    · have k1b : ho.isEmpty = false := by cases ho with | nil => exact (k1 rfl).elim | cons a b => rfl
      have k2 : (253 : Int) < (ho.length : Int) := by
        have : 0 < ho.length := List.length_pos_iff.2 k1
        omega
      clear hh
      go_enter Tryz.func20, Tryz.ntmps20
      go_wp2_with fail
      go_ret
      exact ⟨ret_int HE.out.symm, HW.out⟩

set_option maxRecDepth 100000 in
set_option maxHeartbeats 4000000 in
theorem check_https (ho pa qu : Bs) (po : Int) (hq : Bool) (w : World) (hg : GX w) (hl : LimU ⟨[104, 116, 116, 112, 115], ho, po, pa, qu, hq⟩) :
    Calls Tryz.prog 20 #[uV ⟨[104, 116, 116, 112, 115], ho, po, pa, qu, hq⟩] w (Ret w (.int .i64 (checkB ⟨[104, 116, 116, 112, 115], ho, po, pa, qu, hq⟩))) := by
  have HB := Lib.hid (ubx_new w ⟨[104, 116, 116, 112, 115], ho, po, pa, qu, hq⟩)
  have HW := Lib.hid ((Below.refl w.heap.size w).alloc (Nat.le_refl _) (.cells #[.string ⟨([104, 116, 116, 112, 115] : Bs).toArray⟩, .string ⟨ho.toArray⟩, .int .i64 po, .string ⟨pa.toArray⟩, .string ⟨qu.toArray⟩, .bool hq] 23))
  have HG := Lib.hid hg
  have HL := Lib.hid hl
  obtain ⟨l1, l2, l3, l4⟩ := hl
  simp only at l1 l2 l3 l4
  clear hg l1
  by_cases hh : 1 ≤ ho.length ∧ ho.length ≤ 253
  · have k1 : ¬ ho = [] := by rintro rfl; simp at hh
    have k1b : ho.isEmpty = false := by cases ho with | nil => exact (k1 rfl).elim | cons a b => rfl
    have k2 : (ho.length : Int) ≤ 253 := by omega
    go_enter Tryz.func20, Tryz.ntmps20
    go_wp2_with fail
    generalize w.alloc (.cells #[.string ⟨([104, 116, 116, 112, 115] : Bs).toArray⟩, .string ⟨ho.toArray⟩, .int .i64 po, .string ⟨pa.toArray⟩, .string ⟨qu.toArray⟩, .bool hq] 23) = W at *
    refine (lib_hostTrim ho W (by omega)).mono ?_
    rintro e w1 ⟨rfl, hb1⟩
    have HB1 := Lib.hid (HB.out.next hb1)
    have HW1 := Lib.hid (HW.out.trans (hb1.mono HW.out.size))
    obtain ⟨c0, c1, c2, c3, c4, c5⟩ := HB1.out.cells
    simp only at c0 c1 c2 c3 c4 c5
    clear hb1 HB HW
    rcases hhc : ho.all hostc with _ | _
    · have HE := Lib.hid (check_bad (bad_hostc (u := ⟨[104, 116, 116, 112, 115], ho, po, pa, qu, hq⟩) hhc))
      have hne := host_trim_no hhc
      have hne2 : ¬ Lib.trimS ho hostSet = [] := by intro e; rw [e] at hne; cases hne
      clear hhc
      go_wp2_with fail
      go_ret
      exact ⟨ret_int HE.out.symm, HW1.out⟩
    · rw [host_trim hhc]
      have HHC := Lib.hid hhc
      clear hhc
      by_cases hp : 0 ≤ po ∧ po ≤ 65535
      · obtain ⟨p1, p2⟩ := hp
        go_wp2_with fail
        refine (lib_HasPrefix ⟨pa.toArray⟩ ⟨#[47]⟩ w1).mono ?_
        rintro e w2 ⟨rfl, rfl⟩
        rcases hpp : Lib.hasPrefix pa [47] with _ | _
        · have HE := Lib.hid (check_bad (bad_path (u := ⟨[104, 116, 116, 112, 115], ho, po, pa, qu, hq⟩) (by unfold pathOk; rw [hpp]; rfl)))
          clear hpp
          go_wp2_with fail
          go_ret
          exact ⟨ret_int HE.out.symm, HW1.out⟩
        · have HPP := Lib.hid hpp
          clear hpp
          go_wp2_with fail
          refine (uri_path pa w1 (HG.out.next HW1.out).good (by omega)).mono ?_
          rintro e w2 ⟨rfl, hb2⟩
          have HB2 := Lib.hid (HB1.out.next hb2)
          have HW2 := Lib.hid (HW1.out.trans (hb2.mono HW1.out.size))
          clear hb2 c0 c1 c2 c3 c4 c5 HB1 HW1
          obtain ⟨c0, c1, c2, c3, c4, c5⟩ := HB2.out.cells
          simp only at c0 c1 c2 c3 c4 c5
          rcases hpm : madeB pathc pa with _ | _
          · have HE := Lib.hid (check_bad (bad_path (u := ⟨[104, 116, 116, 112, 115], ho, po, pa, qu, hq⟩) (by unfold pathOk; rw [hpm, Bool.and_false])))
            clear hpm
            go_wp2_with fail
            go_ret
            exact ⟨ret_int HE.out.symm, HW2.out⟩
          · have HPM := Lib.hid hpm
            clear hpm
            by_cases hqq : hq = false ∧ ¬ qu = []
            · obtain ⟨q1, q2⟩ := hqq
              have HE := Lib.hid (check_bad (bad_hq (u := ⟨[104, 116, 116, 112, 115], ho, po, pa, qu, hq⟩) q1 q2))
              subst q1
              have q2b : qu.isEmpty = false := by cases qu with | nil => exact (q2 rfl).elim | cons a b => rfl
              go_wp2_with fail
              go_ret
              exact ⟨ret_int HE.out.symm, HW2.out⟩
            · have HQ := Lib.hid (show hq = true ∨ qu = [] by
                cases hq
                · exact .inr (by by_cases h : qu = []; exact h; exact (hqq ⟨rfl, h⟩).elim)
                · exact .inl rfl)
              clear hqq
              rcases hqm : madeB queryc qu with _ | _
              · have hq1 : hq = true := by
                  rcases HQ.out with h | h
                  · exact h
                  · rw [h] at hqm; cases hqm
                subst hq1
                have HE := Lib.hid (check_bad (bad_query (u := ⟨[104, 116, 116, 112, 115], ho, po, pa, qu, true⟩) hqm))
                go_wp2_with fail
                refine (uri_query qu w2 (HG.out.next HW2.out).good (by omega)).mono ?_
                rintro e w3 ⟨rfl, hb3⟩
                have HW3 := Lib.hid (HW2.out.trans (hb3.mono HW2.out.size))
                rw [hqm]
                clear hb3 hqm
                go_wp2_with fail
                go_ret
                exact ⟨ret_int HE.out.symm, HW3.out⟩
              · have HF := Lib.hid ((form_iff ⟨[104, 116, 116, 112, 115], ho, po, pa, qu, hq⟩).2 ⟨.inr rfl, hh, HHC.out, ⟨p1, p2⟩, pathOk_cons (by unfold pathOk; rw [HPP.out, HPM.out]; rfl), HQ.out, hqm⟩)
                have HLd := Lib.hid (show ∀ m : Nat, (0 : Int) ≤ (m : Int) from fun m => by omega)
                obtain ⟨tx, htx⟩ : ∃ tx, textB ⟨[104, 116, 116, 112, 115], ho, po, pa, qu, hq⟩ = tx := ⟨_, rfl⟩
                have HEG := Lib.hid (show tx.length ≤ maxURI → checkB ⟨[104, 116, 116, 112, 115], ho, po, pa, qu, hq⟩ = 0 from fun h => check_good HF.out (by rw [htx]; exact h))
                have HEL := Lib.hid (show maxURI < tx.length → checkB ⟨[104, 116, 116, 112, 115], ho, po, pa, qu, hq⟩ = 3 from fun h => check_long HF.out (by rw [htx]; exact h))
                have FIN := Lib.hid (show ∀ w3, Hid (Below w.heap.size w w3) → Calls Tryz.prog 40 #[uV ⟨[104, 116, 116, 112, 115], ho, po, pa, qu, hq⟩] w3 (Ret w3 (.string ⟨tx.toArray⟩)) from fun w3 h => by rw [← htx]; exact uri_put ⟨[104, 116, 116, 112, 115], ho, po, pa, qu, hq⟩ w3 (HG.out.next h.out) HL.out ⟨p1, p2⟩)
                clear htx
                rcases hq with _ | _
                all_goals
                  first
                  | (have hqu : qu = [] := by (rcases HQ.out with h | h; cases h; exact h)
                     subst hqu)
                  | skip
                  go_wp2_with fail
                  refine (uri_query _ w2 (HG.out.next HW2.out).good (by first | exact Nat.zero_le _ | omega)).mono ?_
                  rintro e w3 ⟨rfl, hb3⟩
                  have HB3 := Lib.hid (HB2.out.next hb3)
                  have HW3 := Lib.hid (HW2.out.trans (hb3.mono HW2.out.size))
                  rw [hqm]
                  clear hb3 c0 c1 c2 c3 c4 c5
                  obtain ⟨c0, c1, c2, c3, c4, c5⟩ := HB3.out.cells
                  simp only at c0 c1 c2 c3 c4 c5
                  go_wp2_with fail
                  go_loop [63] (fun i => ∃ k : Nat, k ≤ ho.length ∧ i = .int .i64 k) (fun i => ho.length - (intOf i).toNat)
                  case atStart => exact ⟨0, Nat.zero_le _, rfl⟩
                  case round =>
                    obtain ⟨k, hk, rfl⟩ := hrel
                    by_cases hlt : k < ho.length
                    · have i1 : (k : Int) < (ho.length : Int) := by omega
                      have i0 : (0 : Int) ≤ (k : Int) := by omega
                      have hcc : hostSet.contains (ho[k]'hlt) = true := by
                        rw [show hostSet.contains (ho[k]'hlt) = hostc (ho[k]'hlt) from congrFun hostSet_eq _]
                        exact List.all_eq_true.1 HHC.out _ (List.getElem_mem hlt)
                      have HCC := Lib.hid hcc
                      clear hcc
                      go_wp2_with fail
                      refine (lib_IndexByte ⟨hostSet.toArray⟩ (ho[k]'hlt) w3).mono ?_
                      rintro e w4 ⟨rfl, rfl⟩
                      rw [if_pos (show (⟨hostSet.toArray⟩ : ByteArray).data.toList.contains (ho[k]'hlt) = true from HCC.out)]
                      generalize lead (· != ho[k]'hlt) (⟨hostSet.toArray⟩ : ByteArray).data.toList = m at *
                      have hm := HLd.out m
                      go_wp2_with fail
                      go_round
                      case rel => exact ⟨k + 1, by omega, by go_num⟩
                      case measure => (simp [intOf] <;> omega)
                    · have i1 : (ho.length : Int) ≤ (k : Int) := by omega
                      go_wp2_with fail
                      refine (FIN.out w3 HW3).mono ?_
                      rintro e w4 ⟨rfl, hb4⟩
                      have HW4 := Lib.hid (HW3.out.trans (hb4.mono HW3.out.size))
                      clear hb4 c0 c1 c2 c3 c4 c5
                      by_cases htl : tx.length ≤ maxURI
                      · have HE := Lib.hid (HEG.out htl)
                        unfold maxURI at htl
                        have ht : (tx.length : Int) ≤ 1024 := by omega
                        go_wp2_with fail
                        go_ret
                        exact ⟨ret_int HE.out.symm, HW4.out⟩
                      · have HE := Lib.hid (HEL.out (by omega))
                        unfold maxURI at htl
                        have ht : (1024 : Int) < (tx.length : Int) := by omega
                        go_wp2_with fail
                        go_ret
                        exact ⟨ret_int HE.out.symm, HW4.out⟩
      · have HE := Lib.hid (check_bad (bad_port (u := ⟨[104, 116, 116, 112, 115], ho, po, pa, qu, hq⟩) hp))
        by_cases p1 : po < 0
        · go_wp2_with fail
          go_ret
          exact ⟨ret_int HE.out.symm, HW1.out⟩
        · have p0 : 0 ≤ po := by omega
          have p2 : 65535 < po := by omega
          clear hp
          go_wp2_with fail
          go_ret
          exact ⟨ret_int HE.out.symm, HW1.out⟩
  · have HE := Lib.hid (check_bad (bad_host (u := ⟨[104, 116, 116, 112, 115], ho, po, pa, qu, hq⟩) hh))
    by_cases k1 : ho = []
    · subst k1
      go_enter Tryz.func20, Tryz.ntmps20
      go_wp2_with fail
      go_ret
      exact ⟨ret_int HE.out.symm, HW.out⟩
    · have k1b : ho.isEmpty = false := by cases ho with | nil => exact (k1 rfl).elim | cons a b => rfl
      have k2 : (253 : Int) < (ho.length : Int) := by
        have : 0 < ho.length := List.length_pos_iff.2 k1
        omega
      clear hh
      go_enter Tryz.func20, Tryz.ntmps20
      go_wp2_with fail
      go_ret
      exact ⟨ret_int HE.out.symm, HW.out⟩

theorem uri_Check (u : U) (w : World) (hg : GX w) (hl : LimU u) : Calls Tryz.prog 20 #[uV u] w (Ret w (.int .i64 (checkB u))) := by
  by_cases h1 : u.scheme = http
  · obtain ⟨sc, ho, po, pa, qu, hq⟩ := u
    obtain rfl : sc = [104, 116, 116, 112] := h1
    exact check_http ho pa qu po hq w hg hl
  · by_cases h2 : u.scheme = https
    · obtain ⟨sc, ho, po, pa, qu, hq⟩ := u
      obtain rfl : sc = [104, 116, 116, 112, 115] := h2
      exact check_https ho pa qu po hq w hg hl
    · exact uri_Check_no u w h1 h2

theorem limU_ok {u : U} (h : okB u = true) : LimU u := by
  unfold okB at h
  rw [Bool.and_eq_true, decide_eq_true_eq] at h
  have hl := h.2
  have f := (form_iff u).1 h.1
  unfold maxURI at hl
  unfold textB at hl
  simp only [List.length_append] at hl
  have hq : u.query.length ≤ 10000 := by
    rcases f.query with e | e
    · rw [e] at hl; simp at hl; omega
    · rw [e]; exact Nat.zero_le _
  exact ⟨by omega, by omega, by omega, hq⟩
set_option maxRecDepth 100000 in
theorem uri_Put (u : U) (w : World) (hg : GX w) (hl : LimU u) : Calls Tryz.prog 50 #[uV u] w (Ret w (.string ⟨(putB u).toArray⟩)) := by
  have HB := Lib.hid (ubx_new w u)
  have HW := Lib.hid ((Below.refl w.heap.size w).alloc (Nat.le_refl _) (.cells #[.string ⟨u.scheme.toArray⟩, .string ⟨u.host.toArray⟩, .int .i64 u.port, .string ⟨u.path.toArray⟩, .string ⟨u.query.toArray⟩, .bool u.hq] 23))
  have HG := Lib.hid hg
  have HL := Lib.hid hl
  clear hg hl
  go_enter Tryz.func50, Tryz.ntmps50
  go_wp2_with fail
  generalize w.alloc (.cells #[.string ⟨u.scheme.toArray⟩, .string ⟨u.host.toArray⟩, .int .i64 u.port, .string ⟨u.path.toArray⟩, .string ⟨u.query.toArray⟩, .bool u.hq] 23) = W at *
  refine (uri_Check u W (HG.out.next HW.out) HL.out).mono ?_
  rintro e w1 ⟨rfl, hb1⟩
  have HB1 := Lib.hid (HB.out.next hb1)
  have HW1 := Lib.hid (HW.out.trans (hb1.mono HW.out.size))
  clear hb1
  obtain ⟨c0, c1, c2, c3, c4, c5⟩ := HB1.out.cells
  by_cases hc : checkB u = 0
  · have hok := (checkB_ok u).1 hc
    have HE := Lib.hid (show putB u = textB u by unfold putB; rw [hok]; rfl)
    have hf := hok
    unfold okB at hf
    rw [Bool.and_eq_true] at hf
    have HP := Lib.hid ((form_iff u).1 hf.1).port
    rw [hc]
    clear hc hok hf
    go_wp2_with fail
    refine (uri_put u w1 (HG.out.next HW1.out) HL.out HP.out).mono ?_
    rintro e w2 ⟨rfl, hb2⟩
    have HW2 := Lib.hid (HW1.out.trans (hb2.mono HW1.out.size))
    clear hb2
    go_wp2_with fail
    go_ret
    exact ⟨by rw [HE.out]; rfl, HW2.out⟩
  · have HE := Lib.hid (show putB u = [] by
      have : okB u = false := by cases h : okB u; rfl; exact (hc ((checkB_ok u).2 h)).elim
      unfold putB; rw [this]; rfl)
    go_wp2_with fail
    go_ret
    exact ⟨by rw [HE.out]; rfl, HW1.out⟩
end Go.Proofs.YtmkpejioinkceaaGreatDoor
