/- The walks of the reference's Normal and Put. -/
import Derived.Test.YtmkpejioinkceaaGreatDoorUriNorm
import Derived.Test.YtmkpejioinkceaaGreatDoorRefUndo
import Derived.Test.YtmkpejioinkceaaGreatDoorRefUriC
import Derived.Test.YtmkpejioinkceaaGreatDoorRefDotsW
import Derived.Test.YtmkpejioinkceaaGreatDoorRefLower
namespace Go.Proofs.YtmkpejioinkceaaGreatDoor
open Go.RowKit
set_option linter.unusedVariables false

set_option maxRecDepth 100000 in
theorem ref09_Put (u : U) (w : World) (hl : LimU u) : Calls Tryz.prog 51 #[uV u] w (Ret w (.string ⟨(putB u).toArray⟩)) := by
  have HB := Lib.hid (ubx_new w u)
  have HW := Lib.hid ((Below.refl w.heap.size w).alloc (Nat.le_refl _) (uObj u))
  have HL := Lib.hid hl
  clear hl
  obtain ⟨c0, c1, c2, c3, c4, c5⟩ := HB.out.cells
  go_enter Tryz.func51, Tryz.ntmps51
  go_wp2_with fail
  generalize w.alloc (.cells #[.string ⟨u.scheme.toArray⟩, .string ⟨u.host.toArray⟩, .int .i64 u.port, .string ⟨u.path.toArray⟩, .string ⟨u.query.toArray⟩, .bool u.hq] 23) = W at *
  refine (ref09_Check u W HL.out).mono ?_
  rintro e w1 ⟨rfl, hb1⟩
  have HB1 := Lib.hid (HB.out.next hb1)
  have HW1 := Lib.hid (HW.out.trans (hb1.mono HW.out.size))
  clear hb1 c0 c1 c2 c3 c4 c5
  by_cases hc : checkB u = 0
  · have HO := (checkB_ok u).1 hc
    have HT := Lib.hid (show putB u = textB u by unfold putB; rw [HO]; rfl)
    have hp : 0 ≤ u.port ∧ u.port ≤ 65535 := by
      have h := HO
      unfold okB at h
      rw [Bool.and_eq_true, form_iff] at h
      exact h.1.port
    have HP := Lib.hid hp
    rw [hc]
    clear hc HO hp
    obtain ⟨c0, c1, c2, c3, c4, c5⟩ := HB1.out.cells
    go_wp2_with fail
    refine (ref09_Text u w1 HL.out HP.out).mono ?_
    rintro e w2 ⟨rfl, hb2⟩
    have HW2 := Lib.hid (HW1.out.trans (hb2.mono HW1.out.size))
    clear hb2
    go_wp2_with fail
    go_ret
    exact ⟨by rw [HT.out]; rfl, HW2.out⟩
  · have HT := Lib.hid (show putB u = [] by
      unfold putB
      cases ho : okB u
      · rfl
      · exact (hc ((checkB_ok u).2 ho)).elim)
    rcases check_codes hc with h3 | h3
    all_goals
      rw [h3]
      clear hc h3
      go_wp2_with fail
      go_ret
      exact ⟨by rw [HT.out]; rfl, HW1.out⟩

set_option maxRecDepth 100000 in
set_option maxHeartbeats 1000000 in
theorem ref09_Normal (u : U) (w : World) (hl : LimU u) : Calls Tryz.prog 33 #[uV u] w (Ret w (uV (normB u))) := by
  have HN := Lib.hid (na_new w u)
  have HL := Lib.hid hl
  clear hl
  obtain ⟨c0, c1, c2, c3, c4, c5⟩ := HN.out.box.cells
  go_enter Tryz.func33, Tryz.ntmps33
  go_wp2_with fail
  generalize (w.alloc (.cells #[.string ⟨u.scheme.toArray⟩, .string ⟨u.host.toArray⟩, .int .i64 u.port, .string ⟨u.path.toArray⟩, .string ⟨u.query.toArray⟩, .bool u.hq] 23)).alloc (.cells #[.string ⟨#[]⟩, .string ⟨#[]⟩, .int .i64 0, .string ⟨#[]⟩, .string ⟨#[]⟩, .bool false] 23) = W at *
  refine (ref09_Check u W HL.out).mono ?_
  rintro e w1 ⟨rfl, hb1⟩
  have HN1 := Lib.hid (HN.out.next hb1)
  clear hb1 c0 c1 c2 c3 c4 c5 HN
  by_cases hc : checkB u = 0
  · have HO := Lib.hid ((checkB_ok u).1 hc)
    have hform := HO.out
    unfold okB at hform
    rw [Bool.and_eq_true, form_iff] at hform
    have f := hform.1
    obtain ⟨pr, hpe, hpm⟩ := f.path
    have HWP := Lib.hid (show wellB u.path = true by rw [hpe]; exact madeB_mono (fun _ _ => rfl) hpm)
    have HWQ := Lib.hid (show wellB u.query = true from madeB_mono (fun _ _ => rfl) f.made)
    have hsch := f.scheme
    have HB := Lib.hid (normB_ok HO.out)
    have l1 := HL.out.path
    have l2 := HL.out.query
    have l3 := HL.out.host
    have HUP := Lib.hid (undo_len (p := fun _ => true) HWP.out)
    rw [hc]
    clear hc hform f hpe hpm
    obtain ⟨sc, ho, po, pa, qu, hq⟩ := u
    simp only at hsch l1 l2 l3
    obtain ⟨c0, c1, c2, c3, c4, c5⟩ := HN1.out.box.cells
    simp only at c0 c1 c2 c3 c4 c5
    go_wp2_with fail
    refine (ref01_Lower ⟨ho.toArray⟩ w1 (by show ho.length ≤ _; omega)).mono ?_
    rintro e w2 ⟨rfl, hb2⟩
    have HN2 := Lib.hid (HN1.out.next hb2)
    clear hb2 c0 c1 c2 c3 c4 c5 HN1
    rw [show (⟨ho.toArray⟩ : ByteArray).data.toList = ho from rfl]
    have rb := HN2.out.box.full
    have f1 := rb.f1
    have d1 := rb.c.c1
    simp only at d1
    have HN3 := Lib.hid (HN2.out.s1 (lower ho))
    simp only at HN3
    obtain ⟨c0, c1, c2, c3, c4, c5⟩ := HN3.out.box.cells
    simp only at c0 c1 c2 c3 c4 c5
    have f2 := HN3.out.box.full.f2
    clear rb
    have q1 : (⟨pa.toArray⟩ : ByteArray).size ≤ 1000000 := by show pa.length ≤ _; omega
    have q2 : (⟨qu.toArray⟩ : ByteArray).size ≤ 1000000 := by show qu.length ≤ _; omega
    have q3 : (undoB pa).length ≤ 100000 := by have := HUP.out; omega
    have q1 := Lib.hid q1
    have q2 := Lib.hid q2
    have q3 := Lib.hid q3
    go_upto_region 4 with fail
    go_cut [28] (fun t wx => t = .bool (portB0 sc po) ∧ Hid (NA w wx ⟨sc, lower ho, po, pa, qu, hq⟩))
    case first =>
      rcases hsch with rfl | rfl
      · by_cases hp : po = 80
        · subst hp
          unfold http at *
          go_wp2_with fail
          go_meet
          exact ⟨rfl, HN3⟩
        · have p1 : (po == 80) = false := by rw [beq_eq_false_iff_ne]; exact hp
          have HPb := Lib.hid (port0_http hp)
          clear hp
          unfold http at *
          go_wp2_with fail
          go_meet
          exact ⟨by rw [HPb.out], HN3⟩
      · by_cases hp : po = 443
        · subst hp
          unfold https at *
          go_wp2_with fail
          go_meet
          exact ⟨rfl, HN3⟩
        · have p1 : (po == 443) = false := by rw [beq_eq_false_iff_ne]; exact hp
          have HPb := Lib.hid (port0_https hp)
          clear hp
          unfold https at *
          go_wp2_with fail
          go_meet
          exact ⟨by rw [HPb.out], HN3⟩
    case rest =>
      obtain ⟨rfl, HNa⟩ := hcut
      clear c0 c1 c2 c3 c4 c5 f1 f2 d1 HN2 HN3 hsch
      have HNP := Lib.hid (show normPort ⟨sc, ho, po, pa, qu, hq⟩ = bif portB0 sc po then 0 else po from rfl)
      have c2 := HNa.out.box.cells.c2
      have f2 := HNa.out.box.full.f2
      simp only at c2
      generalize lower ho = lh at *
      generalize portB0 sc po = pb at *
      generalize normPort ⟨sc, ho, po, pa, qu, hq⟩ = np at *
      go_upto_if 28 with fail
      go_cut [] (fun wx => Hid (NA w wx ⟨sc, lh, np, pa, qu, hq⟩))
      case first =>
        cases pb
        · have HNb := Lib.hid (show NA w _ ⟨sc, lh, np, pa, qu, hq⟩ by rw [HNP.out]; exact HNa.out)
          go_wp2_with fail
          go_meet
          exact HNb
        · have HNb := Lib.hid (show NA w _ ⟨sc, lh, np, pa, qu, hq⟩ by rw [HNP.out]; exact HNa.out.s2 0)
          go_wp2_with fail
          go_meet
          exact HNb
      case rest =>
        have HN4 := hcut
        clear hcut c2 f2 HNa HNP
        have c3 := HN4.out.box.cells.c3
        simp only at c3
        go_wp2_with fail
        refine (ref09_Undo ⟨pa.toArray⟩ _ HWP.out q1.out).mono ?_
        rintro e w5 ⟨rfl, hb5⟩
        have HN5 := Lib.hid (HN4.out.next hb5)
        clear hb5 c3 HN4
        have c3 := HN5.out.box.cells.c3
        have f3 := HN5.out.box.full.f3
        simp only at c3
        rw [show (⟨pa.toArray⟩ : ByteArray).data.toList = pa from rfl]
        go_wp2_with fail
        refine (ref09_Dots (undoB pa) w5 q3.out).mono ?_
        rintro e w6 ⟨rfl, rfl⟩
        have HN6 := Lib.hid (HN5.out.s3 (dotsB (undoB pa)))
        simp only at HN6
        have c4 := HN6.out.box.cells.c4
        simp only at c4
        clear HN5
        go_wp2_with fail
        generalize w5.setCell ⟨w.heap.size, 3, none⟩ (.string ⟨(dotsB (undoB pa)).toArray⟩) = W6 at *
        refine (ref09_Undo ⟨qu.toArray⟩ W6 HWQ.out q2.out).mono ?_
        rintro e w7 ⟨rfl, hb7⟩
        rw [show (⟨qu.toArray⟩ : ByteArray).data.toList = qu from rfl]
        have HN7 := Lib.hid (HN6.out.next hb7)
        have HB9 := Lib.hid (show normB ⟨sc, ho, po, pa, qu, hq⟩ = ⟨sc, lh, np, dotsB (undoB pa), undoB qu, hq⟩ from HB.out)
        clear hb7 c3 f3 c4 HN6 HB
        generalize dotsB (undoB pa) = dp at *
        generalize undoB qu = dq at *
        have d4 := HN7.out.box.cells.c4
        have f4 := HN7.out.box.full.f4
        simp only at d4
        have HN9 := Lib.hid (HN7.out.s4 dq)
        simp only at HN9
        clear HN7
        have HQ := Lib.hid (put6 ⟨sc, lh, np, dp, dq, hq⟩ HN9.out.below (Nat.le_succ _) HN9.out.res)
        obtain ⟨c0, c1, c2, c3, c4, c5⟩ := HN9.out.box.cells
        simp only at c0 c1 c2 c3 c4 c5
        have rb := HN9.out.res.full
        obtain ⟨r0, r1, r2, r3, r4, r5⟩ := rb.c
        have g0 := rb.f0
        have g1 := rb.f1
        have g2 := rb.f2
        have g3 := rb.f3
        have g4 := rb.f4
        have g5 := rb.f5
        clear rb
        go_wp2_with fail
        clear r0 r1 r2 r3 r4 r5 g0 g1 g2 g3 g4 g5 c0 c1 c2 c3 c4 c5
        obtain ⟨k0, k1, k2, k3, k4, k5⟩ := HQ.out.1.cells
        unfold put6w at k0 k1 k2 k3 k4 k5
        simp only at k0 k1 k2 k3 k4 k5
        refine bodyPost_ret (v := uV ⟨sc, lh, np, dp, dq, hq⟩) ?_ rfl ⟨by rw [HB9.out], HQ.out.2⟩
        simp [results, Tryz.f33, go_sem, k0, k1, k2, k3, k4, k5]
  · have HE := Lib.hid (norm_no hc)
    have HQ := Lib.hid (put6 noU HN1.out.below (Nat.le_succ _) HN1.out.res)
    have rb := HN1.out.res.full
    obtain ⟨r0, r1, r2, r3, r4, r5⟩ := rb.c
    have g0 := rb.f0
    have g1 := rb.f1
    have g2 := rb.f2
    have g3 := rb.f3
    have g4 := rb.f4
    have g5 := rb.f5
    clear rb
    rcases check_codes hc with h3 | h3
    all_goals
      rw [h3]
      clear hc h3
      go_wp2_with fail
      clear r0 r1 r2 r3 r4 r5 g0 g1 g2 g3 g4 g5
      obtain ⟨k0, k1, k2, k3, k4, k5⟩ := HQ.out.1.cells
      unfold put6w at k0 k1 k2 k3 k4 k5
      simp only [noU] at k0 k1 k2 k3 k4 k5
      refine bodyPost_ret (v := uV noU) ?_ rfl ⟨by rw [HE.out], HQ.out.2⟩
      simp [results, Tryz.f33, go_sem, k0, k1, k2, k3, k4, k5, noU]
end Go.Proofs.YtmkpejioinkceaaGreatDoor
