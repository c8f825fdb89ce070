/- The law TestBack: the text of a tree is parsed as that tree; what was parsed has a text that is parsed as the same. The row of TestBack, and its card. -/
import Derived.Test.YtehdeclpighdeaaGreatDoorTestT3
import Derived.Test.YtehdeclpighdeaaGreatDoorRowBase
import Derived.Test.YtehdeclpighdeaaGreatDoorTestSz
namespace Go.Proofs.YtehdeclpighdeaaGreatDoor
open Go.RowKit
set_option linter.unusedVariables false

theorem putE_len (x : Ex) : (putE x).1.length ≤ 20 * weightE x := by
  have := textE_len x
  unfold putE
  cases mayE x
  · exact Nat.zero_le _
  · rw [cond_true]
    cases decide ((testB (textE x).1).2.2 = 0)
    · exact Nat.zero_le _
    · exact this
set_option maxRecDepth 100000 in
set_option maxHeartbeats 16000000 in
theorem law27_back_in (x : Ex) (s : Bs) (v : Value) (w : World) (hG : Good w) (hx : ExAt (fun _ => True) w x v) (hsm : smallE x) (hf : 0 < sizeE x 400) (hs : s.length ≤ 1500) : Calls Tryz.prog 6 #[v, .string ⟨s.toArray⟩] w (Ret w (.bool true)) := by
  have HSL := Lib.hid hs
  have hs2 : ¬ (1500 : Int) < (s.length : Int) := by omega
  have HNX := Lib.hid (few_narrow hf)
  have HWX := Lib.hid (few_weight hf)
  have HFW := Lib.hid (law27_few x hsm)
  have hdf : decide (0 < sizeE x 400) = true := decide_eq_true hf
  rw [hdf] at HFW
  have HPW := Lib.hid (put_wrong x)
  have HPB := Lib.hid (put_back (x := x))
  have HTL := Lib.hid (putE_len x)
  obtain ⟨T, e1, hT⟩ : ∃ T e1, putE x = (T, e1) := ⟨(putE x).1, (putE x).2, rfl⟩
  rw [hT] at HPW HPB HTL
  have HT := Lib.hid hT
  have HPY := Lib.hid (fun h => put_parsed (parsed_ok (s := s) h).1)
  have HWY := Lib.hid (fun h => (parsed_ok (s := s) h).2)
  have HNY := Lib.hid (testB_narrow s)
  have HPL := Lib.hid (testB_fits s).1
  obtain ⟨Y, pl, er2, hY⟩ : ∃ Y pl er2, testB s = (Y, pl, er2) := ⟨(testB s).1, (testB s).2.1, (testB s).2.2, rfl⟩
  rw [hY] at HPY HWY HNY HPL
  have HTB := Lib.hid hY
  clear hT hY hf hdf hs
  obtain ⟨k, t, u, a, n, c, rfl⟩ := hx.ten
  have hA : Below w.heap.size w (w.alloc (.cells (exL k t u (.slice a n c)).toArray 27)) := (Below.refl _ _).alloc (Nat.le_refl _) _
  have HX0 := Lib.hid (hx.next hA)
  have HG0 := Lib.hid (hG.next hA)
  have HB0 := Lib.hid (hA)
  have HN0 := Lib.hid (heap_alloc_new w (.cells (exL k t u (.slice a n c)).toArray 27))
  clear hx hA hG
  go_enter Tryz.func6, Tryz.ntmps6
  go_upto_region 1 with fail
  generalize w.alloc (.cells (exL k t u (.slice a n c)).toArray 27) = W0 at *
  obtain ⟨p0, p1, p2, p3, p4, p5, p6, p7, p8, p9⟩ := ten_cells HN0.out
  go_wp2_with fail
  refine (HFW.out _ W0 HX0.out).mono ?_
  rintro e w1 ⟨rfl, hb⟩
  have HX1 := Lib.hid (HX0.out.next hb)
  have HG1 := Lib.hid (HG0.out.next hb)
  have HB1 := Lib.hid (HB0.out.trans (hb.mono HB0.out.size))
  have HN1 := Lib.hid ((hb.block _ (Array.getElem?_eq_some_iff.1 HN0.out).1).trans HN0.out)
  clear hb
  clear p0 p1 p2 p3 p4 p5 p6 p7 p8 p9
  go_upto_region 3 with fail
  obtain ⟨p0, p1, p2, p3, p4, p5, p6, p7, p8, p9⟩ := ten_cells HN1.out
  go_wp2_with fail
  refine (test_Put x (by have := HWX.out; omega) _ w1 HG1.out HX1.out).mono ?_
  rintro e w2 ⟨rfl, hb⟩
  rw [HT.out]
  have HX2 := Lib.hid (HX1.out.next hb)
  have HG2 := Lib.hid (HG1.out.next hb)
  have HB2 := Lib.hid (HB1.out.trans (hb.mono HB1.out.size))
  have HN2 := Lib.hid ((hb.block _ (Array.getElem?_eq_some_iff.1 HN1.out).1).trans HN1.out)
  clear hb
  clear p0 p1 p2 p3 p4 p5 p6 p7 p8 p9
  have hpw := HPW.out
  have hpw : e1 = 0 ∨ (T = [] ∧ (e1 = 15 ∨ e1 = 3)) := hpw
  rcases hpw with rfl | ⟨rfl, he1⟩
  · obtain ⟨y, hy1, hy2⟩ := HPB.out rfl
    have hy1 : testB T = (y, 0, 0) := hy1
    have HY1 := Lib.hid hy1
    have HY2 := Lib.hid hy2
    clear hy1 hy2
    go_upto_region 5 with fail
    go_wp2_with fail
    refine (test_Parse w2 T (by have : T.length ≤ 20 * weightE x := HTL.out; have := HWX.out; omega) HG2.out).mono ?_
    rintro e w3 ⟨v3, rfl, hb, hx⟩
    rw [HY1.out]
    rw [HY1.out] at hx
    obtain ⟨k3, t3, u3, a3, n3, c3, rfl⟩ := hx.out.ten
    have hA : Below w3.heap.size w3 (w3.alloc (.cells (exL k3 t3 u3 (.slice a3 n3 c3)).toArray 27)) := (Below.refl _ _).alloc (Nat.le_refl _) _
    have hbA := hb.trans (hA.mono hb.size)
    have HX3 := Lib.hid (HX2.out.next hbA)
    have HG3 := Lib.hid (HG2.out.next hbA)
    have HB3 := Lib.hid (HB2.out.trans (hbA.mono HB2.out.size))
    have HN3 := Lib.hid ((hbA.block _ (Array.getElem?_eq_some_iff.1 HN2.out).1).trans HN2.out)
    have HYY3 := Lib.hid ((hx.out.next hA).any)
    have HQ3 := Lib.hid (heap_alloc_new w3 (.cells (exL k3 t3 u3 (.slice a3 n3 c3)).toArray 27))
    clear hb hA hbA hx
    go_upto_region 6 with fail
    generalize w3.alloc (.cells (exL k3 t3 u3 (.slice a3 n3 c3)).toArray 27) = W3 at *
    obtain ⟨p0, p1, p2, p3, p4, p5, p6, p7, p8, p9⟩ := ten_cells HN3.out
    obtain ⟨q0, q1, q2, q3, q4, q5, q6, q7, q8, q9⟩ := ten_cells HQ3.out
    go_wp2_with fail
    refine (test_Same x HNX.out y _ _ W3 HX3.out HYY3.out).mono ?_
    rintro e w4 ⟨rfl, hb⟩
    rw [HY2.out]
    have HX4 := Lib.hid (HX3.out.next hb)
    have HG4 := Lib.hid (HG3.out.next hb)
    have HB4 := Lib.hid (HB3.out.trans (hb.mono HB3.out.size))
    have HN4 := Lib.hid ((hb.block _ (Array.getElem?_eq_some_iff.1 HN3.out).1).trans HN3.out)
    have HYY4 := Lib.hid (HYY3.out.next hb)
    have HQ4 := Lib.hid ((hb.block _ (Array.getElem?_eq_some_iff.1 HQ3.out).1).trans HQ3.out)
    clear hb
    clear p0 p1 p2 p3 p4 p5 p6 p7 p8 p9 q0 q1 q2 q3 q4 q5 q6 q7 q8 q9
    go_upto_region 10 with fail
    go_wp2_with fail
    refine (test_Parse w4 s (by have := HSL.out; omega) HG4.out).mono ?_
    rintro e wpa ⟨v5, rfl, hb, hx⟩
    rw [HTB.out]
    rw [HTB.out] at hx
    obtain ⟨k5, t5, u5, a5, n5, c5, rfl⟩ := hx.out.ten
    have hA : Below wpa.heap.size wpa (wpa.alloc (.cells (exL k5 t5 u5 (.slice a5 n5 c5)).toArray 27)) := (Below.refl _ _).alloc (Nat.le_refl _) _
    have hbA := hb.trans (hA.mono hb.size)
    have HG5 := Lib.hid (HG4.out.next hbA)
    have HB5 := Lib.hid (HB4.out.trans (hbA.mono HB4.out.size))
    have HY5 := Lib.hid ((hx.out.next hA).any)
    have HM5 := Lib.hid (heap_alloc_new wpa (.cells (exL k5 t5 u5 (.slice a5 n5 c5)).toArray 27))
    clear hb hA hbA hx
    go_upto_region 11 with fail
    generalize wpa.alloc (.cells (exL k5 t5 u5 (.slice a5 n5 c5)).toArray 27) = Wpa at *
    generalize hbx5 : wpa.heap.size = bya at *
    have HBX5 := Lib.hid hbx5
    clear hbx5
    rcases Decidable.em (er2 = 0) with rfl | h20
    · have hpy := HPY.out rfl
      have HWZ := Lib.hid (HWY.out rfl)
      obtain ⟨T2, e2, hT2⟩ : ∃ T2 e2, putE Y = (T2, e2) := ⟨(putE Y).1, (putE Y).2, rfl⟩
      rw [hT2] at hpy
      have HT2 := Lib.hid hT2
      have HPB2 := Lib.hid (put_back (x := Y))
      rw [hT2] at HPB2
      have HTL2 := Lib.hid (putE_len Y)
      rw [hT2] at HTL2
      clear hT2
      obtain ⟨p0, p1, p2, p3, p4, p5, p6, p7, p8, p9⟩ := ten_cells HM5.out
      go_upto_region 13 with fail
      go_wp2_with fail
      refine (test_Put Y (by have := HWZ.out; have := HSL.out; omega) _ Wpa HG5.out HY5.out).mono ?_
      rintro e wqa ⟨rfl, hb⟩
      rw [HT2.out]
      have HG6 := Lib.hid (HG5.out.next hb)
      have HB6 := Lib.hid (HB5.out.trans (hb.mono HB5.out.size))
      have HY6 := Lib.hid (HY5.out.next hb)
      have HM6 := Lib.hid ((hb.block _ (Array.getElem?_eq_some_iff.1 HM5.out).1).trans HM5.out)
      clear hb
      clear p0 p1 p2 p3 p4 p5 p6 p7 p8 p9
      have hpy : e2 = 0 ∨ e2 = 3 := hpy
      rcases hpy with rfl | rfl
      · obtain ⟨z, hz1, hz2⟩ := HPB2.out rfl
        have hz1 : testB T2 = (z, 0, 0) := hz1
        have HZ2 := Lib.hid hz2
        have HZ1 := Lib.hid hz1
        clear hz1 hz2
        go_upto_region 16 with fail
        go_wp2_with fail
        refine (test_Parse wqa T2 (by have : T2.length ≤ 20 * weightE Y := HTL2.out; have := HWZ.out; have := HSL.out; omega) HG6.out).mono ?_
        rintro e wra ⟨v7, rfl, hb, hx⟩
        rw [HZ1.out]
        rw [HZ1.out] at hx
        obtain ⟨k7, t7, u7, a7, n7, c7, rfl⟩ := hx.out.ten
        have hA : Below wra.heap.size wra (wra.alloc (.cells (exL k7 t7 u7 (.slice a7 n7 c7)).toArray 27)) := (Below.refl _ _).alloc (Nat.le_refl _) _
        have hbA := hb.trans (hA.mono hb.size)
        have HG7 := Lib.hid (HG6.out.next hbA)
        have HB7 := Lib.hid (HB6.out.trans (hbA.mono HB6.out.size))
        have HY7 := Lib.hid (HY6.out.next hbA)
        have HM7 := Lib.hid ((hbA.block _ (Array.getElem?_eq_some_iff.1 HM6.out).1).trans HM6.out)
        have HZZ7 := Lib.hid ((hx.out.next hA).any)
        have HK7 := Lib.hid (heap_alloc_new wra (.cells (exL k7 t7 u7 (.slice a7 n7 c7)).toArray 27))
        clear hb hA hbA hx
        go_upto_region 17 with fail
        generalize wra.alloc (.cells (exL k7 t7 u7 (.slice a7 n7 c7)).toArray 27) = Wra at *
        obtain ⟨p0, p1, p2, p3, p4, p5, p6, p7, p8, p9⟩ := ten_cells HM7.out
        obtain ⟨q0, q1, q2, q3, q4, q5, q6, q7, q8, q9⟩ := ten_cells HK7.out
        go_wp2_with fail
        refine (test_Same Y HNY.out z _ _ Wra HY7.out HZZ7.out).mono ?_
        rintro e wsa ⟨rfl, hb⟩
        rw [HZ2.out]
        have HG8 := Lib.hid (HG7.out.next hb)
        have HB8 := Lib.hid (HB7.out.trans (hb.mono HB7.out.size))
        have HY8 := Lib.hid (HY7.out.next hb)
        have HM8 := Lib.hid ((hb.block _ (Array.getElem?_eq_some_iff.1 HM7.out).1).trans HM7.out)
        have HZZ8 := Lib.hid (HZZ7.out.next hb)
        have HK8 := Lib.hid ((hb.block _ (Array.getElem?_eq_some_iff.1 HK7.out).1).trans HK7.out)
        clear hb
        clear p0 p1 p2 p3 p4 p5 p6 p7 p8 p9 q0 q1 q2 q3 q4 q5 q6 q7 q8 q9
        go_wp2_with fail
        refine (law27_awake wsa HG8.out).mono ?_
        rintro e wta ⟨rfl, hb⟩
        have HG9 := Lib.hid (HG8.out.next hb)
        have HB9 := Lib.hid (HB8.out.trans (hb.mono HB8.out.size))
        have HY9 := Lib.hid (HY8.out.next hb)
        have HM9 := Lib.hid ((hb.block _ (Array.getElem?_eq_some_iff.1 HM8.out).1).trans HM8.out)
        have HZZ9 := Lib.hid (HZZ8.out.next hb)
        have HK9 := Lib.hid ((hb.block _ (Array.getElem?_eq_some_iff.1 HK8.out).1).trans HK8.out)
        clear hb
        go_wp2_with fail
        go_ret
        exact ⟨rfl, HB9.out⟩
      · go_upto_region 15 with fail
        go_wp2_with fail
        refine (law27_awake wqa HG6.out).mono ?_
        rintro e wta ⟨rfl, hb⟩
        have HG7 := Lib.hid (HG6.out.next hb)
        have HB7 := Lib.hid (HB6.out.trans (hb.mono HB6.out.size))
        have HY7 := Lib.hid (HY6.out.next hb)
        have HM7 := Lib.hid ((hb.block _ (Array.getElem?_eq_some_iff.1 HM6.out).1).trans HM6.out)
        clear hb
        go_wp2_with fail
        go_ret
        exact ⟨rfl, HB7.out⟩
    · have hq0 : (er2 == 0) = false := beq_eq_false_iff_ne.2 h20
      have hq1 : (er2 != 0) = true := by rw [bne, hq0]; rfl
      have i0 : (0 : Int) ≤ (pl : Int) := by omega
      have i1 : (pl : Int) ≤ (s.length : Int) := by have := HPL.out; omega
      clear h20
      go_upto_region 12 with fail
      clear hq0 hq1
      go_wp2_with fail
      refine (law27_awake Wpa HG5.out).mono ?_
      rintro e wta ⟨rfl, hb⟩
      have HG6 := Lib.hid (HG5.out.next hb)
      have HB6 := Lib.hid (HB5.out.trans (hb.mono HB5.out.size))
      have HY6 := Lib.hid (HY5.out.next hb)
      have HM6 := Lib.hid ((hb.block _ (Array.getElem?_eq_some_iff.1 HM5.out).1).trans HM5.out)
      clear hb
      go_wp2_with fail
      go_ret
      exact ⟨rfl, HB6.out⟩
  · rcases he1 with rfl | rfl
    · go_upto_region 10 with fail
      go_wp2_with fail
      refine (test_Parse w2 s (by have := HSL.out; omega) HG2.out).mono ?_
      rintro e wpb ⟨v3, rfl, hb, hx⟩
      rw [HTB.out]
      rw [HTB.out] at hx
      obtain ⟨k3, t3, u3, a3, n3, c3, rfl⟩ := hx.out.ten
      have hA : Below wpb.heap.size wpb (wpb.alloc (.cells (exL k3 t3 u3 (.slice a3 n3 c3)).toArray 27)) := (Below.refl _ _).alloc (Nat.le_refl _) _
      have hbA := hb.trans (hA.mono hb.size)
      have HG3 := Lib.hid (HG2.out.next hbA)
      have HB3 := Lib.hid (HB2.out.trans (hbA.mono HB2.out.size))
      have HY3 := Lib.hid ((hx.out.next hA).any)
      have HM3 := Lib.hid (heap_alloc_new wpb (.cells (exL k3 t3 u3 (.slice a3 n3 c3)).toArray 27))
      clear hb hA hbA hx
      go_upto_region 11 with fail
      generalize wpb.alloc (.cells (exL k3 t3 u3 (.slice a3 n3 c3)).toArray 27) = Wpb at *
      generalize hbx3 : wpb.heap.size = byb at *
      have HBX3 := Lib.hid hbx3
      clear hbx3
      rcases Decidable.em (er2 = 0) with rfl | h20
      · have hpy := HPY.out rfl
        have HWZ := Lib.hid (HWY.out rfl)
        obtain ⟨T2, e2, hT2⟩ : ∃ T2 e2, putE Y = (T2, e2) := ⟨(putE Y).1, (putE Y).2, rfl⟩
        rw [hT2] at hpy
        have HT2 := Lib.hid hT2
        have HPB2 := Lib.hid (put_back (x := Y))
        rw [hT2] at HPB2
        have HTL2 := Lib.hid (putE_len Y)
        rw [hT2] at HTL2
        clear hT2
        obtain ⟨p0, p1, p2, p3, p4, p5, p6, p7, p8, p9⟩ := ten_cells HM3.out
        go_upto_region 13 with fail
        go_wp2_with fail
        refine (test_Put Y (by have := HWZ.out; have := HSL.out; omega) _ Wpb HG3.out HY3.out).mono ?_
        rintro e wqb ⟨rfl, hb⟩
        rw [HT2.out]
        have HG4 := Lib.hid (HG3.out.next hb)
        have HB4 := Lib.hid (HB3.out.trans (hb.mono HB3.out.size))
        have HY4 := Lib.hid (HY3.out.next hb)
        have HM4 := Lib.hid ((hb.block _ (Array.getElem?_eq_some_iff.1 HM3.out).1).trans HM3.out)
        clear hb
        clear p0 p1 p2 p3 p4 p5 p6 p7 p8 p9
        have hpy : e2 = 0 ∨ e2 = 3 := hpy
        rcases hpy with rfl | rfl
        · obtain ⟨z, hz1, hz2⟩ := HPB2.out rfl
          have hz1 : testB T2 = (z, 0, 0) := hz1
          have HZ2 := Lib.hid hz2
          have HZ1 := Lib.hid hz1
          clear hz1 hz2
          go_upto_region 16 with fail
          go_wp2_with fail
          refine (test_Parse wqb T2 (by have : T2.length ≤ 20 * weightE Y := HTL2.out; have := HWZ.out; have := HSL.out; omega) HG4.out).mono ?_
          rintro e wrb ⟨v5, rfl, hb, hx⟩
          rw [HZ1.out]
          rw [HZ1.out] at hx
          obtain ⟨k5, t5, u5, a5, n5, c5, rfl⟩ := hx.out.ten
          have hA : Below wrb.heap.size wrb (wrb.alloc (.cells (exL k5 t5 u5 (.slice a5 n5 c5)).toArray 27)) := (Below.refl _ _).alloc (Nat.le_refl _) _
          have hbA := hb.trans (hA.mono hb.size)
          have HG5 := Lib.hid (HG4.out.next hbA)
          have HB5 := Lib.hid (HB4.out.trans (hbA.mono HB4.out.size))
          have HY5 := Lib.hid (HY4.out.next hbA)
          have HM5 := Lib.hid ((hbA.block _ (Array.getElem?_eq_some_iff.1 HM4.out).1).trans HM4.out)
          have HZZ5 := Lib.hid ((hx.out.next hA).any)
          have HK5 := Lib.hid (heap_alloc_new wrb (.cells (exL k5 t5 u5 (.slice a5 n5 c5)).toArray 27))
          clear hb hA hbA hx
          go_upto_region 17 with fail
          generalize wrb.alloc (.cells (exL k5 t5 u5 (.slice a5 n5 c5)).toArray 27) = Wrb at *
          obtain ⟨p0, p1, p2, p3, p4, p5, p6, p7, p8, p9⟩ := ten_cells HM5.out
          obtain ⟨q0, q1, q2, q3, q4, q5, q6, q7, q8, q9⟩ := ten_cells HK5.out
          go_wp2_with fail
          refine (test_Same Y HNY.out z _ _ Wrb HY5.out HZZ5.out).mono ?_
          rintro e wsb ⟨rfl, hb⟩
          rw [HZ2.out]
          have HG6 := Lib.hid (HG5.out.next hb)
          have HB6 := Lib.hid (HB5.out.trans (hb.mono HB5.out.size))
          have HY6 := Lib.hid (HY5.out.next hb)
          have HM6 := Lib.hid ((hb.block _ (Array.getElem?_eq_some_iff.1 HM5.out).1).trans HM5.out)
          have HZZ6 := Lib.hid (HZZ5.out.next hb)
          have HK6 := Lib.hid ((hb.block _ (Array.getElem?_eq_some_iff.1 HK5.out).1).trans HK5.out)
          clear hb
          clear p0 p1 p2 p3 p4 p5 p6 p7 p8 p9 q0 q1 q2 q3 q4 q5 q6 q7 q8 q9
          go_wp2_with fail
          refine (law27_awake wsb HG6.out).mono ?_
          rintro e wtb ⟨rfl, hb⟩
          have HG7 := Lib.hid (HG6.out.next hb)
          have HB7 := Lib.hid (HB6.out.trans (hb.mono HB6.out.size))
          have HY7 := Lib.hid (HY6.out.next hb)
          have HM7 := Lib.hid ((hb.block _ (Array.getElem?_eq_some_iff.1 HM6.out).1).trans HM6.out)
          have HZZ7 := Lib.hid (HZZ6.out.next hb)
          have HK7 := Lib.hid ((hb.block _ (Array.getElem?_eq_some_iff.1 HK6.out).1).trans HK6.out)
          clear hb
          go_wp2_with fail
          go_ret
          exact ⟨rfl, HB7.out⟩
        · go_upto_region 15 with fail
          go_wp2_with fail
          refine (law27_awake wqb HG4.out).mono ?_
          rintro e wtb ⟨rfl, hb⟩
          have HG5 := Lib.hid (HG4.out.next hb)
          have HB5 := Lib.hid (HB4.out.trans (hb.mono HB4.out.size))
          have HY5 := Lib.hid (HY4.out.next hb)
          have HM5 := Lib.hid ((hb.block _ (Array.getElem?_eq_some_iff.1 HM4.out).1).trans HM4.out)
          clear hb
          go_wp2_with fail
          go_ret
          exact ⟨rfl, HB5.out⟩
      · have hq0 : (er2 == 0) = false := beq_eq_false_iff_ne.2 h20
        have hq1 : (er2 != 0) = true := by rw [bne, hq0]; rfl
        have i0 : (0 : Int) ≤ (pl : Int) := by omega
        have i1 : (pl : Int) ≤ (s.length : Int) := by have := HPL.out; omega
        clear h20
        go_upto_region 12 with fail
        clear hq0 hq1
        go_wp2_with fail
        refine (law27_awake Wpb HG3.out).mono ?_
        rintro e wtb ⟨rfl, hb⟩
        have HG4 := Lib.hid (HG3.out.next hb)
        have HB4 := Lib.hid (HB3.out.trans (hb.mono HB3.out.size))
        have HY4 := Lib.hid (HY3.out.next hb)
        have HM4 := Lib.hid ((hb.block _ (Array.getElem?_eq_some_iff.1 HM3.out).1).trans HM3.out)
        clear hb
        go_wp2_with fail
        go_ret
        exact ⟨rfl, HB4.out⟩
    · go_upto_region 10 with fail
      go_wp2_with fail
      refine (test_Parse w2 s (by have := HSL.out; omega) HG2.out).mono ?_
      rintro e wpc ⟨v3, rfl, hb, hx⟩
      rw [HTB.out]
      rw [HTB.out] at hx
      obtain ⟨k3, t3, u3, a3, n3, c3, rfl⟩ := hx.out.ten
      have hA : Below wpc.heap.size wpc (wpc.alloc (.cells (exL k3 t3 u3 (.slice a3 n3 c3)).toArray 27)) := (Below.refl _ _).alloc (Nat.le_refl _) _
      have hbA := hb.trans (hA.mono hb.size)
      have HG3 := Lib.hid (HG2.out.next hbA)
      have HB3 := Lib.hid (HB2.out.trans (hbA.mono HB2.out.size))
      have HY3 := Lib.hid ((hx.out.next hA).any)
      have HM3 := Lib.hid (heap_alloc_new wpc (.cells (exL k3 t3 u3 (.slice a3 n3 c3)).toArray 27))
      clear hb hA hbA hx
      go_upto_region 11 with fail
      generalize wpc.alloc (.cells (exL k3 t3 u3 (.slice a3 n3 c3)).toArray 27) = Wpc at *
      generalize hbx3 : wpc.heap.size = byc at *
      have HBX3 := Lib.hid hbx3
      clear hbx3
      rcases Decidable.em (er2 = 0) with rfl | h20
      · have hpy := HPY.out rfl
        have HWZ := Lib.hid (HWY.out rfl)
        obtain ⟨T2, e2, hT2⟩ : ∃ T2 e2, putE Y = (T2, e2) := ⟨(putE Y).1, (putE Y).2, rfl⟩
        rw [hT2] at hpy
        have HT2 := Lib.hid hT2
        have HPB2 := Lib.hid (put_back (x := Y))
        rw [hT2] at HPB2
        have HTL2 := Lib.hid (putE_len Y)
        rw [hT2] at HTL2
        clear hT2
        obtain ⟨p0, p1, p2, p3, p4, p5, p6, p7, p8, p9⟩ := ten_cells HM3.out
        go_upto_region 13 with fail
        go_wp2_with fail
        refine (test_Put Y (by have := HWZ.out; have := HSL.out; omega) _ Wpc HG3.out HY3.out).mono ?_
        rintro e wqc ⟨rfl, hb⟩
        rw [HT2.out]
        have HG4 := Lib.hid (HG3.out.next hb)
        have HB4 := Lib.hid (HB3.out.trans (hb.mono HB3.out.size))
        have HY4 := Lib.hid (HY3.out.next hb)
        have HM4 := Lib.hid ((hb.block _ (Array.getElem?_eq_some_iff.1 HM3.out).1).trans HM3.out)
        clear hb
        clear p0 p1 p2 p3 p4 p5 p6 p7 p8 p9
        have hpy : e2 = 0 ∨ e2 = 3 := hpy
        rcases hpy with rfl | rfl
        · obtain ⟨z, hz1, hz2⟩ := HPB2.out rfl
          have hz1 : testB T2 = (z, 0, 0) := hz1
          have HZ2 := Lib.hid hz2
          have HZ1 := Lib.hid hz1
          clear hz1 hz2
          go_upto_region 16 with fail
          go_wp2_with fail
          refine (test_Parse wqc T2 (by have : T2.length ≤ 20 * weightE Y := HTL2.out; have := HWZ.out; have := HSL.out; omega) HG4.out).mono ?_
          rintro e wrc ⟨v5, rfl, hb, hx⟩
          rw [HZ1.out]
          rw [HZ1.out] at hx
          obtain ⟨k5, t5, u5, a5, n5, c5, rfl⟩ := hx.out.ten
          have hA : Below wrc.heap.size wrc (wrc.alloc (.cells (exL k5 t5 u5 (.slice a5 n5 c5)).toArray 27)) := (Below.refl _ _).alloc (Nat.le_refl _) _
          have hbA := hb.trans (hA.mono hb.size)
          have HG5 := Lib.hid (HG4.out.next hbA)
          have HB5 := Lib.hid (HB4.out.trans (hbA.mono HB4.out.size))
          have HY5 := Lib.hid (HY4.out.next hbA)
          have HM5 := Lib.hid ((hbA.block _ (Array.getElem?_eq_some_iff.1 HM4.out).1).trans HM4.out)
          have HZZ5 := Lib.hid ((hx.out.next hA).any)
          have HK5 := Lib.hid (heap_alloc_new wrc (.cells (exL k5 t5 u5 (.slice a5 n5 c5)).toArray 27))
          clear hb hA hbA hx
          go_upto_region 17 with fail
          generalize wrc.alloc (.cells (exL k5 t5 u5 (.slice a5 n5 c5)).toArray 27) = Wrc at *
          obtain ⟨p0, p1, p2, p3, p4, p5, p6, p7, p8, p9⟩ := ten_cells HM5.out
          obtain ⟨q0, q1, q2, q3, q4, q5, q6, q7, q8, q9⟩ := ten_cells HK5.out
          go_wp2_with fail
          refine (test_Same Y HNY.out z _ _ Wrc HY5.out HZZ5.out).mono ?_
          rintro e wsc ⟨rfl, hb⟩
          rw [HZ2.out]
          have HG6 := Lib.hid (HG5.out.next hb)
          have HB6 := Lib.hid (HB5.out.trans (hb.mono HB5.out.size))
          have HY6 := Lib.hid (HY5.out.next hb)
          have HM6 := Lib.hid ((hb.block _ (Array.getElem?_eq_some_iff.1 HM5.out).1).trans HM5.out)
          have HZZ6 := Lib.hid (HZZ5.out.next hb)
          have HK6 := Lib.hid ((hb.block _ (Array.getElem?_eq_some_iff.1 HK5.out).1).trans HK5.out)
          clear hb
          clear p0 p1 p2 p3 p4 p5 p6 p7 p8 p9 q0 q1 q2 q3 q4 q5 q6 q7 q8 q9
          go_wp2_with fail
          refine (law27_awake wsc HG6.out).mono ?_
          rintro e wtc ⟨rfl, hb⟩
          have HG7 := Lib.hid (HG6.out.next hb)
          have HB7 := Lib.hid (HB6.out.trans (hb.mono HB6.out.size))
          have HY7 := Lib.hid (HY6.out.next hb)
          have HM7 := Lib.hid ((hb.block _ (Array.getElem?_eq_some_iff.1 HM6.out).1).trans HM6.out)
          have HZZ7 := Lib.hid (HZZ6.out.next hb)
          have HK7 := Lib.hid ((hb.block _ (Array.getElem?_eq_some_iff.1 HK6.out).1).trans HK6.out)
          clear hb
          go_wp2_with fail
          go_ret
          exact ⟨rfl, HB7.out⟩
        · go_upto_region 15 with fail
          go_wp2_with fail
          refine (law27_awake wqc HG4.out).mono ?_
          rintro e wtc ⟨rfl, hb⟩
          have HG5 := Lib.hid (HG4.out.next hb)
          have HB5 := Lib.hid (HB4.out.trans (hb.mono HB4.out.size))
          have HY5 := Lib.hid (HY4.out.next hb)
          have HM5 := Lib.hid ((hb.block _ (Array.getElem?_eq_some_iff.1 HM4.out).1).trans HM4.out)
          clear hb
          go_wp2_with fail
          go_ret
          exact ⟨rfl, HB5.out⟩
      · have hq0 : (er2 == 0) = false := beq_eq_false_iff_ne.2 h20
        have hq1 : (er2 != 0) = true := by rw [bne, hq0]; rfl
        have i0 : (0 : Int) ≤ (pl : Int) := by omega
        have i1 : (pl : Int) ≤ (s.length : Int) := by have := HPL.out; omega
        clear h20
        go_upto_region 12 with fail
        clear hq0 hq1
        go_wp2_with fail
        refine (law27_awake Wpc HG3.out).mono ?_
        rintro e wtc ⟨rfl, hb⟩
        have HG4 := Lib.hid (HG3.out.next hb)
        have HB4 := Lib.hid (HB3.out.trans (hb.mono HB3.out.size))
        have HY4 := Lib.hid (HY3.out.next hb)
        have HM4 := Lib.hid ((hb.block _ (Array.getElem?_eq_some_iff.1 HM3.out).1).trans HM3.out)
        clear hb
        go_wp2_with fail
        go_ret
        exact ⟨rfl, HB4.out⟩
set_option maxRecDepth 100000 in
set_option maxHeartbeats 4000000 in
theorem law27_back_out (x : Ex) (s : ByteArray) (v : Value) (w : World) (hG : Good w) (hx : ExAt (fun _ => True) w x v) (hsm : smallE x) (ho : decide (0 < sizeE x 400) = false ∨ 1500 < s.size) : Calls Tryz.prog 6 #[v, .string s] w (Ret w (.bool true)) := by
  have HFW := Lib.hid (law27_few x hsm)
  obtain ⟨q, hq⟩ : ∃ q, decide (0 < sizeE x 400) = q := ⟨_, rfl⟩
  rw [hq] at HFW
  have HO := Lib.hid (show q = false ∨ 1500 < s.size from by rcases ho with h | h; exact .inl (by rw [← hq]; exact h); exact .inr h)
  clear hq ho
  obtain ⟨k, t, u, a, n, c, rfl⟩ := hx.ten
  have hA : Below w.heap.size w (w.alloc (.cells (exL k t u (.slice a n c)).toArray 27)) := (Below.refl _ _).alloc (Nat.le_refl _) _
  have HX0 := Lib.hid (hx.next hA)
  have HG0 := Lib.hid (hG.next hA)
  have HB0 := Lib.hid (hA)
  have HN0 := Lib.hid (heap_alloc_new w (.cells (exL k t u (.slice a n c)).toArray 27))
  clear hx hA hG
  go_enter Tryz.func6, Tryz.ntmps6
  go_upto_region 1 with fail
  generalize w.alloc (.cells (exL k t u (.slice a n c)).toArray 27) = W0 at *
  obtain ⟨p0, p1, p2, p3, p4, p5, p6, p7, p8, p9⟩ := ten_cells HN0.out
  go_wp2_with fail
  refine (HFW.out _ W0 HX0.out).mono ?_
  rintro e w1 ⟨rfl, hb⟩
  have HX1 := Lib.hid (HX0.out.next hb)
  have HG1 := Lib.hid (HG0.out.next hb)
  have HB1 := Lib.hid (HB0.out.trans (hb.mono HB0.out.size))
  have HN1 := Lib.hid ((hb.block _ (Array.getElem?_eq_some_iff.1 HN0.out).1).trans HN0.out)
  clear hb
  clear p0 p1 p2 p3 p4 p5 p6 p7 p8 p9
  rcases q with _ | _
  · skip
    go_wp2_with fail
    refine (law27_awake w1 HG1.out).mono ?_
    rintro e w2 ⟨rfl, hb⟩
    have HG2 := Lib.hid (HG1.out.next hb)
    have HB2 := Lib.hid (HB1.out.trans (hb.mono HB1.out.size))
    clear hb
    go_wp2_with fail
    go_ret
    exact ⟨rfl, HB2.out⟩
  · have hl : (1500 : Int) < (s.size : Int) := by rcases HO.out with h | h; cases h; omega
    go_wp2_with fail
    refine (law27_awake w1 HG1.out).mono ?_
    rintro e w2 ⟨rfl, hb⟩
    have HG2 := Lib.hid (HG1.out.next hb)
    have HB2 := Lib.hid (HB1.out.trans (hb.mono HB1.out.size))
    clear hb
    go_wp2_with fail
    go_ret
    exact ⟨rfl, HB2.out⟩
theorem law27_back (x : Ex) (s : ByteArray) (v : Value) (w : World) (hG : Good w) (hx : ExAt (fun _ => True) w x v) (hsm : smallE x) : Calls Tryz.prog 6 #[v, .string s] w (Ret w (.bool true)) := by
  by_cases hs : s.size ≤ 1500
  · by_cases hf : 0 < sizeE x 400
    · have e : (⟨s.data.toList.toArray⟩ : ByteArray) = s := by cases s; simp
      have h := law27_back_in x s.data.toList v w hG hx hsm hf hs
      rw [e] at h
      exact h
    · exact law27_back_out x s v w hG hx hsm (.inl (decide_eq_false hf))
  · exact law27_back_out x s v w hG hx hsm (.inr (by omega))
end Go.Proofs.YtehdeclpighdeaaGreatDoor

namespace Go.Proofs.YtehdeclpighdeaaGreatDoor.testBack
open Go.RowKit Go.ChangeShapes Go.WideShapes Go.ChangeAt
set_option linter.unusedVariables false

set_option maxRecDepth 100000 in
theorem lifted (os : Os) (started : os.Started) (H : Type) (enc : TypeId × Value → H) (F : Stop.Interp) :
    ReturnsInHanded {} Tryz.checked os 6 .any ((OpenSpec.ofChange Rows.testBackSpec).preRow enc Tryz.prog Tryz.f6 Rows.testBackRow.domain false Rows.testBackRow.laid)
      (((OpenSpec.ofChange Rows.testBackSpec).at F).post enc Tryz.prog Tryz.f6 false true false false) := by
  refine returnsInHanded_of_row (C := Tryz.checked) (s := OpenSpec.ofChange Rows.testBackSpec) own started (by kernel_rfl) Tryz.func6
    (witness_zip (enc := enc) (C := Tryz.checked) (World.laidAll Tryz.prog os laidAll2) #[.agg #[.int .i64 0, .string ⟨#[]⟩, .int .i64 0, .int .i64 0, .string ⟨#[]⟩, .string ⟨#[]⟩, .string ⟨#[]⟩, .bool false, .bool false, .slice none 0 0], .string ⟨#[]⟩]
      (World.laidAll_os _ _ _) (laid_shaped os _) (by kernel_rfl)
      (OpenSpec.preRow_of_B rfl 8 (by kernel_rfl) (by kernel_rfl) (laid_met os _))) ?_
  intro W base args ds gs before hval0 hW _ _ hsz0 hL hsh _
  have hsz : (DataW.weightsEach Tryz.prog (Tryz.f6.params.toList ++ (OpenSpec.ofChange Rows.testBackSpec).bare.plain.varTypes Tryz.prog) (ds ++ gs)).all (· ≤ reachBytes) = true := hsz0
  clear hsz0
  have hval : ∀ (j : Nat) t v, Tryz.f6.params[j]? = some t → args[j]? = some v → Value.okWide Tryz.prog W .any base t v := hval0
  have hW' := hW
  obtain ⟨p, q, hA0, hV, rfl, hfz, hnd⟩ := hW
  have hA : DataW.TrodAll enc Tryz.prog W 0 (fun _ => true) true Tryz.f6.params.toList args.toList ds p := hA0
  rw [Tryz.params6] at hA hval hsz
  obtain ⟨v0, v1, d0, d1, p0, p1, rfl, rfl, rfl, h0, h1⟩ := trodAll_two hA
  obtain ⟨rfl, rfl⟩ := trodVars_none hV
  have hlt : ∀ x ∈ p0 ++ p1, x.block < W.heap.size := fun x hx => by simpa using hW'.lt x (by simpa using hx)
  obtain ⟨x, h_x, s_x⟩ := open_ex (hval 0 _ v0 rfl rfl) h0 (light_arg hsz (j := 0) rfl rfl)
  obtain ⟨s, rfl, h_s⟩ := open_str (hval 1 _ v1 rfl rfl) h1 (light_arg hsz (j := 1) rfl rfl)
  have hg := good_of_shaped hsh
  clear hA0 hval0
  refine (law27_back x s v0 W hg h_x s_x).mono fun e W' ⟨he, bel⟩ => ?_
  subst he
  exact ⟨_, rfl, _, _, _, [], _, [], hW', trodAll_mk1 (shut_bool u4 _), trodAll_mk2 (Below.trod laidOut (by kernel_rfl) (of_decide_eq_true (by kernel_rfl)) h0 bel (fun x hx => hlt x (by simp [hx]))) (Below.trod laidOut (by kernel_rfl) (of_decide_eq_true (by kernel_rfl)) h1 bel (fun x hx => hlt x (by simp [hx]))), rfl, bel.frame _, fun h => by cases h⟩

theorem over : Rows.testBackRow.holds Tryz.pinned (OpenSpec.ofChange Rows.testBackSpec) :=
  OpenClaim.holds_of_cond 6 Tryz.f6 rfl rfl rfl rfl rfl rfl rfl ⟨rfl, rfl, rfl, rfl, rfl⟩ rfl rfl rfl rfl rfl (by kernel_rfl) Tryz.func6 (by kernel_rfl)
    (of_decide_eq_true (by kernel_rfl)) (by unfold Func.isWrapper; first | (rw [if_pos (by decide +kernel)]; kernel_rfl) | (rw [if_neg (by decide +kernel)]; exact ⟨rfl, rfl⟩))
    (fun os started H enc _ F0 => by rw [OpenClaim.pre_eq_preRow]; exact lifted os started H enc F0)

theorem proved : Rows.TestBackCardSaid :=
  Claim7.holds_tied_plain_at .later [] [.data, .pinned] true (true, "3660bc4c363bfce8b4298e9aab85f4c5f99686c6130673f627cf825b4370a59c") true
    over (fun _ h => by cases h) (by kernel_rfl) (fun _ h => by cases h) testBack_row_tie rfl ⟨rfl, rfl⟩ (by kernel_rfl) rfl
    (fun f fn hf hfn => by
      obtain rfl : f = 6 := Option.some.inj ((show Tryz.prog.funcNamed "inlay/inlaylaw27.TestBack" = some 6 by kernel_rfl).symm.trans hf) |>.symm
      obtain rfl : fn = Tryz.f6 := (Option.some.inj (Tryz.func6.symm.trans hfn)).symm
      exact ⟨by kernel_rfl, fun j t ht => by
        rw [Tryz.params6] at ht
        have hm : t ∈ [27, 9] := by simpa using Array.mem_of_getElem? ht
        have hall : ([27, 9].all fun u => !Tryz.prog.wantsStandIn u) = true := by kernel_rfl
        have := List.all_eq_true.1 hall t hm
        exact (show Tryz.prog.wantsStandIn t = false by simpa using this)⟩)
    (by kernel_rfl)
#print axioms proved
end Go.Proofs.YtehdeclpighdeaaGreatDoor.testBack
