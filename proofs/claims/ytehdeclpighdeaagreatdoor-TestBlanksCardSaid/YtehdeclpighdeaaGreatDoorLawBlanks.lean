/- The law TestBlanks: blanks at both ends, and brackets around a condition, make no difference to its tree. -/
import Derived.Test.YtehdeclpighdeaaGreatDoorTestE6
import Derived.Test.YtehdeclpighdeaaGreatDoorTestMove
import Derived.Shelf.Strings.Repeat
namespace Go.Proofs.YtehdeclpighdeaaGreatDoor
open Go.RowKit
set_option linter.unusedVariables false

theorem lib_Repeat (s : Bs) (c : Nat) (w : World) (hc : c ≤ 2) (hs : s.length ≤ 1000) :
    Calls Tryz.prog 21 #[.string ⟨s.toArray⟩, .int .i64 (c : Int)] w (Ret w (.string ⟨(Lib.repeatL s c).toArray⟩)) := by
  refine (Tryz.strings_Repeat ⟨s.toArray⟩ c w (by omega) ?_).mono ?_
  · show s.toArray.size * c ≤ _
    rw [List.size_toArray]
    have : s.length * c ≤ 1000 * 2 := Nat.mul_le_mul hs hc
    omega
  · rintro e w' ⟨rfl, hb⟩
    exact ⟨rfl, hb⟩
theorem rep_all {p : UInt8 → Bool} {l : Bs} (h : l.all p = true) : ∀ n, (Lib.repeatL l n).all p = true
  | 0 => rfl
  | n + 1 => by rw [Lib.repeatL, List.all_append, h, rep_all h n]; rfl
theorem gap_all (n m : Nat) : (Lib.repeatL [32, 9] n ++ Lib.repeatL [13, 10] m).all blk = true := by
  rw [List.all_append, rep_all (by decide), rep_all (by decide)]; rfl
theorem gap_len {n m : Nat} (hn : n ≤ 2) (hm : m ≤ 2) : (Lib.repeatL [32, 9] n ++ Lib.repeatL [13, 10] m).length ≤ 8 := by
  rw [List.length_append, Lib.repeatL_length, Lib.repeatL_length]
  simp only [List.length_cons, List.length_nil]; omega
set_option maxRecDepth 100000 in
set_option maxHeartbeats 8000000 in
theorem law27_blanks_bad (s : Bs) (b : Nat) (w : World) (hG : Good w) (hs : s.length ≤ 1500) (h0 : (testB s).2.2 ≠ 0) : Calls Tryz.prog 7 #[.string ⟨s.toArray⟩, .int .u8 (b : Int)] w (Ret w (.bool true)) := by
  have hs2 : ¬ (1500 : Int) < (s.length : Int) := by omega
  go_enter Tryz.func7, Tryz.ntmps7
  go_wp2_with fail
  refine (test_Parse w s (by omega) hG).mono ?_
  rintro e w1 ⟨v, rfl, hb, hx⟩
  obtain ⟨er, her⟩ : ∃ er : Int, (testB s).2.2 = er := ⟨_, rfl⟩
  obtain ⟨k, t, u, a, n, c, rfl⟩ := hx.out.ten
  have hA : Below w1.heap.size w1 (w1.alloc (.cells (exL k t u (.slice a n c)).toArray 27)) := (Below.refl _ _).alloc (Nat.le_refl _) _
  have HB := Lib.hid (hb.trans (hA.mono hb.size))
  have HG1 := Lib.hid ((hG.next hb).next hA)
  rw [her] at h0 ⊢
  have hq0 : (er == 0) = false := beq_eq_false_iff_ne.2 h0
  have hq1 : (er != 0) = true := by rw [bne, hq0]; rfl
  clear her hx hb hA hs2 h0
  go_upto_region 5 with fail
  generalize w1.alloc (.cells (exL k t u (.slice a n c)).toArray 27) = W1 at *
  clear hq0 hq1
  go_wp2_with fail
  refine (law27_awake W1 HG1.out).mono ?_
  rintro e w7 ⟨rfl, hb7⟩
  have HB7 := Lib.hid (HB.out.trans (hb7.mono HB.out.size))
  clear hb7
  go_wp2_with fail
  go_ret
  exact ⟨rfl, HB7.out⟩
set_option maxRecDepth 100000 in
set_option maxHeartbeats 8000000 in
theorem law27_blanks_ok (s : Bs) (b : Nat) (w : World) (hb : b < 256) (hG : Good w) (hs : s.length ≤ 1500) (h0 : (testB s).2.2 = 0) : Calls Tryz.prog 7 #[.string ⟨s.toArray⟩, .int .u8 (b : Int)] w (Ret w (.bool true)) := by
  have hs2 : ¬ (1500 : Int) < (s.length : Int) := by omega
  obtain ⟨X, tt, -, -, -, hX⟩ := testB_good h0
  have HNR := Lib.hid (show narrowE X by have := testB_narrow s; rw [hX] at this; exact this)
  obtain ⟨n1, hn1⟩ : ∃ n1, b % 3 = n1 := ⟨_, rfl⟩
  obtain ⟨m1, hm1⟩ : ∃ m1, b / 3 % 3 = m1 := ⟨_, rfl⟩
  have hn2 : n1 ≤ 2 := by omega
  have hm2 : m1 ≤ 2 := by omega
  have HBL := Lib.hid (blanks_around (gap_all n1 m1) h0)
  have HBR := Lib.hid (brackets_around (gap_all n1 m1) h0)
  have hgl := gap_len hn2 hm2
  have HGE := Lib.hid (sh_app (Lib.repeatL [32, 9] n1) (Lib.repeatL [13, 10] m1))
  rw [hX] at HBL HBR
  have hb3 : (b : Int) % 3 = (n1 : Int) := by omega
  have hb9 : (b : Int) / 3 % 256 % 3 = (m1 : Int) := by omega
  have HL1 := Lib.hid (show (Lib.repeatL [32, 9] n1).length ≤ 4 by rw [Lib.repeatL_length]; simp only [List.length_cons, List.length_nil]; omega)
  have HL2 := Lib.hid (show (Lib.repeatL [13, 10] m1).length ≤ 4 by rw [Lib.repeatL_length]; simp only [List.length_cons, List.length_nil]; omega)
  obtain ⟨g, hg⟩ : ∃ g, Lib.repeatL [32, 9] n1 ++ Lib.repeatL [13, 10] m1 = g := ⟨_, rfl⟩
  rw [hg] at HBL HBR HGE hgl
  have HX := Lib.hid hX
  have HS := Lib.hid hs
  have HG0 := Lib.hid hgl
  clear h0 hn1 hm1 hg hX hgl hb
  go_enter Tryz.func7, Tryz.ntmps7
  go_wp2_with fail
  refine (test_Parse w s (by have := HS.out; omega) hG).mono ?_
  rintro e w1 ⟨v, rfl, hb, hx⟩
  rw [HX.out] at hx ⊢
  obtain ⟨k, t, u, a, n, c, rfl⟩ := hx.out.ten
  have hA : Below w1.heap.size w1 (w1.alloc (.cells (exL k t u (.slice a n c)).toArray 27)) := (Below.refl _ _).alloc (Nat.le_refl _) _
  have HX1 := Lib.hid ((hx.out.next hA).any)
  have HB := Lib.hid (hb.trans (hA.mono hb.size))
  have HG1 := Lib.hid ((hG.next hb).next hA)
  have HN := Lib.hid (heap_alloc_new w1 (.cells (exL k t u (.slice a n c)).toArray 27))
  clear hx hb hA hs2
  go_upto_region 6 with fail
  generalize w1.alloc (.cells (exL k t u (.slice a n c)).toArray 27) = W1 at *
  generalize w1.heap.size = bx at *
  have hl1 := HL1.out
  have hl2 := HL2.out
  go_wp2_with fail
  refine (lib_Repeat [32, 9] n1 W1 hn2 (by decide)).mono ?_
  rintro e w2 ⟨rfl, hb2⟩
  have HB2 := Lib.hid (HB.out.trans (hb2.mono HB.out.size))
  have HX2 := Lib.hid (HX1.out.next hb2)
  have HG2 := Lib.hid (HG1.out.next hb2)
  have HN2 := Lib.hid ((hb2.block _ (Array.getElem?_eq_some_iff.1 HN.out).1).trans HN.out)
  clear hb2
  go_wp2_with fail
  refine (lib_Repeat [13, 10] m1 w2 hm2 (by decide)).mono ?_
  rintro e w3 ⟨rfl, hb3⟩
  have HB3 := Lib.hid (HB2.out.trans (hb3.mono HB2.out.size))
  have HX3 := Lib.hid (HX2.out.next hb3)
  have HG3 := Lib.hid (HG2.out.next hb3)
  have HN3 := Lib.hid ((hb3.block _ (Array.getElem?_eq_some_iff.1 HN2.out).1).trans HN2.out)
  clear hb3
  go_upto_region 7 with fail
  rw [HGE.out]
  have hgl := HG0.out
  have hsl := HS.out
  have HSA := Lib.hid (show (⟨g.toArray⟩ : ByteArray) ++ ⟨s.toArray⟩ ++ ⟨g.toArray⟩ = ⟨(g ++ s ++ g).toArray⟩ by rw [sh_app, sh_app])
  have HSB := Lib.hid (show (⟨g.toArray⟩ : ByteArray) ++ ⟨#[40]⟩ ++ ⟨s.toArray⟩ ++ ⟨g.toArray⟩ ++ ⟨#[41]⟩ = ⟨(g ++ [40] ++ s ++ g ++ [41]).toArray⟩ by
    rw [show (⟨#[40]⟩ : ByteArray) = ⟨[40].toArray⟩ from rfl, show (⟨#[41]⟩ : ByteArray) = ⟨[41].toArray⟩ from rfl, sh_app, sh_app, sh_app, sh_app])
  go_wp2_with fail
  rw [HSA.out]
  refine (test_Parse w3 (g ++ s ++ g) (by simp only [List.length_append]; omega) HG3.out).mono ?_
  rintro e w4 ⟨v, rfl, hb, hy⟩
  obtain ⟨Y, hY, hs1⟩ := HBL.out
  rw [hY] at hy ⊢
  have HXY := Lib.hid hs1
  obtain ⟨k2, t2, u2, a2, n2, c2, rfl⟩ := hy.out.ten
  have hA : Below w4.heap.size w4 (w4.alloc (.cells (exL k2 t2 u2 (.slice a2 n2 c2)).toArray 27)) := (Below.refl _ _).alloc (Nat.le_refl _) _
  have hbA := hb.trans (hA.mono hb.size)
  have HB4 := Lib.hid (HB3.out.trans (hbA.mono HB3.out.size))
  have HX4 := Lib.hid (HX3.out.next hbA)
  have HG4 := Lib.hid (HG3.out.next hbA)
  have HN4 := Lib.hid ((hbA.block _ (Array.getElem?_eq_some_iff.1 HN3.out).1).trans HN3.out)
  have HY4 := Lib.hid ((hy.out.next hA).any)
  have HM4 := Lib.hid (heap_alloc_new w4 (.cells (exL k2 t2 u2 (.slice a2 n2 c2)).toArray 27))
  clear hb hA hbA hy hY hs1
  go_upto_region 8 with fail
  generalize w4.alloc (.cells (exL k2 t2 u2 (.slice a2 n2 c2)).toArray 27) = W4 at *
  generalize w4.heap.size = bn at *
  go_wp2_with fail
  rw [HSB.out]
  refine (test_Parse W4 (g ++ [40] ++ s ++ g ++ [41]) (by simp only [List.length_append, List.length_singleton]; omega) HG4.out).mono ?_
  rintro e w5 ⟨v, rfl, hb, hz⟩
  rcases HBR.out with ⟨Z, hZ, hs1⟩ | ⟨pz, hZ⟩
  · rw [hZ] at hz ⊢
    have HXZ := Lib.hid hs1
    obtain ⟨k3, t3, u3, a3, n3, c3, rfl⟩ := hz.out.ten
    have hA : Below w5.heap.size w5 (w5.alloc (.cells (exL k3 t3 u3 (.slice a3 n3 c3)).toArray 27)) := (Below.refl _ _).alloc (Nat.le_refl _) _
    have hbA := hb.trans (hA.mono hb.size)
    have HB5 := Lib.hid (HB4.out.trans (hbA.mono HB4.out.size))
    have HX5 := Lib.hid (HX4.out.next hbA)
    have HY5 := Lib.hid (HY4.out.next hbA)
    have HG5 := Lib.hid (HG4.out.next hbA)
    have HN5 := Lib.hid ((hbA.block _ (Array.getElem?_eq_some_iff.1 HN4.out).1).trans HN4.out)
    have HM5 := Lib.hid ((hbA.block _ (Array.getElem?_eq_some_iff.1 HM4.out).1).trans HM4.out)
    have HZ5 := Lib.hid ((hz.out.next hA).any)
    have HK5 := Lib.hid (heap_alloc_new w5 (.cells (exL k3 t3 u3 (.slice a3 n3 c3)).toArray 27))
    clear hb hA hbA hz hZ hs1
    go_upto_region 9 with fail
    generalize w5.alloc (.cells (exL k3 t3 u3 (.slice a3 n3 c3)).toArray 27) = W5 at *
    generalize w5.heap.size = bk at *
    obtain ⟨p0, p1, p2, p3, p4, p5, p6, p7, p8, p9⟩ := ten_cells HN5.out
    obtain ⟨q0, q1, q2, q3, q4, q5, q6, q7, q8, q9⟩ := ten_cells HM5.out
    go_wp2_with fail
    refine (test_Same X HNR.out Y _ _ W5 HX5.out HY5.out).mono ?_
    rintro e w6 ⟨rfl, hb6⟩
    rw [HXY.out]
    have HB6 := Lib.hid (HB5.out.trans (hb6.mono HB5.out.size))
    have HX6 := Lib.hid (HX5.out.next hb6)
    have HZ6 := Lib.hid (HZ5.out.next hb6)
    have HG6 := Lib.hid (HG5.out.next hb6)
    have HN6 := Lib.hid ((hb6.block _ (Array.getElem?_eq_some_iff.1 HN5.out).1).trans HN5.out)
    have HK6 := Lib.hid ((hb6.block _ (Array.getElem?_eq_some_iff.1 HK5.out).1).trans HK5.out)
    clear hb6 p0 p1 p2 p3 p4 p5 p6 p7 p8 p9 q0 q1 q2 q3 q4 q5 q6 q7 q8 q9
    go_upto_region 11 with fail
    obtain ⟨p0, p1, p2, p3, p4, p5, p6, p7, p8, p9⟩ := ten_cells HN6.out
    obtain ⟨q0, q1, q2, q3, q4, q5, q6, q7, q8, q9⟩ := ten_cells HK6.out
    go_wp2_with fail
    refine (test_Same X HNR.out Z _ _ w6 HX6.out HZ6.out).mono ?_
    rintro e w7 ⟨rfl, hb7⟩
    rw [HXZ.out]
    have HB7 := Lib.hid (HB6.out.trans (hb7.mono HB6.out.size))
    have HG7 := Lib.hid (HG6.out.next hb7)
    clear hb7 p0 p1 p2 p3 p4 p5 p6 p7 p8 p9 q0 q1 q2 q3 q4 q5 q6 q7 q8 q9
    go_wp2_with fail
    refine (law27_awake w7 HG7.out).mono ?_
    rintro e w8 ⟨rfl, hb8⟩
    have HB8 := Lib.hid (HB7.out.trans (hb8.mono HB7.out.size))
    clear hb8
    go_wp2_with fail
    go_ret
    exact ⟨rfl, HB8.out⟩
  · rw [hZ] at hz ⊢
    obtain ⟨k3, t3, u3, a3, n3, c3, rfl⟩ := hz.out.ten
    have hA : Below w5.heap.size w5 (w5.alloc (.cells (exL k3 t3 u3 (.slice a3 n3 c3)).toArray 27)) := (Below.refl _ _).alloc (Nat.le_refl _) _
    have hbA := hb.trans (hA.mono hb.size)
    have HB5 := Lib.hid (HB4.out.trans (hbA.mono HB4.out.size))
    have HX5 := Lib.hid (HX4.out.next hbA)
    have HY5 := Lib.hid (HY4.out.next hbA)
    have HG5 := Lib.hid (HG4.out.next hbA)
    have HN5 := Lib.hid ((hbA.block _ (Array.getElem?_eq_some_iff.1 HN4.out).1).trans HN4.out)
    have HM5 := Lib.hid ((hbA.block _ (Array.getElem?_eq_some_iff.1 HM4.out).1).trans HM4.out)
    clear hb hA hbA hz hZ
    go_upto_region 9 with fail
    generalize w5.alloc (.cells (exL k3 t3 u3 (.slice a3 n3 c3)).toArray 27) = W5 at *
    generalize w5.heap.size = bk at *
    obtain ⟨p0, p1, p2, p3, p4, p5, p6, p7, p8, p9⟩ := ten_cells HN5.out
    obtain ⟨q0, q1, q2, q3, q4, q5, q6, q7, q8, q9⟩ := ten_cells HM5.out
    go_wp2_with fail
    refine (test_Same X HNR.out Y _ _ W5 HX5.out HY5.out).mono ?_
    rintro e w6 ⟨rfl, hb6⟩
    rw [HXY.out]
    have HB6 := Lib.hid (HB5.out.trans (hb6.mono HB5.out.size))
    have HG6 := Lib.hid (HG5.out.next hb6)
    clear hb6 p0 p1 p2 p3 p4 p5 p6 p7 p8 p9 q0 q1 q2 q3 q4 q5 q6 q7 q8 q9
    go_upto_region 11 with fail
    go_wp2_with fail
    refine (law27_awake w6 HG6.out).mono ?_
    rintro e w8 ⟨rfl, hb8⟩
    have HB8 := Lib.hid (HB6.out.trans (hb8.mono HB6.out.size))
    clear hb8
    go_wp2_with fail
    go_ret
    exact ⟨rfl, HB8.out⟩
set_option maxRecDepth 100000 in
theorem law27_blanks (s : ByteArray) (b : Nat) (w : World) (hb : b < 256) (hG : Good w) : Calls Tryz.prog 7 #[.string s, .int .u8 (b : Int)] w (Ret w (.bool true)) := by
  by_cases hs : s.size ≤ 1500
  · have e : (⟨s.data.toList.toArray⟩ : ByteArray) = s := by cases s; simp
    by_cases h0 : (testB s.data.toList).2.2 = 0
    · have h := law27_blanks_ok s.data.toList b w hb hG hs h0
      rw [e] at h
      exact h
    · have h := law27_blanks_bad s.data.toList b w hG hs h0
      rw [e] at h
      exact h
  · have hs2 : (1500 : Int) < (s.size : Int) := by omega
    clear hs
    go_enter Tryz.func7, Tryz.ntmps7
    go_wp2_with fail
    refine (law27_awake w hG).mono ?_
    rintro e w1 ⟨rfl, hb1⟩
    go_wp2_with fail
    go_ret
    exact ⟨rfl, hb1⟩
end Go.Proofs.YtehdeclpighdeaaGreatDoor
