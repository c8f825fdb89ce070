/- The walks of the reference's Text1 at every tree that may be, and of Put; the law TestPuts. -/
import Derived.Test.YtbkhmkpbbggcbaaGreatDoorKPutsT
import Derived.Test.YtbkhmkpbbggcbaaGreatDoorKTestT3
import Derived.Test.YtbkhmkpbbggcbaaGreatDoorKUpKit
namespace Go.Proofs.YtbkhmkpbbggcbaaGreatDoor
open Go.RowKit
set_option linter.unusedVariables false
theorem ref27_Text (x : Ex) : mayE x = true → weightE x ≤ 100000 → ∀ (v : Value) (w : World), Good w → ExAt (fun _ => True) w x v → Calls Tryz.prog 17 #[v] w (Ret w (.string ⟨(textE x).1.toArray⟩)) := by
  refine Ex.ind (P := fun x => mayE x = true → weightE x ≤ 100000 → ∀ (v : Value) (w : World), Good w → ExAt (fun _ => True) w x v → Calls Tryz.prog 17 #[v] w (Ret w (.string ⟨(textE x).1.toArray⟩))) (fun k t u l ih hm hw v w hG hx => ?_) x
  obtain ⟨he, hn, hl⟩ := text_node hm
  have hwt := textE_len (.mk k t u l)
  rw [weightE] at hw
  have key : ∀ (l : List Ex), ∀ x, x ∈ l → weightE x ≤ weightL l := by
    intro l
    induction l with
    | nil => exact fun x h => by cases h
    | cons y r ihr =>
      intro x h
      rw [weightL]
      rcases List.mem_cons.1 h with rfl | h
      · omega
      · have := ihr x h; omega
  have km := key l
  have IH : TextIH l := fun x' hx' v W hG h => ih x' hx' (may_mem hl hx') (by have := km x' hx'; omega) v W hG h
  have hlen : ∀ x ∈ l, (textE x).1.length ≤ 2000000 := fun x hx => by
    have h1 := textE_len x
    have h2 := km x hx
    omega
  obtain ⟨kv, rfl, hk⟩ := exAt_iff.1 hx
  obtain ⟨ka, kc, rfl⟩ : ∃ a c, kv = .slice a l.length c := by rcases hk with ⟨rfl, a, c, rfl⟩ | ⟨b, o, c, rfl, _⟩ <;> exact ⟨_, _, rfl⟩
  rcases may_kinds hn with ⟨rfl, hll, rfl, _⟩ | ⟨rfl, hll, _⟩ | ⟨rfl, hll, _⟩ | ⟨rfl, hll, rfl, _⟩ | ⟨hkk, hll, rfl, _⟩
  · obtain ⟨a, rfl⟩ := len_one hll
    exact ref27_Text_3 u a [a] rfl ka kc hm w hG hk IH hlen
  · obtain rfl : l = [] := List.length_eq_zero_iff.1 hll
    rw [he, nodeT_10]; exact ref27_Text_10 t u _ (by omega) w
  · obtain rfl : l = [] := List.length_eq_zero_iff.1 hll
    rw [he, nodeT_11]; exact ref27_Text_11 t u _ (by omega) w
  · obtain rfl : l = [] := List.length_eq_zero_iff.1 hll
    rw [he, nodeT_12]; exact ref27_Text_12 [] u _ (by omega) (by omega) (by omega) w
  · obtain ⟨a, b, rfl⟩ := len_two hll
    exact ref27_Text_two k hkk u a b [a, b] rfl ka kc hm w hG hk IH hlen
set_option maxRecDepth 100000 in
set_option maxHeartbeats 4000000 in
theorem ref27_Put (x : Ex) (hw : weightE x ≤ 5000) (v : Value) (w : World) (hG : Good w) (hx : ExAt (fun _ => True) w x v) :
    Calls Tryz.prog 7 #[v] w (Ret w (.tuple #[.string ⟨(putE x).1.toArray⟩, .int .i64 (putE x).2])) := by
  have htl := textE_len x
  have HP := Lib.hid (show putE x = bif mayE x then (bif decide ((testB (textE x).1).2.2 = 0) then ((textE x).1, 0) else ([], (testB (textE x).1).2.2)) else ([], 15) from rfl)
  have HMC := Lib.hid (ref27_May x (by omega))
  have HTC := Lib.hid (fun hm => ref27_Text x hm (by omega))
  obtain ⟨S, hS⟩ : ∃ S, (textE x).1 = S := ⟨_, rfl⟩
  rw [hS] at HP HTC
  have hSl : S.length ≤ 100000 := by rw [← hS]; omega
  obtain ⟨R, hR⟩ : ∃ R, putE x = R := ⟨_, rfl⟩
  rw [hR] at HP ⊢
  obtain ⟨m, hm⟩ : ∃ m, mayE x = m := ⟨_, rfl⟩
  rw [hm] at HP HMC HTC
  clear hS hR hm htl
  obtain ⟨k, t, u, a, n, c, rfl⟩ := hx.ten
  have hA : Below w.heap.size w (w.alloc (.cells (exL k t u (.slice a n c)).toArray 37)) := (Below.refl _ _).alloc (Nat.le_refl _) _
  have HX0 := Lib.hid (hx.next hA)
  have HG0 := Lib.hid (hG.next hA)
  have HB0 := Lib.hid hA
  have HN0 := Lib.hid (heap_alloc_new w (.cells (exL k t u (.slice a n c)).toArray 37))
  clear hx hA hG
  go_enter Tryz.func7, Tryz.ntmps7
  go_upto_region 1 with fail
  generalize w.alloc (.cells (exL k t u (.slice a n c)).toArray 37) = W0 at *
  obtain ⟨p0, p1, p2, p3, p4, p5, p6, p7, p8, p9⟩ := ten_cells HN0.out
  go_wp2_with fail
  refine (HMC.out _ W0 HG0.out HX0.out).mono ?_
  rintro e w1 ⟨rfl, hb⟩
  have HX1 := Lib.hid (HX0.out.next hb)
  have HG1 := Lib.hid (HG0.out.next hb)
  have HB1 := Lib.hid (HB0.out.trans (hb.mono HB0.out.size))
  have HN1 := Lib.hid ((hb.block _ (Array.getElem?_eq_some_iff.1 HN0.out).1).trans HN0.out)
  clear hb p0 p1 p2 p3 p4 p5 p6 p7 p8 p9
  rcases m with _ | _
  · have HR := Lib.hid (show R = ([], 15) from HP.out)
    go_wp2_with fail
    go_ret2
    exact ⟨by rw [HR.out]; rfl, HB1.out⟩
  · have HTC2 := Lib.hid (HTC.out rfl)
    clear HTC
    have HR := Lib.hid (show R = (bif decide ((testB S).2.2 = 0) then (S, 0) else ([], (testB S).2.2)) from HP.out)
    obtain ⟨p0, p1, p2, p3, p4, p5, p6, p7, p8, p9⟩ := ten_cells HN1.out
    go_wp2_with fail
    refine (HTC2.out _ w1 HG1.out HX1.out).mono ?_
    rintro e w2 ⟨rfl, hb⟩
    have HB2 := Lib.hid (HB1.out.trans (hb.mono HB1.out.size))
    clear hb p0 p1 p2 p3 p4 p5 p6 p7 p8 p9
    go_wp2_with fail
    refine (ref27_Parse w2 S hSl).mono ?_
    rintro e w3 ⟨v3, rfl, hb, hx3⟩
    have HB3 := Lib.hid (HB2.out.trans (hb.mono HB2.out.size))
    obtain ⟨k3, t3, u3, a3, n3, c3, rfl⟩ := hx3.out.ten
    clear hb hx3
    obtain ⟨q, hq⟩ : ∃ q, (testB S).2.2 = q := ⟨_, rfl⟩
    obtain ⟨pl, hpl⟩ : ∃ pl, (testB S).2.1 = pl := ⟨_, rfl⟩
    rw [hq] at HR ⊢
    rw [hpl]
    clear hq hpl
    rcases Decidable.em (q = 0) with rfl | h0
    · go_wp2_with fail
      go_ret2
      exact ⟨by rw [HR.out]; rfl, HB3.out.alloc HB3.out.size _⟩
    · have q1 : (q == 0) = false := beq_eq_false_iff_ne.2 h0
      have q2 : (q != 0) = true := by rw [bne, q1]; rfl
      have HE := Lib.hid (show R = ([], q) by rw [HR.out, decide_eq_false h0]; rfl)
      clear h0
      go_wp2_with fail
      go_ret2
      exact ⟨by rw [HE.out]; rfl, HB3.out.alloc HB3.out.size _⟩
theorem law27_two (w : World) (A B : Obj) : Below w.heap.size w ((w.alloc A).alloc B) ∧ ((w.alloc A).alloc B).heap[w.heap.size]? = some A ∧ ((w.alloc A).alloc B).heap[w.heap.size + 1]? = some B := by
  have h := two_new w A B
  exact ⟨h.below, h.b1, h.b2⟩
set_option maxRecDepth 100000 in
set_option maxHeartbeats 8000000 in
theorem law27_puts (x y : Ex) (v v2 : Value) (w : World) (hG : Good w) (hx : ExAt (fun _ => True) w x v) (hy : ExAt (fun _ => True) w y v2) (hsx : smallE x) (hsy : smallE y) : Calls Tryz.prog 3 #[v, v2] w (Ret w (.bool true)) := by
  have HFX := Lib.hid (law27_few x hsx)
  have HFY := Lib.hid (law27_few y hsy)
  have HWX := Lib.hid (few_weight (x := x))
  have HWY := Lib.hid (few_weight (x := y))
  have HNX := Lib.hid (few_narrow (x := x))
  have HNY := Lib.hid (few_narrow (x := y))
  have HDX := Lib.hid (fun (h : decide (0 < sizeE x 400) = true) => of_decide_eq_true h)
  have HDY := Lib.hid (fun (h : decide (0 < sizeE y 400) = true) => of_decide_eq_true h)
  obtain ⟨q1, hq1⟩ : ∃ q, decide (0 < sizeE x 400) = q := ⟨_, rfl⟩
  obtain ⟨q2, hq2⟩ : ∃ q, decide (0 < sizeE y 400) = q := ⟨_, rfl⟩
  rw [hq1] at HFX HDX
  rw [hq2] at HFY HDY
  clear hsx hsy hq1 hq2
  obtain ⟨k, t, u, a, n, c, rfl⟩ := hx.ten
  obtain ⟨k', t', u', a', n', c', rfl⟩ := hy.ten
  have HT := Lib.hid (law27_two w (.cells (exL k t u (.slice a n c)).toArray 26) (.cells (exL k' t' u' (.slice a' n' c')).toArray 26))
  have HX0 := Lib.hid (hx.next HT.out.1)
  have HY0 := Lib.hid (hy.next HT.out.1)
  have HG0 := Lib.hid (hG.next HT.out.1)
  clear hx hy hG
  go_enter Tryz.func3, Tryz.ntmps3
  go_upto_region 1 with fail
  generalize (w.alloc (.cells (exL k t u (.slice a n c)).toArray 26)).alloc (.cells (exL k' t' u' (.slice a' n' c')).toArray 26) = W0 at *
  have HB0 := Lib.hid HT.out.1
  have HM0 := Lib.hid HT.out.2.1
  have HN0 := Lib.hid HT.out.2.2
  generalize w.heap.size + 1 = b2 at *
  clear HT
  obtain ⟨p0, p1, p2, p3, p4, p5, p6, p7, p8, p9⟩ := ten_cells HM0.out
  go_wp2_with fail
  refine (HFX.out _ W0 HX0.out).mono ?_
  rintro e w1 ⟨rfl, hb⟩
  have HX1 := Lib.hid (HX0.out.next hb)
  have HY1 := Lib.hid (HY0.out.next hb)
  have HG1 := Lib.hid (HG0.out.next hb)
  have HB1 := Lib.hid (HB0.out.trans (hb.mono HB0.out.size))
  have HM1 := Lib.hid (row_up HM0.out hb)
  have HN1 := Lib.hid (row_up HN0.out hb)
  clear hb p0 p1 p2 p3 p4 p5 p6 p7 p8 p9 HX0 HY0 HG0 HB0 HM0 HN0
  rcases q1 with _ | _
  · go_wp2_with fail
    refine (law27_awake w1 HG1.out).mono ?_
    rintro e w2 ⟨rfl, hb⟩
    have HB2 := Lib.hid (HB1.out.trans (hb.mono HB1.out.size))
    clear hb
    go_wp2_with fail
    go_ret
    exact ⟨rfl, HB2.out⟩
  obtain ⟨p0, p1, p2, p3, p4, p5, p6, p7, p8, p9⟩ := ten_cells HN1.out
  go_wp2_with fail
  refine (HFY.out _ w1 HY1.out).mono ?_
  rintro e w2 ⟨rfl, hb⟩
  have HX2 := Lib.hid (HX1.out.next hb)
  have HY2 := Lib.hid (HY1.out.next hb)
  have HG2 := Lib.hid (HG1.out.next hb)
  have HB2 := Lib.hid (HB1.out.trans (hb.mono HB1.out.size))
  have HM2 := Lib.hid (row_up HM1.out hb)
  have HN2 := Lib.hid (row_up HN1.out hb)
  clear hb p0 p1 p2 p3 p4 p5 p6 p7 p8 p9 HX1 HY1 HG1 HB1 HM1 HN1
  rcases q2 with _ | _
  · go_wp2_with fail
    refine (law27_awake w2 HG2.out).mono ?_
    rintro e w3 ⟨rfl, hb⟩
    have HB3 := Lib.hid (HB2.out.trans (hb.mono HB2.out.size))
    clear hb
    go_wp2_with fail
    go_ret
    exact ⟨rfl, HB3.out⟩
  have HWX2 := Lib.hid (show weightE x ≤ 5000 by have := HWX.out (HDX.out (by trivial)); omega)
  have HNX2 := Lib.hid (HNX.out (HDX.out (by trivial)))
  have HNY2 := Lib.hid (HNY.out (HDY.out (by trivial)))
  have HPC := Lib.hid (test_Put x HWX2.out)
  have HRC := Lib.hid (ref27_Put x HWX2.out)
  have HSC := Lib.hid (fun v v2 w h h2 => test_Same x HNX2.out y v v2 w h h2)
  have HSR := Lib.hid (fun v v2 w h h2 => ref27_Same x HNX2.out y v v2 w h h2)
  obtain ⟨r, hr⟩ : ∃ r, sameE x y = r := ⟨_, rfl⟩
  obtain ⟨S, hS⟩ : ∃ S, (putE x).1 = S := ⟨_, rfl⟩
  obtain ⟨E, hE⟩ : ∃ E, (putE x).2 = E := ⟨_, rfl⟩
  rw [hr] at HSC HSR
  rw [hS, hE] at HPC HRC
  clear hr hS hE HWX HWY HNX HNY HDX HDY HFX HFY
  obtain ⟨p0, p1, p2, p3, p4, p5, p6, p7, p8, p9⟩ := ten_cells HM2.out
  go_wp2_with fail
  refine (HPC.out _ w2 HG2.out HX2.out).mono ?_
  rintro e w3 ⟨rfl, hb⟩
  have HX3 := Lib.hid (HX2.out.next hb)
  have HY3 := Lib.hid (HY2.out.next hb)
  have HG3 := Lib.hid (HG2.out.next hb)
  have HB3 := Lib.hid (HB2.out.trans (hb.mono HB2.out.size))
  have HM3 := Lib.hid (row_up HM2.out hb)
  have HN3 := Lib.hid (row_up HN2.out hb)
  clear hb p0 p1 p2 p3 p4 p5 p6 p7 p8 p9 HX2 HY2 HG2 HB2 HM2 HN2
  obtain ⟨p0, p1, p2, p3, p4, p5, p6, p7, p8, p9⟩ := ten_cells HM3.out
  go_wp2_with fail
  refine (law_theirs x HNX2.out _ w3 HX3.out).mono ?_
  rintro e w4 ⟨v4, rfl, hb, hx4⟩
  have HX4 := Lib.hid (HX3.out.next hb)
  have HY4 := Lib.hid (HY3.out.next hb)
  have HG4 := Lib.hid (HG3.out.next hb)
  have HB4 := Lib.hid (HB3.out.trans (hb.mono HB3.out.size))
  have HM4 := Lib.hid (row_up HM3.out hb)
  have HN4 := Lib.hid (row_up HN3.out hb)
  have HV4 := Lib.hid hx4.out.any
  clear hb hx4 p0 p1 p2 p3 p4 p5 p6 p7 p8 p9 HX3 HY3 HG3 HB3 HM3 HN3
  go_wp2_with fail
  refine (HRC.out _ w4 HG4.out HV4.out).mono ?_
  rintro e w5 ⟨rfl, hb⟩
  have HX5 := Lib.hid (HX4.out.next hb)
  have HY5 := Lib.hid (HY4.out.next hb)
  have HG5 := Lib.hid (HG4.out.next hb)
  have HB5 := Lib.hid (HB4.out.trans (hb.mono HB4.out.size))
  have HM5 := Lib.hid (row_up HM4.out hb)
  have HN5 := Lib.hid (row_up HN4.out hb)
  clear hb HX4 HY4 HG4 HB4 HM4 HN4 HV4
  go_upto_region 5 with fail
  refine wp_region_tail 23 [UpP.is (.string ⟨S.toArray⟩), UpP.is (.string ⟨S.toArray⟩), UpP.is (.bool true), UpP.is (.bool true), UpP.is (.int .i64 E), UpP.is (.int .i64 E), UpP.is (.bool true), UpP.is (.bool true), UpP.is (.bool true), upTree x, upTree y, UpP.is (.bool r), upTree x, upTree x, upTree y, upTree y, UpP.is (.bool r), UpP.is (.bool true), UpP.is (.bool true), UpP.is (.bool true), UpP.is (.bool true), UpP.is (.bool true), UpP.is (.bool true)] (by kernel_rfl) (by rfl) (by rfl) (by kernel_rfl) (by rfl) ⟨?o0, ?o1, ?o2, ?o3, ?o4, ?o5, ?o6, ?o7, ?o8, ?o9, ?o10, ?o11, ?o12, ?o13, ?o14, ?o15, ?o16, ?o17, ?o18, ?o19, ?o20, ?o21, ?o22, trivial⟩ ?_
  case o0 =>
    intro a' w' hB hL hA
    refine up_yes rfl ?_
    have s5 := like_at hL 5 (by rfl) rfl
    go_simp
    exact ⟨_, rfl, Below.refl _ _, rfl⟩
  case o1 =>
    intro a' w' hB hL hA
    refine up_yes rfl ?_
    have s7 := like_at hL 7 (by rfl) rfl
    go_simp
    exact ⟨_, rfl, Below.refl _ _, rfl⟩
  case o2 =>
    intro a' w' hB hL hA
    refine up_yes rfl ?_
    obtain ⟨v0, e0, rfl⟩ := up_pre hA 0 (by rfl)
    have e0 : a'.tmps[29]? = some _ := e0
    obtain ⟨v1, e1, rfl⟩ := up_pre hA 1 (by rfl)
    have e1 : a'.tmps[30]? = some _ := e1
    go_simp
    exact ⟨_, rfl, Below.refl _ _, rfl⟩
  case o3 =>
    intro a' w' hB hL hA
    refine up_yes rfl ?_
    obtain ⟨v2, e2, rfl⟩ := up_pre hA 2 (by rfl)
    have e2 : a'.tmps[31]? = some _ := e2
    go_simp
    exact ⟨_, rfl, Below.refl _ _, rfl⟩
  case o4 =>
    intro a' w' hB hL hA
    obtain ⟨g0, ge, rfl⟩ := up_pre hA 3 (by rfl)
    have ge : a'.tmps[32]? = some _ := ge
    refine up_if rfl (up_yield rfl ge) ?_
    have s6 := like_at hL 6 (by rfl) rfl
    go_simp
    exact ⟨_, rfl, Below.refl _ _, rfl⟩
  case o5 =>
    intro a' w' hB hL hA
    obtain ⟨g0, ge, rfl⟩ := up_pre hA 3 (by rfl)
    have ge : a'.tmps[32]? = some _ := ge
    refine up_if rfl (up_yield rfl ge) ?_
    have s8 := like_at hL 8 (by rfl) rfl
    go_simp
    exact ⟨_, rfl, Below.refl _ _, rfl⟩
  case o6 =>
    intro a' w' hB hL hA
    obtain ⟨g0, ge, rfl⟩ := up_pre hA 3 (by rfl)
    have ge : a'.tmps[32]? = some _ := ge
    refine up_if rfl (up_yield rfl ge) ?_
    obtain ⟨v4, e4, rfl⟩ := up_pre hA 4 (by rfl)
    have e4 : a'.tmps[33]? = some _ := e4
    obtain ⟨v5, e5, rfl⟩ := up_pre hA 5 (by rfl)
    have e5 : a'.tmps[34]? = some _ := e5
    go_simp
    exact ⟨_, rfl, Below.refl _ _, rfl⟩
  case o7 =>
    intro a' w' hB hL hA
    refine up_yes rfl ?_
    obtain ⟨v3, e3, rfl⟩ := up_pre hA 3 (by rfl)
    have e3 : a'.tmps[32]? = some _ := e3
    obtain ⟨v6, e6, rfl⟩ := up_pre hA 6 (by rfl)
    have e6 : a'.tmps[35]? = some _ := e6
    go_simp
    exact ⟨_, rfl, Below.refl _ _, rfl⟩
  case o8 =>
    intro a' w' hB hL hA
    refine up_yes rfl ?_
    obtain ⟨v7, e7, rfl⟩ := up_pre hA 7 (by rfl)
    have e7 : a'.tmps[36]? = some _ := e7
    go_simp
    exact ⟨_, rfl, Below.refl _ _, rfl⟩
  case o9 =>
    intro a' w' hB hL hA
    obtain ⟨g0, ge, rfl⟩ := up_pre hA 8 (by rfl)
    have ge : a'.tmps[37]? = some _ := ge
    refine up_if rfl (up_yield rfl ge) ?_
    have s2 := like_at hL 2 (by rfl) rfl
    obtain ⟨p0, p1, p2, p3, p4, p5, p6, p7, p8, p9⟩ := ten_cells (row_up HM5.out hB)
    go_simp
    exact ⟨_, rfl, Below.refl _ _, HX5.out.next hB⟩
  case o10 =>
    intro a' w' hB hL hA
    obtain ⟨g0, ge, rfl⟩ := up_pre hA 8 (by rfl)
    have ge : a'.tmps[37]? = some _ := ge
    refine up_if rfl (up_yield rfl ge) ?_
    have s3 := like_at hL 3 (by rfl) rfl
    obtain ⟨p0, p1, p2, p3, p4, p5, p6, p7, p8, p9⟩ := ten_cells (row_up HN5.out hB)
    go_simp
    exact ⟨_, rfl, Below.refl _ _, HY5.out.next hB⟩
  case o11 =>
    intro a' w' hB hL hA
    obtain ⟨g0, ge, rfl⟩ := up_pre hA 8 (by rfl)
    have ge : a'.tmps[37]? = some _ := ge
    refine up_if rfl (up_yield rfl ge) ?_
    obtain ⟨v9, e9, h9⟩ := up_pre hA 9 (by rfl)
    have e9 : a'.tmps[38]? = some _ := e9
    have h9 : ExAt (fun _ => True) w' x v9 := h9
    obtain ⟨v10, e10, h10⟩ := up_pre hA 10 (by rfl)
    have e10 : a'.tmps[39]? = some _ := e10
    have h10 : ExAt (fun _ => True) w' y v10 := h10
    go_simp
    refine (HSC.out _ _ w' h9 h10).mono ?_
    rintro e w6 ⟨rfl, hb6⟩
    exact ⟨_, rfl, hb6, rfl⟩
  case o12 =>
    intro a' w' hB hL hA
    obtain ⟨g0, ge, rfl⟩ := up_pre hA 8 (by rfl)
    have ge : a'.tmps[37]? = some _ := ge
    refine up_if rfl (up_yield rfl ge) ?_
    have s2 := like_at hL 2 (by rfl) rfl
    obtain ⟨p0, p1, p2, p3, p4, p5, p6, p7, p8, p9⟩ := ten_cells (row_up HM5.out hB)
    go_simp
    exact ⟨_, rfl, Below.refl _ _, HX5.out.next hB⟩
  case o13 =>
    intro a' w' hB hL hA
    obtain ⟨g0, ge, rfl⟩ := up_pre hA 8 (by rfl)
    have ge : a'.tmps[37]? = some _ := ge
    refine up_if rfl (up_yield rfl ge) ?_
    obtain ⟨v12, e12, h12⟩ := up_pre hA 12 (by rfl)
    have e12 : a'.tmps[41]? = some _ := e12
    have h12 : ExAt (fun _ => True) w' x v12 := h12
    go_simp
    refine (law_theirs x HNX2.out _ w' h12).mono ?_
    rintro e w6 ⟨v6, rfl, hb6, hx6⟩
    exact ⟨_, rfl, hb6, hx6.out.any⟩
  case o14 =>
    intro a' w' hB hL hA
    obtain ⟨g0, ge, rfl⟩ := up_pre hA 8 (by rfl)
    have ge : a'.tmps[37]? = some _ := ge
    refine up_if rfl (up_yield rfl ge) ?_
    have s3 := like_at hL 3 (by rfl) rfl
    obtain ⟨p0, p1, p2, p3, p4, p5, p6, p7, p8, p9⟩ := ten_cells (row_up HN5.out hB)
    go_simp
    exact ⟨_, rfl, Below.refl _ _, HY5.out.next hB⟩
  case o15 =>
    intro a' w' hB hL hA
    obtain ⟨g0, ge, rfl⟩ := up_pre hA 8 (by rfl)
    have ge : a'.tmps[37]? = some _ := ge
    refine up_if rfl (up_yield rfl ge) ?_
    obtain ⟨v14, e14, h14⟩ := up_pre hA 14 (by rfl)
    have e14 : a'.tmps[43]? = some _ := e14
    have h14 : ExAt (fun _ => True) w' y v14 := h14
    go_simp
    refine (law_theirs y HNY2.out _ w' h14).mono ?_
    rintro e w6 ⟨v6, rfl, hb6, hx6⟩
    exact ⟨_, rfl, hb6, hx6.out.any⟩
  case o16 =>
    intro a' w' hB hL hA
    obtain ⟨g0, ge, rfl⟩ := up_pre hA 8 (by rfl)
    have ge : a'.tmps[37]? = some _ := ge
    refine up_if rfl (up_yield rfl ge) ?_
    obtain ⟨v13, e13, h13⟩ := up_pre hA 13 (by rfl)
    have e13 : a'.tmps[42]? = some _ := e13
    have h13 : ExAt (fun _ => True) w' x v13 := h13
    obtain ⟨v15, e15, h15⟩ := up_pre hA 15 (by rfl)
    have e15 : a'.tmps[44]? = some _ := e15
    have h15 : ExAt (fun _ => True) w' y v15 := h15
    go_simp
    refine (HSR.out _ _ w' h13 h15).mono ?_
    rintro e w6 ⟨rfl, hb6⟩
    exact ⟨_, rfl, hb6, rfl⟩
  case o17 =>
    intro a' w' hB hL hA
    obtain ⟨g0, ge, rfl⟩ := up_pre hA 8 (by rfl)
    have ge : a'.tmps[37]? = some _ := ge
    refine up_if rfl (up_yield rfl ge) ?_
    obtain ⟨v11, e11, rfl⟩ := up_pre hA 11 (by rfl)
    have e11 : a'.tmps[40]? = some _ := e11
    obtain ⟨v16, e16, rfl⟩ := up_pre hA 16 (by rfl)
    have e16 : a'.tmps[45]? = some _ := e16
    go_simp
    exact ⟨_, rfl, Below.refl _ _, rfl⟩
  case o18 =>
    intro a' w' hB hL hA
    refine up_yes rfl ?_
    obtain ⟨v8, e8, rfl⟩ := up_pre hA 8 (by rfl)
    have e8 : a'.tmps[37]? = some _ := e8
    obtain ⟨v17, e17, rfl⟩ := up_pre hA 17 (by rfl)
    have e17 : a'.tmps[46]? = some _ := e17
    go_simp
    exact ⟨_, rfl, Below.refl _ _, rfl⟩
  case o19 =>
    intro a' w' hB hL hA
    refine up_yes rfl ?_
    obtain ⟨v18, e18, rfl⟩ := up_pre hA 18 (by rfl)
    have e18 : a'.tmps[47]? = some _ := e18
    go_simp
    exact ⟨_, rfl, Below.refl _ _, rfl⟩
  case o20 =>
    intro a' w' hB hL hA
    obtain ⟨g0, ge, rfl⟩ := up_pre hA 19 (by rfl)
    have ge : a'.tmps[48]? = some _ := ge
    refine up_if rfl (up_yield rfl ge) ?_
    go_simp
    refine (law27_awake w' (HG5.out.next hB)).mono ?_
    rintro e w6 ⟨rfl, hb6⟩
    exact ⟨_, rfl, hb6, rfl⟩
  case o21 =>
    intro a' w' hB hL hA
    refine up_yes rfl ?_
    obtain ⟨v19, e19, rfl⟩ := up_pre hA 19 (by rfl)
    have e19 : a'.tmps[48]? = some _ := e19
    obtain ⟨v20, e20, rfl⟩ := up_pre hA 20 (by rfl)
    have e20 : a'.tmps[49]? = some _ := e20
    go_simp
    exact ⟨_, rfl, Below.refl _ _, rfl⟩
  case o22 =>
    intro a' w' hB hL hA
    refine up_yes rfl ?_
    obtain ⟨v21, e21, rfl⟩ := up_pre hA 21 (by rfl)
    have e21 : a'.tmps[50]? = some _ := e21
    go_simp
    exact ⟨_, rfl, Below.refl _ _, rfl⟩
  intro f wr hB hf
  have f22 : f 22 = _ := hf 22 _ rfl
  have HBq := Lib.hid (HB5.out.trans (hB.mono HB5.out.size))
  clear hB hf HX5 HY5 HG5 HB5 HM5 HN5
  simp only [List.take_succ_cons, List.take_zero, List.drop_succ_cons, List.drop_nil, putFn, Act.put, tailWp]
  rw [f22]
  clear f22
  go_simp
  go_wp2_with fail
  go_ret
  exact ⟨rfl, HBq.out⟩
end Go.Proofs.YtbkhmkpbbggcbaaGreatDoor
