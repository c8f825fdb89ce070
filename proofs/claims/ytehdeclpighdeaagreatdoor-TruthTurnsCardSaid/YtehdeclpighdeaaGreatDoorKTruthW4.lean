/- The law's is, works, digits. -/
import Derived.Test.YtehdeclpighdeaaGreatDoorKTruthW3
import Derived.Test.YtehdeclpighdeaaGreatDoorKTestSz
namespace Go.Proofs.YtehdeclpighdeaaGreatDoor
open Go.RowKit
set_option linter.unusedVariables false
theorem lim_nil : Lim [] := ⟨by decide, fun f h => by cases h⟩
abbrev v28 : UseI → Bs × Bool := valI [104] [47] []
theorem is28 (x : Ex) (q : Bool) (hq : isB v28 x = q) (v : Value) (a : Option Addr) (c : Nat) (w : World) (hG : Good w) (hx : ExAt (fun _ => True) w x v) (hF : FieldsAt w (.slice a 0 c) []) (hw : weightE x ≤ 100000) :
    Calls Tryz.prog 31 #[v, .agg #[.string ⟨#[104]⟩, .string ⟨#[47]⟩, .slice a 0 c]] w (Ret w (.bool q)) := by
  subst hq
  exact tr_Is x v ⟨#[104]⟩ ⟨#[47]⟩ a 0 c [] w hG hx hF lim_nil (by decide) (by decide) (ok_weight x hw) (by have := nodes_weight x; omega)
theorem asked28 (x : Ex) (k : Nat) (hk : (askE v28 x).2 = k) (v : Value) (a : Option Addr) (c : Nat) (w : World) (hG : Good w) (hx : ExAt (fun _ => True) w x v) (hF : FieldsAt w (.slice a 0 c) []) (hw : weightE x ≤ 100000) :
    Calls Tryz.prog 33 #[v, .agg #[.string ⟨#[104]⟩, .string ⟨#[47]⟩, .slice a 0 c]] w (RetLen w k) := by
  subst hk
  exact tr_Asked x v ⟨#[104]⟩ ⟨#[47]⟩ a 0 c [] w hG hx hF lim_nil (by decide) (by decide) (ok_weight x hw) (by have := nodes_weight x; omega)
set_option maxRecDepth 100000 in
set_option maxHeartbeats 4000000 in
theorem law28_is (s : Bs) (q : Bool) (k : Nat) (w : World) (hG : Good w) (hs : s.length ≤ 100000) (h2 : (testB s).2.2 = 0) (h3 : isB v28 (testB s).1 = q) (h4 : (askE v28 (testB s).1).2 = k) (h5 : Nat.ble (weightE (testB s).1) 100000 = true) :
    Calls Tryz.prog 56 #[.string ⟨s.toArray⟩, .bool q, .int .i64 (k : Int)] w (Ret w (.bool true)) := by
  have h5 := Nat.le_of_ble_eq_true h5
  go_enter Tryz.func56, Tryz.ntmps56
  go_wp2_with fail
  refine (test_Parse w s hs hG).mono ?_
  rintro e w1 ⟨v, rfl, hb, hx⟩
  rw [h2]
  obtain ⟨X, hX⟩ : ∃ X, (testB s).1 = X := ⟨_, rfl⟩
  rw [hX] at hx h3 h4 h5
  obtain ⟨k0, t, u, a, n, c, rfl⟩ := hx.out.ten
  have hA : Below w1.heap.size w1 (w1.alloc (.cells (exL k0 t u (.slice a n c)).toArray 27)) := (Below.refl _ _).alloc (Nat.le_refl _) _
  have HX := Lib.hid ((hx.out.next hA).any)
  have HB := Lib.hid (hb.trans (hA.mono hb.size))
  have HG := Lib.hid (hG.next HB.out)
  have HN := Lib.hid (heap_alloc_new w1 (.cells (exL k0 t u (.slice a n c)).toArray 27))
  have HIS := Lib.hid (is28 X q h3)
  have HAS := Lib.hid (asked28 X k h4)
  have H5 := Lib.hid h5
  clear h2 h3 h4 h5 hX hx hb hA hG
  go_upto_region 2 with fail
  generalize w1.alloc (.cells (exL k0 t u (.slice a n c)).toArray 27) = W1 at *
  refine wp_region_tail 18 [UpP.is (.int .i64 0), UpP.is (.bool true), UpP.is (.bool true), upTree X, upVars ⟨#[104]⟩ ⟨#[47]⟩ [], UpP.is (.bool q), UpP.is (.bool q), UpP.is (.bool true), UpP.is (.bool true), UpP.is (.bool true), upTree X, upVars ⟨#[104]⟩ ⟨#[47]⟩ [], upLen k, UpP.is (.int .i64 (k : Int)), UpP.is (.int .i64 (k : Int)), UpP.is (.bool true), UpP.is (.bool true), UpP.is (.bool true)] (by kernel_rfl) (by rfl) (by rfl) (by rfl) (by rfl) ⟨?o0, ?o1, ?o2, ?o3, ?o4, ?o5, ?o6, ?o7, ?o8, ?o9, ?o10, ?o11, ?o12, ?o13, ?o14, ?o15, ?o16, ?o17, trivial⟩ ?_
  case o0 =>
    intro a' w' hB hL hA
    refine up_yes rfl ?_
    have s9 := like_at hL 9 (by rfl) rfl
    go_simp
    exact ⟨_, rfl, Below.refl _ _, rfl⟩
  case o1 =>
    intro a' w' hB hL hA
    refine up_yes rfl ?_
    obtain ⟨v0, e0, rfl⟩ := up_pre hA 0 (by rfl)
    have e0 : a'.tmps[16]? = some _ := e0
    go_simp
    exact ⟨_, rfl, Below.refl _ _, rfl⟩
  case o2 =>
    intro a' w' hB hL hA
    refine up_yes rfl ?_
    obtain ⟨v1, e1, rfl⟩ := up_pre hA 1 (by rfl)
    have e1 : a'.tmps[17]? = some _ := e1
    go_simp
    exact ⟨_, rfl, Below.refl _ _, rfl⟩
  case o3 =>
    intro a' w' hB hL hA
    obtain ⟨g0, ge, rfl⟩ := up_pre hA 2 (by rfl)
    have ge : a'.tmps[18]? = some _ := ge
    refine up_if rfl (up_yield rfl ge) ?_
    have s7 := like_at hL 7 (by rfl) rfl
    have HN2 := (hB.block _ (Array.getElem?_eq_some_iff.1 HN.out).1).trans HN.out
    obtain ⟨p0, p1, p2, p3, p4, p5, p6, p7, p8, p9⟩ := ten_cells HN2
    go_simp
    exact ⟨_, rfl, Below.refl _ _, HX.out.next hB⟩
  case o4 =>
    intro a' w' hB hL hA
    obtain ⟨g0, ge, rfl⟩ := up_pre hA 2 (by rfl)
    have ge : a'.tmps[18]? = some _ := ge
    refine up_if rfl (up_yield rfl ge) ?_
    go_simp
    refine (law28_given w').mono ?_
    rintro e w6 ⟨a6, c6, rfl, hown, hb6⟩
    exact ⟨_, rfl, hb6, ⟨_, _, rfl, hown.at⟩⟩
  case o5 =>
    intro a' w' hB hL hA
    obtain ⟨g0, ge, rfl⟩ := up_pre hA 2 (by rfl)
    have ge : a'.tmps[18]? = some _ := ge
    refine up_if rfl (up_yield rfl ge) ?_
    obtain ⟨v3, e3, h3⟩ := up_pre hA 3 (by rfl)
    have e3 : a'.tmps[19]? = some _ := e3
    obtain ⟨v4, e4, h4⟩ := up_pre hA 4 (by rfl)
    have e4 : a'.tmps[20]? = some _ := e4
    obtain ⟨a4, c4, rfl, f4⟩ := h4
    go_simp
    refine (HIS.out _ a4 c4 w' (HG.out.next hB) h3 f4 H5.out).mono ?_
    rintro e w6 ⟨rfl, hb6⟩
    exact ⟨_, rfl, hb6, rfl⟩
  case o6 =>
    intro a' w' hB hL hA
    obtain ⟨g0, ge, rfl⟩ := up_pre hA 2 (by rfl)
    have ge : a'.tmps[18]? = some _ := ge
    refine up_if rfl (up_yield rfl ge) ?_
    have s1 := like_at hL 1 (by rfl) rfl
    go_simp
    exact ⟨_, rfl, Below.refl _ _, rfl⟩
  case o7 =>
    intro a' w' hB hL hA
    obtain ⟨g0, ge, rfl⟩ := up_pre hA 2 (by rfl)
    have ge : a'.tmps[18]? = some _ := ge
    refine up_if rfl (up_yield rfl ge) ?_
    obtain ⟨v5, e5, rfl⟩ := up_pre hA 5 (by rfl)
    have e5 : a'.tmps[21]? = some _ := e5
    obtain ⟨v6, e6, rfl⟩ := up_pre hA 6 (by rfl)
    have e6 : a'.tmps[22]? = some _ := e6
    go_simp
    exact ⟨_, rfl, Below.refl _ _, rfl⟩
  case o8 =>
    intro a' w' hB hL hA
    refine up_yes rfl ?_
    obtain ⟨v2, e2, rfl⟩ := up_pre hA 2 (by rfl)
    have e2 : a'.tmps[18]? = some _ := e2
    obtain ⟨v7, e7, rfl⟩ := up_pre hA 7 (by rfl)
    have e7 : a'.tmps[23]? = some _ := e7
    go_simp
    exact ⟨_, rfl, Below.refl _ _, rfl⟩
  case o9 =>
    intro a' w' hB hL hA
    refine up_yes rfl ?_
    obtain ⟨v8, e8, rfl⟩ := up_pre hA 8 (by rfl)
    have e8 : a'.tmps[24]? = some _ := e8
    go_simp
    exact ⟨_, rfl, Below.refl _ _, rfl⟩
  case o10 =>
    intro a' w' hB hL hA
    obtain ⟨g0, ge, rfl⟩ := up_pre hA 9 (by rfl)
    have ge : a'.tmps[25]? = some _ := ge
    refine up_if rfl (up_yield rfl ge) ?_
    have s7 := like_at hL 7 (by rfl) rfl
    have HN2 := (hB.block _ (Array.getElem?_eq_some_iff.1 HN.out).1).trans HN.out
    obtain ⟨p0, p1, p2, p3, p4, p5, p6, p7, p8, p9⟩ := ten_cells HN2
    go_simp
    exact ⟨_, rfl, Below.refl _ _, HX.out.next hB⟩
  case o11 =>
    intro a' w' hB hL hA
    obtain ⟨g0, ge, rfl⟩ := up_pre hA 9 (by rfl)
    have ge : a'.tmps[25]? = some _ := ge
    refine up_if rfl (up_yield rfl ge) ?_
    go_simp
    refine (law28_given w').mono ?_
    rintro e w6 ⟨a6, c6, rfl, hown, hb6⟩
    exact ⟨_, rfl, hb6, ⟨_, _, rfl, hown.at⟩⟩
  case o12 =>
    intro a' w' hB hL hA
    obtain ⟨g0, ge, rfl⟩ := up_pre hA 9 (by rfl)
    have ge : a'.tmps[25]? = some _ := ge
    refine up_if rfl (up_yield rfl ge) ?_
    obtain ⟨v10, e10, h10⟩ := up_pre hA 10 (by rfl)
    have e10 : a'.tmps[26]? = some _ := e10
    obtain ⟨v11, e11, h11⟩ := up_pre hA 11 (by rfl)
    have e11 : a'.tmps[27]? = some _ := e11
    obtain ⟨a11, c11, rfl, f11⟩ := h11
    go_simp
    refine (HAS.out _ a11 c11 w' (HG.out.next hB) h10 f11 H5.out).mono ?_
    rintro e w6 ⟨a6, c6, rfl, hb6⟩
    exact ⟨_, rfl, hb6, ⟨a6, c6, rfl⟩⟩
  case o13 =>
    intro a' w' hB hL hA
    obtain ⟨g0, ge, rfl⟩ := up_pre hA 9 (by rfl)
    have ge : a'.tmps[25]? = some _ := ge
    refine up_if rfl (up_yield rfl ge) ?_
    obtain ⟨v12, e12, h12⟩ := up_pre hA 12 (by rfl)
    have e12 : a'.tmps[28]? = some _ := e12
    obtain ⟨a12, c12, rfl⟩ := h12
    go_simp
    exact ⟨_, rfl, Below.refl _ _, rfl⟩
  case o14 =>
    intro a' w' hB hL hA
    obtain ⟨g0, ge, rfl⟩ := up_pre hA 9 (by rfl)
    have ge : a'.tmps[25]? = some _ := ge
    refine up_if rfl (up_yield rfl ge) ?_
    have s2 := like_at hL 2 (by rfl) rfl
    go_simp
    exact ⟨_, rfl, Below.refl _ _, rfl⟩
  case o15 =>
    intro a' w' hB hL hA
    obtain ⟨g0, ge, rfl⟩ := up_pre hA 9 (by rfl)
    have ge : a'.tmps[25]? = some _ := ge
    refine up_if rfl (up_yield rfl ge) ?_
    obtain ⟨v13, e13, rfl⟩ := up_pre hA 13 (by rfl)
    have e13 : a'.tmps[29]? = some _ := e13
    obtain ⟨v14, e14, rfl⟩ := up_pre hA 14 (by rfl)
    have e14 : a'.tmps[30]? = some _ := e14
    go_simp
    exact ⟨_, rfl, Below.refl _ _, rfl⟩
  case o16 =>
    intro a' w' hB hL hA
    refine up_yes rfl ?_
    obtain ⟨v9, e9, rfl⟩ := up_pre hA 9 (by rfl)
    have e9 : a'.tmps[25]? = some _ := e9
    obtain ⟨v15, e15, rfl⟩ := up_pre hA 15 (by rfl)
    have e15 : a'.tmps[31]? = some _ := e15
    go_simp
    exact ⟨_, rfl, Below.refl _ _, rfl⟩
  case o17 =>
    intro a' w' hB hL hA
    refine up_yes rfl ?_
    obtain ⟨v16, e16, rfl⟩ := up_pre hA 16 (by rfl)
    have e16 : a'.tmps[32]? = some _ := e16
    go_simp
    exact ⟨_, rfl, Below.refl _ _, rfl⟩
  intro f w' hB hf
  have h17 : f 17 = _ := hf 17 _ rfl
  have HBE := Lib.hid (HB.out.trans (hB.mono HB.out.size))
  clear hB hf
  simp only [List.take_succ_cons, List.take_zero, List.drop_succ_cons, List.drop_nil, putFn, Act.put, tailWp]
  rw [h17]
  go_simp
  go_wp2_with fail
  go_ret
  exact ⟨rfl, HBE.out⟩
set_option maxRecDepth 100000 in
set_option maxHeartbeats 4000000 in
theorem law28_works (w : World) (hG : Good w) : Calls Tryz.prog 29 #[] w (Ret w (.bool true)) := by
  go_enter Tryz.func29, Tryz.ntmps29
  go_wp2_with fail
  refine (law28_is [39, 97, 39] true 0 w hG (by decide) (by kernel_rfl) (by kernel_rfl) (by kernel_rfl) (by kernel_rfl)).mono ?_
  rintro e w1 ⟨rfl, hb⟩
  have HB1 := Lib.hid (hb)
  have HG1 := Lib.hid (hG.next hb)
  clear hb
  go_wp2_with fail
  refine (law28_is [50, 32, 60, 32, 49, 48] true 0 w1 HG1.out (by decide) (by kernel_rfl) (by kernel_rfl) (by kernel_rfl) (by kernel_rfl)).mono ?_
  rintro e w2 ⟨rfl, hb⟩
  have HB2 := Lib.hid (HB1.out.trans (hb.mono HB1.out.size))
  have HG2 := Lib.hid (HG1.out.next hb)
  clear hb
  go_wp2_with fail
  refine (law28_is [36, 40, 72, 84, 84, 80, 95, 82, 69, 70, 69, 82, 69, 82, 41, 32, 33, 61, 32, 39, 39] false 1 w2 HG2.out (by decide) (by kernel_rfl) (by kernel_rfl) (by kernel_rfl) (by kernel_rfl)).mono ?_
  rintro e w3 ⟨rfl, hb⟩
  have HB3 := Lib.hid (HB2.out.trans (hb.mono HB2.out.size))
  have HG3 := Lib.hid (HG2.out.next hb)
  clear hb
  go_wp2_with fail
  refine (law28_is [39, 39, 32, 38, 32, 36, 40, 72, 84, 84, 80, 95, 72, 79, 83, 84, 41] false 0 w3 HG3.out (by decide) (by kernel_rfl) (by kernel_rfl) (by kernel_rfl) (by kernel_rfl)).mono ?_
  rintro e w4 ⟨rfl, hb⟩
  have HB4 := Lib.hid (HB3.out.trans (hb.mono HB3.out.size))
  have HG4 := Lib.hid (HG3.out.next hb)
  clear hb
  go_wp2_with fail
  go_ret
  exact ⟨rfl, HB4.out⟩
end Go.Proofs.YtehdeclpighdeaaGreatDoor
