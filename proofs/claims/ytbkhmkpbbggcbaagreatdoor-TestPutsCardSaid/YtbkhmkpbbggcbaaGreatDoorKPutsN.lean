/- The walk of the reference's May at nodes with kids. (Under way.) -/
import Derived.Test.YtbkhmkpbbggcbaaGreatDoorKPutsM
namespace Go.Proofs.YtbkhmkpbbggcbaaGreatDoor
open Go.RowKit
set_option linter.unusedVariables false
theorem mayL_take {l : List Ex} {i : Nat} {x : Ex} (h : mayL (l.take i) = true) (hx : l[i]? = some x) (hm : mayE x = true) : mayL (l.take (i + 1)) = true := by
  induction l generalizing i with
  | nil => simp at hx
  | cons y r ih =>
    cases i with
    | zero => simp at hx; subst hx; rw [List.take_succ_cons, List.take_zero, mayL, hm, mayL]; rfl
    | succ i =>
      rw [List.take_succ_cons, mayL, Bool.and_eq_true] at h
      rw [List.take_succ_cons, mayL, h.1, ih h.2 (by simpa using hx)]; rfl
theorem mayL_false {l : List Ex} {x : Ex} (hx : x ∈ l) (hm : mayE x = false) : mayL l = false := by
  induction l with
  | nil => cases hx
  | cons y r ih =>
    rw [mayL]
    rcases List.mem_cons.1 hx with rfl | hx
    · rw [hm]; rfl
    · rw [ih hx, Bool.and_false]
set_option maxRecDepth 100000 in
set_option maxHeartbeats 8000000 in
theorem ref27_May_3 (t : Bs) (u : UseI) (l : List Ex) (ka : Option Addr) (kc : Nat) (ht : t.length ≤ 100000) (hl : l.length ≤ 100000) (w : World) (hG : Good w) (hk : KidsAt (fun _ => True) w l (.slice ka l.length kc)) (ih : MayIH l) :
    Calls Tryz.prog 16 #[exV 3 t u (.slice ka l.length kc)] w (Ret w (.bool (mayE (.mk 3 t u l)))) := by
  have hA0 : Below w.heap.size w (w.alloc (.cells (exL 3 t u (.slice ka l.length kc)).toArray 37)) := (Below.refl w.heap.size w).alloc (Nat.le_refl _) _
  have HB := Lib.hid hA0
  have HN0 := Lib.hid (heap_alloc_new w (.cells (exL 3 t u (.slice ka l.length kc)).toArray 37))
  have HM := Lib.hid (show mayE (.mk 3 t u l) = ((decide (l.length = 1) && t.isEmpty && useEq u noUseI) && mayL l) by
    rw [mayE_mk]; unfold mayN; rw [if_pos rfl])
  have HG := Lib.hid hG
  have HKID := Lib.hid hk
  have HIH := Lib.hid ih
  obtain ⟨V, hV⟩ : ∃ V, mayE (.mk 3 t u l) = V := ⟨_, rfl⟩
  rw [hV] at HM ⊢
  clear hV
  obtain ⟨n, hn⟩ : ∃ n, l.length = n := ⟨_, rfl⟩
  rw [hn] at HM HN0 HB hl HKID ⊢
  have HN := Lib.hid hn
  clear hk hG hn ih hA0
  rcases Decidable.em (n = 1) with rfl | h0
  · rcases Decidable.em (t = []) with rfl | htn
    · obtain ⟨r, hr⟩ : ∃ r, useEq u noUseI = r := ⟨_, rfl⟩
      have heq : ∀ W : World, (Op.equalIn 10000 34 (.agg #[.int .i64 u.src, .int .i64 u.till, .string ⟨u.name.toArray⟩, .string ⟨u.key.toArray⟩, .string ⟨u.dft.toArray⟩, .bool u.hk, .bool u.hd]) (.agg noneL)).run Tryz.prog W = .ok r W := fun W => by rw [← hr]; exact equal_use26 u noUseI W
      have HV := Lib.hid (show V = (r && mayL l) by rw [HM.out, hr]; rfl)
      clear hr
      have HEQ := Lib.hid heq
      clear heq
      go_enter Tryz.func16, Tryz.ntmps16
      go_upto_region 2 with fail
      generalize w.alloc (.cells (exL 3 [] u (.slice ka 1 kc)).toArray 37) = W0 at *
      obtain ⟨p0, p1, p2, p3, p4, p5, p6, p7, p8, p9⟩ := ten_cells HN0.out
      have hA : Below W0.heap.size W0 (W0.alloc (.cells noneL 34)) := (Below.refl _ _).alloc (Nat.le_refl _) _
      have HN1 := Lib.hid (heap_alloc_new W0 (.cells noneL 34))
      have HB1 := Lib.hid (HB.out.trans (hA.mono HB.out.size))
      have HN2 := Lib.hid ((hA.block _ (Array.getElem?_eq_some_iff.1 HN0.out).1).trans HN0.out)
      clear hA
      go_upto_region 11 with fail
      clear p0 p1 p2 p3 p4 p5 p6 p7 p8 p9
      generalize W0.alloc (.cells noneL 34) = W1 at *
      generalize W0.heap.size = b1 at *
      obtain ⟨p0, p1, p2, p3, p4, p5, p6, p7, p8, p9⟩ := ten_cells HN2.out
      obtain ⟨f0, f1, f2, f3, f4, f5, f6, c0, c1, c2, c3, c4, c5, c6⟩ := seven_live HN1.out
      have heq := HEQ.out
      rcases r with _ | _
      · have HE := Lib.hid (show V = false from HV.out)
        go_wp2_with fail
        go_ret
        exact ⟨ret_bool HE.out.symm, HB1.out⟩
      · go_upto_region 19 with fail
        clear p0 p1 p2 p3 p4 p5 p6 p7 p8 p9 f0 f1 f2 f3 f4 f5 f6 c0 c1 c2 c3 c4 c5 c6 heq
        go_loopw [8] (fun iv wr => ∃ i : Nat, i ≤ 1 ∧ iv = .int .i64 i ∧ Hid (mayL (l.take i) = true) ∧ Hid (Below W1.heap.size W1 wr)) (fun iv _ => 1 - (intOf iv).toNat)
        case atStart => exact ⟨0, Nat.zero_le _, rfl, Lib.hid (by rw [List.take_zero, mayL]), Lib.hid (Below.refl _ _)⟩
        case round =>
          obtain ⟨i, hi, rfl, HT, HW⟩ := hrel
          have HBB := Lib.hid (HB1.out.trans (HW.out.mono HB1.out.size))
          have HQ := Lib.hid ((HW.out.block _ (Array.getElem?_eq_some_iff.1 HN2.out).1).trans HN2.out)
          obtain ⟨-, -, -, -, -, -, -, -, -, p9⟩ := ten_cells HQ.out
          have i0 : (0 : Int) ≤ (i : Int) := by omega
          by_cases hlt : i < 1
          · have i1 : (i : Int) < 1 := by omega
            obtain ⟨x, hx⟩ : ∃ x, l[i]? = some x := ⟨_, List.getElem?_eq_getElem (by rw [HN.out]; exact hlt)⟩
            have HX := Lib.hid hx
            obtain ⟨b, o, c', he, hlc, hbl, hrow⟩ := kids_row HKID.out hx
            rw [HN.out] at he
            obtain ⟨rfl, rfl⟩ : ka = some ⟨b, o, none⟩ ∧ kc = c' := by injection he with h1 h2 h3; exact ⟨h1, h3⟩
            obtain ⟨k1, t1, u1, a1, n1, c1, hk1⟩ := kid_get hrow hx HBB.out hbl
            have HCALL := Lib.hid (HIH.out x (List.mem_of_getElem? hx) _ wr (HG.out.next HBB.out) (hk1.ex ⟨wr, Below.refl _ _⟩))
            obtain ⟨-, y0, y1, y2, y3, y4, y5, y6, y7, y8, y9⟩ := hk1
            have z0 := y0 ⟨wr, Below.refl _ _⟩
            have z1 := y1 ⟨wr, Below.refl _ _⟩
            have z2 := y2 ⟨wr, Below.refl _ _⟩
            have z3 := y3 ⟨wr, Below.refl _ _⟩
            have z4 := y4 ⟨wr, Below.refl _ _⟩
            have z5 := y5 ⟨wr, Below.refl _ _⟩
            have z6 := y6 ⟨wr, Below.refl _ _⟩
            have z7 := y7 ⟨wr, Below.refl _ _⟩
            have z8 := y8 ⟨wr, Below.refl _ _⟩
            have z9 := y9 ⟨wr, Below.refl _ _⟩
            dsimp only at z0 z1 z2 z3 z4 z5 z6 z7 z8 z9
            obtain ⟨q, hq⟩ : ∃ q, mayE x = q := ⟨_, rfl⟩
            rw [hq] at HCALL
            have HQQ := Lib.hid hq
            clear hx hrow hbl he hlc y0 y1 y2 y3 y4 y5 y6 y7 y8 y9 hq
            go_wp2_with fail
            refine HCALL.out.mono ?_
            rintro e w3 ⟨rfl, hb3⟩
            have HB3 := Lib.hid (HW.out.trans (hb3.mono HW.out.size))
            have HB4 := Lib.hid (HBB.out.trans (hb3.mono HBB.out.size))
            clear hb3 z0 z1 z2 z3 z4 z5 z6 z7 z8 z9 p9
            rcases q with _ | _
            · have HE := Lib.hid (show V = false by rw [HV.out, mayL_false (List.mem_of_getElem? HX.out) HQQ.out]; rfl)
              go_wp2_with fail
              go_ret
              exact ⟨ret_bool HE.out.symm, HB4.out⟩
            · have HT2 := Lib.hid (mayL_take HT.out HX.out HQQ.out)
              go_wp2_with fail
              go_roundw
              case rel => exact ⟨i + 1, by omega, by go_num, HT2, HB3⟩
              case measure => (simp [intOf] <;> omega)
          · obtain rfl : i = 1 := by omega
            have HE := Lib.hid (show V = true by
              have := HT.out
              rw [List.take_of_length_le (by rw [HN.out]; exact Nat.le_refl _)] at this
              rw [HV.out, this]; rfl)
            go_wp2_with fail
            go_ret
            exact ⟨ret_bool HE.out.symm, HBB.out⟩
    · have q1 : (t == []) = false := beq_eq_false_iff_ne.2 htn
      have HE := Lib.hid (show V = false by rw [HM.out, show t.isEmpty = false by cases t with | nil => exact (htn rfl).elim | cons => rfl]; simp)
      clear htn
      go_enter Tryz.func16, Tryz.ntmps16
      go_upto_region 2 with fail
      generalize w.alloc (.cells (exL 3 t u (.slice ka 1 kc)).toArray 37) = W0 at *
      obtain ⟨p0, p1, p2, p3, p4, p5, p6, p7, p8, p9⟩ := ten_cells HN0.out
      go_wp2_with fail
      go_ret
      exact ⟨ret_bool HE.out.symm, HB.out⟩
  · have i1 : ((n : Int) == 1) = false := by rw [beq_eq_false_iff_ne]; omega
    have i2 : ((n : Int) != 1) = true := by rw [bne, i1]; rfl
    have HE := Lib.hid (show V = false by rw [HM.out, decide_eq_false h0]; rfl)
    clear h0
    go_enter Tryz.func16, Tryz.ntmps16
    go_upto_region 2 with fail
    generalize w.alloc (.cells (exL 3 t u (.slice ka n kc)).toArray 37) = W0 at *
    obtain ⟨p0, p1, p2, p3, p4, p5, p6, p7, p8, p9⟩ := ten_cells HN0.out
    go_wp2_with fail
    go_ret
    exact ⟨ret_bool HE.out.symm, HB.out⟩
set_option maxRecDepth 100000 in
set_option maxHeartbeats 8000000 in
theorem ref27_May_two (k : Int) (h1 : 1 ≤ k) (h9 : k ≤ 9) (h3 : k ≠ 3) (t : Bs) (u : UseI) (l : List Ex) (ka : Option Addr) (kc : Nat) (ht : t.length ≤ 100000) (hl : l.length ≤ 100000) (w : World) (hG : Good w) (hk : KidsAt (fun _ => True) w l (.slice ka l.length kc)) (ih : MayIH l) :
    Calls Tryz.prog 16 #[exV k t u (.slice ka l.length kc)] w (Ret w (.bool (mayE (.mk k t u l)))) := by
  have hA0 : Below w.heap.size w (w.alloc (.cells (exL k t u (.slice ka l.length kc)).toArray 37)) := (Below.refl w.heap.size w).alloc (Nat.le_refl _) _
  have HB := Lib.hid hA0
  have HN0 := Lib.hid (heap_alloc_new w (.cells (exL k t u (.slice ka l.length kc)).toArray 37))
  have HM := Lib.hid (show mayE (.mk k t u l) = ((decide (l.length = 2) && t.isEmpty && useEq u noUseI) && mayL l) by
    rw [mayE_mk]; unfold mayN; rw [if_neg h3, if_neg (by omega), if_neg (by omega), if_neg (by omega), decide_eq_true (show 1 ≤ k ∧ k ≤ 12 by omega)]; rfl)
  have HG := Lib.hid hG
  have HKID := Lib.hid hk
  have HIH := Lib.hid ih
  obtain ⟨V, hV⟩ : ∃ V, mayE (.mk k t u l) = V := ⟨_, rfl⟩
  rw [hV] at HM ⊢
  clear hV
  obtain ⟨n, hn⟩ : ∃ n, l.length = n := ⟨_, rfl⟩
  rw [hn] at HM HN0 HB hl HKID ⊢
  have HN := Lib.hid hn
  clear hk hG hn ih hA0
  have e3 : (k == 3) = false := beq_eq_false_iff_ne.2 h3
  have e12 : (k == 12) = false := beq_eq_false_iff_ne.2 (by omega)
  have e12' : (k != 12) = true := by rw [bne, e12]; rfl
  have j1 : ¬ (10 : Int) ≤ k := by omega
  have j2 : ¬ k < 1 := by omega
  have j3 : ¬ (12 : Int) < k := by omega
  have j4 : k < 10 := by omega
  clear h3
  rcases Decidable.em (n = 2) with rfl | h0
  · rcases Decidable.em (t = []) with rfl | htn
    · obtain ⟨r, hr⟩ : ∃ r, useEq u noUseI = r := ⟨_, rfl⟩
      have heq : ∀ W : World, (Op.equalIn 10000 34 (.agg #[.int .i64 u.src, .int .i64 u.till, .string ⟨u.name.toArray⟩, .string ⟨u.key.toArray⟩, .string ⟨u.dft.toArray⟩, .bool u.hk, .bool u.hd]) (.agg noneL)).run Tryz.prog W = .ok r W := fun W => by rw [← hr]; exact equal_use26 u noUseI W
      have HV := Lib.hid (show V = (r && mayL l) by rw [HM.out, hr]; rfl)
      clear hr
      have HEQ := Lib.hid heq
      clear heq
      go_enter Tryz.func16, Tryz.ntmps16
      go_upto_region 2 with fail
      generalize w.alloc (.cells (exL k [] u (.slice ka 2 kc)).toArray 37) = W0 at *
      obtain ⟨p0, p1, p2, p3, p4, p5, p6, p7, p8, p9⟩ := ten_cells HN0.out
      have hA : Below W0.heap.size W0 (W0.alloc (.cells noneL 34)) := (Below.refl _ _).alloc (Nat.le_refl _) _
      have HN1 := Lib.hid (heap_alloc_new W0 (.cells noneL 34))
      have HB1 := Lib.hid (HB.out.trans (hA.mono HB.out.size))
      have HN2 := Lib.hid ((hA.block _ (Array.getElem?_eq_some_iff.1 HN0.out).1).trans HN0.out)
      clear hA
      go_upto_region 11 with fail
      clear p0 p1 p2 p3 p4 p5 p6 p7 p8 p9
      generalize W0.alloc (.cells noneL 34) = W1 at *
      generalize W0.heap.size = b1 at *
      obtain ⟨p0, p1, p2, p3, p4, p5, p6, p7, p8, p9⟩ := ten_cells HN2.out
      obtain ⟨f0, f1, f2, f3, f4, f5, f6, c0, c1, c2, c3, c4, c5, c6⟩ := seven_live HN1.out
      have heq := HEQ.out
      rcases r with _ | _
      · have HE := Lib.hid (show V = false from HV.out)
        go_wp2_with fail
        go_ret
        exact ⟨ret_bool HE.out.symm, HB1.out⟩
      · go_upto_region 19 with fail
        clear p0 p1 p2 p3 p4 p5 p6 p7 p8 p9 f0 f1 f2 f3 f4 f5 f6 c0 c1 c2 c3 c4 c5 c6 heq
        go_loopw [8] (fun iv wr => ∃ i : Nat, i ≤ 2 ∧ iv = .int .i64 i ∧ Hid (mayL (l.take i) = true) ∧ Hid (Below W1.heap.size W1 wr)) (fun iv _ => 2 - (intOf iv).toNat)
        case atStart => exact ⟨0, Nat.zero_le _, rfl, Lib.hid (by rw [List.take_zero, mayL]), Lib.hid (Below.refl _ _)⟩
        case round =>
          obtain ⟨i, hi, rfl, HT, HW⟩ := hrel
          have HBB := Lib.hid (HB1.out.trans (HW.out.mono HB1.out.size))
          have HQ := Lib.hid ((HW.out.block _ (Array.getElem?_eq_some_iff.1 HN2.out).1).trans HN2.out)
          obtain ⟨-, -, -, -, -, -, -, -, -, p9⟩ := ten_cells HQ.out
          have i0 : (0 : Int) ≤ (i : Int) := by omega
          by_cases hlt : i < 2
          · have i1 : (i : Int) < 2 := by omega
            obtain ⟨x, hx⟩ : ∃ x, l[i]? = some x := ⟨_, List.getElem?_eq_getElem (by rw [HN.out]; exact hlt)⟩
            have HX := Lib.hid hx
            obtain ⟨b, o, c', he, hlc, hbl, hrow⟩ := kids_row HKID.out hx
            rw [HN.out] at he
            obtain ⟨rfl, rfl⟩ : ka = some ⟨b, o, none⟩ ∧ kc = c' := by injection he with h1 h2 h3; exact ⟨h1, h3⟩
            obtain ⟨k1, t1, u1, a1, n1, c1, hk1⟩ := kid_get hrow hx HBB.out hbl
            have HCALL := Lib.hid (HIH.out x (List.mem_of_getElem? hx) _ wr (HG.out.next HBB.out) (hk1.ex ⟨wr, Below.refl _ _⟩))
            obtain ⟨-, y0, y1, y2, y3, y4, y5, y6, y7, y8, y9⟩ := hk1
            have z0 := y0 ⟨wr, Below.refl _ _⟩
            have z1 := y1 ⟨wr, Below.refl _ _⟩
            have z2 := y2 ⟨wr, Below.refl _ _⟩
            have z3 := y3 ⟨wr, Below.refl _ _⟩
            have z4 := y4 ⟨wr, Below.refl _ _⟩
            have z5 := y5 ⟨wr, Below.refl _ _⟩
            have z6 := y6 ⟨wr, Below.refl _ _⟩
            have z7 := y7 ⟨wr, Below.refl _ _⟩
            have z8 := y8 ⟨wr, Below.refl _ _⟩
            have z9 := y9 ⟨wr, Below.refl _ _⟩
            dsimp only at z0 z1 z2 z3 z4 z5 z6 z7 z8 z9
            obtain ⟨q, hq⟩ : ∃ q, mayE x = q := ⟨_, rfl⟩
            rw [hq] at HCALL
            have HQQ := Lib.hid hq
            clear hx hrow hbl he hlc y0 y1 y2 y3 y4 y5 y6 y7 y8 y9 hq
            go_wp2_with fail
            refine HCALL.out.mono ?_
            rintro e w3 ⟨rfl, hb3⟩
            have HB3 := Lib.hid (HW.out.trans (hb3.mono HW.out.size))
            have HB4 := Lib.hid (HBB.out.trans (hb3.mono HBB.out.size))
            clear hb3 z0 z1 z2 z3 z4 z5 z6 z7 z8 z9 p9
            rcases q with _ | _
            · have HE := Lib.hid (show V = false by rw [HV.out, mayL_false (List.mem_of_getElem? HX.out) HQQ.out]; rfl)
              go_wp2_with fail
              go_ret
              exact ⟨ret_bool HE.out.symm, HB4.out⟩
            · have HT2 := Lib.hid (mayL_take HT.out HX.out HQQ.out)
              go_wp2_with fail
              go_roundw
              case rel => exact ⟨i + 1, by omega, by go_num, HT2, HB3⟩
              case measure => (simp [intOf] <;> omega)
          · obtain rfl : i = 2 := by omega
            have HE := Lib.hid (show V = true by
              have := HT.out
              rw [List.take_of_length_le (by rw [HN.out]; exact Nat.le_refl _)] at this
              rw [HV.out, this]; rfl)
            go_wp2_with fail
            go_ret
            exact ⟨ret_bool HE.out.symm, HBB.out⟩
    · have q1 : (t == []) = false := beq_eq_false_iff_ne.2 htn
      have HE := Lib.hid (show V = false by rw [HM.out, show t.isEmpty = false by cases t with | nil => exact (htn rfl).elim | cons => rfl]; simp)
      clear htn
      go_enter Tryz.func16, Tryz.ntmps16
      go_upto_region 2 with fail
      generalize w.alloc (.cells (exL k t u (.slice ka 2 kc)).toArray 37) = W0 at *
      obtain ⟨p0, p1, p2, p3, p4, p5, p6, p7, p8, p9⟩ := ten_cells HN0.out
      go_wp2_with fail
      go_ret
      exact ⟨ret_bool HE.out.symm, HB.out⟩
  · have i1 : ((n : Int) == 2) = false := by rw [beq_eq_false_iff_ne]; omega
    have i2 : ((n : Int) != 2) = true := by rw [bne, i1]; rfl
    have HE := Lib.hid (show V = false by rw [HM.out, decide_eq_false h0]; rfl)
    clear h0
    go_enter Tryz.func16, Tryz.ntmps16
    go_upto_region 2 with fail
    generalize w.alloc (.cells (exL k t u (.slice ka n kc)).toArray 37) = W0 at *
    obtain ⟨p0, p1, p2, p3, p4, p5, p6, p7, p8, p9⟩ := ten_cells HN0.out
    go_wp2_with fail
    go_ret
    exact ⟨ret_bool HE.out.symm, HB.out⟩
end Go.Proofs.YtbkhmkpbbggcbaaGreatDoor
