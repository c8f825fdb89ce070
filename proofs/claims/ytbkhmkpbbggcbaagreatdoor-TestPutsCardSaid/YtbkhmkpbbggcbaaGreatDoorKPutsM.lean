/- The walk of the reference's May. (Under way.) -/
import Derived.Test.YtbkhmkpbbggcbaaGreatDoorKPutsR
import Derived.Test.YtbkhmkpbbggcbaaGreatDoorKTestSz
namespace Go.Proofs.YtbkhmkpbbggcbaaGreatDoor
open Go.RowKit
set_option linter.unusedVariables false
theorem equal_use26 (u u2 : UseI) (W : World) : (Op.equalIn 10000 34 (useIV u) (useIV u2)).run Tryz.prog W = .ok (useEq u u2) W := by
  simp only [useEq, useSame]
  simp [useIV, go_sem]
  repeat' split
  all_goals simp_all
abbrev noneL : Array Value := #[.int .i64 0, .int .i64 0, .string ⟨#[]⟩, .string ⟨#[]⟩, .string ⟨#[]⟩, .bool false, .bool false]
def MayIH (l : List Ex) : Prop := ∀ x', x' ∈ l → ∀ (v : Value) (W : World), Good W → ExAt (fun _ => True) W x' v → Calls Tryz.prog 16 #[v] W (Ret W (.bool (mayE x')))
set_option maxRecDepth 100000 in
set_option maxHeartbeats 8000000 in
theorem ref27_May_10 (t : Bs) (u : UseI) (l : List Ex) (ka : Option Addr) (kc : Nat) (ht : t.length ≤ 100000) (hl : l.length ≤ 100000) (w : World) (hG : Good w) (hk : KidsAt (fun _ => True) w l (.slice ka l.length kc)) :
    Calls Tryz.prog 16 #[exV 10 t u (.slice ka l.length kc)] w (Ret w (.bool (mayE (.mk 10 t u l)))) := by
  have HB := Lib.hid ((Below.refl w.heap.size w).alloc (Nat.le_refl _) (.cells (exL 10 t u (.slice ka l.length kc)).toArray 37))
  have HN0 := Lib.hid (heap_alloc_new w (.cells (exL 10 t u (.slice ka l.length kc)).toArray 37))
  have HM := Lib.hid (mayE_mk 10 t u l)
  obtain ⟨V, hV⟩ : ∃ V, mayE (.mk 10 t u l) = V := ⟨_, rfl⟩
  rw [hV] at HM ⊢
  clear hV
  have HF := Lib.hid (ref27_free t ht)
  obtain ⟨n, hn⟩ : ∃ n, l.length = n := ⟨_, rfl⟩
  rw [hn] at HM HN0 HB hl ⊢
  have HNL := Lib.hid hn
  clear hk hG hn
  rcases Decidable.em (n = 0) with rfl | h0
  · obtain rfl : l = [] := List.length_eq_zero_iff.1 HNL.out
    obtain ⟨q, hq⟩ : ∃ q, hasB 39 t = q := ⟨_, rfl⟩
    rw [hq] at HF
    have HQ := Lib.hid hq
    clear hq
    go_enter Tryz.func16, Tryz.ntmps16
    go_upto_region 2 with fail
    generalize w.alloc (.cells (exL 10 t u (.slice ka 0 kc)).toArray 37) = W0 at *
    obtain ⟨p0, p1, p2, p3, p4, p5, p6, p7, p8, p9⟩ := ten_cells HN0.out
    go_wp2_with fail
    refine (HF.out _).mono ?_
    rintro e w2 ⟨rfl, rfl⟩
    rcases q with _ | _
    · have HQ2 := HQ
      obtain ⟨r, hr⟩ : ∃ r, useEq u noUseI = r := ⟨_, rfl⟩
      have heq : ∀ W : World, (Op.equalIn 10000 34 (.agg #[.int .i64 u.src, .int .i64 u.till, .string ⟨u.name.toArray⟩, .string ⟨u.key.toArray⟩, .string ⟨u.dft.toArray⟩, .bool u.hk, .bool u.hd]) (.agg noneL)).run Tryz.prog W = .ok r W := fun W => by rw [← hr]; exact equal_use26 u noUseI W
      have HV := Lib.hid (show V = r by rw [HM.out]; unfold mayN; rw [if_neg (by decide), if_pos rfl, HQ.out, hr]; cases r <;> rfl)
      clear hr
      have hA : Below W0.heap.size W0 (W0.alloc (.cells noneL 34)) := (Below.refl _ _).alloc (Nat.le_refl _) _
      have HN1 := Lib.hid (heap_alloc_new W0 (.cells noneL 34))
      have HB1 := Lib.hid (HB.out.trans (hA.mono HB.out.size))
      have HN2 := Lib.hid ((hA.block _ (Array.getElem?_eq_some_iff.1 HN0.out).1).trans HN0.out)
      have HEQ := Lib.hid heq
      clear hA heq
      go_upto_region 11 with fail
      clear p0 p1 p2 p3 p4 p5 p6 p7 p8 p9
      generalize W0.alloc (.cells noneL 34) = W1 at *
      generalize W0.heap.size = b1 at *
      obtain ⟨p0, p1, p2, p3, p4, p5, p6, p7, p8, p9⟩ := ten_cells HN2.out
      obtain ⟨f0, f1, f2, f3, f4, f5, f6, c0, c1, c2, c3, c4, c5, c6⟩ := seven_live HN1.out
      have heq := HEQ.out
      rcases r with _ | _
      · go_wp2_with fail
        go_ret
        exact ⟨ret_bool HV.out.symm, HB1.out⟩
      · go_upto_region 19 with fail
        go_loop [8] (fun i => i = .int .i64 0) (fun _ => 0)
        case atStart => rfl
        case round =>
          subst hrel
          go_wp2_with fail
          go_ret
          exact ⟨ret_bool HV.out.symm, HB1.out⟩
    · have HV := Lib.hid (show V = false by rw [HM.out]; unfold mayN; rw [if_neg (by decide), if_pos rfl, HQ.out]; rfl)
      go_wp2_with fail
      go_ret
      exact ⟨ret_bool HV.out.symm, HB.out⟩
  · have i1 : ((n : Int) == 0) = false := by rw [beq_eq_false_iff_ne]; omega
    have i2 : ((n : Int) != 0) = true := by rw [bne, i1]; rfl
    have HE := Lib.hid (show V = false by rw [HM.out]; unfold mayN; simp [h0])
    clear h0
    go_enter Tryz.func16, Tryz.ntmps16
    go_upto_region 2 with fail
    generalize w.alloc (.cells (exL 10 t u (.slice ka n kc)).toArray 37) = W0 at *
    obtain ⟨p0, p1, p2, p3, p4, p5, p6, p7, p8, p9⟩ := ten_cells HN0.out
    go_wp2_with fail
    go_ret
    exact ⟨ret_bool HE.out.symm, HB.out⟩
set_option maxRecDepth 100000 in
set_option maxHeartbeats 8000000 in
theorem ref27_May_11 (t : Bs) (u : UseI) (l : List Ex) (ka : Option Addr) (kc : Nat) (ht : t.length ≤ 100000) (hl : l.length ≤ 100000) (w : World) (hG : Good w) (hk : KidsAt (fun _ => True) w l (.slice ka l.length kc)) :
    Calls Tryz.prog 16 #[exV 11 t u (.slice ka l.length kc)] w (Ret w (.bool (mayE (.mk 11 t u l)))) := by
  have HB := Lib.hid ((Below.refl w.heap.size w).alloc (Nat.le_refl _) (.cells (exL 11 t u (.slice ka l.length kc)).toArray 37))
  have HN0 := Lib.hid (heap_alloc_new w (.cells (exL 11 t u (.slice ka l.length kc)).toArray 37))
  have HM := Lib.hid (mayE_mk 11 t u l)
  obtain ⟨V, hV⟩ : ∃ V, mayE (.mk 11 t u l) = V := ⟨_, rfl⟩
  rw [hV] at HM ⊢
  clear hV
  have HF := Lib.hid (ref27_number t ht)
  obtain ⟨n, hn⟩ : ∃ n, l.length = n := ⟨_, rfl⟩
  rw [hn] at HM HN0 HB hl ⊢
  have HNL := Lib.hid hn
  clear hk hG hn
  rcases Decidable.em (n = 0) with rfl | h0
  · obtain rfl : l = [] := List.length_eq_zero_iff.1 HNL.out
    obtain ⟨q, hq⟩ : ∃ q, numOk t = q := ⟨_, rfl⟩
    rw [hq] at HF
    have HQ := Lib.hid hq
    clear hq
    go_enter Tryz.func16, Tryz.ntmps16
    go_upto_region 2 with fail
    generalize w.alloc (.cells (exL 11 t u (.slice ka 0 kc)).toArray 37) = W0 at *
    obtain ⟨p0, p1, p2, p3, p4, p5, p6, p7, p8, p9⟩ := ten_cells HN0.out
    go_wp2_with fail
    refine (HF.out _).mono ?_
    rintro e w2 ⟨rfl, rfl⟩
    rcases q with _ | _
    · have HV := Lib.hid (show V = false by rw [HM.out]; unfold mayN; rw [if_neg (by decide), if_neg (by decide), if_pos rfl, HQ.out]; rfl)
      go_wp2_with fail
      go_ret
      exact ⟨ret_bool HV.out.symm, HB.out⟩
    · have HQ2 := HQ
      obtain ⟨r, hr⟩ : ∃ r, useEq u noUseI = r := ⟨_, rfl⟩
      have heq : ∀ W : World, (Op.equalIn 10000 34 (.agg #[.int .i64 u.src, .int .i64 u.till, .string ⟨u.name.toArray⟩, .string ⟨u.key.toArray⟩, .string ⟨u.dft.toArray⟩, .bool u.hk, .bool u.hd]) (.agg noneL)).run Tryz.prog W = .ok r W := fun W => by rw [← hr]; exact equal_use26 u noUseI W
      have HV := Lib.hid (show V = r by rw [HM.out]; unfold mayN; rw [if_neg (by decide), if_neg (by decide), if_pos rfl, HQ.out, hr]; cases r <;> rfl)
      clear hr
      have hA : Below W0.heap.size W0 (W0.alloc (.cells noneL 34)) := (Below.refl _ _).alloc (Nat.le_refl _) _
      have HN1 := Lib.hid (heap_alloc_new W0 (.cells noneL 34))
      have HB1 := Lib.hid (HB.out.trans (hA.mono HB.out.size))
      have HN2 := Lib.hid ((hA.block _ (Array.getElem?_eq_some_iff.1 HN0.out).1).trans HN0.out)
      have HEQ := Lib.hid heq
      clear hA heq
      go_upto_region 11 with fail
      clear p0 p1 p2 p3 p4 p5 p6 p7 p8 p9
      generalize W0.alloc (.cells noneL 34) = W1 at *
      generalize W0.heap.size = b1 at *
      obtain ⟨p0, p1, p2, p3, p4, p5, p6, p7, p8, p9⟩ := ten_cells HN2.out
      obtain ⟨f0, f1, f2, f3, f4, f5, f6, c0, c1, c2, c3, c4, c5, c6⟩ := seven_live HN1.out
      have heq := HEQ.out
      rcases r with _ | _
      · go_wp2_with fail
        go_ret
        exact ⟨ret_bool HV.out.symm, HB1.out⟩
      · go_upto_region 19 with fail
        go_loop [8] (fun i => i = .int .i64 0) (fun _ => 0)
        case atStart => rfl
        case round =>
          subst hrel
          go_wp2_with fail
          go_ret
          exact ⟨ret_bool HV.out.symm, HB1.out⟩
  · have i1 : ((n : Int) == 0) = false := by rw [beq_eq_false_iff_ne]; omega
    have i2 : ((n : Int) != 0) = true := by rw [bne, i1]; rfl
    have HE := Lib.hid (show V = false by rw [HM.out]; unfold mayN; simp [h0])
    clear h0
    go_enter Tryz.func16, Tryz.ntmps16
    go_upto_region 2 with fail
    generalize w.alloc (.cells (exL 11 t u (.slice ka n kc)).toArray 37) = W0 at *
    obtain ⟨p0, p1, p2, p3, p4, p5, p6, p7, p8, p9⟩ := ten_cells HN0.out
    go_wp2_with fail
    go_ret
    exact ⟨ret_bool HE.out.symm, HB.out⟩
set_option maxRecDepth 100000 in
set_option maxHeartbeats 8000000 in
theorem ref27_May_out (k : Int) (hk : k < 1 ∨ 12 < k) (t : Bs) (u : UseI) (kv : Value) (l : List Ex) (w : World) :
    Calls Tryz.prog 16 #[exV k t u kv] w (Ret w (.bool (mayE (.mk k t u l)))) := by
  have HB := Lib.hid ((Below.refl w.heap.size w).alloc (Nat.le_refl _) (.cells (exL k t u kv).toArray 37))
  have HN0 := Lib.hid (heap_alloc_new w (.cells (exL k t u kv).toArray 37))
  have HM := Lib.hid (show mayE (.mk k t u l) = false by
    rw [mayE_mk]; unfold mayN
    rw [if_neg (by omega), if_neg (by omega), if_neg (by omega), if_neg (by omega), decide_eq_false (by omega)]; rfl)
  obtain ⟨V, hV⟩ : ∃ V, mayE (.mk k t u l) = V := ⟨_, rfl⟩
  rw [hV] at HM ⊢
  clear hV
  have e3 : (k == 3) = false := beq_eq_false_iff_ne.2 (by omega)
  rcases hk with hk | hk
  · have j1 : ¬ (10 : Int) ≤ k := by omega
    go_enter Tryz.func16, Tryz.ntmps16
    go_upto_region 2 with fail
    generalize w.alloc (.cells (exL k t u kv).toArray 37) = W0 at *
    obtain ⟨p0, p1, p2, p3, p4, p5, p6, p7, p8, p9⟩ := ten_cells HN0.out
    go_wp2_with fail
    go_ret
    exact ⟨ret_bool HM.out.symm, HB.out⟩
  · have j1 : (10 : Int) ≤ k := by omega
    have j2 : ¬ k < 1 := by omega
    go_enter Tryz.func16, Tryz.ntmps16
    go_upto_region 2 with fail
    generalize w.alloc (.cells (exL k t u kv).toArray 37) = W0 at *
    obtain ⟨p0, p1, p2, p3, p4, p5, p6, p7, p8, p9⟩ := ten_cells HN0.out
    go_wp2_with fail
    go_ret
    exact ⟨ret_bool HM.out.symm, HB.out⟩
end Go.Proofs.YtbkhmkpbbggcbaaGreatDoor
