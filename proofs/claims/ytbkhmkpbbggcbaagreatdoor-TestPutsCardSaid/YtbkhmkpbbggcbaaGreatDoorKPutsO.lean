/- The walk of the reference's May at variables, and at every tree. -/
import Derived.Test.YtbkhmkpbbggcbaaGreatDoorKPutsN
namespace Go.Proofs.YtbkhmkpbbggcbaaGreatDoor
open Go.RowKit
set_option linter.unusedVariables false
theorem ref_find_used (u : UseI) (w : World) (h1 : u.name.length ≤ 100000) (h2 : u.key.length ≤ 100000) (h3 : u.dft.length ≤ 100000) : Calls Tryz.prog 35 #[.string ⟨(usedB u).toArray⟩, .int .i64 0] w (Ret w (foundV (vfind (usedB u) 0))) := by
  have hl := used_len u
  have h := ref26_Find ⟨(usedB u).toArray⟩ 0 w (by show (usedB u).toArray.size ≤ _; rw [List.size_toArray]; omega)
  rw [show clampN 0 (⟨(usedB u).toArray⟩ : ByteArray).size = 0 from Nat.zero_min _] at h
  exact h
set_option maxRecDepth 100000 in
set_option maxHeartbeats 8000000 in
theorem ref27_May_12 (t : Bs) (u : UseI) (l : List Ex) (ka : Option Addr) (kc : Nat) (ht : t.length ≤ 100000) (hl : l.length ≤ 100000) (h1 : u.name.length ≤ 100000) (h2 : u.key.length ≤ 100000) (h3 : u.dft.length ≤ 100000) (w : World) :
    Calls Tryz.prog 16 #[exV 12 t u (.slice ka l.length kc)] w (Ret w (.bool (mayE (.mk 12 t u l)))) := by
  have HB := Lib.hid ((Below.refl w.heap.size w).alloc (Nat.le_refl _) (.cells (exL 12 t u (.slice ka l.length kc)).toArray 37))
  have HN0 := Lib.hid (heap_alloc_new w (.cells (exL 12 t u (.slice ka l.length kc)).toArray 37))
  have HM := Lib.hid (show mayE (.mk 12 t u l) = ((useOk u && (decide (l.length = 0) && t.isEmpty)) && mayL l) by
    rw [mayE_mk]; unfold mayN; rw [if_neg (by decide), if_neg (by decide), if_neg (by decide), if_pos rfl])
  have HU := Lib.hid (And.intro h1 (And.intro h2 h3))
  obtain ⟨V, hV⟩ : ∃ V, mayE (.mk 12 t u l) = V := ⟨_, rfl⟩
  rw [hV] at HM ⊢
  obtain ⟨n, hn⟩ : ∃ n, l.length = n := ⟨_, rfl⟩
  rw [hn] at HM HN0 HB hl ⊢
  have HNL := Lib.hid hn
  clear hV hn h1 h2 h3
  rcases Decidable.em (n = 0) with rfl | h0
  · obtain rfl : l = [] := List.length_eq_zero_iff.1 HNL.out
    rcases Decidable.em (t = []) with rfl | htn
    · have HV := Lib.hid (show V = useOk u by rw [HM.out]; cases useOk u <;> rfl)
      have hl4 := used_len u
      obtain ⟨S, hS⟩ : ∃ S, usedB u = S := ⟨_, rfl⟩
      have hSl : S.length ≤ 400000 := by rw [← hS]; have := HU.out; omega
      have HF := Lib.hid (fun W => ref_find_used u W HU.out.1 HU.out.2.1 HU.out.2.2)
      have HSE := Lib.hid (fun W => ref27_used u W HU.out.1 HU.out.2.1 HU.out.2.2)
      have HOS := Lib.hid (fun v h => useOk_some (u := u) (v := v) h)
      have HON := Lib.hid (useOk_none (u := u))
      rw [hS] at HF HOS HON HSE
      clear hS hl4
      go_enter Tryz.func16, Tryz.ntmps16
      go_upto_region 2 with fail
      generalize w.alloc (.cells (exL 12 [] u (.slice ka 0 kc)).toArray 37) = W0 at *
      obtain ⟨p0, p1, p2, p3, p4, p5, p6, p7, p8, p9⟩ := ten_cells HN0.out
      have hA : Below W0.heap.size W0 (W0.alloc (.cells noneL 34)) := (Below.refl _ _).alloc (Nat.le_refl _) _
      have HB1 := Lib.hid (HB.out.trans (hA.mono HB.out.size))
      have HN2 := Lib.hid ((hA.block _ (Array.getElem?_eq_some_iff.1 HN0.out).1).trans HN0.out)
      clear hA
      go_upto_region 11 with fail
      clear p0 p1 p2 p3 p4 p5 p6 p7 p8 p9
      generalize W0.alloc (.cells noneL 34) = W1 at *
      generalize W0.heap.size = b1 at *
      obtain ⟨p0, p1, p2, p3, p4, p5, p6, p7, p8, p9⟩ := ten_cells HN2.out
      go_wp2_with fail
      refine (HSE.out W1).mono ?_
      rintro e w1 ⟨rfl, hb1⟩
      have HB3 := Lib.hid (HB1.out.trans (hb1.mono HB1.out.size))
      have HN3 := Lib.hid ((hb1.block _ (Array.getElem?_eq_some_iff.1 HN2.out).1).trans HN2.out)
      clear hb1 p0 p1 p2 p3 p4 p5 p6 p7 p8 p9
      go_wp2_with fail
      refine (HF.out w1).mono ?_
      rintro e w2 ⟨rfl, hb2⟩
      have HB4 := Lib.hid (HB3.out.trans (hb2.mono HB3.out.size))
      have HN4 := Lib.hid ((hb2.block _ (Array.getElem?_eq_some_iff.1 HN3.out).1).trans HN3.out)
      clear hb2 HF
      cases hv : vfind S 0 with
      | none =>
        have HE := Lib.hid (HV.out.trans (HON.out hv))
        clear hv
        rw [foundV_none]
        have hA : Below w2.heap.size w2 (w2.alloc (.cells noneL 34)) := (Below.refl _ _).alloc (Nat.le_refl _) _
        have HB5 := Lib.hid (HB4.out.trans (hA.mono HB4.out.size))
        clear hA
        go_wp2_with fail
        go_ret
        exact ⟨ret_bool HE.out.symm, HB5.out⟩
      | some v =>
        have hok := HV.out.trans (HOS.out v hv)
        rw [show foundV (some v) = .tuple #[useIV (uI v), .bool true] from rfl]
        generalize uI v = U at *
        have HOK := Lib.hid hok
        have hA : Below w2.heap.size w2 (w2.alloc (.cells #[.int .i64 U.src, .int .i64 U.till, .string ⟨U.name.toArray⟩, .string ⟨U.key.toArray⟩, .string ⟨U.dft.toArray⟩, .bool U.hk, .bool U.hd] 34)) := (Below.refl _ _).alloc (Nat.le_refl _) _
        have HB5 := Lib.hid (HB4.out.trans (hA.mono HB4.out.size))
        have HN5 := Lib.hid ((hA.block _ (Array.getElem?_eq_some_iff.1 HN4.out).1).trans HN4.out)
        have HM5 := Lib.hid (heap_alloc_new w2 (.cells #[.int .i64 U.src, .int .i64 U.till, .string ⟨U.name.toArray⟩, .string ⟨U.key.toArray⟩, .string ⟨U.dft.toArray⟩, .bool U.hk, .bool U.hd] 34))
        clear hA hv hok HOS HON
        go_upto_region 16 with fail
        generalize w2.alloc (.cells #[.int .i64 U.src, .int .i64 U.till, .string ⟨U.name.toArray⟩, .string ⟨U.key.toArray⟩, .string ⟨U.dft.toArray⟩, .bool U.hk, .bool U.hd] 34) = W3 at *
        generalize w2.heap.size = b6 at *
        obtain ⟨p0, p1, p2, p3, p4, p5, p6, p7, p8, p9⟩ := ten_cells HN5.out
        obtain ⟨f0, f1, f2, f3, f4, f5, f6, c0, c1, c2, c3, c4, c5, c6⟩ := seven_live HM5.out
        rcases Decidable.em (U.src = 0) with hs0 | hs0
        · rcases Decidable.em (U.till = (S.length : Int)) with ht0 | ht0
          · have HAL := Lib.hid (ref27_alike U u)
            obtain ⟨r, hr⟩ : ∃ r, useSame U u = r := ⟨_, rfl⟩
            rw [hr] at HAL
            have HE := Lib.hid (show V = r by rw [HOK.out, decide_eq_true hs0, decide_eq_true ht0, hr]; rfl)
            have q1 : (U.src == 0) = true := by rw [beq_iff_eq]; exact hs0
            have q2 : (U.till == (S.length : Int)) = true := by rw [beq_iff_eq]; exact ht0
            have q3 : (U.src != 0) = false := by rw [bne, q1]; rfl
            have q4 : (U.till != (S.length : Int)) = false := by rw [bne, q2]; rfl
            clear hr hs0 ht0
            go_wp2_with fail
            refine (HAL.out W3).mono ?_
            rintro e w4 ⟨rfl, hb4⟩
            have HB6 := Lib.hid (HB5.out.trans (hb4.mono HB5.out.size))
            have HN6 := Lib.hid ((hb4.block _ (Array.getElem?_eq_some_iff.1 HN5.out).1).trans HN5.out)
            clear hb4 p0 p1 p2 p3 p4 p5 p6 p7 p8 p9 f0 f1 f2 f3 f4 f5 f6 c0 c1 c2 c3 c4 c5 c6
            obtain ⟨p0, p1, p2, p3, p4, p5, p6, p7, p8, p9⟩ := ten_cells HN6.out
            rcases r with _ | _
            · go_wp2_with fail
              go_ret
              exact ⟨ret_bool HE.out.symm, HB6.out⟩
            · go_upto_region 19 with fail
              go_loop [8] (fun i => i = .int .i64 0) (fun _ => 0)
              case atStart => rfl
              case round =>
                subst hrel
                go_wp2_with fail
                go_ret
                exact ⟨ret_bool HE.out.symm, HB6.out⟩
          · have HE := Lib.hid (show V = false by rw [HOK.out, decide_eq_false ht0]; simp)
            have q1 : (U.src == 0) = true := by rw [beq_iff_eq]; exact hs0
            have q2 : (U.till == (S.length : Int)) = false := by rw [beq_eq_false_iff_ne]; exact ht0
            have q3 : (U.src != 0) = false := by rw [bne, q1]; rfl
            have q4 : (U.till != (S.length : Int)) = true := by rw [bne, q2]; rfl
            clear hs0 ht0
            go_wp2_with fail
            go_ret
            exact ⟨ret_bool HE.out.symm, HB5.out⟩
        · have HE := Lib.hid (show V = false by rw [HOK.out, decide_eq_false hs0]; rfl)
          have q1 : (U.src == 0) = false := by rw [beq_eq_false_iff_ne]; exact hs0
          have q3 : (U.src != 0) = true := by rw [bne, q1]; rfl
          clear hs0
          go_wp2_with fail
          go_ret
          exact ⟨ret_bool HE.out.symm, HB5.out⟩
    · have q1 : (t == []) = false := beq_eq_false_iff_ne.2 htn
      have HE := Lib.hid (show V = false by rw [HM.out, show t.isEmpty = false by cases t with | nil => exact (htn rfl).elim | cons => rfl]; simp)
      clear htn
      go_enter Tryz.func16, Tryz.ntmps16
      go_upto_region 2 with fail
      generalize w.alloc (.cells (exL 12 t u (.slice ka 0 kc)).toArray 37) = W0 at *
      obtain ⟨p0, p1, p2, p3, p4, p5, p6, p7, p8, p9⟩ := ten_cells HN0.out
      go_wp2_with fail
      go_ret
      exact ⟨ret_bool HE.out.symm, HB.out⟩
  · have i1 : ((n : Int) == 0) = false := by rw [beq_eq_false_iff_ne]; omega
    have i2 : ((n : Int) != 0) = true := by rw [bne, i1]; rfl
    have HE := Lib.hid (show V = false by rw [HM.out, decide_eq_false h0]; simp)
    clear h0
    go_enter Tryz.func16, Tryz.ntmps16
    go_upto_region 2 with fail
    generalize w.alloc (.cells (exL 12 t u (.slice ka n kc)).toArray 37) = W0 at *
    obtain ⟨p0, p1, p2, p3, p4, p5, p6, p7, p8, p9⟩ := ten_cells HN0.out
    go_wp2_with fail
    go_ret
    exact ⟨ret_bool HE.out.symm, HB.out⟩
theorem ref27_May (x : Ex) : weightE x ≤ 100000 → ∀ (v : Value) (w : World), Good w → ExAt (fun _ => True) w x v → Calls Tryz.prog 16 #[v] w (Ret w (.bool (mayE x))) := by
  refine Ex.ind (P := fun x => weightE x ≤ 100000 → ∀ (v : Value) (w : World), Good w → ExAt (fun _ => True) w x v → Calls Tryz.prog 16 #[v] w (Ret w (.bool (mayE x)))) (fun k t u l ih hw v w hG hx => ?_) x
  rw [weightE] at hw
  have key : ∀ (l : List Ex), l.length ≤ weightL l ∧ ∀ x, x ∈ l → weightE x ≤ weightL l := by
    intro l
    induction l with
    | nil => exact ⟨by simp, fun x h => by cases h⟩
    | cons y r ihr =>
      rw [weightL]
      have := weight_pos y
      refine ⟨by rw [List.length_cons]; have := ihr.1; omega, fun x h => ?_⟩
      rcases List.mem_cons.1 h with rfl | h
      · omega
      · have := ihr.2 x h; omega
  obtain ⟨kl, km⟩ := key l
  have IH : MayIH l := fun x' hx' v W hG h => ih x' hx' (by have := km x' hx'; omega) v W hG h
  obtain ⟨kv, rfl, hk⟩ := exAt_iff.1 hx
  obtain ⟨ka, kc, rfl⟩ : ∃ a c, kv = .slice a l.length c := by rcases hk with ⟨rfl, a, c, rfl⟩ | ⟨b, o, c, rfl, _⟩ <;> exact ⟨_, _, rfl⟩
  by_cases h0 : k < 1 ∨ 12 < k
  · exact ref27_May_out k h0 t u _ l w
  by_cases h10 : k = 10
  · subst h10; exact ref27_May_10 t u l ka kc (by omega) (by omega) w hG hk
  by_cases h11 : k = 11
  · subst h11; exact ref27_May_11 t u l ka kc (by omega) (by omega) w hG hk
  by_cases h12 : k = 12
  · subst h12; exact ref27_May_12 t u l ka kc (by omega) (by omega) (by omega) (by omega) (by omega) w
  by_cases h3 : k = 3
  · subst h3; exact ref27_May_3 t u l ka kc (by omega) (by omega) w hG hk IH
  · exact ref27_May_two k (by omega) (by omega) h3 t u l ka kc (by omega) (by omega) w hG hk IH
end Go.Proofs.YtbkhmkpbbggcbaaGreatDoor
