/- The walk of the reference's Text1 at nodes with kids, and at every tree that may be. -/
import Derived.Test.YtbkhmkpbbggcbaaGreatDoorKPutsX
namespace Go.Proofs.YtbkhmkpbbggcbaaGreatDoor
open Go.RowKit
set_option linter.unusedVariables false
def kidB (k : Int) (i : Nat) (x : Ex) : Bs := bif brB k i x.kind then ([40] ++ (textE x).1) ++ [41] else (textE x).1
def kidsB (k : Int) : Nat → List Ex → List Bs
  | _, [] => []
  | i, x :: r => kidB k i x :: kidsB k (i + 1) r
theorem kidsB_get {k : Int} : ∀ {l : List Ex} {i j : Nat} {x : Ex}, l[j]? = some x → (kidsB k i l)[j]? = some (kidB k (i + j) x)
  | [], _, _, _, h => by simp at h
  | y :: r, i, 0, x, h => by simp at h; subst h; rfl
  | y :: r, i, j + 1, x, h => by
    have := kidsB_get (k := k) (l := r) (i := i + 1) (j := j) (x := x) (by simpa using h)
    rw [show i + 1 + j = i + (j + 1) by omega] at this
    simpa [kidsB] using this
theorem kidsB_take {k : Int} {l : List Ex} {j : Nat} {x : Ex} (h : l[j]? = some x) : (kidsB k 0 l).take (j + 1) = (kidsB k 0 l).take j ++ [kidB k j x] := by
  have := kidsB_get (k := k) (i := 0) h
  rw [Nat.zero_add] at this
  rw [List.take_add_one, this]; rfl
theorem kidB_len (k : Int) (i : Nat) (x : Ex) : (kidB k i x).length ≤ (textE x).1.length + 2 := by
  unfold kidB
  cases brB k i x.kind <;> simp only [cond_true, cond_false, List.length_append, List.length_singleton] <;> omega
theorem kidB_is {k M : Int} {i : Nat} {x : Ex} (h : brB k i x.kind = !decide (M ≤ x.kind ∧ x.kind ≤ 12)) : kidB k i x = kidT M x.kind (textE x).1 := by
  unfold kidB kidT
  rw [h]
  cases decide (M ≤ x.kind ∧ x.kind ≤ 12) <;> rfl
def sgB (k : Int) : Bs := if k = 1 then [124] else if k = 2 then [38] else signB (k - 4).toNat
theorem sgB_len (k : Int) : (sgB k).length ≤ 2 := by
  unfold sgB
  split
  · decide
  · split
    · decide
    · exact signB_len _
theorem br_eq {p q : Bool} (h : p = true ↔ q = false) : p = !q := by cases p <;> cases q <;> simp_all
theorem text_one3 {a : Ex} {u : UseI} (h : mayE (.mk 3 [] u [a]) = true) : (textE (.mk 3 [] u [a])).1 = [33] ++ kidB 3 0 a := by
  obtain ⟨he, hn, hl⟩ := text_node h
  have ha := may_kind (may_mem hl (x := a) (by simp))
  rw [he, nodeT_3, textL_one, kidB_is (M := 3)]
  · rfl
  · refine br_eq ?_
    unfold brB
    rw [if_neg (by decide), if_neg (by decide), if_pos rfl]
    simp only [Bool.or_eq_true, decide_eq_true_eq, decide_eq_false_iff_not]; omega
theorem text_pair {k : Int} {a b : Ex} {u : UseI} (hk : k = 1 ∨ k = 2 ∨ (4 ≤ k ∧ k ≤ 9)) (h : mayE (.mk k [] u [a, b]) = true) : (textE (.mk k [] u [a, b])).1 = ((((kidB k 0 a ++ [32]) ++ sgB k) ++ [32]) ++ kidB k 1 b) := by
  obtain ⟨he, hn, hl⟩ := text_node h
  have ha := may_kind (may_mem hl (x := a) (by simp))
  have hb := may_kind (may_mem hl (x := b) (by simp))
  rcases hk with rfl | rfl | ⟨h4, h9⟩
  · rw [he, nodeT_1, two_two, kidB_is (M := 1) (x := a), kidB_is (M := 2) (x := b)]
    · rfl
    · refine br_eq ?_
      unfold brB
      rw [if_pos rfl]
      simp only [Bool.and_eq_true, decide_eq_true_eq, decide_eq_false_iff_not]; omega
    · refine br_eq ?_
      unfold brB
      rw [if_pos rfl]
      simp only [Bool.and_eq_true, decide_eq_true_eq, decide_eq_false_iff_not]; omega
  · rw [he, nodeT_2, two_two, kidB_is (M := 2) (x := a), kidB_is (M := 3) (x := b)]
    · rfl
    · refine br_eq ?_
      unfold brB
      rw [if_neg (by decide), if_pos rfl]
      simp only [Bool.or_eq_true, Bool.and_eq_true, decide_eq_true_eq, decide_eq_false_iff_not]; omega
    · refine br_eq ?_
      unfold brB
      rw [if_neg (by decide), if_pos rfl]
      simp only [Bool.or_eq_true, Bool.and_eq_true, decide_eq_true_eq, decide_eq_false_iff_not]; omega
  · rw [he, nodeT_cmp h4 h9, two_two, kidB_is (M := 10) (x := a), kidB_is (M := 10) (x := b)]
    · unfold sgB; rw [if_neg (by omega), if_neg (by omega)]
    · refine br_eq ?_
      unfold brB
      rw [if_neg (by omega), if_neg (by omega), if_neg (by omega)]
      simp only [decide_eq_true_eq, decide_eq_false_iff_not]; omega
    · refine br_eq ?_
      unfold brB
      rw [if_neg (by omega), if_neg (by omega), if_neg (by omega)]
      simp only [decide_eq_true_eq, decide_eq_false_iff_not]; omega
def TextIH (l : List Ex) : Prop := ∀ x', x' ∈ l → ∀ (v : Value) (W : World), Good W → ExAt (fun _ => True) W x' v → Calls Tryz.prog 17 #[v] W (Ret W (.string ⟨(textE x').1.toArray⟩))
theorem strs_own {W : World} {base : Nat} {v : Value} {n : Nat} {ls : List Bs} (h : W.ownsRow base 9 1 v n (scells ls)) : W.ownsRow base 9 1 v ls.length (scells ls) := by
  have : n = ls.length := by have := h.1; rw [scells_len] at this; omega
  rw [← this]; exact h
theorem one_str {W : World} {base : Nat} {v : Value} {s : Bs} (h : W.ownsRow base 9 1 v 1 (scells [s])) : ∃ g cap, v = .slice (some ⟨g, 0, none⟩) 1 cap ∧ W.cell? ⟨g, 0, none⟩ = some (.string ⟨s.toArray⟩) := by
  rcases StrsAt.of_own h with ⟨_, _, _, h0⟩ | ⟨b, o, c, he, hc, hlt, hs⟩
  · cases h0
  · obtain ⟨g, cap, rfl⟩ := own_succ h
    injection he with h1 h2 h3
    injection h1 with h1; injection h1 with h4 h5 h6
    subst h4; subst h5
    exact ⟨g, cap, rfl, hs 0 s rfl⟩
theorem two_str {W : World} {base : Nat} {v : Value} {s t : Bs} (h : W.ownsRow base 9 1 v 2 (scells [s, t])) : ∃ g cap, v = .slice (some ⟨g, 0, none⟩) 2 cap ∧ W.cell? ⟨g, 0, none⟩ = some (.string ⟨s.toArray⟩) ∧ W.cell? ⟨g, 1, none⟩ = some (.string ⟨t.toArray⟩) ∧ g < W.heap.size := by
  rcases StrsAt.of_own h with ⟨_, _, _, h0⟩ | ⟨b, o, c, he, hc, hlt, hs⟩
  · cases h0
  · obtain ⟨g, cap, rfl⟩ := own_succ h
    injection he with h1 h2 h3
    injection h1 with h1; injection h1 with h4 h5 h6
    subst h4; subst h5
    exact ⟨g, cap, rfl, hs 0 s rfl, hs 1 t rfl, hlt⟩
set_option maxRecDepth 100000 in
set_option maxHeartbeats 8000000 in
theorem ref27_Text_3 (u : UseI) (a : Ex) (l : List Ex) (hl : l = [a]) (ka : Option Addr) (kc : Nat) (hm : mayE (.mk 3 [] u [a]) = true) (w : World) (hG : Good w) (hk : KidsAt (fun _ => True) w l (.slice ka l.length kc)) (ih : TextIH l) (hlen : ∀ x ∈ l, (textE x).1.length ≤ 2000000) :
    Calls Tryz.prog 17 #[exV 3 [] u (.slice ka 1 kc)] w (Ret w (.string ⟨(textE (.mk 3 [] u [a])).1.toArray⟩)) := by
  have HL := Lib.hid (show l.length = 1 by rw [hl]; rfl)
  rw [HL.out] at hk
  have HE := Lib.hid (text_one3 hm)
  have HT := Lib.hid (show (kidsB 3 0 l).take 1 = [kidB 3 0 a] by rw [hl]; rfl)
  have hka := kidB_len 3 0 a
  have hla := hlen a (by rw [hl]; simp)
  obtain ⟨S, hS⟩ : ∃ S, kidB 3 0 a = S := ⟨_, rfl⟩
  rw [hS] at HE HT hka
  have hsl : S.length ≤ 2000002 := by omega
  clear hl hm hS hka hla
  have hA0 : Below w.heap.size w (w.alloc (.cells (exL 3 [] u (.slice ka 1 kc)).toArray 37)) := (Below.refl w.heap.size w).alloc (Nat.le_refl _) _
  have HB := Lib.hid hA0
  have HN0 := Lib.hid (heap_alloc_new w (.cells (exL 3 [] u (.slice ka 1 kc)).toArray 37))
  have HG := Lib.hid hG
  have HKID := Lib.hid hk
  have HIH := Lib.hid ih
  have HLEN := Lib.hid hlen
  clear hk hG ih hA0 hlen
  go_enter Tryz.func17, Tryz.ntmps17
  go_upto_region 1 with fail
  generalize w.alloc (.cells (exL 3 [] u (.slice ka 1 kc)).toArray 37) = W0 at *
  obtain ⟨p0, p1, p2, p3, p4, p5, p6, p7, p8, p9⟩ := ten_cells HN0.out
  go_upto_region 8 with fail
  clear p0 p1 p2 p3 p4 p5 p6 p7 p8 p9
  go_upto_region 10 with fail
  go_loopw [3, 4] (fun lv iv wr => ∃ i : Nat, i ≤ 1 ∧ iv = .int .i64 i ∧ Hid (wr.ownsRow W0.heap.size 9 1 lv i (scells ((kidsB 3 0 l).take i))) ∧ Hid (Below W0.heap.size W0 wr)) (fun _ iv _ => 1 - (intOf iv).toNat)
  case atStart => exact ⟨0, Nat.zero_le _, rfl, Lib.hid (World.ownsRow_nil _ _ _ _), Lib.hid (Below.refl _ _)⟩
  case round =>
    obtain ⟨i, hi, rfl, HO, HW⟩ := hrel
    have HBB := Lib.hid (HB.out.trans (HW.out.mono HB.out.size))
    have HQ := Lib.hid ((HW.out.block _ (Array.getElem?_eq_some_iff.1 HN0.out).1).trans HN0.out)
    obtain ⟨p0, -, -, -, -, -, -, -, -, p9⟩ := ten_cells HQ.out
    have i0 : (0 : Int) ≤ (i : Int) := by omega
    by_cases hlt : i < 1
    · have i1 : (i : Int) < 1 := by omega
      obtain ⟨x, hx⟩ : ∃ x, l[i]? = some x := ⟨_, List.getElem?_eq_getElem (by rw [HL.out]; exact hlt)⟩
      have HX := Lib.hid hx
      obtain ⟨b, o, c', he, hlc, hbl, hrow⟩ := kids_row HKID.out hx
      rw [HL.out] at he
      obtain ⟨rfl, rfl⟩ : ka = some ⟨b, o, none⟩ ∧ kc = c' := by injection he with h1 h2 h3; exact ⟨h1, h3⟩
      obtain ⟨k1, t1, u1, a1, n1, c1, hk1⟩ := kid_get hrow hx HBB.out hbl
      have HKD := Lib.hid (exAt_kind (hk1.ex ⟨wr, Below.refl _ _⟩))
      have HCALL := Lib.hid (HIH.out x (List.mem_of_getElem? hx) _ wr (HG.out.next HBB.out) (hk1.ex ⟨wr, Below.refl _ _⟩))
      obtain ⟨-, y0, y1, y2, y3, y4, y5, y6, y7, y8, y9⟩ := hk1
      have HY := Lib.hid y0
      have z0 := y0 ⟨wr, Below.refl _ _⟩
      have z1 := y1 ⟨wr, Below.refl _ _⟩
      have z2 := y2 ⟨wr, Below.refl _ _⟩
      have z3 := y3 ⟨wr, Below.refl _ _⟩
      have z4 := y4 ⟨wr, Below.refl _ _⟩
      have z5 := y5 ⟨wr, Below.refl _ _⟩
      have z6 := y6 ⟨wr, Below.refl _ _⟩
      have z7 := y7 ⟨wr, Below.refl _ _⟩
      have z8 := y8 ⟨wr, Below.refl _ _⟩
      have z9 := y9 ⟨wr, Below.refl _ _⟩
      dsimp only at z0 z1 z2 z3 z4 z5 z6 z7 z8 z9
      have HKB := Lib.hid (show kidB 3 i x = bif brB 3 i k1 then ([40] ++ (textE x).1) ++ [41] else (textE x).1 by unfold kidB; rw [HKD.out])
      have hsl := HLEN.out x (List.mem_of_getElem? hx)
      obtain ⟨S, hS⟩ : ∃ S, (textE x).1 = S := ⟨_, rfl⟩
      rw [hS] at HCALL HKB hsl
      have HBR := Lib.hid (show ∀ W : World, Calls Tryz.prog 36 #[.int .i64 3, .int .i64 (i : Int), .int .i64 k1] W fun e w' => e = .returned (.bool (brB 3 (i : Int) k1)) ∧ w' = W from fun W => (ref27_bracketed 3 (i : Int) k1 W).mono fun e w' ⟨h1, h2⟩ => ⟨h1, h2.symm⟩)
      obtain ⟨q, hq⟩ : ∃ q, brB 3 i k1 = q := ⟨_, rfl⟩
      rw [hq] at HBR HKB
      clear hx hrow hbl he hlc y0 y1 y2 y3 y4 y5 y6 y7 y8 y9 hq hS
      go_wp2_with fail
      refine HCALL.out.mono ?_
      rintro e w3 ⟨rfl, hb3⟩
      have HB3 := Lib.hid (HW.out.trans (hb3.mono HW.out.size))
      have HB4 := Lib.hid (HBB.out.trans (hb3.mono HBB.out.size))
      have HO3 := Lib.hid (own_below HO.out hb3)
      have HQ3 := Lib.hid ((hb3.block _ (Array.getElem?_eq_some_iff.1 HQ.out).1).trans HQ.out)
      have z0' : w3.cell? _ = _ := HY.out ⟨w3, hb3⟩
      clear hb3 z0 z1 z2 z3 z4 z5 z6 z7 z8 z9 p0 p9
      obtain ⟨p0, -, -, -, -, -, -, -, -, p9⟩ := ten_cells HQ3.out
      go_wp2_with fail
      go_quiet ((go_at_call 36; with_reducible exact Calls.quiet_of_same (HBR.out _)))
      have HO4 := Lib.hid (show (w3.drewN nq).ownsRow W0.heap.size 9 1 _ i _ from HO3.out)
      have HB5 := Lib.hid (HB3.out.trans (ret_drew ⟨nq, rfl⟩ |>.mono HB3.out.size))
      clear p0 p9 z0'
      have hsz5 := HB5.out.size
      generalize w3.drewN nq = w5 at *
      rcases q with _ | _
      · have HKS := Lib.hid (kidsB_take (k := 3) HX.out)
        rw [HKB.out] at HKS
        go_wp2_with (at_builtin; refine wpList_app1 rfl _ _ 60 rfl 9 (.string ⟨#[]⟩) 1 16 u60 info9 rfl (by decide) W0.heap.size _ _ _ _ rfl HO4.out [.string ⟨S.toArray⟩] rfl rfl rfl (by simp [Value.oneCell']) (by omega) (by omega) (by omega) ?_; intro g cap w6 hown6 hb6 hsz6)
        go_roundw
        case rel => exact ⟨i + 1, by omega, by go_num, Lib.hid (by rw [HKS.out, scells_snoc]; exact hown6), Lib.hid (HB5.out.trans hb6)⟩
        case measure => (simp [intOf] <;> omega)
      · have HKS := Lib.hid (kidsB_take (k := 3) HX.out)
        rw [HKB.out] at HKS
        go_wp2_with (at_builtin; refine wpList_app1 rfl _ _ 60 rfl 9 (.string ⟨#[]⟩) 1 16 u60 info9 rfl (by decide) W0.heap.size _ _ _ _ rfl HO4.out [.string ⟨(([40] ++ S) ++ [41]).toArray⟩] rfl rfl rfl (by simp [Value.oneCell']) (by omega) (by omega) (by omega) ?_; intro g cap w6 hown6 hb6 hsz6)
        go_roundw
        case rel => exact ⟨i + 1, by omega, by go_num, Lib.hid (by rw [HKS.out, scells_snoc]; exact hown6), Lib.hid (HB5.out.trans hb6)⟩
        case measure => (simp [intOf] <;> omega)
    · obtain rfl : i = 1 := by omega
      have HO2 := Lib.hid (strs_own HO.out)
      rw [HT.out] at HO2
      obtain ⟨g, cap, rfl, hc0⟩ := one_str HO2.out
      have e0 : ¬ (1 : Int) < 1 := by omega
      go_wp2_with fail
      go_ret
      exact ⟨ret_str (by rw [HE.out]; simp), HBB.out⟩
set_option maxRecDepth 100000 in
set_option maxHeartbeats 8000000 in
theorem ref27_Text_two (k : Int) (h1 : k = 1 ∨ k = 2 ∨ (4 ≤ k ∧ k ≤ 9)) (u : UseI) (a b : Ex) (l : List Ex) (hl : l = [a, b]) (ka : Option Addr) (kc : Nat) (hm : mayE (.mk k [] u [a, b]) = true) (w : World) (hG : Good w) (hk : KidsAt (fun _ => True) w l (.slice ka l.length kc)) (ih : TextIH l) (hlen : ∀ x ∈ l, (textE x).1.length ≤ 2000000) :
    Calls Tryz.prog 17 #[exV k [] u (.slice ka 2 kc)] w (Ret w (.string ⟨(textE (.mk k [] u [a, b])).1.toArray⟩)) := by
  have HL := Lib.hid (show l.length = 2 by rw [hl]; rfl)
  rw [HL.out] at hk
  have HE := Lib.hid (text_pair h1 hm)
  have HT := Lib.hid (show (kidsB k 0 l).take 2 = [kidB k 0 a, kidB k 1 b] by rw [hl]; rfl)
  have hka := kidB_len k 0 a
  have hla := hlen a (by rw [hl]; simp)
  have hkb := kidB_len k 1 b
  have hlb := hlen b (by rw [hl]; simp)
  obtain ⟨S1, hS1⟩ : ∃ S1, kidB k 0 a = S1 := ⟨_, rfl⟩
  obtain ⟨S2, hS2⟩ : ∃ S2, kidB k 1 b = S2 := ⟨_, rfl⟩
  rw [hS1] at HE HT hka
  rw [hS2] at HE HT hkb
  have hsa : S1.length ≤ 2000002 := by omega
  have hsb : S2.length ≤ 2000002 := by omega
  have e3 : (k == 3) = false := beq_eq_false_iff_ne.2 (by omega)
  have e10 : (k == 10) = false := beq_eq_false_iff_ne.2 (by omega)
  have e11 : (k == 11) = false := beq_eq_false_iff_ne.2 (by omega)
  have e12 : (k == 12) = false := beq_eq_false_iff_ne.2 (by omega)
  have HKK := Lib.hid h1
  clear hl hm hS1 hS2 hka hla hkb hlb h1
  have hA0 : Below w.heap.size w (w.alloc (.cells (exL k [] u (.slice ka 2 kc)).toArray 37)) := (Below.refl w.heap.size w).alloc (Nat.le_refl _) _
  have HB := Lib.hid hA0
  have HN0 := Lib.hid (heap_alloc_new w (.cells (exL k [] u (.slice ka 2 kc)).toArray 37))
  have HG := Lib.hid hG
  have HKID := Lib.hid hk
  have HIH := Lib.hid ih
  have HLEN := Lib.hid hlen
  clear hk hG ih hA0 hlen
  go_enter Tryz.func17, Tryz.ntmps17
  go_upto_region 1 with fail
  generalize w.alloc (.cells (exL k [] u (.slice ka 2 kc)).toArray 37) = W0 at *
  obtain ⟨p0, p1, p2, p3, p4, p5, p6, p7, p8, p9⟩ := ten_cells HN0.out
  go_upto_region 8 with fail
  clear p0 p1 p2 p3 p4 p5 p6 p7 p8 p9
  go_upto_region 10 with fail
  go_loopw [3, 4] (fun lv iv wr => ∃ i : Nat, i ≤ 2 ∧ iv = .int .i64 i ∧ Hid (wr.ownsRow W0.heap.size 9 1 lv i (scells ((kidsB k 0 l).take i))) ∧ Hid (Below W0.heap.size W0 wr)) (fun _ iv _ => 2 - (intOf iv).toNat)
  case atStart => exact ⟨0, Nat.zero_le _, rfl, Lib.hid (World.ownsRow_nil _ _ _ _), Lib.hid (Below.refl _ _)⟩
  case round =>
    obtain ⟨i, hi, rfl, HO, HW⟩ := hrel
    have HBB := Lib.hid (HB.out.trans (HW.out.mono HB.out.size))
    have HQ := Lib.hid ((HW.out.block _ (Array.getElem?_eq_some_iff.1 HN0.out).1).trans HN0.out)
    obtain ⟨p0, -, -, -, -, -, -, -, -, p9⟩ := ten_cells HQ.out
    have i0 : (0 : Int) ≤ (i : Int) := by omega
    by_cases hlt : i < 2
    · have i1 : (i : Int) < 2 := by omega
      obtain ⟨x, hx⟩ : ∃ x, l[i]? = some x := ⟨_, List.getElem?_eq_getElem (by rw [HL.out]; exact hlt)⟩
      have HX := Lib.hid hx
      obtain ⟨b, o, c', he, hlc, hbl, hrow⟩ := kids_row HKID.out hx
      rw [HL.out] at he
      obtain ⟨rfl, rfl⟩ : ka = some ⟨b, o, none⟩ ∧ kc = c' := by injection he with h1 h2 h3; exact ⟨h1, h3⟩
      obtain ⟨k1, t1, u1, a1, n1, c1, hk1⟩ := kid_get hrow hx HBB.out hbl
      have HKD := Lib.hid (exAt_kind (hk1.ex ⟨wr, Below.refl _ _⟩))
      have HCALL := Lib.hid (HIH.out x (List.mem_of_getElem? hx) _ wr (HG.out.next HBB.out) (hk1.ex ⟨wr, Below.refl _ _⟩))
      obtain ⟨-, y0, y1, y2, y3, y4, y5, y6, y7, y8, y9⟩ := hk1
      have HY := Lib.hid y0
      have z0 := y0 ⟨wr, Below.refl _ _⟩
      have z1 := y1 ⟨wr, Below.refl _ _⟩
      have z2 := y2 ⟨wr, Below.refl _ _⟩
      have z3 := y3 ⟨wr, Below.refl _ _⟩
      have z4 := y4 ⟨wr, Below.refl _ _⟩
      have z5 := y5 ⟨wr, Below.refl _ _⟩
      have z6 := y6 ⟨wr, Below.refl _ _⟩
      have z7 := y7 ⟨wr, Below.refl _ _⟩
      have z8 := y8 ⟨wr, Below.refl _ _⟩
      have z9 := y9 ⟨wr, Below.refl _ _⟩
      dsimp only at z0 z1 z2 z3 z4 z5 z6 z7 z8 z9
      have HKB := Lib.hid (show kidB k i x = bif brB k i k1 then ([40] ++ (textE x).1) ++ [41] else (textE x).1 by unfold kidB; rw [HKD.out])
      have hsl := HLEN.out x (List.mem_of_getElem? hx)
      obtain ⟨S, hS⟩ : ∃ S, (textE x).1 = S := ⟨_, rfl⟩
      rw [hS] at HCALL HKB hsl
      have HBR := Lib.hid (show ∀ W : World, Calls Tryz.prog 36 #[.int .i64 k, .int .i64 (i : Int), .int .i64 k1] W fun e w' => e = .returned (.bool (brB k (i : Int) k1)) ∧ w' = W from fun W => (ref27_bracketed k (i : Int) k1 W).mono fun e w' ⟨h1, h2⟩ => ⟨h1, h2.symm⟩)
      obtain ⟨q, hq⟩ : ∃ q, brB k i k1 = q := ⟨_, rfl⟩
      rw [hq] at HBR HKB
      clear hx hrow hbl he hlc y0 y1 y2 y3 y4 y5 y6 y7 y8 y9 hq hS
      go_wp2_with fail
      refine HCALL.out.mono ?_
      rintro e w3 ⟨rfl, hb3⟩
      have HB3 := Lib.hid (HW.out.trans (hb3.mono HW.out.size))
      have HB4 := Lib.hid (HBB.out.trans (hb3.mono HBB.out.size))
      have HO3 := Lib.hid (own_below HO.out hb3)
      have HQ3 := Lib.hid ((hb3.block _ (Array.getElem?_eq_some_iff.1 HQ.out).1).trans HQ.out)
      have z0' : w3.cell? _ = _ := HY.out ⟨w3, hb3⟩
      clear hb3 z0 z1 z2 z3 z4 z5 z6 z7 z8 z9 p0 p9
      obtain ⟨p0, -, -, -, -, -, -, -, -, p9⟩ := ten_cells HQ3.out
      go_wp2_with fail
      go_quiet ((go_at_call 36; with_reducible exact Calls.quiet_of_same (HBR.out _)))
      have HO4 := Lib.hid (show (w3.drewN nq).ownsRow W0.heap.size 9 1 _ i _ from HO3.out)
      have HB5 := Lib.hid (HB3.out.trans (ret_drew ⟨nq, rfl⟩ |>.mono HB3.out.size))
      clear p0 p9 z0'
      have hsz5 := HB5.out.size
      generalize w3.drewN nq = w5 at *
      rcases q with _ | _
      · have HKS := Lib.hid (kidsB_take (k := k) HX.out)
        rw [HKB.out] at HKS
        go_wp2_with (at_builtin; refine wpList_app1 rfl _ _ 60 rfl 9 (.string ⟨#[]⟩) 1 16 u60 info9 rfl (by decide) W0.heap.size _ _ _ _ rfl HO4.out [.string ⟨S.toArray⟩] rfl rfl rfl (by simp [Value.oneCell']) (by omega) (by omega) (by omega) ?_; intro g cap w6 hown6 hb6 hsz6)
        go_roundw
        case rel => exact ⟨i + 1, by omega, by go_num, Lib.hid (by rw [HKS.out, scells_snoc]; exact hown6), Lib.hid (HB5.out.trans hb6)⟩
        case measure => (simp [intOf] <;> omega)
      · have HKS := Lib.hid (kidsB_take (k := k) HX.out)
        rw [HKB.out] at HKS
        go_wp2_with (at_builtin; refine wpList_app1 rfl _ _ 60 rfl 9 (.string ⟨#[]⟩) 1 16 u60 info9 rfl (by decide) W0.heap.size _ _ _ _ rfl HO4.out [.string ⟨(([40] ++ S) ++ [41]).toArray⟩] rfl rfl rfl (by simp [Value.oneCell']) (by omega) (by omega) (by omega) ?_; intro g cap w6 hown6 hb6 hsz6)
        go_roundw
        case rel => exact ⟨i + 1, by omega, by go_num, Lib.hid (by rw [HKS.out, scells_snoc]; exact hown6), Lib.hid (HB5.out.trans hb6)⟩
        case measure => (simp [intOf] <;> omega)
    · obtain rfl : i = 2 := by omega
      have HO2 := Lib.hid (strs_own HO.out)
      rw [HT.out] at HO2
      obtain ⟨g, cap, rfl, hc0, hc1, hgl⟩ := two_str HO2.out
      have HC := Lib.hid (And.intro hc0 hc1)
      have e0 : ¬ (2 : Int) < 2 := by omega
      clear hc0 hc1
      go_upto_region 18 with fail
      clear p0 p9
      obtain ⟨sg, hsg⟩ : ∃ sg, sgB k = sg := ⟨_, rfl⟩
      rw [hsg] at HE
      have HSG := Lib.hid hsg
      have hsl : sg.length ≤ 2 := by rw [← hsg]; exact sgB_len k
      clear hsg
      have HN3 := Lib.hid (heap_alloc_new wr (.cells #[.string ⟨#[124]⟩, .string ⟨#[38]⟩, .string ⟨#[]⟩, .string ⟨#[61, 61]⟩, .string ⟨#[33, 61]⟩, .string ⟨#[60]⟩, .string ⟨#[60, 61]⟩, .string ⟨#[62]⟩, .string ⟨#[62, 61]⟩] 9))
      have hA3 : Below wr.heap.size wr (wr.alloc (.cells #[.string ⟨#[124]⟩, .string ⟨#[38]⟩, .string ⟨#[]⟩, .string ⟨#[61, 61]⟩, .string ⟨#[33, 61]⟩, .string ⟨#[60]⟩, .string ⟨#[60, 61]⟩, .string ⟨#[62]⟩, .string ⟨#[62, 61]⟩] 9)) := (Below.refl _ _).alloc (Nat.le_refl _) _
      have HB8 := Lib.hid (HBB.out.trans (hA3.mono HBB.out.size))
      have HQ8 := Lib.hid ((hA3.block _ (Array.getElem?_eq_some_iff.1 HQ.out).1).trans HQ.out)
      have HC8 := Lib.hid (And.intro ((hA3.cell (p := ⟨g, 0, none⟩) hgl).trans HC.out.1) ((hA3.cell (p := ⟨g, 1, none⟩) hgl).trans HC.out.2))
      clear hA3
      go_upto_region 19 with fail
      generalize wr.alloc (.cells #[.string ⟨#[124]⟩, .string ⟨#[38]⟩, .string ⟨#[]⟩, .string ⟨#[61, 61]⟩, .string ⟨#[33, 61]⟩, .string ⟨#[60]⟩, .string ⟨#[60, 61]⟩, .string ⟨#[62]⟩, .string ⟨#[62, 61]⟩] 9) = W8 at *
      generalize wr.heap.size = b8 at *
      obtain ⟨p0, -, -, -, -, -, -, -, -, -⟩ := ten_cells HQ8.out
      obtain ⟨hc0, hc1⟩ := HC8.out
      have c8 : ∀ (j : Nat) (v : Value), (#[Value.string ⟨#[124]⟩, .string ⟨#[38]⟩, .string ⟨#[]⟩, .string ⟨#[61, 61]⟩, .string ⟨#[33, 61]⟩, .string ⟨#[60]⟩, .string ⟨#[60, 61]⟩, .string ⟨#[62]⟩, .string ⟨#[62, 61]⟩])[j]? = some v → W8.cell? ⟨b8, j, none⟩ = some v := fun j v hv => cell_of_row _ _ j _ _ _ HN3.out |>.trans hv
      have HC9 := Lib.hid c8
      clear c8
      rcases HKK.out with rfl | rfl | ⟨h4, h9⟩
      · have s8 := HC9.out 0 _ rfl
        obtain rfl : sg = [124] := HSG.out.symm
        clear e3 e10 e11 e12
        go_quiet (fail)
        go_wp2_with fail
        go_ret
        exact ⟨ret_str (by rw [HE.out]; simp), HB8.out.trans (ret_drew ⟨nq, rfl⟩ |>.mono HB8.out.size)⟩
      · have s8 := HC9.out 1 _ rfl
        obtain rfl : sg = [38] := HSG.out.symm
        clear e3 e10 e11 e12
        go_quiet (fail)
        go_wp2_with fail
        go_ret
        exact ⟨ret_str (by rw [HE.out]; simp), HB8.out.trans (ret_drew ⟨nq, rfl⟩ |>.mono HB8.out.size)⟩
      · have hk6 : k = 4 ∨ k = 5 ∨ k = 6 ∨ k = 7 ∨ k = 8 ∨ k = 9 := by omega
        clear h4 h9
        rcases hk6 with rfl | rfl | rfl | rfl | rfl | rfl
        · have s8 := HC9.out 3 _ rfl
          obtain rfl : sg = [61, 61] := HSG.out.symm
          clear e3 e10 e11 e12
          go_quiet (fail)
          go_wp2_with fail
          go_ret
          exact ⟨ret_str (by rw [HE.out]; simp), HB8.out.trans (ret_drew ⟨nq, rfl⟩ |>.mono HB8.out.size)⟩
        · have s8 := HC9.out 4 _ rfl
          obtain rfl : sg = [33, 61] := HSG.out.symm
          clear e3 e10 e11 e12
          go_quiet (fail)
          go_wp2_with fail
          go_ret
          exact ⟨ret_str (by rw [HE.out]; simp), HB8.out.trans (ret_drew ⟨nq, rfl⟩ |>.mono HB8.out.size)⟩
        · have s8 := HC9.out 5 _ rfl
          obtain rfl : sg = [60] := HSG.out.symm
          clear e3 e10 e11 e12
          go_quiet (fail)
          go_wp2_with fail
          go_ret
          exact ⟨ret_str (by rw [HE.out]; simp), HB8.out.trans (ret_drew ⟨nq, rfl⟩ |>.mono HB8.out.size)⟩
        · have s8 := HC9.out 6 _ rfl
          obtain rfl : sg = [60, 61] := HSG.out.symm
          clear e3 e10 e11 e12
          go_quiet (fail)
          go_wp2_with fail
          go_ret
          exact ⟨ret_str (by rw [HE.out]; simp), HB8.out.trans (ret_drew ⟨nq, rfl⟩ |>.mono HB8.out.size)⟩
        · have s8 := HC9.out 7 _ rfl
          obtain rfl : sg = [62] := HSG.out.symm
          clear e3 e10 e11 e12
          go_quiet (fail)
          go_wp2_with fail
          go_ret
          exact ⟨ret_str (by rw [HE.out]; simp), HB8.out.trans (ret_drew ⟨nq, rfl⟩ |>.mono HB8.out.size)⟩
        · have s8 := HC9.out 8 _ rfl
          obtain rfl : sg = [62, 61] := HSG.out.symm
          clear e3 e10 e11 e12
          go_quiet (fail)
          go_wp2_with fail
          go_ret
          exact ⟨ret_str (by rw [HE.out]; simp), HB8.out.trans (ret_drew ⟨nq, rfl⟩ |>.mono HB8.out.size)⟩
end Go.Proofs.YtbkhmkpbbggcbaaGreatDoor
