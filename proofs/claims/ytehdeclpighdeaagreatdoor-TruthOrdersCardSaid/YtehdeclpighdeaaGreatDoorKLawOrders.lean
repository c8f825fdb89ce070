/- The law TruthOrders: of two texts just one of Less, Equal and Greater is so. -/
import Derived.Test.YtehdeclpighdeaaGreatDoorKTruthW4
import Derived.Test.YtehdeclpighdeaaGreatDoorKTruthW5
namespace Go.Proofs.YtehdeclpighdeaaGreatDoor
open Go.RowKit
set_option linter.unusedVariables false
theorem ord_says (val : UseI → Bs × Bool) (k : Int) (h4 : 4 ≤ k) (h9 : k ≤ 9) (a b : Bs) (k1 k2 : Int) (h1 : k1 = 10 ∨ k1 = 11) (h2 : k2 = 10 ∨ k2 = 11) : isB val (twoE k (.mk k1 a noUseI []) (.mk k2 b noUseI [])) = holdsB k (ordB a b) := by
  have e1 : askE val (.mk k1 a noUseI []) = (.txt a, 0) := by
    rw [askE_mk]; unfold nodeV
    have h0 : kidsN k1 = 0 := by rcases h1 with rfl | rfl <;> rfl
    rw [askL]
    rw [if_neg (by rw [h0]; simp), if_pos h1]
  have e2 : askE val (.mk k2 b noUseI []) = (.txt b, 0) := by
    rw [askE_mk]; unfold nodeV
    have h0 : kidsN k2 = 0 := by rcases h2 with rfl | rfl <;> rfl
    rw [askL]
    rw [if_neg (by rw [h0]; simp), if_pos h2]
  have e3 : kidsN k = 2 := by rcases kids_cases k with h | h | h | h <;> omega
  unfold isB twoE
  rw [askE_mk, askL_two, e1, e2]
  unfold nodeV
  rw [if_neg (by rw [e3]; simp), if_neg (by omega), if_neg (by omega)]
  show soB (if k = 3 then _ else if k = 1 ∧ _ then _ else if k = 2 ∧ _ then _ else if k = 1 ∨ k = 2 then _ else _ : TV × Nat).1 = _
  rw [if_neg (by omega), if_neg (by omega), if_neg (by omega), if_neg (by omega)]
  rfl
theorem ord_none (val : UseI → Bs × Bool) (k : Int) (h4 : 4 ≤ k) (h9 : k ≤ 9) (x y : Ex) (h : (askE val x).1 = .none ∨ (askE val y).1 = .none) : isB val (twoE k x y) = false := by
  have e3 : kidsN k = 2 := by rcases kids_cases k with h | h | h | h <;> omega
  unfold isB twoE
  rw [askE_mk, askL_two]
  unfold nodeV
  rw [if_neg (by rw [e3]; simp), if_neg (by omega), if_neg (by omega)]
  show soB (if k = 3 then _ else if k = 1 ∧ _ then _ else if k = 2 ∧ _ then _ else if k = 1 ∨ k = 2 then _ else _ : TV × Nat).1 = _
  rw [if_neg (by omega), if_neg (by omega), if_neg (by omega), if_neg (by omega)]
  show comparesB k (askE val x).1 (askE val y).1 = false
  rcases h with h | h
  · rw [h]; cases (askE val y).1 <;> rfl
  · rw [h]; cases (askE val x).1 <;> rfl
theorem none_28 : (askE v28 (.mk 12 [] noUseI [])).1 = .none := by kernel_rfl
theorem weight_leaf (k : Int) (t : Bs) : weightE (.mk k t noUseI []) ≤ 1 + t.length := by
  rw [weightE, weightL]; show _ + (0 : Nat) ≤ _; simp [noUseI]
theorem weight2T (k : Int) (x y : Ex) : weightE (twoE k x y) ≤ 1 + weightE x + weightE y := by
  unfold twoE; rw [weightE, weightL, weightL, weightL]; simp [noUseI]; omega
def One3 (l s g : Bool) : Prop := (l = true ∧ s = false ∧ g = false) ∨ (l = false ∧ s = true ∧ g = false) ∨ (l = false ∧ s = false ∧ g = true)
theorem ord_one (o : Int) (h : o = -1 ∨ o = 0 ∨ o = 1) : One3 (holdsB 6 o) (holdsB 4 o) (holdsB 8 o) ∧ holdsB 7 o = !holdsB 8 o ∧ holdsB 9 o = !holdsB 6 o ∧ holdsB 5 o = !holdsB 4 o := by
  rcases h with rfl | rfl | rfl
  · exact ⟨.inl ⟨by decide, by decide, by decide⟩, by decide, by decide, by decide⟩
  · exact ⟨.inr (.inl ⟨by decide, by decide, by decide⟩), by decide, by decide, by decide⟩
  · exact ⟨.inr (.inr ⟨by decide, by decide, by decide⟩), by decide, by decide, by decide⟩
theorem ord_turn (o : Int) (h : o = -1 ∨ o = 0 ∨ o = 1) : holdsB 8 (-o) = holdsB 6 o ∧ holdsB 4 (-o) = holdsB 4 o := by
  rcases h with rfl | rfl | rfl <;> exact ⟨by decide, by decide⟩
theorem dig_zero (R : Bs) (N : Nat) (h : DigS N 0 R) (hR : R ≠ []) : numOk R = true ∧ numV R = N := by
  refine ⟨?_, by have := h.sum; omega⟩
  unfold numOk
  have : R.isEmpty = false := by cases R with | nil => exact (hR rfl).elim | cons => rfl
  rw [this, h.dig, decide_eq_true (by have := h.len; omega)]; rfl
theorem ord_dig (N : Nat) (R K : Bs) (h1 : DigS N 0 R) (h2 : R ≠ []) (h3 : DigS (N + 1) 0 K) (h4 : K ≠ []) : ordB R (48 :: 48 :: K) = -1 := by
  obtain ⟨a, b⟩ := dig_zero R N h1 h2
  obtain ⟨c, d⟩ := dig_zero K (N + 1) h3 h4
  have e : numOk (48 :: 48 :: K) = true := by
    unfold numOk
    simp only [List.isEmpty_cons, Bool.not_false, Bool.true_and, List.all_cons, List.length_cons]
    rw [h3.dig, decide_eq_true (by have := h3.len; omega)]
    decide
  have f : numV (48 :: 48 :: K) = numV K := by rw [numV_cons, numV_cons]; simp
  unfold ordB
  rw [if_pos ⟨a, e⟩, f, b, d]
  unfold Go.Lib.compareInt
  rw [if_pos (by omega)]
theorem row_up {W w' : World} {b : Nat} {O : Obj} (h : W.heap[b]? = some O) (hB : Below W.heap.size W w') : w'.heap[b]? = some O := (hB.block _ (Array.getElem?_eq_some_iff.1 h).1).trans h
theorem row_three {W : World} {b : Nat} {x0 x1 x2 : Value} {T : TypeId} (h : W.heap[b]? = some (.cells #[x0, x1, x2] T)) : W.cell? ⟨b, 0, none⟩ = some x0 ∧ W.cell? ⟨b, 1, none⟩ = some x1 ∧ W.cell? ⟨b, 2, none⟩ = some x2 := ⟨cell_of_row _ _ 0 _ _ _ h, cell_of_row _ _ 1 _ _ _ h, cell_of_row _ _ 2 _ _ _ h⟩
set_option maxRecDepth 100000 in
set_option maxHeartbeats 4000000 in
theorem law28_orders_out (a b : ByteArray) (n : Int) (w : World) (hG : Good w) (ho : 3000 < a.size ∨ 3000 < b.size) : Calls Tryz.prog 10 #[.string a, .string b, .int .u32 n] w (Ret w (.bool true)) := by
  rcases Decidable.em (3000 < a.size) with h | h
  · have i1 : (3000 : Int) < (a.size : Int) := by omega
    go_enter Tryz.func10, Tryz.ntmps10
    go_wp2_with fail
    refine (law28_works w hG).mono ?_
    rintro e w1 ⟨rfl, hb⟩
    go_wp2_with fail
    go_ret
    exact ⟨rfl, hb⟩
  · have i0 : ¬ (3000 : Int) < (a.size : Int) := by omega
    have i1 : (3000 : Int) < (b.size : Int) := by rcases ho with h | h <;> omega
    go_enter Tryz.func10, Tryz.ntmps10
    go_wp2_with fail
    refine (law28_works w hG).mono ?_
    rintro e w1 ⟨rfl, hb⟩
    go_wp2_with fail
    go_ret
    exact ⟨rfl, hb⟩
theorem ord_world (w : World) (A B C : Obj) : Below w.heap.size w (((w.alloc A).alloc B).alloc C) ∧ (((w.alloc A).alloc B).alloc C).heap[w.heap.size]? = some A ∧ (((w.alloc A).alloc B).alloc C).heap[w.heap.size + 1]? = some B ∧ (((w.alloc A).alloc B).alloc C).heap[w.heap.size + 1 + 1]? = some C := by
  have hb := (((Below.refl w.heap.size w).alloc (Nat.le_refl _) A).alloc (by rw [World.size_alloc]; omega) B).alloc (by rw [World.size_alloc, World.size_alloc]; omega) C
  have h0 := heap_alloc_new w A
  have h1 := heap_alloc_new (w.alloc A) B
  have h2 := heap_alloc_new ((w.alloc A).alloc B) C
  rw [World.size_alloc] at h1
  rw [World.size_alloc, World.size_alloc] at h2
  exact ⟨hb, row_alloc (row_alloc h0 B) C, row_alloc h1 C, h2⟩
set_option maxRecDepth 100000 in
set_option maxHeartbeats 16000000 in
theorem law28_orders_in (a b : Bs) (n : Nat) (hn : n < 4294967296) (w : World) (hG : Good w) (ha : a.length ≤ 3000) (hb3 : b.length ≤ 3000) : Calls Tryz.prog 10 #[.string ⟨a.toArray⟩, .string ⟨b.toArray⟩, .int .u32 (n : Int)] w (Ret w (.bool true)) := by
  have i1 : ¬ (3000 : Int) < (a.length : Int) := by omega
  have i2 : ¬ (3000 : Int) < (b.length : Int) := by omega
  have HOT := ordB_three a b
  have HO := Lib.hid (ord_one _ HOT)
  have HT := Lib.hid (ord_turn _ HOT)
  have HAB := Lib.hid (fun (h : a = b) => show holdsB 4 (ordB a b) = true by subst h; rw [ordB_self]; rfl)
  have HLX := weight_leaf 10 a
  have HLY := weight_leaf 10 b
  have HLN := weight_leaf 12 []
  have HW1 := Lib.hid (fun k => show weightE (twoE k (.mk 10 a noUseI []) (.mk 10 b noUseI [])) ≤ 100000 by have := weight2T k (.mk 10 a noUseI []) (.mk 10 b noUseI []); omega)
  have HW2 := Lib.hid (fun k => show weightE (twoE k (.mk 10 b noUseI []) (.mk 10 a noUseI [])) ≤ 100000 by have := weight2T k (.mk 10 b noUseI []) (.mk 10 a noUseI []); omega)
  have HW3 := Lib.hid (fun k => show weightE (twoE k (.mk 10 a noUseI []) (.mk 12 [] noUseI [])) ≤ 100000 by have := weight2T k (.mk 10 a noUseI []) (.mk 12 [] noUseI []); simp only [List.length_nil] at HLN; omega)
  have HW4 := Lib.hid (fun k => show weightE (twoE k (.mk 12 [] noUseI []) (.mk 10 b noUseI [])) ≤ 100000 by have := weight2T k (.mk 12 [] noUseI []) (.mk 10 b noUseI []); simp only [List.length_nil] at HLN; omega)
  have HW5 := Lib.hid (fun k => show weightE (twoE k (.mk 12 [] noUseI []) (.mk 12 [] noUseI [])) ≤ 100000 by have := weight2T k (.mk 12 [] noUseI []) (.mk 12 [] noUseI []); simp only [List.length_nil] at HLN; omega)
  have HI6 := Lib.hid (ord_says v28 6 (by decide) (by decide) a b 10 10 (.inl rfl) (.inl rfl))
  have HI4 := Lib.hid (ord_says v28 4 (by decide) (by decide) a b 10 10 (.inl rfl) (.inl rfl))
  have HI8 := Lib.hid (ord_says v28 8 (by decide) (by decide) a b 10 10 (.inl rfl) (.inl rfl))
  have HI7 := Lib.hid ((ord_says v28 7 (by decide) (by decide) a b 10 10 (.inl rfl) (.inl rfl)).trans HO.out.2.1)
  have HI9 := Lib.hid ((ord_says v28 9 (by decide) (by decide) a b 10 10 (.inl rfl) (.inl rfl)).trans HO.out.2.2.1)
  have HI5 := Lib.hid ((ord_says v28 5 (by decide) (by decide) a b 10 10 (.inl rfl) (.inl rfl)).trans HO.out.2.2.2)
  have HJ8 := Lib.hid ((ord_says v28 8 (by decide) (by decide) b a 10 10 (.inl rfl) (.inl rfl)).trans ((congrArg (holdsB 8) (ordB_turn a b)).trans HT.out.1))
  have HJ4 := Lib.hid ((ord_says v28 4 (by decide) (by decide) b a 10 10 (.inl rfl) (.inl rfl)).trans ((congrArg (holdsB 4) (ordB_turn a b)).trans HT.out.2))
  have HONE := Lib.hid HO.out.1
  generalize holdsB 6 (ordB a b) = l at *
  generalize holdsB 4 (ordB a b) = s at *
  generalize holdsB 8 (ordB a b) = g at *
  clear HOT HO HT HLX HLY HLN
  have HAL := Lib.hid (And.intro ha hb3)
  clear ha hb3
  have HN4 := Lib.hid hn
  clear hn
  go_enter Tryz.func10, Tryz.ntmps10
  go_wp2_with fail
  refine (law28_given w).mono ?_
  rintro e w1 ⟨va, vc, rfl, hown, hb⟩
  have HG1 := Lib.hid (hG.next hb)
  have HB1 := Lib.hid hb
  have HF1 := Lib.hid hown.at
  clear hown hb hG i1 i2
  have HQ := Lib.hid (ord_world w1 (.cells #[.string ⟨#[104]⟩, .string ⟨#[47]⟩, .slice va 0 vc] 59) (.cells #[.int .i64 10, .string ⟨a.toArray⟩, .int .i64 0, .int .i64 0, .string ⟨#[]⟩, .string ⟨#[]⟩, .string ⟨#[]⟩, .bool false, .bool false, .slice none 0 0] 27) (.cells #[.int .i64 10, .string ⟨b.toArray⟩, .int .i64 0, .int .i64 0, .string ⟨#[]⟩, .string ⟨#[]⟩, .string ⟨#[]⟩, .bool false, .bool false, .slice none 0 0] 27))
  go_upto_region 5 with fail
  generalize ((w1.alloc (.cells #[.string ⟨#[104]⟩, .string ⟨#[47]⟩, .slice va 0 vc] 59)).alloc (.cells #[.int .i64 10, .string ⟨a.toArray⟩, .int .i64 0, .int .i64 0, .string ⟨#[]⟩, .string ⟨#[]⟩, .string ⟨#[]⟩, .bool false, .bool false, .slice none 0 0] 27)).alloc (.cells #[.int .i64 10, .string ⟨b.toArray⟩, .int .i64 0, .int .i64 0, .string ⟨#[]⟩, .string ⟨#[]⟩, .string ⟨#[]⟩, .bool false, .bool false, .slice none 0 0] 27) = W at *
  have HB := Lib.hid (HB1.out.trans (HQ.out.1.mono HB1.out.size))
  have HG := Lib.hid (HG1.out.next HQ.out.1)
  have HF := Lib.hid (HF1.out.below HQ.out.1)
  have HR7 := Lib.hid HQ.out.2.1
  have HR8 := Lib.hid (show W.heap[w1.heap.size + 1]? = some (.cells (exL 10 a noUseI (.slice none 0 0)).toArray 27) from HQ.out.2.2.1)
  have HR9 := Lib.hid (show W.heap[w1.heap.size + 1 + 1]? = some (.cells (exL 10 b noUseI (.slice none 0 0)).toArray 27) from HQ.out.2.2.2)
  generalize w1.heap.size + 1 + 1 = b9 at *
  generalize w1.heap.size + 1 = b8 at *
  generalize w1.heap.size = b7 at *
  clear HQ HG1 HF1 HB1
  refine wp_region_tail 21 [upTree (.mk 10 a noUseI []), upTree (.mk 10 b noUseI []), upKids [(.mk 10 a noUseI []), (.mk 10 b noUseI [])], upTree (twoE 6 (.mk 10 a noUseI []) (.mk 10 b noUseI [])), UpP.is (.agg #[.string ⟨#[104]⟩, .string ⟨#[47]⟩, .slice va 0 vc]), UpP.is (.bool l), upTree (.mk 10 a noUseI []), upTree (.mk 10 b noUseI []), upKids [(.mk 10 a noUseI []), (.mk 10 b noUseI [])], upTree (twoE 4 (.mk 10 a noUseI []) (.mk 10 b noUseI [])), UpP.is (.agg #[.string ⟨#[104]⟩, .string ⟨#[47]⟩, .slice va 0 vc]), UpP.is (.bool s), upTree (.mk 10 a noUseI []), upTree (.mk 10 b noUseI []), upKids [(.mk 10 a noUseI []), (.mk 10 b noUseI [])], upTree (twoE 8 (.mk 10 a noUseI []) (.mk 10 b noUseI [])), UpP.is (.agg #[.string ⟨#[104]⟩, .string ⟨#[47]⟩, .slice va 0 vc]), UpP.is (.bool g), UpP.is (.bool l), UpP.is (.bool s), UpP.is (.bool g)] (by kernel_rfl) (by rfl) (by rfl) (by rfl) (by rfl) ⟨?o0, ?o1, ?o2, ?o3, ?o4, ?o5, ?o6, ?o7, ?o8, ?o9, ?o10, ?o11, ?o12, ?o13, ?o14, ?o15, ?o16, ?o17, ?o18, ?o19, ?o20, trivial⟩ ?_
  case o0 =>
    intro a' w' hB hL hA
    refine up_yes rfl ?_
    have s8 := like_at hL 8 (by rfl) rfl
    obtain ⟨p0, p1, p2, p3, p4, p5, p6, p7, p8, p9⟩ := ten_cells (row_up HR8.out hB)
    go_simp
    exact ⟨_, rfl, Below.refl _ _, (exAt_leaf (fun _ => True) w' 10 a noUseI)⟩
  case o1 =>
    intro a' w' hB hL hA
    refine up_yes rfl ?_
    have s9 := like_at hL 9 (by rfl) rfl
    obtain ⟨p0, p1, p2, p3, p4, p5, p6, p7, p8, p9⟩ := ten_cells (row_up HR9.out hB)
    go_simp
    exact ⟨_, rfl, Below.refl _ _, (exAt_leaf (fun _ => True) w' 10 b noUseI)⟩
  case o2 =>
    intro a' w' hB hL hA
    refine up_yes rfl ?_
    obtain ⟨v0, e0, h0⟩ := up_pre hA 0 (by rfl)
    have e0 : a'.tmps[31]? = some _ := e0
    have h0 : ExAt (fun _ => True) w' (.mk 10 a noUseI []) v0 := h0
    obtain ⟨k0, t0, u0, a0, n0, c0, rfl⟩ := h0.ten
    obtain ⟨v1, e1, h1⟩ := up_pre hA 1 (by rfl)
    have e1 : a'.tmps[32]? = some _ := e1
    have h1 : ExAt (fun _ => True) w' (.mk 10 b noUseI []) v1 := h1
    obtain ⟨k1, t1, u1, a1, n1, c1, rfl⟩ := h1.ten
    go_simp
    exact ⟨_, rfl, (Below.refl _ _).alloc (Nat.le_refl _) _, kids_of (exAt_two (A := fun _ => True) 3 h0 h1 trivial)⟩
  case o3 =>
    intro a' w' hB hL hA
    refine up_yes rfl ?_
    obtain ⟨v2, e2, h2⟩ := up_pre hA 2 (by rfl)
    have e2 : a'.tmps[33]? = some _ := e2
    have h2 : KidsAt (fun _ => True) w' [(.mk 10 a noUseI []), (.mk 10 b noUseI [])] v2 := h2
    obtain ⟨a2, c2, rfl⟩ := kids_slice h2
    go_simp
    refine (law28_of 6 a2 2 c2 w').mono ?_
    rintro e w6 ⟨rfl, hb6⟩
    exact ⟨_, rfl, hb6, exAt_iff.2 ⟨_, rfl, kids_nextA h2 hb6⟩⟩
  case o4 =>
    intro a' w' hB hL hA
    refine up_yes rfl ?_
    have s7 := like_at hL 7 (by rfl) rfl
    obtain ⟨c0, c1, c2⟩ := row_three (row_up HR7.out hB)
    go_simp
    exact ⟨_, rfl, Below.refl _ _, rfl⟩
  case o5 =>
    intro a' w' hB hL hA
    refine up_yes rfl ?_
    obtain ⟨v3, e3, h3⟩ := up_pre hA 3 (by rfl)
    have e3 : a'.tmps[34]? = some _ := e3
    have h3 : ExAt (fun _ => True) w' (twoE 6 (.mk 10 a noUseI []) (.mk 10 b noUseI [])) v3 := h3
    obtain ⟨v4, e4, rfl⟩ := up_pre hA 4 (by rfl)
    have e4 : a'.tmps[35]? = some _ := e4
    go_simp
    refine (is28 _ _ HI6.out _ va vc w' (HG.out.next hB) h3 (HF.out.below hB) (HW1.out _)).mono ?_
    rintro e w6 ⟨rfl, hb6⟩
    exact ⟨_, rfl, hb6, rfl⟩
  case o6 =>
    intro a' w' hB hL hA
    refine up_yes rfl ?_
    have s8 := like_at hL 8 (by rfl) rfl
    obtain ⟨p0, p1, p2, p3, p4, p5, p6, p7, p8, p9⟩ := ten_cells (row_up HR8.out hB)
    go_simp
    exact ⟨_, rfl, Below.refl _ _, (exAt_leaf (fun _ => True) w' 10 a noUseI)⟩
  case o7 =>
    intro a' w' hB hL hA
    refine up_yes rfl ?_
    have s9 := like_at hL 9 (by rfl) rfl
    obtain ⟨p0, p1, p2, p3, p4, p5, p6, p7, p8, p9⟩ := ten_cells (row_up HR9.out hB)
    go_simp
    exact ⟨_, rfl, Below.refl _ _, (exAt_leaf (fun _ => True) w' 10 b noUseI)⟩
  case o8 =>
    intro a' w' hB hL hA
    refine up_yes rfl ?_
    obtain ⟨v6, e6, h6⟩ := up_pre hA 6 (by rfl)
    have e6 : a'.tmps[37]? = some _ := e6
    have h6 : ExAt (fun _ => True) w' (.mk 10 a noUseI []) v6 := h6
    obtain ⟨k6, t6, u6, a6, n6, c6, rfl⟩ := h6.ten
    obtain ⟨v7, e7, h7⟩ := up_pre hA 7 (by rfl)
    have e7 : a'.tmps[38]? = some _ := e7
    have h7 : ExAt (fun _ => True) w' (.mk 10 b noUseI []) v7 := h7
    obtain ⟨k7, t7, u7, a7, n7, c7, rfl⟩ := h7.ten
    go_simp
    exact ⟨_, rfl, (Below.refl _ _).alloc (Nat.le_refl _) _, kids_of (exAt_two (A := fun _ => True) 3 h6 h7 trivial)⟩
  case o9 =>
    intro a' w' hB hL hA
    refine up_yes rfl ?_
    obtain ⟨v8, e8, h8⟩ := up_pre hA 8 (by rfl)
    have e8 : a'.tmps[39]? = some _ := e8
    have h8 : KidsAt (fun _ => True) w' [(.mk 10 a noUseI []), (.mk 10 b noUseI [])] v8 := h8
    obtain ⟨a8, c8, rfl⟩ := kids_slice h8
    go_simp
    refine (law28_of 4 a8 2 c8 w').mono ?_
    rintro e w6 ⟨rfl, hb6⟩
    exact ⟨_, rfl, hb6, exAt_iff.2 ⟨_, rfl, kids_nextA h8 hb6⟩⟩
  case o10 =>
    intro a' w' hB hL hA
    refine up_yes rfl ?_
    have s7 := like_at hL 7 (by rfl) rfl
    obtain ⟨c0, c1, c2⟩ := row_three (row_up HR7.out hB)
    go_simp
    exact ⟨_, rfl, Below.refl _ _, rfl⟩
  case o11 =>
    intro a' w' hB hL hA
    refine up_yes rfl ?_
    obtain ⟨v9, e9, h9⟩ := up_pre hA 9 (by rfl)
    have e9 : a'.tmps[40]? = some _ := e9
    have h9 : ExAt (fun _ => True) w' (twoE 4 (.mk 10 a noUseI []) (.mk 10 b noUseI [])) v9 := h9
    obtain ⟨v10, e10, rfl⟩ := up_pre hA 10 (by rfl)
    have e10 : a'.tmps[41]? = some _ := e10
    go_simp
    refine (is28 _ _ HI4.out _ va vc w' (HG.out.next hB) h9 (HF.out.below hB) (HW1.out _)).mono ?_
    rintro e w6 ⟨rfl, hb6⟩
    exact ⟨_, rfl, hb6, rfl⟩
  case o12 =>
    intro a' w' hB hL hA
    refine up_yes rfl ?_
    have s8 := like_at hL 8 (by rfl) rfl
    obtain ⟨p0, p1, p2, p3, p4, p5, p6, p7, p8, p9⟩ := ten_cells (row_up HR8.out hB)
    go_simp
    exact ⟨_, rfl, Below.refl _ _, (exAt_leaf (fun _ => True) w' 10 a noUseI)⟩
  case o13 =>
    intro a' w' hB hL hA
    refine up_yes rfl ?_
    have s9 := like_at hL 9 (by rfl) rfl
    obtain ⟨p0, p1, p2, p3, p4, p5, p6, p7, p8, p9⟩ := ten_cells (row_up HR9.out hB)
    go_simp
    exact ⟨_, rfl, Below.refl _ _, (exAt_leaf (fun _ => True) w' 10 b noUseI)⟩
  case o14 =>
    intro a' w' hB hL hA
    refine up_yes rfl ?_
    obtain ⟨v12, e12, h12⟩ := up_pre hA 12 (by rfl)
    have e12 : a'.tmps[43]? = some _ := e12
    have h12 : ExAt (fun _ => True) w' (.mk 10 a noUseI []) v12 := h12
    obtain ⟨k12, t12, u12, a12, n12, c12, rfl⟩ := h12.ten
    obtain ⟨v13, e13, h13⟩ := up_pre hA 13 (by rfl)
    have e13 : a'.tmps[44]? = some _ := e13
    have h13 : ExAt (fun _ => True) w' (.mk 10 b noUseI []) v13 := h13
    obtain ⟨k13, t13, u13, a13, n13, c13, rfl⟩ := h13.ten
    go_simp
    exact ⟨_, rfl, (Below.refl _ _).alloc (Nat.le_refl _) _, kids_of (exAt_two (A := fun _ => True) 3 h12 h13 trivial)⟩
  case o15 =>
    intro a' w' hB hL hA
    refine up_yes rfl ?_
    obtain ⟨v14, e14, h14⟩ := up_pre hA 14 (by rfl)
    have e14 : a'.tmps[45]? = some _ := e14
    have h14 : KidsAt (fun _ => True) w' [(.mk 10 a noUseI []), (.mk 10 b noUseI [])] v14 := h14
    obtain ⟨a14, c14, rfl⟩ := kids_slice h14
    go_simp
    refine (law28_of 8 a14 2 c14 w').mono ?_
    rintro e w6 ⟨rfl, hb6⟩
    exact ⟨_, rfl, hb6, exAt_iff.2 ⟨_, rfl, kids_nextA h14 hb6⟩⟩
  case o16 =>
    intro a' w' hB hL hA
    refine up_yes rfl ?_
    have s7 := like_at hL 7 (by rfl) rfl
    obtain ⟨c0, c1, c2⟩ := row_three (row_up HR7.out hB)
    go_simp
    exact ⟨_, rfl, Below.refl _ _, rfl⟩
  case o17 =>
    intro a' w' hB hL hA
    refine up_yes rfl ?_
    obtain ⟨v15, e15, h15⟩ := up_pre hA 15 (by rfl)
    have e15 : a'.tmps[46]? = some _ := e15
    have h15 : ExAt (fun _ => True) w' (twoE 8 (.mk 10 a noUseI []) (.mk 10 b noUseI [])) v15 := h15
    obtain ⟨v16, e16, rfl⟩ := up_pre hA 16 (by rfl)
    have e16 : a'.tmps[47]? = some _ := e16
    go_simp
    refine (is28 _ _ HI8.out _ va vc w' (HG.out.next hB) h15 (HF.out.below hB) (HW1.out _)).mono ?_
    rintro e w6 ⟨rfl, hb6⟩
    exact ⟨_, rfl, hb6, rfl⟩
  case o18 =>
    intro a' w' hB hL hA
    refine up_yes rfl ?_
    obtain ⟨v5, e5, rfl⟩ := up_pre hA 5 (by rfl)
    have e5 : a'.tmps[36]? = some _ := e5
    go_simp
    exact ⟨_, rfl, Below.refl _ _, rfl⟩
  case o19 =>
    intro a' w' hB hL hA
    refine up_yes rfl ?_
    obtain ⟨v11, e11, rfl⟩ := up_pre hA 11 (by rfl)
    have e11 : a'.tmps[42]? = some _ := e11
    go_simp
    exact ⟨_, rfl, Below.refl _ _, rfl⟩
  case o20 =>
    intro a' w' hB hL hA
    refine up_yes rfl ?_
    obtain ⟨v17, e17, rfl⟩ := up_pre hA 17 (by rfl)
    have e17 : a'.tmps[48]? = some _ := e17
    go_simp
    exact ⟨_, rfl, Below.refl _ _, rfl⟩
  intro f wr hB hf
  have f18 : f 18 = _ := hf 18 _ rfl
  have f19 : f 19 = _ := hf 19 _ rfl
  have f20 : f 20 = _ := hf 20 _ rfl
  have HBq := Lib.hid (HB.out.trans (hB.mono HB.out.size))
  have HGq := Lib.hid (HG.out.next hB)
  have HFq := Lib.hid (HF.out.below hB)
  have HR7q := Lib.hid (row_up HR7.out hB)
  have HR8q := Lib.hid (row_up HR8.out hB)
  have HR9q := Lib.hid (row_up HR9.out hB)
  clear hB hf HB HG HF HR7 HR8 HR9
  obtain ⟨HB, HG, HF, HR7, HR8, HR9⟩ := And.intro HBq (And.intro HGq (And.intro HFq (And.intro HR7q (And.intro HR8q HR9q))))
  clear HBq HGq HFq HR7q HR8q HR9q
  simp only [List.take_succ_cons, List.take_zero, List.drop_succ_cons, List.drop_nil, putFn, Act.put, tailWp]
  rw [f18, f19, f20]
  clear f18 f19 f20
  go_simp
  go_upto_region 6 with fail
  go_cut [73] (fun t wx => t = .bool false ∧ wr = wx)
  case first =>
    rcases HONE.out with ⟨rfl, rfl, rfl⟩ | ⟨rfl, rfl, rfl⟩ | ⟨rfl, rfl, rfl⟩
    all_goals
      go_wp2_with fail
      go_meet
      exact ⟨rfl, rfl⟩
  case rest =>
  obtain ⟨rfl, rfl⟩ := hcut
  go_upto_region 8 with fail
  refine wp_region_tail 50 [upTree (.mk 10 a noUseI []), upTree (.mk 10 b noUseI []), upKids [(.mk 10 a noUseI []), (.mk 10 b noUseI [])], upTree (twoE 7 (.mk 10 a noUseI []) (.mk 10 b noUseI [])), UpP.is (.agg #[.string ⟨#[104]⟩, .string ⟨#[47]⟩, .slice va 0 vc]), UpP.is (.bool (!g)), UpP.is (.bool g), UpP.is (.bool (!g)), UpP.is (.bool false), UpP.is (.bool false), upTree (.mk 10 a noUseI []), upTree (.mk 10 b noUseI []), upKids [(.mk 10 a noUseI []), (.mk 10 b noUseI [])], upTree (twoE 9 (.mk 10 a noUseI []) (.mk 10 b noUseI [])), UpP.is (.agg #[.string ⟨#[104]⟩, .string ⟨#[47]⟩, .slice va 0 vc]), UpP.is (.bool (!l)), UpP.is (.bool l), UpP.is (.bool (!l)), UpP.is (.bool false), UpP.is (.bool false), UpP.is (.bool false), upTree (.mk 10 a noUseI []), upTree (.mk 10 b noUseI []), upKids [(.mk 10 a noUseI []), (.mk 10 b noUseI [])], upTree (twoE 5 (.mk 10 a noUseI []) (.mk 10 b noUseI [])), UpP.is (.agg #[.string ⟨#[104]⟩, .string ⟨#[47]⟩, .slice va 0 vc]), UpP.is (.bool (!s)), UpP.is (.bool s), UpP.is (.bool false), UpP.is (.bool false), UpP.is (.bool false), upTree (.mk 10 b noUseI []), upTree (.mk 10 a noUseI []), upKids [(.mk 10 b noUseI []), (.mk 10 a noUseI [])], upTree (twoE 8 (.mk 10 b noUseI []) (.mk 10 a noUseI [])), UpP.is (.agg #[.string ⟨#[104]⟩, .string ⟨#[47]⟩, .slice va 0 vc]), UpP.is (.bool l), UpP.is (.bool l), UpP.is (.bool false), UpP.is (.bool false), UpP.is (.bool false), upTree (.mk 10 b noUseI []), upTree (.mk 10 a noUseI []), upKids [(.mk 10 b noUseI []), (.mk 10 a noUseI [])], upTree (twoE 4 (.mk 10 b noUseI []) (.mk 10 a noUseI [])), UpP.is (.agg #[.string ⟨#[104]⟩, .string ⟨#[47]⟩, .slice va 0 vc]), UpP.is (.bool s), UpP.is (.bool s), UpP.is (.bool false), UpP.is (.bool false)] (by kernel_rfl) (by rfl) (by rfl) (by rfl) (by rfl) ⟨?o0, ?o1, ?o2, ?o3, ?o4, ?o5, ?o6, ?o7, ?o8, ?o9, ?o10, ?o11, ?o12, ?o13, ?o14, ?o15, ?o16, ?o17, ?o18, ?o19, ?o20, ?o21, ?o22, ?o23, ?o24, ?o25, ?o26, ?o27, ?o28, ?o29, ?o30, ?o31, ?o32, ?o33, ?o34, ?o35, ?o36, ?o37, ?o38, ?o39, ?o40, ?o41, ?o42, ?o43, ?o44, ?o45, ?o46, ?o47, ?o48, ?o49, trivial⟩ ?_
  case o0 =>
    intro a' w' hB hL hA
    refine up_yes rfl ?_
    have s8 := like_at hL 8 (by rfl) rfl
    obtain ⟨p0, p1, p2, p3, p4, p5, p6, p7, p8, p9⟩ := ten_cells (row_up HR8.out hB)
    go_simp
    exact ⟨_, rfl, Below.refl _ _, (exAt_leaf (fun _ => True) w' 10 a noUseI)⟩
  case o1 =>
    intro a' w' hB hL hA
    refine up_yes rfl ?_
    have s9 := like_at hL 9 (by rfl) rfl
    obtain ⟨p0, p1, p2, p3, p4, p5, p6, p7, p8, p9⟩ := ten_cells (row_up HR9.out hB)
    go_simp
    exact ⟨_, rfl, Below.refl _ _, (exAt_leaf (fun _ => True) w' 10 b noUseI)⟩
  case o2 =>
    intro a' w' hB hL hA
    refine up_yes rfl ?_
    obtain ⟨v0, e0, h0⟩ := up_pre hA 0 (by rfl)
    have e0 : a'.tmps[74]? = some _ := e0
    have h0 : ExAt (fun _ => True) w' (.mk 10 a noUseI []) v0 := h0
    obtain ⟨k0, t0, u0, a0, n0, c0, rfl⟩ := h0.ten
    obtain ⟨v1, e1, h1⟩ := up_pre hA 1 (by rfl)
    have e1 : a'.tmps[75]? = some _ := e1
    have h1 : ExAt (fun _ => True) w' (.mk 10 b noUseI []) v1 := h1
    obtain ⟨k1, t1, u1, a1, n1, c1, rfl⟩ := h1.ten
    go_simp
    exact ⟨_, rfl, (Below.refl _ _).alloc (Nat.le_refl _) _, kids_of (exAt_two (A := fun _ => True) 3 h0 h1 trivial)⟩
  case o3 =>
    intro a' w' hB hL hA
    refine up_yes rfl ?_
    obtain ⟨v2, e2, h2⟩ := up_pre hA 2 (by rfl)
    have e2 : a'.tmps[76]? = some _ := e2
    have h2 : KidsAt (fun _ => True) w' [(.mk 10 a noUseI []), (.mk 10 b noUseI [])] v2 := h2
    obtain ⟨a2, c2, rfl⟩ := kids_slice h2
    go_simp
    refine (law28_of 7 a2 2 c2 w').mono ?_
    rintro e w6 ⟨rfl, hb6⟩
    exact ⟨_, rfl, hb6, exAt_iff.2 ⟨_, rfl, kids_nextA h2 hb6⟩⟩
  case o4 =>
    intro a' w' hB hL hA
    refine up_yes rfl ?_
    have s7 := like_at hL 7 (by rfl) rfl
    obtain ⟨c0, c1, c2⟩ := row_three (row_up HR7.out hB)
    go_simp
    exact ⟨_, rfl, Below.refl _ _, rfl⟩
  case o5 =>
    intro a' w' hB hL hA
    refine up_yes rfl ?_
    obtain ⟨v3, e3, h3⟩ := up_pre hA 3 (by rfl)
    have e3 : a'.tmps[77]? = some _ := e3
    have h3 : ExAt (fun _ => True) w' (twoE 7 (.mk 10 a noUseI []) (.mk 10 b noUseI [])) v3 := h3
    obtain ⟨v4, e4, rfl⟩ := up_pre hA 4 (by rfl)
    have e4 : a'.tmps[78]? = some _ := e4
    go_simp
    refine (is28 _ _ HI7.out _ va vc w' (HG.out.next hB) h3 (HF.out.below hB) (HW1.out _)).mono ?_
    rintro e w6 ⟨rfl, hb6⟩
    exact ⟨_, rfl, hb6, rfl⟩
  case o6 =>
    intro a' w' hB hL hA
    refine up_yes rfl ?_
    have s12 := like_at hL 12 (by rfl) rfl
    go_simp
    exact ⟨_, rfl, Below.refl _ _, rfl⟩
  case o7 =>
    intro a' w' hB hL hA
    refine up_yes rfl ?_
    obtain ⟨v6, e6, rfl⟩ := up_pre hA 6 (by rfl)
    have e6 : a'.tmps[80]? = some _ := e6
    go_simp
    exact ⟨_, rfl, Below.refl _ _, rfl⟩
  case o8 =>
    intro a' w' hB hL hA
    refine up_yes rfl ?_
    obtain ⟨v5, e5, rfl⟩ := up_pre hA 5 (by rfl)
    have e5 : a'.tmps[79]? = some _ := e5
    obtain ⟨v7, e7, rfl⟩ := up_pre hA 7 (by rfl)
    have e7 : a'.tmps[81]? = some _ := e7
    go_simp
    exact ⟨_, rfl, Below.refl _ _, rfl⟩
  case o9 =>
    intro a' w' hB hL hA
    refine up_yes rfl ?_
    obtain ⟨v8, e8, rfl⟩ := up_pre hA 8 (by rfl)
    have e8 : a'.tmps[82]? = some _ := e8
    go_simp
    exact ⟨_, rfl, Below.refl _ _, rfl⟩
  case o10 =>
    intro a' w' hB hL hA
    obtain ⟨g0, ge, rfl⟩ := up_pre hA 9 (by rfl)
    have ge : a'.tmps[83]? = some _ := ge
    refine up_if rfl (up_yield rfl ge) ?_
    have s8 := like_at hL 8 (by rfl) rfl
    obtain ⟨p0, p1, p2, p3, p4, p5, p6, p7, p8, p9⟩ := ten_cells (row_up HR8.out hB)
    go_simp
    exact ⟨_, rfl, Below.refl _ _, (exAt_leaf (fun _ => True) w' 10 a noUseI)⟩
  case o11 =>
    intro a' w' hB hL hA
    obtain ⟨g0, ge, rfl⟩ := up_pre hA 9 (by rfl)
    have ge : a'.tmps[83]? = some _ := ge
    refine up_if rfl (up_yield rfl ge) ?_
    have s9 := like_at hL 9 (by rfl) rfl
    obtain ⟨p0, p1, p2, p3, p4, p5, p6, p7, p8, p9⟩ := ten_cells (row_up HR9.out hB)
    go_simp
    exact ⟨_, rfl, Below.refl _ _, (exAt_leaf (fun _ => True) w' 10 b noUseI)⟩
  case o12 =>
    intro a' w' hB hL hA
    obtain ⟨g0, ge, rfl⟩ := up_pre hA 9 (by rfl)
    have ge : a'.tmps[83]? = some _ := ge
    refine up_if rfl (up_yield rfl ge) ?_
    obtain ⟨v10, e10, h10⟩ := up_pre hA 10 (by rfl)
    have e10 : a'.tmps[84]? = some _ := e10
    have h10 : ExAt (fun _ => True) w' (.mk 10 a noUseI []) v10 := h10
    obtain ⟨k10, t10, u10, a10, n10, c10, rfl⟩ := h10.ten
    obtain ⟨v11, e11, h11⟩ := up_pre hA 11 (by rfl)
    have e11 : a'.tmps[85]? = some _ := e11
    have h11 : ExAt (fun _ => True) w' (.mk 10 b noUseI []) v11 := h11
    obtain ⟨k11, t11, u11, a11, n11, c11, rfl⟩ := h11.ten
    go_simp
    exact ⟨_, rfl, (Below.refl _ _).alloc (Nat.le_refl _) _, kids_of (exAt_two (A := fun _ => True) 3 h10 h11 trivial)⟩
  case o13 =>
    intro a' w' hB hL hA
    obtain ⟨g0, ge, rfl⟩ := up_pre hA 9 (by rfl)
    have ge : a'.tmps[83]? = some _ := ge
    refine up_if rfl (up_yield rfl ge) ?_
    obtain ⟨v12, e12, h12⟩ := up_pre hA 12 (by rfl)
    have e12 : a'.tmps[86]? = some _ := e12
    have h12 : KidsAt (fun _ => True) w' [(.mk 10 a noUseI []), (.mk 10 b noUseI [])] v12 := h12
    obtain ⟨a12, c12, rfl⟩ := kids_slice h12
    go_simp
    refine (law28_of 9 a12 2 c12 w').mono ?_
    rintro e w6 ⟨rfl, hb6⟩
    exact ⟨_, rfl, hb6, exAt_iff.2 ⟨_, rfl, kids_nextA h12 hb6⟩⟩
  case o14 =>
    intro a' w' hB hL hA
    obtain ⟨g0, ge, rfl⟩ := up_pre hA 9 (by rfl)
    have ge : a'.tmps[83]? = some _ := ge
    refine up_if rfl (up_yield rfl ge) ?_
    have s7 := like_at hL 7 (by rfl) rfl
    obtain ⟨c0, c1, c2⟩ := row_three (row_up HR7.out hB)
    go_simp
    exact ⟨_, rfl, Below.refl _ _, rfl⟩
  case o15 =>
    intro a' w' hB hL hA
    obtain ⟨g0, ge, rfl⟩ := up_pre hA 9 (by rfl)
    have ge : a'.tmps[83]? = some _ := ge
    refine up_if rfl (up_yield rfl ge) ?_
    obtain ⟨v13, e13, h13⟩ := up_pre hA 13 (by rfl)
    have e13 : a'.tmps[87]? = some _ := e13
    have h13 : ExAt (fun _ => True) w' (twoE 9 (.mk 10 a noUseI []) (.mk 10 b noUseI [])) v13 := h13
    obtain ⟨v14, e14, rfl⟩ := up_pre hA 14 (by rfl)
    have e14 : a'.tmps[88]? = some _ := e14
    go_simp
    refine (is28 _ _ HI9.out _ va vc w' (HG.out.next hB) h13 (HF.out.below hB) (HW1.out _)).mono ?_
    rintro e w6 ⟨rfl, hb6⟩
    exact ⟨_, rfl, hb6, rfl⟩
  case o16 =>
    intro a' w' hB hL hA
    obtain ⟨g0, ge, rfl⟩ := up_pre hA 9 (by rfl)
    have ge : a'.tmps[83]? = some _ := ge
    refine up_if rfl (up_yield rfl ge) ?_
    have s10 := like_at hL 10 (by rfl) rfl
    go_simp
    exact ⟨_, rfl, Below.refl _ _, rfl⟩
  case o17 =>
    intro a' w' hB hL hA
    obtain ⟨g0, ge, rfl⟩ := up_pre hA 9 (by rfl)
    have ge : a'.tmps[83]? = some _ := ge
    refine up_if rfl (up_yield rfl ge) ?_
    obtain ⟨v16, e16, rfl⟩ := up_pre hA 16 (by rfl)
    have e16 : a'.tmps[90]? = some _ := e16
    go_simp
    exact ⟨_, rfl, Below.refl _ _, rfl⟩
  case o18 =>
    intro a' w' hB hL hA
    obtain ⟨g0, ge, rfl⟩ := up_pre hA 9 (by rfl)
    have ge : a'.tmps[83]? = some _ := ge
    refine up_if rfl (up_yield rfl ge) ?_
    obtain ⟨v15, e15, rfl⟩ := up_pre hA 15 (by rfl)
    have e15 : a'.tmps[89]? = some _ := e15
    obtain ⟨v17, e17, rfl⟩ := up_pre hA 17 (by rfl)
    have e17 : a'.tmps[91]? = some _ := e17
    go_simp
    exact ⟨_, rfl, Below.refl _ _, rfl⟩
  case o19 =>
    intro a' w' hB hL hA
    refine up_yes rfl ?_
    obtain ⟨v9, e9, rfl⟩ := up_pre hA 9 (by rfl)
    have e9 : a'.tmps[83]? = some _ := e9
    obtain ⟨v18, e18, rfl⟩ := up_pre hA 18 (by rfl)
    have e18 : a'.tmps[92]? = some _ := e18
    go_simp
    exact ⟨_, rfl, Below.refl _ _, rfl⟩
  case o20 =>
    intro a' w' hB hL hA
    refine up_yes rfl ?_
    obtain ⟨v19, e19, rfl⟩ := up_pre hA 19 (by rfl)
    have e19 : a'.tmps[93]? = some _ := e19
    go_simp
    exact ⟨_, rfl, Below.refl _ _, rfl⟩
  case o21 =>
    intro a' w' hB hL hA
    obtain ⟨g0, ge, rfl⟩ := up_pre hA 20 (by rfl)
    have ge : a'.tmps[94]? = some _ := ge
    refine up_if rfl (up_yield rfl ge) ?_
    have s8 := like_at hL 8 (by rfl) rfl
    obtain ⟨p0, p1, p2, p3, p4, p5, p6, p7, p8, p9⟩ := ten_cells (row_up HR8.out hB)
    go_simp
    exact ⟨_, rfl, Below.refl _ _, (exAt_leaf (fun _ => True) w' 10 a noUseI)⟩
  case o22 =>
    intro a' w' hB hL hA
    obtain ⟨g0, ge, rfl⟩ := up_pre hA 20 (by rfl)
    have ge : a'.tmps[94]? = some _ := ge
    refine up_if rfl (up_yield rfl ge) ?_
    have s9 := like_at hL 9 (by rfl) rfl
    obtain ⟨p0, p1, p2, p3, p4, p5, p6, p7, p8, p9⟩ := ten_cells (row_up HR9.out hB)
    go_simp
    exact ⟨_, rfl, Below.refl _ _, (exAt_leaf (fun _ => True) w' 10 b noUseI)⟩
  case o23 =>
    intro a' w' hB hL hA
    obtain ⟨g0, ge, rfl⟩ := up_pre hA 20 (by rfl)
    have ge : a'.tmps[94]? = some _ := ge
    refine up_if rfl (up_yield rfl ge) ?_
    obtain ⟨v21, e21, h21⟩ := up_pre hA 21 (by rfl)
    have e21 : a'.tmps[95]? = some _ := e21
    have h21 : ExAt (fun _ => True) w' (.mk 10 a noUseI []) v21 := h21
    obtain ⟨k21, t21, u21, a21, n21, c21, rfl⟩ := h21.ten
    obtain ⟨v22, e22, h22⟩ := up_pre hA 22 (by rfl)
    have e22 : a'.tmps[96]? = some _ := e22
    have h22 : ExAt (fun _ => True) w' (.mk 10 b noUseI []) v22 := h22
    obtain ⟨k22, t22, u22, a22, n22, c22, rfl⟩ := h22.ten
    go_simp
    exact ⟨_, rfl, (Below.refl _ _).alloc (Nat.le_refl _) _, kids_of (exAt_two (A := fun _ => True) 3 h21 h22 trivial)⟩
  case o24 =>
    intro a' w' hB hL hA
    obtain ⟨g0, ge, rfl⟩ := up_pre hA 20 (by rfl)
    have ge : a'.tmps[94]? = some _ := ge
    refine up_if rfl (up_yield rfl ge) ?_
    obtain ⟨v23, e23, h23⟩ := up_pre hA 23 (by rfl)
    have e23 : a'.tmps[97]? = some _ := e23
    have h23 : KidsAt (fun _ => True) w' [(.mk 10 a noUseI []), (.mk 10 b noUseI [])] v23 := h23
    obtain ⟨a23, c23, rfl⟩ := kids_slice h23
    go_simp
    refine (law28_of 5 a23 2 c23 w').mono ?_
    rintro e w6 ⟨rfl, hb6⟩
    exact ⟨_, rfl, hb6, exAt_iff.2 ⟨_, rfl, kids_nextA h23 hb6⟩⟩
  case o25 =>
    intro a' w' hB hL hA
    obtain ⟨g0, ge, rfl⟩ := up_pre hA 20 (by rfl)
    have ge : a'.tmps[94]? = some _ := ge
    refine up_if rfl (up_yield rfl ge) ?_
    have s7 := like_at hL 7 (by rfl) rfl
    obtain ⟨c0, c1, c2⟩ := row_three (row_up HR7.out hB)
    go_simp
    exact ⟨_, rfl, Below.refl _ _, rfl⟩
  case o26 =>
    intro a' w' hB hL hA
    obtain ⟨g0, ge, rfl⟩ := up_pre hA 20 (by rfl)
    have ge : a'.tmps[94]? = some _ := ge
    refine up_if rfl (up_yield rfl ge) ?_
    obtain ⟨v24, e24, h24⟩ := up_pre hA 24 (by rfl)
    have e24 : a'.tmps[98]? = some _ := e24
    have h24 : ExAt (fun _ => True) w' (twoE 5 (.mk 10 a noUseI []) (.mk 10 b noUseI [])) v24 := h24
    obtain ⟨v25, e25, rfl⟩ := up_pre hA 25 (by rfl)
    have e25 : a'.tmps[99]? = some _ := e25
    go_simp
    refine (is28 _ _ HI5.out _ va vc w' (HG.out.next hB) h24 (HF.out.below hB) (HW1.out _)).mono ?_
    rintro e w6 ⟨rfl, hb6⟩
    exact ⟨_, rfl, hb6, rfl⟩
  case o27 =>
    intro a' w' hB hL hA
    obtain ⟨g0, ge, rfl⟩ := up_pre hA 20 (by rfl)
    have ge : a'.tmps[94]? = some _ := ge
    refine up_if rfl (up_yield rfl ge) ?_
    have s11 := like_at hL 11 (by rfl) rfl
    go_simp
    exact ⟨_, rfl, Below.refl _ _, rfl⟩
  case o28 =>
    intro a' w' hB hL hA
    obtain ⟨g0, ge, rfl⟩ := up_pre hA 20 (by rfl)
    have ge : a'.tmps[94]? = some _ := ge
    refine up_if rfl (up_yield rfl ge) ?_
    obtain ⟨v26, e26, rfl⟩ := up_pre hA 26 (by rfl)
    have e26 : a'.tmps[100]? = some _ := e26
    obtain ⟨v27, e27, rfl⟩ := up_pre hA 27 (by rfl)
    have e27 : a'.tmps[101]? = some _ := e27
    go_simp
    exact ⟨_, rfl, Below.refl _ _, rfl⟩
  case o29 =>
    intro a' w' hB hL hA
    refine up_yes rfl ?_
    obtain ⟨v20, e20, rfl⟩ := up_pre hA 20 (by rfl)
    have e20 : a'.tmps[94]? = some _ := e20
    obtain ⟨v28, e28, rfl⟩ := up_pre hA 28 (by rfl)
    have e28 : a'.tmps[102]? = some _ := e28
    go_simp
    exact ⟨_, rfl, Below.refl _ _, rfl⟩
  case o30 =>
    intro a' w' hB hL hA
    refine up_yes rfl ?_
    obtain ⟨v29, e29, rfl⟩ := up_pre hA 29 (by rfl)
    have e29 : a'.tmps[103]? = some _ := e29
    go_simp
    exact ⟨_, rfl, Below.refl _ _, rfl⟩
  case o31 =>
    intro a' w' hB hL hA
    obtain ⟨g0, ge, rfl⟩ := up_pre hA 30 (by rfl)
    have ge : a'.tmps[104]? = some _ := ge
    refine up_if rfl (up_yield rfl ge) ?_
    have s9 := like_at hL 9 (by rfl) rfl
    obtain ⟨p0, p1, p2, p3, p4, p5, p6, p7, p8, p9⟩ := ten_cells (row_up HR9.out hB)
    go_simp
    exact ⟨_, rfl, Below.refl _ _, (exAt_leaf (fun _ => True) w' 10 b noUseI)⟩
  case o32 =>
    intro a' w' hB hL hA
    obtain ⟨g0, ge, rfl⟩ := up_pre hA 30 (by rfl)
    have ge : a'.tmps[104]? = some _ := ge
    refine up_if rfl (up_yield rfl ge) ?_
    have s8 := like_at hL 8 (by rfl) rfl
    obtain ⟨p0, p1, p2, p3, p4, p5, p6, p7, p8, p9⟩ := ten_cells (row_up HR8.out hB)
    go_simp
    exact ⟨_, rfl, Below.refl _ _, (exAt_leaf (fun _ => True) w' 10 a noUseI)⟩
  case o33 =>
    intro a' w' hB hL hA
    obtain ⟨g0, ge, rfl⟩ := up_pre hA 30 (by rfl)
    have ge : a'.tmps[104]? = some _ := ge
    refine up_if rfl (up_yield rfl ge) ?_
    obtain ⟨v31, e31, h31⟩ := up_pre hA 31 (by rfl)
    have e31 : a'.tmps[105]? = some _ := e31
    have h31 : ExAt (fun _ => True) w' (.mk 10 b noUseI []) v31 := h31
    obtain ⟨k31, t31, u31, a31, n31, c31, rfl⟩ := h31.ten
    obtain ⟨v32, e32, h32⟩ := up_pre hA 32 (by rfl)
    have e32 : a'.tmps[106]? = some _ := e32
    have h32 : ExAt (fun _ => True) w' (.mk 10 a noUseI []) v32 := h32
    obtain ⟨k32, t32, u32, a32, n32, c32, rfl⟩ := h32.ten
    go_simp
    exact ⟨_, rfl, (Below.refl _ _).alloc (Nat.le_refl _) _, kids_of (exAt_two (A := fun _ => True) 3 h31 h32 trivial)⟩
  case o34 =>
    intro a' w' hB hL hA
    obtain ⟨g0, ge, rfl⟩ := up_pre hA 30 (by rfl)
    have ge : a'.tmps[104]? = some _ := ge
    refine up_if rfl (up_yield rfl ge) ?_
    obtain ⟨v33, e33, h33⟩ := up_pre hA 33 (by rfl)
    have e33 : a'.tmps[107]? = some _ := e33
    have h33 : KidsAt (fun _ => True) w' [(.mk 10 b noUseI []), (.mk 10 a noUseI [])] v33 := h33
    obtain ⟨a33, c33, rfl⟩ := kids_slice h33
    go_simp
    refine (law28_of 8 a33 2 c33 w').mono ?_
    rintro e w6 ⟨rfl, hb6⟩
    exact ⟨_, rfl, hb6, exAt_iff.2 ⟨_, rfl, kids_nextA h33 hb6⟩⟩
  case o35 =>
    intro a' w' hB hL hA
    obtain ⟨g0, ge, rfl⟩ := up_pre hA 30 (by rfl)
    have ge : a'.tmps[104]? = some _ := ge
    refine up_if rfl (up_yield rfl ge) ?_
    have s7 := like_at hL 7 (by rfl) rfl
    obtain ⟨c0, c1, c2⟩ := row_three (row_up HR7.out hB)
    go_simp
    exact ⟨_, rfl, Below.refl _ _, rfl⟩
  case o36 =>
    intro a' w' hB hL hA
    obtain ⟨g0, ge, rfl⟩ := up_pre hA 30 (by rfl)
    have ge : a'.tmps[104]? = some _ := ge
    refine up_if rfl (up_yield rfl ge) ?_
    obtain ⟨v34, e34, h34⟩ := up_pre hA 34 (by rfl)
    have e34 : a'.tmps[108]? = some _ := e34
    have h34 : ExAt (fun _ => True) w' (twoE 8 (.mk 10 b noUseI []) (.mk 10 a noUseI [])) v34 := h34
    obtain ⟨v35, e35, rfl⟩ := up_pre hA 35 (by rfl)
    have e35 : a'.tmps[109]? = some _ := e35
    go_simp
    refine (is28 _ _ HJ8.out _ va vc w' (HG.out.next hB) h34 (HF.out.below hB) (HW2.out _)).mono ?_
    rintro e w6 ⟨rfl, hb6⟩
    exact ⟨_, rfl, hb6, rfl⟩
  case o37 =>
    intro a' w' hB hL hA
    obtain ⟨g0, ge, rfl⟩ := up_pre hA 30 (by rfl)
    have ge : a'.tmps[104]? = some _ := ge
    refine up_if rfl (up_yield rfl ge) ?_
    have s10 := like_at hL 10 (by rfl) rfl
    go_simp
    exact ⟨_, rfl, Below.refl _ _, rfl⟩
  case o38 =>
    intro a' w' hB hL hA
    obtain ⟨g0, ge, rfl⟩ := up_pre hA 30 (by rfl)
    have ge : a'.tmps[104]? = some _ := ge
    refine up_if rfl (up_yield rfl ge) ?_
    obtain ⟨v36, e36, rfl⟩ := up_pre hA 36 (by rfl)
    have e36 : a'.tmps[110]? = some _ := e36
    obtain ⟨v37, e37, rfl⟩ := up_pre hA 37 (by rfl)
    have e37 : a'.tmps[111]? = some _ := e37
    go_simp
    exact ⟨_, rfl, Below.refl _ _, rfl⟩
  case o39 =>
    intro a' w' hB hL hA
    refine up_yes rfl ?_
    obtain ⟨v30, e30, rfl⟩ := up_pre hA 30 (by rfl)
    have e30 : a'.tmps[104]? = some _ := e30
    obtain ⟨v38, e38, rfl⟩ := up_pre hA 38 (by rfl)
    have e38 : a'.tmps[112]? = some _ := e38
    go_simp
    exact ⟨_, rfl, Below.refl _ _, rfl⟩
  case o40 =>
    intro a' w' hB hL hA
    refine up_yes rfl ?_
    obtain ⟨v39, e39, rfl⟩ := up_pre hA 39 (by rfl)
    have e39 : a'.tmps[113]? = some _ := e39
    go_simp
    exact ⟨_, rfl, Below.refl _ _, rfl⟩
  case o41 =>
    intro a' w' hB hL hA
    obtain ⟨g0, ge, rfl⟩ := up_pre hA 40 (by rfl)
    have ge : a'.tmps[114]? = some _ := ge
    refine up_if rfl (up_yield rfl ge) ?_
    have s9 := like_at hL 9 (by rfl) rfl
    obtain ⟨p0, p1, p2, p3, p4, p5, p6, p7, p8, p9⟩ := ten_cells (row_up HR9.out hB)
    go_simp
    exact ⟨_, rfl, Below.refl _ _, (exAt_leaf (fun _ => True) w' 10 b noUseI)⟩
  case o42 =>
    intro a' w' hB hL hA
    obtain ⟨g0, ge, rfl⟩ := up_pre hA 40 (by rfl)
    have ge : a'.tmps[114]? = some _ := ge
    refine up_if rfl (up_yield rfl ge) ?_
    have s8 := like_at hL 8 (by rfl) rfl
    obtain ⟨p0, p1, p2, p3, p4, p5, p6, p7, p8, p9⟩ := ten_cells (row_up HR8.out hB)
    go_simp
    exact ⟨_, rfl, Below.refl _ _, (exAt_leaf (fun _ => True) w' 10 a noUseI)⟩
  case o43 =>
    intro a' w' hB hL hA
    obtain ⟨g0, ge, rfl⟩ := up_pre hA 40 (by rfl)
    have ge : a'.tmps[114]? = some _ := ge
    refine up_if rfl (up_yield rfl ge) ?_
    obtain ⟨v41, e41, h41⟩ := up_pre hA 41 (by rfl)
    have e41 : a'.tmps[115]? = some _ := e41
    have h41 : ExAt (fun _ => True) w' (.mk 10 b noUseI []) v41 := h41
    obtain ⟨k41, t41, u41, a41, n41, c41, rfl⟩ := h41.ten
    obtain ⟨v42, e42, h42⟩ := up_pre hA 42 (by rfl)
    have e42 : a'.tmps[116]? = some _ := e42
    have h42 : ExAt (fun _ => True) w' (.mk 10 a noUseI []) v42 := h42
    obtain ⟨k42, t42, u42, a42, n42, c42, rfl⟩ := h42.ten
    go_simp
    exact ⟨_, rfl, (Below.refl _ _).alloc (Nat.le_refl _) _, kids_of (exAt_two (A := fun _ => True) 3 h41 h42 trivial)⟩
  case o44 =>
    intro a' w' hB hL hA
    obtain ⟨g0, ge, rfl⟩ := up_pre hA 40 (by rfl)
    have ge : a'.tmps[114]? = some _ := ge
    refine up_if rfl (up_yield rfl ge) ?_
    obtain ⟨v43, e43, h43⟩ := up_pre hA 43 (by rfl)
    have e43 : a'.tmps[117]? = some _ := e43
    have h43 : KidsAt (fun _ => True) w' [(.mk 10 b noUseI []), (.mk 10 a noUseI [])] v43 := h43
    obtain ⟨a43, c43, rfl⟩ := kids_slice h43
    go_simp
    refine (law28_of 4 a43 2 c43 w').mono ?_
    rintro e w6 ⟨rfl, hb6⟩
    exact ⟨_, rfl, hb6, exAt_iff.2 ⟨_, rfl, kids_nextA h43 hb6⟩⟩
  case o45 =>
    intro a' w' hB hL hA
    obtain ⟨g0, ge, rfl⟩ := up_pre hA 40 (by rfl)
    have ge : a'.tmps[114]? = some _ := ge
    refine up_if rfl (up_yield rfl ge) ?_
    have s7 := like_at hL 7 (by rfl) rfl
    obtain ⟨c0, c1, c2⟩ := row_three (row_up HR7.out hB)
    go_simp
    exact ⟨_, rfl, Below.refl _ _, rfl⟩
  case o46 =>
    intro a' w' hB hL hA
    obtain ⟨g0, ge, rfl⟩ := up_pre hA 40 (by rfl)
    have ge : a'.tmps[114]? = some _ := ge
    refine up_if rfl (up_yield rfl ge) ?_
    obtain ⟨v44, e44, h44⟩ := up_pre hA 44 (by rfl)
    have e44 : a'.tmps[118]? = some _ := e44
    have h44 : ExAt (fun _ => True) w' (twoE 4 (.mk 10 b noUseI []) (.mk 10 a noUseI [])) v44 := h44
    obtain ⟨v45, e45, rfl⟩ := up_pre hA 45 (by rfl)
    have e45 : a'.tmps[119]? = some _ := e45
    go_simp
    refine (is28 _ _ HJ4.out _ va vc w' (HG.out.next hB) h44 (HF.out.below hB) (HW2.out _)).mono ?_
    rintro e w6 ⟨rfl, hb6⟩
    exact ⟨_, rfl, hb6, rfl⟩
  case o47 =>
    intro a' w' hB hL hA
    obtain ⟨g0, ge, rfl⟩ := up_pre hA 40 (by rfl)
    have ge : a'.tmps[114]? = some _ := ge
    refine up_if rfl (up_yield rfl ge) ?_
    have s11 := like_at hL 11 (by rfl) rfl
    go_simp
    exact ⟨_, rfl, Below.refl _ _, rfl⟩
  case o48 =>
    intro a' w' hB hL hA
    obtain ⟨g0, ge, rfl⟩ := up_pre hA 40 (by rfl)
    have ge : a'.tmps[114]? = some _ := ge
    refine up_if rfl (up_yield rfl ge) ?_
    obtain ⟨v46, e46, rfl⟩ := up_pre hA 46 (by rfl)
    have e46 : a'.tmps[120]? = some _ := e46
    obtain ⟨v47, e47, rfl⟩ := up_pre hA 47 (by rfl)
    have e47 : a'.tmps[121]? = some _ := e47
    go_simp
    exact ⟨_, rfl, Below.refl _ _, rfl⟩
  case o49 =>
    intro a' w' hB hL hA
    refine up_yes rfl ?_
    obtain ⟨v40, e40, rfl⟩ := up_pre hA 40 (by rfl)
    have e40 : a'.tmps[114]? = some _ := e40
    obtain ⟨v48, e48, rfl⟩ := up_pre hA 48 (by rfl)
    have e48 : a'.tmps[122]? = some _ := e48
    go_simp
    exact ⟨_, rfl, Below.refl _ _, rfl⟩
  intro f wr hB hf
  have f49 : f 49 = _ := hf 49 _ rfl
  have HBq := Lib.hid (HB.out.trans (hB.mono HB.out.size))
  have HGq := Lib.hid (HG.out.next hB)
  have HFq := Lib.hid (HF.out.below hB)
  have HR7q := Lib.hid (row_up HR7.out hB)
  have HR8q := Lib.hid (row_up HR8.out hB)
  have HR9q := Lib.hid (row_up HR9.out hB)
  clear hB hf HB HG HF HR7 HR8 HR9
  obtain ⟨HB, HG, HF, HR7, HR8, HR9⟩ := And.intro HBq (And.intro HGq (And.intro HFq (And.intro HR7q (And.intro HR8q HR9q))))
  clear HBq HGq HFq HR7q HR8q HR9q
  simp only [List.take_succ_cons, List.take_zero, List.drop_succ_cons, List.drop_nil, putFn, Act.put, tailWp]
  rw [f49]
  clear f49
  go_simp
  go_upto_region 10 with fail
  go_cut [130] (fun t wx => t = .bool false ∧ wr = wx)
  case first =>
    rcases Decidable.em (a = b) with rfl | hab
    · obtain rfl : s = true := HAB.out rfl
      go_wp2_with fail
      go_meet
      exact ⟨rfl, rfl⟩
    · have q : (a == b) = false := beq_eq_false_iff_ne.2 hab
      clear hab
      go_wp2_with fail
      go_meet
      exact ⟨rfl, rfl⟩
  case rest =>
  obtain ⟨rfl, rfl⟩ := hcut
  have hA : Below wr.heap.size wr (wr.alloc (.cells #[.int .i64 12, .string ⟨#[]⟩, .int .i64 0, .int .i64 0, .string ⟨#[]⟩, .string ⟨#[]⟩, .string ⟨#[]⟩, .bool false, .bool false, .slice none 0 0] 27)) := (Below.refl _ _).alloc (Nat.le_refl _) _
  have HBq := Lib.hid (HB.out.trans (hA.mono HB.out.size))
  have HGq := Lib.hid (HG.out.next hA)
  have HFq := Lib.hid (HF.out.below hA)
  have HR7q := Lib.hid (row_up HR7.out hA)
  have HR8q := Lib.hid (row_up HR8.out hA)
  have HR9q := Lib.hid (row_up HR9.out hA)
  have HR13q := Lib.hid (show (wr.alloc (.cells #[.int .i64 12, .string ⟨#[]⟩, .int .i64 0, .int .i64 0, .string ⟨#[]⟩, .string ⟨#[]⟩, .string ⟨#[]⟩, .bool false, .bool false, .slice none 0 0] 27)).heap[wr.heap.size]? = some (.cells (exL 12 [] noUseI (.slice none 0 0)).toArray 27) from heap_alloc_new _ _)
  clear hA HB HG HF HR7 HR8 HR9
  go_upto_region 14 with fail
  generalize wr.alloc (.cells #[.int .i64 12, .string ⟨#[]⟩, .int .i64 0, .int .i64 0, .string ⟨#[]⟩, .string ⟨#[]⟩, .string ⟨#[]⟩, .bool false, .bool false, .slice none 0 0] 27) = W at *
  generalize wr.heap.size = b13 at *
  go_loopw [14] (fun kv wr => ∃ k : Int, 4 ≤ k ∧ k ≤ 10 ∧ kv = .int .i64 k ∧ Hid (Below W.heap.size W wr)) (fun kv _ => (10 - intOf kv).toNat)
  case atStart => exact ⟨4, by decide, by decide, rfl, Lib.hid (Below.refl _ _)⟩
  case round =>
    obtain ⟨k, hk4, hk10, rfl, HW⟩ := hrel
    have HB := Lib.hid (HBq.out.trans (HW.out.mono HBq.out.size))
    have HG := Lib.hid (HGq.out.next HW.out)
    have HF := Lib.hid (HFq.out.below HW.out)
    have HR7 := Lib.hid (row_up HR7q.out HW.out)
    have HR8 := Lib.hid (row_up HR8q.out HW.out)
    have HR9 := Lib.hid (row_up HR9q.out HW.out)
    have HR13 := Lib.hid (row_up HR13q.out HW.out)
    rcases Decidable.em (k ≤ 9) with hk9 | hk9
    · have HK4 := Lib.hid hk4
      have HK9 := Lib.hid hk9
      go_upto_region 16 with fail
      clear hk9
      refine wp_region_tail 25 [UpP.is (.int .i64 k), upTree (.mk 10 a noUseI []), upTree (.mk 12 [] noUseI []), upKids [(.mk 10 a noUseI []), (.mk 12 [] noUseI [])], upTree (twoE k (.mk 10 a noUseI []) (.mk 12 [] noUseI [])), UpP.is (.agg #[.string ⟨#[104]⟩, .string ⟨#[47]⟩, .slice va 0 vc]), UpP.is (.bool false), UpP.is (.bool false), UpP.is (.int .i64 k), upTree (.mk 12 [] noUseI []), upTree (.mk 10 b noUseI []), upKids [(.mk 12 [] noUseI []), (.mk 10 b noUseI [])], upTree (twoE k (.mk 12 [] noUseI []) (.mk 10 b noUseI [])), UpP.is (.agg #[.string ⟨#[104]⟩, .string ⟨#[47]⟩, .slice va 0 vc]), UpP.is (.bool false), UpP.is (.bool false), UpP.is (.bool false), UpP.is (.int .i64 k), upTree (.mk 12 [] noUseI []), upTree (.mk 12 [] noUseI []), upKids [(.mk 12 [] noUseI []), (.mk 12 [] noUseI [])], upTree (twoE k (.mk 12 [] noUseI []) (.mk 12 [] noUseI [])), UpP.is (.agg #[.string ⟨#[104]⟩, .string ⟨#[47]⟩, .slice va 0 vc]), UpP.is (.bool false), UpP.is (.bool false)] (by kernel_rfl) (by rfl) (by rfl) (by rfl) (by rfl) ⟨?o0, ?o1, ?o2, ?o3, ?o4, ?o5, ?o6, ?o7, ?o8, ?o9, ?o10, ?o11, ?o12, ?o13, ?o14, ?o15, ?o16, ?o17, ?o18, ?o19, ?o20, ?o21, ?o22, ?o23, ?o24, trivial⟩ ?_
      case o0 =>
        intro a' w' hB hL hA
        refine up_yes rfl ?_
        have s14 := like_at hL 14 (by rfl) rfl
        go_simp
        exact ⟨_, rfl, Below.refl _ _, rfl⟩
      case o1 =>
        intro a' w' hB hL hA
        refine up_yes rfl ?_
        have s8 := like_at hL 8 (by rfl) rfl
        obtain ⟨p0, p1, p2, p3, p4, p5, p6, p7, p8, p9⟩ := ten_cells (row_up HR8.out hB)
        go_simp
        exact ⟨_, rfl, Below.refl _ _, (exAt_leaf (fun _ => True) w' 10 a noUseI)⟩
      case o2 =>
        intro a' w' hB hL hA
        refine up_yes rfl ?_
        have s13 := like_at hL 13 (by rfl) rfl
        obtain ⟨p0, p1, p2, p3, p4, p5, p6, p7, p8, p9⟩ := ten_cells (row_up HR13.out hB)
        go_simp
        exact ⟨_, rfl, Below.refl _ _, (exAt_leaf (fun _ => True) w' 12 [] noUseI)⟩
      case o3 =>
        intro a' w' hB hL hA
        refine up_yes rfl ?_
        obtain ⟨v1, e1, h1⟩ := up_pre hA 1 (by rfl)
        have e1 : a'.tmps[137]? = some _ := e1
        have h1 : ExAt (fun _ => True) w' (.mk 10 a noUseI []) v1 := h1
        obtain ⟨k1, t1, u1, a1, n1, c1, rfl⟩ := h1.ten
        obtain ⟨v2, e2, h2⟩ := up_pre hA 2 (by rfl)
        have e2 : a'.tmps[138]? = some _ := e2
        have h2 : ExAt (fun _ => True) w' (.mk 12 [] noUseI []) v2 := h2
        obtain ⟨k2, t2, u2, a2, n2, c2, rfl⟩ := h2.ten
        go_simp
        exact ⟨_, rfl, (Below.refl _ _).alloc (Nat.le_refl _) _, kids_of (exAt_two (A := fun _ => True) 3 h1 h2 trivial)⟩
      case o4 =>
        intro a' w' hB hL hA
        refine up_yes rfl ?_
        obtain ⟨v0, e0, rfl⟩ := up_pre hA 0 (by rfl)
        have e0 : a'.tmps[136]? = some _ := e0
        obtain ⟨v3, e3, h3⟩ := up_pre hA 3 (by rfl)
        have e3 : a'.tmps[139]? = some _ := e3
        have h3 : KidsAt (fun _ => True) w' [(.mk 10 a noUseI []), (.mk 12 [] noUseI [])] v3 := h3
        obtain ⟨a3, c3, rfl⟩ := kids_slice h3
        go_simp
        refine (law28_of k a3 2 c3 w').mono ?_
        rintro e w6 ⟨rfl, hb6⟩
        exact ⟨_, rfl, hb6, exAt_iff.2 ⟨_, rfl, kids_nextA h3 hb6⟩⟩
      case o5 =>
        intro a' w' hB hL hA
        refine up_yes rfl ?_
        have s7 := like_at hL 7 (by rfl) rfl
        obtain ⟨c0, c1, c2⟩ := row_three (row_up HR7.out hB)
        go_simp
        exact ⟨_, rfl, Below.refl _ _, rfl⟩
      case o6 =>
        intro a' w' hB hL hA
        refine up_yes rfl ?_
        obtain ⟨v4, e4, h4⟩ := up_pre hA 4 (by rfl)
        have e4 : a'.tmps[140]? = some _ := e4
        have h4 : ExAt (fun _ => True) w' (twoE k (.mk 10 a noUseI []) (.mk 12 [] noUseI [])) v4 := h4
        obtain ⟨v5, e5, rfl⟩ := up_pre hA 5 (by rfl)
        have e5 : a'.tmps[141]? = some _ := e5
        go_simp
        refine (is28 _ _ (ord_none v28 k HK4.out HK9.out _ _ (.inr none_28)) _ va vc w' (HG.out.next hB) h4 (HF.out.below hB) (HW3.out _)).mono ?_
        rintro e w6 ⟨rfl, hb6⟩
        exact ⟨_, rfl, hb6, rfl⟩
      case o7 =>
        intro a' w' hB hL hA
        refine up_yes rfl ?_
        obtain ⟨v6, e6, rfl⟩ := up_pre hA 6 (by rfl)
        have e6 : a'.tmps[142]? = some _ := e6
        go_simp
        exact ⟨_, rfl, Below.refl _ _, rfl⟩
      case o8 =>
        intro a' w' hB hL hA
        obtain ⟨g0, ge, rfl⟩ := up_pre hA 7 (by rfl)
        have ge : a'.tmps[143]? = some _ := ge
        refine up_if rfl (up_yield rfl ge) ?_
        have s14 := like_at hL 14 (by rfl) rfl
        go_simp
        exact ⟨_, rfl, Below.refl _ _, rfl⟩
      case o9 =>
        intro a' w' hB hL hA
        obtain ⟨g0, ge, rfl⟩ := up_pre hA 7 (by rfl)
        have ge : a'.tmps[143]? = some _ := ge
        refine up_if rfl (up_yield rfl ge) ?_
        have s13 := like_at hL 13 (by rfl) rfl
        obtain ⟨p0, p1, p2, p3, p4, p5, p6, p7, p8, p9⟩ := ten_cells (row_up HR13.out hB)
        go_simp
        exact ⟨_, rfl, Below.refl _ _, (exAt_leaf (fun _ => True) w' 12 [] noUseI)⟩
      case o10 =>
        intro a' w' hB hL hA
        obtain ⟨g0, ge, rfl⟩ := up_pre hA 7 (by rfl)
        have ge : a'.tmps[143]? = some _ := ge
        refine up_if rfl (up_yield rfl ge) ?_
        have s9 := like_at hL 9 (by rfl) rfl
        obtain ⟨p0, p1, p2, p3, p4, p5, p6, p7, p8, p9⟩ := ten_cells (row_up HR9.out hB)
        go_simp
        exact ⟨_, rfl, Below.refl _ _, (exAt_leaf (fun _ => True) w' 10 b noUseI)⟩
      case o11 =>
        intro a' w' hB hL hA
        obtain ⟨g0, ge, rfl⟩ := up_pre hA 7 (by rfl)
        have ge : a'.tmps[143]? = some _ := ge
        refine up_if rfl (up_yield rfl ge) ?_
        obtain ⟨v9, e9, h9⟩ := up_pre hA 9 (by rfl)
        have e9 : a'.tmps[145]? = some _ := e9
        have h9 : ExAt (fun _ => True) w' (.mk 12 [] noUseI []) v9 := h9
        obtain ⟨k9, t9, u9, a9, n9, c9, rfl⟩ := h9.ten
        obtain ⟨v10, e10, h10⟩ := up_pre hA 10 (by rfl)
        have e10 : a'.tmps[146]? = some _ := e10
        have h10 : ExAt (fun _ => True) w' (.mk 10 b noUseI []) v10 := h10
        obtain ⟨k10, t10, u10, a10, n10, c10, rfl⟩ := h10.ten
        go_simp
        exact ⟨_, rfl, (Below.refl _ _).alloc (Nat.le_refl _) _, kids_of (exAt_two (A := fun _ => True) 3 h9 h10 trivial)⟩
      case o12 =>
        intro a' w' hB hL hA
        obtain ⟨g0, ge, rfl⟩ := up_pre hA 7 (by rfl)
        have ge : a'.tmps[143]? = some _ := ge
        refine up_if rfl (up_yield rfl ge) ?_
        obtain ⟨v8, e8, rfl⟩ := up_pre hA 8 (by rfl)
        have e8 : a'.tmps[144]? = some _ := e8
        obtain ⟨v11, e11, h11⟩ := up_pre hA 11 (by rfl)
        have e11 : a'.tmps[147]? = some _ := e11
        have h11 : KidsAt (fun _ => True) w' [(.mk 12 [] noUseI []), (.mk 10 b noUseI [])] v11 := h11
        obtain ⟨a11, c11, rfl⟩ := kids_slice h11
        go_simp
        refine (law28_of k a11 2 c11 w').mono ?_
        rintro e w6 ⟨rfl, hb6⟩
        exact ⟨_, rfl, hb6, exAt_iff.2 ⟨_, rfl, kids_nextA h11 hb6⟩⟩
      case o13 =>
        intro a' w' hB hL hA
        obtain ⟨g0, ge, rfl⟩ := up_pre hA 7 (by rfl)
        have ge : a'.tmps[143]? = some _ := ge
        refine up_if rfl (up_yield rfl ge) ?_
        have s7 := like_at hL 7 (by rfl) rfl
        obtain ⟨c0, c1, c2⟩ := row_three (row_up HR7.out hB)
        go_simp
        exact ⟨_, rfl, Below.refl _ _, rfl⟩
      case o14 =>
        intro a' w' hB hL hA
        obtain ⟨g0, ge, rfl⟩ := up_pre hA 7 (by rfl)
        have ge : a'.tmps[143]? = some _ := ge
        refine up_if rfl (up_yield rfl ge) ?_
        obtain ⟨v12, e12, h12⟩ := up_pre hA 12 (by rfl)
        have e12 : a'.tmps[148]? = some _ := e12
        have h12 : ExAt (fun _ => True) w' (twoE k (.mk 12 [] noUseI []) (.mk 10 b noUseI [])) v12 := h12
        obtain ⟨v13, e13, rfl⟩ := up_pre hA 13 (by rfl)
        have e13 : a'.tmps[149]? = some _ := e13
        go_simp
        refine (is28 _ _ (ord_none v28 k HK4.out HK9.out _ _ (.inl none_28)) _ va vc w' (HG.out.next hB) h12 (HF.out.below hB) (HW4.out _)).mono ?_
        rintro e w6 ⟨rfl, hb6⟩
        exact ⟨_, rfl, hb6, rfl⟩
      case o15 =>
        intro a' w' hB hL hA
        refine up_yes rfl ?_
        obtain ⟨v7, e7, rfl⟩ := up_pre hA 7 (by rfl)
        have e7 : a'.tmps[143]? = some _ := e7
        obtain ⟨v14, e14, rfl⟩ := up_pre hA 14 (by rfl)
        have e14 : a'.tmps[150]? = some _ := e14
        go_simp
        exact ⟨_, rfl, Below.refl _ _, rfl⟩
      case o16 =>
        intro a' w' hB hL hA
        refine up_yes rfl ?_
        obtain ⟨v15, e15, rfl⟩ := up_pre hA 15 (by rfl)
        have e15 : a'.tmps[151]? = some _ := e15
        go_simp
        exact ⟨_, rfl, Below.refl _ _, rfl⟩
      case o17 =>
        intro a' w' hB hL hA
        obtain ⟨g0, ge, rfl⟩ := up_pre hA 16 (by rfl)
        have ge : a'.tmps[152]? = some _ := ge
        refine up_if rfl (up_yield rfl ge) ?_
        have s14 := like_at hL 14 (by rfl) rfl
        go_simp
        exact ⟨_, rfl, Below.refl _ _, rfl⟩
      case o18 =>
        intro a' w' hB hL hA
        obtain ⟨g0, ge, rfl⟩ := up_pre hA 16 (by rfl)
        have ge : a'.tmps[152]? = some _ := ge
        refine up_if rfl (up_yield rfl ge) ?_
        have s13 := like_at hL 13 (by rfl) rfl
        obtain ⟨p0, p1, p2, p3, p4, p5, p6, p7, p8, p9⟩ := ten_cells (row_up HR13.out hB)
        go_simp
        exact ⟨_, rfl, Below.refl _ _, (exAt_leaf (fun _ => True) w' 12 [] noUseI)⟩
      case o19 =>
        intro a' w' hB hL hA
        obtain ⟨g0, ge, rfl⟩ := up_pre hA 16 (by rfl)
        have ge : a'.tmps[152]? = some _ := ge
        refine up_if rfl (up_yield rfl ge) ?_
        have s13 := like_at hL 13 (by rfl) rfl
        obtain ⟨p0, p1, p2, p3, p4, p5, p6, p7, p8, p9⟩ := ten_cells (row_up HR13.out hB)
        go_simp
        exact ⟨_, rfl, Below.refl _ _, (exAt_leaf (fun _ => True) w' 12 [] noUseI)⟩
      case o20 =>
        intro a' w' hB hL hA
        obtain ⟨g0, ge, rfl⟩ := up_pre hA 16 (by rfl)
        have ge : a'.tmps[152]? = some _ := ge
        refine up_if rfl (up_yield rfl ge) ?_
        obtain ⟨v18, e18, h18⟩ := up_pre hA 18 (by rfl)
        have e18 : a'.tmps[154]? = some _ := e18
        have h18 : ExAt (fun _ => True) w' (.mk 12 [] noUseI []) v18 := h18
        obtain ⟨k18, t18, u18, a18, n18, c18, rfl⟩ := h18.ten
        obtain ⟨v19, e19, h19⟩ := up_pre hA 19 (by rfl)
        have e19 : a'.tmps[155]? = some _ := e19
        have h19 : ExAt (fun _ => True) w' (.mk 12 [] noUseI []) v19 := h19
        obtain ⟨k19, t19, u19, a19, n19, c19, rfl⟩ := h19.ten
        go_simp
        exact ⟨_, rfl, (Below.refl _ _).alloc (Nat.le_refl _) _, kids_of (exAt_two (A := fun _ => True) 3 h18 h19 trivial)⟩
      case o21 =>
        intro a' w' hB hL hA
        obtain ⟨g0, ge, rfl⟩ := up_pre hA 16 (by rfl)
        have ge : a'.tmps[152]? = some _ := ge
        refine up_if rfl (up_yield rfl ge) ?_
        obtain ⟨v17, e17, rfl⟩ := up_pre hA 17 (by rfl)
        have e17 : a'.tmps[153]? = some _ := e17
        obtain ⟨v20, e20, h20⟩ := up_pre hA 20 (by rfl)
        have e20 : a'.tmps[156]? = some _ := e20
        have h20 : KidsAt (fun _ => True) w' [(.mk 12 [] noUseI []), (.mk 12 [] noUseI [])] v20 := h20
        obtain ⟨a20, c20, rfl⟩ := kids_slice h20
        go_simp
        refine (law28_of k a20 2 c20 w').mono ?_
        rintro e w6 ⟨rfl, hb6⟩
        exact ⟨_, rfl, hb6, exAt_iff.2 ⟨_, rfl, kids_nextA h20 hb6⟩⟩
      case o22 =>
        intro a' w' hB hL hA
        obtain ⟨g0, ge, rfl⟩ := up_pre hA 16 (by rfl)
        have ge : a'.tmps[152]? = some _ := ge
        refine up_if rfl (up_yield rfl ge) ?_
        have s7 := like_at hL 7 (by rfl) rfl
        obtain ⟨c0, c1, c2⟩ := row_three (row_up HR7.out hB)
        go_simp
        exact ⟨_, rfl, Below.refl _ _, rfl⟩
      case o23 =>
        intro a' w' hB hL hA
        obtain ⟨g0, ge, rfl⟩ := up_pre hA 16 (by rfl)
        have ge : a'.tmps[152]? = some _ := ge
        refine up_if rfl (up_yield rfl ge) ?_
        obtain ⟨v21, e21, h21⟩ := up_pre hA 21 (by rfl)
        have e21 : a'.tmps[157]? = some _ := e21
        have h21 : ExAt (fun _ => True) w' (twoE k (.mk 12 [] noUseI []) (.mk 12 [] noUseI [])) v21 := h21
        obtain ⟨v22, e22, rfl⟩ := up_pre hA 22 (by rfl)
        have e22 : a'.tmps[158]? = some _ := e22
        go_simp
        refine (is28 _ _ (ord_none v28 k HK4.out HK9.out _ _ (.inr none_28)) _ va vc w' (HG.out.next hB) h21 (HF.out.below hB) (HW5.out _)).mono ?_
        rintro e w6 ⟨rfl, hb6⟩
        exact ⟨_, rfl, hb6, rfl⟩
      case o24 =>
        intro a' w' hB hL hA
        refine up_yes rfl ?_
        obtain ⟨v16, e16, rfl⟩ := up_pre hA 16 (by rfl)
        have e16 : a'.tmps[152]? = some _ := e16
        obtain ⟨v23, e23, rfl⟩ := up_pre hA 23 (by rfl)
        have e23 : a'.tmps[159]? = some _ := e23
        go_simp
        exact ⟨_, rfl, Below.refl _ _, rfl⟩
      intro f w' hB hf
      have f24 : f 24 = _ := hf 24 _ rfl
      have HWq := Lib.hid (HW.out.trans (hB.mono HW.out.size))
      clear hB hf HB HG HF HR7 HR8 HR9 HR13 HW
      simp only [List.take_succ_cons, List.take_zero, List.drop_succ_cons, List.drop_nil, putFn, Act.put, tailWp]
      rw [f24]
      clear f24
      go_simp
      have hk9 := HK9.out
      go_wp2_with fail
      go_roundw
      case rel => exact ⟨k + 1, by omega, by omega, rfl, HWq⟩
      case measure => (simp [intOf] <;> omega)
    obtain rfl : k = 10 := by omega
    clear hk9 hk10 hk4
    have HD1 := Lib.hid (law28_digits n (by have := HN4.out; omega))
    have HD2 := Lib.hid (law28_digits (n + 1) (by have := HN4.out; omega))
    rw [show (((n + 1 : Nat) : Int)) = (n : Int) + 1 from by omega] at HD2
    have j1 : (n : Int) ≤ 4294967295 := by have := HN4.out; omega
    go_upto_region 18 with fail
    clear HW HR8 HR9 HR13 HR8q HR9q HR13q HR7q HBq HGq HFq
    go_wp2_with fail
    refine (HD1.out _).mono ?_
    rintro e w5 ⟨R, rfl, hR1, hR2, hb5⟩
    have HR1 := Lib.hid (And.intro hR1 hR2)
    have HBq := Lib.hid (HB.out.trans (hb5.mono HB.out.size))
    have HGq := Lib.hid (HG.out.next hb5)
    have HFq := Lib.hid (HF.out.below hb5)
    have HR7q := Lib.hid (row_up HR7.out hb5)
    clear hR1 hR2 hb5 HB HG HF HR7
    go_wp2_with fail
    refine (HD2.out _).mono ?_
    rintro e w6 ⟨K, rfl, hK1, hK2, hb6⟩
    have HK := Lib.hid (ord_dig n R K HR1.out.1 HR1.out.2 hK1 hK2)
    have HKL := Lib.hid (And.intro HR1.out.1.len hK1.len)
    have HB := Lib.hid (HBq.out.trans (hb6.mono HBq.out.size))
    have HG := Lib.hid (HGq.out.next hb6)
    have HF := Lib.hid (HFq.out.below hb6)
    have HR7 := Lib.hid (row_up HR7q.out hb6)
    clear hK1 hK2 hb6 HBq HGq HFq HR7q HR1
    have HI := Lib.hid ((ord_says v28 6 (by decide) (by decide) R (48 :: 48 :: K) 11 10 (.inr rfl) (.inl rfl)).trans ((congrArg (holdsB 6) HK.out).trans (show holdsB 6 (-1) = true by decide)))
    have HWT := Lib.hid (show weightE (twoE 6 (.mk 11 R noUseI []) (.mk 10 (48 :: 48 :: K) noUseI [])) ≤ 100000 by
      have := weight2T 6 (.mk 11 R noUseI []) (.mk 10 (48 :: 48 :: K) noUseI [])
      have := weight_leaf 11 R
      have := weight_leaf 10 (48 :: 48 :: K)
      have := HKL.out
      simp only [List.length_cons] at *; omega)
    have hadd : ∀ W, (Op.stringOp .add ⟨#[48, 48]⟩ ⟨K.toArray⟩).run Tryz.prog W = .ok (.string ⟨(48 :: 48 :: K).toArray⟩) W := fun W => by
      have := run_string_add_sum (P := Tryz.prog) W ⟨#[48, 48]⟩ ⟨K.toArray⟩ (by have := HKL.out; show 2 + K.length ≤ _; omega)
      rw [sh_app [48, 48] K] at this; exact this
    go_upto_region 19 with fail
    clear j1
    refine wp_region_tail 13 [UpP.is (.string ⟨R.toArray⟩), upTree (.mk 11 R noUseI []), UpP.is (.string ⟨K.toArray⟩), UpP.is (.string ⟨(48 :: 48 :: K).toArray⟩), upTree (.mk 10 (48 :: 48 :: K) noUseI []), upKids [(.mk 11 R noUseI []), (.mk 10 (48 :: 48 :: K) noUseI [])], upTree (twoE 6 (.mk 11 R noUseI []) (.mk 10 (48 :: 48 :: K) noUseI [])), UpP.is (.agg #[.string ⟨#[104]⟩, .string ⟨#[47]⟩, .slice va 0 vc]), UpP.is (.bool true), UpP.is (.bool true), UpP.is (.bool true), UpP.is (.bool true), UpP.is (.bool true)] (by kernel_rfl) (by rfl) (by rfl) (by rfl) (by rfl) ⟨?o0, ?o1, ?o2, ?o3, ?o4, ?o5, ?o6, ?o7, ?o8, ?o9, ?o10, ?o11, ?o12, trivial⟩ ?_
    case o0 =>
      intro a' w' hB hL hA
      refine up_yes rfl ?_
      have s15 := like_at hL 15 (by rfl) rfl
      go_simp
      exact ⟨_, rfl, Below.refl _ _, rfl⟩
    case o1 =>
      intro a' w' hB hL hA
      refine up_yes rfl ?_
      obtain ⟨v0, e0, rfl⟩ := up_pre hA 0 (by rfl)
      have e0 : a'.tmps[168]? = some _ := e0
      go_simp
      exact ⟨_, rfl, Below.refl _ _, exAt_leaf _ _ 11 R noUseI⟩
    case o2 =>
      intro a' w' hB hL hA
      refine up_yes rfl ?_
      have s16 := like_at hL 16 (by rfl) rfl
      go_simp
      exact ⟨_, rfl, Below.refl _ _, rfl⟩
    case o3 =>
      intro a' w' hB hL hA
      refine up_yes rfl ?_
      obtain ⟨v2, e2, rfl⟩ := up_pre hA 2 (by rfl)
      have e2 : a'.tmps[170]? = some _ := e2
      go_simp
      exact ⟨_, rfl, Below.refl _ _, rfl⟩
    case o4 =>
      intro a' w' hB hL hA
      refine up_yes rfl ?_
      obtain ⟨v3, e3, rfl⟩ := up_pre hA 3 (by rfl)
      have e3 : a'.tmps[171]? = some _ := e3
      go_simp
      exact ⟨_, rfl, Below.refl _ _, exAt_leaf _ _ 10 (48 :: 48 :: K) noUseI⟩
    case o5 =>
      intro a' w' hB hL hA
      refine up_yes rfl ?_
      obtain ⟨v1, e1, h1⟩ := up_pre hA 1 (by rfl)
      have e1 : a'.tmps[169]? = some _ := e1
      have h1 : ExAt (fun _ => True) w' (.mk 11 R noUseI []) v1 := h1
      obtain ⟨k1, t1, u1, a1, n1, c1, rfl⟩ := h1.ten
      obtain ⟨v4, e4, h4⟩ := up_pre hA 4 (by rfl)
      have e4 : a'.tmps[172]? = some _ := e4
      have h4 : ExAt (fun _ => True) w' (.mk 10 (48 :: 48 :: K) noUseI []) v4 := h4
      obtain ⟨k4, t4, u4, a4, n4, c4, rfl⟩ := h4.ten
      go_simp
      exact ⟨_, rfl, (Below.refl _ _).alloc (Nat.le_refl _) _, kids_of (exAt_two (A := fun _ => True) 3 h1 h4 trivial)⟩
    case o6 =>
      intro a' w' hB hL hA
      refine up_yes rfl ?_
      obtain ⟨v5, e5, h5⟩ := up_pre hA 5 (by rfl)
      have e5 : a'.tmps[173]? = some _ := e5
      have h5 : KidsAt (fun _ => True) w' [(.mk 11 R noUseI []), (.mk 10 (48 :: 48 :: K) noUseI [])] v5 := h5
      obtain ⟨a5, c5, rfl⟩ := kids_slice h5
      go_simp
      refine (law28_of 6 a5 2 c5 w').mono ?_
      rintro e w6 ⟨rfl, hb6⟩
      exact ⟨_, rfl, hb6, exAt_iff.2 ⟨_, rfl, kids_nextA h5 hb6⟩⟩
    case o7 =>
      intro a' w' hB hL hA
      refine up_yes rfl ?_
      have s7 := like_at hL 7 (by rfl) rfl
      obtain ⟨c0, c1, c2⟩ := row_three (row_up HR7.out hB)
      go_simp
      exact ⟨_, rfl, Below.refl _ _, rfl⟩
    case o8 =>
      intro a' w' hB hL hA
      refine up_yes rfl ?_
      obtain ⟨v6, e6, h6⟩ := up_pre hA 6 (by rfl)
      have e6 : a'.tmps[174]? = some _ := e6
      have h6 : ExAt (fun _ => True) w' (twoE 6 (.mk 11 R noUseI []) (.mk 10 (48 :: 48 :: K) noUseI [])) v6 := h6
      obtain ⟨v7, e7, rfl⟩ := up_pre hA 7 (by rfl)
      have e7 : a'.tmps[175]? = some _ := e7
      go_simp
      refine (is28 _ _ HI.out _ va vc w' (HG.out.next hB) h6 (HF.out.below hB) HWT.out).mono ?_
      rintro e w6 ⟨rfl, hb6⟩
      exact ⟨_, rfl, hb6, rfl⟩
    case o9 =>
      intro a' w' hB hL hA
      refine up_yes rfl ?_
      obtain ⟨v8, e8, rfl⟩ := up_pre hA 8 (by rfl)
      have e8 : a'.tmps[176]? = some _ := e8
      go_simp
      exact ⟨_, rfl, Below.refl _ _, rfl⟩
    case o10 =>
      intro a' w' hB hL hA
      obtain ⟨g0, ge, rfl⟩ := up_pre hA 9 (by rfl)
      have ge : a'.tmps[177]? = some _ := ge
      refine up_if rfl (up_yield rfl ge) ?_
      go_simp
      refine (law28_works w' (HG.out.next hB)).mono ?_
      rintro e w6 ⟨rfl, hb6⟩
      exact ⟨_, rfl, hb6, rfl⟩
    case o11 =>
      intro a' w' hB hL hA
      refine up_yes rfl ?_
      obtain ⟨v9, e9, rfl⟩ := up_pre hA 9 (by rfl)
      have e9 : a'.tmps[177]? = some _ := e9
      obtain ⟨v10, e10, rfl⟩ := up_pre hA 10 (by rfl)
      have e10 : a'.tmps[178]? = some _ := e10
      go_simp
      exact ⟨_, rfl, Below.refl _ _, rfl⟩
    case o12 =>
      intro a' w' hB hL hA
      refine up_yes rfl ?_
      obtain ⟨v11, e11, rfl⟩ := up_pre hA 11 (by rfl)
      have e11 : a'.tmps[179]? = some _ := e11
      go_simp
      exact ⟨_, rfl, Below.refl _ _, rfl⟩
    intro f w' hB hf
    have f12 : f 12 = _ := hf 12 _ rfl
    have HBE := Lib.hid (HB.out.trans (hB.mono HB.out.size))
    clear hB hf
    simp only [List.take_succ_cons, List.take_zero, List.drop_succ_cons, List.drop_nil, putFn, Act.put, tailWp]
    rw [f12]
    go_simp
    go_wp2_with fail
    go_ret
    exact ⟨rfl, HBE.out⟩
theorem law28_orders (a b : ByteArray) (n : Nat) (hn : n < 4294967296) (w : World) (hG : Good w) : Calls Tryz.prog 10 #[.string a, .string b, .int .u32 (n : Int)] w (Ret w (.bool true)) := by
  by_cases ha : a.size ≤ 3000
  · by_cases hb : b.size ≤ 3000
    · have e1 : (⟨a.data.toList.toArray⟩ : ByteArray) = a := by cases a; simp
      have e2 : (⟨b.data.toList.toArray⟩ : ByteArray) = b := by cases b; simp
      have h := law28_orders_in a.data.toList b.data.toList n hn w hG ha hb
      rw [e1, e2] at h
      exact h
    · exact law28_orders_out a b n w hG (.inr (by omega))
  · exact law28_orders_out a b n w hG (.inl (by omega))
end Go.Proofs.YtehdeclpighdeaaGreatDoor
