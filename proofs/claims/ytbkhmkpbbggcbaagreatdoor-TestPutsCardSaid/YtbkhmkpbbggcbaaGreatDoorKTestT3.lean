/- The walks of a tree's text, and of Put. -/
import Derived.Test.YtbkhmkpbbggcbaaGreatDoorKTestT2
import Derived.Test.YtbkhmkpbbggcbaaGreatDoorKRegUp
namespace Go.Proofs.YtbkhmkpbbggcbaaGreatDoor
open Go.RowKit
set_option linter.unusedVariables false
theorem ul_ints : Tryz.prog.underlying 55 = some (.slice 3) := by kernel_rfl
theorem info_i64 : (Tryz.prog.info? 3).map (fun i => (i.zero, i.size, i.bytes)) = some (some (.int .i64 0), 1, 8) := by kernel_rfl
theorem ints_new (W : World) (L : List Int) (cs : Array Value) (hcs : cs = (L.map (Value.int .i64)).toArray) (n m : Nat) (hn : n = W.heap.size) (hm : m = L.length) (c : Nat) : IntsAt (W.alloc (.cells cs 3)) (.slice (some ⟨n, 0, none⟩) m c) L := by
  subst hn hm hcs
  refine ⟨W.heap.size, 0, c, rfl, by rw [World.size_alloc]; omega, fun j hj => ?_⟩
  have h := heap_alloc_new W (.cells (L.map (Value.int .i64)).toArray 3)
  rw [cell_of_row _ _ _ _ _ _ h, Nat.zero_add, List.getElem?_toArray, List.getElem?_map, List.getElem?_eq_getElem hj, List.getD_eq_getElem?_getD, List.getElem?_eq_getElem hj]
  rfl
theorem ints_10 (W : World) (n : Nat) (hn : n = W.heap.size) : IntsAt (W.alloc (.cells #[.int .i64 10, .int .i64 11, .int .i64 12] 3)) (.slice (some ⟨n, 0, none⟩) 3 3) [10, 11, 12] := ints_new W [10, 11, 12] _ rfl n 3 hn rfl 3
theorem app_ints (W : World) (L1 L2 : List Int) (cs : Array Value) (hcs : cs = (L1.map (Value.int .i64)).toArray) (v2 : Value) (h2 : IntsAt W v2 L2) (h0 : 0 < L2.length) (hl1 : L1.length ≤ 100) (hl2 : L2.length ≤ 100) (ty : TypeId) (n : Nat) (hn : n = L1.length) :
    ∃ v W2, (Builtin.append_ #[55, 55] ty #[.slice (some ⟨W.heap.size, 0, none⟩) n n, v2]).run Tryz.prog (W.alloc (.cells cs 3)) = .ok v W2 ∧ IntsAt W2 v (L1 ++ L2) ∧ Below W.heap.size W W2 := by
  subst hcs hn
  obtain ⟨b, o, c, rfl, hb, hc⟩ := h2
  obtain ⟨i, hi, hz, hsize, hby⟩ := info_parts info_i64
  have hn := heap_alloc_new W (.cells (L1.map (Value.int .i64)).toArray 3)
  have hr := run_append_grow (P := Tryz.prog) (W.alloc (.cells (L1.map (Value.int .i64)).toArray 3)) 55 ty 3 i (.int .i64 0) ul_ints hi hz ⟨W.heap.size, 0, none⟩ L1.length L1.length (L1.map (Value.int .i64)) (by rw [hsize]; simp) (fun j v hv => by
      rw [add_at, cell_of_row _ _ _ _ _ _ hn, Nat.zero_add, List.getElem?_toArray]; exact hv) ⟨b, o, none⟩ L2.length c (L2.map (Value.int .i64)) (by rw [hsize]; simp) (fun j v hv => by
      have hj : j < L2.length := by have := (List.getElem?_eq_some_iff.1 hv).1; simpa using this
      rw [add_at, cell_alloc9 (hc j hj)]
      rw [List.getElem?_map, List.getElem?_eq_getElem hj] at hv
      rw [List.getD_eq_getElem?_getD, List.getElem?_eq_getElem hj]; exact hv) (by omega) (by omega) (growslice_fits (by omega) (by rw [hby]; omega))
  refine ⟨_, _, hr, ⟨_, 0, _, by rw [List.length_append], ?_, fun j hj => ?_⟩, ?_⟩
  · show (W.alloc (.cells (L1.map (Value.int .i64)).toArray 3)).heap.size < _
    rw [World.size_alloc (w := (W.alloc (.cells (L1.map (Value.int .i64)).toArray 3)).drew)]
    exact Nat.lt_succ_self _
  · have h3 := heap_alloc_new (W.alloc (.cells (L1.map (Value.int .i64)).toArray 3)).drew (.cells ((L1.map (Value.int .i64)).toArray ++ (L2.map (Value.int .i64)).toArray ++ Builtin.zeroCells (Value.int .i64 0).cells (grownCap (W.alloc (.cells (L1.map (Value.int .i64)).toArray 3)) (L1.length + L2.length) L1.length 3 - (L1.length + L2.length))) 3)
    refine (cell_of_row _ _ _ _ _ _ h3).trans ?_
    rw [show (L1.map (Value.int .i64)).toArray ++ (L2.map (Value.int .i64)).toArray = ((L1 ++ L2).map (Value.int .i64)).toArray by simp, Nat.zero_add, Array.getElem?_append_left (by simpa using hj), List.getElem?_toArray, List.getElem?_map, List.getElem?_eq_getElem hj, List.getD_eq_getElem?_getD, List.getElem?_eq_getElem hj]
    rfl
  · exact ((below_drewn ((Below.refl W.heap.size W).alloc (Nat.le_refl _) _))).alloc (by show _ ≤ (W.alloc _).heap.size; rw [World.size_alloc]; omega) _
theorem wpList_app_run {P : Program} {w : World} {ops : Array Oper} {rest : List Oper} {o : Oper} {a : Act} {Q : Exit → Act → World → Prop} (hgd : o.guard = none) (s x : Operand) (t : TypeId)
    (ho : o.op = .call { callee := .builtin .append, args := #[s, x], argTypes := #[t, t] }) (v u : Value) (hs : a.eval s = v) (hx : a.eval x = u) {v' : Value} {w' : World}
    (hr : (Builtin.append_ #[t, t] o.type #[v, u]).run P w = .ok v' w') (h : wpList P ops Q rest (a.put o.dst v') w') : wpList P ops Q (o :: rest) a w := by
  refine wpList_plain hgd fun _ hK => ?_
  unfold Oper.wp execOp
  simp only [ho, resolve, invoke, builtin, Sem.run_bind, Sem.run_pure, Result.andThen_ok, List.map_toArray, List.map_cons, List.map_nil, hs, hx, hr]
  exact hK _ _ h
theorem has_1 (k : Int) : ([1, 2, 3, 4, 5, 6, 7, 8, 9, 10, 11, 12] : List Int).contains k = decide (1 ≤ k ∧ k ≤ 12) := by
  rw [Bool.eq_iff_iff, List.contains_eq_mem, decide_eq_true_eq, decide_eq_true_eq]
  simp only [List.mem_cons, List.not_mem_nil, or_false]; omega
theorem has_2 (k : Int) : ([2, 3, 4, 5, 6, 7, 8, 9, 10, 11, 12] : List Int).contains k = decide (2 ≤ k ∧ k ≤ 12) := by
  rw [Bool.eq_iff_iff, List.contains_eq_mem, decide_eq_true_eq, decide_eq_true_eq]
  simp only [List.mem_cons, List.not_mem_nil, or_false]; omega
theorem has_3 (k : Int) : ([3, 4, 5, 6, 7, 8, 9, 10, 11, 12] : List Int).contains k = decide (3 ≤ k ∧ k ≤ 12) := by
  rw [Bool.eq_iff_iff, List.contains_eq_mem, decide_eq_true_eq, decide_eq_true_eq]
  simp only [List.mem_cons, List.not_mem_nil, or_false]; omega
theorem has_10 (k : Int) : ([10, 11, 12] : List Int).contains k = decide (10 ≤ k ∧ k ≤ 12) := by
  rw [Bool.eq_iff_iff, List.contains_eq_mem, decide_eq_true_eq, decide_eq_true_eq]
  simp only [List.mem_cons, List.not_mem_nil, or_false]; omega
theorem test_may (k : Int) (t : Bs) (u : UseI) (a : Option Addr) (n c : Nat) (w : World) (hG : Good w) (ht : t.length ≤ 100000) (h1 : u.name.length ≤ 100000) (h2 : u.key.length ≤ 100000) (h3 : u.dft.length ≤ 100000) :
    Calls Tryz.prog 23 #[exV k t u (.slice a n c)] w (Ret w (.bool (mayN k t u n))) := by
  by_cases h3k : k = 3
  · subst h3k; exact may_3 t u a n c w hG ht h1 h2 h3
  · by_cases h10 : k = 10
    · subst h10; exact may_10 t u a n c w hG ht h1 h2 h3
    · by_cases h11 : k = 11
      · subst h11; exact may_11 t u a n c w hG ht h1 h2 h3
      · by_cases h12 : k = 12
        · subst h12; exact may_12 t u a n c w hG ht h1 h2 h3
        · exact may_other k h3k h10 h11 h12 t u a n c w hG ht h1 h2 h3
structure TxK (W : World) (bx bk bc : Nat) (k : Int) (t : Bs) (u : UseI) (l : List Ex) (a : Option Addr) (c : Nat) : Prop where
  box : W.heap[bx]? = some (.cells (exL k t u (.slice a l.length c)).toArray 26)
  clo : W.cell? ⟨bk, 0, none⟩ = some (.func (.func 24) #[] #[.pointer (some ⟨bx, 0, none⟩)])
  ints : IntsAt W (.slice (some ⟨bc, 0, none⟩) 10 10) [3, 4, 5, 6, 7, 8, 9, 10, 11, 12]
  kids : KidsAt (fun _ => True) W l (.slice a l.length c)
  good : Good W
theorem TxK.next {W W' : World} {bx bk bc : Nat} {k : Int} {t : Bs} {u : UseI} {l : List Ex} {a : Option Addr} {c : Nat} (h : TxK W bx bk bc k t u l a c) (hb : Below W.heap.size W W') : TxK W' bx bk bc k t u l a c :=
  ⟨(hb.block _ (Array.getElem?_eq_some_iff.1 h.box).1).trans h.box, (hb.cell (p := ⟨bk, 0, none⟩) (cell_lt h.clo)).trans h.clo, h.ints.next hb, kids_next h.kids hb, h.good.next hb⟩
theorem TxK.two {W : World} {bx bk bc : Nat} {k : Int} {t : Bs} {u : UseI} {ya yb : Ex} {a : Option Addr} {c : Nat} (h : TxK W bx bk bc k t u [ya, yb] a c) : TwoK W bx bk k t u ya yb a c := ⟨h.box, h.clo, h.kids, h.good⟩
theorem tx_start {w w1 : World} {k : Int} {t : Bs} {u : UseI} {l : List Ex} {a : Option Addr} {c : Nat} (hG : Good w) (hk : KidsAt (fun _ => True) w l (.slice a l.length c)) (hb : Below (w.alloc (.cells (exL k t u (.slice a l.length c)).toArray 26)).heap.size (w.alloc (.cells (exL k t u (.slice a l.length c)).toArray 26)) w1) :
    TxK ((w1.alloc (.cells #[.func (.func 24) #[] #[.pointer (some ⟨w.heap.size, 0, none⟩)]] 57)).alloc (.cells #[.int .i64 3, .int .i64 4, .int .i64 5, .int .i64 6, .int .i64 7, .int .i64 8, .int .i64 9, .int .i64 10, .int .i64 11, .int .i64 12] 3)) w.heap.size w1.heap.size (w1.heap.size + 1) k t u l a c ∧ Below w.heap.size w ((w1.alloc (.cells #[.func (.func 24) #[] #[.pointer (some ⟨w.heap.size, 0, none⟩)]] 57)).alloc (.cells #[.int .i64 3, .int .i64 4, .int .i64 5, .int .i64 6, .int .i64 7, .int .i64 8, .int .i64 9, .int .i64 10, .int .i64 11, .int .i64 12] 3)) := by
  have hA := (Below.refl w.heap.size w).alloc (Nat.le_refl _) (.cells (exL k t u (.slice a l.length c)).toArray 26)
  have hn := heap_alloc_new w (.cells (exL k t u (.slice a l.length c)).toArray 26)
  have hB := hA.trans (hb.mono hA.size)
  have hT := two_new w1 (.cells #[.func (.func 24) #[] #[.pointer (some ⟨w.heap.size, 0, none⟩)]] 57) (.cells #[.int .i64 3, .int .i64 4, .int .i64 5, .int .i64 6, .int .i64 7, .int .i64 8, .int .i64 9, .int .i64 10, .int .i64 11, .int .i64 12] 3)
  have hE := hB.trans (hT.below.mono hB.size)
  refine ⟨⟨?_, cell_of_row _ _ 0 _ _ _ hT.b1, ints_new (w1.alloc (.cells #[.func (.func 24) #[] #[.pointer (some ⟨w.heap.size, 0, none⟩)]] 57)) [3, 4, 5, 6, 7, 8, 9, 10, 11, 12] _ rfl _ _ (by rw [World.size_alloc]) rfl _, kids_next hk hE, hG.next hE⟩, hE⟩
  have h1 := (hb.block _ (Array.getElem?_eq_some_iff.1 hn).1).trans hn
  exact (hT.below.block _ (Array.getElem?_eq_some_iff.1 h1).1).trans h1
theorem weight_kid : ∀ {l : List Ex} {x : Ex}, x ∈ l → weightE x ≤ weightL l
  | y :: r, x, h => by
    rw [weightL]
    rcases List.mem_cons.1 h with rfl | h
    · omega
    · have := weight_kid h; omega
set_option maxRecDepth 100000 in
set_option maxHeartbeats 8000000 in
theorem text_10 (t : Bs) (u : UseI) (a : Option Addr) (c : Nat) (w : World) (hG : Good w) (hw : weightE (.mk 10 t u []) ≤ 5000) (hm : mayN 10 t u 0 = true) (hk : KidsAt (fun _ => True) w [] (.slice a 0 c)) :
    Calls Tryz.prog 14 #[exV 10 t u (.slice a 0 c)] w (RetSB w (textE (.mk 10 t u []))) := by
  rw [weightE] at hw
  have HM := Lib.hid (test_may 10 t u a 0 c _ (hG.next ((Below.refl w.heap.size w).alloc (Nat.le_refl _) (.cells (exL 10 t u (.slice a 0 c)).toArray 26))) (by omega) (by omega) (by omega) (by omega))
  rw [hm] at HM
  have HTX := Lib.hid (fun (w1 : World) hb => tx_start (w := w) (w1 := w1) (k := 10) (t := t) (u := u) (l := []) (a := a) (c := c) hG hk hb)
  have HE := Lib.hid (show textE (.mk 10 t u []) = (([39] ++ t) ++ [39], true) by
    rw [textE_mk, show ([] : List Ex).length = 0 from rfl, hm]; rfl)
  have htl : t.length ≤ 5000 := by omega
  clear hw hm hk
  go_enter Tryz.func14, Tryz.ntmps14
  go_wp2_with fail
  refine HM.out.mono ?_
  rintro e w1 ⟨rfl, hb1⟩
  have HX := Lib.hid (HTX.out w1 hb1).1
  have HB := Lib.hid (HTX.out w1 hb1).2
  clear hb1
  go_upto_region 6 with fail
  generalize (w1.alloc (.cells #[.func (.func 24) #[] #[.pointer (some ⟨w.heap.size, 0, none⟩)]] 57)).alloc (.cells #[.int .i64 3, .int .i64 4, .int .i64 5, .int .i64 6, .int .i64 7, .int .i64 8, .int .i64 9, .int .i64 10, .int .i64 11, .int .i64 12] 3) = W3 at *
  obtain ⟨p0, p1, p2, p3, p4, p5, p6, p7, p8, p9⟩ := ten_cells HX.out.box
  go_wp2_with fail
  go_ret2
  exact ⟨by rw [HE.out]; exact ret_sb (by simp) rfl, HB.out⟩
set_option maxRecDepth 100000 in
set_option maxHeartbeats 8000000 in
theorem text_11 (t : Bs) (u : UseI) (a : Option Addr) (c : Nat) (w : World) (hG : Good w) (hw : weightE (.mk 11 t u []) ≤ 5000) (hm : mayN 11 t u 0 = true) (hk : KidsAt (fun _ => True) w [] (.slice a 0 c)) :
    Calls Tryz.prog 14 #[exV 11 t u (.slice a 0 c)] w (RetSB w (textE (.mk 11 t u []))) := by
  rw [weightE] at hw
  have HM := Lib.hid (test_may 11 t u a 0 c _ (hG.next ((Below.refl w.heap.size w).alloc (Nat.le_refl _) (.cells (exL 11 t u (.slice a 0 c)).toArray 26))) (by omega) (by omega) (by omega) (by omega))
  rw [hm] at HM
  have HTX := Lib.hid (fun (w1 : World) hb => tx_start (w := w) (w1 := w1) (k := 11) (t := t) (u := u) (l := []) (a := a) (c := c) hG hk hb)
  have HE := Lib.hid (show textE (.mk 11 t u []) = (t, true) by
    rw [textE_mk, show ([] : List Ex).length = 0 from rfl, hm]; rfl)
  clear hw hm hk
  go_enter Tryz.func14, Tryz.ntmps14
  go_wp2_with fail
  refine HM.out.mono ?_
  rintro e w1 ⟨rfl, hb1⟩
  have HX := Lib.hid (HTX.out w1 hb1).1
  have HB := Lib.hid (HTX.out w1 hb1).2
  clear hb1
  go_upto_region 6 with fail
  generalize (w1.alloc (.cells #[.func (.func 24) #[] #[.pointer (some ⟨w.heap.size, 0, none⟩)]] 57)).alloc (.cells #[.int .i64 3, .int .i64 4, .int .i64 5, .int .i64 6, .int .i64 7, .int .i64 8, .int .i64 9, .int .i64 10, .int .i64 11, .int .i64 12] 3) = W3 at *
  obtain ⟨p0, p1, p2, p3, p4, p5, p6, p7, p8, p9⟩ := ten_cells HX.out.box
  go_wp2_with fail
  go_ret2
  exact ⟨(by rw [HE.out]; try rfl), HB.out⟩
set_option maxRecDepth 100000 in
set_option maxHeartbeats 8000000 in
theorem text_12 (t : Bs) (u : UseI) (a : Option Addr) (c : Nat) (w : World) (hG : Good w) (hw : weightE (.mk 12 t u []) ≤ 5000) (hm : mayN 12 t u 0 = true) (hk : KidsAt (fun _ => True) w [] (.slice a 0 c)) :
    Calls Tryz.prog 14 #[exV 12 t u (.slice a 0 c)] w (RetSB w (textE (.mk 12 t u []))) := by
  rw [weightE] at hw
  have HM := Lib.hid (test_may 12 t u a 0 c _ (hG.next ((Below.refl w.heap.size w).alloc (Nat.le_refl _) (.cells (exL 12 t u (.slice a 0 c)).toArray 26))) (by omega) (by omega) (by omega) (by omega))
  rw [hm] at HM
  have HTX := Lib.hid (fun (w1 : World) hb => tx_start (w := w) (w1 := w1) (k := 12) (t := t) (u := u) (l := []) (a := a) (c := c) hG hk hb)
  have HE := Lib.hid (show textE (.mk 12 t u []) = (usedB u, true) by
    rw [textE_mk, show ([] : List Ex).length = 0 from rfl, hm]; rfl)
  have HU := Lib.hid (fun W => test_used u W (by omega) (by omega) (by omega))
  clear hw hm hk
  go_enter Tryz.func14, Tryz.ntmps14
  go_wp2_with fail
  refine HM.out.mono ?_
  rintro e w1 ⟨rfl, hb1⟩
  have HX := Lib.hid (HTX.out w1 hb1).1
  have HB := Lib.hid (HTX.out w1 hb1).2
  clear hb1
  go_upto_region 6 with fail
  generalize (w1.alloc (.cells #[.func (.func 24) #[] #[.pointer (some ⟨w.heap.size, 0, none⟩)]] 57)).alloc (.cells #[.int .i64 3, .int .i64 4, .int .i64 5, .int .i64 6, .int .i64 7, .int .i64 8, .int .i64 9, .int .i64 10, .int .i64 11, .int .i64 12] 3) = W3 at *
  obtain ⟨p0, p1, p2, p3, p4, p5, p6, p7, p8, p9⟩ := ten_cells HX.out.box
  go_wp2_with fail
  refine (HU.out W3).mono ?_
  rintro e w4 ⟨rfl, hb4⟩
  have HB4 := Lib.hid (HB.out.trans (hb4.mono HB.out.size))
  clear hb4 p0 p1 p2 p3 p4 p5 p6 p7 p8 p9
  go_wp2_with fail
  go_ret2
  exact ⟨(by rw [HE.out]; try rfl), HB4.out⟩
set_option maxRecDepth 100000 in
set_option maxHeartbeats 8000000 in
theorem text_3 (t : Bs) (u : UseI) (y : Ex) (a : Option Addr) (c : Nat) (w : World) (hG : Good w) (hw : weightE (.mk 3 t u [y]) ≤ 5000) (hm : mayN 3 t u 1 = true) (hk : KidsAt (fun _ => True) w [y] (.slice a 1 c)) (hT : TextOk y) :
    Calls Tryz.prog 14 #[exV 3 t u (.slice a 1 c)] w (RetSB w (textE (.mk 3 t u [y]))) := by
  rw [weightE] at hw
  have HM := Lib.hid (test_may 3 t u a 1 c _ (hG.next ((Below.refl w.heap.size w).alloc (Nat.le_refl _) (.cells (exL 3 t u (.slice a 1 c)).toArray 26))) (by omega) (by omega) (by omega) (by omega))
  rw [hm] at HM
  have HTX := Lib.hid (fun (w1 : World) hb => tx_start (w := w) (w1 := w1) (k := 3) (t := t) (u := u) (l := [y]) (a := a) (c := c) hG hk hb)
  have HE := Lib.hid (show textE (.mk 3 t u [y]) = ([33] ++ kidT 3 y.kind (textE y).1, (textE y).2) by
    rw [textE_mk, show [y].length = 1 from rfl, hm, cond_true, nodeT_3, textL_one]; rfl)
  have hwy := weight_kid (show y ∈ [y] by simp)
  have htl := textE_len y
  have hlen : (textE y).1.length ≤ 1000000 := by omega
  have hkl := kid_len 3 y.kind (textE y).1
  have HK := Lib.hid (fun (W : World) (bx bk bc : Nat) (h : TxK W bx bk bc 3 t u [y] a c) => text_kid 0 3 y [3, 4, 5, 6, 7, 8, 9, 10, 11, 12] _ bx 3 t u [y] a c W h.good h.box h.kids rfl (by simp) hT hlen (has_3 y.kind) (by decide) h.ints)
  obtain ⟨K, hK⟩ : ∃ K, kidT 3 y.kind (textE y).1 = K := ⟨_, rfl⟩
  obtain ⟨q, hq⟩ : ∃ q, (textE y).2 = q := ⟨_, rfl⟩
  rw [hK, hq] at HK HE
  have hKl : K.length ≤ 1000002 := by rw [← hK]; omega
  clear hw hm hk hwy htl hlen hkl hK hq hT
  go_enter Tryz.func14, Tryz.ntmps14
  go_wp2_with fail
  refine HM.out.mono ?_
  rintro e w1 ⟨rfl, hb1⟩
  have HX := Lib.hid (HTX.out w1 hb1).1
  have HB := Lib.hid (HTX.out w1 hb1).2
  clear hb1
  go_upto_region 6 with fail
  generalize (w1.alloc (.cells #[.func (.func 24) #[] #[.pointer (some ⟨w.heap.size, 0, none⟩)]] 57)).alloc (.cells #[.int .i64 3, .int .i64 4, .int .i64 5, .int .i64 6, .int .i64 7, .int .i64 8, .int .i64 9, .int .i64 10, .int .i64 11, .int .i64 12] 3) = W3 at *
  obtain ⟨p0, p1, p2, p3, p4, p5, p6, p7, p8, p9⟩ := ten_cells HX.out.box
  have d0 := HX.out.clo
  go_wp2_with fail
  refine (HK.out W3 _ _ _ HX.out).mono ?_
  rintro e w4 ⟨rfl, hb4⟩
  have HB4 := Lib.hid (HB.out.trans (hb4.mono HB.out.size))
  clear hb4 p0 p1 p2 p3 p4 p5 p6 p7 p8 p9 d0
  go_wp2_with fail
  go_ret2
  exact ⟨by rw [HE.out]; exact ret_sb (by simp) rfl, HB4.out⟩
set_option maxRecDepth 100000 in
set_option maxHeartbeats 8000000 in
theorem text_1 (t : Bs) (u : UseI) (ya yb : Ex) (a : Option Addr) (c : Nat) (w : World) (hG : Good w) (hw : weightE (.mk 1 t u [ya, yb]) ≤ 5000) (hm : mayN 1 t u 2 = true) (hk : KidsAt (fun _ => True) w [ya, yb] (.slice a 2 c)) (hTa : TextOk ya) (hTb : TextOk yb) :
    Calls Tryz.prog 14 #[exV 1 t u (.slice a 2 c)] w (RetSB w (textE (.mk 1 t u [ya, yb]))) := by
  rw [weightE] at hw
  have HM := Lib.hid (test_may 1 t u a 2 c _ (hG.next ((Below.refl w.heap.size w).alloc (Nat.le_refl _) (.cells (exL 1 t u (.slice a 2 c)).toArray 26))) (by omega) (by omega) (by omega) (by omega))
  rw [hm] at HM
  have HTX := Lib.hid (fun (w1 : World) hb => tx_start (w := w) (w1 := w1) (k := 1) (t := t) (u := u) (l := [ya, yb]) (a := a) (c := c) hG hk hb)
  have HE := Lib.hid (show textE (.mk 1 t u [ya, yb]) = twoT [124] 1 2 (textL [ya, yb]) by
    rw [textE_mk, show [ya, yb].length = 2 from rfl, hm]; rfl)
  have hwa := weight_kid (show ya ∈ [ya, yb] by simp)
  have hwb := weight_kid (show yb ∈ [ya, yb] by simp)
  have hta := textE_len ya
  have htb := textE_len yb
  have hla : (textE ya).1.length ≤ 1000000 := by omega
  have hlb : (textE yb).1.length ≤ 1000000 := by omega
  have H2 := Lib.hid (fun (L1 L2 : List Int) (v1 v2 : Value) (W : World) (bx bk bc : Nat) (h : TxK W bx bk bc 1 t u [ya, yb] a c) (h1 : L1.contains ya.kind = decide (1 ≤ ya.kind ∧ ya.kind ≤ 12)) (h2 : L2.contains yb.kind = decide (2 ≤ yb.kind ∧ yb.kind ≤ 12)) (hl1 : L1.length ≤ 1000) (hl2 : L2.length ≤ 1000) (hv1 : IntsAt W v1 L1) (hv2 : IntsAt W v2 L2) => text_two [124] 1 2 ya yb L1 L2 v1 v2 bx bk 1 t u a c W h.two (by decide) hTa hTb hla hlb h1 h2 hl1 hl2 hv1 hv2)
  rw [HE.out]
  obtain ⟨R, hR⟩ : ∃ R, twoT [124] 1 2 (textL [ya, yb]) = R := ⟨_, rfl⟩
  rw [hR] at H2 ⊢
  clear hw hm hk hwa hwb hta htb hla hlb hR HE hTa hTb
  go_enter Tryz.func14, Tryz.ntmps14
  go_wp2_with fail
  refine HM.out.mono ?_
  rintro e w1 ⟨rfl, hb1⟩
  have HX := Lib.hid (HTX.out w1 hb1).1
  have HB := Lib.hid (HTX.out w1 hb1).2
  clear hb1
  go_upto_region 6 with fail
  generalize (w1.alloc (.cells #[.func (.func 24) #[] #[.pointer (some ⟨w.heap.size, 0, none⟩)]] 57)).alloc (.cells #[.int .i64 3, .int .i64 4, .int .i64 5, .int .i64 6, .int .i64 7, .int .i64 8, .int .i64 9, .int .i64 10, .int .i64 11, .int .i64 12] 3) = W3 at *
  obtain ⟨p0, p1, p2, p3, p4, p5, p6, p7, p8, p9⟩ := ten_cells HX.out.box
  obtain ⟨v1, W4, hr1, hI1, hB1⟩ := app_ints W3 [1, 2] [3, 4, 5, 6, 7, 8, 9, 10, 11, 12] #[.int .i64 1, .int .i64 2] rfl _ HX.out.ints (by decide) (by decide) (by decide) 55 2 rfl
  have HX4 := Lib.hid (HX.out.next hB1)
  obtain ⟨v2, W5, hr2, hI2, hB2⟩ := app_ints W4 [2] [3, 4, 5, 6, 7, 8, 9, 10, 11, 12] #[.int .i64 2] rfl _ HX4.out.ints (by decide) (by decide) (by decide) 55 1 rfl
  have HX5 := Lib.hid (HX4.out.next hB2)
  have HI1 := Lib.hid (hI1.next hB2)
  have HI2 := Lib.hid hI2
  have HB5 := Lib.hid ((HB.out.trans (hB1.mono HB.out.size)).trans (hB2.mono (HB.out.trans (hB1.mono HB.out.size)).size))
  clear hI1 hI2 hB1 hB2
  go_wp2_with (first | (at_builtin; refine wpList_app_run rfl (.tmp 20) (.tmp 21) _ rfl _ _ rfl rfl hr1 ?_) | (at_builtin; refine wpList_app_run rfl (.tmp 23) (.tmp 24) _ rfl _ _ rfl rfl hr2 ?_))
  clear hr1 hr2
  refine (H2.out _ _ _ _ W5 _ _ _ HX5.out (has_1 ya.kind) (has_2 yb.kind) (by decide) (by decide) HI1.out HI2.out).mono ?_
  rintro e w6 ⟨rfl, hb6⟩
  have HB6 := Lib.hid (HB5.out.trans (hb6.mono HB5.out.size))
  clear hb6 p0 p1 p2 p3 p4 p5 p6 p7 p8 p9
  go_wp2_with fail
  go_ret2
  exact ⟨rfl, HB6.out⟩
set_option maxRecDepth 100000 in
set_option maxHeartbeats 8000000 in
theorem text_22 (t : Bs) (u : UseI) (ya yb : Ex) (a : Option Addr) (c : Nat) (w : World) (hG : Good w) (hw : weightE (.mk 2 t u [ya, yb]) ≤ 5000) (hm : mayN 2 t u 2 = true) (hk : KidsAt (fun _ => True) w [ya, yb] (.slice a 2 c)) (hTa : TextOk ya) (hTb : TextOk yb) :
    Calls Tryz.prog 14 #[exV 2 t u (.slice a 2 c)] w (RetSB w (textE (.mk 2 t u [ya, yb]))) := by
  rw [weightE] at hw
  have HM := Lib.hid (test_may 2 t u a 2 c _ (hG.next ((Below.refl w.heap.size w).alloc (Nat.le_refl _) (.cells (exL 2 t u (.slice a 2 c)).toArray 26))) (by omega) (by omega) (by omega) (by omega))
  rw [hm] at HM
  have HTX := Lib.hid (fun (w1 : World) hb => tx_start (w := w) (w1 := w1) (k := 2) (t := t) (u := u) (l := [ya, yb]) (a := a) (c := c) hG hk hb)
  have HE := Lib.hid (show textE (.mk 2 t u [ya, yb]) = twoT [38] 2 3 (textL [ya, yb]) by
    rw [textE_mk, show [ya, yb].length = 2 from rfl, hm]; rfl)
  have hwa := weight_kid (show ya ∈ [ya, yb] by simp)
  have hwb := weight_kid (show yb ∈ [ya, yb] by simp)
  have hta := textE_len ya
  have htb := textE_len yb
  have hla : (textE ya).1.length ≤ 1000000 := by omega
  have hlb : (textE yb).1.length ≤ 1000000 := by omega
  have H2 := Lib.hid (fun (L1 L2 : List Int) (v1 v2 : Value) (W : World) (bx bk bc : Nat) (h : TxK W bx bk bc 2 t u [ya, yb] a c) (h1 : L1.contains ya.kind = decide (2 ≤ ya.kind ∧ ya.kind ≤ 12)) (h2 : L2.contains yb.kind = decide (3 ≤ yb.kind ∧ yb.kind ≤ 12)) (hl1 : L1.length ≤ 1000) (hl2 : L2.length ≤ 1000) (hv1 : IntsAt W v1 L1) (hv2 : IntsAt W v2 L2) => text_two [38] 2 3 ya yb L1 L2 v1 v2 bx bk 2 t u a c W h.two (by decide) hTa hTb hla hlb h1 h2 hl1 hl2 hv1 hv2)
  rw [HE.out]
  obtain ⟨R, hR⟩ : ∃ R, twoT [38] 2 3 (textL [ya, yb]) = R := ⟨_, rfl⟩
  rw [hR] at H2 ⊢
  clear hw hm hk hwa hwb hta htb hla hlb hR HE hTa hTb
  go_enter Tryz.func14, Tryz.ntmps14
  go_wp2_with fail
  refine HM.out.mono ?_
  rintro e w1 ⟨rfl, hb1⟩
  have HX := Lib.hid (HTX.out w1 hb1).1
  have HB := Lib.hid (HTX.out w1 hb1).2
  clear hb1
  go_upto_region 6 with fail
  generalize (w1.alloc (.cells #[.func (.func 24) #[] #[.pointer (some ⟨w.heap.size, 0, none⟩)]] 57)).alloc (.cells #[.int .i64 3, .int .i64 4, .int .i64 5, .int .i64 6, .int .i64 7, .int .i64 8, .int .i64 9, .int .i64 10, .int .i64 11, .int .i64 12] 3) = W3 at *
  obtain ⟨p0, p1, p2, p3, p4, p5, p6, p7, p8, p9⟩ := ten_cells HX.out.box
  obtain ⟨v1, W4, hr1, hI1, hB1⟩ := app_ints W3 [2] [3, 4, 5, 6, 7, 8, 9, 10, 11, 12] #[.int .i64 2] rfl _ HX.out.ints (by decide) (by decide) (by decide) 55 1 rfl
  have HX4 := Lib.hid (HX.out.next hB1)
  have HI1 := Lib.hid hI1
  have HB5 := Lib.hid (HB.out.trans (hB1.mono HB.out.size))
  clear hI1 hB1
  go_wp2_with (first | (at_builtin; refine wpList_app_run rfl (.tmp 32) (.tmp 33) _ rfl _ _ rfl rfl hr1 ?_))
  clear hr1
  refine (H2.out _ _ _ _ W4 _ _ _ HX4.out (has_2 ya.kind) (has_3 yb.kind) (by decide) (by decide) HI1.out HX4.out.ints).mono ?_
  rintro e w6 ⟨rfl, hb6⟩
  have HB6 := Lib.hid (HB5.out.trans (hb6.mono HB5.out.size))
  clear hb6 p0 p1 p2 p3 p4 p5 p6 p7 p8 p9
  go_wp2_with fail
  go_ret2
  exact ⟨rfl, HB6.out⟩
theorem up_want {o : Oper} {y : Nat → Option Bool} {A B : Prop} (h : Region.wanted o y = true) (a : A) : if Region.wanted o y = true then A else B := by rw [if_pos h]; exact a
def upSigns : UpP := ⟨fun v w => ∃ b, v = .slice (some ⟨b, 0, none⟩) 6 6 ∧ w.heap[b]? = some (.cells #[.string ⟨#[61, 61]⟩, .string ⟨#[33, 61]⟩, .string ⟨#[60]⟩, .string ⟨#[60, 61]⟩, .string ⟨#[62]⟩, .string ⟨#[62, 61]⟩] 9), fun v w w' hb ⟨b, h1, h2⟩ => ⟨b, h1, (hb.block b (Array.getElem?_eq_some_iff.1 h2).1).trans h2⟩⟩
def upSignAt (n : Nat) : UpP := ⟨fun v w => ∃ b, v = .pointer (some ⟨b, n, none⟩) ∧ w.heap[b]? = some (.cells #[.string ⟨#[61, 61]⟩, .string ⟨#[33, 61]⟩, .string ⟨#[60]⟩, .string ⟨#[60, 61]⟩, .string ⟨#[62]⟩, .string ⟨#[62, 61]⟩] 9), fun v w w' hb ⟨b, h1, h2⟩ => ⟨b, h1, (hb.block b (Array.getElem?_eq_some_iff.1 h2).1).trans h2⟩⟩
def upInts : UpP := ⟨fun v w => IntsAt w v [10, 11, 12], fun v w w' hb h => h.next hb⟩
set_option maxRecDepth 100000 in
set_option maxHeartbeats 8000000 in
theorem text_4 (t : Bs) (u : UseI) (ya yb : Ex) (a : Option Addr) (c : Nat) (w : World) (hG : Good w) (hw : weightE (.mk 4 t u [ya, yb]) ≤ 5000) (hm : mayN 4 t u 2 = true) (hk : KidsAt (fun _ => True) w [ya, yb] (.slice a 2 c)) (hTa : TextOk ya) (hTb : TextOk yb) :
    Calls Tryz.prog 14 #[exV 4 t u (.slice a 2 c)] w (RetSB w (textE (.mk 4 t u [ya, yb]))) := by
  rw [weightE] at hw
  have HM := Lib.hid (test_may 4 t u a 2 c _ (hG.next ((Below.refl w.heap.size w).alloc (Nat.le_refl _) (.cells (exL 4 t u (.slice a 2 c)).toArray 26))) (by omega) (by omega) (by omega) (by omega))
  rw [hm] at HM
  have HTX := Lib.hid (fun (w1 : World) hb => tx_start (w := w) (w1 := w1) (k := 4) (t := t) (u := u) (l := [ya, yb]) (a := a) (c := c) hG hk hb)
  have HE := Lib.hid (show textE (.mk 4 t u [ya, yb]) = twoT [61, 61] 10 10 (textL [ya, yb]) by
    rw [textE_mk, show [ya, yb].length = 2 from rfl, hm]; rfl)
  have hwa := weight_kid (show ya ∈ [ya, yb] by simp)
  have hwb := weight_kid (show yb ∈ [ya, yb] by simp)
  have hta := textE_len ya
  have htb := textE_len yb
  have hla : (textE ya).1.length ≤ 1000000 := by omega
  have hlb : (textE yb).1.length ≤ 1000000 := by omega
  have H2 := Lib.hid (fun (L1 L2 : List Int) (v1 v2 : Value) (W : World) (bx bk bc : Nat) (h : TxK W bx bk bc 4 t u [ya, yb] a c) (h1 : L1.contains ya.kind = decide (10 ≤ ya.kind ∧ ya.kind ≤ 12)) (h2 : L2.contains yb.kind = decide (10 ≤ yb.kind ∧ yb.kind ≤ 12)) (hl1 : L1.length ≤ 1000) (hl2 : L2.length ≤ 1000) (hv1 : IntsAt W v1 L1) (hv2 : IntsAt W v2 L2) => text_two [61, 61] 10 10 ya yb L1 L2 v1 v2 bx bk 4 t u a c W h.two (by decide) hTa hTb hla hlb h1 h2 hl1 hl2 hv1 hv2)
  rw [HE.out]
  obtain ⟨R, hR⟩ : ∃ R, twoT [61, 61] 10 10 (textL [ya, yb]) = R := ⟨_, rfl⟩
  rw [hR] at H2 ⊢
  clear hw hm hk hwa hwb hta htb hla hlb hR HE hTa hTb
  go_enter Tryz.func14, Tryz.ntmps14
  go_wp2_with fail
  refine HM.out.mono ?_
  rintro e w1 ⟨rfl, hb1⟩
  have HX := Lib.hid (HTX.out w1 hb1).1
  have HB := Lib.hid (HTX.out w1 hb1).2
  clear hb1
  go_upto_region 6 with fail
  generalize (w1.alloc (.cells #[.func (.func 24) #[] #[.pointer (some ⟨w.heap.size, 0, none⟩)]] 57)).alloc (.cells #[.int .i64 3, .int .i64 4, .int .i64 5, .int .i64 6, .int .i64 7, .int .i64 8, .int .i64 9, .int .i64 10, .int .i64 11, .int .i64 12] 3) = W3 at *
  obtain ⟨p0, p1, p2, p3, p4, p5, p6, p7, p8, p9⟩ := ten_cells HX.out.box
  go_upto_region 20 with fail
  have hwr : IntKind.i64.wrap 0 = 0 := by decide
  refine wp_region_up [UpP.is (.func (.func 26) #[] #[.pointer (some ⟨w1.heap.size, 0, none⟩)]), upSigns, UpP.is (.pointer (some ⟨w.heap.size, 0, none⟩)), UpP.is (.int .i64 4), UpP.is (.int .i64 0), upSignAt 0, UpP.is (.string ⟨#[61, 61]⟩), upInts, upInts, UpP.is (.tuple #[.string ⟨R.1.toArray⟩, .bool R.2]), UpP.is (.string ⟨R.1.toArray⟩), UpP.is (.bool R.2), UpP.is (.string ⟨R.1.toArray⟩), UpP.is (.bool R.2)] (by kernel_rfl) (by rfl) (by rfl) ⟨?o0, ?o1, ?o2, ?o3, ?o4, ?o5, ?o6, ?o7, ?o8, ?o9, ?o10, ?o11, ?o12, ?o13, trivial⟩ ?_
  case o0 =>
    intro a' w' hB hL hA
    have s6 := like_at hL 6 (by rfl) rfl
    refine up_want rfl ?_
    go_simp
    exact ⟨_, rfl, Below.refl _ _, rfl⟩
  case o1 =>
    intro a' w' hB hL hA
    refine up_want rfl ?_
    go_simp
    refine (ps_signs _).mono ?_
    rintro e ws ⟨rfl, rfl⟩
    exact ⟨_, rfl, (Below.refl _ _).alloc (Nat.le_refl _) _, ⟨_, rfl, heap_alloc_new _ _⟩⟩
  case o2 =>
    intro a' w' hB hL hA
    have s1 := like_at hL 1 (by rfl) rfl
    refine up_want rfl ?_
    go_simp
    exact ⟨_, rfl, Below.refl _ _, rfl⟩
  case o3 =>
    intro a' w' hB hL hA
    obtain ⟨v2, e2, rfl⟩ := up_pre hA 2 (by rfl)
    have e2 : a'.tmps[67]? = some _ := e2
    have c0 := (hB.cell (p := ⟨w.heap.size, 0, none⟩) (cell_lt p0)).trans p0
    refine up_want rfl ?_
    go_simp
    exact ⟨_, rfl, Below.refl _ _, rfl⟩
  case o4 =>
    intro a' w' hB hL hA
    obtain ⟨v3, e3, rfl⟩ := up_pre hA 3 (by rfl)
    have e3 : a'.tmps[68]? = some _ := e3
    refine up_want rfl ?_
    go_simp
    exact ⟨_, rfl, Below.refl _ _, rfl⟩
  case o5 =>
    intro a' w' hB hL hA
    obtain ⟨v1, e1, b1, rfl, h1⟩ := up_pre hA 1 (by rfl)
    have e1 : a'.tmps[66]? = some _ := e1
    obtain ⟨v4, e4, rfl⟩ := up_pre hA 4 (by rfl)
    have e4 : a'.tmps[69]? = some _ := e4
    refine up_want rfl ?_
    go_simp
    exact ⟨_, rfl, Below.refl _ _, ⟨b1, rfl, h1⟩⟩
  case o6 =>
    intro a' w' hB hL hA
    obtain ⟨v5, e5, b1, rfl, h1⟩ := up_pre hA 5 (by rfl)
    have e5 : a'.tmps[70]? = some _ := e5
    have c0 := cell_of_row _ _ 0 _ _ _ h1
    refine up_want rfl ?_
    go_simp
    exact ⟨_, rfl, Below.refl _ _, rfl⟩
  case o7 =>
    intro a' w' hB hL hA
    refine up_want rfl ?_
    go_simp
    exact ⟨_, rfl, (Below.refl _ _).alloc (Nat.le_refl _) _, ints_10 _ _ rfl⟩
  case o8 =>
    intro a' w' hB hL hA
    refine up_want rfl ?_
    go_simp
    exact ⟨_, rfl, (Below.refl _ _).alloc (Nat.le_refl _) _, ints_10 _ _ rfl⟩
  case o9 =>
    intro a' w' hB hL hA
    obtain ⟨v0, e0, rfl⟩ := up_pre hA 0 (by rfl)
    have e0 : a'.tmps[65]? = some _ := e0
    obtain ⟨v6, e6, rfl⟩ := up_pre hA 6 (by rfl)
    have e6 : a'.tmps[71]? = some _ := e6
    obtain ⟨v7, e7, h7⟩ := up_pre hA 7 (by rfl)
    have e7 : a'.tmps[72]? = some _ := e7
    obtain ⟨v8, e8, h8⟩ := up_pre hA 8 (by rfl)
    have e8 : a'.tmps[73]? = some _ := e8
    refine up_want rfl ?_
    go_simp
    refine (H2.out [10, 11, 12] [10, 11, 12] v7 v8 w' w.heap.size w1.heap.size (w1.heap.size + 1) (HX.out.next hB) (has_10 ya.kind) (has_10 yb.kind) (by decide) (by decide) h7 h8).mono ?_
    rintro e w6 ⟨rfl, hb6⟩
    exact ⟨_, rfl, hb6, rfl⟩
  case o10 =>
    intro a' w' hB hL hA
    obtain ⟨v9, e9, rfl⟩ := up_pre hA 9 (by rfl)
    have e9 : a'.tmps[74]? = some _ := e9
    refine up_want rfl ?_
    go_simp
    exact ⟨_, rfl, Below.refl _ _, rfl⟩
  case o11 =>
    intro a' w' hB hL hA
    obtain ⟨v9, e9, rfl⟩ := up_pre hA 9 (by rfl)
    have e9 : a'.tmps[74]? = some _ := e9
    refine up_want rfl ?_
    go_simp
    exact ⟨_, rfl, Below.refl _ _, rfl⟩
  case o12 =>
    intro a' w' hB hL hA
    obtain ⟨v9, e9, rfl⟩ := up_pre hA 10 (by rfl)
    have e9 : a'.tmps[75]? = some _ := e9
    refine up_want rfl ?_
    go_simp
    exact ⟨_, rfl, Below.refl _ _, rfl⟩
  case o13 =>
    intro a' w' hB hL hA
    obtain ⟨v9, e9, rfl⟩ := up_pre hA 11 (by rfl)
    have e9 : a'.tmps[76]? = some _ := e9
    refine up_want rfl ?_
    go_simp
    exact ⟨_, rfl, Below.refl _ _, rfl⟩
  intro vs w' hB hAll
  match vs, hAll with
  | [v0, v1, v2, v3, v4, v5, v6, v7, v8, v9, v10, v11, v12, v13], hAll =>
    obtain ⟨rfl, h1, rfl, rfl, rfl, h5, rfl, h7, h8, rfl, rfl, rfl, rfl, rfl, -⟩ := hAll
    have HBE := Lib.hid (HB.out.trans (hB.mono HB.out.size))
    simp only [putAll, Act.put]
    go_simp
    go_wp2_with fail
    go_ret2
    exact ⟨rfl, HBE.out⟩
set_option maxRecDepth 100000 in
set_option maxHeartbeats 8000000 in
theorem text_5 (t : Bs) (u : UseI) (ya yb : Ex) (a : Option Addr) (c : Nat) (w : World) (hG : Good w) (hw : weightE (.mk 5 t u [ya, yb]) ≤ 5000) (hm : mayN 5 t u 2 = true) (hk : KidsAt (fun _ => True) w [ya, yb] (.slice a 2 c)) (hTa : TextOk ya) (hTb : TextOk yb) :
    Calls Tryz.prog 14 #[exV 5 t u (.slice a 2 c)] w (RetSB w (textE (.mk 5 t u [ya, yb]))) := by
  rw [weightE] at hw
  have HM := Lib.hid (test_may 5 t u a 2 c _ (hG.next ((Below.refl w.heap.size w).alloc (Nat.le_refl _) (.cells (exL 5 t u (.slice a 2 c)).toArray 26))) (by omega) (by omega) (by omega) (by omega))
  rw [hm] at HM
  have HTX := Lib.hid (fun (w1 : World) hb => tx_start (w := w) (w1 := w1) (k := 5) (t := t) (u := u) (l := [ya, yb]) (a := a) (c := c) hG hk hb)
  have HE := Lib.hid (show textE (.mk 5 t u [ya, yb]) = twoT [33, 61] 10 10 (textL [ya, yb]) by
    rw [textE_mk, show [ya, yb].length = 2 from rfl, hm]; rfl)
  have hwa := weight_kid (show ya ∈ [ya, yb] by simp)
  have hwb := weight_kid (show yb ∈ [ya, yb] by simp)
  have hta := textE_len ya
  have htb := textE_len yb
  have hla : (textE ya).1.length ≤ 1000000 := by omega
  have hlb : (textE yb).1.length ≤ 1000000 := by omega
  have H2 := Lib.hid (fun (L1 L2 : List Int) (v1 v2 : Value) (W : World) (bx bk bc : Nat) (h : TxK W bx bk bc 5 t u [ya, yb] a c) (h1 : L1.contains ya.kind = decide (10 ≤ ya.kind ∧ ya.kind ≤ 12)) (h2 : L2.contains yb.kind = decide (10 ≤ yb.kind ∧ yb.kind ≤ 12)) (hl1 : L1.length ≤ 1000) (hl2 : L2.length ≤ 1000) (hv1 : IntsAt W v1 L1) (hv2 : IntsAt W v2 L2) => text_two [33, 61] 10 10 ya yb L1 L2 v1 v2 bx bk 5 t u a c W h.two (by decide) hTa hTb hla hlb h1 h2 hl1 hl2 hv1 hv2)
  rw [HE.out]
  obtain ⟨R, hR⟩ : ∃ R, twoT [33, 61] 10 10 (textL [ya, yb]) = R := ⟨_, rfl⟩
  rw [hR] at H2 ⊢
  clear hw hm hk hwa hwb hta htb hla hlb hR HE hTa hTb
  go_enter Tryz.func14, Tryz.ntmps14
  go_wp2_with fail
  refine HM.out.mono ?_
  rintro e w1 ⟨rfl, hb1⟩
  have HX := Lib.hid (HTX.out w1 hb1).1
  have HB := Lib.hid (HTX.out w1 hb1).2
  clear hb1
  go_upto_region 6 with fail
  generalize (w1.alloc (.cells #[.func (.func 24) #[] #[.pointer (some ⟨w.heap.size, 0, none⟩)]] 57)).alloc (.cells #[.int .i64 3, .int .i64 4, .int .i64 5, .int .i64 6, .int .i64 7, .int .i64 8, .int .i64 9, .int .i64 10, .int .i64 11, .int .i64 12] 3) = W3 at *
  obtain ⟨p0, p1, p2, p3, p4, p5, p6, p7, p8, p9⟩ := ten_cells HX.out.box
  go_upto_region 20 with fail
  have hwr : IntKind.i64.wrap 1 = 1 := by decide
  refine wp_region_up [UpP.is (.func (.func 26) #[] #[.pointer (some ⟨w1.heap.size, 0, none⟩)]), upSigns, UpP.is (.pointer (some ⟨w.heap.size, 0, none⟩)), UpP.is (.int .i64 5), UpP.is (.int .i64 1), upSignAt 1, UpP.is (.string ⟨#[33, 61]⟩), upInts, upInts, UpP.is (.tuple #[.string ⟨R.1.toArray⟩, .bool R.2]), UpP.is (.string ⟨R.1.toArray⟩), UpP.is (.bool R.2), UpP.is (.string ⟨R.1.toArray⟩), UpP.is (.bool R.2)] (by kernel_rfl) (by rfl) (by rfl) ⟨?o0, ?o1, ?o2, ?o3, ?o4, ?o5, ?o6, ?o7, ?o8, ?o9, ?o10, ?o11, ?o12, ?o13, trivial⟩ ?_
  case o0 =>
    intro a' w' hB hL hA
    have s6 := like_at hL 6 (by rfl) rfl
    refine up_want rfl ?_
    go_simp
    exact ⟨_, rfl, Below.refl _ _, rfl⟩
  case o1 =>
    intro a' w' hB hL hA
    refine up_want rfl ?_
    go_simp
    refine (ps_signs _).mono ?_
    rintro e ws ⟨rfl, rfl⟩
    exact ⟨_, rfl, (Below.refl _ _).alloc (Nat.le_refl _) _, ⟨_, rfl, heap_alloc_new _ _⟩⟩
  case o2 =>
    intro a' w' hB hL hA
    have s1 := like_at hL 1 (by rfl) rfl
    refine up_want rfl ?_
    go_simp
    exact ⟨_, rfl, Below.refl _ _, rfl⟩
  case o3 =>
    intro a' w' hB hL hA
    obtain ⟨v2, e2, rfl⟩ := up_pre hA 2 (by rfl)
    have e2 : a'.tmps[67]? = some _ := e2
    have c0 := (hB.cell (p := ⟨w.heap.size, 0, none⟩) (cell_lt p0)).trans p0
    refine up_want rfl ?_
    go_simp
    exact ⟨_, rfl, Below.refl _ _, rfl⟩
  case o4 =>
    intro a' w' hB hL hA
    obtain ⟨v3, e3, rfl⟩ := up_pre hA 3 (by rfl)
    have e3 : a'.tmps[68]? = some _ := e3
    refine up_want rfl ?_
    go_simp
    exact ⟨_, rfl, Below.refl _ _, rfl⟩
  case o5 =>
    intro a' w' hB hL hA
    obtain ⟨v1, e1, b1, rfl, h1⟩ := up_pre hA 1 (by rfl)
    have e1 : a'.tmps[66]? = some _ := e1
    obtain ⟨v4, e4, rfl⟩ := up_pre hA 4 (by rfl)
    have e4 : a'.tmps[69]? = some _ := e4
    refine up_want rfl ?_
    go_simp
    exact ⟨_, rfl, Below.refl _ _, ⟨b1, rfl, h1⟩⟩
  case o6 =>
    intro a' w' hB hL hA
    obtain ⟨v5, e5, b1, rfl, h1⟩ := up_pre hA 5 (by rfl)
    have e5 : a'.tmps[70]? = some _ := e5
    have c0 := cell_of_row _ _ 1 _ _ _ h1
    refine up_want rfl ?_
    go_simp
    exact ⟨_, rfl, Below.refl _ _, rfl⟩
  case o7 =>
    intro a' w' hB hL hA
    refine up_want rfl ?_
    go_simp
    exact ⟨_, rfl, (Below.refl _ _).alloc (Nat.le_refl _) _, ints_10 _ _ rfl⟩
  case o8 =>
    intro a' w' hB hL hA
    refine up_want rfl ?_
    go_simp
    exact ⟨_, rfl, (Below.refl _ _).alloc (Nat.le_refl _) _, ints_10 _ _ rfl⟩
  case o9 =>
    intro a' w' hB hL hA
    obtain ⟨v0, e0, rfl⟩ := up_pre hA 0 (by rfl)
    have e0 : a'.tmps[65]? = some _ := e0
    obtain ⟨v6, e6, rfl⟩ := up_pre hA 6 (by rfl)
    have e6 : a'.tmps[71]? = some _ := e6
    obtain ⟨v7, e7, h7⟩ := up_pre hA 7 (by rfl)
    have e7 : a'.tmps[72]? = some _ := e7
    obtain ⟨v8, e8, h8⟩ := up_pre hA 8 (by rfl)
    have e8 : a'.tmps[73]? = some _ := e8
    refine up_want rfl ?_
    go_simp
    refine (H2.out [10, 11, 12] [10, 11, 12] v7 v8 w' w.heap.size w1.heap.size (w1.heap.size + 1) (HX.out.next hB) (has_10 ya.kind) (has_10 yb.kind) (by decide) (by decide) h7 h8).mono ?_
    rintro e w6 ⟨rfl, hb6⟩
    exact ⟨_, rfl, hb6, rfl⟩
  case o10 =>
    intro a' w' hB hL hA
    obtain ⟨v9, e9, rfl⟩ := up_pre hA 9 (by rfl)
    have e9 : a'.tmps[74]? = some _ := e9
    refine up_want rfl ?_
    go_simp
    exact ⟨_, rfl, Below.refl _ _, rfl⟩
  case o11 =>
    intro a' w' hB hL hA
    obtain ⟨v9, e9, rfl⟩ := up_pre hA 9 (by rfl)
    have e9 : a'.tmps[74]? = some _ := e9
    refine up_want rfl ?_
    go_simp
    exact ⟨_, rfl, Below.refl _ _, rfl⟩
  case o12 =>
    intro a' w' hB hL hA
    obtain ⟨v9, e9, rfl⟩ := up_pre hA 10 (by rfl)
    have e9 : a'.tmps[75]? = some _ := e9
    refine up_want rfl ?_
    go_simp
    exact ⟨_, rfl, Below.refl _ _, rfl⟩
  case o13 =>
    intro a' w' hB hL hA
    obtain ⟨v9, e9, rfl⟩ := up_pre hA 11 (by rfl)
    have e9 : a'.tmps[76]? = some _ := e9
    refine up_want rfl ?_
    go_simp
    exact ⟨_, rfl, Below.refl _ _, rfl⟩
  intro vs w' hB hAll
  match vs, hAll with
  | [v0, v1, v2, v3, v4, v5, v6, v7, v8, v9, v10, v11, v12, v13], hAll =>
    obtain ⟨rfl, h1, rfl, rfl, rfl, h5, rfl, h7, h8, rfl, rfl, rfl, rfl, rfl, -⟩ := hAll
    have HBE := Lib.hid (HB.out.trans (hB.mono HB.out.size))
    simp only [putAll, Act.put]
    go_simp
    go_wp2_with fail
    go_ret2
    exact ⟨rfl, HBE.out⟩
set_option maxRecDepth 100000 in
set_option maxHeartbeats 8000000 in
theorem text_6 (t : Bs) (u : UseI) (ya yb : Ex) (a : Option Addr) (c : Nat) (w : World) (hG : Good w) (hw : weightE (.mk 6 t u [ya, yb]) ≤ 5000) (hm : mayN 6 t u 2 = true) (hk : KidsAt (fun _ => True) w [ya, yb] (.slice a 2 c)) (hTa : TextOk ya) (hTb : TextOk yb) :
    Calls Tryz.prog 14 #[exV 6 t u (.slice a 2 c)] w (RetSB w (textE (.mk 6 t u [ya, yb]))) := by
  rw [weightE] at hw
  have HM := Lib.hid (test_may 6 t u a 2 c _ (hG.next ((Below.refl w.heap.size w).alloc (Nat.le_refl _) (.cells (exL 6 t u (.slice a 2 c)).toArray 26))) (by omega) (by omega) (by omega) (by omega))
  rw [hm] at HM
  have HTX := Lib.hid (fun (w1 : World) hb => tx_start (w := w) (w1 := w1) (k := 6) (t := t) (u := u) (l := [ya, yb]) (a := a) (c := c) hG hk hb)
  have HE := Lib.hid (show textE (.mk 6 t u [ya, yb]) = twoT [60] 10 10 (textL [ya, yb]) by
    rw [textE_mk, show [ya, yb].length = 2 from rfl, hm]; rfl)
  have hwa := weight_kid (show ya ∈ [ya, yb] by simp)
  have hwb := weight_kid (show yb ∈ [ya, yb] by simp)
  have hta := textE_len ya
  have htb := textE_len yb
  have hla : (textE ya).1.length ≤ 1000000 := by omega
  have hlb : (textE yb).1.length ≤ 1000000 := by omega
  have H2 := Lib.hid (fun (L1 L2 : List Int) (v1 v2 : Value) (W : World) (bx bk bc : Nat) (h : TxK W bx bk bc 6 t u [ya, yb] a c) (h1 : L1.contains ya.kind = decide (10 ≤ ya.kind ∧ ya.kind ≤ 12)) (h2 : L2.contains yb.kind = decide (10 ≤ yb.kind ∧ yb.kind ≤ 12)) (hl1 : L1.length ≤ 1000) (hl2 : L2.length ≤ 1000) (hv1 : IntsAt W v1 L1) (hv2 : IntsAt W v2 L2) => text_two [60] 10 10 ya yb L1 L2 v1 v2 bx bk 6 t u a c W h.two (by decide) hTa hTb hla hlb h1 h2 hl1 hl2 hv1 hv2)
  rw [HE.out]
  obtain ⟨R, hR⟩ : ∃ R, twoT [60] 10 10 (textL [ya, yb]) = R := ⟨_, rfl⟩
  rw [hR] at H2 ⊢
  clear hw hm hk hwa hwb hta htb hla hlb hR HE hTa hTb
  go_enter Tryz.func14, Tryz.ntmps14
  go_wp2_with fail
  refine HM.out.mono ?_
  rintro e w1 ⟨rfl, hb1⟩
  have HX := Lib.hid (HTX.out w1 hb1).1
  have HB := Lib.hid (HTX.out w1 hb1).2
  clear hb1
  go_upto_region 6 with fail
  generalize (w1.alloc (.cells #[.func (.func 24) #[] #[.pointer (some ⟨w.heap.size, 0, none⟩)]] 57)).alloc (.cells #[.int .i64 3, .int .i64 4, .int .i64 5, .int .i64 6, .int .i64 7, .int .i64 8, .int .i64 9, .int .i64 10, .int .i64 11, .int .i64 12] 3) = W3 at *
  obtain ⟨p0, p1, p2, p3, p4, p5, p6, p7, p8, p9⟩ := ten_cells HX.out.box
  go_upto_region 20 with fail
  have hwr : IntKind.i64.wrap 2 = 2 := by decide
  refine wp_region_up [UpP.is (.func (.func 26) #[] #[.pointer (some ⟨w1.heap.size, 0, none⟩)]), upSigns, UpP.is (.pointer (some ⟨w.heap.size, 0, none⟩)), UpP.is (.int .i64 6), UpP.is (.int .i64 2), upSignAt 2, UpP.is (.string ⟨#[60]⟩), upInts, upInts, UpP.is (.tuple #[.string ⟨R.1.toArray⟩, .bool R.2]), UpP.is (.string ⟨R.1.toArray⟩), UpP.is (.bool R.2), UpP.is (.string ⟨R.1.toArray⟩), UpP.is (.bool R.2)] (by kernel_rfl) (by rfl) (by rfl) ⟨?o0, ?o1, ?o2, ?o3, ?o4, ?o5, ?o6, ?o7, ?o8, ?o9, ?o10, ?o11, ?o12, ?o13, trivial⟩ ?_
  case o0 =>
    intro a' w' hB hL hA
    have s6 := like_at hL 6 (by rfl) rfl
    refine up_want rfl ?_
    go_simp
    exact ⟨_, rfl, Below.refl _ _, rfl⟩
  case o1 =>
    intro a' w' hB hL hA
    refine up_want rfl ?_
    go_simp
    refine (ps_signs _).mono ?_
    rintro e ws ⟨rfl, rfl⟩
    exact ⟨_, rfl, (Below.refl _ _).alloc (Nat.le_refl _) _, ⟨_, rfl, heap_alloc_new _ _⟩⟩
  case o2 =>
    intro a' w' hB hL hA
    have s1 := like_at hL 1 (by rfl) rfl
    refine up_want rfl ?_
    go_simp
    exact ⟨_, rfl, Below.refl _ _, rfl⟩
  case o3 =>
    intro a' w' hB hL hA
    obtain ⟨v2, e2, rfl⟩ := up_pre hA 2 (by rfl)
    have e2 : a'.tmps[67]? = some _ := e2
    have c0 := (hB.cell (p := ⟨w.heap.size, 0, none⟩) (cell_lt p0)).trans p0
    refine up_want rfl ?_
    go_simp
    exact ⟨_, rfl, Below.refl _ _, rfl⟩
  case o4 =>
    intro a' w' hB hL hA
    obtain ⟨v3, e3, rfl⟩ := up_pre hA 3 (by rfl)
    have e3 : a'.tmps[68]? = some _ := e3
    refine up_want rfl ?_
    go_simp
    exact ⟨_, rfl, Below.refl _ _, rfl⟩
  case o5 =>
    intro a' w' hB hL hA
    obtain ⟨v1, e1, b1, rfl, h1⟩ := up_pre hA 1 (by rfl)
    have e1 : a'.tmps[66]? = some _ := e1
    obtain ⟨v4, e4, rfl⟩ := up_pre hA 4 (by rfl)
    have e4 : a'.tmps[69]? = some _ := e4
    refine up_want rfl ?_
    go_simp
    exact ⟨_, rfl, Below.refl _ _, ⟨b1, rfl, h1⟩⟩
  case o6 =>
    intro a' w' hB hL hA
    obtain ⟨v5, e5, b1, rfl, h1⟩ := up_pre hA 5 (by rfl)
    have e5 : a'.tmps[70]? = some _ := e5
    have c0 := cell_of_row _ _ 2 _ _ _ h1
    refine up_want rfl ?_
    go_simp
    exact ⟨_, rfl, Below.refl _ _, rfl⟩
  case o7 =>
    intro a' w' hB hL hA
    refine up_want rfl ?_
    go_simp
    exact ⟨_, rfl, (Below.refl _ _).alloc (Nat.le_refl _) _, ints_10 _ _ rfl⟩
  case o8 =>
    intro a' w' hB hL hA
    refine up_want rfl ?_
    go_simp
    exact ⟨_, rfl, (Below.refl _ _).alloc (Nat.le_refl _) _, ints_10 _ _ rfl⟩
  case o9 =>
    intro a' w' hB hL hA
    obtain ⟨v0, e0, rfl⟩ := up_pre hA 0 (by rfl)
    have e0 : a'.tmps[65]? = some _ := e0
    obtain ⟨v6, e6, rfl⟩ := up_pre hA 6 (by rfl)
    have e6 : a'.tmps[71]? = some _ := e6
    obtain ⟨v7, e7, h7⟩ := up_pre hA 7 (by rfl)
    have e7 : a'.tmps[72]? = some _ := e7
    obtain ⟨v8, e8, h8⟩ := up_pre hA 8 (by rfl)
    have e8 : a'.tmps[73]? = some _ := e8
    refine up_want rfl ?_
    go_simp
    refine (H2.out [10, 11, 12] [10, 11, 12] v7 v8 w' w.heap.size w1.heap.size (w1.heap.size + 1) (HX.out.next hB) (has_10 ya.kind) (has_10 yb.kind) (by decide) (by decide) h7 h8).mono ?_
    rintro e w6 ⟨rfl, hb6⟩
    exact ⟨_, rfl, hb6, rfl⟩
  case o10 =>
    intro a' w' hB hL hA
    obtain ⟨v9, e9, rfl⟩ := up_pre hA 9 (by rfl)
    have e9 : a'.tmps[74]? = some _ := e9
    refine up_want rfl ?_
    go_simp
    exact ⟨_, rfl, Below.refl _ _, rfl⟩
  case o11 =>
    intro a' w' hB hL hA
    obtain ⟨v9, e9, rfl⟩ := up_pre hA 9 (by rfl)
    have e9 : a'.tmps[74]? = some _ := e9
    refine up_want rfl ?_
    go_simp
    exact ⟨_, rfl, Below.refl _ _, rfl⟩
  case o12 =>
    intro a' w' hB hL hA
    obtain ⟨v9, e9, rfl⟩ := up_pre hA 10 (by rfl)
    have e9 : a'.tmps[75]? = some _ := e9
    refine up_want rfl ?_
    go_simp
    exact ⟨_, rfl, Below.refl _ _, rfl⟩
  case o13 =>
    intro a' w' hB hL hA
    obtain ⟨v9, e9, rfl⟩ := up_pre hA 11 (by rfl)
    have e9 : a'.tmps[76]? = some _ := e9
    refine up_want rfl ?_
    go_simp
    exact ⟨_, rfl, Below.refl _ _, rfl⟩
  intro vs w' hB hAll
  match vs, hAll with
  | [v0, v1, v2, v3, v4, v5, v6, v7, v8, v9, v10, v11, v12, v13], hAll =>
    obtain ⟨rfl, h1, rfl, rfl, rfl, h5, rfl, h7, h8, rfl, rfl, rfl, rfl, rfl, -⟩ := hAll
    have HBE := Lib.hid (HB.out.trans (hB.mono HB.out.size))
    simp only [putAll, Act.put]
    go_simp
    go_wp2_with fail
    go_ret2
    exact ⟨rfl, HBE.out⟩
set_option maxRecDepth 100000 in
set_option maxHeartbeats 8000000 in
theorem text_7 (t : Bs) (u : UseI) (ya yb : Ex) (a : Option Addr) (c : Nat) (w : World) (hG : Good w) (hw : weightE (.mk 7 t u [ya, yb]) ≤ 5000) (hm : mayN 7 t u 2 = true) (hk : KidsAt (fun _ => True) w [ya, yb] (.slice a 2 c)) (hTa : TextOk ya) (hTb : TextOk yb) :
    Calls Tryz.prog 14 #[exV 7 t u (.slice a 2 c)] w (RetSB w (textE (.mk 7 t u [ya, yb]))) := by
  rw [weightE] at hw
  have HM := Lib.hid (test_may 7 t u a 2 c _ (hG.next ((Below.refl w.heap.size w).alloc (Nat.le_refl _) (.cells (exL 7 t u (.slice a 2 c)).toArray 26))) (by omega) (by omega) (by omega) (by omega))
  rw [hm] at HM
  have HTX := Lib.hid (fun (w1 : World) hb => tx_start (w := w) (w1 := w1) (k := 7) (t := t) (u := u) (l := [ya, yb]) (a := a) (c := c) hG hk hb)
  have HE := Lib.hid (show textE (.mk 7 t u [ya, yb]) = twoT [60, 61] 10 10 (textL [ya, yb]) by
    rw [textE_mk, show [ya, yb].length = 2 from rfl, hm]; rfl)
  have hwa := weight_kid (show ya ∈ [ya, yb] by simp)
  have hwb := weight_kid (show yb ∈ [ya, yb] by simp)
  have hta := textE_len ya
  have htb := textE_len yb
  have hla : (textE ya).1.length ≤ 1000000 := by omega
  have hlb : (textE yb).1.length ≤ 1000000 := by omega
  have H2 := Lib.hid (fun (L1 L2 : List Int) (v1 v2 : Value) (W : World) (bx bk bc : Nat) (h : TxK W bx bk bc 7 t u [ya, yb] a c) (h1 : L1.contains ya.kind = decide (10 ≤ ya.kind ∧ ya.kind ≤ 12)) (h2 : L2.contains yb.kind = decide (10 ≤ yb.kind ∧ yb.kind ≤ 12)) (hl1 : L1.length ≤ 1000) (hl2 : L2.length ≤ 1000) (hv1 : IntsAt W v1 L1) (hv2 : IntsAt W v2 L2) => text_two [60, 61] 10 10 ya yb L1 L2 v1 v2 bx bk 7 t u a c W h.two (by decide) hTa hTb hla hlb h1 h2 hl1 hl2 hv1 hv2)
  rw [HE.out]
  obtain ⟨R, hR⟩ : ∃ R, twoT [60, 61] 10 10 (textL [ya, yb]) = R := ⟨_, rfl⟩
  rw [hR] at H2 ⊢
  clear hw hm hk hwa hwb hta htb hla hlb hR HE hTa hTb
  go_enter Tryz.func14, Tryz.ntmps14
  go_wp2_with fail
  refine HM.out.mono ?_
  rintro e w1 ⟨rfl, hb1⟩
  have HX := Lib.hid (HTX.out w1 hb1).1
  have HB := Lib.hid (HTX.out w1 hb1).2
  clear hb1
  go_upto_region 6 with fail
  generalize (w1.alloc (.cells #[.func (.func 24) #[] #[.pointer (some ⟨w.heap.size, 0, none⟩)]] 57)).alloc (.cells #[.int .i64 3, .int .i64 4, .int .i64 5, .int .i64 6, .int .i64 7, .int .i64 8, .int .i64 9, .int .i64 10, .int .i64 11, .int .i64 12] 3) = W3 at *
  obtain ⟨p0, p1, p2, p3, p4, p5, p6, p7, p8, p9⟩ := ten_cells HX.out.box
  go_upto_region 20 with fail
  have hwr : IntKind.i64.wrap 3 = 3 := by decide
  refine wp_region_up [UpP.is (.func (.func 26) #[] #[.pointer (some ⟨w1.heap.size, 0, none⟩)]), upSigns, UpP.is (.pointer (some ⟨w.heap.size, 0, none⟩)), UpP.is (.int .i64 7), UpP.is (.int .i64 3), upSignAt 3, UpP.is (.string ⟨#[60, 61]⟩), upInts, upInts, UpP.is (.tuple #[.string ⟨R.1.toArray⟩, .bool R.2]), UpP.is (.string ⟨R.1.toArray⟩), UpP.is (.bool R.2), UpP.is (.string ⟨R.1.toArray⟩), UpP.is (.bool R.2)] (by kernel_rfl) (by rfl) (by rfl) ⟨?o0, ?o1, ?o2, ?o3, ?o4, ?o5, ?o6, ?o7, ?o8, ?o9, ?o10, ?o11, ?o12, ?o13, trivial⟩ ?_
  case o0 =>
    intro a' w' hB hL hA
    have s6 := like_at hL 6 (by rfl) rfl
    refine up_want rfl ?_
    go_simp
    exact ⟨_, rfl, Below.refl _ _, rfl⟩
  case o1 =>
    intro a' w' hB hL hA
    refine up_want rfl ?_
    go_simp
    refine (ps_signs _).mono ?_
    rintro e ws ⟨rfl, rfl⟩
    exact ⟨_, rfl, (Below.refl _ _).alloc (Nat.le_refl _) _, ⟨_, rfl, heap_alloc_new _ _⟩⟩
  case o2 =>
    intro a' w' hB hL hA
    have s1 := like_at hL 1 (by rfl) rfl
    refine up_want rfl ?_
    go_simp
    exact ⟨_, rfl, Below.refl _ _, rfl⟩
  case o3 =>
    intro a' w' hB hL hA
    obtain ⟨v2, e2, rfl⟩ := up_pre hA 2 (by rfl)
    have e2 : a'.tmps[67]? = some _ := e2
    have c0 := (hB.cell (p := ⟨w.heap.size, 0, none⟩) (cell_lt p0)).trans p0
    refine up_want rfl ?_
    go_simp
    exact ⟨_, rfl, Below.refl _ _, rfl⟩
  case o4 =>
    intro a' w' hB hL hA
    obtain ⟨v3, e3, rfl⟩ := up_pre hA 3 (by rfl)
    have e3 : a'.tmps[68]? = some _ := e3
    refine up_want rfl ?_
    go_simp
    exact ⟨_, rfl, Below.refl _ _, rfl⟩
  case o5 =>
    intro a' w' hB hL hA
    obtain ⟨v1, e1, b1, rfl, h1⟩ := up_pre hA 1 (by rfl)
    have e1 : a'.tmps[66]? = some _ := e1
    obtain ⟨v4, e4, rfl⟩ := up_pre hA 4 (by rfl)
    have e4 : a'.tmps[69]? = some _ := e4
    refine up_want rfl ?_
    go_simp
    exact ⟨_, rfl, Below.refl _ _, ⟨b1, rfl, h1⟩⟩
  case o6 =>
    intro a' w' hB hL hA
    obtain ⟨v5, e5, b1, rfl, h1⟩ := up_pre hA 5 (by rfl)
    have e5 : a'.tmps[70]? = some _ := e5
    have c0 := cell_of_row _ _ 3 _ _ _ h1
    refine up_want rfl ?_
    go_simp
    exact ⟨_, rfl, Below.refl _ _, rfl⟩
  case o7 =>
    intro a' w' hB hL hA
    refine up_want rfl ?_
    go_simp
    exact ⟨_, rfl, (Below.refl _ _).alloc (Nat.le_refl _) _, ints_10 _ _ rfl⟩
  case o8 =>
    intro a' w' hB hL hA
    refine up_want rfl ?_
    go_simp
    exact ⟨_, rfl, (Below.refl _ _).alloc (Nat.le_refl _) _, ints_10 _ _ rfl⟩
  case o9 =>
    intro a' w' hB hL hA
    obtain ⟨v0, e0, rfl⟩ := up_pre hA 0 (by rfl)
    have e0 : a'.tmps[65]? = some _ := e0
    obtain ⟨v6, e6, rfl⟩ := up_pre hA 6 (by rfl)
    have e6 : a'.tmps[71]? = some _ := e6
    obtain ⟨v7, e7, h7⟩ := up_pre hA 7 (by rfl)
    have e7 : a'.tmps[72]? = some _ := e7
    obtain ⟨v8, e8, h8⟩ := up_pre hA 8 (by rfl)
    have e8 : a'.tmps[73]? = some _ := e8
    refine up_want rfl ?_
    go_simp
    refine (H2.out [10, 11, 12] [10, 11, 12] v7 v8 w' w.heap.size w1.heap.size (w1.heap.size + 1) (HX.out.next hB) (has_10 ya.kind) (has_10 yb.kind) (by decide) (by decide) h7 h8).mono ?_
    rintro e w6 ⟨rfl, hb6⟩
    exact ⟨_, rfl, hb6, rfl⟩
  case o10 =>
    intro a' w' hB hL hA
    obtain ⟨v9, e9, rfl⟩ := up_pre hA 9 (by rfl)
    have e9 : a'.tmps[74]? = some _ := e9
    refine up_want rfl ?_
    go_simp
    exact ⟨_, rfl, Below.refl _ _, rfl⟩
  case o11 =>
    intro a' w' hB hL hA
    obtain ⟨v9, e9, rfl⟩ := up_pre hA 9 (by rfl)
    have e9 : a'.tmps[74]? = some _ := e9
    refine up_want rfl ?_
    go_simp
    exact ⟨_, rfl, Below.refl _ _, rfl⟩
  case o12 =>
    intro a' w' hB hL hA
    obtain ⟨v9, e9, rfl⟩ := up_pre hA 10 (by rfl)
    have e9 : a'.tmps[75]? = some _ := e9
    refine up_want rfl ?_
    go_simp
    exact ⟨_, rfl, Below.refl _ _, rfl⟩
  case o13 =>
    intro a' w' hB hL hA
    obtain ⟨v9, e9, rfl⟩ := up_pre hA 11 (by rfl)
    have e9 : a'.tmps[76]? = some _ := e9
    refine up_want rfl ?_
    go_simp
    exact ⟨_, rfl, Below.refl _ _, rfl⟩
  intro vs w' hB hAll
  match vs, hAll with
  | [v0, v1, v2, v3, v4, v5, v6, v7, v8, v9, v10, v11, v12, v13], hAll =>
    obtain ⟨rfl, h1, rfl, rfl, rfl, h5, rfl, h7, h8, rfl, rfl, rfl, rfl, rfl, -⟩ := hAll
    have HBE := Lib.hid (HB.out.trans (hB.mono HB.out.size))
    simp only [putAll, Act.put]
    go_simp
    go_wp2_with fail
    go_ret2
    exact ⟨rfl, HBE.out⟩
set_option maxRecDepth 100000 in
set_option maxHeartbeats 8000000 in
theorem text_8 (t : Bs) (u : UseI) (ya yb : Ex) (a : Option Addr) (c : Nat) (w : World) (hG : Good w) (hw : weightE (.mk 8 t u [ya, yb]) ≤ 5000) (hm : mayN 8 t u 2 = true) (hk : KidsAt (fun _ => True) w [ya, yb] (.slice a 2 c)) (hTa : TextOk ya) (hTb : TextOk yb) :
    Calls Tryz.prog 14 #[exV 8 t u (.slice a 2 c)] w (RetSB w (textE (.mk 8 t u [ya, yb]))) := by
  rw [weightE] at hw
  have HM := Lib.hid (test_may 8 t u a 2 c _ (hG.next ((Below.refl w.heap.size w).alloc (Nat.le_refl _) (.cells (exL 8 t u (.slice a 2 c)).toArray 26))) (by omega) (by omega) (by omega) (by omega))
  rw [hm] at HM
  have HTX := Lib.hid (fun (w1 : World) hb => tx_start (w := w) (w1 := w1) (k := 8) (t := t) (u := u) (l := [ya, yb]) (a := a) (c := c) hG hk hb)
  have HE := Lib.hid (show textE (.mk 8 t u [ya, yb]) = twoT [62] 10 10 (textL [ya, yb]) by
    rw [textE_mk, show [ya, yb].length = 2 from rfl, hm]; rfl)
  have hwa := weight_kid (show ya ∈ [ya, yb] by simp)
  have hwb := weight_kid (show yb ∈ [ya, yb] by simp)
  have hta := textE_len ya
  have htb := textE_len yb
  have hla : (textE ya).1.length ≤ 1000000 := by omega
  have hlb : (textE yb).1.length ≤ 1000000 := by omega
  have H2 := Lib.hid (fun (L1 L2 : List Int) (v1 v2 : Value) (W : World) (bx bk bc : Nat) (h : TxK W bx bk bc 8 t u [ya, yb] a c) (h1 : L1.contains ya.kind = decide (10 ≤ ya.kind ∧ ya.kind ≤ 12)) (h2 : L2.contains yb.kind = decide (10 ≤ yb.kind ∧ yb.kind ≤ 12)) (hl1 : L1.length ≤ 1000) (hl2 : L2.length ≤ 1000) (hv1 : IntsAt W v1 L1) (hv2 : IntsAt W v2 L2) => text_two [62] 10 10 ya yb L1 L2 v1 v2 bx bk 8 t u a c W h.two (by decide) hTa hTb hla hlb h1 h2 hl1 hl2 hv1 hv2)
  rw [HE.out]
  obtain ⟨R, hR⟩ : ∃ R, twoT [62] 10 10 (textL [ya, yb]) = R := ⟨_, rfl⟩
  rw [hR] at H2 ⊢
  clear hw hm hk hwa hwb hta htb hla hlb hR HE hTa hTb
  go_enter Tryz.func14, Tryz.ntmps14
  go_wp2_with fail
  refine HM.out.mono ?_
  rintro e w1 ⟨rfl, hb1⟩
  have HX := Lib.hid (HTX.out w1 hb1).1
  have HB := Lib.hid (HTX.out w1 hb1).2
  clear hb1
  go_upto_region 6 with fail
  generalize (w1.alloc (.cells #[.func (.func 24) #[] #[.pointer (some ⟨w.heap.size, 0, none⟩)]] 57)).alloc (.cells #[.int .i64 3, .int .i64 4, .int .i64 5, .int .i64 6, .int .i64 7, .int .i64 8, .int .i64 9, .int .i64 10, .int .i64 11, .int .i64 12] 3) = W3 at *
  obtain ⟨p0, p1, p2, p3, p4, p5, p6, p7, p8, p9⟩ := ten_cells HX.out.box
  go_upto_region 20 with fail
  have hwr : IntKind.i64.wrap 4 = 4 := by decide
  refine wp_region_up [UpP.is (.func (.func 26) #[] #[.pointer (some ⟨w1.heap.size, 0, none⟩)]), upSigns, UpP.is (.pointer (some ⟨w.heap.size, 0, none⟩)), UpP.is (.int .i64 8), UpP.is (.int .i64 4), upSignAt 4, UpP.is (.string ⟨#[62]⟩), upInts, upInts, UpP.is (.tuple #[.string ⟨R.1.toArray⟩, .bool R.2]), UpP.is (.string ⟨R.1.toArray⟩), UpP.is (.bool R.2), UpP.is (.string ⟨R.1.toArray⟩), UpP.is (.bool R.2)] (by kernel_rfl) (by rfl) (by rfl) ⟨?o0, ?o1, ?o2, ?o3, ?o4, ?o5, ?o6, ?o7, ?o8, ?o9, ?o10, ?o11, ?o12, ?o13, trivial⟩ ?_
  case o0 =>
    intro a' w' hB hL hA
    have s6 := like_at hL 6 (by rfl) rfl
    refine up_want rfl ?_
    go_simp
    exact ⟨_, rfl, Below.refl _ _, rfl⟩
  case o1 =>
    intro a' w' hB hL hA
    refine up_want rfl ?_
    go_simp
    refine (ps_signs _).mono ?_
    rintro e ws ⟨rfl, rfl⟩
    exact ⟨_, rfl, (Below.refl _ _).alloc (Nat.le_refl _) _, ⟨_, rfl, heap_alloc_new _ _⟩⟩
  case o2 =>
    intro a' w' hB hL hA
    have s1 := like_at hL 1 (by rfl) rfl
    refine up_want rfl ?_
    go_simp
    exact ⟨_, rfl, Below.refl _ _, rfl⟩
  case o3 =>
    intro a' w' hB hL hA
    obtain ⟨v2, e2, rfl⟩ := up_pre hA 2 (by rfl)
    have e2 : a'.tmps[67]? = some _ := e2
    have c0 := (hB.cell (p := ⟨w.heap.size, 0, none⟩) (cell_lt p0)).trans p0
    refine up_want rfl ?_
    go_simp
    exact ⟨_, rfl, Below.refl _ _, rfl⟩
  case o4 =>
    intro a' w' hB hL hA
    obtain ⟨v3, e3, rfl⟩ := up_pre hA 3 (by rfl)
    have e3 : a'.tmps[68]? = some _ := e3
    refine up_want rfl ?_
    go_simp
    exact ⟨_, rfl, Below.refl _ _, rfl⟩
  case o5 =>
    intro a' w' hB hL hA
    obtain ⟨v1, e1, b1, rfl, h1⟩ := up_pre hA 1 (by rfl)
    have e1 : a'.tmps[66]? = some _ := e1
    obtain ⟨v4, e4, rfl⟩ := up_pre hA 4 (by rfl)
    have e4 : a'.tmps[69]? = some _ := e4
    refine up_want rfl ?_
    go_simp
    exact ⟨_, rfl, Below.refl _ _, ⟨b1, rfl, h1⟩⟩
  case o6 =>
    intro a' w' hB hL hA
    obtain ⟨v5, e5, b1, rfl, h1⟩ := up_pre hA 5 (by rfl)
    have e5 : a'.tmps[70]? = some _ := e5
    have c0 := cell_of_row _ _ 4 _ _ _ h1
    refine up_want rfl ?_
    go_simp
    exact ⟨_, rfl, Below.refl _ _, rfl⟩
  case o7 =>
    intro a' w' hB hL hA
    refine up_want rfl ?_
    go_simp
    exact ⟨_, rfl, (Below.refl _ _).alloc (Nat.le_refl _) _, ints_10 _ _ rfl⟩
  case o8 =>
    intro a' w' hB hL hA
    refine up_want rfl ?_
    go_simp
    exact ⟨_, rfl, (Below.refl _ _).alloc (Nat.le_refl _) _, ints_10 _ _ rfl⟩
  case o9 =>
    intro a' w' hB hL hA
    obtain ⟨v0, e0, rfl⟩ := up_pre hA 0 (by rfl)
    have e0 : a'.tmps[65]? = some _ := e0
    obtain ⟨v6, e6, rfl⟩ := up_pre hA 6 (by rfl)
    have e6 : a'.tmps[71]? = some _ := e6
    obtain ⟨v7, e7, h7⟩ := up_pre hA 7 (by rfl)
    have e7 : a'.tmps[72]? = some _ := e7
    obtain ⟨v8, e8, h8⟩ := up_pre hA 8 (by rfl)
    have e8 : a'.tmps[73]? = some _ := e8
    refine up_want rfl ?_
    go_simp
    refine (H2.out [10, 11, 12] [10, 11, 12] v7 v8 w' w.heap.size w1.heap.size (w1.heap.size + 1) (HX.out.next hB) (has_10 ya.kind) (has_10 yb.kind) (by decide) (by decide) h7 h8).mono ?_
    rintro e w6 ⟨rfl, hb6⟩
    exact ⟨_, rfl, hb6, rfl⟩
  case o10 =>
    intro a' w' hB hL hA
    obtain ⟨v9, e9, rfl⟩ := up_pre hA 9 (by rfl)
    have e9 : a'.tmps[74]? = some _ := e9
    refine up_want rfl ?_
    go_simp
    exact ⟨_, rfl, Below.refl _ _, rfl⟩
  case o11 =>
    intro a' w' hB hL hA
    obtain ⟨v9, e9, rfl⟩ := up_pre hA 9 (by rfl)
    have e9 : a'.tmps[74]? = some _ := e9
    refine up_want rfl ?_
    go_simp
    exact ⟨_, rfl, Below.refl _ _, rfl⟩
  case o12 =>
    intro a' w' hB hL hA
    obtain ⟨v9, e9, rfl⟩ := up_pre hA 10 (by rfl)
    have e9 : a'.tmps[75]? = some _ := e9
    refine up_want rfl ?_
    go_simp
    exact ⟨_, rfl, Below.refl _ _, rfl⟩
  case o13 =>
    intro a' w' hB hL hA
    obtain ⟨v9, e9, rfl⟩ := up_pre hA 11 (by rfl)
    have e9 : a'.tmps[76]? = some _ := e9
    refine up_want rfl ?_
    go_simp
    exact ⟨_, rfl, Below.refl _ _, rfl⟩
  intro vs w' hB hAll
  match vs, hAll with
  | [v0, v1, v2, v3, v4, v5, v6, v7, v8, v9, v10, v11, v12, v13], hAll =>
    obtain ⟨rfl, h1, rfl, rfl, rfl, h5, rfl, h7, h8, rfl, rfl, rfl, rfl, rfl, -⟩ := hAll
    have HBE := Lib.hid (HB.out.trans (hB.mono HB.out.size))
    simp only [putAll, Act.put]
    go_simp
    go_wp2_with fail
    go_ret2
    exact ⟨rfl, HBE.out⟩
set_option maxRecDepth 100000 in
set_option maxHeartbeats 8000000 in
theorem text_9 (t : Bs) (u : UseI) (ya yb : Ex) (a : Option Addr) (c : Nat) (w : World) (hG : Good w) (hw : weightE (.mk 9 t u [ya, yb]) ≤ 5000) (hm : mayN 9 t u 2 = true) (hk : KidsAt (fun _ => True) w [ya, yb] (.slice a 2 c)) (hTa : TextOk ya) (hTb : TextOk yb) :
    Calls Tryz.prog 14 #[exV 9 t u (.slice a 2 c)] w (RetSB w (textE (.mk 9 t u [ya, yb]))) := by
  rw [weightE] at hw
  have HM := Lib.hid (test_may 9 t u a 2 c _ (hG.next ((Below.refl w.heap.size w).alloc (Nat.le_refl _) (.cells (exL 9 t u (.slice a 2 c)).toArray 26))) (by omega) (by omega) (by omega) (by omega))
  rw [hm] at HM
  have HTX := Lib.hid (fun (w1 : World) hb => tx_start (w := w) (w1 := w1) (k := 9) (t := t) (u := u) (l := [ya, yb]) (a := a) (c := c) hG hk hb)
  have HE := Lib.hid (show textE (.mk 9 t u [ya, yb]) = twoT [62, 61] 10 10 (textL [ya, yb]) by
    rw [textE_mk, show [ya, yb].length = 2 from rfl, hm]; rfl)
  have hwa := weight_kid (show ya ∈ [ya, yb] by simp)
  have hwb := weight_kid (show yb ∈ [ya, yb] by simp)
  have hta := textE_len ya
  have htb := textE_len yb
  have hla : (textE ya).1.length ≤ 1000000 := by omega
  have hlb : (textE yb).1.length ≤ 1000000 := by omega
  have H2 := Lib.hid (fun (L1 L2 : List Int) (v1 v2 : Value) (W : World) (bx bk bc : Nat) (h : TxK W bx bk bc 9 t u [ya, yb] a c) (h1 : L1.contains ya.kind = decide (10 ≤ ya.kind ∧ ya.kind ≤ 12)) (h2 : L2.contains yb.kind = decide (10 ≤ yb.kind ∧ yb.kind ≤ 12)) (hl1 : L1.length ≤ 1000) (hl2 : L2.length ≤ 1000) (hv1 : IntsAt W v1 L1) (hv2 : IntsAt W v2 L2) => text_two [62, 61] 10 10 ya yb L1 L2 v1 v2 bx bk 9 t u a c W h.two (by decide) hTa hTb hla hlb h1 h2 hl1 hl2 hv1 hv2)
  rw [HE.out]
  obtain ⟨R, hR⟩ : ∃ R, twoT [62, 61] 10 10 (textL [ya, yb]) = R := ⟨_, rfl⟩
  rw [hR] at H2 ⊢
  clear hw hm hk hwa hwb hta htb hla hlb hR HE hTa hTb
  go_enter Tryz.func14, Tryz.ntmps14
  go_wp2_with fail
  refine HM.out.mono ?_
  rintro e w1 ⟨rfl, hb1⟩
  have HX := Lib.hid (HTX.out w1 hb1).1
  have HB := Lib.hid (HTX.out w1 hb1).2
  clear hb1
  go_upto_region 6 with fail
  generalize (w1.alloc (.cells #[.func (.func 24) #[] #[.pointer (some ⟨w.heap.size, 0, none⟩)]] 57)).alloc (.cells #[.int .i64 3, .int .i64 4, .int .i64 5, .int .i64 6, .int .i64 7, .int .i64 8, .int .i64 9, .int .i64 10, .int .i64 11, .int .i64 12] 3) = W3 at *
  obtain ⟨p0, p1, p2, p3, p4, p5, p6, p7, p8, p9⟩ := ten_cells HX.out.box
  go_upto_region 20 with fail
  have hwr : IntKind.i64.wrap 5 = 5 := by decide
  refine wp_region_up [UpP.is (.func (.func 26) #[] #[.pointer (some ⟨w1.heap.size, 0, none⟩)]), upSigns, UpP.is (.pointer (some ⟨w.heap.size, 0, none⟩)), UpP.is (.int .i64 9), UpP.is (.int .i64 5), upSignAt 5, UpP.is (.string ⟨#[62, 61]⟩), upInts, upInts, UpP.is (.tuple #[.string ⟨R.1.toArray⟩, .bool R.2]), UpP.is (.string ⟨R.1.toArray⟩), UpP.is (.bool R.2), UpP.is (.string ⟨R.1.toArray⟩), UpP.is (.bool R.2)] (by kernel_rfl) (by rfl) (by rfl) ⟨?o0, ?o1, ?o2, ?o3, ?o4, ?o5, ?o6, ?o7, ?o8, ?o9, ?o10, ?o11, ?o12, ?o13, trivial⟩ ?_
  case o0 =>
    intro a' w' hB hL hA
    have s6 := like_at hL 6 (by rfl) rfl
    refine up_want rfl ?_
    go_simp
    exact ⟨_, rfl, Below.refl _ _, rfl⟩
  case o1 =>
    intro a' w' hB hL hA
    refine up_want rfl ?_
    go_simp
    refine (ps_signs _).mono ?_
    rintro e ws ⟨rfl, rfl⟩
    exact ⟨_, rfl, (Below.refl _ _).alloc (Nat.le_refl _) _, ⟨_, rfl, heap_alloc_new _ _⟩⟩
  case o2 =>
    intro a' w' hB hL hA
    have s1 := like_at hL 1 (by rfl) rfl
    refine up_want rfl ?_
    go_simp
    exact ⟨_, rfl, Below.refl _ _, rfl⟩
  case o3 =>
    intro a' w' hB hL hA
    obtain ⟨v2, e2, rfl⟩ := up_pre hA 2 (by rfl)
    have e2 : a'.tmps[67]? = some _ := e2
    have c0 := (hB.cell (p := ⟨w.heap.size, 0, none⟩) (cell_lt p0)).trans p0
    refine up_want rfl ?_
    go_simp
    exact ⟨_, rfl, Below.refl _ _, rfl⟩
  case o4 =>
    intro a' w' hB hL hA
    obtain ⟨v3, e3, rfl⟩ := up_pre hA 3 (by rfl)
    have e3 : a'.tmps[68]? = some _ := e3
    refine up_want rfl ?_
    go_simp
    exact ⟨_, rfl, Below.refl _ _, rfl⟩
  case o5 =>
    intro a' w' hB hL hA
    obtain ⟨v1, e1, b1, rfl, h1⟩ := up_pre hA 1 (by rfl)
    have e1 : a'.tmps[66]? = some _ := e1
    obtain ⟨v4, e4, rfl⟩ := up_pre hA 4 (by rfl)
    have e4 : a'.tmps[69]? = some _ := e4
    refine up_want rfl ?_
    go_simp
    exact ⟨_, rfl, Below.refl _ _, ⟨b1, rfl, h1⟩⟩
  case o6 =>
    intro a' w' hB hL hA
    obtain ⟨v5, e5, b1, rfl, h1⟩ := up_pre hA 5 (by rfl)
    have e5 : a'.tmps[70]? = some _ := e5
    have c0 := cell_of_row _ _ 5 _ _ _ h1
    refine up_want rfl ?_
    go_simp
    exact ⟨_, rfl, Below.refl _ _, rfl⟩
  case o7 =>
    intro a' w' hB hL hA
    refine up_want rfl ?_
    go_simp
    exact ⟨_, rfl, (Below.refl _ _).alloc (Nat.le_refl _) _, ints_10 _ _ rfl⟩
  case o8 =>
    intro a' w' hB hL hA
    refine up_want rfl ?_
    go_simp
    exact ⟨_, rfl, (Below.refl _ _).alloc (Nat.le_refl _) _, ints_10 _ _ rfl⟩
  case o9 =>
    intro a' w' hB hL hA
    obtain ⟨v0, e0, rfl⟩ := up_pre hA 0 (by rfl)
    have e0 : a'.tmps[65]? = some _ := e0
    obtain ⟨v6, e6, rfl⟩ := up_pre hA 6 (by rfl)
    have e6 : a'.tmps[71]? = some _ := e6
    obtain ⟨v7, e7, h7⟩ := up_pre hA 7 (by rfl)
    have e7 : a'.tmps[72]? = some _ := e7
    obtain ⟨v8, e8, h8⟩ := up_pre hA 8 (by rfl)
    have e8 : a'.tmps[73]? = some _ := e8
    refine up_want rfl ?_
    go_simp
    refine (H2.out [10, 11, 12] [10, 11, 12] v7 v8 w' w.heap.size w1.heap.size (w1.heap.size + 1) (HX.out.next hB) (has_10 ya.kind) (has_10 yb.kind) (by decide) (by decide) h7 h8).mono ?_
    rintro e w6 ⟨rfl, hb6⟩
    exact ⟨_, rfl, hb6, rfl⟩
  case o10 =>
    intro a' w' hB hL hA
    obtain ⟨v9, e9, rfl⟩ := up_pre hA 9 (by rfl)
    have e9 : a'.tmps[74]? = some _ := e9
    refine up_want rfl ?_
    go_simp
    exact ⟨_, rfl, Below.refl _ _, rfl⟩
  case o11 =>
    intro a' w' hB hL hA
    obtain ⟨v9, e9, rfl⟩ := up_pre hA 9 (by rfl)
    have e9 : a'.tmps[74]? = some _ := e9
    refine up_want rfl ?_
    go_simp
    exact ⟨_, rfl, Below.refl _ _, rfl⟩
  case o12 =>
    intro a' w' hB hL hA
    obtain ⟨v9, e9, rfl⟩ := up_pre hA 10 (by rfl)
    have e9 : a'.tmps[75]? = some _ := e9
    refine up_want rfl ?_
    go_simp
    exact ⟨_, rfl, Below.refl _ _, rfl⟩
  case o13 =>
    intro a' w' hB hL hA
    obtain ⟨v9, e9, rfl⟩ := up_pre hA 11 (by rfl)
    have e9 : a'.tmps[76]? = some _ := e9
    refine up_want rfl ?_
    go_simp
    exact ⟨_, rfl, Below.refl _ _, rfl⟩
  intro vs w' hB hAll
  match vs, hAll with
  | [v0, v1, v2, v3, v4, v5, v6, v7, v8, v9, v10, v11, v12, v13], hAll =>
    obtain ⟨rfl, h1, rfl, rfl, rfl, h5, rfl, h7, h8, rfl, rfl, rfl, rfl, rfl, -⟩ := hAll
    have HBE := Lib.hid (HB.out.trans (hB.mono HB.out.size))
    simp only [putAll, Act.put]
    go_simp
    go_wp2_with fail
    go_ret2
    exact ⟨rfl, HBE.out⟩
set_option maxRecDepth 100000 in
set_option maxHeartbeats 4000000 in
theorem text_no (k : Int) (t : Bs) (u : UseI) (l : List Ex) (a : Option Addr) (c : Nat) (w : World) (hG : Good w) (hw : weightE (.mk k t u l) ≤ 5000) (hm : mayN k t u l.length = false) :
    Calls Tryz.prog 14 #[exV k t u (.slice a l.length c)] w (RetSB w (textE (.mk k t u l))) := by
  rw [weightE] at hw
  have hA := (Below.refl w.heap.size w).alloc (Nat.le_refl _) (.cells (exL k t u (.slice a l.length c)).toArray 26)
  have HM := Lib.hid (test_may k t u a l.length c _ (hG.next hA) (by omega) (by omega) (by omega) (by omega))
  rw [hm] at HM
  have HB := Lib.hid hA
  have HE := Lib.hid (show textE (.mk k t u l) = ([], false) by rw [textE_mk, hm]; rfl)
  clear hw hm hA
  go_enter Tryz.func14, Tryz.ntmps14
  go_wp2_with fail
  refine HM.out.mono ?_
  rintro e w1 ⟨rfl, hb1⟩
  have HB1 := Lib.hid (HB.out.trans (hb1.mono HB.out.size))
  clear hb1
  go_wp2_with fail
  go_ret2
  exact ⟨(by rw [HE.out]; try rfl), HB1.out⟩
theorem test_text (x : Ex) : weightE x ≤ 5000 → TextOk x := by
  refine Ex.ind (P := fun x => weightE x ≤ 5000 → TextOk x) (fun k t u l ih hw v w hG hx => ?_) x
  obtain ⟨kv, rfl, hk⟩ := exAt_iff.1 hx
  have hl : ∃ a c, kv = .slice a l.length c := by rcases hk with ⟨rfl, a, c, rfl⟩ | ⟨b, o, c, rfl, _⟩ <;> exact ⟨_, _, rfl⟩
  obtain ⟨a, c, rfl⟩ := hl
  have hwl : weightL l ≤ 5000 := by rw [weightE] at hw; omega
  have ik : ∀ x', x' ∈ l → TextOk x' := fun x' hx' => ih x' hx' (Nat.le_trans (weight_kid hx') hwl)
  cases hm : mayN k t u l.length
  · exact text_no k t u l a c w hG hw hm
  · rcases may_kinds hm with ⟨rfl, hn, _⟩ | ⟨rfl, hn, _⟩ | ⟨rfl, hn, _⟩ | ⟨rfl, hn, _⟩ | ⟨hk', hn, _⟩
    · obtain ⟨y, rfl⟩ := len_one hn
      exact text_3 t u y a c w hG hw hm hk (ik y (by simp))
    · obtain rfl := List.length_eq_zero_iff.1 hn
      exact text_10 t u a c w hG hw hm hk
    · obtain rfl := List.length_eq_zero_iff.1 hn
      exact text_11 t u a c w hG hw hm hk
    · obtain rfl := List.length_eq_zero_iff.1 hn
      exact text_12 t u a c w hG hw hm hk
    · obtain ⟨ya, yb, rfl⟩ := len_two hn
      have ia := ik ya (by simp)
      have ib := ik yb (by simp)
      have h6 : k = 1 ∨ k = 2 ∨ k = 4 ∨ k = 5 ∨ k = 6 ∨ k = 7 ∨ k = 8 ∨ k = 9 := by omega
      rcases h6 with rfl | rfl | rfl | rfl | rfl | rfl | rfl | rfl
      · exact text_1 t u ya yb a c w hG hw hm hk ia ib
      · exact text_22 t u ya yb a c w hG hw hm hk ia ib
      · exact text_4 t u ya yb a c w hG hw hm hk ia ib
      · exact text_5 t u ya yb a c w hG hw hm hk ia ib
      · exact text_6 t u ya yb a c w hG hw hm hk ia ib
      · exact text_7 t u ya yb a c w hG hw hm hk ia ib
      · exact text_8 t u ya yb a c w hG hw hm hk ia ib
      · exact text_9 t u ya yb a c w hG hw hm hk ia ib
set_option maxRecDepth 100000 in
set_option maxHeartbeats 4000000 in
theorem test_Put (x : Ex) (hw : weightE x ≤ 5000) (v : Value) (w : World) (hG : Good w) (hx : ExAt (fun _ => True) w x v) :
    Calls Tryz.prog 6 #[v] w fun e w' => e = .returned (.tuple #[.string ⟨(putE x).1.toArray⟩, .int .i64 (putE x).2]) ∧ Below w.heap.size w w' := by
  have HTX := Lib.hid (test_text x hw)
  have htl := textE_len x
  have HTM := Lib.hid (text_may x)
  obtain ⟨k, t, u, a, n, c, rfl⟩ := hx.ten
  have hA : Below w.heap.size w (w.alloc (.cells (exL k t u (.slice a n c)).toArray 26)) := (Below.refl _ _).alloc (Nat.le_refl _) _
  have HX := Lib.hid (hx.next hA)
  have HB := Lib.hid hA
  have HG := Lib.hid (hG.next hA)
  have HN := Lib.hid (heap_alloc_new w (.cells (exL k t u (.slice a n c)).toArray 26))
  have hlen : (textE x).1.length ≤ 100000 := by omega
  have HP := Lib.hid (show putE x = bif mayE x then (bif decide ((testB (textE x).1).2.2 = 0) then ((textE x).1, 0) else ([], (testB (textE x).1).2.2)) else ([], 15) from rfl)
  clear hx hA htl hw
  obtain ⟨S, q, hS⟩ : ∃ S q, textE x = (S, q) := ⟨(textE x).1, (textE x).2, rfl⟩
  rw [hS] at HTM HP hlen
  have HS := Lib.hid hS
  rw [show mayE x = q from HTM.out.symm] at HP
  clear hS
  go_enter Tryz.func6, Tryz.ntmps6
  go_upto_region 1 with fail
  generalize w.alloc (.cells (exL k t u (.slice a n c)).toArray 26) = W0 at *
  obtain ⟨p0, p1, p2, p3, p4, p5, p6, p7, p8, p9⟩ := ten_cells HN.out
  go_wp2_with fail
  refine (HTX.out _ W0 HG.out HX.out).mono ?_
  rintro e w1 ⟨rfl, hb1⟩
  rw [HS.out]
  have HB1 := Lib.hid (HB.out.trans (hb1.mono HB.out.size))
  have HG1 := Lib.hid (HG.out.next hb1)
  clear hb1 p0 p1 p2 p3 p4 p5 p6 p7 p8 p9
  cases q
  · go_wp2_with fail
    go_ret2
    exact ⟨by rw [HP.out]; rfl, HB1.out⟩
  · go_upto_region 4 with fail
    go_wp2_with fail
    refine (test_Parse w1 S hlen HG1.out).mono ?_
    rintro e w2 ⟨v2, rfl, hb2, hy⟩
    obtain ⟨k2, t2, u2, a2, n2, c2, rfl⟩ := hy.out.ten
    have hA : Below w2.heap.size w2 (w2.alloc (.cells (exL k2 t2 u2 (.slice a2 n2 c2)).toArray 26)) := (Below.refl _ _).alloc (Nat.le_refl _) _
    have hbA := hb2.trans (hA.mono hb2.size)
    have HB2 := Lib.hid (HB1.out.trans (hbA.mono HB1.out.size))
    obtain ⟨er, her⟩ : ∃ er : Int, (testB S).2.2 = er := ⟨_, rfl⟩
    have HP2 := Lib.hid (show putE x = bif decide (er = 0) then (S, 0) else ([], er) by rw [HP.out, ← her]; rfl)
    rw [her]
    clear hb2 hA hbA hy her
    go_upto_region 5 with fail
    generalize w2.alloc (.cells (exL k2 t2 u2 (.slice a2 n2 c2)).toArray 26) = W2 at *
    by_cases h0 : er = 0
    · subst h0
      go_wp2_with fail
      go_ret2
      exact ⟨by rw [HP2.out]; rfl, HB2.out⟩
    · have hq0 : (er == 0) = false := beq_eq_false_iff_ne.2 h0
      have hq1 : (er != 0) = true := by rw [bne, hq0]; rfl
      have HQ := Lib.hid (decide_eq_false h0)
      clear h0
      go_wp2_with fail
      go_ret2
      exact ⟨by rw [HP2.out, HQ.out]; rfl, HB2.out⟩
end Go.Proofs.YtbkhmkpbbggcbaaGreatDoor
