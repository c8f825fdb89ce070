/- The law that the variables stay. -/
import Derived.Test.YtoipnaoijccokaaDoorNine
import Derived.Deep.RegionHeld3
import Derived.Deep.DrawnRows
import Derived.Deep.DeepCutAuto
namespace Go.Proofs.YtoipnaoijccokaaDoor
open Go.RowKit
set_option linter.unusedVariables false
attribute [local go_sem ↓] Go.wp_at_zero Go.wp_at_succ

theorem al0 {W : World} {b i : Nat} {v : Value} {o : Obj} (h : W.cell? ⟨b, i, none⟩ = some v) : (W.alloc o).cell? ⟨b, i, none⟩ = some v :=
  (((Below.refl W.heap.size W).alloc (Nat.le_refl _) o).cell (p := ⟨b, i, none⟩) (cell_lt h)).trans h
theorem al1 {W : World} {b i : Nat} {v : Value} {o : Obj} (h : W.cell? ⟨b, i, none⟩ = some v) : (W.alloc o).drew.cell? ⟨b, i, none⟩ = some v := al0 h
theorem al2 {W : World} {b i : Nat} {v : Value} {o o2 : Obj} (h : W.cell? ⟨b, i, none⟩ = some v) : ((W.alloc o).alloc o2).drew.cell? ⟨b, i, none⟩ = some v := al0 (al0 h)
theorem al_below1 (W : World) (o : Obj) : Below W.heap.size W (W.alloc o).drew := ((Below.refl _ _).alloc (Nat.le_refl _) _).drew
theorem al_below2 (W : World) (o o2 : Obj) : Below W.heap.size W ((W.alloc o).alloc o2).drew := (((Below.refl _ _).alloc (Nat.le_refl _) _).alloc (by simp) _).drew
theorem fown_empty (W : World) : FOwn (W.alloc (.cells #[] 33)) W.heap.size (.slice (some ⟨W.heap.size, 0, none⟩) 0 0) [] := by
  exact World.ownsRow_lit W #[] 0 (Nat.le_refl _) (Nat.zero_le _) rfl

theorem fown_a (W : World) : FOwn (W.alloc (.cells #[] 33)).drew W.heap.size (.slice (some ⟨W.heap.size, 0, none⟩) 0 0) [] := own_below (fown_empty W) (Below.refl _ _).drew
theorem fown_b (W : World) (o : Obj) : FOwn ((W.alloc (.cells #[] 33)).alloc o).drew W.heap.size (.slice (some ⟨W.heap.size, 0, none⟩) 0 0) [] := own_below (own_below (fown_empty W) ((Below.refl _ _).alloc (Nat.le_refl _) _)) (Below.refl _ _).drew
theorem fown_c (W : World) (o : Obj) : FOwn ((W.alloc o).alloc (.cells #[] 33)).drew W.heap.size (.slice (some ⟨W.heap.size + 1, 0, none⟩) 0 0) [] := by
  have h := own_below (fown_empty (W.alloc o)) (Below.refl _ _).drew
  rw [World.size_alloc] at h
  exact fown_base h (by simp)

theorem own_grown_a {W w2 : World} {o : Obj} (h : (W.alloc o).drew.grownBy w2 (Value.slice (some ⟨W.heap.size, 0, none⟩) 0 0).ownBlock) : Below W.heap.size (W.alloc o).drew w2 :=
  below_grown h (fun k e => by cases e; exact Nat.le_refl _) (by show W.heap.size ≤ (W.alloc o).heap.size; simp)
theorem own_grown_b {W w2 : World} {o o2 : Obj} (h : ((W.alloc o).alloc o2).drew.grownBy w2 (Value.slice (some ⟨W.heap.size, 0, none⟩) 0 0).ownBlock) : Below W.heap.size W w2 ∧ w2.heap[W.heap.size + 1]? = some o2 :=
  ⟨(al_below2 W o o2).trans (below_grown h (fun k e => by cases e; exact Nat.le_refl _) (by show W.heap.size ≤ ((W.alloc o).alloc o2).heap.size; simp; omega)),
   (h.block _ (by show W.heap.size + 1 < ((W.alloc o).alloc o2).heap.size; simp) (by simp only [Value.ownBlock, ne_eq, Option.some.injEq]; omega)).trans (two_new W o o2).b2⟩
theorem own_grown_c {W w2 : World} {o o2 : Obj} (h : ((W.alloc o).alloc o2).drew.grownBy w2 (Value.slice (some ⟨W.heap.size + 1, 0, none⟩) 0 0).ownBlock) : Below W.heap.size W w2 ∧ w2.heap[W.heap.size]? = some o :=
  ⟨(al_below2 W o o2).trans (below_grown h (fun k e => by cases e; exact Nat.le_succ _) (by show W.heap.size ≤ ((W.alloc o).alloc o2).heap.size; simp; omega)),
   (h.block _ (by show W.heap.size < ((W.alloc o).alloc o2).heap.size; simp; omega) (by simp only [Value.ownBlock, ne_eq, Option.some.injEq]; omega)).trans (two_new W o o2).b1⟩
theorem five_of {W : World} {b : Nat} {x0 x1 x2 x3 x4 : Value} {T : TypeId} (h : W.heap[b]? = some (.cells #[x0, x1, x2, x3, x4] T)) :
    W.cell? ⟨b, 0, none⟩ = some x0 ∧ W.cell? ⟨b, 1, none⟩ = some x1 ∧ W.cell? ⟨b, 2, none⟩ = some x2 ∧ W.cell? ⟨b, 3, none⟩ = some x3 ∧ W.cell? ⟨b, 4, none⟩ = some x4 ∧
    W.frozen? ⟨b, 0, none⟩ = false ∧ W.frozen? ⟨b, 1, none⟩ = false ∧ W.frozen? ⟨b, 2, none⟩ = false ∧ W.frozen? ⟨b, 3, none⟩ = false ∧ W.frozen? ⟨b, 4, none⟩ = false :=
  ⟨cell_of_row _ _ 0 _ _ _ h, cell_of_row _ _ 1 _ _ _ h, cell_of_row _ _ 2 _ _ _ h, cell_of_row _ _ 3 _ _ _ h, cell_of_row _ _ 4 _ _ _ h,
   frozen_of_row _ _ 0 _ _ h, frozen_of_row _ _ 1 _ _ h, frozen_of_row _ _ 2 _ _ h, frozen_of_row _ _ 3 _ _ h, frozen_of_row _ _ 4 _ _ h⟩

/-- All five cells of a request set anew. -/
abbrev put5w (W : World) (b : Nat) (x0 x1 x2 x3 x4 : Value) : World := ((((W.setCell ⟨b, 0, none⟩ x0).setCell ⟨b, 1, none⟩ x1).setCell ⟨b, 2, none⟩ x2).setCell ⟨b, 3, none⟩ x3).setCell ⟨b, 4, none⟩ x4
theorem set_keep {W : World} {b p i j : Nat} {v x : Value} (h : W.cell? ⟨p, i, none⟩ = some v) (hne : p ≠ b) : (W.setCell ⟨b, j, none⟩ x).cell? ⟨p, i, none⟩ = some v :=
  (World.cell?_of_block (a := ⟨p, i, none⟩) (Below.heap_setCell W ⟨b, j, none⟩ x p hne)).trans h
theorem five_keep {W : World} {b p i : Nat} {v x0 x1 x2 x3 x4 : Value} (h : W.cell? ⟨p, i, none⟩ = some v) (hne : p ≠ b) : (put5w W b x0 x1 x2 x3 x4).cell? ⟨p, i, none⟩ = some v :=
  set_keep (set_keep (set_keep (set_keep (set_keep h hne) hne) hne) hne) hne
/-- The request of one's own: its box, and its list of fields. -/
def Own5 (w1 wx : World) (t : ByteArray) (fs : List Fld) (p : Value) : Prop :=
  ∃ b a' c', p = .pointer (some ⟨b, 0, none⟩) ∧ wx.heap[b]? = some (.cells #[.string ⟨#[]⟩, .string t, .int .i64 0, .slice a' fs.length c', .string ⟨#[]⟩] 24) ∧ FOwn wx w1.heap.size (.slice a' fs.length c') fs ∧
    (∀ g, (Value.slice a' fs.length c').ownBlock = some g → g ≠ b) ∧ Below w1.heap.size w1 wx ∧ w1.heap.size ≤ b

/-- A list of fields that is owned is kept where its block is. -/
theorem fown_keep {W W' : World} {base : Nat} {v : Value} {fs : List Fld} (h : FOwn W base v fs) (hb : ∀ g, v.ownBlock = some g → W'.heap[g]? = W.heap[g]?) : FOwn W' base v fs := by
  refine ⟨h.1, ?_⟩
  rcases h.2 with h0 | ⟨g, cap, cur, rfl, hl, hg, r⟩
  · exact .inl h0
  · exact .inr ⟨g, cap, cur, rfl, hl, (hb g rfl).trans hg, r⟩
/-- A list's block is none of another kind. -/
theorem fown_ne {W : World} {base b : Nat} {v : Value} {fs : List Fld} {cs : Array Value} (h : FOwn W base v fs) (hb : W.heap[b]? = some (.cells cs 24)) : ∀ g, v.ownBlock = some g → g ≠ b := by
  rintro g hv rfl
  rcases h.2 with ⟨rfl, _⟩ | ⟨g', cap, cur, rfl, hl, hg, r⟩
  · cases hv
  · simp only [Value.ownBlock, Option.some.injEq] at hv
    subst hv
    rw [hb] at hg
    simp only [Option.some.injEq, Obj.cells.injEq] at hg
    exact absurd hg.2.1 (by decide)
theorem own5_alloc {w1 w2 : World} {t : ByteArray} {fs : List Fld} {a' : Option Addr} {c' : Nat} (hown : FOwn w2 w1.heap.size (.slice a' (([] : List Fld).length + fs.length) c') ([] ++ fs)) (hb2 : Below w1.heap.size w1 w2) :
    Own5 w1 (w2.alloc (.cells #[.string ⟨#[]⟩, .string t, .int .i64 0, .slice a' fs.length c', .string ⟨#[]⟩] 24)) t fs (.pointer (some ⟨w2.heap.size, 0, none⟩)) := by
  have hown : FOwn w2 w1.heap.size (.slice a' fs.length c') fs := by simpa using hown
  refine ⟨w2.heap.size, a', c', rfl, heap_alloc_new w2 _, own_below hown ((Below.refl _ _).alloc (Nat.le_refl _) _), fun g hg => ?_, hb2.alloc hb2.size _, hb2.size⟩
  have := (hown.lt g hg).2; omega
theorem own5_put {w1 w2 : World} {t : ByteArray} {fs : List Fld} {a' : Option Addr} {c' b : Nat} {z0 z1 z2 z3 z4 : Value} (hown : FOwn w2 w1.heap.size (.slice a' (([] : List Fld).length + fs.length) c') ([] ++ fs)) (hb2 : Below w1.heap.size w1 w2)
    (nB : w2.heap[b]? = some (.cells #[z0, z1, z2, z3, z4] 24)) (hb : w1.heap.size ≤ b) :
    Own5 w1 (put5w w2 b (.string ⟨#[]⟩) (.string t) (.int .i64 0) (.slice a' fs.length c') (.string ⟨#[]⟩)) t fs (.pointer (some ⟨b, 0, none⟩)) := by
  have hown : FOwn w2 w1.heap.size (.slice a' fs.length c') fs := by simpa using hown
  have hne := fown_ne hown nB
  refine ⟨b, a', c', rfl, ?_, fown_keep hown fun g hg => ?_, hne, ?_, hb⟩
  · have h0 := row_set (j := 0) (v := .string ⟨#[]⟩) nB
    have h1 := row_set (j := 1) (v := .string t) h0
    have h2 := row_set (j := 2) (v := .int .i64 0) h1
    have h3 := row_set (j := 3) (v := .slice a' fs.length c') h2
    have h4 := row_set (j := 4) (v := .string ⟨#[]⟩) h3
    exact h4
  · have h := hne g hg
    have e (W : World) (j : Nat) (x : Value) : (W.setCell ⟨b, j, none⟩ x).heap[g]? = W.heap[g]? := Below.heap_setCell W ⟨b, j, none⟩ x g h
    exact (e _ _ _).trans ((e _ _ _).trans ((e _ _ _).trans ((e _ _ _).trans (e _ _ _))))
  · exact ((((hb2.setCell (p := ⟨b, 0, none⟩) hb _).setCell (p := ⟨b, 1, none⟩) hb _).setCell (p := ⟨b, 2, none⟩) hb _).setCell (p := ⟨b, 3, none⟩) hb _).setCell (p := ⟨b, 4, none⟩) hb _
/-- The fields of one's own are being spoilt. -/
structure Sp (W wr : World) (base : Nat) (v : Value) (n : Nat) : Prop where
  keep : W.grownBy wr v.ownBlock
  own : ∃ xs, wr.ownsRow base 33 2 v n xs
theorem grown_trans {W W1 W2 : World} {row : Option Nat} (h1 : W.grownBy W1 row) (h2 : W1.grownBy W2 row) : W.grownBy W2 row :=
  ⟨h2.os.trans h1.os, h2.tape.trans h1.tape, h2.output.trans h1.output, Nat.le_trans h1.size h2.size, fun k hk hn => (h2.block k (Nat.lt_of_lt_of_le hk h1.size) hn).trans (h1.block k hk hn)⟩
/-- One field is spoilt. -/
theorem sp_step {W wr : World} {base n c' k : Nat} {a' : Option Addr} (h : Sp W wr base (.slice a' n c') n) (hk : k < n) (u0 u1 : Value) :
    ∃ g x y, a' = some ⟨g, 0, none⟩ ∧ wr.cell? ⟨g, k * 2, none⟩ = some x ∧ wr.cell? ⟨g, k * 2 + 1, none⟩ = some y ∧ wr.frozen? ⟨g, k * 2, none⟩ = false ∧ wr.frozen? ⟨g, k * 2 + 1, none⟩ = false ∧
      Sp W ((wr.setCell ⟨g, k * 2, none⟩ u0).setCell ⟨g, k * 2 + 1, none⟩ u1) base (.slice a' n c') n := by
  obtain ⟨xs, ho⟩ := h.own
  have hx : xs.length = n * 2 := ho.1
  rcases ho.2 with ⟨hv, h0⟩ | ⟨g, cap, cur, hv, _⟩
  · omega
  · obtain ⟨rfl, rfl⟩ : a' = some ⟨g, 0, none⟩ ∧ c' = cap := by simpa using hv
    have s1 := ho.stored (k * 2) u0
    have s2 := s1.1.stored (k * 2 + 1) u1
    refine ⟨g, xs[k * 2]'(by omega), xs[k * 2 + 1]'(by omega), rfl, ?_, ?_, ho.frozenAt _, ho.frozenAt _, ⟨grown_trans h.keep (grown_trans s1.2 s2.2), _, s2.1⟩⟩
    · rw [ho.cellAt _ (by omega), List.getElem?_eq_getElem]
    · rw [ho.cellAt _ (by omega), List.getElem?_eq_getElem]

set_option maxRecDepth 100000 in
set_option maxHeartbeats 2000000 in
theorem law_VarsStay (m t bd host name key : ByteArray) (mn : Int) (a : Option Addr) (n c : Nat) (fs : List Fld) (has : Bool) (w : World) (hg : Good w) (hF : FieldsAt w (.slice a n c) fs) (hs : ∀ f ∈ fs, f.1.length ≤ 140737488355328 ∧ f.2.length ≤ 140737488355328) (hlen : fs.length ≤ 140737488355328) :
    Calls Tryd.prog 3 #[.agg #[.string m, .string t, .int .i64 mn, .slice a n c, .string bd], .agg #[.string host, .string name, .string key, .bool has]] w (Ret w (.bool true)) := by
  have HT := Lib.hid (two_new w (.cells #[.string m, .string t, .int .i64 mn, .slice a n c, .string bd] 24) (.cells #[.string host, .string name, .string key, .bool has] 26))
  have Hs := Lib.hid hs
  clear hs
  go_enter Tryd.func3, Tryd.ntmps3
  go_wp2_with fail
  generalize (w.alloc (.cells #[.string m, .string t, .int .i64 mn, .slice a n c, .string bd] 24)).alloc (.cells #[.string host, .string name, .string key, .bool has] 26) = W0 at *
  have hT := HT.out
  clear HT
  have hS := nine_new hT
  have hb0 := hT.below
  have hsz := hT.size
  clear hT
  have hF0 := hF.below hb0
  have hg0 := hg.next hb0
  obtain ⟨h0, h1, h2, h3, h4, j0, j1, j2, j3⟩ := id hS
  refine (law_few m t bd mn a n c fs W0 hF0 Hs.out hlen).mono ?_
  rintro e w1 ⟨rfl, hb1⟩
  have hl1 : w.heap.size + 1 < w1.heap.size := by have := hb1.size; omega
  have hS1 := nine_below hb1 (by omega) hS
  have hb01 := hb0.trans (hb1.mono hb0.size)
  have hF1 := hF0.below hb1
  have hg1 := hg0.next hb1
  clear hS hb1 hb0 hF0 hg0 hF
  clear h0 h1 h2 h3 h4 j0 j1 j2 j3
  obtain ⟨h0, h1, h2, h3, h4, j0, j1, j2, j3⟩ := id hS1
  rcases hf : vfew t.data.toList fs with _ | _
  · go_wp2_with fail
    refine (law_awake w1 hg1).mono ?_
    rintro e w2 ⟨rfl, hb2⟩
    go_wp2
    go_ret
    exact ⟨rfl, hb01.trans (hb2.mono hb01.size)⟩
  · by_cases hk : key.size ≤ 2000
    · have hki : (key.size : Int) ≤ 2000 := by omega
      obtain ⟨f1, f2, f3⟩ := few_lim hf
      have hfl : fs.length ≤ 1000 := by omega
      have hlim : Lim fs := ⟨hfl, fun f hf => by have := f3 f hf; omega⟩
      rw [bs_size] at f2
      have ht : t.size ≤ 100000 := by omega
      have hk1 : key.size ≤ 100000 := by omega
      have hk2 : key.size ≤ 140737488351232 := by omega
      clear f1 f2 f3
      have hlc : ([] : List Fld).length + fs.length ≤ 100000 := by simp; omega
      go_upto_region 3 with fail
      go_cut [5] (fun p wx => Own5 w1 wx t fs p)
      case first =>
       go_wp2_with fail
       have HS1d := Lib.hid (show w1.drew.cell? ⟨w.heap.size, 0, none⟩ = some (.string m) ∧ w1.drew.cell? ⟨w.heap.size, 1, none⟩ = some (.string t) ∧ w1.drew.cell? ⟨w.heap.size, 2, none⟩ = some (.int .i64 mn) ∧ w1.drew.cell? ⟨w.heap.size, 3, none⟩ = some (.slice a n c) ∧ w1.drew.cell? ⟨w.heap.size, 4, none⟩ = some (.string bd) ∧ w1.drew.cell? ⟨w.heap.size + 1, 0, none⟩ = some (.string host) ∧ w1.drew.cell? ⟨w.heap.size + 1, 1, none⟩ = some (.string name) ∧ w1.drew.cell? ⟨w.heap.size + 1, 2, none⟩ = some (.string key) ∧ w1.drew.cell? ⟨w.heap.size + 1, 3, none⟩ = some (.bool has) from hS1)
       have c1 : w1.cell? ⟨w.heap.size, 1, none⟩ = some (.string t) := (id hS1).2.1
       have c3 : w1.cell? ⟨w.heap.size, 3, none⟩ = some (.slice a n c) := (id hS1).2.2.2.1
       have n1 : w.heap.size ≠ w1.heap.size + 1 := by omega
       have n2 : w.heap.size ≠ w1.heap.size := by omega
       have e1 : w1.drew.cell? ⟨w.heap.size, 1, none⟩ = some (.string t) := c1
       have e3 : w1.drew.cell? ⟨w.heap.size, 3, none⟩ = some (.slice a n c) := c3
       clear hS1 h0 h1 h2 h3 h4 j0 j1 j2 j3
       go_region_held3 (fun w' => w'.cell? ⟨w.heap.size, 1, none⟩ = some (.string t) ∧ w'.cell? ⟨w.heap.size, 3, none⟩ = some (.slice a n c))
         (constructor <;> first | with_reducible exact e1 | with_reducible exact e3 | with_reducible exact c1 | with_reducible exact c3 | with_reducible exact d1 | with_reducible exact d3 | with_reducible exact al1 c1 | with_reducible exact al1 c3 | with_reducible exact al2 c1 | with_reducible exact al2 c3 | with_reducible exact al0 d1 | with_reducible exact al0 d3 | with_reducible exact five_keep d1 n1 | with_reducible exact five_keep d3 n1 | with_reducible exact five_keep d1 n2 | with_reducible exact five_keep d3 n2 | with_reducible exact al0 c1 | with_reducible exact al0 c3)
         (
           (refine step_copy (by rfl) _ _ (by rfl) _ _ fs [] w1.heap.size (by rfl) (by rfl) ?hF ?hO hlc ?hL ?_
            case hF => first | ((with_reducible show FieldsAt (World.drew (World.alloc w1 _)) _ _); exact hF1.below (al_below1 w1 _)) | exact hF1.below (al_below2 w1 _ _)
            case hO => first | ((with_reducible show FOwn (World.drew (World.alloc (World.alloc w1 (Obj.cells #[] 33)) _)) _ _ _); exact fown_b w1 _) | ((with_reducible show FOwn (World.drew (World.alloc (World.alloc w1 _) (Obj.cells #[] 33))) _ _ _); exact fown_c w1 _) | exact fown_a w1
            case hL => first | (simp; done) | (simp; omega)
            intro a' c' w2 hown hgr
            first
              | ((with_reducible change World.grownBy (World.drew (World.alloc (World.alloc w1 (Obj.cells #[] 33)) _)) _ _ at hgr)
                 obtain ⟨hb2, nB⟩ := own_grown_b (W := w1) (o := .cells #[] 33) (by exact hgr); clear hgr
                 obtain ⟨q0, q1, q2, q3, q4, r0, r1, r2, r3, r4⟩ := five_of nB)
              | ((with_reducible change World.grownBy (World.drew (World.alloc (World.alloc w1 _) (Obj.cells #[] 33))) _ _ at hgr)
                 obtain ⟨hb2, nB⟩ := own_grown_c (W := w1) (o2 := .cells #[] 33) (by exact hgr); clear hgr
                 obtain ⟨q0, q1, q2, q3, q4, r0, r1, r2, r3, r4⟩ := five_of nB)
              | (have hb2 := (al_below1 w1 _).trans (own_grown_a (W := w1) (by exact hgr)); clear hgr)
            have d1 := ((bcell hb2).1 _ 1 (cell_lt c1)).trans c1
            have d3 := ((bcell hb2).1 _ 3 (cell_lt c3)).trans c3))
       all_goals go_wp2_with fail
       · go_meet
         exact own5_alloc hown hb2
       · go_meet
         exact own5_put hown hb2 nB (Nat.le_succ _)
       · go_meet
         exact own5_put hown hb2 nB (Nat.le_refl _)
      case rest =>
       obtain ⟨b5, a', c', rfl, hB5, hownA, hne, hbw, hle⟩ := hcut
       have HSc := Lib.hid (nine_below hbw (by omega) hS1)
       have HB5 := Lib.hid hB5
       have HOA := Lib.hid hownA
       have HNE := Lib.hid hne
       have HBW := Lib.hid hbw
       have HS1 := Lib.hid hS1
       have HF1 := Lib.hid hF1
       have HB01 := Lib.hid hb01
       have HG := Lib.hid hg
       have hzc := hbw.size
       clear hB5 hownA hne hbw hS1 hF1 hg1 hb01 hg
       clear h0 h1 h2 h3 h4 j0 j1 j2 j3
       obtain ⟨q0, q1, q2, q3, q4, _⟩ := five_of HB5.out
       have j0 := HSc.out.2.2.2.2.2.1
       go_wp2_with fail
       refine (vars_Of ⟨#[]⟩ t ⟨#[]⟩ host 0 a' fs.length c' fs wc HOA.out.at hfl).mono ?_
       rintro e w2 ⟨a2, c2, rfl, hown2, hb2⟩
       have hz2 := hb2.size
       have hb3 := hb2.trans (((Below.refl w2.heap.size w2).alloc (Nat.le_refl _) (.cells #[.string host, .string t, .slice a2 fs.length c2] 30)).mono hb2.size)
       have HV3 := Lib.hid (heap_alloc_new w2 (.cells #[.string host, .string t, .slice a2 fs.length c2] 30))
       have HO2 := Lib.hid (own_below hown2 ((Below.refl w2.heap.size w2).alloc (Nat.le_refl _) (.cells #[.string host, .string t, .slice a2 fs.length c2] 30)))
       have HB3 := Lib.hid hb3
       have hb5 : b5 < wc.heap.size := (Array.getElem?_eq_some_iff.1 HB5.out).1
       have HQ3 := Lib.hid ((hb3.block b5 hb5).trans HB5.out)
       have HA3 := Lib.hid (own_below HOA.out hb3)
       have HBW3 := Lib.hid (HBW.out.trans (hb3.mono hzc))
       have HLA := Lib.hid (fun g (hg : (Value.slice a' fs.length c').ownBlock = some g) => HOA.out.lt g hg)
       clear hown2 hb2 hb3 q0 q1 q2 q3 q4 j0
       go_wp2_with fail
       generalize w2.alloc (.cells #[.string host, .string t, .slice a2 fs.length c2] 30) = W3 at *
       have hv6 : w2.heap.size < W3.heap.size := (Array.getElem?_eq_some_iff.1 HV3.out).1
       generalize w2.heap.size = v6 at *
       go_loopw [7] (fun ix wr => ∃ k : Nat, k ≤ fs.length ∧ ix = .int .i64 k ∧ Hid (Sp W3 wr w1.heap.size (.slice a' fs.length c') fs.length)) (fun ix _ => fs.length - (intOf ix).toNat)
       case atStart => exact ⟨0, Nat.zero_le _, rfl, Lib.hid ⟨World.grownBy.refl _ _, _, HA3.out⟩⟩
       case round =>
         obtain ⟨k, hk, rfl, HSp⟩ := hrel
         have hQ : wr.heap[b5]? = _ := (HSp.out.keep.block b5 (by have := HB3.out.size; omega) (fun e => HNE.out b5 e.symm rfl)).trans HQ3.out
         obtain ⟨q0, q1, q2, q3, q4, _⟩ := five_of hQ
         clear hQ q0 q1 q2 q4
         by_cases hlt : k < fs.length
         · have i1 : (k : Int) < (fs.length : Int) := by omega
           have i0 : (0 : Int) ≤ (k : Int) := by omega
           obtain ⟨g, x, y, rfl, e0, e1, f0, f1, hsp⟩ := sp_step HSp.out hlt (.string ⟨#[99, 111, 111, 107, 105, 101]⟩) (.string ⟨#[115, 112, 111, 105, 108, 116, 61, 49]⟩)
           have HSp1 := Lib.hid hsp
           clear hsp
           go_wp2_with fail
           go_roundw
           case rel => exact ⟨k + 1, by omega, by go_num, HSp1⟩
           case measure => (simp [intOf] <;> omega)
         · have i1 : (fs.length : Int) ≤ (k : Int) := by omega
           have hbr : Below w1.heap.size w1 wr := HBW3.out.grown HSp.out.keep (by have := HB3.out.size; omega) (fun g hg => (HLA.out g hg).1)
           have HBr := Lib.hid hbr
           have hbr0 := HB01.out.trans (hbr.mono (by have := HB01.out.size; exact this))
           have HBr0 := Lib.hid hbr0
           have hV : wr.heap[v6]? = _ := (HSp.out.keep.block v6 hv6 (fun e => by have := (HLA.out v6 e.symm).2; omega)).trans HV3.out
           have HO2r := Lib.hid (fown_keep HO2.out fun g hg => HSp.out.keep.block g (HO2.out.lt g hg).2 (fun e => by have h1 := (HLA.out g e.symm).2; have h2 := (HO2.out.lt g hg).1; omega))
           have HSr := Lib.hid (nine_below hbr (by omega) HS1.out)
           have hF := HF1.out.below hbr
           have HFr := Lib.hid hF
           have hzr := hbr.size
           clear hbr hbr0 hF
           have v0 := cell_of_row wr _ 0 _ _ _ hV
           have v1 := cell_of_row wr _ 1 _ _ _ hV
           have v2 := cell_of_row wr _ 2 _ _ _ hV
           clear hV
           obtain ⟨_, _, _, _, _, j0, j1, j2, j3⟩ := HSr.out
           go_wp2_with fail
           refine (vars_Get host t name key a2 fs.length c2 fs has wr (HG.out.next HBr0.out) HO2r.out.at hlim ht hk1).mono ?_
           rintro e w4 ⟨rfl, hb4⟩
           have hz4 := hb4.size
           have HB4 := Lib.hid (HBr0.out.trans (hb4.mono HBr0.out.size))
           have hF4 : FieldsAt w4 (.slice a n c) fs := HFr.out.below hb4
           have hS4 := nine_below hb4 (by omega) HSr.out
           have HS4d := Lib.hid (show w4.drew.cell? ⟨w.heap.size, 0, none⟩ = some (.string m) ∧ w4.drew.cell? ⟨w.heap.size, 1, none⟩ = some (.string t) ∧ w4.drew.cell? ⟨w.heap.size, 2, none⟩ = some (.int .i64 mn) ∧ w4.drew.cell? ⟨w.heap.size, 3, none⟩ = some (.slice a n c) ∧ w4.drew.cell? ⟨w.heap.size, 4, none⟩ = some (.string bd) ∧ w4.drew.cell? ⟨w.heap.size + 1, 0, none⟩ = some (.string host) ∧ w4.drew.cell? ⟨w.heap.size + 1, 1, none⟩ = some (.string name) ∧ w4.drew.cell? ⟨w.heap.size + 1, 2, none⟩ = some (.string key) ∧ w4.drew.cell? ⟨w.heap.size + 1, 3, none⟩ = some (.bool has) from hS4)
           have hl4 : w.heap.size + 1 < w4.heap.size := by omega
           have hg4 := HG.out.next HB4.out
           clear hb4 hS4 j0 j1 j2 j3 v0 v1 v2
           generalize hvv : vget host.data.toList t.data.toList fs name.data.toList key.data.toList has = vv at *
           have HVV := Lib.hid hvv
           clear hvv
           go_wp2_with fail
           go_region_held3 (fun w' => w'.cell? ⟨w.heap.size, 0, none⟩ = some (.string m) ∧ w'.cell? ⟨w.heap.size, 1, none⟩ = some (.string t) ∧ w'.cell? ⟨w.heap.size, 2, none⟩ = some (.int .i64 mn) ∧ w'.cell? ⟨w.heap.size, 3, none⟩ = some (.slice a n c) ∧ w'.cell? ⟨w.heap.size, 4, none⟩ = some (.string bd) ∧ w'.cell? ⟨w.heap.size + 1, 0, none⟩ = some (.string host) ∧ w'.cell? ⟨w.heap.size + 1, 1, none⟩ = some (.string name) ∧ w'.cell? ⟨w.heap.size + 1, 2, none⟩ = some (.string key) ∧ w'.cell? ⟨w.heap.size + 1, 3, none⟩ = some (.bool has)) (first | with_reducible exact HS6.out | with_reducible exact HS5.out | with_reducible exact HS4d.out)
             (first
               | (go_at_call 7; refine (vars_Of m t bd host mn a n c fs _ (hF4.below (Below.drew (Below.refl _ _))) hfl).mono ?_; rintro e w5 ⟨a5, c5, rfl, hown5, hb5⟩; have HS5 := Lib.hid (nine_below hb5 (by exact hl4) HS4d.out))
               | (go_at_call 8; refine (vars_Get host t name key a5 fs.length c5 fs has w5 (hg4.next (below_ofdrew hb5)) hown5.at hlim ht hk1).mono ?_; rintro e w6 ⟨rfl, hb6⟩; rw [HVV.out]; have HS6 := Lib.hid (nine_below hb6 (Nat.lt_of_lt_of_le hl4 hb5.size) HS5.out)))
           have hB6 : Below w.heap.size w w6 := HB4.out.trans ((below_ofdrew (hb5.trans (hb6.mono hb5.size))).mono HB4.out.size)
           have hg6 := HG.out.next hB6
           clear HS4d HS5 HS6 hown5 hb5 hb6
           go_wp2_with fail
           refine (law_awake w6 hg6).mono ?_
           rintro e w7 ⟨rfl, hb7⟩
           go_wp2
           go_ret
           exact ⟨rfl, hB6.trans (hb7.mono hB6.size)⟩
    · have hki : (2000 : Int) < (key.size : Int) := by omega
      go_wp2_with fail
      refine (law_awake w1 hg1).mono ?_
      rintro e w2 ⟨rfl, hb2⟩
      go_wp2
      go_ret
      exact ⟨rfl, hb01.trans (hb2.mono hb01.size)⟩
end Go.Proofs.YtoipnaoijccokaaDoor
