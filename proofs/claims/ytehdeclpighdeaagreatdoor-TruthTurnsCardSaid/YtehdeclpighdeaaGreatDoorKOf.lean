/- The walk of Of, and of the reference's. -/
import Derived.Test.YtehdeclpighdeaaGreatDoorKCopy
import Derived.Laws.EntriesVeiled
import Derived.Deep.RegionLaw
namespace Go.Proofs.YtehdeclpighdeaaGreatDoor
open Go.RowKit
set_option linter.unusedVariables false
def RetVars (w : World) (h t : ByteArray) (fs : List Fld) (e : Ending) (w' : World) : Prop :=
  ∃ a' c', e = .returned (.agg #[.string h, .string t, .slice a' fs.length c']) ∧ FOwn w' w.heap.size (.slice a' fs.length c') fs ∧ Below w.heap.size w w'
theorem fown_set {W : World} {base b j : Nat} {v x : Value} {fs : List Fld} (h : FOwn W base v fs) (hb : b < base) : FOwn (W.setCell ⟨b, j, none⟩ x) base v fs := by
  have hg : W.grownBy (W.setCell ⟨b, j, none⟩ x) (some b) := ⟨rfl, rfl, rfl, by rw [show (W.setCell ⟨b, j, none⟩ x).heap.size = W.heap.size by simp [World.setCell]]; exact Nat.le_refl _, fun k _ hk => Below.heap_setCell W ⟨b, j, none⟩ x k (fun e => hk (by rw [e]))⟩
  refine h.kept hg (.inr fun e => ?_)
  have := (h.lt b e).1; omega
theorem fown_base {W : World} {b1 b2 : Nat} {v : Value} {fs : List Fld} (h : FOwn W b1 v fs) (hb : b2 ≤ b1) : FOwn W b2 v fs := by
  refine ⟨h.1, ?_⟩
  rcases h.2 with h | ⟨g, cap, cur, hv, hl, hr⟩
  · exact .inl h
  · exact .inr ⟨g, cap, cur, hv, Nat.le_trans hb hl, hr⟩
theorem of_end {w W0 w1 : World} {a' : Option Addr} {c' : Nat} {fs : List Fld} {h t : ByteArray} {x0 x1 x2 : Value} (hown : FOwn w1 W0.drew.heap.size (.slice a' (([] : List Fld).length + fs.length) c') ([] ++ fs)) (hb1 : Below W0.heap.size W0 w1) (hsz : W0.heap.size = w.heap.size + 1 + 1) (hb0 : Below w.heap.size w W0)
    (n2 : w1.heap[w.heap.size + 1]? = some (.cells #[x0, x1, x2] 59)) :
    ((((w1.setCell ⟨w.heap.size + 1, 0, none⟩ (.string h)).setCell ⟨w.heap.size + 1, 1, none⟩ (.string t)).setCell ⟨w.heap.size + 1, 2, none⟩ (.slice a' fs.length c')).cell? ⟨w.heap.size + 1, 0, none⟩ = some (.string h) ∧
    (((w1.setCell ⟨w.heap.size + 1, 0, none⟩ (.string h)).setCell ⟨w.heap.size + 1, 1, none⟩ (.string t)).setCell ⟨w.heap.size + 1, 2, none⟩ (.slice a' fs.length c')).cell? ⟨w.heap.size + 1, 1, none⟩ = some (.string t) ∧
    (((w1.setCell ⟨w.heap.size + 1, 0, none⟩ (.string h)).setCell ⟨w.heap.size + 1, 1, none⟩ (.string t)).setCell ⟨w.heap.size + 1, 2, none⟩ (.slice a' fs.length c')).cell? ⟨w.heap.size + 1, 2, none⟩ = some (.slice a' fs.length c')) ∧
    RetVars w h t fs (.returned (.agg #[.string h, .string t, .slice a' fs.length c'])) (((w1.setCell ⟨w.heap.size + 1, 0, none⟩ (.string h)).setCell ⟨w.heap.size + 1, 1, none⟩ (.string t)).setCell ⟨w.heap.size + 1, 2, none⟩ (.slice a' fs.length c')) := by
  rw [List.nil_append, show ([] : List Fld).length + fs.length = fs.length by simp] at hown
  have r := row_set (j := 2) (v := .slice a' fs.length c') (row_set (j := 1) (v := .string t) (row_set (j := 0) (v := .string h) n2))
  refine ⟨⟨cell_of_row _ _ 0 _ _ _ r, cell_of_row _ _ 1 _ _ _ r, cell_of_row _ _ 2 _ _ _ r⟩, a', c', rfl, fown_base (fown_set (fown_set (fown_set hown ?_) ?_) ?_) ?_, ?_⟩
  · show _ < W0.heap.size; omega
  · show _ < W0.heap.size; omega
  · show _ < W0.heap.size; omega
  · show _ ≤ W0.heap.size; omega
  · have hb := hb0.trans (hb1.mono hb0.size)
    exact ((hb.setCell (p := ⟨w.heap.size + 1, 0, none⟩) (by show w.heap.size ≤ w.heap.size + 1; omega) _).setCell (p := ⟨w.heap.size + 1, 1, none⟩) (by show w.heap.size ≤ w.heap.size + 1; omega) _).setCell (p := ⟨w.heap.size + 1, 2, none⟩) (by show w.heap.size ≤ w.heap.size + 1; omega) _
set_option maxRecDepth 100000 in
theorem vars_Of (m t bd h : ByteArray) (mn : Int) (a : Option Addr) (n c : Nat) (fs : List Fld) (w : World) (hF : FieldsAt w (.slice a n c) fs) (hlen : fs.length ≤ 1000) :
    Calls Tryz.prog 30 #[.agg #[.string m, .string t, .int .i64 mn, .slice a n c, .string bd], .string h] w (RetVars w h t fs) := by
  have hln : ([] : List Fld).length + fs.length ≤ 100000 := by simp; omega
  have HT := Lib.hid (two_new w (.cells #[.string m, .string t, .int .i64 mn, .slice a n c, .string bd] 62) (.cells #[.string ⟨#[]⟩, .string ⟨#[]⟩, .slice none 0 0] 59))
  have HF := Lib.hid hF
  clear hF
  go_enter Tryz.func30, Tryz.ntmps30
  go_wp2_with fail
  generalize (w.alloc (.cells #[.string m, .string t, .int .i64 mn, .slice a n c, .string bd] 62)).alloc (.cells #[.string ⟨#[]⟩, .string ⟨#[]⟩, .slice none 0 0] 59) = W0 at *
  obtain ⟨n1, n2, hsz, hb0⟩ := HT.out
  have hF0 : FieldsAt W0.drew (.slice a n c) fs := (HF.out.below hb0).below (Below.refl _ _).drew
  have hle0 : w.heap.size ≤ W0.drew.heap.size := hb0.size
  have HF0 := Lib.hid hF0
  clear HF HT hF0
  have c1 := cell_of_row W0 _ 1 _ _ _ n1
  have c3 := cell_of_row W0 _ 3 _ _ _ n1
  have HN1 := Lib.hid n1
  have HN2 := Lib.hid n2
  have HB0 := Lib.hid hb0
  clear n1 n2 hb0
  go_region_law (
    (refine step_copy (by rfl) _ _ (by rfl) _ _ fs [] W0.drew.heap.size (by rfl) (by rfl) HF0.out (fown_nil _ _) hln (Nat.le_refl _) ?_; intro a' c' w1 hown hg;
     have hb1 : Below W0.heap.size W0 w1 := (Below.refl W0.heap.size W0).drew.trans (below_grown hg (fun k e => by cases e) (Nat.le_refl _));
     have d1 := ((bcell hb1).1 _ 1 (cell_lt c1)).trans c1; have d3 := ((bcell hb1).1 _ 3 (cell_lt c3)).trans c3;
     have n2' := (hb1.block (w.heap.size + 1) (by omega)).trans HN2.out;
     have g0 := cell_of_row w1 _ 0 _ _ _ n2'; have g1 := cell_of_row w1 _ 1 _ _ _ n2'; have g2 := cell_of_row w1 _ 2 _ _ _ n2';
     have i0 := frozen_of_row w1 _ 0 _ _ n2'; have i1 := frozen_of_row w1 _ 1 _ _ n2'; have i2 := frozen_of_row w1 _ 2 _ _ n2'))
  all_goals
    have HE := Lib.hid (of_end (h := h) (t := t) hown hb1 hsz HB0.out n2')
    clear n2' g0 g1 g2 i0 i1 i2 hown hg
    obtain ⟨k0, k1, k2⟩ := HE.out.1
    go_wp2
    refine bodyPost_ret (v := .agg #[.string h, .string t, .slice a' fs.length c']) ?_ rfl HE.out.2
    simp [results, Tryz.f30, go_sem, k0, k1, k2]
end Go.Proofs.YtehdeclpighdeaaGreatDoor
