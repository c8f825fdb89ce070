/- The walk of Find. -/
import Derived.Test.YtbkhmkpbbggcbaaGreatDoorKSubRead2
import Derived.Deep.LoopGhost
import Derived.WalkMore
import Derived.LoopN
namespace Go.Proofs.YtbkhmkpbbggcbaaGreatDoor
open Go.RowKit
set_option linter.unusedVariables false
attribute [local go_sem ↓] Go.wp_at_zero Go.wp_at_succ
def clampN (i : Int) (n : Nat) : Nat := min i.toNat n
def useV (u : Use) : Value := .agg #[.int .i64 u.src, .int .i64 u.to, .string ⟨u.name.toArray⟩, .string ⟨u.key.toArray⟩, .string ⟨u.dft.toArray⟩, .bool u.hk, .bool u.hd]
def noUse : Use := ⟨0, 0, [], [], [], false, false⟩
def foundV (o : Option Use) : Value := .tuple #[useV (o.getD noUse), .bool o.isSome]
theorem clamp_eq (i : Int) (n : Nat) : min (max 0 i) (n : Int) = (clampN i n : Int) := by unfold clampN; omega
theorem clamp_le (i : Int) (n : Nat) : clampN i n ≤ n := Nat.min_le_right _ _
theorem exl_drop' (s : ByteArray) (n : Nat) : (s.extract n s.size) = ⟨(s.data.toList.drop n).toArray⟩ := by
  have := exl_drop s.data.toList n s.size (by rw [bs_size]; exact Nat.le_refl _)
  exact this
theorem foundV_none : foundV none = .tuple #[.agg #[.int .i64 0, .int .i64 0, .string ⟨#[]⟩, .string ⟨#[]⟩, .string ⟨#[]⟩, .bool false, .bool false], .bool false] := rfl
theorem drop_small (s : ByteArray) (k : Nat) (hs : s.size ≤ 100000000) : (⟨(s.data.toList.drop k).toArray⟩ : ByteArray).size < 4294967281 := by
  show (s.data.toList.drop k).length < 4294967281
  rw [List.length_drop, bs_size]; omega
def NoBox (W : World) (b : Nat) : Prop := W.heap[b]? = some (.cells #[.int .i64 0, .int .i64 0, .string ⟨#[]⟩, .string ⟨#[]⟩, .string ⟨#[]⟩, .bool false, .bool false] 23)
theorem noBox_cells {W : World} {b : Nat} (h : NoBox W b) : (W.cell? ⟨b, 0, none⟩ = some (.int .i64 0) ∧ W.cell? ⟨b, 1, none⟩ = some (.int .i64 0) ∧ W.cell? ⟨b, 2, none⟩ = some (.string ⟨#[]⟩) ∧ W.cell? ⟨b, 3, none⟩ = some (.string ⟨#[]⟩) ∧ W.cell? ⟨b, 4, none⟩ = some (.string ⟨#[]⟩) ∧ W.cell? ⟨b, 5, none⟩ = some (.bool false) ∧ W.cell? ⟨b, 6, none⟩ = some (.bool false)) ∧
    W.frozen? ⟨b, 0, none⟩ = false ∧ W.frozen? ⟨b, 1, none⟩ = false ∧ W.frozen? ⟨b, 2, none⟩ = false ∧ W.frozen? ⟨b, 3, none⟩ = false ∧ W.frozen? ⟨b, 4, none⟩ = false ∧ W.frozen? ⟨b, 5, none⟩ = false ∧ W.frozen? ⟨b, 6, none⟩ = false :=
  ⟨⟨cell_of_row _ _ 0 _ _ _ h, cell_of_row _ _ 1 _ _ _ h, cell_of_row _ _ 2 _ _ _ h, cell_of_row _ _ 3 _ _ _ h, cell_of_row _ _ 4 _ _ _ h, cell_of_row _ _ 5 _ _ _ h, cell_of_row _ _ 6 _ _ _ h⟩,
   frozen_of_row _ _ 0 _ _ h, frozen_of_row _ _ 1 _ _ h, frozen_of_row _ _ 2 _ _ h, frozen_of_row _ _ 3 _ _ h, frozen_of_row _ _ 4 _ _ h, frozen_of_row _ _ 5 _ _ h, frozen_of_row _ _ 6 _ _ h⟩
theorem row7 {W : World} {b : Nat} {T : TypeId} {a0 a1 a2 a3 a4 a5 a6 : Value} (v0 v1 v2 v3 v4 v5 v6 : Value) (h : W.heap[b]? = some (.cells #[a0, a1, a2, a3, a4, a5, a6] T)) :
    (((((((W.setCell ⟨b, 0, none⟩ v0).setCell ⟨b, 1, none⟩ v1).setCell ⟨b, 2, none⟩ v2).setCell ⟨b, 3, none⟩ v3).setCell ⟨b, 4, none⟩ v4).setCell ⟨b, 5, none⟩ v5).setCell ⟨b, 6, none⟩ v6).heap[b]? = some (.cells #[v0, v1, v2, v3, v4, v5, v6] T) := by
  have r0 : (W.setCell ⟨b, 0, none⟩ v0).heap[b]? = some (.cells #[v0, a1, a2, a3, a4, a5, a6] T) := row_set (j := 0) h
  generalize W.setCell ⟨b, 0, none⟩ v0 = W0 at *
  have r1 : (W0.setCell ⟨b, 1, none⟩ v1).heap[b]? = some (.cells #[v0, v1, a2, a3, a4, a5, a6] T) := row_set (j := 1) r0
  generalize W0.setCell ⟨b, 1, none⟩ v1 = W1 at *
  have r2 : (W1.setCell ⟨b, 2, none⟩ v2).heap[b]? = some (.cells #[v0, v1, v2, a3, a4, a5, a6] T) := row_set (j := 2) r1
  generalize W1.setCell ⟨b, 2, none⟩ v2 = W2 at *
  have r3 : (W2.setCell ⟨b, 3, none⟩ v3).heap[b]? = some (.cells #[v0, v1, v2, v3, a4, a5, a6] T) := row_set (j := 3) r2
  generalize W2.setCell ⟨b, 3, none⟩ v3 = W3 at *
  have r4 : (W3.setCell ⟨b, 4, none⟩ v4).heap[b]? = some (.cells #[v0, v1, v2, v3, v4, a5, a6] T) := row_set (j := 4) r3
  generalize W3.setCell ⟨b, 4, none⟩ v4 = W4 at *
  have r5 : (W4.setCell ⟨b, 5, none⟩ v5).heap[b]? = some (.cells #[v0, v1, v2, v3, v4, v5, a6] T) := row_set (j := 5) r4
  generalize W4.setCell ⟨b, 5, none⟩ v5 = W5 at *
  exact row_set (j := 6) r5
theorem put7 {w W : World} {b n : Nat} (v0 v1 v2 v3 v4 v5 v6 : Value) (hb : Below n w W) (hn : n ≤ b) (h : NoBox W b) :
    ((((((((W.setCell ⟨b, 0, none⟩ v0).setCell ⟨b, 1, none⟩ v1).setCell ⟨b, 2, none⟩ v2).setCell ⟨b, 3, none⟩ v3).setCell ⟨b, 4, none⟩ v4).setCell ⟨b, 5, none⟩ v5).setCell ⟨b, 6, none⟩ v6).cell? ⟨b, 0, none⟩ = some v0 ∧
    (((((((W.setCell ⟨b, 0, none⟩ v0).setCell ⟨b, 1, none⟩ v1).setCell ⟨b, 2, none⟩ v2).setCell ⟨b, 3, none⟩ v3).setCell ⟨b, 4, none⟩ v4).setCell ⟨b, 5, none⟩ v5).setCell ⟨b, 6, none⟩ v6).cell? ⟨b, 1, none⟩ = some v1 ∧
    (((((((W.setCell ⟨b, 0, none⟩ v0).setCell ⟨b, 1, none⟩ v1).setCell ⟨b, 2, none⟩ v2).setCell ⟨b, 3, none⟩ v3).setCell ⟨b, 4, none⟩ v4).setCell ⟨b, 5, none⟩ v5).setCell ⟨b, 6, none⟩ v6).cell? ⟨b, 2, none⟩ = some v2 ∧
    (((((((W.setCell ⟨b, 0, none⟩ v0).setCell ⟨b, 1, none⟩ v1).setCell ⟨b, 2, none⟩ v2).setCell ⟨b, 3, none⟩ v3).setCell ⟨b, 4, none⟩ v4).setCell ⟨b, 5, none⟩ v5).setCell ⟨b, 6, none⟩ v6).cell? ⟨b, 3, none⟩ = some v3 ∧
    (((((((W.setCell ⟨b, 0, none⟩ v0).setCell ⟨b, 1, none⟩ v1).setCell ⟨b, 2, none⟩ v2).setCell ⟨b, 3, none⟩ v3).setCell ⟨b, 4, none⟩ v4).setCell ⟨b, 5, none⟩ v5).setCell ⟨b, 6, none⟩ v6).cell? ⟨b, 4, none⟩ = some v4 ∧
    (((((((W.setCell ⟨b, 0, none⟩ v0).setCell ⟨b, 1, none⟩ v1).setCell ⟨b, 2, none⟩ v2).setCell ⟨b, 3, none⟩ v3).setCell ⟨b, 4, none⟩ v4).setCell ⟨b, 5, none⟩ v5).setCell ⟨b, 6, none⟩ v6).cell? ⟨b, 5, none⟩ = some v5 ∧
    (((((((W.setCell ⟨b, 0, none⟩ v0).setCell ⟨b, 1, none⟩ v1).setCell ⟨b, 2, none⟩ v2).setCell ⟨b, 3, none⟩ v3).setCell ⟨b, 4, none⟩ v4).setCell ⟨b, 5, none⟩ v5).setCell ⟨b, 6, none⟩ v6).cell? ⟨b, 6, none⟩ = some v6) ∧
    Below n w (((((((W.setCell ⟨b, 0, none⟩ v0).setCell ⟨b, 1, none⟩ v1).setCell ⟨b, 2, none⟩ v2).setCell ⟨b, 3, none⟩ v3).setCell ⟨b, 4, none⟩ v4).setCell ⟨b, 5, none⟩ v5).setCell ⟨b, 6, none⟩ v6) := by
  have r := row7 v0 v1 v2 v3 v4 v5 v6 h
  exact ⟨⟨cell_of_row _ _ 0 _ _ _ r, cell_of_row _ _ 1 _ _ _ r, cell_of_row _ _ 2 _ _ _ r, cell_of_row _ _ 3 _ _ _ r, cell_of_row _ _ 4 _ _ _ r, cell_of_row _ _ 5 _ _ _ r, cell_of_row _ _ 6 _ _ _ r⟩,
    ((((((hb.setCell (p := ⟨b, 0, none⟩) hn _).setCell (p := ⟨b, 1, none⟩) hn _).setCell (p := ⟨b, 2, none⟩) hn _).setCell (p := ⟨b, 3, none⟩) hn _).setCell (p := ⟨b, 4, none⟩) hn _).setCell (p := ⟨b, 5, none⟩) hn _).setCell (p := ⟨b, 6, none⟩) hn _⟩
def rdf (k p : Nat) : Value := .func (.func k) #[.pointer (some ⟨p, 0, none⟩)] #[]
def FourR (W : World) (b p : Nat) : Prop := W.heap[b]? = some (.cells #[rdf 54 p, rdf 55 p, rdf 56 p, rdf 57 p] 28)
theorem fourr_cells {W : World} {b p : Nat} (h : FourR W b p) : W.cell? ⟨b, 0, none⟩ = some (.func (.func 54) #[.pointer (some ⟨p, 0, none⟩)] #[]) ∧ W.cell? ⟨b, 1, none⟩ = some (.func (.func 55) #[.pointer (some ⟨p, 0, none⟩)] #[]) ∧ W.cell? ⟨b, 2, none⟩ = some (.func (.func 56) #[.pointer (some ⟨p, 0, none⟩)] #[]) ∧ W.cell? ⟨b, 3, none⟩ = some (.func (.func 57) #[.pointer (some ⟨p, 0, none⟩)] #[]) :=
  ⟨cell_of_row _ _ 0 _ _ _ h, cell_of_row _ _ 1 _ _ _ h, cell_of_row _ _ 2 _ _ _ h, cell_of_row _ _ 3 _ _ _ h⟩
theorem blk_lt {W : World} {b : Nat} {o : Obj} (h : W.heap[b]? = some o) : b < W.heap.size := by
  by_cases hb : b < W.heap.size
  · exact hb
  · rw [Array.getElem?_eq_none (by omega)] at h; cases h
theorem FourR.turn {W W' : World} {b p : Nat} (h : FourR W b p) (T : Turn p W W') (hne : b ≠ p) : FourR W' b p := (T.block b (blk_lt h) (by intro e; cases e; exact hne rfl)).trans h
structure Mid (w W : World) (b p : Nat) : Prop where
  below : Below w.heap.size w W
  box : NoBox W w.heap.size
  four : FourR W b p
  good : Good W
theorem Mid.turn {w W W' : World} {b p : Nat} (h : Mid w W b p) (T : Turn p W W') (hne : b ≠ p) (hp : w.heap.size < p) (hg : Good w) : Mid w W' b p :=
  have hb := h.below.trans (T.below (Nat.le_of_lt hp) h.below.size)
  ⟨hb, (T.block _ (blk_lt h.box) (by intro e; cases e; omega)).trans h.box, h.four.turn T hne, hg.next hb⟩
theorem mid_new {w wr : World} (hb : Below w.heap.size w wr) (hn : NoBox wr w.heap.size) (hg : Good wr) (s : ByteArray) (n : Nat) :
    Mid w ((wr.alloc (.cells #[.string ⟨(s.data.toList.drop n).toArray⟩, .int .i64 0, .int .i64 0, .string ⟨#[]⟩, .string ⟨#[]⟩, .string ⟨#[]⟩, .bool false, .bool false] 94)).alloc (.cells #[.func (.func 54) #[.pointer (some ⟨wr.heap.size, 0, none⟩)] #[], .func (.func 55) #[.pointer (some ⟨wr.heap.size, 0, none⟩)] #[], .func (.func 56) #[.pointer (some ⟨wr.heap.size, 0, none⟩)] #[], .func (.func 57) #[.pointer (some ⟨wr.heap.size, 0, none⟩)] #[]] 28)) (wr.heap.size + 1) wr.heap.size ∧
    RB ((wr.alloc (.cells #[.string ⟨(s.data.toList.drop n).toArray⟩, .int .i64 0, .int .i64 0, .string ⟨#[]⟩, .string ⟨#[]⟩, .string ⟨#[]⟩, .bool false, .bool false] 94)).alloc (.cells #[.func (.func 54) #[.pointer (some ⟨wr.heap.size, 0, none⟩)] #[], .func (.func 55) #[.pointer (some ⟨wr.heap.size, 0, none⟩)] #[], .func (.func 56) #[.pointer (some ⟨wr.heap.size, 0, none⟩)] #[], .func (.func 57) #[.pointer (some ⟨wr.heap.size, 0, none⟩)] #[]] 28)) wr.heap.size (s.data.toList.drop n) [] [] [] false false := by
  have t := two_new wr (.cells #[.string ⟨(s.data.toList.drop n).toArray⟩, .int .i64 0, .int .i64 0, .string ⟨#[]⟩, .string ⟨#[]⟩, .string ⟨#[]⟩, .bool false, .bool false] 94) (.cells #[.func (.func 54) #[.pointer (some ⟨wr.heap.size, 0, none⟩)] #[], .func (.func 55) #[.pointer (some ⟨wr.heap.size, 0, none⟩)] #[], .func (.func 56) #[.pointer (some ⟨wr.heap.size, 0, none⟩)] #[], .func (.func 57) #[.pointer (some ⟨wr.heap.size, 0, none⟩)] #[]] 28)
  exact ⟨⟨hb.trans (t.below.mono hb.size), (t.below.block _ (blk_lt hn)).trans hn, t.b2, hg.next t.below⟩, t.b1⟩
structure Ended (w W W' : World) (p : Nat) (v1 v2 : Value) (r nm k d : Bs) (hk hd : Bool) : Prop where
  row : W'.heap[p]? = some (.cells #[.string ⟨r.toArray⟩, v1, v2, .string ⟨nm.toArray⟩, .string ⟨k.toArray⟩, .string ⟨d.toArray⟩, .bool hk, .bool hd] 94)
  box : NoBox W' w.heap.size
  below : Below w.heap.size w W'
theorem ended {w W : World} {b p : Nat} {r nm k d : Bs} {hk hd : Bool} (h : Mid w W b p) (hr : RB W p r nm k d hk hd) (hp : w.heap.size < p) (v1 v2 : Value) :
    Ended w W ((W.setCell ⟨p, 1, none⟩ v1).setCell ⟨p, 2, none⟩ v2) p v1 v2 r nm k d hk hd ∧ (W.cell? ⟨p, 1, none⟩ = some (.int .i64 0) ∧ W.frozen? ⟨p, 1, none⟩ = false) ∧ ((W.setCell ⟨p, 1, none⟩ v1).cell? ⟨p, 2, none⟩ = some (.int .i64 0) ∧ (W.setCell ⟨p, 1, none⟩ v1).frozen? ⟨p, 2, none⟩ = false) := by
  have r1 : (W.setCell ⟨p, 1, none⟩ v1).heap[p]? = some (.cells #[.string ⟨r.toArray⟩, v1, .int .i64 0, .string ⟨nm.toArray⟩, .string ⟨k.toArray⟩, .string ⟨d.toArray⟩, .bool hk, .bool hd] 94) := row_set (j := 1) hr
  refine ⟨⟨row_set (j := 2) r1, ?_, ?_⟩, ⟨cell_of_row _ _ 1 _ _ _ hr, frozen_of_row _ _ 1 _ _ hr⟩, ⟨cell_of_row _ _ 2 _ _ _ r1, frozen_of_row _ _ 2 _ _ r1⟩⟩
  · exact (Below.heap_setCell _ ⟨p, 2, none⟩ _ _ (by show w.heap.size ≠ p; omega)).trans ((Below.heap_setCell _ ⟨p, 1, none⟩ _ _ (by show w.heap.size ≠ p; omega)).trans h.box)
  · exact (h.below.setCell (p := ⟨p, 1, none⟩) (Nat.le_of_lt hp) _).setCell (p := ⟨p, 2, none⟩) (Nat.le_of_lt hp) _
theorem Ended.cells {w W W' : World} {p : Nat} {v1 v2 : Value} {r nm k d : Bs} {hk hd : Bool} (h : Ended w W W' p v1 v2 r nm k d hk hd) :
    W'.cell? ⟨p, 1, none⟩ = some v1 ∧ W'.cell? ⟨p, 2, none⟩ = some v2 ∧ W'.cell? ⟨p, 3, none⟩ = some (.string ⟨nm.toArray⟩) ∧ W'.cell? ⟨p, 4, none⟩ = some (.string ⟨k.toArray⟩) ∧ W'.cell? ⟨p, 5, none⟩ = some (.string ⟨d.toArray⟩) ∧ W'.cell? ⟨p, 6, none⟩ = some (.bool hk) ∧ W'.cell? ⟨p, 7, none⟩ = some (.bool hd) :=
  ⟨cell_of_row _ _ 1 _ _ _ h.row, cell_of_row _ _ 2 _ _ _ h.row, cell_of_row _ _ 3 _ _ _ h.row, cell_of_row _ _ 4 _ _ _ h.row, cell_of_row _ _ 5 _ _ _ h.row, cell_of_row _ _ 6 _ _ _ h.row, cell_of_row _ _ 7 _ _ _ h.row⟩
theorem use_val (n i : Nat) (p : Parts) (h : p.rest.length ≤ n) : useV (mkUse n i p) = .agg #[.int .i64 (i : Int), .int .i64 ((n : Int) - (p.rest.length : Int)), .string ⟨p.name.toArray⟩, .string ⟨p.key.toArray⟩, .string ⟨p.dft.toArray⟩, .bool p.hk, .bool p.hd] := by
  unfold useV mkUse
  rw [show (((n - p.rest.length : Nat)) : Int) = (n : Int) - (p.rest.length : Int) by omega]
theorem found_val (n i : Nat) (p : Parts) (h : p.rest.length ≤ n) : foundV (some (mkUse n i p)) = .tuple #[.agg #[.int .i64 (i : Int), .int .i64 ((n : Int) - (p.rest.length : Int)), .string ⟨p.name.toArray⟩, .string ⟨p.key.toArray⟩, .string ⟨p.dft.toArray⟩, .bool p.hk, .bool p.hd], .bool true] := by
  rw [← use_val n i p h]; rfl
theorem parts_name {r : Bs} (h : vknown (r.takeWhile letc) = false) : useAt r = none := by unfold useAt; rw [h]; rfl
theorem parts_key {r : Bs} (h : keyAt (r.dropWhile letc) = none) : useAt r = none := by unfold useAt; rw [h]; cases vknown (r.takeWhile letc) <;> rfl
theorem parts_other {r k r2 : Bs} {hk : Bool} (h : vknown (r.takeWhile letc) = true) (h2 : keyAt (r.dropWhile letc) = some (k, hk, r2)) : useAt r = otherAt (r.takeWhile letc) k hk r2 := by unfold useAt; rw [h, h2]; rfl
theorem other_none {nm k r : Bs} {hk : Bool} (h : dftAt r = none) : otherAt nm k hk r = none := by unfold otherAt; rw [h]
theorem other_some {nm k r d r3 : Bs} {hk hd : Bool} (h : dftAt r = some (d, hd, r3)) : otherAt nm k hk r = endAt nm k d hk hd r3 := by unfold otherAt; rw [h]
theorem end_no {nm k d r : Bs} {hk hd : Bool} (h : Lib.hasPrefix r [41] = false) : endAt nm k d hk hd r = none := by unfold endAt; rw [h]; rfl
theorem end_yes {nm k d r : Bs} {hk hd : Bool} (h : Lib.hasPrefix r [41] = true) : endAt nm k d hk hd r = some ⟨nm, k, d, hk, hd, Lib.trimPrefix r [41]⟩ := by unfold endAt; rw [h]; rfl
theorem find_on {s : Bs} {k i0 j : Nat} (HF : vfind s k = vfind s i0) (HS : vfind s k = vfind s (k + j) ∧ begins (s.drop (k + j)) = true ∧ k + j + 2 ≤ s.length) (h : useAt (s.drop (k + j + 2)) = none) : vfind s (k + j + 1) = vfind s i0 := by
  rw [← HF, HS.1, vfind_next (i := k + j)]
  rw [partsAt_yes HS.2.1, List.drop_drop]; exact h
theorem find_done {s : Bs} {k i0 j : Nat} {p : Parts} (HF : vfind s k = vfind s i0) (HS : vfind s k = vfind s (k + j) ∧ begins (s.drop (k + j)) = true ∧ k + j + 2 ≤ s.length) (h : useAt (s.drop (k + j + 2)) = some p) : vfind s i0 = some (mkUse s.length (k + j) p) := by
  rw [← HF, HS.1, vfind_at (i := k + j)]
  rw [partsAt_yes HS.2.1, List.drop_drop]; exact h
set_option maxRecDepth 100000 in
set_option maxHeartbeats 1000000 in
theorem sub_Find (s : ByteArray) (i : Int) (w : World) (hg : Good w) (hs : s.size ≤ 100000000) :
    Calls Tryz.prog 41 #[.string s, .int .i64 i] w (Ret w (foundV (vfind s.data.toList (clampN i s.size)))) := by
  have hm := clamp_eq i s.size
  have hcl := clamp_le i s.size
  have HN := Lib.hid (show NoBox (w.alloc (.cells #[.int .i64 0, .int .i64 0, .string ⟨#[]⟩, .string ⟨#[]⟩, .string ⟨#[]⟩, .bool false, .bool false] 23)) w.heap.size from heap_alloc_new w _)
  have HB := Lib.hid ((Below.refl w.heap.size w).alloc (Nat.le_refl _) (.cells #[.int .i64 0, .int .i64 0, .string ⟨#[]⟩, .string ⟨#[]⟩, .string ⟨#[]⟩, .bool false, .bool false] 23))
  have HG := Lib.hid hg
  clear hg
  go_enter Tryz.func41, Tryz.ntmps41
  go_wp2_with fail
  generalize w.alloc (.cells #[.int .i64 0, .int .i64 0, .string ⟨#[]⟩, .string ⟨#[]⟩, .string ⟨#[]⟩, .bool false, .bool false] 23) = W0 at *
  go_step3
  go_wp2_with fail
  clear hm
  generalize clampN i s.size = i0 at *
  go_step3
  go_wp2_with fail
  go_loopg [1] (s.size - i0) (fun g f wr => ∃ k : Nat, k ≤ s.size ∧ s.size ≤ k + g ∧ f = .int .i64 k ∧ Hid (vfind s.data.toList k = vfind s.data.toList i0) ∧ Hid (Below w.heap.size w wr) ∧ Hid (NoBox wr w.heap.size))
  case atStart => exact ⟨i0, hcl, by omega, rfl, Lib.hid rfl, HB, HN⟩
  case round =>
    obtain ⟨k, hk, hkg, rfl, HF, HBr, HNr⟩ := hrel
    have HGr := Lib.hid (HG.out.next HBr.out)
    go_wp2_with fail
    rw [exl_drop']
    refine (lib_Index ⟨(s.data.toList.drop k).toArray⟩ ⟨#[36, 40]⟩ _ HGr.out (drop_small s k hs)).mono ?_
    rintro e w1 ⟨rfl, rfl⟩
    have e1 : Lib.index (⟨(s.data.toList.drop k).toArray⟩ : ByteArray).data.toList (⟨#[36, 40]⟩ : ByteArray).data.toList = Lib.index (s.data.toList.drop k) [36, 40] := rfl
    rw [e1]
    clear e1
    rcases Int.lt_or_le (Lib.index (s.data.toList.drop k) [36, 40]) 0 with hj | hj
    · have hj1 : Lib.index (s.data.toList.drop k) [36, 40] = -1 := by have := Lib.index_ge (s.data.toList.drop k) [36, 40]; omega
      have HE := Lib.hid (vfind_skip_all hj1)
      have hN := noBox_cells HNr.out
      obtain ⟨⟨c0, c1, c2, c3, c4, c5, c6⟩, f0, f1, f2, f3, f4, f5, f6⟩ := hN
      rw [hj1]
      clear hj1 hj
      go_wp2_with fail
      have HP := Lib.hid (put7 (.int .i64 0) (.int .i64 0) (.string ⟨#[]⟩) (.string ⟨#[]⟩) (.string ⟨#[]⟩) (.bool false) (.bool false) HBr.out (Nat.le_refl _) HNr.out)
      obtain ⟨k0, k1, k2, k3, k4, k5, k6⟩ := HP.out.1
      clear c0 c1 c2 c3 c4 c5 c6 f0 f1 f2 f3 f4 f5 f6
      try rw [Exit.noGoto_ret]
      refine bodyPost_ret (v := foundV none) ?_ rfl ⟨by rw [← HF.out, HE.out], HP.out.2⟩
      rw [foundV_none]
      simp [results, Tryz.f41, go_sem, k0, k1, k2, k3, k4, k5, k6]
    · obtain ⟨j, hjj⟩ : ∃ j : Nat, Lib.index (s.data.toList.drop k) [36, 40] = (j : Int) := ⟨_, (Int.toNat_of_nonneg hj).symm⟩
      have HS := Lib.hid (vfind_skip_to hjj)
      have hlen : k + j + 2 ≤ s.size := by have := HS.out.2.2; rw [bs_size] at this; exact this
      rw [hjj]
      clear hjj hj
      have hlen' : (k : Int) + (j : Int) + 2 ≤ (s.size : Int) := by omega
      have HM := Lib.hid (mid_new HBr.out HNr.out HGr.out s (k + j + 2))
      have hp : w.heap.size < wr.heap.size := blk_lt HNr.out
      clear HBr HNr HGr
      go_wp2_with fail
      rw [exl_drop']
      generalize (wr.alloc (.cells #[.string ⟨(s.data.toList.drop (k + j + 2)).toArray⟩, .int .i64 0, .int .i64 0, .string ⟨#[]⟩, .string ⟨#[]⟩, .string ⟨#[]⟩, .bool false, .bool false] 94)).alloc (.cells #[.func (.func 54) #[.pointer (some ⟨wr.heap.size, 0, none⟩)] #[], .func (.func 55) #[.pointer (some ⟨wr.heap.size, 0, none⟩)] #[], .func (.func 56) #[.pointer (some ⟨wr.heap.size, 0, none⟩)] #[], .func (.func 57) #[.pointer (some ⟨wr.heap.size, 0, none⟩)] #[]] 28) = W1 at *
      generalize wr.heap.size = p at *
      have HM1 := Lib.hid HM.out.1
      have HR1 := Lib.hid HM.out.2
      clear HM
      have hrl : (s.data.toList.drop (k + j + 2)).length ≤ s.size := by rw [List.length_drop, bs_size]; omega
      obtain ⟨c0, c1, c2, c3⟩ := fourr_cells HM1.out.four
      clear c1 c2 c3
      refine wp_loop_rounds 5 ?_
      rw [rounds_succ]
      go_wp2_with fail
      refine (rd_name p (s.data.toList.drop (k + j + 2)) [] [] [] false false _ (by omega) HR1.out).mono ?_
      rintro e w2 ⟨rfl, hR2, hT2⟩
      have HM2 := Lib.hid (HM1.out.turn hT2 (by omega) hp HG.out)
      have HR2 := Lib.hid hR2
      have hl2 := dropWhile_len letc (s.data.toList.drop (k + j + 2))
      clear hR2 hT2 HM1 HR1 c0
      rcases h1 : vknown ((s.data.toList.drop (k + j + 2)).takeWhile letc) with _ | _
      · have H1 := Lib.hid h1
        go_wp2
        go_roundg (s.size - (k + j + 1))
        case measure => omega
        case rel => exact ⟨k + j + 1, by omega, by omega, by go_num, Lib.hid (find_on HF.out HS.out (parts_name H1.out)), Lib.hid HM2.out.below, Lib.hid HM2.out.box⟩
      · have H1 := Lib.hid h1
        obtain ⟨c0, c1, c2, c3⟩ := fourr_cells HM2.out.four
        clear c0 c2 c3
        go_wp2_with fail
        rw [rounds_succ]
        go_wp2_with fail
        refine (rd_key p ((s.data.toList.drop (k + j + 2)).dropWhile letc) ((s.data.toList.drop (k + j + 2)).takeWhile letc) [] false _ HM2.out.good (Nat.lt_trans HG.out.lt hp) (by omega) HR2.out).mono ?_
        intro e w3 hK
        unfold KeyPost at hK
        clear h1
        rcases h2 : keyAt ((s.data.toList.drop (k + j + 2)).dropWhile letc) with _ | ⟨ky, hk', r2⟩
        · have H2 := Lib.hid h2
          rw [h2] at hK
          obtain ⟨rfl, hT3⟩ := hK
          have HM3 := Lib.hid (HM2.out.turn hT3 (by omega) hp HG.out)
          clear hT3 h2 HR2 HM2 c1
          go_wp2
          go_roundg (s.size - (k + j + 1))
          case measure => omega
          case rel => exact ⟨k + j + 1, by omega, by omega, by go_num, Lib.hid (find_on HF.out HS.out (parts_key H2.out)), Lib.hid HM3.out.below, Lib.hid HM3.out.box⟩
        · rw [h2] at hK
          obtain ⟨rfl, hR3, hT3⟩ := hK
          have HM3 := Lib.hid (HM2.out.turn hT3 (by omega) hp HG.out)
          have HR3 := Lib.hid hR3
          have hl3 := keyAt_len h2
          have H2 := Lib.hid (parts_other H1.out h2)
          clear hR3 hT3 h2 HR2 HM2 c1
          generalize (s.data.toList.drop (k + j + 2)).takeWhile letc = nm at *
          obtain ⟨c0, c1, c2, c3⟩ := fourr_cells HM3.out.four
          clear c0 c1 c3
          go_wp2_with fail
          rw [rounds_succ]
          go_wp2_with fail
          refine (rd_other p r2 nm ky hk' _ HM3.out.good (Nat.lt_trans HG.out.lt hp) (by omega) HR3.out).mono ?_
          intro e w4 hK
          unfold DftPost at hK
          rcases h3 : dftAt r2 with _ | ⟨d, hd', r3⟩
          · have H3 := Lib.hid (H2.out.trans (other_none h3))
            rw [h3] at hK
            obtain ⟨rfl, hT4⟩ := hK
            have HM4 := Lib.hid (HM3.out.turn hT4 (by omega) hp HG.out)
            clear hT4 h3 HR3 HM3 c2
            go_wp2
            go_roundg (s.size - (k + j + 1))
            case measure => omega
            case rel => exact ⟨k + j + 1, by omega, by omega, by go_num, Lib.hid (find_on HF.out HS.out H3.out), Lib.hid HM4.out.below, Lib.hid HM4.out.box⟩
          · rw [h3] at hK
            obtain ⟨rfl, hR4, hT4⟩ := hK
            have HM4 := Lib.hid (HM3.out.turn hT4 (by omega) hp HG.out)
            have HR4 := Lib.hid hR4
            have hl4 := dftAt_len h3
            have H3 := Lib.hid (H2.out.trans (other_some h3))
            clear hR4 hT4 h3 HR3 HM3 c2
            obtain ⟨c0, c1, c2, c3⟩ := fourr_cells HM4.out.four
            clear c0 c1 c2
            go_wp2_with fail
            rw [rounds_succ]
            go_wp2_with fail
            refine (rd_end p r3 nm ky d hk' hd' _ HR4.out).mono ?_
            rintro e w5 ⟨rfl, hR5, hT5⟩
            have HM5 := Lib.hid (HM4.out.turn hT5 (by omega) hp HG.out)
            have HR5 := Lib.hid hR5
            clear hR5 hT5 HR4 HM4 c3
            rcases h4 : Lib.hasPrefix r3 [41] with _ | _
            · have H4 := Lib.hid (H3.out.trans (end_no h4))
              go_wp2
              go_roundg (s.size - (k + j + 1))
              case measure => omega
              case rel => exact ⟨k + j + 1, by omega, by omega, by go_num, Lib.hid (find_on HF.out HS.out H4.out), Lib.hid HM5.out.below, Lib.hid HM5.out.box⟩
            · have H4 := Lib.hid (find_done HF.out HS.out (H3.out.trans (end_yes h4)))
              have hl5 := tpfx_len h4
              clear h4
              have hl6 : (Lib.trimPrefix r3 [41]).length ≤ s.size := by simp only [List.length_singleton] at hl5; omega
              clear hl5
              generalize Lib.trimPrefix r3 [41] = rr at *
              have hrr : (rr.length : Int) ≤ (s.size : Int) := by omega
              have HE := Lib.hid (ended HM5.out HR5.out hp (.int .i64 ((k : Int) + (j : Int))) (.int .i64 ((s.size : Int) - (rr.length : Int))))
              obtain ⟨⟨a1, a2⟩, a3, a4⟩ := HE.out.2
              obtain ⟨d1, d2, d3, d4, d5, d6, d7⟩ := HE.out.1.cells
              obtain ⟨⟨b0, b1, b2, b3, b4, b5, b6⟩, g0, g1, g2, g3, g4, g5, g6⟩ := noBox_cells HE.out.1.box
              have c0 := HR5.out.rc.c0
              have HP := Lib.hid (put7 (.int .i64 ((k : Int) + (j : Int))) (.int .i64 ((s.size : Int) - (rr.length : Int))) (.string ⟨nm.toArray⟩) (.string ⟨ky.toArray⟩) (.string ⟨d.toArray⟩) (.bool hk') (.bool hd') HE.out.1.below (Nat.le_refl _) HE.out.1.box)
              go_wp2_with fail
              rw [rounds_succ]
              go_wp2_with fail
              clear a1 a2 a3 a4 d1 d2 d3 d4 d5 d6 d7 b0 b1 b2 b3 b4 b5 b6 g0 g1 g2 g3 g4 g5 g6 c0
              obtain ⟨k0, k1, k2, k3, k4, k5, k6⟩ := HP.out.1
              try rw [Exit.noGoto_ret]
              refine bodyPost_ret (v := foundV (some (mkUse s.data.toList.length (k + j) ⟨nm, ky, d, hk', hd', rr⟩))) ?_ rfl ⟨by rw [← H4.out], HP.out.2⟩
              rw [found_val _ _ _ (by rw [bs_size]; exact hl6), bs_size]
              simp [results, Tryz.f41, go_sem, k0, k1, k2, k3, k4, k5, k6]
end Go.Proofs.YtbkhmkpbbggcbaaGreatDoor
