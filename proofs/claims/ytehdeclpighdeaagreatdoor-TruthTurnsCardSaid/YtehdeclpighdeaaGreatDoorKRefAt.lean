/- The reference's at: the use that begins at a place. -/
import Derived.Test.YtehdeclpighdeaaGreatDoorKSubFind
import Derived.Deep.DeepCutAuto
import Derived.Deep.CutBlock
namespace Go.Proofs.YtehdeclpighdeaaGreatDoor
open Go.RowKit
set_option linter.unusedVariables false
attribute [local go_sem ↓] Go.wp_at_zero Go.wp_at_succ
end Go.Proofs.YtehdeclpighdeaaGreatDoor
namespace Go.Proofs.YtehdeclpighdeaaGreatDoor
open Go.RowKit
set_option linter.unusedVariables false
attribute [local go_sem ↓] Go.wp_at_zero Go.wp_at_succ
def RU (W : World) (b : Nat) (i t : Int) (nm k d : Bs) (hk hd : Bool) : Prop := W.heap[b]? = some (.cells #[.int .i64 i, .int .i64 t, .string ⟨nm.toArray⟩, .string ⟨k.toArray⟩, .string ⟨d.toArray⟩, .bool hk, .bool hd] 31)
structure RUC (W : World) (b : Nat) (i t : Int) (nm k d : Bs) (hk hd : Bool) : Prop where
  c0 : W.cell? ⟨b, 0, none⟩ = some (.int .i64 i)
  c1 : W.cell? ⟨b, 1, none⟩ = some (.int .i64 t)
  c2 : W.cell? ⟨b, 2, none⟩ = some (.string ⟨nm.toArray⟩)
  c3 : W.cell? ⟨b, 3, none⟩ = some (.string ⟨k.toArray⟩)
  c4 : W.cell? ⟨b, 4, none⟩ = some (.string ⟨d.toArray⟩)
  c5 : W.cell? ⟨b, 5, none⟩ = some (.bool hk)
  c6 : W.cell? ⟨b, 6, none⟩ = some (.bool hd)
  f0 : W.frozen? ⟨b, 0, none⟩ = false
  f1 : W.frozen? ⟨b, 1, none⟩ = false
  f2 : W.frozen? ⟨b, 2, none⟩ = false
  f3 : W.frozen? ⟨b, 3, none⟩ = false
  f4 : W.frozen? ⟨b, 4, none⟩ = false
  f5 : W.frozen? ⟨b, 5, none⟩ = false
  f6 : W.frozen? ⟨b, 6, none⟩ = false
theorem RU.c {W : World} {b : Nat} {i t : Int} {nm k d : Bs} {hk hd : Bool} (h : RU W b i t nm k d hk hd) : RUC W b i t nm k d hk hd :=
  ⟨cell_of_row _ _ 0 _ _ _ h, cell_of_row _ _ 1 _ _ _ h, cell_of_row _ _ 2 _ _ _ h, cell_of_row _ _ 3 _ _ _ h, cell_of_row _ _ 4 _ _ _ h, cell_of_row _ _ 5 _ _ _ h, cell_of_row _ _ 6 _ _ _ h,
   frozen_of_row _ _ 0 _ _ h, frozen_of_row _ _ 1 _ _ h, frozen_of_row _ _ 2 _ _ h, frozen_of_row _ _ 3 _ _ h, frozen_of_row _ _ 4 _ _ h, frozen_of_row _ _ 5 _ _ h, frozen_of_row _ _ 6 _ _ h⟩
structure At (w W : World) (i t : Int) (nm k d : Bs) (hk hd : Bool) : Prop where
  below : Below w.heap.size w W
  res : RU W w.heap.size 0 0 [] [] [] false false
  box : RU W (w.heap.size + 1) i t nm k d hk hd
theorem At.next {w W W' : World} {i t : Int} {nm k d : Bs} {hk hd : Bool} (h : At w W i t nm k d hk hd) (hb : Below W.heap.size W W') : At w W' i t nm k d hk hd :=
  ⟨h.below.trans (hb.mono h.below.size), (hb.block _ (blk_lt h.res)).trans h.res, (hb.block _ (blk_lt h.box)).trans h.box⟩
theorem At.put {w W : World} {i t : Int} {nm k d : Bs} {hk hd : Bool} {i' t' : Int} {nm' k' d' : Bs} {hk' hd' : Bool} (h : At w W i t nm k d hk hd) (j : Nat) (v : Value)
    (hr : RU (W.setCell ⟨w.heap.size + 1, j, none⟩ v) (w.heap.size + 1) i' t' nm' k' d' hk' hd') : At w (W.setCell ⟨w.heap.size + 1, j, none⟩ v) i' t' nm' k' d' hk' hd' :=
  ⟨h.below.setCell (p := ⟨w.heap.size + 1, j, none⟩) (by show w.heap.size ≤ w.heap.size + 1; omega) v, (Below.heap_setCell W ⟨w.heap.size + 1, j, none⟩ v _ (by show w.heap.size ≠ w.heap.size + 1; omega)).trans h.res, hr⟩
theorem At.to {w W : World} {i t : Int} {nm k d : Bs} {hk hd : Bool} (h : At w W i t nm k d hk hd) (x : Int) : At w (W.setCell ⟨w.heap.size + 1, 1, none⟩ (.int .i64 x)) i x nm k d hk hd := h.put 1 _ (row_set (j := 1) h.box)
theorem At.name {w W : World} {i t : Int} {nm k d : Bs} {hk hd : Bool} (h : At w W i t nm k d hk hd) (x : Bs) : At w (W.setCell ⟨w.heap.size + 1, 2, none⟩ (.string ⟨x.toArray⟩)) i t x k d hk hd := h.put 2 _ (row_set (j := 2) h.box)
theorem At.key {w W : World} {i t : Int} {nm k d : Bs} {hk hd : Bool} (h : At w W i t nm k d hk hd) (x : Bs) : At w (W.setCell ⟨w.heap.size + 1, 3, none⟩ (.string ⟨x.toArray⟩)) i t nm x d hk hd := h.put 3 _ (row_set (j := 3) h.box)
theorem At.dft {w W : World} {i t : Int} {nm k d : Bs} {hk hd : Bool} (h : At w W i t nm k d hk hd) (x : Bs) : At w (W.setCell ⟨w.heap.size + 1, 4, none⟩ (.string ⟨x.toArray⟩)) i t nm k x hk hd := h.put 4 _ (row_set (j := 4) h.box)
theorem At.hkey {w W : World} {i t : Int} {nm k d : Bs} {hk hd : Bool} (h : At w W i t nm k d hk hd) (x : Bool) : At w (W.setCell ⟨w.heap.size + 1, 5, none⟩ (.bool x)) i t nm k d x hd := h.put 5 _ (row_set (j := 5) h.box)
end Go.Proofs.YtehdeclpighdeaaGreatDoor
