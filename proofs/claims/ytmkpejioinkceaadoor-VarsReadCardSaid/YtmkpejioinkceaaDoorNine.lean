/- The nine cells of a request and a variable. -/
import Derived.Test.YtmkpejioinkceaaDoorAwake
namespace Go.Proofs.YtmkpejioinkceaaDoor
open Go.RowKit
set_option linter.unusedVariables false

theorem nine_below {w W W' : World} {m t bd host name key : ByteArray} {mn : Int} {a : Option Addr} {n c : Nat} {has : Bool} (hb : Below W.heap.size W W') (hl : w.heap.size + 1 < W.heap.size)
    (h : W.cell? ⟨w.heap.size, 0, none⟩ = some (.string m) ∧ W.cell? ⟨w.heap.size, 1, none⟩ = some (.string t) ∧ W.cell? ⟨w.heap.size, 2, none⟩ = some (.int .i64 mn) ∧ W.cell? ⟨w.heap.size, 3, none⟩ = some (.slice a n c) ∧ W.cell? ⟨w.heap.size, 4, none⟩ = some (.string bd) ∧ W.cell? ⟨w.heap.size + 1, 0, none⟩ = some (.string host) ∧ W.cell? ⟨w.heap.size + 1, 1, none⟩ = some (.string name) ∧ W.cell? ⟨w.heap.size + 1, 2, none⟩ = some (.string key) ∧ W.cell? ⟨w.heap.size + 1, 3, none⟩ = some (.bool has)) : W'.cell? ⟨w.heap.size, 0, none⟩ = some (.string m) ∧ W'.cell? ⟨w.heap.size, 1, none⟩ = some (.string t) ∧ W'.cell? ⟨w.heap.size, 2, none⟩ = some (.int .i64 mn) ∧ W'.cell? ⟨w.heap.size, 3, none⟩ = some (.slice a n c) ∧ W'.cell? ⟨w.heap.size, 4, none⟩ = some (.string bd) ∧ W'.cell? ⟨w.heap.size + 1, 0, none⟩ = some (.string host) ∧ W'.cell? ⟨w.heap.size + 1, 1, none⟩ = some (.string name) ∧ W'.cell? ⟨w.heap.size + 1, 2, none⟩ = some (.string key) ∧ W'.cell? ⟨w.heap.size + 1, 3, none⟩ = some (.bool has) := by
  obtain ⟨h0, h1, h2, h3, h4, k0, k1, k2, k3⟩ := h
  have q := (bcell hb).1
  exact ⟨(q _ _ (by omega)).trans h0, (q _ _ (by omega)).trans h1, (q _ _ (by omega)).trans h2, (q _ _ (by omega)).trans h3, (q _ _ (by omega)).trans h4, (q _ _ hl).trans k0, (q _ _ hl).trans k1, (q _ _ hl).trans k2, (q _ _ hl).trans k3⟩
theorem nine_new {w W : World} {m t bd host name key : ByteArray} {mn : Int} {a : Option Addr} {n c : Nat} {has : Bool} (h : Two w W (.cells #[.string m, .string t, .int .i64 mn, .slice a n c, .string bd] 24) (.cells #[.string host, .string name, .string key, .bool has] 26)) : W.cell? ⟨w.heap.size, 0, none⟩ = some (.string m) ∧ W.cell? ⟨w.heap.size, 1, none⟩ = some (.string t) ∧ W.cell? ⟨w.heap.size, 2, none⟩ = some (.int .i64 mn) ∧ W.cell? ⟨w.heap.size, 3, none⟩ = some (.slice a n c) ∧ W.cell? ⟨w.heap.size, 4, none⟩ = some (.string bd) ∧ W.cell? ⟨w.heap.size + 1, 0, none⟩ = some (.string host) ∧ W.cell? ⟨w.heap.size + 1, 1, none⟩ = some (.string name) ∧ W.cell? ⟨w.heap.size + 1, 2, none⟩ = some (.string key) ∧ W.cell? ⟨w.heap.size + 1, 3, none⟩ = some (.bool has) :=
  ⟨cell_of_row _ _ 0 _ _ _ h.b1, cell_of_row _ _ 1 _ _ _ h.b1, cell_of_row _ _ 2 _ _ _ h.b1, cell_of_row _ _ 3 _ _ _ h.b1, cell_of_row _ _ 4 _ _ _ h.b1,
   cell_of_row _ _ 0 _ _ _ h.b2, cell_of_row _ _ 1 _ _ _ h.b2, cell_of_row _ _ 2 _ _ _ h.b2, cell_of_row _ _ 3 _ _ _ h.b2⟩
end Go.Proofs.YtmkpejioinkceaaDoor
