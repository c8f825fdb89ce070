/- A slice of so many bytes that is made, and becomes a text. -/
import Derived.Test.YtoipnaoijccokaaGreatDoorLib1
import Derived.Test.YtoipnaoijccokaaGreatDoorTwo
import Derived.Laws.OwnMore
namespace Go.Proofs.YtoipnaoijccokaaGreatDoor
open Go.RowKit
set_option linter.unusedVariables false

theorem made_bytesK (K : IntKind) (w : World) (n : Nat) (hn : n ≤ 16777216) :
    ∃ w', (Instr.makeSlice 23 (.int K (n : Int)) (.int K (n : Int))).run Tryz.prog w = .ok (.slice (some ⟨w.heap.size, 0, none⟩) n n) w' ∧
      w'.ownsRow w.heap.size 5 1 (.slice (some ⟨w.heap.size, 0, none⟩) n n) n (bcells (List.replicate n 0)) ∧ Below w.heap.size w w' := by
  obtain ⟨i, hi, hz, hsz, hby⟩ := info_parts info5
  obtain ⟨w', h1, h2, h3⟩ := run_makeSlice_full (P := Tryz.prog) w w.heap.size 23 5 i (.int .u8 0) 1 u23 hi hz hsz K K n (by omega) (by rw [hby]; omega) (by unfold maxLen; omega) (Nat.le_refl _)
  refine ⟨w', h1, ?_, below_grown (v := .slice none 0 0) h3 (by intro k hk; cases hk) (Nat.le_refl _)⟩
  have e : (madeCells (Value.int IntKind.u8 0).cells (n * 1)).toList = bcells (List.replicate n 0) := by
    rw [Nat.mul_one, show (Value.int IntKind.u8 0).cells = #[.int .u8 0] from rfl, toList_madeCells_one]
    unfold bcells
    rw [List.map_replicate]; rfl
  rw [e] at h2
  exact h2
theorem made_bytes (w : World) (n : Nat) (hn : n ≤ 16777216) :
    ∃ w', (Instr.makeSlice 23 (.int .i64 (n : Int)) (.int .i64 (n : Int))).run Tryz.prog w = .ok (.slice (some ⟨w.heap.size, 0, none⟩) n n) w' ∧
      w'.ownsRow w.heap.size 5 1 (.slice (some ⟨w.heap.size, 0, none⟩) n n) n (bcells (List.replicate n 0)) ∧ Below w.heap.size w w' := made_bytesK .i64 w n hn
end Go.Proofs.YtoipnaoijccokaaGreatDoor
