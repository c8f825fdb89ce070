/- A slice of so many bytes that is made, and becomes a text. -/
import Derived.Test.YtobhceopfjcmnaaGreatDoorLib1
import Derived.Test.YtobhceopfjcmnaaGreatDoorTwo
import Derived.Laws.OwnMore
namespace Go.Proofs.YtobhceopfjcmnaaGreatDoor
open Go.RowKit
set_option linter.unusedVariables false

theorem made_bytes (w : World) (n : Nat) (hn : n ≤ 16777216) :
    ∃ w', (Instr.makeSlice 31 (.int .i64 (n : Int)) (.int .i64 (n : Int))).run Tryz.prog w = .ok (.slice (some ⟨w.heap.size, 0, none⟩) n n) w' ∧
      w'.ownsRow w.heap.size 5 1 (.slice (some ⟨w.heap.size, 0, none⟩) n n) n (bcells (List.replicate n 0)) ∧ Below w.heap.size w w' := by
  obtain ⟨i, hi, hz, hsz, hby⟩ := info_parts info5
  obtain ⟨w', h1, h2, h3⟩ := run_makeSlice_full (P := Tryz.prog) w w.heap.size 31 5 i (.int .u8 0) 1 u31 hi hz hsz .i64 .i64 n (by omega) (by rw [hby]; omega) (by unfold maxLen; omega) (Nat.le_refl _)
  refine ⟨w', h1, ?_, below_grown (v := .slice none 0 0) h3 (by intro k hk; cases hk) (Nat.le_refl _)⟩
  have e : (madeCells (Value.int IntKind.u8 0).cells (n * 1)).toList = bcells (List.replicate n 0) := by
    rw [Nat.mul_one, show (Value.int IntKind.u8 0).cells = #[.int .u8 0] from rfl, toList_madeCells_one]
    unfold bcells
    rw [List.map_replicate]; rfl
  rw [e] at h2
  exact h2
end Go.Proofs.YtobhceopfjcmnaaGreatDoor
