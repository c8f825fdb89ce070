/- The reference's variables of a request. -/
import Derived.Test.YtoipnaoijccokaaGreatDoorOf
namespace Go.Proofs.YtoipnaoijccokaaGreatDoor
open Go.RowKit
set_option linter.unusedVariables false


theorem ref25_Of (m t bd h : ByteArray) (mn : Int) (a : Option Addr) (n c : Nat) (w : World) :
    Calls Tryz.prog 7 #[.agg #[.string m, .string t, .int .i64 mn, .slice a n c, .string bd], .string h] w (Ret w (.agg #[.string m, .string t, .int .i64 mn, .slice a n c, .string bd, .string h])) := by
  go_enter Tryz.func7, Tryz.ntmps7
  go_wp2_with fail
  have n2 := heap_alloc_new (w.alloc (.cells #[.string m, .string t, .int .i64 mn, .slice a n c, .string bd] 28)) (.cells #[.string m, .string t, .int .i64 mn, .slice a n c, .string bd, .string h] 38)
  rw [World.size_alloc] at n2
  have k0 := cell_of_row _ _ 0 _ _ _ n2
  have k1 := cell_of_row _ _ 1 _ _ _ n2
  have k2 := cell_of_row _ _ 2 _ _ _ n2
  have k3 := cell_of_row _ _ 3 _ _ _ n2
  have k4 := cell_of_row _ _ 4 _ _ _ n2
  have k5 := cell_of_row _ _ 5 _ _ _ n2
  refine bodyPost_ret (v := .agg #[.string m, .string t, .int .i64 mn, .slice a n c, .string bd, .string h]) ?_ rfl ⟨rfl, ((Below.refl _ _).alloc (Nat.le_refl _) _).alloc (by simp) _⟩
  simp [results, Tryz.f7, go_sem, k0, k1, k2, k3, k4, k5]
end Go.Proofs.YtoipnaoijccokaaGreatDoor
