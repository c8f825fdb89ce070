/- The walk of the reference's row of tests. -/
import Derived.Test.YtehdeclpighdeaaGreatDoorKTestR2
import Derived.Test.YtehdeclpighdeaaGreatDoorKTestW7
namespace Go.Proofs.YtehdeclpighdeaaGreatDoor
open Go.RowKit
set_option linter.unusedVariables false
theorem RGot.past {n m : Nat} {W : World} {g : Got} {v : Value} (h : RGot (From n) W g v) (hn : m < n) : RGot (fun z => m < z) W g v := h.weak (fun b _ hb => by have : n ≤ b := hb; omega)
end Go.Proofs.YtehdeclpighdeaaGreatDoor
namespace Go.Proofs.YtehdeclpighdeaaGreatDoor
open Go.RowKit
set_option linter.unusedVariables false
structure RJ (w W : World) (b : Nat) (s : Bs) (one : Nat → Got) (kind : Int) (sg : UInt8) (F : Got) (k : Int) (t : Bs) (u : UseI) (a : Option Addr) (n c : Nat) (x q e : Int) : Prop where
  rw : RW w W
  far : w.heap.size < b
  box : W.heap[b]? = some (.cells (gotL k t u (.slice a n c) x q e).toArray 79)
  res : (∃ (tt m : Nat) (y : Ex), e = 0 ∧ q = 0 ∧ x = (tt : Int) ∧ tt ≤ s.length ∧ ExAt (fun z => w.heap.size < z ∧ z ≠ b) W y (exV k t u (.slice a n c)) ∧ F = rowOn one kind sg s m y tt ∧ s.length < tt + m) ∨ (∃ qq : Nat, q = (qq : Int) ∧ e ≠ 0 ∧ F = .wrong qq e)
end Go.Proofs.YtehdeclpighdeaaGreatDoor
