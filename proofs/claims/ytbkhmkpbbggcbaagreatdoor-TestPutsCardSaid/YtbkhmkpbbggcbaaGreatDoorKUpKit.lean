/- Words for regions whose order is open. -/
import Derived.Test.YtbkhmkpbbggcbaaGreatDoorKRegTail2
namespace Go.Proofs.YtbkhmkpbbggcbaaGreatDoor
open Go.RowKit
set_option linter.unusedVariables false
theorem up_if {o : Oper} {L : Array Oper} {T : Array Value} {k : Nat} {b : Bool} {A B : Prop} (hg : o.guard = some (k, b)) (hy : yielded L T k = some b) (a : A) : if Region.wanted o (yielded L T) = true then A else B := by
  rw [if_pos (by unfold Region.wanted; rw [hg]; simp [hy])]; exact a
theorem up_yes {o : Oper} {L : Array Oper} {T : Array Value} {A B : Prop} (hg : o.guard = none) (a : A) : if Region.wanted o (yielded L T) = true then A else B := by
  rw [if_pos (by unfold Region.wanted; rw [hg])]; exact a
theorem up_yield {ops : Array Oper} {T : Array Value} {j d : Nat} {b : Bool} (hd : (ops[j]?).bind (·.dst) = some d) (hv : T[d]? = some (.bool b)) : yielded ops T j = some b := by
  unfold yielded; rw [hd]; simp [hv]
def upTree (x : Ex) : UpP := ⟨fun v w => ExAt (fun _ => True) w x v, fun v w w' hb h => h.next hb⟩
theorem row_up {W w' : World} {b : Nat} {O : Obj} (h : W.heap[b]? = some O) (hB : Below W.heap.size W w') : w'.heap[b]? = some O := (hB.block _ (Array.getElem?_eq_some_iff.1 h).1).trans h
end Go.Proofs.YtbkhmkpbbggcbaaGreatDoor
