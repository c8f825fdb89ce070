/- strings.SplitSeq at a byte: its iterator, and a range over it. -/
import Derived.Test.YtehdeclpighdeaaGreatDoorKLib1
import Derived.RangeFuncNested
import Derived.RangeFuncBound
import Derived.RangeFuncCalls
import Derived.RangeFuncLeaves
import Derived.Shelf.Abstract
import Derived.Shelf.RegionOpen
import Derived.OwnWalkIn
import Derived.TacticsInMore
import Derived.LoopNIn
import Derived.LoopIn
namespace Go.Proofs.YtehdeclpighdeaaGreatDoor
open Go.RowKit Go.Shelf
attribute [local go_sem] Oper.semAt_some
set_option linter.unusedVariables false
structure Iter (w : World) (bs bsep bsv : Nat) (r : Bs) (c : UInt8) : Prop where
  rest : w.heap[bs]? = some (.cells #[.string ⟨r.toArray⟩] 9)
  sep : w.heap[bsep]? = some (.cells #[.string ⟨#[c]⟩] 9)
  save : w.heap[bsv]? = some (.cells #[.int .i64 0] 3)
end Go.Proofs.YtehdeclpighdeaaGreatDoor
namespace Go.Proofs.YtehdeclpighdeaaGreatDoor
open Go.RowKit Go.Shelf
set_option linter.unusedVariables false
structure Stays (n bs : Nat) (A B : World) : Prop where
  os : B.os = A.os
  tape : B.tape = A.tape
  output : B.output = A.output
  size : A.heap.size ≤ B.heap.size
  block : ∀ k, k < n → k ≠ bs → B.heap[k]? = A.heap[k]?
structure Keep (S : Nat → Prop) (A B : World) : Prop where
  os : B.os = A.os
  tape : B.tape = A.tape
  output : B.output = A.output
  size : A.heap.size ≤ B.heap.size
  block : ∀ k, k < A.heap.size → ¬ S k → B.heap[k]? = A.heap[k]?
theorem Keep.of_below {S : Nat → Prop} {A B : World} (h : Below A.heap.size A B) : Keep S A B := ⟨h.os, h.tape, h.output, h.size, fun k hk _ => h.block k hk⟩
theorem Keep.trans {S : Nat → Prop} {A B C : World} (h : Keep S A B) (k : Keep S B C) : Keep S A C :=
  ⟨k.os.trans h.os, k.tape.trans h.tape, k.output.trans h.output, Nat.le_trans h.size k.size, fun i hi hn => (k.block i (Nat.lt_of_lt_of_le hi h.size) hn).trans (h.block i hi hn)⟩
theorem setCell_size (A : World) (p : Addr) (v : Value) : (A.setCell p v).heap.size = A.heap.size := by simp [World.setCell]
theorem Keep.setCell {S : Nat → Prop} {A B : World} (h : Keep S A B) {b i : Nat} (hb : S b) (v : Value) : Keep S A (B.setCell ⟨b, i, none⟩ v) :=
  ⟨h.os, h.tape, h.output, by rw [setCell_size]; exact h.size, fun k hk hn => (Below.heap_setCell B ⟨b, i, none⟩ v k (fun e => hn (e ▸ hb))).trans (h.block k hk hn)⟩
end Go.Proofs.YtehdeclpighdeaaGreatDoor
