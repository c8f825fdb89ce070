/- Boxes laid one behind the other; a cell of a row that is set. -/
import Derived.Test.YtobhceopfjcmnaaGreatDoorBase
import Derived.Lib.BufferRead
namespace Go.Proofs.YtobhceopfjcmnaaGreatDoor
open Go.RowKit
set_option linter.unusedVariables false

theorem below_grown {w w' : World} {base : Nat} {v : Value} (h : w.grownBy w' v.ownBlock) (hb : ∀ k, v.ownBlock = some k → base ≤ k) (hw : base ≤ w.heap.size) : Below base w w' :=
  (Below.refl base w).grown h hw hb

/-- Two boxes laid one behind the other. -/
structure Two (w W : World) (o1 o2 : Obj) : Prop where
  b1 : W.heap[w.heap.size]? = some o1
  b2 : W.heap[w.heap.size + 1]? = some o2
  size : W.heap.size = w.heap.size + 1 + 1
  below : Below w.heap.size w W
theorem two_new (w : World) (o1 o2 : Obj) : Two w ((w.alloc o1).alloc o2) o1 o2 := by
  have n1 : (w.alloc o1).heap[w.heap.size]? = some o1 := heap_alloc_new w _
  have n2 := heap_alloc_new (w.alloc o1) o2
  simp only [World.size_alloc] at n2
  have hb1 := (Below.refl w.heap.size w).alloc (Nat.le_refl _) o1
  exact ⟨(Below.heap_alloc _ _ _ (by simp)).trans n1, n2, by simp, hb1.alloc hb1.size o2⟩

theorem row_set {W : World} {b j : Nat} {cs : Array Value} {t : TypeId} {v : Value} (h : W.heap[b]? = some (.cells cs t)) : (W.setCell ⟨b, j, none⟩ v).heap[b]? = some (.cells (cs.setIfInBounds j v) t) := by
  exact Lib.heap_setCell_same (i := j) h v
end Go.Proofs.YtobhceopfjcmnaaGreatDoor
