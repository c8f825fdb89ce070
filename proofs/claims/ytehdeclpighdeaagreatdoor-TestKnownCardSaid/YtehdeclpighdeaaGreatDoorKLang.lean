/- The walk of the program's cookie. The walk of the program's asked. The walk of the program's language. -/
import Derived.Test.YtehdeclpighdeaaGreatDoorKSplitSeq
import Derived.Test.YtehdeclpighdeaaGreatDoorKVars3
namespace Go.Proofs.YtehdeclpighdeaaGreatDoor
open Go.RowKit Go.Shelf
attribute [local go_sem] Oper.semAt_some
set_option linter.unusedVariables false
structure Four (w W : World) (o1 o2 o3 o4 : Obj) : Prop where
  b1 : W.heap[w.heap.size]? = some o1
  b2 : W.heap[w.heap.size + 1]? = some o2
  b3 : W.heap[w.heap.size + 1 + 1]? = some o3
  b4 : W.heap[w.heap.size + 1 + 1 + 1]? = some o4
  size : W.heap.size = w.heap.size + 1 + 1 + 1 + 1
  below : Below w.heap.size w W
end Go.Proofs.YtehdeclpighdeaaGreatDoor
namespace Go.Proofs.YtehdeclpighdeaaGreatDoor
open Go.RowKit Go.Shelf
attribute [local go_sem] Oper.semAt_some
set_option linter.unusedVariables false
end Go.Proofs.YtehdeclpighdeaaGreatDoor
namespace Go.Proofs.YtehdeclpighdeaaGreatDoor
open Go.RowKit Go.Shelf
attribute [local go_sem] Oper.semAt_some
set_option linter.unusedVariables false
end Go.Proofs.YtehdeclpighdeaaGreatDoor
