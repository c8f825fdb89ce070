/- What every walk of this seat leans on: the closed facts on types, worlds in which the library's one integer lies, and small steps. Boxes laid one behind the other; a cell of a row that is set. How lists of texts lie in memory. -/
import Derived.Test.YtehdeclpighdeaaGreatDoorProg
import Derived.Test.YtehdeclpighdeaaGreatDoorKPlain
import Derived.WalkKit
import Derived.Lib.Hide
import Derived.Laws.IdiomStrings
import Derived.Lib.BufferRead
import Derived.Laws.AppendOwnNone
import Derived.WalkSpells
import Derived.WalkLawsBesides
import Derived.Deep.QuietTactic
import Derived.BigQuiet
namespace Go.Proofs.YtehdeclpighdeaaGreatDoor
open Go.RowKit
def Good (w : World) : Prop := ∃ m : Int, w.cell? ⟨0, 0, none⟩ = some (.int .i64 m)
theorem cell_lt {w : World} {b o : Nat} {v : Value} (h : w.cell? ⟨b, o, none⟩ = some v) : b < w.heap.size := by
  unfold World.cell? at h
  by_cases hb : b < w.heap.size
  · exact hb
  · rw [Array.getElem?_eq_none (by show w.heap.size ≤ b; omega)] at h; cases h
theorem Good.lt {w : World} (h : Good w) : 0 < w.heap.size := by
  obtain ⟨m, h⟩ := h; exact cell_lt h
theorem Good.below {w w' : World} {n : Nat} (h : Good w) (hb : Below n w w') (hn : 0 < n) : Good w' := by
  obtain ⟨m, h⟩ := h; exact ⟨m, (hb.cell (p := ⟨_, 0, none⟩) hn).trans h⟩
theorem Good.next {w w' : World} (h : Good w) (hb : Below w.heap.size w w') : Good w' := h.below hb h.lt
theorem bcell {W w1 : World} (hb : Below W.heap.size W w1) : (∀ b o, b < W.heap.size → w1.cell? ⟨b, o, none⟩ = W.cell? ⟨b, o, none⟩) ∧ (∀ b o, b < W.heap.size → w1.frozen? ⟨b, o, none⟩ = W.frozen? ⟨b, o, none⟩) :=
  ⟨fun b o h => hb.cell (p := ⟨b, o, none⟩) h, fun b o h => hb.frozen (p := ⟨b, o, none⟩) h⟩
theorem cell_new (w : World) (us : Array Value) (t : TypeId) (j : Nat) (v : Value) (h : us[j]? = some v) : (w.alloc (.cells us t)).cell? ⟨w.heap.size, j, none⟩ = some v := by
  have hn : (w.alloc (.cells us t)).heap[w.heap.size]? = some (.cells us t) := heap_alloc_new w _
  unfold World.cell?
  rw [show (w.alloc (.cells us t)).heap[(⟨w.heap.size, j, none⟩ : Addr).block]? = _ from hn]
  simpa using h
theorem below_ofdrew {w w' : World} (h : Below w.drew.heap.size w.drew w') : Below w.heap.size w w' :=
  have k := (Below.refl w.heap.size w).drew
  k.trans (h.mono k.size)
def Ret (w : World) (v : Value) : Ending → World → Prop := fun e w' => e = .returned v ∧ Below w.heap.size w w'
theorem ret_str {s : ByteArray} {l : Bs} (h : s.data.toList = l) : Ending.returned (.string s) = .returned (.string ⟨l.toArray⟩) := by rw [bs_ext h]
theorem ret_sb {s : ByteArray} {l : Bs} {b b' : Bool} (h : s.data.toList = l) (hb : b = b') : Ending.returned (.tuple #[.string s, .bool b]) = .returned (.tuple #[.string ⟨l.toArray⟩, .bool b']) := by rw [bs_ext h, hb]
theorem ret_bool {a b : Bool} (h : a = b) : Ending.returned (.bool a) = .returned (.bool b) := by rw [h]
theorem ext_data (s : ByteArray) (a b : Nat) : (s.extract a b).data.toList = (s.data.toList.drop a).take (b - a) := Lib.extract_data s a b
theorem own_below {w w' : World} {base : Nat} {e : TypeId} {size : Nat} {v : Value} {n : Nat} {xs : List Value} (h : w.ownsRow base e size v n xs) (hb : Below w.heap.size w w') : w'.ownsRow base e size v n xs :=
  h.kept (row := none) ⟨hb.os, hb.tape, hb.output, hb.size, fun k hk _ => hb.block k hk⟩ (by cases v.ownBlock <;> simp)
theorem u5 : Tryz.prog.underlying 5 = some (.int .u8) := by kernel_rfl
theorem u9 : Tryz.prog.underlying 9 = some .string := by kernel_rfl
theorem u92 : Tryz.prog.underlying 92 = some (.slice 5) := by kernel_rfl
end Go.Proofs.YtehdeclpighdeaaGreatDoor
namespace Go.Proofs.YtehdeclpighdeaaGreatDoor
open Go.RowKit
set_option linter.unusedVariables false
structure Two (w W : World) (o1 o2 : Obj) : Prop where
  b1 : W.heap[w.heap.size]? = some o1
  b2 : W.heap[w.heap.size + 1]? = some o2
  size : W.heap.size = w.heap.size + 1 + 1
  below : Below w.heap.size w W
theorem two_new (w : World) (o1 o2 : Obj) : Two w ((w.alloc o1).alloc o2) o1 o2 := by
  have n1 : (w.alloc o1).heap[w.heap.size]? = some o1 := heap_alloc_new w _
  have n2 := heap_alloc_new (w.alloc o1) o2
  simp only [World.size_alloc] at n2
  have hb1 := (Below.refl w.heap.size w).alloc (Nat.le_refl _) o1
  exact ⟨(Below.heap_alloc _ _ _ (by simp)).trans n1, n2, by simp, hb1.alloc hb1.size o2⟩
theorem row_set {W : World} {b j : Nat} {cs : Array Value} {t : TypeId} {v : Value} (h : W.heap[b]? = some (.cells cs t)) : (W.setCell ⟨b, j, none⟩ v).heap[b]? = some (.cells (cs.setIfInBounds j v) t) := by
  exact Lib.heap_setCell_same (i := j) h v
end Go.Proofs.YtehdeclpighdeaaGreatDoor
namespace Go.Proofs.YtehdeclpighdeaaGreatDoor
open Go.RowKit
set_option linter.unusedVariables false
def StrsAt (w : World) (v : Value) (ls : List Bs) : Prop :=
  (∃ a c, v = .slice a 0 c ∧ ls = []) ∨
  ∃ b o c, v = .slice (some ⟨b, o, none⟩) ls.length c ∧ ls.length ≤ c ∧ b < w.heap.size ∧
    ∀ (j : Nat) (l : Bs), ls[j]? = some l → w.cell? ⟨b, o + j, none⟩ = some (.string ⟨l.toArray⟩)
def SCells (w : World) (b o : Nat) (ls : List Bs) : Prop := ∀ (j : Nat) (l : Bs), ls[j]? = some l → w.cell? ⟨b, o + j, none⟩ = some (.string ⟨l.toArray⟩)
theorem SCells.below {w w' : World} {b o n : Nat} {ls : List Bs} (h : SCells w b o ls) (hb : Below n w w') (hlt : b < n) : SCells w' b o ls := fun j l hl =>
  (hb.cell (p := ⟨b, _, none⟩) hlt).trans (h j l hl)
theorem StrsAt.below {w w' : World} {v : Value} {ls : List Bs} (h : StrsAt w v ls) (hb : Below w.heap.size w w') : StrsAt w' v ls := by
  rcases h with h | ⟨b, o, c, rfl, hc, hlt, hcell⟩
  · exact .inl h
  · exact .inr ⟨b, o, c, rfl, hc, Nat.lt_of_lt_of_le hlt hb.size, SCells.below hcell hb hlt⟩
end Go.Proofs.YtehdeclpighdeaaGreatDoor
