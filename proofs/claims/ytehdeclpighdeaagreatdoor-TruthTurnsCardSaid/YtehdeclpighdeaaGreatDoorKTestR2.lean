/- The walks of the reference's small functions on tests: Past, has, digit, wrong, Signs. The reference's result of thirteen cells in memory, and where a rule of the reference ends. -/
import Derived.Test.YtehdeclpighdeaaGreatDoorKTestW3
namespace Go.Proofs.YtehdeclpighdeaaGreatDoor
open Go.RowKit
set_option linter.unusedVariables false
abbrev gotL (k : Int) (t : Bs) (u : UseI) (kv : Value) (x q e : Int) : List Value := [.int .i64 k, .string ⟨t.toArray⟩, .int .i64 u.src, .int .i64 u.till, .string ⟨u.name.toArray⟩, .string ⟨u.key.toArray⟩, .string ⟨u.dft.toArray⟩, .bool u.hk, .bool u.hd, kv, .int .i64 x, .int .i64 q, .int .i64 e]
abbrev gotV (k : Int) (t : Bs) (u : UseI) (kv : Value) (x q e : Int) : Value := .agg #[.int .i64 k, .string ⟨t.toArray⟩, .int .i64 u.src, .int .i64 u.till, .string ⟨u.name.toArray⟩, .string ⟨u.key.toArray⟩, .string ⟨u.dft.toArray⟩, .bool u.hk, .bool u.hd, kv, .int .i64 x, .int .i64 q, .int .i64 e]
def RGot (A : Nat → Prop) (W : World) : Got → Value → Prop
  | .good x t, v => ∃ k tx u a n c, v = gotV k tx u (.slice a n c) (t : Int) 0 0 ∧ ExAt A W x (exV k tx u (.slice a n c))
  | .wrong q e, v => ∃ k tx u a n c x, v = gotV k tx u (.slice a n c) x (q : Int) e
end Go.Proofs.YtehdeclpighdeaaGreatDoor
namespace Go.Proofs.YtehdeclpighdeaaGreatDoor
open Go.RowKit
set_option linter.unusedVariables false
abbrev gotZ : Obj := .cells #[.int .i64 0, .string ⟨#[]⟩, .int .i64 0, .int .i64 0, .string ⟨#[]⟩, .string ⟨#[]⟩, .string ⟨#[]⟩, .bool false, .bool false, .slice none 0 0, .int .i64 0, .int .i64 0, .int .i64 0] 79
structure RW (w W : World) : Prop where
  below : Below w.heap.size w W
  box : W.heap[w.heap.size]? = some gotZ
  lt : w.heap.size < W.heap.size
theorem RW.start (w : World) : RW w (w.alloc gotZ) := ⟨(Below.refl _ _).alloc (Nat.le_refl _) _, heap_alloc_new w _, by rw [World.size_alloc]; omega⟩
theorem RW.next {w W W' : World} (h : RW w W) (hb : Below W.heap.size W W') : RW w W' := ⟨h.below.trans (hb.mono h.below.size), (hb.block _ h.lt).trans h.box, Nat.lt_of_lt_of_le h.lt hb.size⟩
theorem RW.turn {w W W' : World} {b : Nat} (h : RW w W) (ht : Turn b W W') (hb : w.heap.size < b) : RW w W' :=
  ⟨h.below.trans (ht.below (by omega) h.below.size), (ht.block _ h.lt (by intro e; cases e; omega)).trans h.box, Nat.lt_of_lt_of_le h.lt ht.size⟩
theorem RGot.next {A : Nat → Prop} {W W' : World} {g : Got} {v : Value} (h : RGot A W g v) (hb : Below W.heap.size W W') : RGot A W' g v := by
  cases g with
  | good x t => obtain ⟨k, tx, u, a, n, c, h1, h2⟩ := h; exact ⟨k, tx, u, a, n, c, h1, h2.next hb⟩
  | wrong q e => exact h
theorem RGot.weak {A A' : Nat → Prop} {W : World} {g : Got} {v : Value} (h : RGot A W g v) (hl : ∀ b, b < W.heap.size → A b → A' b) : RGot A' W g v := by
  cases g with
  | good x t => obtain ⟨k, tx, u, a, n, c, h1, h2⟩ := h; exact ⟨k, tx, u, a, n, c, h1, exAt_lo hl _ _ h2⟩
  | wrong q e => exact h
theorem RGot.turn {A : Nat → Prop} {p : Nat} {W W' : World} {g : Got} {v : Value} (h : RGot A W g v) (ht : Turn p W W') (hp : ¬ A p) : RGot A W' g v := by
  cases g with
  | good x t => obtain ⟨k, tx, u, a, n, c, h1, h2⟩ := h; exact ⟨k, tx, u, a, n, c, h1, h2.turn ht hp⟩
  | wrong q e => exact h
theorem RGot.cells {A : Nat → Prop} {W : World} {g : Got} {v : Value} (h : RGot A W g v) : ∃ k tx u a n c x q e, v = gotV k tx u (.slice a n c) x q e := by
  cases g with
  | good x t => obtain ⟨k, tx, u, a, n, c, h1, _⟩ := h; exact ⟨k, tx, u, a, n, c, _, _, _, h1⟩
  | wrong q e => obtain ⟨k, tx, u, a, n, c, x, h1⟩ := h; exact ⟨k, tx, u, a, n, c, _, _, _, h1⟩
end Go.Proofs.YtehdeclpighdeaaGreatDoor
