/- What a rule of the tests finds stays, if blanks and a bracket stand around the text: the places are moved alone. Plain. The text of a tree: plain. What is parsed of it is that tree, unless it is nested too deep. What was parsed is a tree that has a text. What is parsed of a tree's text is that tree, unless it is nested too deep; what was parsed is a tree that has a text. Plain. -/
import Derived.Test.YtehdeclpighdeaaGreatDoorKTestP
namespace Go.Proofs.YtehdeclpighdeaaGreatDoor
open Go.Lib
structure TailQ (q : Bs) : Prop where
  head : ∀ c r, q = c :: r → blk c = true ∨ c = 41
  past : ∀ c r, q.dropWhile blk = c :: r → c = 41
structure In (s s' : Bs) (d : Nat) (q : Bs) : Prop where
  eq : s'.drop d = s ++ q
  le : d ≤ s'.length
  tail : TailQ q
section
variable {s s' q : Bs} {d : Nat}
theorem In.len (h : In s s' d q) : s'.length = d + s.length + q.length := by
  have := congrArg List.length h.eq
  rw [List.length_drop, List.length_append] at this
  have := h.le; omega
theorem In.drop (h : In s s' d q) {i : Nat} (hi : i ≤ s.length) : s'.drop (i + d) = s.drop i ++ q := by
  rw [Nat.add_comm, ← List.drop_drop, h.eq, List.drop_append_of_le_length hi]
theorem TailQ.dig (h : TailQ q) : ∀ c r, q = c :: r → dig c = false := by
  intro c r e
  rcases h.head c r e with hb | rfl
  · unfold blk at hb
    rw [decide_eq_true_eq] at hb
    unfold YtehdeclpighdeaaGreatDoor.dig
    exact decide_eq_false (by omega)
  · decide
end
section
variable {s s' q : Bs} {d : Nat} {low : Prop}
end
end Go.Proofs.YtehdeclpighdeaaGreatDoor
namespace Go.Proofs.YtehdeclpighdeaaGreatDoor
open Go.Lib
def numOk (t : Bs) : Bool := !t.isEmpty && decide (t.length ≤ 18) && t.all dig
mutual
def weightE : Ex → Nat
  | .mk _ t u l => 1 + t.length + u.name.length + u.key.length + u.dft.length + weightL l
def weightL : List Ex → Nat
  | [] => 0
  | x :: r => weightE x + weightL r
end
theorem len_one {l : List Ex} (h : l.length = 1) : ∃ a, l = [a] := List.length_eq_one_iff.1 h
theorem len_two {l : List Ex} (h : l.length = 2) : ∃ a b, l = [a, b] := by
  match l, h with
  | [a, b], _ => exact ⟨a, b, rfl⟩
structure PartsOk (r : Bs) (p : Parts) : Prop where
  name : p.name.all letc = true
  known : vknown p.name = true
  key : (p.hk = true ∧ vkey p.key = true ∧ hasB 125 p.key = false) ∨ (p.hk = false ∧ p.key = [])
  dft : (p.hd = true ∧ hasB 39 p.dft = false) ∨ (p.hd = false ∧ p.dft = [])
  len : p.name.length + p.key.length + p.dft.length + p.rest.length + 1 ≤ r.length
end Go.Proofs.YtehdeclpighdeaaGreatDoor
namespace Go.Proofs.YtehdeclpighdeaaGreatDoor
open Go.Lib
def HitX (x : Ex) (g : Got) (t : Nat) : Prop := (∃ y, g = .good y t ∧ sameE x y = true) ∨ ∃ p, g = .wrong p 3
def StopO (rest : Bs) : Prop := ∀ c r, rest = c :: r → c = 32 ∨ c = 41
def NS (rest : Bs) : Prop := signAt (rest.dropWhile blk) = none
def NoSg (c : UInt8) (rest : Bs) : Prop := hasPrefix (rest.dropWhile blk) [c] = false
def RowS (one : Nat → Got) (kind : Int) (sign : UInt8) (s : Bs) (i : Nat) (x : Ex) (t : Nat) : Prop :=
  (∃ n y, s.length < t + n ∧ rowG one kind sign s i = rowOn one kind sign s n y t ∧ sameE x y = true) ∨ ∃ p, rowG one kind sign s i = .wrong p 3
theorem StopO.dig {rest : Bs} (h : StopO rest) : ∀ c r, rest = c :: r → dig c = false := fun c r e => by rcases h c r e with rfl | rfl <;> decide
structure Lev (x : Ex) (s : Bs) (k i t : Nat) (rest : Bs) : Prop where
  op : 10 ≤ x.kind → HitX x (opK s k i) t
  not : 3 ≤ x.kind → NS rest → HitX x (notK s k i) t
  and : 2 ≤ x.kind → NS rest → RowS (notK s k) 2 38 s i x t
  or : NS rest → NoSg 38 rest → RowS (andK s k) 1 124 s i x t
end Go.Proofs.YtehdeclpighdeaaGreatDoor
