/- The walk of a row: what is read in one way, with a sign between. -/
import Derived.Test.YtbkhmkpbbggcbaaGreatDoorKTestW2
namespace Go.Proofs.YtbkhmkpbbggcbaaGreatDoor
open Go.RowKit
set_option linter.unusedVariables false
def GP (p : Nat) (W : World) : Prop := Good W ∧ 0 < p
theorem GP.turn {p : Nat} {W W' : World} (h : GP p W) (ht : Turn p W W') : GP p W' := ⟨h.1.turn ht h.2, h.2⟩
def From (n : Nat) : Nat → Prop := fun b => n ≤ b
def Res (W : World) (p : Nat) (s : Bs) (op : Nat) (A : Nat → Prop) : Got → Value → Prop
  | .good x t, v => (∃ a : Nat, a ≤ s.length ∧ t ≤ s.length ∧ rs s a = rs s t ∧ PB W p s a op 0) ∧ ExAt A W x v
  | .wrong q e, v => e ≠ 0 ∧ q ≤ s.length ∧ PB W p s q op e ∧ TenV v
theorem Res.ten {W : World} {p : Nat} {s : Bs} {op : Nat} {A : Nat → Prop} {g : Got} {v : Value} (h : Res W p s op A g v) : TenV v := by
  cases g with
  | good x t => exact h.2.ten
  | wrong q e => exact h.2.2.2
def Runs (f : FuncId) (vs : Array Value) (p : Nat) (s : Bs) (op : Nat) (g : Nat → Got) (K : World → Prop) : Prop :=
  ∀ (w : World) (i : Nat), i ≤ s.length → K w → PB w p s i op 0 → Calls Tryz.prog f vs w fun e w' => ∃ v, e = .returned v ∧ Turn p w w' ∧ Res w' p s op (From w.heap.size) (g i) v
def RunsBad (f : FuncId) (vs : Array Value) (p : Nat) (s : Bs) (K : World → Prop) : Prop :=
  ∀ (w : World) (i op : Nat) (bad : Int), i ≤ s.length → bad ≠ 0 → K w → PB w p s i op bad → Calls Tryz.prog f vs w fun e w' => ∃ v, e = .returned v ∧ Turn p w w' ∧ PB w' p s i op bad ∧ TenV v
structure RowK (W : World) (p b1 b2 b3 b4 : Nat) (fv : Value) (sg : UInt8) (kind : Int) : Prop where
  c1 : W.cell? ⟨b1, 0, none⟩ = some fv
  c2 : W.cell? ⟨b2, 0, none⟩ = some (.pointer (some ⟨p, 0, none⟩))
  c3 : W.cell? ⟨b3, 0, none⟩ = some (.string ⟨#[sg]⟩)
  c4 : W.cell? ⟨b4, 0, none⟩ = some (.int .i64 kind)
  n1 : b1 ≠ p
  n2 : b2 ≠ p
  n3 : b3 ≠ p
  n4 : b4 ≠ p
theorem cell_turn {W W' : World} {p b j : Nat} {v : Value} (h : W.cell? ⟨b, j, none⟩ = some v) (ht : Turn p W W') (hb : b ≠ p) : W'.cell? ⟨b, j, none⟩ = some v := by
  have hl := cell_lt h
  have hk := ht.block b hl (by intro e; cases e; exact hb rfl)
  unfold World.cell? at h ⊢
  show (match W'.heap[b]? with | _ => _) = _
  rw [hk]; exact h
theorem RowK.turn {W W' : World} {p b1 b2 b3 b4 : Nat} {fv : Value} {sg : UInt8} {kind : Int} (h : RowK W p b1 b2 b3 b4 fv sg kind) (ht : Turn p W W') : RowK W' p b1 b2 b3 b4 fv sg kind :=
  ⟨cell_turn h.c1 ht h.n1, cell_turn h.c2 ht h.n2, cell_turn h.c3 ht h.n3, cell_turn h.c4 ht h.n4, h.n1, h.n2, h.n3, h.n4⟩
def leftN (p : Nat) (s : Bs) (W : World) : Nat :=
  match W.cell? ⟨p, 3, none⟩, W.cell? ⟨p, 1, none⟩ with
  | some (.int _ 0), some (.int _ n) => 1 + (s.length - pa s n.toNat)
  | _, _ => 0
theorem left_good {W : World} {p : Nat} {s : Bs} {i op : Nat} (h : PB W p s i op 0) : leftN p s W = 1 + (s.length - pa s i) := by
  unfold leftN; rw [h.pc.c3, h.pc.c1]; rfl
theorem left_bad {W : World} {p : Nat} {s : Bs} {i op : Nat} {bad : Int} (h : PB W p s i op bad) (hb : bad ≠ 0) : leftN p s W = 0 := by
  unfold leftN; rw [h.pc.c3, h.pc.c1]
  split
  · rename_i h1 _; cases h1; exact absurd rfl hb
  · rfl
structure RI (w W : World) (p b : Nat) (s : Bs) (op : Nat) (one : Nat → Got) (kind : Int) (sg : UInt8) (F : Got) (k : Int) (t : Bs) (u : UseI) (a : Option Addr) (n c : Nat) : Prop where
  turn : Turn p w W
  far : w.heap.size ≤ b
  box : W.heap[b]? = some (.cells (exL k t u (.slice a n c)).toArray 26)
  res : (∃ (q tt m : Nat) (x : Ex), PB W p s q op 0 ∧ q ≤ s.length ∧ tt ≤ s.length ∧ rs s q = rs s tt ∧ ExAt (fun z => w.heap.size ≤ z ∧ z ≠ b) W x (exV k t u (.slice a n c)) ∧ F = rowOn one kind sg s m x tt ∧ s.length < tt + m) ∨ (∃ (q : Nat) (e : Int), PB W p s q op e ∧ e ≠ 0 ∧ q ≤ s.length ∧ F = .wrong q e)
theorem ten_cells {W : World} {b : Nat} {k : Int} {t : Bs} {u : UseI} {kv : Value} {T : TypeId} (h : W.heap[b]? = some (.cells (exL k t u kv).toArray T)) :
    W.cell? ⟨b, 0, none⟩ = some (.int .i64 k) ∧ W.cell? ⟨b, 1, none⟩ = some (.string ⟨t.toArray⟩) ∧ W.cell? ⟨b, 2, none⟩ = some (.int .i64 u.src) ∧ W.cell? ⟨b, 3, none⟩ = some (.int .i64 u.till) ∧ W.cell? ⟨b, 4, none⟩ = some (.string ⟨u.name.toArray⟩) ∧ W.cell? ⟨b, 5, none⟩ = some (.string ⟨u.key.toArray⟩) ∧ W.cell? ⟨b, 6, none⟩ = some (.string ⟨u.dft.toArray⟩) ∧ W.cell? ⟨b, 7, none⟩ = some (.bool u.hk) ∧ W.cell? ⟨b, 8, none⟩ = some (.bool u.hd) ∧ W.cell? ⟨b, 9, none⟩ = some kv :=
  ⟨cell_of_row _ _ 0 _ _ _ h, cell_of_row _ _ 1 _ _ _ h, cell_of_row _ _ 2 _ _ _ h, cell_of_row _ _ 3 _ _ _ h, cell_of_row _ _ 4 _ _ _ h, cell_of_row _ _ 5 _ _ _ h, cell_of_row _ _ 6 _ _ _ h, cell_of_row _ _ 7 _ _ _ h, cell_of_row _ _ 8 _ _ _ h, cell_of_row _ _ 9 _ _ _ h⟩
theorem ten_frozen {W : World} {b : Nat} {cs : Array Value} {T : TypeId} (h : W.heap[b]? = some (.cells cs T)) :
    W.frozen? ⟨b, 0, none⟩ = false ∧ W.frozen? ⟨b, 1, none⟩ = false ∧ W.frozen? ⟨b, 2, none⟩ = false ∧ W.frozen? ⟨b, 3, none⟩ = false ∧ W.frozen? ⟨b, 4, none⟩ = false ∧ W.frozen? ⟨b, 5, none⟩ = false ∧ W.frozen? ⟨b, 6, none⟩ = false ∧ W.frozen? ⟨b, 7, none⟩ = false ∧ W.frozen? ⟨b, 8, none⟩ = false ∧ W.frozen? ⟨b, 9, none⟩ = false :=
  ⟨frozen_of_row _ _ 0 _ _ h, frozen_of_row _ _ 1 _ _ h, frozen_of_row _ _ 2 _ _ h, frozen_of_row _ _ 3 _ _ h, frozen_of_row _ _ 4 _ _ h, frozen_of_row _ _ 5 _ _ h, frozen_of_row _ _ 6 _ _ h, frozen_of_row _ _ 7 _ _ h, frozen_of_row _ _ 8 _ _ h, frozen_of_row _ _ 9 _ _ h⟩
theorem ten_live {W : World} {b : Nat} {v0 v1 v2 v3 v4 v5 v6 v7 v8 v9 : Value} {T : TypeId} (h : W.heap[b]? = some (.cells #[v0, v1, v2, v3, v4, v5, v6, v7, v8, v9] T)) :
    W.cell? ⟨b, 0, none⟩ = some v0 ∧ W.cell? ⟨b, 1, none⟩ = some v1 ∧ W.cell? ⟨b, 2, none⟩ = some v2 ∧ W.cell? ⟨b, 3, none⟩ = some v3 ∧ W.cell? ⟨b, 4, none⟩ = some v4 ∧ W.cell? ⟨b, 5, none⟩ = some v5 ∧ W.cell? ⟨b, 6, none⟩ = some v6 ∧ W.cell? ⟨b, 7, none⟩ = some v7 ∧ W.cell? ⟨b, 8, none⟩ = some v8 ∧ W.cell? ⟨b, 9, none⟩ = some v9 :=
  ⟨cell_of_row _ _ 0 _ _ _ h, cell_of_row _ _ 1 _ _ _ h, cell_of_row _ _ 2 _ _ _ h, cell_of_row _ _ 3 _ _ _ h, cell_of_row _ _ 4 _ _ _ h, cell_of_row _ _ 5 _ _ _ h, cell_of_row _ _ 6 _ _ _ h, cell_of_row _ _ 7 _ _ _ h, cell_of_row _ _ 8 _ _ _ h, cell_of_row _ _ 9 _ _ _ h⟩
theorem cell_alloc9 {W : World} {b j : Nat} {v : Value} (h : W.cell? ⟨b, j, none⟩ = some v) (O : Obj) : (W.alloc O).cell? ⟨b, j, none⟩ = some v := by
  have hl := cell_lt h
  unfold World.cell? at h ⊢
  show (match (W.alloc O).heap[b]? with | _ => _) = _
  rw [((Below.refl W.heap.size W).alloc (Nat.le_refl _) O).block b hl]; exact h
theorem row_alloc {W : World} {b : Nat} {o : Obj} (h : W.heap[b]? = some o) (O : Obj) : (W.alloc O).heap[b]? = some o := (((Below.refl W.heap.size W).alloc (Nat.le_refl _) O).block b (Array.getElem?_eq_some_iff.1 h).1).trans h
theorem ten_alloc {W : World} {b : Nat} {k : Int} {t : Bs} {u : UseI} {kv : Value} {T : TypeId} (h : W.heap[b]? = some (.cells (exL k t u kv).toArray T)) :
    (∀ O, (W.alloc O).cell? ⟨b, 0, none⟩ = some (.int .i64 k)) ∧ (∀ O, (W.alloc O).cell? ⟨b, 1, none⟩ = some (.string ⟨t.toArray⟩)) ∧ (∀ O, (W.alloc O).cell? ⟨b, 2, none⟩ = some (.int .i64 u.src)) ∧ (∀ O, (W.alloc O).cell? ⟨b, 3, none⟩ = some (.int .i64 u.till)) ∧ (∀ O, (W.alloc O).cell? ⟨b, 4, none⟩ = some (.string ⟨u.name.toArray⟩)) ∧ (∀ O, (W.alloc O).cell? ⟨b, 5, none⟩ = some (.string ⟨u.key.toArray⟩)) ∧ (∀ O, (W.alloc O).cell? ⟨b, 6, none⟩ = some (.string ⟨u.dft.toArray⟩)) ∧ (∀ O, (W.alloc O).cell? ⟨b, 7, none⟩ = some (.bool u.hk)) ∧ (∀ O, (W.alloc O).cell? ⟨b, 8, none⟩ = some (.bool u.hd)) ∧ (∀ O, (W.alloc O).cell? ⟨b, 9, none⟩ = some (kv)) :=
  ⟨fun O => cell_of_row _ _ 0 _ _ _ (row_alloc h O), fun O => cell_of_row _ _ 1 _ _ _ (row_alloc h O), fun O => cell_of_row _ _ 2 _ _ _ (row_alloc h O), fun O => cell_of_row _ _ 3 _ _ _ (row_alloc h O), fun O => cell_of_row _ _ 4 _ _ _ (row_alloc h O), fun O => cell_of_row _ _ 5 _ _ _ (row_alloc h O), fun O => cell_of_row _ _ 6 _ _ _ (row_alloc h O), fun O => cell_of_row _ _ 7 _ _ _ (row_alloc h O), fun O => cell_of_row _ _ 8 _ _ _ (row_alloc h O), fun O => cell_of_row _ _ 9 _ _ _ (row_alloc h O)⟩
theorem ten_thaw {W : World} {b : Nat} {cs : Array Value} {T : TypeId} (h : W.heap[b]? = some (.cells cs T)) :
    (∀ O, (W.alloc O).frozen? ⟨b, 0, none⟩ = false) ∧ (∀ O, (W.alloc O).frozen? ⟨b, 1, none⟩ = false) ∧ (∀ O, (W.alloc O).frozen? ⟨b, 2, none⟩ = false) ∧ (∀ O, (W.alloc O).frozen? ⟨b, 3, none⟩ = false) ∧ (∀ O, (W.alloc O).frozen? ⟨b, 4, none⟩ = false) ∧ (∀ O, (W.alloc O).frozen? ⟨b, 5, none⟩ = false) ∧ (∀ O, (W.alloc O).frozen? ⟨b, 6, none⟩ = false) ∧ (∀ O, (W.alloc O).frozen? ⟨b, 7, none⟩ = false) ∧ (∀ O, (W.alloc O).frozen? ⟨b, 8, none⟩ = false) ∧ (∀ O, (W.alloc O).frozen? ⟨b, 9, none⟩ = false) :=
  ⟨fun O => frozen_of_row _ _ 0 _ _ (row_alloc h O), fun O => frozen_of_row _ _ 1 _ _ (row_alloc h O), fun O => frozen_of_row _ _ 2 _ _ (row_alloc h O), fun O => frozen_of_row _ _ 3 _ _ (row_alloc h O), fun O => frozen_of_row _ _ 4 _ _ (row_alloc h O), fun O => frozen_of_row _ _ 5 _ _ (row_alloc h O), fun O => frozen_of_row _ _ 6 _ _ (row_alloc h O), fun O => frozen_of_row _ _ 7 _ _ (row_alloc h O), fun O => frozen_of_row _ _ 8 _ _ (row_alloc h O), fun O => frozen_of_row _ _ 9 _ _ (row_alloc h O)⟩
abbrev setTen (W : World) (b : Nat) (k : Int) (t : Bs) (u : UseI) (kv : Value) : World :=
  (((((((((W.setCell ⟨b, 0, none⟩ (.int .i64 k)).setCell ⟨b, 1, none⟩ (.string ⟨t.toArray⟩)).setCell ⟨b, 2, none⟩ (.int .i64 u.src)).setCell ⟨b, 3, none⟩ (.int .i64 u.till)).setCell ⟨b, 4, none⟩ (.string ⟨u.name.toArray⟩)).setCell ⟨b, 5, none⟩ (.string ⟨u.key.toArray⟩)).setCell ⟨b, 6, none⟩ (.string ⟨u.dft.toArray⟩)).setCell ⟨b, 7, none⟩ (.bool u.hk)).setCell ⟨b, 8, none⟩ (.bool u.hd)).setCell ⟨b, 9, none⟩ kv
theorem setTen_row {W : World} {b : Nat} {k : Int} {t : Bs} {u : UseI} {kv v0 v1 v2 v3 v4 v5 v6 v7 v8 v9 : Value} {T : TypeId} (h : W.heap[b]? = some (.cells #[v0, v1, v2, v3, v4, v5, v6, v7, v8, v9] T)) : (setTen W b k t u kv).heap[b]? = some (.cells (exL k t u kv).toArray T) := by
  have h0 := row_set (j := 0) (v := .int .i64 k) h
  simp only [List.setIfInBounds_toArray, List.set_cons_zero] at h0
  have h1 := row_set (j := 1) (v := .string ⟨t.toArray⟩) h0
  simp only [List.setIfInBounds_toArray, List.set_cons_zero, List.set_cons_succ] at h1
  have h2 := row_set (j := 2) (v := .int .i64 u.src) h1
  simp only [List.setIfInBounds_toArray, List.set_cons_zero, List.set_cons_succ] at h2
  have h3 := row_set (j := 3) (v := .int .i64 u.till) h2
  simp only [List.setIfInBounds_toArray, List.set_cons_zero, List.set_cons_succ] at h3
  have h4 := row_set (j := 4) (v := .string ⟨u.name.toArray⟩) h3
  simp only [List.setIfInBounds_toArray, List.set_cons_zero, List.set_cons_succ] at h4
  have h5 := row_set (j := 5) (v := .string ⟨u.key.toArray⟩) h4
  simp only [List.setIfInBounds_toArray, List.set_cons_zero, List.set_cons_succ] at h5
  have h6 := row_set (j := 6) (v := .string ⟨u.dft.toArray⟩) h5
  simp only [List.setIfInBounds_toArray, List.set_cons_zero, List.set_cons_succ] at h6
  have h7 := row_set (j := 7) (v := .bool u.hk) h6
  simp only [List.setIfInBounds_toArray, List.set_cons_zero, List.set_cons_succ] at h7
  have h8 := row_set (j := 8) (v := .bool u.hd) h7
  simp only [List.setIfInBounds_toArray, List.set_cons_zero, List.set_cons_succ] at h8
  have h9 := row_set (j := 9) (v := kv) h8
  simp only [List.setIfInBounds_toArray, List.set_cons_zero, List.set_cons_succ] at h9
  exact h9
theorem setTen_turn (W : World) (b : Nat) (k : Int) (t : Bs) (u : UseI) (kv : Value) : Turn b W (setTen W b k t u kv) := (Turn.refl b W).set.set.set.set.set.set.set.set.set.set
theorem turn_fresh {w W W' : World} {p b : Nat} (h : Turn p w W) (h9 : Turn b W W') (hb : w.heap.size ≤ b) : Turn p w W' :=
  ⟨h9.os.trans h.os, h9.tape.trans h.tape, h9.output.trans h.output, Nat.le_trans h.size h9.size, fun k hk hn => (h9.block k (Nat.lt_of_lt_of_le hk h.size) (by intro e; cases e; omega)).trans (h.block k hk hn)⟩
theorem PB.turn {W W' : World} {p b : Nat} {s : Bs} {i op : Nat} {bad : Int} (h : PB W p s i op bad) (h9 : Turn b W W') (hb : p ≠ b) : PB W' p s i op bad := (h9.block p h.lt (by intro e; cases e; exact hb rfl)).trans h
theorem Res.turn {W W' : World} {p b : Nat} {s : Bs} {op : Nat} {A : Nat → Prop} {g : Got} {v : Value} (h : Res W p s op A g v) (h9 : Turn b W W') (hb : p ≠ b) (hA : ¬ A b) : Res W' p s op A g v := by
  cases g with
  | good x t =>
    obtain ⟨⟨q, h1, h2, h3, h4⟩, h5⟩ := h
    exact ⟨⟨q, h1, h2, h3, h4.turn h9 hb⟩, h5.turn h9 hA⟩
  | wrong q e => exact ⟨h.1, h.2.1, h.2.2.1.turn h9 hb, h.2.2.2⟩
theorem Res.weak {W : World} {p : Nat} {s : Bs} {op : Nat} {A A' : Nat → Prop} {g : Got} {v : Value} (h : Res W p s op A g v) (hA : ∀ z, z < W.heap.size → A z → A' z) : Res W p s op A' g v := by
  cases g with
  | good x t => exact ⟨h.1, exAt_lo hA _ _ h.2⟩
  | wrong q e => exact h
theorem row_end {w W0 w2 : World} {p b op : Nat} {s : Bs} {F : Got} {k : Int} {t : Bs} {u : UseI} {a : Option Addr} {n c : Nat} (hT : Turn p w w2) (hpl : p < w.heap.size) (hsz : W0.heap.size = w.heap.size + 1) (hr : Res w2 p s op (fun z => W0.heap.size ≤ z ∧ z ≠ b) F (exV k t u (.slice a n c))) :
    Turn p w (setTen w2 w.heap.size k t u (.slice a n c)) ∧ Res (setTen w2 w.heap.size k t u (.slice a n c)) p s op (From w.heap.size) F (exV k t u (.slice a n c)) := by
  have h9 := setTen_turn w2 w.heap.size k t u (.slice a n c)
  refine ⟨turn_fresh hT h9 (Nat.le_refl _), (hr.turn h9 (by omega) (by omega)).weak (fun z _ h => ?_)⟩
  show w.heap.size ≤ z
  omega
def rowNx (one : Nat → Got) (kind : Int) (sg : UInt8) (s : Bs) (m : Nat) (x : Ex) : Got → Got
  | .wrong p e => .wrong p e
  | .good y t2 => rowOn one kind sg s m (twoE kind x y) t2
theorem rowOn_yes {one : Nat → Got} {kind : Int} {sg : UInt8} {s : Bs} {m : Nat} {x : Ex} {t : Nat} (h : Lib.hasPrefix (rs s t) [sg] = true) : rowOn one kind sg s (m + 1) x t = rowNx one kind sg s m x (one (pa s t + 1)) := by
  conv => lhs; rw [rowOn, h]
  rw [cond_true]
  cases one (pa s t + 1) <;> rfl
theorem rowOn_no {one : Nat → Got} {kind : Int} {sg : UInt8} {s : Bs} {m : Nat} {x : Ex} {t : Nat} (h : Lib.hasPrefix (rs s t) [sg] = false) : rowOn one kind sg s (m + 1) x t = .good x t := by
  conv => lhs; rw [rowOn, h]
  rfl
theorem ri_next {W0 W2 w3 : World} {p b q tt m op : Nat} {s : Bs} {one : Nat → Got} {kind : Int} {sg : UInt8} {F : Got} {x : Ex} {k k2 : Int} {t t2 : Bs} {u u2 : UseI} {a a2 : Option Addr} {n c n2 c2 : Nat}
    (hT : Turn p W0 W2) (hpl : p < W0.heap.size) (hb : W0.heap.size ≤ b) (hbox : W2.heap[b]? = some (.cells (exL k t u (.slice a n c)).toArray 26)) (hx : ExAt (fun z => W0.heap.size ≤ z ∧ z ≠ b) W2 x (exV k t u (.slice a n c)))
    (ht3 : Turn p W2 w3) (hr : Res w3 p s op (From W2.heap.size) (one (pa s q + 1)) (exV k2 t2 u2 (.slice a2 n2 c2))) (hfit : Fits s (pa s q + 1) (one (pa s q + 1))) (hF : F = rowNx one kind sg s m x (one (pa s q + 1))) (hlen : s.length < tt + (m + 1)) (hq : pa s q = pa s tt) (hq1 : pa s q + 1 ≤ s.length) (htt : tt ≤ s.length) :
    RI W0 (setTen (w3.alloc (.cells (exL k t u (.slice a n c) ++ exL k2 t2 u2 (.slice a2 n2 c2)).toArray 26)) b kind [] noUseI (.slice (some ⟨w3.heap.size, 0, none⟩) 2 2)) p b s op one kind sg F kind [] noUseI (some ⟨w3.heap.size, 0, none⟩) 2 2 ∧
    leftN p s (setTen (w3.alloc (.cells (exL k t u (.slice a n c) ++ exL k2 t2 u2 (.slice a2 n2 c2)).toArray 26)) b kind [] noUseI (.slice (some ⟨w3.heap.size, 0, none⟩) 2 2)) < 1 + (s.length - pa s q) := by
  have hpb : p ≠ b := by omega
  have hbl : b < W2.heap.size := (Array.getElem?_eq_some_iff.1 hbox).1
  have hA : Below w3.heap.size w3 (w3.alloc (.cells (exL k t u (.slice a n c) ++ exL k2 t2 u2 (.slice a2 n2 c2)).toArray 26)) := (Below.refl _ _).alloc (Nat.le_refl _) _
  have h9 := setTen_turn (w3.alloc (.cells (exL k t u (.slice a n c) ++ exL k2 t2 u2 (.slice a2 n2 c2)).toArray 26)) b kind [] noUseI (.slice (some ⟨w3.heap.size, 0, none⟩) 2 2)
  have hrow3 : w3.heap[b]? = _ := (ht3.block b hbl (by intro e; cases e; exact hpb rfl)).trans hbox
  have hrow := (hA.block b (Array.getElem?_eq_some_iff.1 hrow3).1).trans hrow3
  have hs0 := hT.size
  have hs3 := ht3.size
  have hbox9 := setTen_row (k := kind) (t := []) (u := noUseI) (kv := .slice (some ⟨w3.heap.size, 0, none⟩) 2 2) hrow
  have hturn := turn_fresh ((hT.trans ht3).trans (Turn.of_below hA)) h9 hb
  cases ho : one (pa s q + 1) with
  | good y t2' =>
    rw [ho] at hr hfit hF
    obtain ⟨⟨q2, h1, h2, h3, h4⟩, h5⟩ := hr
    have hf : pa s q + 1 < t2' ∧ t2' ≤ s.length := hfit
    have hp9 := (h4.next hA).turn h9 hpb
    have hx3 : ExAt (fun z => W0.heap.size ≤ z ∧ z ≠ b) w3 x _ := hx.turn ht3 (by omega)
    have hy3 : ExAt (fun z => W0.heap.size ≤ z ∧ z ≠ b) w3 y _ := exAt_lo (fun z _ h => by have : W2.heap.size ≤ z := h; omega) _ _ h5
    have h2x := exAt_two (T := 26) kind hx3 hy3 ⟨by omega, by omega⟩
    have hge := pa_ge s htt
    refine ⟨⟨hturn, hb, hbox9, .inl ⟨q2, t2', m, twoE kind x y, hp9, h1, h2, h3, h2x.turn h9 (by omega), hF, by omega⟩⟩, ?_⟩
    rw [left_good hp9]
    have h6 : pa s q2 = pa s t2' := by unfold pa; rw [h3]
    have h7 := pa_ge s h2
    have h8 := pa_le s t2'
    omega
  | wrong q2 e =>
    rw [ho] at hr hF
    obtain ⟨h1, h2, h3, h4⟩ := hr
    have hp9 := (h3.next hA).turn h9 hpb
    refine ⟨⟨hturn, hb, hbox9, .inr ⟨q2, e, hp9, h1, h2, hF⟩⟩, ?_⟩
    rw [left_bad hp9 h1]; omega
theorem ri_start {W0 w1 : World} {p i op : Nat} {s : Bs} {one : Nat → Got} {kind : Int} {sg : UInt8} {k : Int} {t : Bs} {u : UseI} {a : Option Addr} {n c : Nat} (ht : Turn p W0 w1) (hpl : p < W0.heap.size) (hr : Res w1 p s op (From W0.heap.size) (one i) (exV k t u (.slice a n c))) :
    RI W0 (w1.alloc (.cells (exL k t u (.slice a n c)).toArray 26)) p w1.heap.size s op one kind sg (rowG one kind sg s i) k t u a n c := by
  have hb := (Below.refl w1.heap.size w1).alloc (Nat.le_refl _) (.cells (exL k t u (.slice a n c)).toArray 26)
  refine ⟨ht.trans (Turn.of_below hb), ht.size, heap_alloc_new w1 _, ?_⟩
  unfold rowG
  cases ho : one i with
  | good x tt =>
    rw [ho] at hr
    obtain ⟨⟨q, h1, h2, h3, h4⟩, h5⟩ := hr
    exact .inl ⟨q, tt, s.length + 1, x, h4.next hb, h1, h2, h3, (exAt_lo (fun z h6 h7 => ⟨h7, by omega⟩) _ _ h5).next hb, rfl, by omega⟩
  | wrong q e =>
    rw [ho] at hr
    obtain ⟨h1, h2, h3, h4⟩ := hr
    exact .inr ⟨q, e, h3.next hb, h1, h2, rfl⟩
theorem RI.cells {w W : World} {p b : Nat} {s : Bs} {op : Nat} {one : Nat → Got} {kind : Int} {sg : UInt8} {F : Got} {k : Int} {t : Bs} {u : UseI} {a : Option Addr} {n c : Nat} (h : RI w W p b s op one kind sg F k t u a n c) :
    W.cell? ⟨b, 0, none⟩ = some (.int .i64 k) ∧ W.cell? ⟨b, 1, none⟩ = some (.string ⟨t.toArray⟩) ∧ W.cell? ⟨b, 2, none⟩ = some (.int .i64 u.src) ∧ W.cell? ⟨b, 3, none⟩ = some (.int .i64 u.till) ∧ W.cell? ⟨b, 4, none⟩ = some (.string ⟨u.name.toArray⟩) ∧ W.cell? ⟨b, 5, none⟩ = some (.string ⟨u.key.toArray⟩) ∧ W.cell? ⟨b, 6, none⟩ = some (.string ⟨u.dft.toArray⟩) ∧ W.cell? ⟨b, 7, none⟩ = some (.bool u.hk) ∧ W.cell? ⟨b, 8, none⟩ = some (.bool u.hd) ∧ W.cell? ⟨b, 9, none⟩ = some (.slice a n c) :=
  ⟨cell_of_row _ _ 0 _ _ _ h.box, cell_of_row _ _ 1 _ _ _ h.box, cell_of_row _ _ 2 _ _ _ h.box, cell_of_row _ _ 3 _ _ _ h.box, cell_of_row _ _ 4 _ _ _ h.box, cell_of_row _ _ 5 _ _ _ h.box, cell_of_row _ _ 6 _ _ _ h.box, cell_of_row _ _ 7 _ _ _ h.box, cell_of_row _ _ 8 _ _ _ h.box, cell_of_row _ _ 9 _ _ _ h.box⟩
set_option maxRecDepth 100000 in
set_option maxHeartbeats 4000000 in
theorem ps_row1 (w : World) (p b1 b2 b3 b4 : Nat) (s : Bs) (i op : Nat) (f : FuncId) (fi ca : Array Value) (one : Nat → Got) (kind : Int) (sg : UInt8) (K : World → Prop) (hi : i ≤ s.length) (hs : s.length ≤ 100000)
    (he : ∀ (vs : Array Value) (w : World), (callFunc f vs).run Tryz.prog w = .ok (.enter f vs) w) (hR : Runs f (fi ++ ca) p s op one K) (hk : ∀ W W', K W → Turn p W W' → K W') (hF : FitsF s one) (hKw : K w) (hRK : RowK w p b1 b2 b3 b4 (.func (.func f) fi ca) sg kind) (h : PB w p s i op 0) :
    Calls Tryz.prog 58 #[.pointer (some ⟨b1, 0, none⟩), .pointer (some ⟨b2, 0, none⟩), .pointer (some ⟨b3, 0, none⟩), .pointer (some ⟨b4, 0, none⟩)] w fun e w' => ∃ v, e = .returned v ∧ Turn p w w' ∧ Hid (Res w' p s op (From w.heap.size) (rowG one kind sg s i) v) := by
  have hT0 : Turn p w (w.alloc (.cells #[.int .i64 0, .string ⟨#[]⟩, .int .i64 0, .int .i64 0, .string ⟨#[]⟩, .string ⟨#[]⟩, .string ⟨#[]⟩, .bool false, .bool false, .slice none 0 0] 26)) := Turn.of_below ((Below.refl _ _).alloc (Nat.le_refl _) _)
  have HN0 := Lib.hid (heap_alloc_new w (.cells #[.int .i64 0, .string ⟨#[]⟩, .int .i64 0, .int .i64 0, .string ⟨#[]⟩, .string ⟨#[]⟩, .string ⟨#[]⟩, .bool false, .bool false, .slice none 0 0] 26))
  have HB := Lib.hid (show PB (w.alloc (.cells #[.int .i64 0, .string ⟨#[]⟩, .int .i64 0, .int .i64 0, .string ⟨#[]⟩, .string ⟨#[]⟩, .string ⟨#[]⟩, .bool false, .bool false, .slice none 0 0] 26)) p s i op 0 from h.next ((Below.refl _ _).alloc (Nat.le_refl _) _))
  have HR := Lib.hid hR
  have HKK := Lib.hid hk
  have HF := Lib.hid hF
  have HK := Lib.hid (hk _ _ hKw hT0)
  have HRK := Lib.hid (hRK.turn hT0)
  have HPL := Lib.hid h.lt
  obtain ⟨d1, d2, d3, d4, -, -, -, -⟩ := hRK.turn hT0
  have HT0 := Lib.hid hT0
  clear h hR hk hF hKw hRK hT0
  go_enter Tryz.func58, Tryz.ntmps58
  go_wp2_with fail
  refine (HR.out _ i hi HK.out HB.out).mono ?_
  rintro e w1 ⟨v, rfl, ht1, hr1⟩
  obtain ⟨k0, t0, u0, a0, n0, c0, rfl⟩ := hr1.ten
  have HN1 := Lib.hid (show w1.heap[w.heap.size]? = _ from (ht1.block w.heap.size (by rw [World.size_alloc]; omega) (by have := HPL.out; intro e; cases e; omega)).trans HN0.out)
  have HI := Lib.hid (ri_start (kind := kind) (sg := sg) ht1 (by rw [World.size_alloc]; have := HPL.out; omega) hr1)
  have HBN := Lib.hid (show p < w1.heap.size from by have := ht1.size; rw [World.size_alloc] at this; have := HPL.out; omega)
  clear ht1 hr1 HB d1 d2 d3 d4
  generalize hfe : rowG one kind sg s i = F at *
  have HFE := Lib.hid hfe
  clear hfe
  generalize hw0 : w.alloc (.cells #[.int .i64 0, .string ⟨#[]⟩, .int .i64 0, .int .i64 0, .string ⟨#[]⟩, .string ⟨#[]⟩, .string ⟨#[]⟩, .bool false, .bool false, .slice none 0 0] 26) = W0 at *
  have HW0 := Lib.hid hw0
  have HSZ := Lib.hid (show W0.heap.size = w.heap.size + 1 by rw [← hw0, World.size_alloc])
  clear hw0
  go_wp2_with fail
  generalize w1.alloc (.cells (exL k0 t0 u0 (.slice a0 n0 c0)).toArray 26) = W1 at *
  generalize w1.heap.size = b at *
  go_loopw [] (fun wr => ∃ (k : Int) (t : Bs) (u : UseI) (a : Option Addr) (n c : Nat), Hid (RI W0 wr p b s op one kind sg F k t u a n c)) (fun wr => leftN p s wr)
  case atStart => exact ⟨_, _, _, _, _, _, HI⟩
  case round =>
    clear HI
    obtain ⟨k, t, u, a, n, c, HI⟩ := hrel
    have HRK1 := Lib.hid (HRK.out.turn HI.out.turn)
    obtain ⟨d1, d2, d3, d4, -, -, -, -⟩ := HRK1.out
    rcases HI.out.res with ⟨q, tt, m, x, h1, h2, h3, h4, h5, h6, h7⟩ | ⟨q, e, h1, h2, h3, h4⟩
    · obtain ⟨m, rfl⟩ : ∃ m', m = m' + 1 := ⟨m - 1, by omega⟩
      have HPB := Lib.hid h1
      have HRS := Lib.hid h4
      have HX := Lib.hid h5
      have HFF := Lib.hid h6
      have HLM := Lib.hid (left_good h1)
      clear h1 h4 h5 h6
      go_wp2_with fail
      refine (ps_is_ok wr p s q op [sg] h2 hs (by simp) HPB.out).mono ?_
      rintro e w2 ⟨rfl, hb2, ht2⟩
      have HT2 := Lib.hid ht2
      have HC2 := Lib.hid (ht2.block b (cell_lt HI.out.cells.1) (by have := HBN.out; intro e; cases e; omega))
      cases hp : Lib.hasPrefix (rs s q) [sg]
      · rw [hp] at hb2
        have HB2 := Lib.hid (show PB w2 p s (pa s q) op 0 from hb2)
        have HP := Lib.hid hp
        have HI2 := Lib.hid (show w2.heap[b]? = _ from HC2.out.trans HI.out.box)
        have HN2 := Lib.hid (show w2.heap[w.heap.size]? = _ from ((HI.out.turn.trans ht2).block w.heap.size (by have := HSZ.out; omega) (by have := HPL.out; intro e; cases e; omega)).trans HN0.out)
        obtain ⟨c0, c1, c2, c3, c4, c5, c6, c7, c8, c9⟩ := ten_cells HI2.out
        obtain ⟨f0, f1, f2, f3, f4, f5, f6, f7, f8, f9⟩ := ten_frozen HN2.out
        obtain ⟨g0, g1, g2, g3, g4, g5, g6, g7, g8, g9⟩ := ten_live HN2.out
        have hF : F = .good x tt := by rw [HFF.out, rowOn_no (by rw [← HRS.out]; exact hp)]
        have HE := Lib.hid (row_end (w := w) (W0 := W0) (b := b) (F := F) ((HT0.out.trans HI.out.turn).trans ht2) HPL.out HSZ.out (by rw [hF]; exact ⟨⟨pa s q, pa_le s q, h3, (rs_pa s h2).trans HRS.out, HB2.out⟩, HX.out.turn ht2 (by have := HSZ.out; have := HPL.out; omega)⟩))
        have HRW := Lib.hid (setTen_row (k := k) (t := t) (u := u) (kv := .slice a n c) HN2.out)
        clear hb2 ht2 hp hF
        go_wp2_with fail
        clear c0 c1 c2 c3 c4 c5 c6 c7 c8 c9 f0 f1 f2 f3 f4 f5 f6 f7 f8 f9 g0 g1 g2 g3 g4 g5 g6 g7 g8 g9 d1 d2 d3 d4
        obtain ⟨k0, k1, k2, k3, k4, k5, k6, k7, k8, k9⟩ := ten_cells HRW.out
        refine bodyPost_ret (v := exV k t u (.slice a n c)) ?_ rfl ⟨_, rfl, HE.out.1, Lib.hid (by rw [HFE.out]; exact HE.out.2)⟩
        simp [results, Tryz.f58, go_sem, k0, k1, k2, k3, k4, k5, k6, k7, k8, k9]
      · rw [hp] at hb2
        have hq1 := pfx_lt h2 hp
        simp only [List.length_singleton] at hq1
        have HB2 := Lib.hid (show PB w2.drew p s (pa s q + 1) op 0 from hb2)
        have hpt : pa s q = pa s tt := by unfold pa; rw [HRS.out]
        have HF1 := Lib.hid (show F = rowNx one kind sg s m x (one (pa s q + 1)) by rw [HFF.out, rowOn_yes (by rw [← HRS.out]; exact hp), hpt])
        have HPT := Lib.hid hpt
        have HFT := Lib.hid (HF.out (pa s q + 1) hq1)
        have HTD := Lib.hid (show Turn p W0 w2.drew from (HI.out.turn.trans ht2).trans ⟨rfl, rfl, rfl, Nat.le_refl _, fun _ _ _ => rfl⟩)
        have HKD := Lib.hid (HKK.out _ _ HK.out HTD.out)
        have HRD := Lib.hid (HRK.out.turn HTD.out)
        have HID := Lib.hid (show w2.drew.heap[b]? = _ from HC2.out.trans HI.out.box)
        have HXD := Lib.hid (show ExAt (fun z => W0.heap.size ≤ z ∧ z ≠ b) w2.drew x (exV k t u (.slice a n c)) from exAt_keep (W := w2) (W' := w2.drew) (Nat.le_refl _) (fun _ _ _ => rfl) _ _ (HX.out.turn ht2 (by have := HSZ.out; have := HPL.out; omega)))
        have HPW := Lib.hid (show p < W0.heap.size by have := HSZ.out; have := HPL.out; omega)
        have HBL := Lib.hid (show b < w2.drew.heap.size from (Array.getElem?_eq_some_iff.1 HID.out).1)
        have HBP := Lib.hid (show some b ≠ some p by have := HBN.out; intro e; cases e; omega)
        clear d1 d2 d3 d4 hb2 ht2 hp hpt
        obtain ⟨d1, d2, d3, d4, -, -, -, -⟩ := HRD.out
        obtain ⟨c0, c1, c2, c3, c4, c5, c6, c7, c8, c9⟩ := ten_cells HID.out
        go_wp2_with fail
        go_region_law
          ((go_simp; refine (HR.out _ _ hq1 HKD.out HB2.out).mono ?_; rintro e w3 ⟨v2, rfl, ht3, hr3⟩; obtain ⟨k2, t2, u2, a2, n2, cc2, rfl⟩ := hr3.ten; have HN := Lib.hid (ri_next HTD.out HPW.out HI.out.far HID.out HXD.out ht3 hr3 HFT.out HF1.out h7 HPT.out hq1 h3); have HR3 := Lib.hid (HRD.out.turn ht3); have HI3 := Lib.hid ((ht3.block b HBL.out HBP.out).trans HID.out); clear ht3 hr3; obtain ⟨x1, x2, x3, x4, -, -, -, -⟩ := HR3.out; have x5 := cell_alloc9 x4; obtain ⟨y0, y1, y2, y3, y4, y5, y6, y7, y8, y9⟩ := ten_cells HI3.out; obtain ⟨z0, z1, z2, z3, z4, z5, z6, z7, z8, z9⟩ := ten_thaw HI3.out; obtain ⟨q0, q1, q2, q3, q4, q5, q6, q7, q8, q9⟩ := ten_alloc HI3.out))
        all_goals
          clear d1 d2 d3 d4 c0 c1 c2 c3 c4 c5 c6 c7 c8 c9 x1 x2 x3 x4 x5 y0 y1 y2 y3 y4 y5 y6 y7 y8 y9 z0 z1 z2 z3 z4 z5 z6 z7 z8 z9 q0 q1 q2 q3 q4 q5 q6 q7 q8 q9
          go_wp2_with fail
          go_roundw
          case rel => exact ⟨kind, [], noUseI, some ⟨w3.heap.size, 0, none⟩, 2, 2, Lib.hid HN.out.1⟩
          case measure => (rw [HLM.out]; exact HN.out.2)
    · have HB1 := Lib.hid h1
      have HF4 := Lib.hid h4
      clear h1 h4
      go_wp2_with fail
      refine (ps_is_bad wr p s q op e ⟨#[sg]⟩ h2 HB1.out).mono ?_
      rintro e2 w2 ⟨rfl, hb2, ht2⟩
      have HC2 := Lib.hid (ht2.block b (cell_lt HI.out.cells.1) (by have := HBN.out; intro e; cases e; omega))
      have HI2 := Lib.hid (show w2.heap[b]? = _ from HC2.out.trans HI.out.box)
      have HN2 := Lib.hid (show w2.heap[w.heap.size]? = _ from ((HI.out.turn.trans ht2).block w.heap.size (by have := HSZ.out; omega) (by have := HPL.out; intro e; cases e; omega)).trans HN0.out)
      obtain ⟨c0, c1, c2, c3, c4, c5, c6, c7, c8, c9⟩ := ten_cells HI2.out
      obtain ⟨f0, f1, f2, f3, f4, f5, f6, f7, f8, f9⟩ := ten_frozen HN2.out
      obtain ⟨g0, g1, g2, g3, g4, g5, g6, g7, g8, g9⟩ := ten_live HN2.out
      have HE := Lib.hid (row_end (w := w) (W0 := W0) (b := b) (F := F) ((HT0.out.trans HI.out.turn).trans ht2) HPL.out HSZ.out (by rw [HF4.out]; exact ⟨h2, h3, hb2, ⟨k, t, u, a, n, c, rfl⟩⟩))
      have HRW := Lib.hid (setTen_row (k := k) (t := t) (u := u) (kv := .slice a n c) HN2.out)
      clear hb2 ht2
      go_wp2_with fail
      clear c0 c1 c2 c3 c4 c5 c6 c7 c8 c9 f0 f1 f2 f3 f4 f5 f6 f7 f8 f9 g0 g1 g2 g3 g4 g5 g6 g7 g8 g9 d1 d2 d3 d4
      obtain ⟨k0, k1, k2, k3, k4, k5, k6, k7, k8, k9⟩ := ten_cells HRW.out
      refine bodyPost_ret (v := exV k t u (.slice a n c)) ?_ rfl ⟨_, rfl, HE.out.1, Lib.hid (by rw [HFE.out]; exact HE.out.2)⟩
      simp [results, Tryz.f58, go_sem, k0, k1, k2, k3, k4, k5, k6, k7, k8, k9]
end Go.Proofs.YtbkhmkpbbggcbaaGreatDoor
