/- The tests' trees and the parser's box in memory. -/
import Derived.Test.YtbkhmkpbbggcbaaGreatDoorKTestP
import Derived.Test.YtbkhmkpbbggcbaaGreatDoorKSubRead2
namespace Go.Proofs.YtbkhmkpbbggcbaaGreatDoor
open Go.RowKit
set_option linter.unusedVariables false
abbrev exL (k : Int) (t : Bs) (u : UseI) (kv : Value) : List Value := [.int .i64 k, .string ⟨t.toArray⟩, .int .i64 u.src, .int .i64 u.till, .string ⟨u.name.toArray⟩, .string ⟨u.key.toArray⟩, .string ⟨u.dft.toArray⟩, .bool u.hk, .bool u.hd, kv]
abbrev exV (k : Int) (t : Bs) (u : UseI) (kv : Value) : Value := .agg #[.int .i64 k, .string ⟨t.toArray⟩, .int .i64 u.src, .int .i64 u.till, .string ⟨u.name.toArray⟩, .string ⟨u.key.toArray⟩, .string ⟨u.dft.toArray⟩, .bool u.hk, .bool u.hd, kv]
def CellsAt (W : World) (b o : Nat) (l : List Value) : Prop := ∀ (j : Nat) (u : Value), l[j]? = some u → W.cell? ⟨b, o + j, none⟩ = some u
theorem CellsAt.keep {W W' : World} {b o : Nat} {l : List Value} (h : CellsAt W b o l) (hb : W'.heap[b]? = W.heap[b]?) : CellsAt W' b o l := fun j u hu => by
  have := h j u hu
  unfold World.cell? at this ⊢
  show (match W'.heap[b]? with | _ => _) = _
  rw [hb]; exact this
mutual
def ExAt (A : Nat → Prop) (W : World) : Ex → Value → Prop
  | .mk k t u l, v => ∃ kv, v = exV k t u kv ∧ ((l = [] ∧ ∃ a c, kv = .slice a 0 c) ∨ ∃ b o c, kv = .slice (some ⟨b, o, none⟩) l.length c ∧ l.length ≤ c ∧ A b ∧ b < W.heap.size ∧ RowAt A W l b o)
def RowAt (A : Nat → Prop) (W : World) : List Ex → Nat → Nat → Prop
  | [], _, _ => True
  | x :: r, b, o => (∃ cs, ExAt A W x (.agg cs) ∧ CellsAt W b o cs.toList) ∧ RowAt A W r b (o + 10)
end
def KidsAt (A : Nat → Prop) (W : World) (l : List Ex) (kv : Value) : Prop := (l = [] ∧ ∃ a c, kv = .slice a 0 c) ∨ ∃ b o c, kv = .slice (some ⟨b, o, none⟩) l.length c ∧ l.length ≤ c ∧ A b ∧ b < W.heap.size ∧ RowAt A W l b o
theorem exAt_iff {A : Nat → Prop} {W : World} {k : Int} {t : Bs} {u : UseI} {l : List Ex} {v : Value} : ExAt A W (.mk k t u l) v ↔ ∃ kv, v = exV k t u kv ∧ KidsAt A W l kv := by rw [ExAt]; rfl
theorem rowAt_cons {A : Nat → Prop} {W : World} {x : Ex} {r : List Ex} {b o : Nat} : RowAt A W (x :: r) b o ↔ (∃ cs, ExAt A W x (.agg cs) ∧ CellsAt W b o cs.toList) ∧ RowAt A W r b (o + 10) := by rw [RowAt]
theorem rowAt_nil {A : Nat → Prop} {W : World} {b o : Nat} : RowAt A W [] b o := by rw [RowAt]; trivial
mutual
theorem exAt_keep {A : Nat → Prop} {W W' : World} (hs : W.heap.size ≤ W'.heap.size) (hk : ∀ b, A b → b < W.heap.size → W'.heap[b]? = W.heap[b]?) : ∀ (x : Ex) (v : Value), ExAt A W x v → ExAt A W' x v
  | .mk k t u l, v, h => by
    rw [ExAt] at h ⊢
    obtain ⟨kv, hv, h⟩ := h
    refine ⟨kv, hv, ?_⟩
    rcases h with h | ⟨b, o, c, h1, h2, h3, h4, h5⟩
    · exact .inl h
    · exact .inr ⟨b, o, c, h1, h2, h3, Nat.lt_of_lt_of_le h4 hs, rowAt_keep hs hk l b o h3 h4 h5⟩
theorem rowAt_keep {A : Nat → Prop} {W W' : World} (hs : W.heap.size ≤ W'.heap.size) (hk : ∀ b, A b → b < W.heap.size → W'.heap[b]? = W.heap[b]?) : ∀ (l : List Ex) (b o : Nat), A b → b < W.heap.size → RowAt A W l b o → RowAt A W' l b o
  | [], _, _, _, _, _ => by rw [RowAt]; trivial
  | x :: r, b, o, h1, h2, h => by
    rw [RowAt] at h ⊢
    obtain ⟨⟨cs, h3, h4⟩, h5⟩ := h
    exact ⟨⟨cs, exAt_keep hs hk x _ h3, h4.keep (hk b h1 h2)⟩, rowAt_keep hs hk r b (o + 10) h1 h2 h5⟩
end
theorem ExAt.next {A : Nat → Prop} {W W' : World} {x : Ex} {v : Value} (h : ExAt A W x v) (hb : Below W.heap.size W W') : ExAt A W' x v := exAt_keep hb.size (fun b _ h => hb.block b h) x v h
theorem ExAt.turn {A : Nat → Prop} {p : Nat} {W W' : World} {x : Ex} {v : Value} (h : ExAt A W x v) (ht : Turn p W W') (hp : ¬ A p) : ExAt A W' x v :=
  exAt_keep ht.size (fun b h1 h2 => ht.block b h2 (by intro e; cases e; exact hp h1)) x v h
mutual
theorem exAt_lo {A A' : Nat → Prop} {W : World} (hl : ∀ b, b < W.heap.size → A b → A' b) : ∀ (x : Ex) (v : Value), ExAt A W x v → ExAt A' W x v
  | .mk k t u l, v, h => by
    rw [ExAt] at h ⊢
    obtain ⟨kv, hv, h⟩ := h
    refine ⟨kv, hv, ?_⟩
    rcases h with h | ⟨b, o, c, h1, h2, h3, h4, h5⟩
    · exact .inl h
    · exact .inr ⟨b, o, c, h1, h2, hl b h4 h3, h4, rowAt_lo hl l b o h5⟩
theorem rowAt_lo {A A' : Nat → Prop} {W : World} (hl : ∀ b, b < W.heap.size → A b → A' b) : ∀ (l : List Ex) (b o : Nat), RowAt A W l b o → RowAt A' W l b o
  | [], _, _, _ => by rw [RowAt]; trivial
  | x :: r, b, o, h => by
    rw [RowAt] at h ⊢
    obtain ⟨⟨cs, h3, h4⟩, h5⟩ := h
    exact ⟨⟨cs, exAt_lo hl x _ h3, h4⟩, rowAt_lo hl r b (o + 10) h5⟩
end
theorem exAt_leaf (A : Nat → Prop) (W : World) (k : Int) (t : Bs) (u : UseI) : ExAt A W (.mk k t u []) (exV k t u (.slice none 0 0)) := exAt_iff.2 ⟨_, rfl, .inl ⟨rfl, _, _, rfl⟩⟩
theorem noEx_at (A : Nat → Prop) (W : World) : ExAt A W noEx (exV 0 [] noUseI (.slice none 0 0)) := exAt_leaf A W 0 [] noUseI
def TenV (v : Value) : Prop := ∃ k t u a n c, v = exV k t u (.slice a n c)
theorem ExAt.ten {A : Nat → Prop} {W : World} {x : Ex} {v : Value} (h : ExAt A W x v) : TenV v := by
  obtain ⟨k, t, u, l⟩ := x
  obtain ⟨kv, rfl, hk⟩ := exAt_iff.1 h
  rcases hk with ⟨_, a, c, rfl⟩ | ⟨b, o, c, rfl, _⟩
  · exact ⟨_, _, _, _, _, _, rfl⟩
  · exact ⟨_, _, _, _, _, _, rfl⟩
theorem cells_block {W : World} {b : Nat} {cs : Array Value} {T : TypeId} {o : Nat} {l : List Value} (h : W.heap[b]? = some (.cells cs T)) (hl : ∀ j u, l[j]? = some u → cs[o + j]? = some u) : CellsAt W b o l := fun j u hu => (cell_of_row _ _ _ _ _ _ h).trans (hl j u hu)
theorem exAt_one {A : Nat → Prop} {W : World} {x : Ex} {k1 : Int} {t1 : Bs} {u1 : UseI} {kv1 : Value} {T : TypeId} (k : Int) (hx : ExAt A W x (exV k1 t1 u1 kv1)) (hlo : A W.heap.size) :
    ExAt A (W.alloc (.cells (exL k1 t1 u1 kv1).toArray T)) (oneE k x) (exV k [] noUseI (.slice (some ⟨W.heap.size, 0, none⟩) 1 1)) := by
  have hn := heap_alloc_new W (.cells (exL k1 t1 u1 kv1).toArray T)
  refine exAt_iff.2 ⟨_, rfl, .inr ⟨W.heap.size, 0, 1, rfl, Nat.le_refl _, hlo, by rw [World.size_alloc]; omega, ?_⟩⟩
  rw [rowAt_cons]
  exact ⟨⟨_, hx.next ((Below.refl _ _).alloc (Nat.le_refl _) _), cells_block hn (fun j u hu => by simpa using hu)⟩, rowAt_nil⟩
theorem exAt_two {A : Nat → Prop} {W : World} {x y : Ex} {k1 k2 : Int} {t1 t2 : Bs} {u1 u2 : UseI} {kv1 kv2 : Value} {T : TypeId} (k : Int) (hx : ExAt A W x (exV k1 t1 u1 kv1)) (hy : ExAt A W y (exV k2 t2 u2 kv2)) (hlo : A W.heap.size) :
    ExAt A (W.alloc (.cells (exL k1 t1 u1 kv1 ++ exL k2 t2 u2 kv2).toArray T)) (twoE k x y) (exV k [] noUseI (.slice (some ⟨W.heap.size, 0, none⟩) 2 2)) := by
  have hn := heap_alloc_new W (.cells (exL k1 t1 u1 kv1 ++ exL k2 t2 u2 kv2).toArray T)
  have hb := (Below.refl W.heap.size W).alloc (Nat.le_refl _) (.cells (exL k1 t1 u1 kv1 ++ exL k2 t2 u2 kv2).toArray T)
  refine exAt_iff.2 ⟨_, rfl, .inr ⟨W.heap.size, 0, 2, rfl, Nat.le_refl _, hlo, by rw [World.size_alloc]; omega, ?_⟩⟩
  rw [rowAt_cons, rowAt_cons]
  refine ⟨⟨_, hx.next hb, cells_block hn (fun j u hu => ?_)⟩, ⟨_, hy.next hb, cells_block hn (fun j u hu => ?_)⟩, rowAt_nil⟩
  · rw [List.getElem?_toArray, Nat.zero_add, List.getElem?_append_left (List.getElem?_eq_some_iff.1 hu).1]; exact hu
  · rw [List.getElem?_toArray, Nat.zero_add, List.getElem?_append_right (by simp)]
    simpa using hu
def PB (W : World) (p : Nat) (s : Bs) (i op : Nat) (bad : Int) : Prop := W.heap[p]? = some (.cells #[.string ⟨s.toArray⟩, .int .i64 (i : Int), .int .i64 (op : Int), .int .i64 bad] 64)
structure PC (W : World) (p : Nat) (s : Bs) (i op : Nat) (bad : Int) : Prop where
  c0 : W.cell? ⟨p, 0, none⟩ = some (.string ⟨s.toArray⟩)
  c1 : W.cell? ⟨p, 1, none⟩ = some (.int .i64 (i : Int))
  c2 : W.cell? ⟨p, 2, none⟩ = some (.int .i64 (op : Int))
  c3 : W.cell? ⟨p, 3, none⟩ = some (.int .i64 bad)
  f0 : W.frozen? ⟨p, 0, none⟩ = false
  f1 : W.frozen? ⟨p, 1, none⟩ = false
  f2 : W.frozen? ⟨p, 2, none⟩ = false
  f3 : W.frozen? ⟨p, 3, none⟩ = false
section
variable {W W' : World} {p : Nat} {s : Bs} {i op : Nat} {bad : Int}
theorem PB.pc (h : PB W p s i op bad) : PC W p s i op bad :=
  ⟨cell_of_row _ _ 0 _ _ _ h, cell_of_row _ _ 1 _ _ _ h, cell_of_row _ _ 2 _ _ _ h, cell_of_row _ _ 3 _ _ _ h, frozen_of_row _ _ 0 _ _ h, frozen_of_row _ _ 1 _ _ h, frozen_of_row _ _ 2 _ _ h, frozen_of_row _ _ 3 _ _ h⟩
theorem PB.lt (h : PB W p s i op bad) : p < W.heap.size := cell_lt h.pc.c0
theorem PB.next (h : PB W p s i op bad) (hb : Below W.heap.size W W') : PB W' p s i op bad := (hb.block p h.lt).trans h
theorem PB.set1 (h : PB W p s i op bad) (x : Nat) : PB (W.setCell ⟨p, 1, none⟩ (.int .i64 (x : Int))) p s x op bad := row_set (j := 1) h
theorem PB.set2 (h : PB W p s i op bad) (x : Nat) : PB (W.setCell ⟨p, 2, none⟩ (.int .i64 (x : Int))) p s i x bad := row_set (j := 2) h
theorem PB.set3 (h : PB W p s i op bad) (x : Int) : PB (W.setCell ⟨p, 3, none⟩ (.int .i64 x)) p s i op x := row_set (j := 3) h
end
end Go.Proofs.YtbkhmkpbbggcbaaGreatDoor
