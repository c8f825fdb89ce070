/- One element, of however many cells, is appended to a slice that the call owns: its row lies where it lay, or in a new block. The walk of theirs: a tree of the program's as one of the reference's. -/
import Derived.Test.YtehdeclpighdeaaGreatDoorBase
import Derived.OwnWalk
import Derived.Deep.RegionLaw
import Derived.Test.YtehdeclpighdeaaGreatDoorTestE2
namespace Go.Proofs.YtehdeclpighdeaaGreatDoor
open Go.RowKit
set_option linter.unusedVariables false

theorem run_append_new {P : Program} (w : World) (base : Nat) (t ty e : TypeId) (i : TypeInfo) (z : Value) (size bytes : Nat) (ht : P.underlying t = some (.slice e)) (hi : P.info? e = some i) (hz : i.zero = some z)
    (hsize : i.size = size) (hby : i.bytes = bytes) (hzs : z.cells.size = size) (hsz : 0 < size)
    (v : Value) (n : Nat) (xs : List Value) (hown : w.ownsRow base e size v n xs)
    (a : Addr) (c : Nat) (news : List Value) (hl : news.length = 1 * size) (hnews : ∀ j u, news[j]? = some u → w.cell? (a.add j) = some u) (h1 : ∀ u ∈ news, u.oneCell' = true)
    (h63 : n + 1 ≤ maxLen) (hbytes : (n + 1) * bytes ≤ 140737488355328) (hbase : base ≤ w.heap.size) :
    ∃ v' w', (Builtin.append_ #[t, t] ty #[v, .slice (some a) 1 c]).run P w = .ok v' w' ∧ w'.ownsRow base e size v' (n + 1) (xs ++ news) ∧ w.grownBy w' v.ownBlock ∧ (v'.ownBlock = v.ownBlock ∨ ∃ k, v'.ownBlock = some k ∧ w.heap.size ≤ k) := by
  obtain ⟨v', w', hr, h2, h3, h4⟩ := run_append_own (P := P) w base t ty e i z size bytes ht hi hz hsize hby hzs hsz v n xs hown a 1 c news hl hnews h1 h63 hbytes hbase
  refine ⟨v', w', hr, h2, h3, ?_⟩
  rcases hown.2 with ⟨rfl, rfl⟩ | ⟨g, cap, cur, rfl, hbg, hg, hnc, hcm, hcs, htake⟩
  · have hx : xs = [] := List.eq_nil_of_length_eq_zero (by simpa using hown.1)
    subst hx
    obtain ⟨v2, w2, hr2, h5, _, _⟩ := run_append_own (P := P) w w.heap.size t ty e i z size bytes ht hi hz hsize hby hzs hsz (.slice none 0 0) 0 [] (World.ownsRow_nil w _ _ _) a 1 c news hl hnews h1 h63 hbytes (Nat.le_refl _)
    rw [hr] at hr2
    injection hr2 with e1 e2
    subst e1 e2
    obtain ⟨g, cap, rfl⟩ := own_succ h5
    exact .inr ⟨g, rfl, (h5.lt g rfl).1⟩
  · subst hsize
    subst hby
    by_cases hroom : n + 1 ≤ cap
    · have hfit : n * i.size + news.length ≤ cur.size := by rw [hl, hcs, ← Nat.add_mul]; exact Nat.mul_le_mul_right _ hroom
      have hr2 := run_append_room (P := P) w t ty e i ht hi g n cap cur hg a 1 c news hl hnews h1 hroom hfit
      rw [hr] at hr2
      injection hr2 with e1 e2
      subst e1
      exact .inl rfl
    · have holds : ∀ j u, xs[j]? = some u → w.cell? ((⟨g, 0, none⟩ : Addr).add j) = some u := hown.cells (g := g) rfl
      have hr2 := run_append_grow (P := P) w t ty e i z ht hi hz ⟨g, 0, none⟩ n cap xs hown.1 holds a 1 c news hl hnews (by omega) (by simp only [maxLen] at h63; omega) (growslice_fits (by omega) hbytes)
      rw [hr] at hr2
      injection hr2 with e1 e2
      subst e1
      exact .inr ⟨w.heap.size, rfl, Nat.le_refl _⟩
/-- In a region: one element of a block of its own is appended. -/
theorem step_appN {P : Program} {ops : Array Oper} {o : Oper} {a : Act} {K : Act → World → Prop} {Q : Exit → Act → World → Prop} {E : Prop} {W : World} (hgd : o.guard = none) (s x : Operand) (t : TypeId)
    (ho : o.op = .call { callee := .builtin .append, args := #[s, x], argTypes := #[t, t] })
    (e : TypeId) (z : Value) (size bytes : Nat) (ht : P.underlying t = some (.slice e)) (hinfo : (P.info? e).map (fun i => (i.zero, i.size, i.bytes)) = some (some z, size, bytes))
    (hzs : z.cells.size = size) (hsz : 0 < size) (base : Nat) (w : World)
    (v : Value) (n : Nat) (xs : List Value) (hs : a.eval s = v) (hown : w.ownsRow base e size v n xs)
    (us : List Value) (hw : W = w.alloc (.cells us.toArray e)) (hl : us.length = size) (hx : a.eval x = .slice (some ⟨w.heap.size, 0, none⟩) 1 1) (h1 : ∀ u ∈ us, u.oneCell' = true)
    (hbytes : (n + 1) * bytes ≤ 140737488355328) (h63 : n + 1 ≤ 140737488355328) (hbase : base ≤ w.heap.size)
    (h : ∀ g cap w', w'.ownsRow base e size (.slice (some ⟨g, 0, none⟩) (n + 1) cap) (n + 1) (xs ++ us) → (w.alloc (.cells us.toArray e)).grownBy w' v.ownBlock → (some g = v.ownBlock ∨ w.heap.size + 1 ≤ g) →
      K (a.put o.dst (.slice (some ⟨g, 0, none⟩) (n + 1) cap)) w') :
    if Region.wanted o (yielded ops a.tmps) = true then Oper.wp P o a W K Q else E := by
  subst hw
  rw [if_pos (show Region.wanted o (yielded ops a.tmps) = true by simp [Region.wanted, hgd])]
  obtain ⟨i, hi, hz, hsize, hby⟩ := info_parts hinfo
  obtain ⟨v', w', hr, h2, h3, h4⟩ := run_append_new (P := P) (w.alloc (.cells us.toArray e)) base t o.type e i z size bytes ht hi hz hsize hby hzs hsz v n xs (hown.alloc _) ⟨w.heap.size, 0, none⟩ 1 us (by omega) (by
    intro j u hj
    have hj' : us.toArray[j]? = some u := by simpa using hj
    have hn : (w.alloc (.cells us.toArray e)).heap[w.heap.size]? = some (.cells us.toArray e) := heap_alloc_new w _
    have : ((⟨w.heap.size, 0, none⟩ : Addr).add j) = ⟨w.heap.size, j, none⟩ := by
      unfold Addr.add; by_cases h0 : j = 0
      · subst h0; rfl
      · rw [if_neg h0]; simp
    rw [this]
    unfold World.cell?
    rw [show (w.alloc (.cells us.toArray e)).heap[(⟨w.heap.size, j, none⟩ : Addr).block]? = _ from hn]
    simpa using hj') h1 (by unfold maxLen; omega) hbytes (by simp; omega)
  unfold Oper.wp execOp
  simp only [ho, resolve, invoke, builtin, Sem.run_bind, Sem.run_pure, Result.andThen_ok, List.map_toArray, List.map_cons, List.map_nil, hs, hx, hr]
  obtain ⟨g, cap, rfl⟩ := own_succ h2
  refine h g cap w' h2 h3 ?_
  rcases h4 with h4 | ⟨k, h4, h5⟩
  · exact .inl h4
  · right
    have : g = k := by simpa [Value.ownBlock] using h4
    subst this
    rw [World.size_alloc] at h5; omega
end Go.Proofs.YtehdeclpighdeaaGreatDoor

namespace Go.Proofs.YtehdeclpighdeaaGreatDoor
open Go.RowKit
set_option linter.unusedVariables false

/-- Trees' cells, one behind the other. -/
def RowC (A : Nat → Prop) (W : World) : List Ex → List Value → Prop
  | [], xs => xs = []
  | x :: r, xs => ∃ k t u a n c rest, xs = exL k t u (.slice a n c) ++ rest ∧ ExAt A W x (exV k t u (.slice a n c)) ∧ RowC A W r rest
theorem RowC.map {A A' : Nat → Prop} {W W' : World} (h : ∀ x v, ExAt A W x v → ExAt A' W' x v) : ∀ {l : List Ex} {xs : List Value}, RowC A W l xs → RowC A' W' l xs
  | [], _, h1 => h1
  | x :: r, xs, ⟨k, t, u, a, n, c, rest, h1, h2, h3⟩ => ⟨k, t, u, a, n, c, rest, h1, h _ _ h2, RowC.map h h3⟩
theorem RowC.snoc {A : Nat → Prop} {W : World} {y : Ex} {k : Int} {t : Bs} {u : UseI} {a : Option Addr} {n c : Nat} (hy : ExAt A W y (exV k t u (.slice a n c))) : ∀ {l : List Ex} {xs : List Value}, RowC A W l xs → RowC A W (l ++ [y]) (xs ++ exL k t u (.slice a n c))
  | [], xs, h => by
    obtain rfl : xs = [] := h
    exact ⟨k, t, u, a, n, c, [], by simp, hy, rfl⟩
  | x :: r, xs, ⟨k1, t1, u1, a1, n1, c1, rest, h1, h2, h3⟩ => ⟨k1, t1, u1, a1, n1, c1, rest ++ exL k t u (.slice a n c), by rw [h1, List.append_assoc], h2, RowC.snoc hy h3⟩
theorem RowC.at {A : Nat → Prop} {W : World} : ∀ {l : List Ex} {xs : List Value} {b o : Nat}, RowC A W l xs → CellsAt W b o xs → RowAt A W l b o
  | [], _, _, _, _, _ => rowAt_nil
  | x :: r, xs, b, o, ⟨k1, t1, u1, a1, n1, c1, rest, h1, h2, h3⟩, hc => by
    subst h1
    rw [rowAt_cons]
    refine ⟨⟨_, h2, fun j v hv => hc j v ?_⟩, RowC.at h3 (fun j v hv => ?_)⟩
    · rw [List.getElem?_append_left (List.getElem?_eq_some_iff.1 hv).1]; exact hv
    · have := hc (10 + j) v (by rw [List.getElem?_append_right (by simp)]; simpa using hv)
      rw [show o + 10 + j = o + (10 + j) by omega]; exact this
theorem own_kids {A : Nat → Prop} {W : World} {base : Nat} {T : TypeId} {done : List Ex} {v : Value} {xs : List Value} (ho : W.ownsRow base T 10 v done.length xs) (hr : RowC A W done xs) (hA : ∀ z, base ≤ z → A z) : KidsAt A W done v := by
  rcases ho.2 with ⟨h1, h2⟩ | ⟨g, cap, cur, h1, h2, h3, h4, h5, h6, h7⟩
  · exact .inl ⟨List.eq_nil_of_length_eq_zero h2, none, 0, h1⟩
  · have hc := ho.cells (g := g) (by rw [h1]; rfl)
    refine .inr ⟨g, 0, cap, h1, h4, hA g h2, (Array.getElem?_eq_some_iff.1 h3).1, hr.at (fun j v hv => ?_)⟩
    have hadd : (⟨g, 0, none⟩ : Addr).add j = ⟨g, 0 + j, none⟩ := by unfold Addr.add; split <;> simp_all
    rw [← hadd]; exact hc j v hv
/-- theirs under way: the tree's box, the result's, and the new one's, with the kids so far. -/
structure TH (w W : World) (k : Int) (t : Bs) (u : UseI) (a : Option Addr) (n0 c : Nat) (done : List Ex) (v : Value) (xs : List Value) : Prop where
  below : Below w.heap.size w W
  bx : W.heap[w.heap.size]? = some (.cells (exL k t u (.slice a n0 c)).toArray 27)
  br : W.heap[w.heap.size + 1]? = some (.cells (exL 0 [] noUseI (.slice none 0 0)).toArray 34)
  bn : W.heap[w.heap.size + 2]? = some (.cells (exL k t u v).toArray 34)
  own : W.ownsRow (w.heap.size + 3) 34 10 v done.length xs
  rows : RowC (fun z => w.heap.size + 3 ≤ z ∧ some z ≠ v.ownBlock) W done xs
  lt : w.heap.size + 3 ≤ W.heap.size
theorem th_next {w W w3 w5 : World} {k k1 : Int} {t t1 : Bs} {u u1 : UseI} {a a1 : Option Addr} {n0 c n1 c1 g cap : Nat} {done : List Ex} {v : Value} {xs : List Value} {y : Ex} (h : TH w W k t u a n0 c done v xs) (hb : Below W.heap.size W w3) (hy : ExAt (From W.heap.size) w3 y (exV k1 t1 u1 (.slice a1 n1 c1)))
    (ho : w5.ownsRow (w.heap.size + 3) 34 10 (.slice (some ⟨g, 0, none⟩) (done.length + 1) cap) (done.length + 1) (xs ++ exL k1 t1 u1 (.slice a1 n1 c1))) (hg : (w3.alloc (.cells (exL k1 t1 u1 (.slice a1 n1 c1)).toArray 34)).grownBy w5 v.ownBlock) (hn : some g = v.ownBlock ∨ w3.heap.size + 1 ≤ g) :
    TH w (w5.setCell ⟨w.heap.size + 2, 9, none⟩ (.slice (some ⟨g, 0, none⟩) (done.length + 1) cap)) k t u a n0 c (done ++ [y]) (.slice (some ⟨g, 0, none⟩) (done.length + 1) cap) (xs ++ exL k1 t1 u1 (.slice a1 n1 c1)) := by
  have hA : Below w3.heap.size w3 (w3.alloc (.cells (exL k1 t1 u1 (.slice a1 n1 c1)).toArray 34)) := (Below.refl _ _).alloc (Nat.le_refl _) _
  have hlt := h.lt
  have hs1 := hb.size
  have hs2 := hA.size
  have hs3 := hg.size
  have hol : ∀ q, v.ownBlock = some q → w.heap.size + 3 ≤ q ∧ q < W.heap.size := fun q hq => h.own.lt q hq
  have ht : Turn (w.heap.size + 2) w5 (w5.setCell ⟨w.heap.size + 2, 9, none⟩ (.slice (some ⟨g, 0, none⟩) (done.length + 1) cap)) := (Turn.refl _ _).set
  have hs4 := ht.size
  have key3 : ∀ b, b < w3.heap.size → some b ≠ v.ownBlock → b ≠ w.heap.size + 2 → (w5.setCell ⟨w.heap.size + 2, 9, none⟩ (.slice (some ⟨g, 0, none⟩) (done.length + 1) cap)).heap[b]? = w3.heap[b]? := fun b h1 h2 h3 =>
    (ht.block b (by omega) (by intro e; cases e; exact h3 rfl)).trans ((hg.block b (by omega) h2).trans (hA.block b h1))
  have key : ∀ b, b < W.heap.size → some b ≠ v.ownBlock → b ≠ w.heap.size + 2 → (w5.setCell ⟨w.heap.size + 2, 9, none⟩ (.slice (some ⟨g, 0, none⟩) (done.length + 1) cap)).heap[b]? = W.heap[b]? := fun b h1 h2 h3 =>
    (key3 b (by omega) h2 h3).trans (hb.block b h1)
  have hne : ∀ b, b < w.heap.size + 3 → some b ≠ v.ownBlock := fun b hb2 e => by have := (hol b e.symm).1; omega
  have hbel := ((h.below.trans (hb.mono h.below.size)).trans (hA.mono (by omega))).grown hg (by omega) (fun q hq => by have := (hol q hq).1; omega)
  refine ⟨hbel.trans (ht.below (by omega) (by omega)), (key _ (by omega) (hne _ (by omega)) (by omega)).trans h.bx, (key _ (by omega) (hne _ (by omega)) (by omega)).trans h.br, ?_, ?_, ?_, by omega⟩
  · have h5 : w5.heap[w.heap.size + 2]? = _ := ((hg.block (w.heap.size + 2) (by omega) (hne _ (by omega))).trans ((hA.block _ (by omega)).trans (hb.block _ (by omega)))).trans h.bn
    exact row_set (j := 9) h5
  · rw [List.length_append]
    refine ho.kept ht (.inr ?_)
    have := (ho.lt g rfl).1
    intro e
    simp [Value.ownBlock] at e
    omega
  · refine RowC.snoc ?_ (h.rows.map (fun x v2 hx => ?_))
    · have h1 := exAt_lo (A' := fun z => W.heap.size ≤ z ∧ z < w3.heap.size) (fun z hz h => ⟨h, hz⟩) _ _ hy
      have h2 := exAt_keep (W' := w5.setCell ⟨w.heap.size + 2, 9, none⟩ (.slice (some ⟨g, 0, none⟩) (done.length + 1) cap)) (by omega) (fun b hb1 hb2 => key3 b hb2 (fun e => by have := (hol b e.symm).2; omega) (by omega)) _ _ h1
      refine exAt_lo (fun z _ hz => ⟨by omega, fun e => ?_⟩) _ _ h2
      have e2 : z = g := by simpa [Value.ownBlock] using e
      subst e2
      rcases hn with hn | hn
      · have := (hol z hn.symm).2; omega
      · omega
    · have h1 := exAt_lo (A' := fun z => (w.heap.size + 3 ≤ z ∧ some z ≠ v.ownBlock) ∧ z < W.heap.size) (fun z hz h => ⟨h, hz⟩) _ _ hx
      have h2 := exAt_keep (W' := w5.setCell ⟨w.heap.size + 2, 9, none⟩ (.slice (some ⟨g, 0, none⟩) (done.length + 1) cap)) (by omega) (fun b hb1 hb2 => key b hb2 hb1.1.2 (by omega)) _ _ h1
      refine exAt_lo (fun z _ hz => ⟨hz.1.1, fun e => ?_⟩) _ _ h2
      have e2 : z = g := by simpa [Value.ownBlock] using e
      subst e2
      rcases hn with hn | hn
      · exact hz.1.2 hn
      · omega
theorem th_box {w W w3 w5 : World} {k : Int} {t : Bs} {u : UseI} {a : Option Addr} {n0 c : Nat} {done : List Ex} {v : Value} {xs : List Value} {O : Obj} (h : TH w W k t u a n0 c done v xs) (hb : Below W.heap.size W w3) (hg : (w3.alloc O).grownBy w5 v.ownBlock) : w5.heap[w.heap.size + 2]? = some (.cells (exL k t u v).toArray 34) := by
  have hA : Below w3.heap.size w3 (w3.alloc O) := (Below.refl _ _).alloc (Nat.le_refl _) _
  have hlt := h.lt
  have hs1 := hb.size
  have hs2 := hA.size
  exact ((hg.block (w.heap.size + 2) (by omega) (fun e => by have := (h.own.lt _ e.symm).1; omega)).trans ((hA.block _ (by omega)).trans (hb.block _ (by omega)))).trans h.bn
theorem results_tenR {fn : Func} {W : World} {tmps : Array Value} {b slot : Nat} {v0 v1 v2 v3 v4 v5 v6 v7 v8 v9 : Value} (h : fn.results = #[.cell slot 34]) (ht : tmps.getD slot undef = .pointer (some ⟨b, 0, none⟩)) (hW : W.heap[b]? = some (.cells #[v0, v1, v2, v3, v4, v5, v6, v7, v8, v9] 34)) :
    (results fn tmps).run Tryz.prog W = .ok (.agg #[v0, v1, v2, v3, v4, v5, v6, v7, v8, v9]) W := by
  obtain ⟨y0, y1, y2, y3, y4, y5, y6, y7, y8, y9⟩ := ten_live hW
  have ht2 : tmps[slot]?.getD undef = .pointer (some ⟨b, 0, none⟩) := by rw [← ht]; simp
  simp [results, h, go_sem, ht2, y0, y1, y2, y3, y4, y5, y6, y7, y8, y9]
theorem th_end {w W : World} {k : Int} {t : Bs} {u : UseI} {a : Option Addr} {n0 c : Nat} {l : List Ex} {v : Value} {xs : List Value} (h : TH w W k t u a n0 c l v xs) :
    Below w.heap.size w (setTen W (w.heap.size + 1) k t u v) ∧ ExAt (From w.heap.size) (setTen W (w.heap.size + 1) k t u v) (.mk k t u l) (exV k t u v) ∧ (setTen W (w.heap.size + 1) k t u v).heap[w.heap.size + 1]? = some (.cells (exL k t u v).toArray 34) := by
  have h9 := setTen_turn W (w.heap.size + 1) k t u v
  have hk := own_kids (A := fun z => w.heap.size + 3 ≤ z) h.own (h.rows.map (fun x v2 hx => exAt_lo (fun z _ hz => hz.1) _ _ hx)) (fun z hz => hz)
  have hx : ExAt (fun z => w.heap.size + 3 ≤ z) W (.mk k t u l) (exV k t u v) := exAt_iff.2 ⟨v, rfl, hk⟩
  exact ⟨h.below.trans (h9.below (by omega) h.below.size), exAt_lo (fun z _ hz => by show w.heap.size ≤ z; omega) _ _ (hx.turn h9 (by omega)), setTen_row h.br⟩
theorem th_start (w : World) (k : Int) (t : Bs) (u : UseI) (a : Option Addr) (n0 c : Nat) : TH w (((w.alloc (.cells (exL k t u (.slice a n0 c)).toArray 27)).alloc (.cells (exL 0 [] noUseI (.slice none 0 0)).toArray 34)).alloc (.cells (exL k t u (.slice none 0 0)).toArray 34)) k t u a n0 c [] (.slice none 0 0) [] := by
  have h1 := two_new w (.cells (exL k t u (.slice a n0 c)).toArray 27) (.cells (exL 0 [] noUseI (.slice none 0 0)).toArray 34)
  have h2 := heap_alloc_new ((w.alloc (.cells (exL k t u (.slice a n0 c)).toArray 27)).alloc (.cells (exL 0 [] noUseI (.slice none 0 0)).toArray 34)) (.cells (exL k t u (.slice none 0 0)).toArray 34)
  rw [h1.size] at h2
  exact ⟨h1.below.alloc h1.below.size _, row_alloc h1.b1 _, row_alloc h1.b2 _, h2, World.ownsRow_nil _ _ _ _, rfl, by rw [World.size_alloc, h1.size]; omega⟩
theorem einfo : (Tryz.prog.info? 34).map (fun i => (i.zero, i.size, i.bytes)) = some (some (.agg #[.int .i64 0, .string ⟨#[]⟩, .int .i64 0, .int .i64 0, .string ⟨#[]⟩, .string ⟨#[]⟩, .string ⟨#[]⟩, .bool false, .bool false, .slice none 0 0]), 10, 120) := by kernel_rfl
theorem eslice : Tryz.prog.underlying 32 = some (.slice 34) := by kernel_rfl
theorem below_of_drew {W w' : World} (h : Below W.drew.heap.size W.drew w') : Below W.heap.size W w' := ⟨h.os, h.tape, h.output, h.size, h.block⟩
theorem take_get {l : List Ex} {i : Nat} {x : Ex} (h : l[i]? = some x) : l.take (i + 1) = l.take i ++ [x] := by
  rw [List.take_add_one, h]; rfl
set_option maxRecDepth 100000 in
set_option maxHeartbeats 8000000 in
theorem law_theirs_step (x : Ex) (hnar : narrowE x) (ih : ∀ x', x' ∈ x.kids → ∀ (v : Value) (W : World), ExAt (fun _ => True) W x' v → Calls Tryz.prog 15 #[v] W fun e w' => ∃ v', e = .returned v' ∧ Below W.heap.size W w' ∧ Hid (ExAt (From W.heap.size) w' x' v')) (v : Value) (w : World) (hx : ExAt (fun _ => True) w x v) :
    Calls Tryz.prog 15 #[v] w fun e w' => ∃ v', e = .returned v' ∧ Below w.heap.size w w' ∧ Hid (ExAt (From w.heap.size) w' x v') := by
  obtain ⟨k, t, u, l⟩ := x
  have HIH := Lib.hid ih
  have HLM := Lib.hid (show l.length ≤ 1000000 by unfold narrowE at hnar; exact hnar.1)
  obtain ⟨kv, rfl, hk⟩ := exAt_iff.1 hx
  have HKID := Lib.hid hk
  have hl : ∃ a c, kv = .slice a l.length c := by rcases hk with ⟨rfl, a, c, rfl⟩ | ⟨b, o, c, rfl, _⟩ <;> exact ⟨_, _, rfl⟩
  obtain ⟨a, c, rfl⟩ := hl
  have HTH := Lib.hid (show TH w (((w.alloc (.cells (exL k t u (.slice a l.length c)).toArray 27)).alloc (.cells #[.int .i64 0, .string ⟨#[]⟩, .int .i64 0, .int .i64 0, .string ⟨#[]⟩, .string ⟨#[]⟩, .string ⟨#[]⟩, .bool false, .bool false, .slice none 0 0] 34)).alloc (.cells (exL k t u (.slice none 0 0)).toArray 34)) k t u a l.length c [] (.slice none 0 0) [] from th_start w k t u a l.length c)
  clear ih hnar hx hk
  go_enter Tryz.func15, Tryz.ntmps15
  go_upto_region 2 with fail
  generalize (((w.alloc (.cells (exL k t u (.slice a l.length c)).toArray 27)).alloc (.cells #[.int .i64 0, .string ⟨#[]⟩, .int .i64 0, .int .i64 0, .string ⟨#[]⟩, .string ⟨#[]⟩, .string ⟨#[]⟩, .bool false, .bool false, .slice none 0 0] 34)).alloc (.cells (exL k t u (.slice none 0 0)).toArray 34)) = W0 at *
  obtain ⟨n, hn⟩ : ∃ n, l.length = n := ⟨_, rfl⟩
  rw [hn] at HKID HTH HLM
  rw [hn]
  have HN := Lib.hid hn
  have hn6 := HLM.out
  clear hn
  go_upto_region 3 with fail
  go_loopw [4] (fun iv wr => ∃ (i : Nat) (v : Value) (xs : List Value), i ≤ n ∧ iv = .int .i64 i ∧ Hid (TH w wr k t u a n c (l.take i) v xs)) (fun iv _ => n - (intOf iv).toNat)
  case atStart => exact ⟨0, _, _, Nat.zero_le _, rfl, HTH⟩
  case round =>
    clear HTH
    obtain ⟨i, v, xs, hi, rfl, HTH⟩ := hrel
    have HBB := Lib.hid HTH.out.below
    obtain ⟨-, -, -, -, -, -, -, -, -, p9⟩ := ten_cells HTH.out.bx
    have hdl : (l.take i).length = i := by rw [List.length_take, HN.out]; omega
    have HDL := Lib.hid hdl
    clear hdl
    by_cases hlt : i < n
    · have i1 : (i : Int) < (n : Int) := by omega
      have i0 : (0 : Int) ≤ (i : Int) := by omega
      obtain ⟨x, hx⟩ : ∃ x, l[i]? = some x := ⟨_, List.getElem?_eq_getElem (by rw [HN.out]; exact hlt)⟩
      have HTK := Lib.hid (take_get hx)
      have HMEM := Lib.hid (show x ∈ (Ex.mk k t u l).kids from List.mem_of_getElem? hx)
      obtain ⟨b, o, c', he, hlc, hbl, hrow⟩ := kids_row HKID.out hx
      obtain ⟨rfl, rfl⟩ : a = some ⟨b, o, none⟩ ∧ c = c' := by injection he with h1 h2 h3; exact ⟨h1, h3⟩
      obtain ⟨k1, t1, u1, a1, n1, c1, hk1⟩ := kid_get hrow hx HBB.out hbl
      have HCALL := Lib.hid (HIH.out x HMEM.out _ wr.drew (hk1.ex ⟨wr.drew, below_drewn (Below.refl _ _)⟩))
      have HKD := Lib.hid hk1
      clear hx hrow hbl he hk1 hlc
      go_upto_region 5 with fail
      have x9 : wr.drew.cell? ⟨w.heap.size, 9, none⟩ = some (.slice (some ⟨b, o, none⟩) n c) := p9
      have v9 : wr.drew.cell? ⟨w.heap.size + 2, 9, none⟩ = some v := cell_of_row _ _ 9 _ _ _ HTH.out.bn
      have y0 : wr.drew.cell? ⟨b, o + i * 10, none⟩ = _ := HKD.out.c0 ⟨wr.drew, below_drewn (Below.refl _ _)⟩
      have y1 : wr.drew.cell? ⟨b, o + i * 10 + 1, none⟩ = _ := HKD.out.c1 ⟨wr.drew, below_drewn (Below.refl _ _)⟩
      have y2 : wr.drew.cell? ⟨b, o + i * 10 + 2, none⟩ = _ := HKD.out.c2 ⟨wr.drew, below_drewn (Below.refl _ _)⟩
      have y3 : wr.drew.cell? ⟨b, o + i * 10 + 3, none⟩ = _ := HKD.out.c3 ⟨wr.drew, below_drewn (Below.refl _ _)⟩
      have y4 : wr.drew.cell? ⟨b, o + i * 10 + 4, none⟩ = _ := HKD.out.c4 ⟨wr.drew, below_drewn (Below.refl _ _)⟩
      have y5 : wr.drew.cell? ⟨b, o + i * 10 + 5, none⟩ = _ := HKD.out.c5 ⟨wr.drew, below_drewn (Below.refl _ _)⟩
      have y6 : wr.drew.cell? ⟨b, o + i * 10 + 6, none⟩ = _ := HKD.out.c6 ⟨wr.drew, below_drewn (Below.refl _ _)⟩
      have y7 : wr.drew.cell? ⟨b, o + i * 10 + 7, none⟩ = _ := HKD.out.c7 ⟨wr.drew, below_drewn (Below.refl _ _)⟩
      have y8 : wr.drew.cell? ⟨b, o + i * 10 + 8, none⟩ = _ := HKD.out.c8 ⟨wr.drew, below_drewn (Below.refl _ _)⟩
      have y9 : wr.drew.cell? ⟨b, o + i * 10 + 9, none⟩ = _ := HKD.out.c9 ⟨wr.drew, below_drewn (Below.refl _ _)⟩
      clear p9
      go_region_law
        (first
          | (refine step_appN (by rfl) _ _ 32 (by rfl) 34 (.agg #[.int .i64 0, .string ⟨#[]⟩, .int .i64 0, .int .i64 0, .string ⟨#[]⟩, .string ⟨#[]⟩, .string ⟨#[]⟩, .bool false, .bool false, .slice none 0 0]) 10 120 eslice einfo (by rfl) (by decide) (w.heap.size + 3) w3 v i xs (by rfl) HOW.out (exL k2 t2 u2 (.slice a2 n2 c2)) (by rfl) (by rfl) (by rfl) (by simp [Value.oneCell']) (by omega) (by omega) (by have := HTH.out.lt; have := HB3.out.size; omega) ?_; intro g cap w5 hown5 hg5 hn5; have hbx5 := th_box HTH.out HB3.out hg5; have hnx := th_next HTH.out HB3.out HY3.out (HDL.out.symm ▸ hown5) hg5 hn5; rw [HDL.out] at hnx; have HNX := Lib.hid hnx; clear hnx; have g9 := cell_of_row _ _ 9 _ _ _ hbx5; have f9 := frozen_of_row _ _ 9 _ _ hbx5; clear hown5 hg5 hn5 hbx5)
          | (go_simp; refine HCALL.out.mono ?_; rintro e w3 ⟨v2, rfl, hb3, hy3⟩; obtain ⟨k2, t2, u2, a2, n2, c2, rfl⟩ := hy3.out.ten; have HB3 := Lib.hid (show Below wr.heap.size wr w3 from below_of_drew hb3); have HY3 := Lib.hid (show ExAt (From wr.heap.size) w3 x _ from hy3.out); have q9 : w3.cell? ⟨w.heap.size + 2, 9, none⟩ = some v := (HB3.out.cell (p := ⟨w.heap.size + 2, 9, none⟩) (by have := HTH.out.lt; show w.heap.size + 2 < _; omega)).trans v9; have q9' : ∀ O, (w3.alloc O).cell? ⟨w.heap.size + 2, 9, none⟩ = some v := fun O => cell_alloc9 q9 O; have HOW := Lib.hid (own_below (HDL.out ▸ HTH.out.own) HB3.out); clear hb3 hy3))
      all_goals
        clear x9 v9 y0 y1 y2 y3 y4 y5 y6 y7 y8 y9 q9 q9' g9 f9
        go_wp2_with fail
        go_roundw
        case rel => exact ⟨i + 1, _, _, by omega, by go_num, by rw [HTK.out]; exact HNX⟩
        case measure => (simp [intOf] <;> omega)
    · obtain rfl : i = n := by omega
      have HF := Lib.hid (show TH w wr k t u a i c l v xs by have := HTH.out; rw [List.take_of_length_le (by rw [HN.out]; exact Nat.le_refl _)] at this; exact this)
      obtain ⟨ga, gm, gc, hgv⟩ : ∃ ga gm gc, v = .slice ga gm gc := by rcases HF.out.own.2 with ⟨h1, _⟩ | ⟨g, cap, cur, h1, _⟩ <;> exact ⟨_, _, _, h1⟩
      subst hgv
      have HE := Lib.hid (th_end HF.out)
      obtain ⟨p0, p1, p2, p3, p4, p5, p6, p7, p8, p9'⟩ := ten_live HF.out.bn
      obtain ⟨f0, f1, f2, f3, f4, f5, f6, f7, f8, f9⟩ := ten_frozen HF.out.br
      obtain ⟨g0, g1, g2, g3, g4, g5, g6, g7, g8, g9⟩ := ten_live HF.out.br
      clear hlt
      go_wp2_with fail
      clear p0 p1 p2 p3 p4 p5 p6 p7 p8 p9' f0 f1 f2 f3 f4 f5 f6 f7 f8 f9 g0 g1 g2 g3 g4 g5 g6 g7 g8 g9 p9
      refine bodyPost_ret (v := exV k t u (.slice ga gm gc)) ?_ rfl ⟨_, rfl, HE.out.1, Lib.hid HE.out.2.1⟩
      exact results_tenR (b := w.heap.size + 1) rfl rfl HE.out.2.2
theorem law_theirs (x : Ex) : narrowE x → ∀ (v : Value) (w : World), ExAt (fun _ => True) w x v → Calls Tryz.prog 15 #[v] w fun e w' => ∃ v', e = .returned v' ∧ Below w.heap.size w w' ∧ Hid (ExAt (From w.heap.size) w' x v') := by
  refine Ex.ind (P := fun x => narrowE x → ∀ (v : Value) (w : World), ExAt (fun _ => True) w x v → Calls Tryz.prog 15 #[v] w fun e w' => ∃ v', e = .returned v' ∧ Below w.heap.size w w' ∧ Hid (ExAt (From w.heap.size) w' x v')) (fun k t u l ih hn v w hx => ?_) x
  have hl : narrowL l := by unfold narrowE at hn; exact hn.2
  exact law_theirs_step (.mk k t u l) hn (fun x' hx' v W h1 => ih x' hx' (narrow_mem hl hx') v W h1) v w hx
end Go.Proofs.YtehdeclpighdeaaGreatDoor
