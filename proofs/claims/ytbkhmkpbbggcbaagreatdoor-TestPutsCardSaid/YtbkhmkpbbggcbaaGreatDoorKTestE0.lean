/- A use by value; worlds above another one; a kid's cells; one element, of however many cells, is appended to a slice that the call owns: its row lies where it lay, or in a new block; trees' cells, one behind the other. -/
import Derived.Test.YtbkhmkpbbggcbaaGreatDoorKTestMem
import Derived.OwnWalk
import Derived.Deep.RegionLaw
namespace Go.Proofs.YtbkhmkpbbggcbaaGreatDoor
open Go.RowKit
set_option linter.unusedVariables false
abbrev useIV (u : UseI) : Value := .agg #[.int .i64 u.src, .int .i64 u.till, .string ⟨u.name.toArray⟩, .string ⟨u.key.toArray⟩, .string ⟨u.dft.toArray⟩, .bool u.hk, .bool u.hd]
structure BW (W : World) where
  val : World
  below : Below W.heap.size W val
theorem rowAt_get {A : Nat → Prop} {W : World} : ∀ {l : List Ex} {b o i : Nat} {x : Ex}, RowAt A W l b o → l[i]? = some x → ∃ cs, ExAt A W x (.agg cs) ∧ CellsAt W b (o + i * 10) cs.toList
  | [], _, _, _, _, _, h => by simp at h
  | y :: r, b, o, 0, x, h, hx => by
    simp at hx; subst hx
    rw [rowAt_cons] at h
    exact h.1
  | y :: r, b, o, i + 1, x, h, hx => by
    rw [rowAt_cons] at h
    obtain ⟨cs, h1, h2⟩ := rowAt_get h.2 (by simpa using hx)
    exact ⟨cs, h1, by rw [show o + (i + 1) * 10 = o + 10 + i * 10 by omega]; exact h2⟩
theorem cells_ten {W : World} {b o : Nat} {k : Int} {t : Bs} {u : UseI} {kv : Value} (h : CellsAt W b o (exL k t u kv)) :
    W.cell? ⟨b, o, none⟩ = some (.int .i64 k) ∧ W.cell? ⟨b, o + 1, none⟩ = some (.string ⟨t.toArray⟩) ∧ W.cell? ⟨b, o + 2, none⟩ = some (.int .i64 u.src) ∧ W.cell? ⟨b, o + 3, none⟩ = some (.int .i64 u.till) ∧ W.cell? ⟨b, o + 4, none⟩ = some (.string ⟨u.name.toArray⟩) ∧ W.cell? ⟨b, o + 5, none⟩ = some (.string ⟨u.key.toArray⟩) ∧ W.cell? ⟨b, o + 6, none⟩ = some (.string ⟨u.dft.toArray⟩) ∧ W.cell? ⟨b, o + 7, none⟩ = some (.bool u.hk) ∧ W.cell? ⟨b, o + 8, none⟩ = some (.bool u.hd) ∧ W.cell? ⟨b, o + 9, none⟩ = some kv :=
  ⟨h 0 _ rfl, h 1 _ rfl, h 2 _ rfl, h 3 _ rfl, h 4 _ rfl, h 5 _ rfl, h 6 _ rfl, h 7 _ rfl, h 8 _ rfl, h 9 _ rfl⟩
theorem BW.next {W w' : World} (B : BW W) (hb : Below B.val.heap.size B.val w') : Below W.heap.size W w' := B.below.trans (hb.mono B.below.size)
structure KidAt (W : World) (b o : Nat) (x : Ex) (k : Int) (t : Bs) (u : UseI) (a : Option Addr) (n c : Nat) : Prop where
  ex : ∀ B : BW W, ExAt (fun _ => True) B.val x (exV k t u (.slice a n c))
  c0 : ∀ B : BW W, B.val.cell? ⟨b, o, none⟩ = some (.int .i64 k)
  c1 : ∀ B : BW W, B.val.cell? ⟨b, o + 1, none⟩ = some (.string ⟨t.toArray⟩)
  c2 : ∀ B : BW W, B.val.cell? ⟨b, o + 2, none⟩ = some (.int .i64 u.src)
  c3 : ∀ B : BW W, B.val.cell? ⟨b, o + 3, none⟩ = some (.int .i64 u.till)
  c4 : ∀ B : BW W, B.val.cell? ⟨b, o + 4, none⟩ = some (.string ⟨u.name.toArray⟩)
  c5 : ∀ B : BW W, B.val.cell? ⟨b, o + 5, none⟩ = some (.string ⟨u.key.toArray⟩)
  c6 : ∀ B : BW W, B.val.cell? ⟨b, o + 6, none⟩ = some (.string ⟨u.dft.toArray⟩)
  c7 : ∀ B : BW W, B.val.cell? ⟨b, o + 7, none⟩ = some (.bool u.hk)
  c8 : ∀ B : BW W, B.val.cell? ⟨b, o + 8, none⟩ = some (.bool u.hd)
  c9 : ∀ B : BW W, B.val.cell? ⟨b, o + 9, none⟩ = some (.slice a n c)
theorem ExAt.any {A : Nat → Prop} {W : World} {x : Ex} {v : Value} (h : ExAt A W x v) : ExAt (fun _ => True) W x v := exAt_lo (fun _ _ _ => trivial) _ _ h
theorem kid_get {A : Nat → Prop} {w W : World} {l : List Ex} {b o i : Nat} {x : Ex} (h : RowAt A w l b o) (hx : l[i]? = some x) (hb : Below w.heap.size w W) (hl : b < w.heap.size) :
    ∃ k t u a n c, KidAt W b (o + i * 10) x k t u a n c := by
  obtain ⟨cs, h1, h2⟩ := rowAt_get h hx
  obtain ⟨k, t, u, a, n, c, h3⟩ := h1.ten
  obtain rfl : cs = (exL k t u (.slice a n c)).toArray := by injection h3
  have h4 : ∀ B : BW W, CellsAt B.val b (o + i * 10) (exL k t u (.slice a n c)) := fun B => h2.keep ((B.below.block b (Nat.lt_of_lt_of_le hl hb.size)).trans (hb.block b hl))
  exact ⟨k, t, u, a, n, c, fun B => ((h1.any).next hb).next B.below, fun B => (cells_ten (h4 B)).1, fun B => (cells_ten (h4 B)).2.1, fun B => (cells_ten (h4 B)).2.2.1, fun B => (cells_ten (h4 B)).2.2.2.1, fun B => (cells_ten (h4 B)).2.2.2.2.1, fun B => (cells_ten (h4 B)).2.2.2.2.2.1, fun B => (cells_ten (h4 B)).2.2.2.2.2.2.1, fun B => (cells_ten (h4 B)).2.2.2.2.2.2.2.1, fun B => (cells_ten (h4 B)).2.2.2.2.2.2.2.2.1, fun B => (cells_ten (h4 B)).2.2.2.2.2.2.2.2.2⟩
theorem kids_row {A : Nat → Prop} {W : World} {l : List Ex} {kv : Value} {i : Nat} {x : Ex} (h : KidsAt A W l kv) (hx : l[i]? = some x) : ∃ b o c, kv = .slice (some ⟨b, o, none⟩) l.length c ∧ l.length ≤ c ∧ b < W.heap.size ∧ RowAt A W l b o := by
  rcases h with ⟨rfl, _⟩ | ⟨b, o, c, h1, h2, h3, h4, h5⟩
  · simp at hx
  · exact ⟨b, o, c, h1, h2, h4, h5⟩
theorem sameE_mk {k k2 : Int} {t t2 : Bs} {u u2 : UseI} {l l2 : List Ex} : sameE (.mk k t u l) (.mk k2 t2 u2 l2) = (decide (k = k2) && t == t2 && useSame u u2 && sameL l l2) := by rw [sameE]
theorem ten_two {w W : World} {k k2 : Int} {t t2 : Bs} {u u2 : UseI} {kv kv2 : Value} {T : TypeId} : Two w ((w.alloc (.cells (exL k t u kv).toArray T)).alloc (.cells (exL k2 t2 u2 kv2).toArray T)) (.cells (exL k t u kv).toArray T) (.cells (exL k2 t2 u2 kv2).toArray T) := two_new w _ _
theorem below_of_drew {W w' : World} (h : Below W.drew.heap.size W.drew w') : Below W.heap.size W w' := ⟨h.os, h.tape, h.output, h.size, h.block⟩
theorem take_get {l : List Ex} {i : Nat} {x : Ex} (h : l[i]? = some x) : l.take (i + 1) = l.take i ++ [x] := by
  rw [List.take_add_one, h]; rfl
end Go.Proofs.YtbkhmkpbbggcbaaGreatDoor
namespace Go.Proofs.YtbkhmkpbbggcbaaGreatDoor
open Go.RowKit
set_option linter.unusedVariables false
theorem run_append_new {P : Program} (w : World) (base : Nat) (t ty e : TypeId) (i : TypeInfo) (z : Value) (size bytes : Nat) (ht : P.underlying t = some (.slice e)) (hi : P.info? e = some i) (hz : i.zero = some z)
    (hsize : i.size = size) (hby : i.bytes = bytes) (hzs : z.cells.size = size) (hsz : 0 < size)
    (v : Value) (n : Nat) (xs : List Value) (hown : w.ownsRow base e size v n xs)
    (a : Addr) (c : Nat) (news : List Value) (hl : news.length = 1 * size) (hnews : ∀ j u, news[j]? = some u → w.cell? (a.add j) = some u) (h1 : ∀ u ∈ news, u.oneCell' = true)
    (h63 : n + 1 ≤ maxLen) (hbytes : (n + 1) * bytes ≤ 140737488355328) (hbase : base ≤ w.heap.size) :
    ∃ v' w', (Builtin.append_ #[t, t] ty #[v, .slice (some a) 1 c]).run P w = .ok v' w' ∧ w'.ownsRow base e size v' (n + 1) (xs ++ news) ∧ w.grownBy w' v.ownBlock ∧ (v'.ownBlock = v.ownBlock ∨ ∃ k, v'.ownBlock = some k ∧ w.heap.size ≤ k) := by
  obtain ⟨v', w', hr, h2, h3, h4⟩ := run_append_own (P := P) w base t ty e i z size bytes ht hi hz hsize hby hzs hsz v n xs hown a 1 c news hl hnews h1 h63 hbytes hbase
  refine ⟨v', w', hr, h2, h3, ?_⟩
  rcases hown.2 with ⟨rfl, rfl⟩ | ⟨g, cap, cur, rfl, hbg, hg, hnc, hcm, hcs, htake⟩
  · have hx : xs = [] := List.eq_nil_of_length_eq_zero (by simpa using hown.1)
    subst hx
    obtain ⟨v2, w2, hr2, h5, _, _⟩ := run_append_own (P := P) w w.heap.size t ty e i z size bytes ht hi hz hsize hby hzs hsz (.slice none 0 0) 0 [] (World.ownsRow_nil w _ _ _) a 1 c news hl hnews h1 h63 hbytes (Nat.le_refl _)
    rw [hr] at hr2
    injection hr2 with e1 e2
    subst e1 e2
    obtain ⟨g, cap, rfl⟩ := own_succ h5
    exact .inr ⟨g, rfl, (h5.lt g rfl).1⟩
  · subst hsize
    subst hby
    by_cases hroom : n + 1 ≤ cap
    · have hfit : n * i.size + news.length ≤ cur.size := by rw [hl, hcs, ← Nat.add_mul]; exact Nat.mul_le_mul_right _ hroom
      have hr2 := run_append_room (P := P) w t ty e i ht hi g n cap cur hg a 1 c news hl hnews h1 hroom hfit
      rw [hr] at hr2
      injection hr2 with e1 e2
      subst e1
      exact .inl rfl
    · have holds : ∀ j u, xs[j]? = some u → w.cell? ((⟨g, 0, none⟩ : Addr).add j) = some u := hown.cells (g := g) rfl
      have hr2 := run_append_grow (P := P) w t ty e i z ht hi hz ⟨g, 0, none⟩ n cap xs hown.1 holds a 1 c news hl hnews (by omega) (by simp only [maxLen] at h63; omega) (growslice_fits (by omega) hbytes)
      rw [hr] at hr2
      injection hr2 with e1 e2
      subst e1
      exact .inr ⟨w.heap.size, rfl, Nat.le_refl _⟩
theorem step_appN {P : Program} {ops : Array Oper} {o : Oper} {a : Act} {K : Act → World → Prop} {Q : Exit → Act → World → Prop} {E : Prop} {W : World} (hgd : o.guard = none) (s x : Operand) (t : TypeId)
    (ho : o.op = .call { callee := .builtin .append, args := #[s, x], argTypes := #[t, t] })
    (e : TypeId) (z : Value) (size bytes : Nat) (ht : P.underlying t = some (.slice e)) (hinfo : (P.info? e).map (fun i => (i.zero, i.size, i.bytes)) = some (some z, size, bytes))
    (hzs : z.cells.size = size) (hsz : 0 < size) (base : Nat) (w : World)
    (v : Value) (n : Nat) (xs : List Value) (hs : a.eval s = v) (hown : w.ownsRow base e size v n xs)
    (us : List Value) (hw : W = w.alloc (.cells us.toArray e)) (hl : us.length = size) (hx : a.eval x = .slice (some ⟨w.heap.size, 0, none⟩) 1 1) (h1 : ∀ u ∈ us, u.oneCell' = true)
    (hbytes : (n + 1) * bytes ≤ 140737488355328) (h63 : n + 1 ≤ 140737488355328) (hbase : base ≤ w.heap.size)
    (h : ∀ g cap w', w'.ownsRow base e size (.slice (some ⟨g, 0, none⟩) (n + 1) cap) (n + 1) (xs ++ us) → (w.alloc (.cells us.toArray e)).grownBy w' v.ownBlock → (some g = v.ownBlock ∨ w.heap.size + 1 ≤ g) →
      K (a.put o.dst (.slice (some ⟨g, 0, none⟩) (n + 1) cap)) w') :
    if Region.wanted o (yielded ops a.tmps) = true then Oper.wp P o a W K Q else E := by
  subst hw
  rw [if_pos (show Region.wanted o (yielded ops a.tmps) = true by simp [Region.wanted, hgd])]
  obtain ⟨i, hi, hz, hsize, hby⟩ := info_parts hinfo
  obtain ⟨v', w', hr, h2, h3, h4⟩ := run_append_new (P := P) (w.alloc (.cells us.toArray e)) base t o.type e i z size bytes ht hi hz hsize hby hzs hsz v n xs (hown.alloc _) ⟨w.heap.size, 0, none⟩ 1 us (by omega) (by
    intro j u hj
    have hj' : us.toArray[j]? = some u := by simpa using hj
    have hn : (w.alloc (.cells us.toArray e)).heap[w.heap.size]? = some (.cells us.toArray e) := heap_alloc_new w _
    have : ((⟨w.heap.size, 0, none⟩ : Addr).add j) = ⟨w.heap.size, j, none⟩ := by
      unfold Addr.add; by_cases h0 : j = 0
      · subst h0; rfl
      · rw [if_neg h0]; simp
    rw [this]
    unfold World.cell?
    rw [show (w.alloc (.cells us.toArray e)).heap[(⟨w.heap.size, j, none⟩ : Addr).block]? = _ from hn]
    simpa using hj') h1 (by unfold maxLen; omega) hbytes (by simp; omega)
  unfold Oper.wp execOp
  simp only [ho, resolve, invoke, builtin, Sem.run_bind, Sem.run_pure, Result.andThen_ok, List.map_toArray, List.map_cons, List.map_nil, hs, hx, hr]
  obtain ⟨g, cap, rfl⟩ := own_succ h2
  refine h g cap w' h2 h3 ?_
  rcases h4 with h4 | ⟨k, h4, h5⟩
  · exact .inl h4
  · right
    have : g = k := by simpa [Value.ownBlock] using h4
    subst this
    rw [World.size_alloc] at h5; omega
end Go.Proofs.YtbkhmkpbbggcbaaGreatDoor
namespace Go.Proofs.YtbkhmkpbbggcbaaGreatDoor
open Go.RowKit
set_option linter.unusedVariables false
def RowC (A : Nat → Prop) (W : World) : List Ex → List Value → Prop
  | [], xs => xs = []
  | x :: r, xs => ∃ k t u a n c rest, xs = exL k t u (.slice a n c) ++ rest ∧ ExAt A W x (exV k t u (.slice a n c)) ∧ RowC A W r rest
theorem RowC.map {A A' : Nat → Prop} {W W' : World} (h : ∀ x v, ExAt A W x v → ExAt A' W' x v) : ∀ {l : List Ex} {xs : List Value}, RowC A W l xs → RowC A' W' l xs
  | [], _, h1 => h1
  | x :: r, xs, ⟨k, t, u, a, n, c, rest, h1, h2, h3⟩ => ⟨k, t, u, a, n, c, rest, h1, h _ _ h2, RowC.map h h3⟩
theorem RowC.snoc {A : Nat → Prop} {W : World} {y : Ex} {k : Int} {t : Bs} {u : UseI} {a : Option Addr} {n c : Nat} (hy : ExAt A W y (exV k t u (.slice a n c))) : ∀ {l : List Ex} {xs : List Value}, RowC A W l xs → RowC A W (l ++ [y]) (xs ++ exL k t u (.slice a n c))
  | [], xs, h => by
    obtain rfl : xs = [] := h
    exact ⟨k, t, u, a, n, c, [], by simp, hy, rfl⟩
  | x :: r, xs, ⟨k1, t1, u1, a1, n1, c1, rest, h1, h2, h3⟩ => ⟨k1, t1, u1, a1, n1, c1, rest ++ exL k t u (.slice a n c), by rw [h1, List.append_assoc], h2, RowC.snoc hy h3⟩
theorem RowC.at {A : Nat → Prop} {W : World} : ∀ {l : List Ex} {xs : List Value} {b o : Nat}, RowC A W l xs → CellsAt W b o xs → RowAt A W l b o
  | [], _, _, _, _, _ => rowAt_nil
  | x :: r, xs, b, o, ⟨k1, t1, u1, a1, n1, c1, rest, h1, h2, h3⟩, hc => by
    subst h1
    rw [rowAt_cons]
    refine ⟨⟨_, h2, fun j v hv => hc j v ?_⟩, RowC.at h3 (fun j v hv => ?_)⟩
    · rw [List.getElem?_append_left (List.getElem?_eq_some_iff.1 hv).1]; exact hv
    · have := hc (10 + j) v (by rw [List.getElem?_append_right (by simp)]; simpa using hv)
      rw [show o + 10 + j = o + (10 + j) by omega]; exact this
theorem own_kids {A : Nat → Prop} {W : World} {base : Nat} {T : TypeId} {done : List Ex} {v : Value} {xs : List Value} (ho : W.ownsRow base T 10 v done.length xs) (hr : RowC A W done xs) (hA : ∀ z, base ≤ z → A z) : KidsAt A W done v := by
  rcases ho.2 with ⟨h1, h2⟩ | ⟨g, cap, cur, h1, h2, h3, h4, h5, h6, h7⟩
  · exact .inl ⟨List.eq_nil_of_length_eq_zero h2, none, 0, h1⟩
  · have hc := ho.cells (g := g) (by rw [h1]; rfl)
    refine .inr ⟨g, 0, cap, h1, h4, hA g h2, (Array.getElem?_eq_some_iff.1 h3).1, hr.at (fun j v hv => ?_)⟩
    have hadd : (⟨g, 0, none⟩ : Addr).add j = ⟨g, 0 + j, none⟩ := by unfold Addr.add; split <;> simp_all
    rw [← hadd]; exact hc j v hv
theorem kids_next {w W : World} {l : List Ex} {kv : Value} (h : KidsAt (fun _ => True) w l kv) (hb : Below w.heap.size w W) : KidsAt (fun _ => True) W l kv := by
  have h1 : ExAt (fun _ => True) w (.mk 0 [] noUseI l) (exV 0 [] noUseI kv) := exAt_iff.2 ⟨kv, rfl, h⟩
  obtain ⟨kv2, h2, h3⟩ := exAt_iff.1 (h1.next hb)
  have : kv2 = kv := by
    simp only [exV, Value.agg.injEq, Array.mk.injEq, List.cons.injEq] at h2
    simp_all
  rw [← this]; exact h3
end Go.Proofs.YtbkhmkpbbggcbaaGreatDoor
