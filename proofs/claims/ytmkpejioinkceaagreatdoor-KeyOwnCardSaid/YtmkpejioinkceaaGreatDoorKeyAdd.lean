/- One element appended to a slice that the call owns: the block that it lies in then is the old one or a new one. The walk of the closure that adds one more address's key: a map of counts, and a list. -/
import Derived.Test.YtmkpejioinkceaaGreatDoorBase
import Derived.Test.YtmkpejioinkceaaGreatDoorKeyW
import Derived.Test.YtmkpejioinkceaaGreatDoorUriCheck
import Derived.Maps.OwnOps
import Derived.Maps.OwnSet
import Derived.Maps.Views
import Derived.StringKeys
import Derived.Deep.RegionHeld3
namespace Go.Proofs.YtmkpejioinkceaaGreatDoor
open Go.RowKit
set_option linter.unusedVariables false

theorem wpList_app3 {P : Program} {ops : Array Oper} {rest : List Oper} {o : Oper} {a : Act} {Q : Exit → Act → World → Prop} {W : World} (hgd : o.guard = none) (s x : Operand) (t : TypeId)
    (ho : o.op = .call { callee := .builtin .append, args := #[s, x], argTypes := #[t, t] })
    (e : TypeId) (z : Value) (size bytes : Nat) (ht : P.underlying t = some (.slice e)) (hinfo : (P.info? e).map (fun i => (i.zero, i.size, i.bytes)) = some (some z, size, bytes))
    (hzs : z.cells.size = size) (hsz : 0 < size) (base : Nat) (w : World)
    (v : Value) (n : Nat) (xs : List Value) (hs : a.eval s = v) (hown : w.ownsRow base e size v n xs)
    (us : List Value) (hw : W = w.alloc (.cells us.toArray e)) (hl : us.length = size) (hx : a.eval x = .slice (some ⟨w.heap.size, 0, none⟩) 1 1) (h1 : ∀ u ∈ us, u.oneCell' = true)
    (hbytes : (n + 1) * bytes ≤ 140737488355328) (h63 : n + 1 ≤ 140737488355328) (hbase : base ≤ w.heap.size)
    (h : ∀ g cap w', w'.ownsRow base e size (.slice (some ⟨g, 0, none⟩) (n + 1) cap) (n + 1) (xs ++ us) → (w.alloc (.cells us.toArray e)).grownBy w' v.ownBlock → (v.ownBlock = some g ∨ w.heap.size < g) →
      wpList P ops Q rest (a.put o.dst (.slice (some ⟨g, 0, none⟩) (n + 1) cap)) w') :
    wpList P ops Q (o :: rest) a W := by
  subst hw
  obtain ⟨i, hi, hz, hsize, hby⟩ := info_parts hinfo
  subst hsize
  subst hby
  have hcells : ∀ (j : Nat) u, us[j]? = some u → (w.alloc (.cells us.toArray e)).cell? ((⟨w.heap.size, 0, none⟩ : Addr).add j) = some u := by
    intro j u hj
    have hj' : us.toArray[j]? = some u := by simpa using hj
    have hn : (w.alloc (.cells us.toArray e)).heap[w.heap.size]? = some (.cells us.toArray e) := heap_alloc_new w _
    have : ((⟨w.heap.size, 0, none⟩ : Addr).add j) = ⟨w.heap.size, j, none⟩ := by
      unfold Addr.add; by_cases h0 : j = 0
      · subst h0; rfl
      · rw [if_neg h0]; simp
    rw [this]
    unfold World.cell?
    rw [show (w.alloc (.cells us.toArray e)).heap[(⟨w.heap.size, j, none⟩ : Addr).block]? = _ from hn]
    simpa using hj'
  have hl1 : us.length = 1 * i.size := by omega
  obtain ⟨v', w', hr, h2, h3, _⟩ := run_append_own (P := P) (w.alloc (.cells us.toArray e)) base t o.type e i z _ _ ht hi hz rfl rfl hzs hsz v n xs (hown.alloc _) ⟨w.heap.size, 0, none⟩ 1 1 us hl1 hcells h1
    (by unfold maxLen; omega) hbytes (by simp; omega)
  have hfr : ∀ g, v'.ownBlock = some g → v.ownBlock = some g ∨ w.heap.size < g := by
    intro k hk
    have hown' := hown.alloc (.cells us.toArray e)
    rcases hown'.2 with ⟨rfl, rfl⟩ | ⟨g, cap, cur, rfl, hbg, hg, hnc, hcm, hcs, htake⟩
    · have hr2 := run_append_nil (P := P) (w.alloc (.cells us.toArray e)) t o.type e i z ht hi hz ⟨w.heap.size, 0, none⟩ 1 1 us hl1 hcells (by omega) (by omega) (by omega)
      rw [hr] at hr2
      injection hr2 with e1 e2
      subst e1
      simp [Value.ownBlock] at hk
      exact .inr (by omega)
    · by_cases hroom : n + 1 ≤ cap
      · have hr2 := run_append_room (P := P) (w.alloc (.cells us.toArray e)) t o.type e i ht hi g n cap cur hg ⟨w.heap.size, 0, none⟩ 1 1 us hl1 hcells h1 hroom (by rw [hl1, hcs, ← Nat.add_mul]; exact Nat.mul_le_mul_right _ hroom)
        rw [hr] at hr2
        injection hr2 with e1 e2
        subst e1
        exact .inl hk
      · have hr2 := run_append_grow (P := P) (w.alloc (.cells us.toArray e)) t o.type e i z ht hi hz ⟨g, 0, none⟩ n cap xs hown'.1 (hown'.cells (g := g) rfl) ⟨w.heap.size, 0, none⟩ 1 1 us hl1 hcells (by omega) (by omega) (growslice_fits (by omega) hbytes)
        rw [hr] at hr2
        injection hr2 with e1 e2
        subst e1
        simp [Value.ownBlock] at hk
        exact .inr (by omega)
  obtain ⟨g, cap, rfl⟩ := own_succ h2
  refine wpList_plain hgd fun K hK => ?_
  unfold Oper.wp execOp
  simp only [ho, resolve, invoke, builtin, Sem.run_bind, Sem.run_pure, Result.andThen_ok, List.map_toArray, List.map_cons, List.map_nil, hs, hx, hr]
  exact hK _ _ (h g cap w' h2 h3 (hfr g rfl))
end Go.Proofs.YtmkpejioinkceaaGreatDoor

namespace Go.Proofs.YtmkpejioinkceaaGreatDoor
open Go.RowKit Go.WideMaps Go.Maps
set_option linter.unusedVariables false

theorem u51 : Tryz.prog.underlying 51 = some (.map 9 3) := by kernel_rfl
theorem u3i : Tryz.prog.underlying 3 = some (.int .i64) := by kernel_rfl
theorem strKeyed : Keyed Tryz.prog 9 := string_keyed u9
theorem zeroInt (w : World) : (zeroValue 3).run Tryz.prog w = .ok (.int .i64 0) w := by kernel_rfl
theorem key_lit (k : Bs) (h : k.length ≤ 100000) : keyOf Tryz.prog 9 (.string ⟨k.toArray⟩) = some (.string k) :=
  keyOf_string_mk u9 (by show k.length ≤ _; unfold maxLen; omega)

/-- The map's block counts how often each key was met. -/
def Cnt (W : World) (mb : Nat) (seen : List Bs) : Prop := ∃ n, ∃ D : DataW Unit, W.ownsMap Tryz.prog 9 (plainElem Tryz.prog 3) mb n D ∧ n ≤ seen.length ∧ ∀ k : Bs, D.atKey (.string k) (.lit (.int .i64 0)) = .lit (.int .i64 (seen.count k : Int))
theorem Cnt.start (W : World) : Cnt (W.alloc (.map #[] 0)) W.heap.size [] :=
  ⟨0, .map [], World.ownsMap_made _ _ _ _, Nat.le_refl _, fun k => rfl⟩
theorem Cnt.lt {W : World} {mb : Nat} {seen : List Bs} (h : Cnt W mb seen) : mb < W.heap.size := by
  obtain ⟨n, D, h1, _⟩ := h; exact h1.lt
theorem Cnt.next {W W' : World} {mb : Nat} {seen : List Bs} (h : Cnt W mb seen) (hb : Below W.heap.size W W') : Cnt W' mb seen := by
  obtain ⟨n, D, ⟨es, clock, h1, h2⟩, h3⟩ := h
  exact ⟨n, D, ⟨es, clock, (hb.block _ (Array.getElem?_eq_some_iff.1 h1).1).trans h1, h2⟩, h3⟩
theorem Cnt.grown {W W' : World} {mb : Nat} {row : Option Nat} {seen : List Bs} (h : Cnt W mb seen) (hg : W.grownBy W' row) (hne : some mb ≠ row) : Cnt W' mb seen := by
  obtain ⟨n, D, h1, h3⟩ := h
  exact ⟨n, D, h1.kept hg hne, h3⟩
theorem Cnt.set {W : World} {mb b j : Nat} {v : Value} {seen : List Bs} (h : Cnt W mb seen) (hne : mb ≠ b) : Cnt (W.setCell ⟨b, j, none⟩ v) mb seen := by
  obtain ⟨n, D, h1, h3⟩ := h
  exact ⟨n, D, h1.setCell (a := ⟨b, j, none⟩) hne v, h3⟩
set_option maxRecDepth 100000 in
theorem Cnt.look {W : World} {mb : Nat} {seen : List Bs} (h : Cnt W mb seen) (k : Bs) (hk : k.length ≤ 100000) :
    (Instr.lookup 51 (.map (some mb)) (.string ⟨k.toArray⟩) false).run Tryz.prog W = .ok (.int .i64 (seen.count k : Int)) W := by
  obtain ⟨n, D, h1, h2, h3⟩ := h
  obtain ⟨c, hrun, hat, _⟩ := h1.lookup_int strKeyed u51 u3i (zeroInt W) (key_lit k hk)
  rw [h3 k] at hat
  have hc : (seen.count k : Int) = c := by
    have := DataW.lit.inj hat
    exact (Lit.int.inj this).2
  rw [hc]; exact hrun
theorem count_snoc (seen : List Bs) (k j : Bs) : (seen ++ [k]).count j = seen.count j + if j = k then 1 else 0 := by
  rw [List.count_append]
  congr 1
  by_cases h : j = k
  · subst h; simp
  · rw [if_neg h]; simp [Ne.symm h]
set_option maxRecDepth 100000 in
theorem Cnt.put {W' : World} {mb n : Nat} {seen : List Bs} {D : DataW Unit} {k : Bs} (hn : n ≤ seen.length) (hD : ∀ j : Bs, D.atKey (.string j) (.lit (.int .i64 0)) = .lit (.int .i64 (seen.count j : Int))) (hM : IsMap D)
    (h : W'.ownsMap Tryz.prog 9 (plainElem Tryz.prog 3) mb (n + 1) (D.put (.string k) (.lit (.int .i64 ((seen.count k : Int) + 1))))) : Cnt W' mb (seen ++ [k]) := by
  refine ⟨n + 1, _, h, by simp; omega, fun j => ?_⟩
  rw [count_snoc]
  by_cases hj : j = k
  · subst hj
    rw [if_pos rfl, atKey_put_same hM (by trivial)]
    push_cast; rfl
  · rw [if_neg hj, atKey_put_other (by intro e; injection e with e; exact hj e), hD j]; rfl

/-- The list that is owned, past a store into a block that lies before its own. -/
theorem row_setc {W : World} {base b j : Nat} {e : TypeId} {size n : Nat} {v x : Value} {xs : List Value} (h : W.ownsRow base e size v n xs) (hb : b < base) : (W.setCell ⟨b, j, none⟩ x).ownsRow base e size v n xs := by
  have hg : W.grownBy (W.setCell ⟨b, j, none⟩ x) (some b) := ⟨rfl, rfl, rfl, by rw [show (W.setCell ⟨b, j, none⟩ x).heap.size = W.heap.size by simp [World.setCell]]; exact Nat.le_refl _, fun k _ hk => Below.heap_setCell W ⟨b, j, none⟩ x k (fun e => hk (by rw [e]))⟩
  refine h.kept hg (.inr fun e => ?_)
  have := (h.lt b e).1; omega

/-- What Gone and its closure keep: the address's box, the map's variable and block, the list's variable; and blocks that nobody writes. -/
structure GI (w W : World) (u : U) (bu mb bm bl : Nat) (K : List (Nat × Obj)) (st : List Bs × List Bs) : Prop where
  below : Below w.heap.size w W
  box : UBx W bu u
  var : Box1 W bm (.map (some mb)) 51
  cnt : Cnt W mb st.1
  lst : ∃ v, Box1 W bl v 34 ∧ W.ownsRow (bl + 1) 9 1 v st.2.length (scells st.2) ∧ ∀ p ∈ K, v.ownBlock ≠ some p.1
  kept : ∀ p ∈ K, W.heap[p.1]? = some p.2 ∧ p.1 ≠ mb ∧ p.1 ≠ bl
/-- In which order the blocks lie. -/
structure Ord4 (w : World) (bu mb bm bl : Nat) : Prop where
  a : w.heap.size ≤ bu
  b : bu < mb
  c : mb < bm
  d : bm < bl
theorem lt_of_at {W : World} {b : Nat} {o : Obj} (h : W.heap[b]? = some o) : b < W.heap.size := (Array.getElem?_eq_some_iff.1 h).1
theorem GI.next {w W W' : World} {u : U} {bu mb bm bl : Nat} {K : List (Nat × Obj)} {st : List Bs × List Bs} (h : GI w W u bu mb bm bl K st) (hb : Below W.heap.size W W') : GI w W' u bu mb bm bl K st := by
  obtain ⟨v, h1, h2, h3⟩ := h.lst
  exact ⟨h.below.trans (hb.mono h.below.size), h.box.next hb, h.var.next hb, h.cnt.next hb, ⟨v, h1.next hb, own_below h2 hb, h3⟩, fun p hp =>
    ⟨(hb.block _ (lt_of_at (h.kept p hp).1)).trans (h.kept p hp).1, (h.kept p hp).2⟩⟩
/-- One more block that nobody writes: it was laid behind. -/
theorem GI.keep {w W W' : World} {u : U} {bu mb bm bl : Nat} {K : List (Nat × Obj)} {st : List Bs × List Bs} {b : Nat} {o : Obj} (h : GI w W u bu mb bm bl K st) (hb : Below W.heap.size W W') (hlt : W.heap.size ≤ b) (ho : W'.heap[b]? = some o) : GI w W' u bu mb bm bl ((b, o) :: K) st := by
  have h' := h.next hb
  obtain ⟨v, h1, h2, h3⟩ := h.lst
  refine ⟨h'.below, h'.box, h'.var, h'.cnt, ⟨v, h1.next hb, own_below h2 hb, ?_⟩, ?_⟩
  · intro p hp
    rcases List.mem_cons.1 hp with rfl | hp
    · intro e
      have := (h2.lt _ e).2
      simp only at this; omega
    · exact h3 p hp
  · intro p hp
    rcases List.mem_cons.1 hp with rfl | hp
    · have := h.cnt.lt
      have := h1.lt
      exact ⟨ho, by simp only; omega, by simp only; omega⟩
    · exact h'.kept p hp
theorem GI.drop {w W : World} {u : U} {bu mb bm bl : Nat} {K : List (Nat × Obj)} {q : Nat × Obj} {st : List Bs × List Bs} (h : GI w W u bu mb bm bl (q :: K) st) : GI w W u bu mb bm bl K st := by
  obtain ⟨v, h1, h2, h3⟩ := h.lst
  exact ⟨h.below, h.box, h.var, h.cnt, ⟨v, h1, h2, fun p hp => h3 p (List.mem_cons_of_mem _ hp)⟩, fun p hp => h.kept p (List.mem_cons_of_mem _ hp)⟩
theorem GI.put {w W W' : World} {u : U} {bu mb bm bl : Nat} {K : List (Nat × Obj)} {st : List Bs × List Bs} {k : Bs} (h : GI w W u bu mb bm bl K st) (ho : Ord4 w bu mb bm bl) (hg : W.grownBy W' (some mb)) (hc : Cnt W' mb (st.1 ++ [k])) : GI w W' u bu mb bm bl K (st.1 ++ [k], st.2) := by
  have h4 := ho.a
  have h1 := ho.b
  have h2 := ho.c
  have h3 := ho.d
  obtain ⟨v, l1, l2, l3⟩ := h.lst
  refine ⟨h.below.grown hg h.below.size (fun j e => by cases e; omega), ?_, ?_, hc, ⟨v, ?_, ?_, l3⟩, fun p hp => ⟨?_, (h.kept p hp).2⟩⟩
  · exact (hg.block bu h.box.lt (fun e => by cases e; omega)).trans h.box
  · exact (hg.block bm h.var.lt (fun e => by cases e; omega)).trans h.var
  · exact (hg.block bl l1.lt (fun e => by cases e; omega)).trans l1
  · refine l2.kept hg (.inr fun e => ?_)
    have := (l2.lt mb e).1; omega
  · exact (hg.block p.1 (lt_of_at (h.kept p hp).1) (fun e => (h.kept p hp).2.1 (Option.some.inj e))).trans (h.kept p hp).1
/-- The list has grown, and its variable takes it. -/
theorem GI.append {w W W' : World} {u : U} {bu mb bm bl g c cap : Nat} {a : Option Addr} {K : List (Nat × Obj)} {st : List Bs × List Bs} {l : List Bs} {o : Obj} (h : GI w W u bu mb bm bl K st) (hB : Box1 W bl (.slice a st.2.length c) 34) (ho : Ord4 w bu mb bm bl)
    (hown : W.ownsRow (bl + 1) 9 1 (.slice a st.2.length c) st.2.length (scells st.2))
    (hr : W'.ownsRow (bl + 1) 9 1 (.slice (some ⟨g, 0, none⟩) (st.2.length + 1) cap) l.length (scells l)) (hg : (W.alloc o).grownBy W' (Value.slice a st.2.length c).ownBlock) (hf : (Value.slice a st.2.length c).ownBlock = some g ∨ W.heap.size < g) :
    Box1 W' bl (.slice a st.2.length c) 34 ∧ GI w (W'.setCell ⟨bl, 0, none⟩ (.slice (some ⟨g, 0, none⟩) (st.2.length + 1) cap)) u bu mb bm bl K (st.1, l) := by
  have h4 := ho.a
  have h1 := ho.b
  have h2 := ho.c
  have h3 := ho.d
  obtain ⟨v0, l1, l2, l3⟩ := h.lst
  have hv : v0 = .slice a st.2.length c := by
    have := l1.cell.symm.trans hB.cell
    exact Option.some.inj this
  subst hv
  have hblk : ∀ b ob, W.heap[b]? = some ob → (Value.slice a st.2.length c).ownBlock ≠ some b → W'.heap[b]? = some ob := fun b ob hb hne =>
    (hg.block b (by simp; have := lt_of_at hb; omega) (fun e => hne e.symm)).trans ((heap_alloc_old W o (lt_of_at hb)).trans hb)
  have hlow : ∀ b, b ≤ bl → (Value.slice a st.2.length c).ownBlock ≠ some b := fun b hb e => by
    have := (hown.lt b e).1; omega
  have hB' : Box1 W' bl (.slice a st.2.length c) 34 := hblk _ _ l1 (hlow _ (Nat.le_refl _))
  have hbel : Below w.heap.size w W' := (h.below.alloc h.below.size o).grown hg (by have := h.below.size; simp; omega) (fun k hk => by have := (hown.lt k hk).1; omega)
  refine ⟨hB', hbel.setCell (p := ⟨bl, 0, none⟩) (by show w.heap.size ≤ bl; omega) _, UBx.other (hblk _ _ h.box (hlow _ (by omega))) (by omega), Box1.other (hblk _ _ h.var (hlow _ (by omega))) (by omega), Cnt.set ?_ (by omega), ⟨_, hB'.set, row_setc hr (Nat.lt_succ_self _), ?_⟩, ?_⟩
  · have hmb : mb < W.heap.size := h.cnt.lt
    refine (h.cnt.grown (World.grownBy_alloc W o none) (by simp)).grown hg ?_
    exact fun e => hlow mb (by omega) e.symm
  · intro p hp e
    simp only [Value.ownBlock, Option.some.injEq] at e
    rcases hf with hf | hf
    · exact l3 p hp (by rw [hf, e])
    · have := lt_of_at (h.kept p hp).1
      omega
  · intro p hp
    refine ⟨(Below.heap_setCell W' ⟨bl, 0, none⟩ _ p.1 (h.kept p hp).2.2).trans (hblk _ _ (h.kept p hp).1 (l3 p hp)), (h.kept p hp).2⟩
theorem count_no (seen : List Bs) (k : Bs) : (!seen.contains k) = decide (seen.count k = 0) := by
  rw [Bool.eq_iff_iff, Bool.not_eq_true', decide_eq_true_eq, List.count_eq_zero, ← Bool.not_eq_true, List.contains_iff_mem]
theorem add_yes {u x : U} {st : List Bs × List Bs} {k : Bs} {cn : Nat} (hk : keyB x = k) (hc : cn = st.1.count k) (h0 : cn = 0) (hw : whoB x = whoB u) : addB u st x = (st.1 ++ [k], st.2 ++ [k]) := by
  unfold addB; rw [hk, count_no, decide_eq_true (by omega), decide_eq_true hw]; rfl
theorem add_no {u x : U} {st : List Bs × List Bs} {k : Bs} {cn : Nat} (hk : keyB x = k) (hc : cn = st.1.count k) (h : ¬ (cn = 0 ∧ whoB x = whoB u)) : addB u st x = (st.1 ++ [k], st.2) := by
  unfold addB
  rw [hk, count_no]
  have : (decide (st.1.count k = 0) && decide (whoB x = whoB u)) = false := by
    rw [← Bool.not_eq_true, Bool.and_eq_true, decide_eq_true_eq, decide_eq_true_eq]
    rintro ⟨a, b⟩; exact h ⟨by omega, b⟩
  rw [this]; rfl
/-- What region 3 reads. -/
abbrev Seen4 (bx : Nat) (x : U) (bu : Nat) (u : U) (bm mb : Nat) (k : Bs) (c : Int) (w' : World) : Prop :=
  SixU bx x w' ∧ SixU bu u w' ∧ w'.cell? ⟨bm, 0, none⟩ = some (.map (some mb)) ∧ (Instr.lookup 51 (.map (some mb)) (.string ⟨k.toArray⟩) false).run Tryz.prog w' = .ok (.int .i64 c) w'

theorem put_none9 (a : Act) (v : Value) : a.put none v = a := rfl
theorem seen4 {w W : World} {u x : U} {bu mb bm bl bx cn : Nat} {K : List (Nat × Obj)} {st : List Bs × List Bs} {k : Bs} (h : GI w W u bu mb bm bl K (st.1 ++ [k], st.2)) (hx : UBx W bx x) (hk : k.length ≤ 100000) (hc : cn = st.1.count k) : Seen4 bx x bu u bm mb k ((cn : Int) + 1) W := by
  refine ⟨hx.six, h.box.six, h.var.cell, ?_⟩
  have := h.cnt.look k hk
  rw [count_snoc, if_pos rfl, ← hc] at this
  exact this
theorem seen4z {w W : World} {u x : U} {bu mb bm bl bx cn : Nat} {K : List (Nat × Obj)} {st : List Bs × List Bs} {k : Bs} (h : GI w W u bu mb bm bl K (st.1 ++ [k], st.2)) (hx : UBx W bx x) (hk : k.length ≤ 100000) (hc : cn = st.1.count k) (h0 : cn = 0) : Seen4 bx x bu u bm mb k 1 W := by
  subst h0; exact seen4 h hx hk hc
set_option maxRecDepth 100000 in
set_option maxHeartbeats 2000000 in
theorem key_add (w W : World) (u x : U) (bu mb bm bl : Nat) (K : List (Nat × Obj)) (st : List Bs × List Bs) (hg : GX w) (hI : GI w W u bu mb bm bl K st) (ho : Ord4 w bu mb bm bl) (hl : LimU u) (hx : LimU x) (hn1 : st.1.length ≤ 100000) (hn2 : st.2.length ≤ 100000) :
    Calls Tryz.prog 28 #[uV x, .pointer (some ⟨bm, 0, none⟩), .pointer (some ⟨bu, 0, none⟩), .pointer (some ⟨bl, 0, none⟩)] W fun e W' => e = .returned (.tuple #[]) ∧ Hid (GI w W' u bu mb bm bl K (addB u st x)) := by
  have HG := Lib.hid hg
  have HL := Lib.hid hl
  have HLx := Lib.hid hx
  have HO := Lib.hid ho
  have HI1 := Lib.hid (show GI w (W.alloc (.cells #[.string ⟨x.scheme.toArray⟩, .string ⟨x.host.toArray⟩, .int .i64 x.port, .string ⟨x.path.toArray⟩, .string ⟨x.query.toArray⟩, .bool x.hq] 23)) u bu mb bm bl K st from hI.next ((Below.refl _ _).alloc (Nat.le_refl _) _))
  have HX1 := Lib.hid (show UBx (W.alloc (.cells #[.string ⟨x.scheme.toArray⟩, .string ⟨x.host.toArray⟩, .int .i64 x.port, .string ⟨x.path.toArray⟩, .string ⟨x.query.toArray⟩, .bool x.hq] 23)) W.heap.size x from ubx_new W x)
  obtain ⟨c0, c1, c2, c3, c4, c5⟩ := HX1.out.cells
  have HMB := Lib.hid (show mb < W.heap.size from hI.cnt.lt)
  clear hg hI ho hl hx
  go_enter Tryz.func28, Tryz.ntmps28
  go_wp2_with fail
  generalize W.alloc (.cells #[.string ⟨x.scheme.toArray⟩, .string ⟨x.host.toArray⟩, .int .i64 x.port, .string ⟨x.path.toArray⟩, .string ⟨x.query.toArray⟩, .bool x.hq] 23) = W1 at *
  generalize W.heap.size = bx at *
  refine (key_of x W1 (HG.out.next HI1.out.below) HLx.out).mono ?_
  rintro e w2 ⟨rfl, hb2⟩
  have HI2 := Lib.hid (HI1.out.next hb2)
  have HX2 := Lib.hid (HX1.out.next hb2)
  have hkl := key_len x
  clear hb2 c0 c1 c2 c3 c4 c5 HI1 HX1
  generalize hke : keyB x = k at *
  have HK := Lib.hid hke
  clear hke
  obtain ⟨n, D, hown, hnn, hD⟩ := HI2.out.cnt
  have HD := Lib.hid hD
  clear hD
  have HHown := Lib.hid hown
  have hrun := HI2.out.cnt.look k (by omega)
  have hcl : st.1.count k ≤ 100000 := Nat.le_trans List.count_le_length hn1
  obtain ⟨cn, hcn⟩ : ∃ cn, cn = st.1.count k := ⟨_, rfl⟩
  rw [← hcn] at hrun hcl
  have HCN := Lib.hid hcn
  clear hcn
  have v0 := HI2.out.var.cell
  have hkey := Lib.hid (key_lit k (by omega))
  go_wp2_with (at_mapUpdate; refine wpList_mapUpdate_own _ rfl _ _ _ 51 rfl 9 3 strKeyed u51 _ mb n D rfl HHown.out (by unfold maxLen; omega) _ _ _ rfl rfl hkey.out _ [] (plainElem_int u3i (WalkArith.wf_i64 (by omega))) ?_; intro w3 hown3 hgrow3)
  have HI3 := Lib.hid (HI2.out.put HO.out hgrow3 (Cnt.put hnn HD.out HHown.out.isMap (by rw [← HCN.out]; exact hown3)))
  have HX3 := Lib.hid (show UBx w3 bx x from (hgrow3.block bx HX2.out.lt (fun e => by cases e; exact Nat.lt_irrefl _ HMB.out)).trans HX2.out)
  clear hown3 hgrow3 hrun v0 hown HHown
  have HKL := Lib.hid (show k.length ≤ 100000 by omega)
  rw [put_none9]
  go_upto_region 3 with fail
  go_cut [22] (fun t wx => t = .bool (decide (cn = 0 ∧ whoB x = whoB u)) ∧ Hid (GI w wx u bu mb bm bl K (st.1 ++ [k], st.2)))
  case first =>
    have HId := Lib.hid (HI3.out.next (Below.refl _ _).drew)
    have HXd := Lib.hid (show UBx w3.drew bx x from HX3.out)
    have HSd := Lib.hid (seen4 HId.out HXd.out HKL.out HCN.out)
    have HS3 := Lib.hid (seen4 HI3.out HX3.out HKL.out HCN.out)
    clear HI3 HX3
    rcases Nat.eq_zero_or_pos cn with h0 | h0
    · have HC0 := Lib.hid h0
      have hc1 : ((cn : Int) + 1) = 1 := by omega
      rw [hc1] at HSd
      clear hc1 h0 hcl
      obtain ⟨⟨s1, n1, p1⟩, hwx⟩ : ∃ o, whoB x = o := ⟨_, rfl⟩
      obtain ⟨⟨s2, n2, p2⟩, hwu⟩ : ∃ o, whoB u = o := ⟨_, rfl⟩
      have HWX := Lib.hid hwx
      have HWU := Lib.hid hwu
      clear hwx hwu
      rcases Decidable.em (s1 = s2) with rfl | e1
      · rcases Decidable.em (n1 = n2) with rfl | e2
        · rcases Decidable.em (p1 = p2) with rfl | e3
          · skip
            go_region_held3 (Seen4 bx x bu u bm mb k 1) (with_reducible exact HSd.out)
              (first
                | (go_at_call 29; (with_reducible refine (key_whose x _ (HG.out.next HId.out.below) HLx.out).mono ?_); rintro e wy ⟨rfl, hby⟩; have HId := Lib.hid (HId.out.next hby); have HXd := Lib.hid (HXd.out.next hby); have HSd := Lib.hid (show Seen4 bx x bu u bm mb k 1 wy from seen4z HId.out HXd.out HKL.out HCN.out HC0.out); rw [HWX.out]; clear hby)
                | (go_at_call 29; (with_reducible refine (key_whose u _ (HG.out.next HId.out.below) HL.out).mono ?_); rintro e wy ⟨rfl, hby⟩; have HId := Lib.hid (HId.out.next hby); have HXd := Lib.hid (HXd.out.next hby); have HSd := Lib.hid (show Seen4 bx x bu u bm mb k 1 wy from seen4z HId.out HXd.out HKL.out HCN.out HC0.out); rw [HWU.out]; clear hby))
            all_goals
              go_wp2_with fail
              go_meet
              exact ⟨by rw [HWX.out, HWU.out, decide_eq_true ⟨HC0.out, rfl⟩], HId⟩
          · have E3 := Lib.hid e3
            have q3 : (p1 == p2) = false := by rw [beq_eq_false_iff_ne]; exact e3
            clear e3
            go_region_held3 (Seen4 bx x bu u bm mb k 1) (with_reducible exact HSd.out)
              (first
                | (go_at_call 29; (with_reducible refine (key_whose x _ (HG.out.next HId.out.below) HLx.out).mono ?_); rintro e wy ⟨rfl, hby⟩; have HId := Lib.hid (HId.out.next hby); have HXd := Lib.hid (HXd.out.next hby); have HSd := Lib.hid (show Seen4 bx x bu u bm mb k 1 wy from seen4z HId.out HXd.out HKL.out HCN.out HC0.out); rw [HWX.out]; clear hby)
                | (go_at_call 29; (with_reducible refine (key_whose u _ (HG.out.next HId.out.below) HL.out).mono ?_); rintro e wy ⟨rfl, hby⟩; have HId := Lib.hid (HId.out.next hby); have HXd := Lib.hid (HXd.out.next hby); have HSd := Lib.hid (show Seen4 bx x bu u bm mb k 1 wy from seen4z HId.out HXd.out HKL.out HCN.out HC0.out); rw [HWU.out]; clear hby))
            all_goals
              go_wp2_with fail
              go_meet
              exact ⟨by rw [HWX.out, HWU.out, decide_eq_false (fun h => E3.out (congrArg (fun o => o.2.2) h.2))], HId⟩
        · have E2 := Lib.hid e2
          have q2 : (n1 == n2) = false := by rw [beq_eq_false_iff_ne]; exact e2
          clear e2
          go_region_held3 (Seen4 bx x bu u bm mb k 1) (with_reducible exact HSd.out)
            (first
              | (go_at_call 29; (with_reducible refine (key_whose x _ (HG.out.next HId.out.below) HLx.out).mono ?_); rintro e wy ⟨rfl, hby⟩; have HId := Lib.hid (HId.out.next hby); have HXd := Lib.hid (HXd.out.next hby); have HSd := Lib.hid (show Seen4 bx x bu u bm mb k 1 wy from seen4z HId.out HXd.out HKL.out HCN.out HC0.out); rw [HWX.out]; clear hby)
              | (go_at_call 29; (with_reducible refine (key_whose u _ (HG.out.next HId.out.below) HL.out).mono ?_); rintro e wy ⟨rfl, hby⟩; have HId := Lib.hid (HId.out.next hby); have HXd := Lib.hid (HXd.out.next hby); have HSd := Lib.hid (show Seen4 bx x bu u bm mb k 1 wy from seen4z HId.out HXd.out HKL.out HCN.out HC0.out); rw [HWU.out]; clear hby))
          all_goals
            go_wp2_with fail
            go_meet
            exact ⟨by rw [HWX.out, HWU.out, decide_eq_false (fun h => E2.out (congrArg (fun o => o.2.1) h.2))], HId⟩
      · have E1 := Lib.hid e1
        have q1 : (s1 == s2) = false := by rw [beq_eq_false_iff_ne]; exact e1
        clear e1
        go_region_held3 (Seen4 bx x bu u bm mb k 1) (with_reducible exact HSd.out)
          (first
            | (go_at_call 29; (with_reducible refine (key_whose x _ (HG.out.next HId.out.below) HLx.out).mono ?_); rintro e wy ⟨rfl, hby⟩; have HId := Lib.hid (HId.out.next hby); have HXd := Lib.hid (HXd.out.next hby); have HSd := Lib.hid (show Seen4 bx x bu u bm mb k 1 wy from seen4z HId.out HXd.out HKL.out HCN.out HC0.out); rw [HWX.out]; clear hby)
            | (go_at_call 29; (with_reducible refine (key_whose u _ (HG.out.next HId.out.below) HL.out).mono ?_); rintro e wy ⟨rfl, hby⟩; have HId := Lib.hid (HId.out.next hby); have HXd := Lib.hid (HXd.out.next hby); have HSd := Lib.hid (show Seen4 bx x bu u bm mb k 1 wy from seen4z HId.out HXd.out HKL.out HCN.out HC0.out); rw [HWU.out]; clear hby))
        all_goals
          go_wp2_with fail
          go_meet
          exact ⟨by rw [HWX.out, HWU.out, decide_eq_false (fun h => E1.out (congrArg (fun o => o.1) h.2))], HId⟩
    · have HP := Lib.hid h0
      obtain ⟨cv, hcv⟩ : ∃ cv : Int, cv = (cn : Int) + 1 := ⟨_, rfl⟩
      rw [← hcv] at HSd HS3
      have q0 : (cv == 1) = false := by rw [beq_eq_false_iff_ne]; omega
      clear hcv
      obtain ⟨-, -, s3, s4⟩ := HSd.out
      have s3 : w3.drew.cell? ⟨bm, 0, none⟩ = some (.map (some mb)) := s3
      go_region
      all_goals
        go_wp2_with fail
        go_meet
        exact ⟨by rw [decide_eq_false (fun h => absurd h.1 (Nat.ne_of_gt HP.out))], HId⟩
  case rest =>
  obtain ⟨rfl, HI4⟩ := hcut
  by_cases hyes : cn = 0 ∧ whoB x = whoB u
  · have HA := Lib.hid (add_yes (st := st) HK.out HCN.out hyes.1 hyes.2)
    rw [decide_eq_true hyes]
    clear hyes
    obtain ⟨v, hbv, hown, -⟩ : ∃ v, Box1 wc bl v 34 ∧ wc.ownsRow (bl + 1) 9 1 v st.2.length (scells st.2) ∧ ∀ p ∈ K, v.ownBlock ≠ some p.1 := HI4.out.lst
    obtain ⟨va, vc, rfl⟩ := own_shape hown
    have HOWN := Lib.hid hown
    have hbl := Lib.hid (show bl + 1 ≤ wc.heap.size from hbv.lt)
    have l0 := hbv.cell
    have HBV := Lib.hid hbv
    clear hown hbv
    go_wp2_with (at_builtin; go_loud (refine wpList_app3 rfl _ _ 34 rfl 9 (.string ⟨#[]⟩) 1 16 u34 info9 rfl (by decide) (bl + 1) _ _ _ _ rfl HOWN.out [.string ⟨k.toArray⟩] rfl rfl rfl (by simp [Value.oneCell']) (by omega) (by omega) hbl.out ?_; intro g cap w5 hown5 hg5 hf5; have HI5 := Lib.hid (GI.append (l := st.2 ++ [k]) HI4.out HBV.out HO.out HOWN.out (by rw [List.length_append, scells_snoc]; exact hown5) hg5 hf5); have l5 := HI5.out.1.cell; have f5 := HI5.out.1.free; clear hown5 hg5 hf5))
    go_end0
    refine ⟨rfl, ?_⟩
    rw [HA.out]
    exact Lib.hid HI5.out.2
  · have HA := Lib.hid (add_no (st := st) HK.out HCN.out hyes)
    rw [decide_eq_false hyes]
    clear hyes
    go_wp2_with fail
    go_end0
    exact ⟨rfl, by rw [HA.out]; exact HI4⟩
end Go.Proofs.YtmkpejioinkceaaGreatDoor
