/- The walk of Dots. The walk of Dots. -/
import Derived.Test.YtmkpejioinkceaaGreatDoorSplitK
import Derived.Test.YtmkpejioinkceaaGreatDoorUriCheck
import Derived.ArgAppend
import Derived.Test.YtmkpejioinkceaaGreatDoorUriN
import Derived.Outline
namespace Go.Proofs.YtmkpejioinkceaaGreatDoor
open Go.RowKit Go.Shelf
attribute [local go_sem] Oper.semAt_some
set_option linter.unusedVariables false

/-- A list of texts that the call owns, or a beginning of one that was cut behind its last. -/
def KOwn (w : World) (base : Nat) (v : Value) (ks : List Bs) : Prop :=
  w.ownsRow base 9 1 v ks.length (scells ks) ∨
  ∃ g, v = .slice (some ⟨g, 0, none⟩) ks.length ks.length ∧ base ≤ g ∧ g < w.heap.size ∧ ∀ (j : Nat) (l : Bs), ks[j]? = some l → w.cell? ⟨g, j, none⟩ = some (.string ⟨l.toArray⟩)
theorem add_lit0 (g j : Nat) : ((⟨g, 0, none⟩ : Addr).add j) = ⟨g, j, none⟩ := by
  unfold Addr.add; by_cases h0 : j = 0
  · subst h0; rfl
  · rw [if_neg h0]; simp
theorem scells_at {ks : List Bs} {j : Nat} {u : Value} (h : (scells ks)[j]? = some u) : ∃ l, ks[j]? = some l ∧ u = .string ⟨l.toArray⟩ := by
  unfold scells at h
  rw [List.getElem?_map] at h
  obtain ⟨l, h1, rfl⟩ := Option.map_eq_some_iff.1 h
  exact ⟨l, h1, rfl⟩
theorem KOwn.shape {w : World} {base : Nat} {v : Value} {ks : List Bs} (h : KOwn w base v ks) : ∃ a c, v = .slice a ks.length c ∧ ks.length ≤ c := by
  rcases h with h | ⟨g, rfl, _⟩
  · rcases h.2 with ⟨rfl, h0⟩ | ⟨g, cap, _, rfl, _, _, hle, _⟩
    · exact ⟨none, 0, by rw [h0], by omega⟩
    · exact ⟨_, _, rfl, hle⟩
  · exact ⟨_, _, rfl, Nat.le_refl _⟩
theorem KOwn.block {w : World} {base : Nat} {v : Value} {ks : List Bs} (h : KOwn w base v ks) : ∀ g, v.ownBlock = some g → base ≤ g ∧ g < w.heap.size := by
  intro g hg
  rcases h with h | ⟨g', rfl, h1, h2, _⟩
  · exact h.lt g hg
  · obtain rfl : g' = g := by simpa [Value.ownBlock] using hg
    exact ⟨h1, h2⟩
theorem KOwn.strs {w : World} {base : Nat} {v : Value} {ks : List Bs} (h : KOwn w base v ks) : StrsAt w v ks := by
  rcases h with h | ⟨g, rfl, _, h2, hc⟩
  · exact StrsAt.of_own h
  · exact .inr ⟨g, 0, _, rfl, Nat.le_refl _, h2, fun j l hl => by rw [Nat.zero_add]; exact hc j l hl⟩
/-- It stays where its own block stays. -/
theorem KOwn.kept {w w' : World} {base : Nat} {v : Value} {ks : List Bs} (h : KOwn w base v ks) (hs : w.heap.size ≤ w'.heap.size) (hb : ∀ g, v.ownBlock = some g → w'.heap[g]? = w.heap[g]?) : KOwn w' base v ks := by
  rcases h with h | ⟨g, rfl, h1, h2, hc⟩
  · refine .inl ⟨h.1, ?_⟩
    rcases h.2 with h | ⟨g, cap, cur, rfl, q1, q2, q3⟩
    · exact .inl h
    · exact .inr ⟨g, cap, cur, rfl, q1, (hb g rfl).trans q2, q3⟩
  · exact .inr ⟨g, rfl, h1, by omega, fun j l hl => (World.cell?_of_block (a := ⟨g, j, none⟩) (hb g rfl)).trans (hc j l hl)⟩
/-- The last is left away. -/
theorem KOwn.cut {w : World} {base : Nat} {a : Option Addr} {c : Nat} {ks : List Bs} (h : KOwn w base (.slice a ks.length c) ks) (hne : ks ≠ []) : KOwn w base (.slice a (ks.length - 1) (ks.length - 1)) ks.dropLast := by
  have hl : ks.dropLast.length = ks.length - 1 := by simp
  have hp : 0 < ks.length := List.length_pos_iff.2 hne
  have cells : ∀ g, a = some ⟨g, 0, none⟩ → ∀ (j : Nat) (l : Bs), ks[j]? = some l → w.cell? ⟨g, j, none⟩ = some (.string ⟨l.toArray⟩) := by
    rintro g rfl j l hj
    rcases h with h | ⟨g', he, _, _, hc⟩
    · have := h.cells (g := g) rfl j (.string ⟨l.toArray⟩) (by simp [scells, hj])
      rw [add_lit0] at this; exact this
    · obtain rfl : g = g' := by simp only [Value.slice.injEq, Option.some.injEq, Addr.mk.injEq] at he; exact he.1.1
      exact hc j l hj
  obtain ⟨g, rfl, h1, h2⟩ : ∃ g, a = some ⟨g, 0, none⟩ ∧ base ≤ g ∧ g < w.heap.size := by
    rcases h with h | ⟨g', he, q1, q2, _⟩
    · have hlt := h.lt
      rcases h.2 with ⟨he, h0⟩ | ⟨g, cap, cur, he, _⟩
      · omega
      · obtain ⟨rfl, _⟩ := by simpa only [Value.slice.injEq] using he
        have := hlt g rfl
        exact ⟨g, rfl, this.1, this.2⟩
    · obtain ⟨rfl, _⟩ := by simpa only [Value.slice.injEq] using he
      exact ⟨g', rfl, q1, q2⟩
  refine .inr ⟨g, by rw [hl], h1, h2, fun j l hj => cells g rfl j l ?_⟩
  rw [List.getElem?_dropLast] at hj
  split at hj
  · exact hj
  · cases hj
theorem grown_none {w w' : World} {row : Option Nat} (h : w.grownBy w' none) : w.grownBy w' row := ⟨h.os, h.tape, h.output, h.size, fun k hk _ => h.block k hk (by simp)⟩
/-- 'append(kept, piece)'. -/
theorem run_kapp {W : World} {base : Nat} {v : Value} {ks : List Bs} (ty : TypeId) (h : KOwn W base v ks) (p : Bs) (g : Nat) (hc : W.cell? ⟨g, 0, none⟩ = some (.string ⟨p.toArray⟩)) (hn : ks.length ≤ 100000) (hbase : base ≤ W.heap.size) :
    ∃ a' c' W', (Builtin.append_ #[34, 34] ty #[v, .slice (some ⟨g, 0, none⟩) 1 1]).run Tryz.prog W = .ok (.slice a' (ks.length + 1) c') W' ∧ KOwn W' base (.slice a' (ks.length + 1) c') (ks ++ [p]) ∧ W.grownBy W' v.ownBlock := by
  obtain ⟨i, hi, hz, hs, hby⟩ := info_parts info9
  have hcell : ∀ (j : Nat) (u : Value), ([Value.string ⟨p.toArray⟩] : List Value)[j]? = some u → W.cell? ((⟨g, 0, none⟩ : Addr).add j) = some u := by
    intro j u hj
    rw [add_lit0]
    match j, hj with
    | 0, hj =>
      have e : Value.string ⟨p.toArray⟩ = u := by simpa using hj
      subst e; exact hc
    | j + 1, hj => simp at hj
  have fin : ∀ {b : Nat} {v' : Value} {W' : World}, base ≤ b → W'.ownsRow b 9 1 v' (ks.length + 1) (scells ks ++ [.string ⟨p.toArray⟩]) → ∃ a' c', v' = .slice a' (ks.length + 1) c' ∧ KOwn W' base v' (ks ++ [p]) := by
    intro b v' W' hb ho
    obtain ⟨a', c', rfl⟩ := own_shape ho
    refine ⟨a', c', rfl, .inl ?_⟩
    rw [List.length_append, scells_snoc]
    refine ⟨ho.1, ?_⟩
    rcases ho.2 with h | ⟨g, cap, cur, hv, hl, hr⟩
    · exact .inl h
    · exact .inr ⟨g, cap, cur, hv, Nat.le_trans hb hl, hr⟩
  rcases h with h | ⟨g0, rfl, h1, h2, hcs⟩
  · obtain ⟨v', W', hr, ho, hg, _⟩ := run_append_own (P := Tryz.prog) W base 34 ty 9 i _ 1 16 u34 hi hz hs hby rfl (by omega) v ks.length (scells ks) h ⟨g, 0, none⟩ 1 1 [.string ⟨p.toArray⟩] rfl hcell (by intro u hu; simp at hu; subst hu; rfl) (by unfold maxLen; omega) (by omega) hbase
    obtain ⟨a', c', rfl, hk⟩ := fin (Nat.le_refl _) ho
    exact ⟨a', c', W', hr, hk, hg⟩
  · obtain ⟨v', W', hr, ho, hg⟩ := run_append_arg_grows (P := Tryz.prog) W 34 ty 9 i _ 1 16 u34 hi hz hs hby rfl (by omega) ⟨g0, 0, none⟩ ks.length ks.length (scells ks) (by rw [scells_len]; omega)
      (fun j u hj => by
        obtain ⟨l, h3, rfl⟩ := scells_at hj
        rw [add_lit0]; exact hcs j l h3) ⟨g, 0, none⟩ 1 1 [.string ⟨p.toArray⟩] rfl hcell (by omega) (by unfold maxLen; omega) (by omega)
    obtain ⟨a', c', rfl, hk⟩ := fin hbase ho
    exact ⟨a', c', W', hr, hk, grown_none hg⟩
theorem wpListIn_kapp {F : Fence} {n : Nat} {ops : Array Oper} {rest : List Oper} {o : Oper} {a : Act} {Q : Exit → Act → World → Prop} {W : World}
    (hgd : o.guard = none) (s x : Operand) (hop : o.op = Op.call { callee := Callee.builtin Builtin.append, args := #[s, x], argTypes := #[34, 34] })
    (base : Nat) (v : Value) (ks : List Bs) (hs : a.eval s = v) (h : KOwn W base v ks) (p : Bs) (g : Nat) (hx : a.eval x = .slice (some ⟨g, 0, none⟩) 1 1) (hc : W.cell? ⟨g, 0, none⟩ = some (.string ⟨p.toArray⟩)) (hn : ks.length ≤ 100000) (hbase : base ≤ W.heap.size)
    (hK : ∀ a' c' W', KOwn W' base (.slice a' (ks.length + 1) c') (ks ++ [p]) → W.grownBy W' v.ownBlock → wpListIn F n Tryz.prog ops Q rest (a.put o.dst (.slice a' (ks.length + 1) c')) W') :
    wpListIn F n Tryz.prog ops Q (o :: rest) a W := by
  refine wpListIn_plain hgd fun K hK' => ?_
  obtain ⟨a', c', W', hrun, r1, r2⟩ := run_kapp o.type h p g hc hn hbase
  unfold Oper.wpIn
  refine ⟨?_, ?_⟩
  · simp [Oper.about, hop, resolve, Target.leads, Sem.run_pure]
  · rw [Oper.semAt_plain F _ _ (by rw [hop]; intro c hc'; cases hc')]
    simp [execOp, hop, resolve, invoke, builtin, hs, hx, hrun, Result.andThen]
    exact hK' _ _ (hK a' c' W' r1 r2)

/-! What the rounds keep -/
structure DI (w : World) (n bk bl : Nat) (pre : List Bs) (W : World) : Prop where
  kept : ∃ v, Box1 W bk v 34 ∧ KOwn W (n + 1 + 1) v (dotKept pre)
  last : Box1 W bl (.string ⟨(pre.getLast?.getD []).toArray⟩) 9
  below : Below w.heap.size w W
theorem DI.stays {w : World} {n bk bl bs : Nat} (h1 : bk < n) (h2 : bl < n) (h3 : bk ≠ bs) (h4 : bl ≠ bs) (h5 : bs < n) (hw : w.heap.size ≤ n) (hbs : w.heap.size ≤ bs) (pre : List Bs) (A B : World) (x : DI w n bk bl pre A) (k : StaysK n bs A B) : DI w n bk bl pre B := by
  obtain ⟨v, q1, q2⟩ := x.kept
  refine ⟨⟨v, (k.block _ q1.lt h3 (by omega) (by omega)).trans q1, q2.kept k.size (fun g hg => ?_)⟩, (k.block _ x.last.lt h4 (by omega) (by omega)).trans x.last, ?_⟩
  · have := q2.block g hg
    exact k.block g this.2 (by omega) (by omega) (by omega)
  · have hb := x.below
    exact ⟨k.os.trans hb.os, k.tape.trans hb.tape, k.output.trans hb.output, Nat.le_trans hb.size k.size, fun j hj => (k.block j (Nat.lt_of_lt_of_le hj hb.size) (by omega) (by omega) (by omega)).trans (hb.block j hj)⟩
end Go.Proofs.YtmkpejioinkceaaGreatDoor

namespace Go.Proofs.YtmkpejioinkceaaGreatDoor
open Go.RowKit Go.Shelf
attribute [local go_sem] Oper.semAt_some
set_option linter.unusedVariables false

theorem join_cat {ks : List Bs} (h : ks ≠ []) : 47 :: Lib.join ks [47] = catB ks := by
  cases ks with
  | nil => exact (h rfl).elim
  | cons a r => rw [Lib.join_cons, catB_cons]; rfl
theorem lib_JoinL (v : Value) (ls : List Bs) (sep : ByteArray) (w : World) (h : StrsAt w v ls) (hl : ls.length ≤ 1000000) (hj : (Lib.join ls sep.data.toList).length ≤ 1000000) :
    Calls Tryz.prog 24 #[v, .string sep] w (Ret w (.string ⟨(Lib.join ls sep.data.toList).toArray⟩)) := by
  rcases h with ⟨a, c, rfl, rfl⟩ | ⟨b, o, c, rfl, hc, hlt, hcell⟩
  · refine (Tryz.strings_Join_none a c sep w).mono ?_
    rintro e w' ⟨rfl, rfl⟩
    exact ⟨rfl, Below.refl _ _⟩
  · have hx : ((ls.map fun l => (⟨l.toArray⟩ : ByteArray)).map (·.data.toList)) = ls := by
      rw [List.map_map]; exact List.map_id' ls
    have := Tryz.strings_Join b o c (ls.map fun l => (⟨l.toArray⟩ : ByteArray)) sep w (fun j x hx => by
      rw [List.getElem?_map] at hx
      obtain ⟨l, hl, rfl⟩ := Option.map_eq_some_iff.1 hx
      exact hcell j l hl) hlt (by rw [List.length_map]; omega) (by rw [List.length_map]; exact hc) (by rw [hx]; omega)
    rw [hx, List.length_map] at this
    exact this
theorem kept_snoc (pre : List Bs) (x : Bs) : dotKept (pre ++ [x]) = dotStep (dotKept pre) x := by unfold dotKept; rw [List.foldl_append]; rfl
theorem kept_many : ∀ (l kept : List Bs), (l.foldl dotStep kept).length ≤ kept.length + l.length
  | [], kept => by simp
  | a :: l, kept => by
    rw [List.foldl_cons]
    have ih := kept_many l (dotStep kept a)
    have hs : (dotStep kept a).length ≤ kept.length + 1 := by
      unfold dotStep
      split
      · omega
      · split
        · simp; omega
        · simp
    simp; omega
theorem kept_le {pre l : List Bs} {x : Bs} (h : pre ++ [x] <+: l) : (dotKept pre).length ≤ l.length := by
  have h1 := kept_many pre []
  have h2 := h.length_le
  simp at h1 h2
  unfold dotKept; omega
/-- A round is over: the last piece and what is kept are stored. -/
theorem di_mk {w w0 W W' : World} {bk bl : Nat} {pre : List Bs} {x : Bs} {t v : Value} (hI : DI w w0.heap.size bk bl pre W) (hk1 : bk < w0.heap.size) (hl1 : bl < w0.heap.size) (hkl : bk ≠ bl) (hw1 : w.heap.size ≤ bk) (hw2 : w.heap.size ≤ bl) (hw0 : w.heap.size ≤ w0.heap.size)
    (hg : (W.setCell ⟨bl, 0, none⟩ (.string ⟨x.toArray⟩)).grownBy W' t.ownBlock) (ht : ∀ g, t.ownBlock = some g → w0.heap.size + 1 + 1 ≤ g) (hv : KOwn W' (w0.heap.size + 1 + 1) v (dotKept (pre ++ [x]))) :
    Keep (fun k => (k = bk ∨ k = bl) ∨ w0.heap.size + 1 < k) W (W'.setCell ⟨bk, 0, none⟩ v) ∧ DI w w0.heap.size bk bl (pre ++ [x]) (W'.setCell ⟨bk, 0, none⟩ v) := by
  obtain ⟨v0, q1, q2⟩ := hI.kept
  have hsz : (W.setCell ⟨bl, 0, none⟩ (.string ⟨x.toArray⟩)).heap.size = W.heap.size := setCell_size _ _ _
  have hlW := hI.last.lt
  have hkW := q1.lt
  have hne : ∀ k, k < w0.heap.size + 1 + 1 → some k ≠ t.ownBlock := fun k hk e => by have := ht k e.symm; omega
  have hl' : Box1 W' bl (.string ⟨x.toArray⟩) 9 := (hg.block bl (by rw [hsz]; exact hlW) (hne bl (by omega))).trans hI.last.set
  have hk' : Box1 W' bk v0 34 := (hg.block bk (by rw [hsz]; exact hkW) (hne bk (by omega))).trans (q1.other hkl)
  have hsize : W.heap.size ≤ W'.heap.size := by have := hg.size; omega
  refine ⟨⟨?_, ?_, ?_, by rw [setCell_size]; exact hsize, ?_⟩, ⟨⟨v, hk'.set, hv.kept (by rw [setCell_size]; exact Nat.le_refl _) (fun g hg' => ?_)⟩, ?_, ?_⟩⟩
  · exact hg.os
  · exact hg.tape
  · exact hg.output
  · intro k hk hn
    have h1 : k ≠ bk := fun e => hn (.inl (.inl e))
    have h2 : k ≠ bl := fun e => hn (.inl (.inr e))
    have h3 : ¬ w0.heap.size + 1 < k := fun e => hn (.inr e)
    exact (Below.heap_setCell W' ⟨bk, 0, none⟩ v k h1).trans ((hg.block k (by rw [hsz]; exact hk) (hne k (by omega))).trans (Below.heap_setCell W ⟨bl, 0, none⟩ _ k h2))
  · have := hv.block g hg'
    exact Below.heap_setCell W' ⟨bk, 0, none⟩ v g (by show g ≠ bk; omega)
  · have := hl'.other (u := v) (Ne.symm hkl)
    rw [List.getLast?_concat]; exact this
  · have hb := hI.below
    refine ⟨hg.os.trans hb.os, hg.tape.trans hb.tape, hg.output.trans hb.output, by rw [setCell_size]; exact Nat.le_trans hb.size hsize, fun k hk => ?_⟩
    have hkW' : k < W.heap.size := Nat.lt_of_lt_of_le hk hb.size
    exact (Below.heap_setCell W' ⟨bk, 0, none⟩ v k (by show k ≠ bk; omega)).trans ((hg.block k (by rw [hsz]; exact hkW') (hne k (by omega))).trans ((Below.heap_setCell W ⟨bl, 0, none⟩ _ k (by show k ≠ bl; omega)).trans (hb.block k hk)))
/-- A round is over: the last piece alone is stored. -/
theorem di_last {w w0 W : World} {bk bl : Nat} {pre : List Bs} {x : Bs} (hI : DI w w0.heap.size bk bl pre W) (hk1 : bk < w0.heap.size) (hl1 : bl < w0.heap.size) (hkl : bk ≠ bl) (hw2 : w.heap.size ≤ bl) (hd : dotKept (pre ++ [x]) = dotKept pre) :
    Keep (fun k => (k = bk ∨ k = bl) ∨ w0.heap.size + 1 < k) W (W.setCell ⟨bl, 0, none⟩ (.string ⟨x.toArray⟩)) ∧ DI w w0.heap.size bk bl (pre ++ [x]) (W.setCell ⟨bl, 0, none⟩ (.string ⟨x.toArray⟩)) := by
  obtain ⟨v0, q1, q2⟩ := hI.kept
  refine ⟨⟨rfl, rfl, rfl, by rw [setCell_size]; exact Nat.le_refl _, fun k _ hn => Below.heap_setCell W ⟨bl, 0, none⟩ _ k (fun e => hn (.inl (.inr e)))⟩, ⟨⟨v0, q1.other hkl, ?_⟩, ?_, ?_⟩⟩
  · rw [hd]
    exact q2.kept (by rw [setCell_size]; exact Nat.le_refl _) (fun g hg => Below.heap_setCell W ⟨bl, 0, none⟩ _ g (by have := q2.block g hg; show g ≠ bl; omega))
  · rw [List.getLast?_concat]; exact hI.last.set
  · exact hI.below.setCell (p := ⟨bl, 0, none⟩) hw2 _
theorem KOwn.cut0 {w : World} {base : Nat} {a : Option Addr} {c : Nat} (h : KOwn w base (.slice a 0 c) []) : KOwn w base (.slice a 0 0) [] := by
  rcases h with h | ⟨g', he, q1, q2, _⟩
  · have hlt := h.lt
    rcases h.2 with ⟨he, h0⟩ | ⟨g, cap, cur, he, _⟩
    · obtain ⟨rfl, _⟩ := by simpa only [Value.slice.injEq] using he
      exact .inl (World.ownsRow_nil _ _ _ _)
    · obtain ⟨rfl, _⟩ := by simpa only [Value.slice.injEq] using he
      have := hlt g rfl
      exact .inr ⟨g, rfl, this.1, this.2, fun j l hj => by simp at hj⟩
  · obtain ⟨rfl, _⟩ := by simpa only [Value.slice.injEq] using he
    exact .inr ⟨g', rfl, q1, q2, fun j l hj => by simp at hj⟩
theorem grown_alloc {W W' : World} {o : Obj} {row : Option Nat} (h : (W.alloc o).grownBy W' row) : W.grownBy W' row :=
  ⟨h.os, h.tape, h.output, by have := h.size; simp at this; omega, fun k hk hn => (h.block k (by simp; omega) hn).trans (Below.heap_alloc _ _ _ hk)⟩
/-- What lies behind an append: the box of what is kept, as it was. -/
theorem kbox_grown {W W' : World} {bl bk n : Nat} {x v v0 : Value} {o : Obj} (h : ((W.setCell ⟨bl, 0, none⟩ x).alloc o).grownBy W' v.ownBlock) (hv : ∀ g, v.ownBlock = some g → n ≤ g) (hk : Box1 W bk v0 34) (hn : bk < n) (hne : bk ≠ bl) : Box1 W' bk v0 34 :=
  ((grown_alloc h).block bk (by rw [setCell_size]; exact hk.lt) (fun e => by have := hv bk e.symm; omega)).trans (hk.other hne)
theorem dots_no {s : Bs} (h : Lib.hasPrefix s [47] = false) : dotsB s = [] := by unfold dotsB; rw [h]; rfl
theorem dots_yes {s : Bs} (h : Lib.hasPrefix s [47] = true) : dotsB s = catB (dotKept (pieces 47 (s.drop 1))) ++ (bif isDot ((pieces 47 (s.drop 1)).getLast?.getD []) then [47] else []) := by unfold dotsB; rw [h]; rfl
theorem pfx_slash {s : Bs} (h : Lib.hasPrefix s [47] = true) : ∃ r, s = 47 :: r := by
  unfold Lib.hasPrefix at h
  obtain ⟨r, hr⟩ := List.isPrefixOf_iff_prefix.1 h
  exact ⟨r, hr.symm⟩

theorem kept_nil {l : List Bs} (hl : l ≠ []) (h : dotKept l = []) : isDot (l.getLast?.getD []) = true := by
  rw [← List.dropLast_concat_getLast hl, kept_snoc] at h
  rw [List.getLast?_eq_some_getLast hl, Option.getD_some, isDot_iff]
  unfold dotStep at h
  split at h
  · next e => exact .inl e
  · split at h
    · next e => exact .inr e
    · simp at h
theorem ret_eq {a b : ByteArray} (h : a = b) : Ending.returned (.string a) = .returned (.string b) := by rw [h]
/-- The call's end behind the loop. -/
theorem dots_out {w W w3 : World} {bk bl D : Nat} {v x : Value} {t1 t2 : TypeId} (hb : Below w.heap.size w W) (hb3 : Below W.heap.size W w3) (h1 : Box1 W bk v t1) (h2 : Box1 W bl x t2) (hK : W.heap[D]? = some (.deferred (some []))) (hD : w.heap.size ≤ D) :
    w3.cell? ⟨bk, 0, none⟩ = some v ∧ w3.cell? ⟨bl, 0, none⟩ = some x ∧ w3.heap[D]? = some (.deferred (some [])) ∧ Below w.heap.size w (w3.putObj D (.deferred none)) := by
  have hb' := hb.trans (hb3.mono hb.size)
  have hDl : D < W.heap.size := (Array.getElem?_eq_some_iff.1 hK).1
  exact ⟨(h1.next hb3).cell, (h2.next hb3).cell, (hb3.block D hDl).trans hK, hb'.os, hb'.tape, hb'.output, by simpa using hb'.size, fun k hk => (World.putObj_heap_other (by omega)).trans (hb'.block k hk)⟩
set_option maxRecDepth 100000 in
set_option maxHeartbeats 2000000 in
theorem uri_Dots (s : Bs) (w : World) (hg : Good w) (hs : s.length ≤ 100000) :
    Calls Tryz.prog 45 #[.string ⟨s.toArray⟩] w (Ret w (.string ⟨(dotsB s).toArray⟩)) := by
  obtain ⟨N, _⟩ : ∃ N : Nat, True := ⟨0, trivial⟩
  have hlm := hg.lt
  have HG := Lib.hid hg
  clear hg
  refine (callsIn_wide (n := N)).1 ?_
  refine callsIn_of_wp_marks Tryz.func45 rfl trivial ?_ rfl
  simp only [Tryz.ntmps45, List.size_toArray, List.length_cons, List.length_nil, Nat.reduceAdd, Nat.reduceSub, Array.replicate_succ, Array.replicate_zero, List.push_toArray, List.append_toArray, List.nil_append, List.cons_append]
  gi_wp2_with fail
  refine call_wide ((lib_HasPrefix ⟨s.toArray⟩ ⟨#[47]⟩ w).mono ?_)
  rintro e w1 ⟨rfl, rfl⟩
  rcases hp : Lib.hasPrefix s [47] with _ | _
  · have HE := Lib.hid (dots_no hp)
    clear hp
    gi_wp2
    exact ⟨_, results_tmp rfl _ _ _, by rw [HE.out]; rfl, Below.refl _ _⟩
  · have HE := Lib.hid (dots_yes hp)
    obtain ⟨r, rfl⟩ := pfx_slash hp
    clear hp
    have hex : (⟨(47 :: r).toArray⟩ : ByteArray).extract 1 (r.length + 1) = ⟨r.toArray⟩ := bs_ext (by rw [ext_data]; simp)
    have hrl : r.length ≤ 99999 := by simp at hs; omega
    have HT := Lib.hid (two_new w (.cells #[.slice none 0 0] 34) (.cells #[.string ⟨#[]⟩] 9))
    gi_wp2_with fail
    generalize (w.alloc (.cells #[.slice none 0 0] 34)).alloc (.cells #[.string ⟨#[]⟩] 9) = W0 at *
    have hW0 := HT.out.size
    refine call_wide ((lib_SplitSeq r 47 W0).mono ?_)
    rintro e w2 ⟨rfl, hit, hs2, hb2⟩
    rw [hW0] at hit hs2
    have hg2 : Good w2 := (HG.out.next HT.out.below).next hb2
    have hbw2 := HT.out.below.trans (hb2.mono HT.out.below.size)
    have k3 : Box1 w2 w.heap.size (.slice none 0 0) 34 := (hb2.block _ (by omega)).trans HT.out.b1
    have k4 : Box1 w2 (w.heap.size + 1) (.string ⟨#[]⟩) 9 := (hb2.block _ (by omega)).trans HT.out.b2
    have hDI : DI w w2.heap.size w.heap.size (w.heap.size + 1) [] w2 := ⟨⟨_, k3, .inl (World.ownsRow_nil _ _ _ _)⟩, k4, hbw2⟩
    clear hb2
    gi_wp2_with fail
    refine range_splitK 47 r (w.heap.size + 1 + 1) (w.heap.size + 1 + 1 + 1) (w.heap.size + 1 + 1 + 1 + 1) (by omega) (by omega) (by omega) rfl rfl hit hg2 (by omega)
      (fun k => (k = w.heap.size ∨ k = w.heap.size + 1) ∨ w2.heap.size + 1 < k) (by rintro k ((rfl | rfl) | h) <;> omega)
      (DI w w2.heap.size w.heap.size (w.heap.size + 1)) (fun _ _ => False)
      (DI.stays (by omega) (by omega) (by omega) (by omega) (by omega) (by omega) (by omega)) (fun _ _ _ h _ => h) hDI ?a1 ?assign ?body ?done ?stop
    case assign =>
      intro l x W K hK
      gi_wp2
      exact hK
    case body =>
      rintro l pre x W hI hszW hgW hpre
      obtain ⟨v, q1, q2⟩ := hI.kept
      obtain ⟨a0, c0, rfl, hca⟩ := q2.shape
      have ck := q1.cell
      have fk := q1.free
      have cl := hI.last.cell
      have fl := hI.last.free
      have hmany := kept_le hpre
      have hpm := pieces_many 47 r
      have HKS := Lib.hid (kept_snoc pre x)
      generalize hks : dotKept pre = ks at *
      have HKe := Lib.hid hks
      have hI' := Lib.hid hI
      clear hI hks
      by_cases h1 : x = dot1
      · subst h1
        have hR := di_last (x := dot1) hI'.out (by omega) (by omega) (by omega) (by omega) (by rw [HKS.out, HKe.out]; unfold dotStep; rw [if_pos rfl])
        have HR := Lib.hid hR
        clear hR
        gi_wp2
        exact HR.out
      · by_cases h2 : x = dot2
        · subst h2
          have hst : dotStep ks dot2 = ks.dropLast := by unfold dotStep; rw [if_neg dot12, if_pos rfl]
          have hq2 : KOwn (W.setCell ⟨w.heap.size + 1, 0, none⟩ (.string ⟨dot2.toArray⟩)) (w2.heap.size + 1 + 1) (.slice a0 ks.length c0) ks := q2.kept (by rw [setCell_size]; exact Nat.le_refl _) (fun g hg => Below.heap_setCell W ⟨w.heap.size + 1, 0, none⟩ _ g (by have := q2.block g hg; show g ≠ w.heap.size + 1; omega))
          by_cases hke : ks = []
          · subst hke
            have hR := di_mk (x := dot2) (t := .slice none 0 0) (v := .slice a0 0 0) hI'.out (by omega) (by omega) (by omega) (by omega) (by omega) (by omega) (World.grownBy.refl _ _) (fun g hg => by cases hg) (by rw [HKS.out, hst]; exact hq2.cut0)
            have HR := Lib.hid hR
            clear hR hq2 hst
            gi_wp2
            exact HR.out
          · have hp : 0 < ks.length := List.length_pos_iff.2 hke
            have hR := di_mk (x := dot2) (t := .slice none 0 0) (v := .slice a0 (ks.length - 1) (ks.length - 1)) hI'.out (by omega) (by omega) (by omega) (by omega) (by omega) (by omega) (World.grownBy.refl _ _) (fun g hg => by cases hg) (by rw [HKS.out, hst]; exact hq2.cut hke)
            have HR := Lib.hid hR
            clear hR hq2 hst hke
            have z1 : (1 : Int) ≤ (ks.length : Int) := by omega
            have z2 : (0 : Int) ≤ (ks.length : Int) - 1 := by omega
            have z3 : max (0 : Int) ((ks.length : Int) - 1) = ((ks.length - 1 : Nat) : Int) := by rw [Int.max_eq_right z2]; omega
            gi_wp2
            exact HR.out
        · have hst : dotStep ks x = ks ++ [x] := by unfold dotStep; rw [if_neg h1, if_neg h2]
          have hq2 : KOwn ((W.setCell ⟨w.heap.size + 1, 0, none⟩ (.string ⟨x.toArray⟩)).alloc (.cells #[.string ⟨x.toArray⟩] 9)) (w2.heap.size + 1 + 1) (.slice a0 ks.length c0) ks := q2.kept (by rw [World.size_alloc, setCell_size]; omega) (fun g hg => (Below.heap_alloc _ _ _ (by rw [setCell_size]; exact (q2.block g hg).2)).trans (Below.heap_setCell W ⟨w.heap.size + 1, 0, none⟩ _ g (by have := q2.block g hg; show g ≠ w.heap.size + 1; omega)))
          have HQ := Lib.hid hq2
          have HB := Lib.hid (fun g hg => (q2.block g hg).1)
          have HQ1 := Lib.hid q1
          have hc := cell_new (W.setCell ⟨w.heap.size + 1, 0, none⟩ (.string ⟨x.toArray⟩)) #[.string ⟨x.toArray⟩] 9 0 _ rfl
          rw [setCell_size] at hc
          have HC := Lib.hid hc
          have g1 : ¬ x = [46] := h1
          have g2 : ¬ x = [46, 46] := h2
          have g3 : (x == [46]) = false := by rw [beq_eq_false_iff_ne]; exact h1
          have g4 : (x == [46, 46]) = false := by rw [beq_eq_false_iff_ne]; exact h2
          clear hq2 hc h1 h2 q1 q2
          gi_wp2_with (gi_at_builtin; refine wpListIn_kapp (by rfl) _ _ (by rfl) (w2.heap.size + 1 + 1) _ ks (by rfl) HQ.out x _ (by rfl) HC.out (by omega) (by rw [World.size_alloc, setCell_size]; omega) ?_; intro a' c' W' hk hg; have HR := Lib.hid (di_mk (x := x) hI'.out (by omega) (by omega) (by omega) (by omega) (by omega) (by omega) (grown_alloc hg) HB.out (by rw [HKS.out, hst]; exact hk)); have bx := kbox_grown hg HB.out HQ1.out (by omega) (by omega); have ck' := bx.cell; have fk' := bx.free; clear hk hg bx)
          exact HR.out
    case done =>
      rintro D W hD hI hK
      obtain ⟨v, q1, q2⟩ := hI.kept
      obtain ⟨a0, c0, rfl, hca⟩ := q2.shape
      have hkl := kept_len (pieces 47 r) []
      rw [pieces_cat] at hkl
      have hkm := kept_many (pieces 47 r) []
      have hpm := pieces_many 47 r
      have hnil := kept_nil (pieces_ne 47 r)
      have HE1 := Lib.hid (show dotsB (47 :: r) = catB (dotKept (pieces 47 r)) ++ (bif isDot ((pieces 47 r).getLast?.getD []) then [47] else []) from HE.out)
      have q3 := hI.last
      have hbW := hI.below
      unfold dotKept at *
      generalize (pieces 47 r).foldl dotStep [] = ks at *
      generalize (pieces 47 r).getLast?.getD [] = la at *
      rw [catB_nil] at hkl
      have hj : (Lib.join ks [47]).length ≤ 1000000 := by
        by_cases hk0 : ks = []
        · subst hk0; exact Nat.zero_le _
        · have := join_cat hk0
          have h2 := congrArg List.length this
          simp at h2 hkl; omega
      have HQ := Lib.hid (show Box1 W w.heap.size (.slice a0 ks.length c0) 34 ∧ KOwn W (w2.heap.size + 1 + 1) (.slice a0 ks.length c0) ks ∧ Box1 W (w.heap.size + 1) (.string ⟨la.toArray⟩) 9 ∧ Below w.heap.size w W ∧ W.heap[D]? = some (.deferred (some [])) from ⟨q1, q2, q3, hbW, hK⟩)
      have ck := q1.cell
      clear hI hK q1 q2 q3 hbW
      gi_wp2_with fail
      refine call_wide ((lib_JoinL _ ks ⟨#[47]⟩ W HQ.out.2.1.strs (by simp at hkm; omega) hj).mono ?_)
      rintro e w3 ⟨rfl, hb3⟩
      obtain ⟨c3, c4, hK3, hbf⟩ := dots_out HQ.out.2.2.2.1 hb3 HQ.out.1 HQ.out.2.2.1 HQ.out.2.2.2.2 (by omega)
      have HK3 := Lib.hid (And.intro hK3 hbf)
      clear hb3 hK3 hbf
      have e1 : (⟨#[47]⟩ : ByteArray) ++ ⟨(Lib.join ks [47]).toArray⟩ = ⟨(47 :: Lib.join ks [47]).toArray⟩ := bs_ext (by simp)
      have e2 : (⟨(47 :: Lib.join ks [47]).toArray⟩ : ByteArray) ++ ⟨#[47]⟩ = ⟨(47 :: Lib.join ks [47] ++ [47]).toArray⟩ := bs_ext (by simp)
      have e3 : ks = [] → (⟨(47 :: Lib.join ks [47]).toArray⟩ : ByteArray) = ⟨(catB ks ++ [47]).toArray⟩ := by rintro rfl; rfl
      have e4 : ks ≠ [] → 47 :: Lib.join ks [47] = catB ks := join_cat
      have HN := Lib.hid (And.intro e3 (And.intro e4 hnil))
      have d1 := isDot_iff la
      clear e3 e4 hnil
      rcases Nat.eq_zero_or_pos ks.length with hz | hz
      · have hks := List.length_eq_zero_iff.1 hz
        have hd := HN.out.2.2 hks
        rw [hd] at HE1
        have HZ := Lib.hid hks
        have z1 : ((ks.length : Nat) : Int) = 0 := by omega
        have hD2 := d1.1 hd
        clear d1 hd hks
        rcases hD2 with rfl | rfl
        · unfold dot1 at *
          gi_wp2
          refine ⟨by simp, .inl ⟨_, _, rfl, run_takeDeferred HK3.out.1, ⟨_, results_tmp rfl _ _ _, ?_, HK3.out.2⟩⟩⟩
          exact ret_eq (a := ⟨(47 :: Lib.join ks [47]).toArray⟩) (b := ⟨(dotsB (47 :: r)).toArray⟩) (by rw [HE1.out, HN.out.1 HZ.out]; rfl)
        · unfold dot2 at *
          gi_wp2
          refine ⟨by simp, .inl ⟨_, _, rfl, run_takeDeferred HK3.out.1, ⟨_, results_tmp rfl _ _ _, ?_, HK3.out.2⟩⟩⟩
          exact ret_eq (a := ⟨(47 :: Lib.join ks [47]).toArray⟩) (b := ⟨(dotsB (47 :: r)).toArray⟩) (by rw [HE1.out, HN.out.1 HZ.out]; rfl)
      · have HL := Lib.hid (HN.out.2.1 (by rintro rfl; simp at hz))
        have z1 : (0 : Int) < ((ks.length : Nat) : Int) := by omega
        rcases Decidable.em (la = [46]) with rfl | h1
        · gi_wp2
          refine ⟨by simp, .inl ⟨_, _, rfl, run_takeDeferred HK3.out.1, ⟨_, results_tmp rfl _ _ _, ?_, HK3.out.2⟩⟩⟩
          exact ret_eq (a := ⟨(47 :: Lib.join ks [47] ++ [47]).toArray⟩) (b := ⟨(dotsB (47 :: r)).toArray⟩) (by rw [HE1.out, HL.out]; rfl)
        · rcases Decidable.em (la = [46, 46]) with rfl | h2
          · gi_wp2
            refine ⟨by simp, .inl ⟨_, _, rfl, run_takeDeferred HK3.out.1, ⟨_, results_tmp rfl _ _ _, ?_, HK3.out.2⟩⟩⟩
            exact ret_eq (a := ⟨(47 :: Lib.join ks [47] ++ [47]).toArray⟩) (b := ⟨(dotsB (47 :: r)).toArray⟩) (by rw [HE1.out, HL.out]; rfl)
          · have g3 : (la == [46]) = false := by rw [beq_eq_false_iff_ne]; exact h1
            have g4 : (la == [46, 46]) = false := by rw [beq_eq_false_iff_ne]; exact h2
            rw [isDot_no h1 h2] at HE1
            clear d1
            gi_wp2
            refine ⟨by simp, .inl ⟨_, _, rfl, run_takeDeferred HK3.out.1, ⟨_, results_tmp rfl _ _ _, ?_, HK3.out.2⟩⟩⟩
            exact ret_eq (a := ⟨(47 :: Lib.join ks [47]).toArray⟩) (b := ⟨(dotsB (47 :: r)).toArray⟩) (by rw [HE1.out, HL.out]; simp)
    case stop =>
      rintro D pre W hD hpre h hK
      exact h.elim
end Go.Proofs.YtmkpejioinkceaaGreatDoor
