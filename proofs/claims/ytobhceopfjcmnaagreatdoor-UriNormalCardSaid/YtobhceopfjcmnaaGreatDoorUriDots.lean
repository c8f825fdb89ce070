/- The walk of Dots. -/
import Derived.Test.YtobhceopfjcmnaaGreatDoorSplitK
import Derived.Test.YtobhceopfjcmnaaGreatDoorUriMade
import Derived.ArgAppend
namespace Go.Proofs.YtobhceopfjcmnaaGreatDoor
open Go.RowKit Go.Shelf
attribute [local go_sem] Oper.semAt_some
set_option linter.unusedVariables false

/-- A list of texts that the call owns, or a beginning of one that was cut behind its last. -/
def KOwn (w : World) (base : Nat) (v : Value) (ks : List Bs) : Prop :=
  w.ownsRow base 9 1 v ks.length (scells ks) ∨
  ∃ g, v = .slice (some ⟨g, 0, none⟩) ks.length ks.length ∧ base ≤ g ∧ g < w.heap.size ∧ ∀ (j : Nat) (l : Bs), ks[j]? = some l → w.cell? ⟨g, j, none⟩ = some (.string ⟨l.toArray⟩)
theorem add_lit0 (g j : Nat) : ((⟨g, 0, none⟩ : Addr).add j) = ⟨g, j, none⟩ := by
  unfold Addr.add; by_cases h0 : j = 0
  · subst h0; rfl
  · rw [if_neg h0]; simp
theorem scells_at {ks : List Bs} {j : Nat} {u : Value} (h : (scells ks)[j]? = some u) : ∃ l, ks[j]? = some l ∧ u = .string ⟨l.toArray⟩ := by
  unfold scells at h
  rw [List.getElem?_map] at h
  obtain ⟨l, h1, rfl⟩ := Option.map_eq_some_iff.1 h
  exact ⟨l, h1, rfl⟩
theorem KOwn.shape {w : World} {base : Nat} {v : Value} {ks : List Bs} (h : KOwn w base v ks) : ∃ a c, v = .slice a ks.length c ∧ ks.length ≤ c := by
  rcases h with h | ⟨g, rfl, _⟩
  · rcases h.2 with ⟨rfl, h0⟩ | ⟨g, cap, _, rfl, _, _, hle, _⟩
    · exact ⟨none, 0, by rw [h0], by omega⟩
    · exact ⟨_, _, rfl, hle⟩
  · exact ⟨_, _, rfl, Nat.le_refl _⟩
theorem KOwn.block {w : World} {base : Nat} {v : Value} {ks : List Bs} (h : KOwn w base v ks) : ∀ g, v.ownBlock = some g → base ≤ g ∧ g < w.heap.size := by
  intro g hg
  rcases h with h | ⟨g', rfl, h1, h2, _⟩
  · exact h.lt g hg
  · obtain rfl : g' = g := by simpa [Value.ownBlock] using hg
    exact ⟨h1, h2⟩
theorem KOwn.strs {w : World} {base : Nat} {v : Value} {ks : List Bs} (h : KOwn w base v ks) : StrsAt w v ks := by
  rcases h with h | ⟨g, rfl, _, h2, hc⟩
  · exact StrsAt.of_own h
  · exact .inr ⟨g, 0, _, rfl, Nat.le_refl _, h2, fun j l hl => by rw [Nat.zero_add]; exact hc j l hl⟩
/-- It stays where its own block stays. -/
theorem KOwn.kept {w w' : World} {base : Nat} {v : Value} {ks : List Bs} (h : KOwn w base v ks) (hs : w.heap.size ≤ w'.heap.size) (hb : ∀ g, v.ownBlock = some g → w'.heap[g]? = w.heap[g]?) : KOwn w' base v ks := by
  rcases h with h | ⟨g, rfl, h1, h2, hc⟩
  · refine .inl ⟨h.1, ?_⟩
    rcases h.2 with h | ⟨g, cap, cur, rfl, q1, q2, q3⟩
    · exact .inl h
    · exact .inr ⟨g, cap, cur, rfl, q1, (hb g rfl).trans q2, q3⟩
  · exact .inr ⟨g, rfl, h1, by omega, fun j l hl => (World.cell?_of_block (a := ⟨g, j, none⟩) (hb g rfl)).trans (hc j l hl)⟩
/-- The last is left away. -/
theorem KOwn.cut {w : World} {base : Nat} {a : Option Addr} {c : Nat} {ks : List Bs} (h : KOwn w base (.slice a ks.length c) ks) (hne : ks ≠ []) : KOwn w base (.slice a (ks.length - 1) (ks.length - 1)) ks.dropLast := by
  have hl : ks.dropLast.length = ks.length - 1 := by simp
  have hp : 0 < ks.length := List.length_pos_iff.2 hne
  have cells : ∀ g, a = some ⟨g, 0, none⟩ → ∀ (j : Nat) (l : Bs), ks[j]? = some l → w.cell? ⟨g, j, none⟩ = some (.string ⟨l.toArray⟩) := by
    rintro g rfl j l hj
    rcases h with h | ⟨g', he, _, _, hc⟩
    · have := h.cells (g := g) rfl j (.string ⟨l.toArray⟩) (by simp [scells, hj])
      rw [add_lit0] at this; exact this
    · obtain rfl : g = g' := by simp only [Value.slice.injEq, Option.some.injEq, Addr.mk.injEq] at he; exact he.1.1
      exact hc j l hj
  obtain ⟨g, rfl, h1, h2⟩ : ∃ g, a = some ⟨g, 0, none⟩ ∧ base ≤ g ∧ g < w.heap.size := by
    rcases h with h | ⟨g', he, q1, q2, _⟩
    · have hlt := h.lt
      rcases h.2 with ⟨he, h0⟩ | ⟨g, cap, cur, he, _⟩
      · omega
      · obtain ⟨rfl, _⟩ := by simpa only [Value.slice.injEq] using he
        have := hlt g rfl
        exact ⟨g, rfl, this.1, this.2⟩
    · obtain ⟨rfl, _⟩ := by simpa only [Value.slice.injEq] using he
      exact ⟨g', rfl, q1, q2⟩
  refine .inr ⟨g, by rw [hl], h1, h2, fun j l hj => cells g rfl j l ?_⟩
  rw [List.getElem?_dropLast] at hj
  split at hj
  · exact hj
  · cases hj
theorem grown_none {w w' : World} {row : Option Nat} (h : w.grownBy w' none) : w.grownBy w' row := ⟨h.os, h.tape, h.output, h.size, fun k hk _ => h.block k hk (by simp)⟩
/-- 'append(kept, piece)'. -/
theorem run_kapp {W : World} {base : Nat} {v : Value} {ks : List Bs} (ty : TypeId) (h : KOwn W base v ks) (p : Bs) (g : Nat) (hc : W.cell? ⟨g, 0, none⟩ = some (.string ⟨p.toArray⟩)) (hn : ks.length ≤ 100000) (hbase : base ≤ W.heap.size) :
    ∃ a' c' W', (Builtin.append_ #[38, 38] ty #[v, .slice (some ⟨g, 0, none⟩) 1 1]).run Tryz.prog W = .ok (.slice a' (ks.length + 1) c') W' ∧ KOwn W' base (.slice a' (ks.length + 1) c') (ks ++ [p]) ∧ W.grownBy W' v.ownBlock := by
  obtain ⟨i, hi, hz, hs, hby⟩ := info_parts info9
  have hcell : ∀ (j : Nat) (u : Value), ([Value.string ⟨p.toArray⟩] : List Value)[j]? = some u → W.cell? ((⟨g, 0, none⟩ : Addr).add j) = some u := by
    intro j u hj
    rw [add_lit0]
    match j, hj with
    | 0, hj =>
      have e : Value.string ⟨p.toArray⟩ = u := by simpa using hj
      subst e; exact hc
    | j + 1, hj => simp at hj
  have fin : ∀ {b : Nat} {v' : Value} {W' : World}, base ≤ b → W'.ownsRow b 9 1 v' (ks.length + 1) (scells ks ++ [.string ⟨p.toArray⟩]) → ∃ a' c', v' = .slice a' (ks.length + 1) c' ∧ KOwn W' base v' (ks ++ [p]) := by
    intro b v' W' hb ho
    obtain ⟨a', c', rfl⟩ := own_shape ho
    refine ⟨a', c', rfl, .inl ?_⟩
    rw [List.length_append, scells_snoc]
    refine ⟨ho.1, ?_⟩
    rcases ho.2 with h | ⟨g, cap, cur, hv, hl, hr⟩
    · exact .inl h
    · exact .inr ⟨g, cap, cur, hv, Nat.le_trans hb hl, hr⟩
  rcases h with h | ⟨g0, rfl, h1, h2, hcs⟩
  · obtain ⟨v', W', hr, ho, hg, _⟩ := run_append_own (P := Tryz.prog) W base 38 ty 9 i _ 1 16 u38 hi hz hs hby rfl (by omega) v ks.length (scells ks) h ⟨g, 0, none⟩ 1 1 [.string ⟨p.toArray⟩] rfl hcell (by intro u hu; simp at hu; subst hu; rfl) (by unfold maxLen; omega) (by omega) hbase
    obtain ⟨a', c', rfl, hk⟩ := fin (Nat.le_refl _) ho
    exact ⟨a', c', W', hr, hk, hg⟩
  · obtain ⟨v', W', hr, ho, hg⟩ := run_append_arg_grows (P := Tryz.prog) W 38 ty 9 i _ 1 16 u38 hi hz hs hby rfl (by omega) ⟨g0, 0, none⟩ ks.length ks.length (scells ks) (by rw [scells_len]; omega)
      (fun j u hj => by
        obtain ⟨l, h3, rfl⟩ := scells_at hj
        rw [add_lit0]; exact hcs j l h3) ⟨g, 0, none⟩ 1 1 [.string ⟨p.toArray⟩] rfl hcell (by omega) (by unfold maxLen; omega) (by omega)
    obtain ⟨a', c', rfl, hk⟩ := fin hbase ho
    exact ⟨a', c', W', hr, hk, grown_none hg⟩
theorem wpListIn_kapp {F : Fence} {n : Nat} {ops : Array Oper} {rest : List Oper} {o : Oper} {a : Act} {Q : Exit → Act → World → Prop} {W : World}
    (hgd : o.guard = none) (s x : Operand) (hop : o.op = Op.call { callee := Callee.builtin Builtin.append, args := #[s, x], argTypes := #[38, 38] })
    (base : Nat) (v : Value) (ks : List Bs) (hs : a.eval s = v) (h : KOwn W base v ks) (p : Bs) (g : Nat) (hx : a.eval x = .slice (some ⟨g, 0, none⟩) 1 1) (hc : W.cell? ⟨g, 0, none⟩ = some (.string ⟨p.toArray⟩)) (hn : ks.length ≤ 100000) (hbase : base ≤ W.heap.size)
    (hK : ∀ a' c' W', KOwn W' base (.slice a' (ks.length + 1) c') (ks ++ [p]) → W.grownBy W' v.ownBlock → wpListIn F n Tryz.prog ops Q rest (a.put o.dst (.slice a' (ks.length + 1) c')) W') :
    wpListIn F n Tryz.prog ops Q (o :: rest) a W := by
  refine wpListIn_plain hgd fun K hK' => ?_
  obtain ⟨a', c', W', hrun, r1, r2⟩ := run_kapp o.type h p g hc hn hbase
  unfold Oper.wpIn
  refine ⟨?_, ?_⟩
  · simp [Oper.about, hop, resolve, Target.leads, Sem.run_pure]
  · rw [Oper.semAt_plain F _ _ (by rw [hop]; intro c hc'; cases hc')]
    simp [execOp, hop, resolve, invoke, builtin, hs, hx, hrun, Result.andThen]
    exact hK' _ _ (hK a' c' W' r1 r2)

/-! What the rounds keep -/
structure DI (w : World) (n bk bl : Nat) (pre : List Bs) (W : World) : Prop where
  kept : ∃ v, Box1 W bk v 38 ∧ KOwn W (n + 1 + 1) v (dotKept pre)
  last : Box1 W bl (.string ⟨(pre.getLast?.getD []).toArray⟩) 9
  below : Below w.heap.size w W
theorem DI.stays {w : World} {n bk bl bs : Nat} (h1 : bk < n) (h2 : bl < n) (h3 : bk ≠ bs) (h4 : bl ≠ bs) (h5 : bs < n) (hw : w.heap.size ≤ n) (hbs : w.heap.size ≤ bs) (pre : List Bs) (A B : World) (x : DI w n bk bl pre A) (k : StaysK n bs A B) : DI w n bk bl pre B := by
  obtain ⟨v, q1, q2⟩ := x.kept
  refine ⟨⟨v, (k.block _ q1.lt h3 (by omega) (by omega)).trans q1, q2.kept k.size (fun g hg => ?_)⟩, (k.block _ x.last.lt h4 (by omega) (by omega)).trans x.last, ?_⟩
  · have := q2.block g hg
    exact k.block g this.2 (by omega) (by omega) (by omega)
  · have hb := x.below
    exact ⟨k.os.trans hb.os, k.tape.trans hb.tape, k.output.trans hb.output, Nat.le_trans hb.size k.size, fun j hj => (k.block j (Nat.lt_of_lt_of_le hj hb.size) (by omega) (by omega) (by omega)).trans (hb.block j hj)⟩
end Go.Proofs.YtobhceopfjcmnaaGreatDoor
