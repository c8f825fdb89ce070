/- 'append(v, x...)' for lists of texts: v is the call's own. -/
import Derived.Test.YtmkpejioinkceaaGreatDoorBase
namespace Go.Proofs.YtmkpejioinkceaaGreatDoor
open Go.RowKit
set_option linter.unusedVariables false

theorem scells_app (fs gs : List Bs) : scells (fs ++ gs) = scells fs ++ scells gs := by simp [scells]
theorem scells_one (fs : List Bs) (u : Value) (h : u ∈ scells fs) : u.oneCell' = true := by
  unfold scells at h
  obtain ⟨l, _, rfl⟩ := List.mem_map.1 h
  rfl
theorem add_atS (g o j : Nat) : ((⟨g, o, none⟩ : Addr).add j) = ⟨g, o + j, none⟩ := by
  unfold Addr.add; by_cases h0 : j = 0
  · subst h0; rfl
  · rw [if_neg h0]
theorem run_copyS {W : World} {x v : Value} {fs gs : List Bs} {base : Nat} (ty : TypeId) (hF : StrsAt W x fs) (hown : W.ownsRow base 9 1 v gs.length (scells gs)) (hn : gs.length + fs.length ≤ 100000) (hbase : base ≤ W.heap.size) :
    ∃ a' c' W', (Builtin.append_ #[34, 34] ty #[v, x]).run Tryz.prog W = .ok (.slice a' (gs ++ fs).length c') W' ∧ W'.ownsRow base 9 1 (.slice a' (gs ++ fs).length c') (gs ++ fs).length (scells (gs ++ fs)) ∧ W.grownBy W' v.ownBlock := by
  obtain ⟨i, hi, hz, hs, hby⟩ := info_parts info9
  rcases hF with ⟨a, c, rfl, rfl⟩ | ⟨b, o, c, rfl, hc, hlt, hcell⟩
  · obtain ⟨a0, c0, hv⟩ := own_shape hown
    rw [List.append_nil]
    refine ⟨a0, c0, W, ?_, by rw [← hv]; exact hown, World.grownBy.refl _ _⟩
    have hle : gs.length ≤ c0 := by
      rcases hown.2 with ⟨rfl, h0⟩ | ⟨g, cap, cur, rfl, _, _, hle, _⟩
      · omega
      · simp only [Value.slice.injEq] at hv; omega
    rw [hv]
    cases a <;> cases a0 <;> simp [Builtin.append_, run_underlying u34, sizeOf, typeInfo, hi, Builtin.lenOf, Builtin.firstCells, hle, storeCells, loadCells, loadCellsFrom]
  · obtain ⟨v', W', hr, h2, h3, _⟩ := run_append_own (P := Tryz.prog) W base 34 ty 9 i _ 1 16 u34 hi hz hs hby rfl (by omega) v gs.length (scells gs) hown ⟨b, o, none⟩ fs.length c (scells fs)
      (by rw [scells_len, Nat.mul_one]) (fun j u hu => by
        rw [add_atS]
        unfold scells at hu
        rw [List.getElem?_map] at hu
        cases hl : fs[j]? with
        | none => rw [hl] at hu; cases hu
        | some l =>
          rw [hl] at hu
          rw [hcell j l hl]
          simpa using hu) (scells_one fs) (by unfold maxLen; omega) (by omega) hbase
    obtain ⟨a', c', rfl⟩ := own_shape h2
    rw [List.length_append, scells_app]
    exact ⟨a', c', W', hr, h2, h3⟩
theorem wpList_copyS {ops : Array Oper} {rest : List Oper} {o : Oper} {a : Act} {Q : Exit → Act → World → Prop} {W : World} (hgd : o.guard = none) (s x : Operand)
    (ho : o.op = .call { callee := .builtin .append, args := #[s, x], argTypes := #[34, 34] })
    (v vx : Value) (fs gs : List Bs) (base : Nat) (hs : a.eval s = v) (hx : a.eval x = vx) (hF : StrsAt W vx fs) (hown : W.ownsRow base 9 1 v gs.length (scells gs)) (hn : gs.length + fs.length ≤ 100000) (hbase : base ≤ W.heap.size)
    (h : ∀ a' c' W', W'.ownsRow base 9 1 (.slice a' (gs ++ fs).length c') (gs ++ fs).length (scells (gs ++ fs)) → W.grownBy W' v.ownBlock → wpList Tryz.prog ops Q rest (a.put o.dst (.slice a' (gs ++ fs).length c')) W') :
    wpList Tryz.prog ops Q (o :: rest) a W := by
  refine wpList_plain hgd fun K hK => ?_
  obtain ⟨a', c', W', hr, h2, h3⟩ := run_copyS o.type hF hown hn hbase
  unfold Oper.wp execOp
  simp only [ho, resolve, invoke, builtin, Sem.run_bind, Sem.run_pure, Result.andThen_ok, List.map_toArray, List.map_cons, List.map_nil, hs, hx, hr]
  exact hK _ _ (h a' c' W' h2 h3)
end Go.Proofs.YtmkpejioinkceaaGreatDoor
