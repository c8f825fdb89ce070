/- A map with string keys and elements of any kind, that the call makes and reads. The walk of the table of variables. Looking a name up in the table of variables; what is known, and where it comes from. -/
import Derived.MapKept
import Derived.ChangeMaps4
import Derived.RangeFuncRecord
import Derived.Test.YtbkhmkpbbggcbaaGreatDoorKVars3
import Derived.Laws.EntriesVeiled
namespace Go.Proofs.YtbkhmkpbbggcbaaGreatDoor
open Go.RowKit
set_option linter.unusedVariables false
def mkv (l : List (Bs × Value)) : List (Value × Value) := l.map fun p => (.string ⟨p.1.toArray⟩, p.2)
def MapIs (W : World) (b : Nat) (l : List (Bs × Value)) : Prop :=
  ∃ es clock, W.heap[b]? = some (.map es clock) ∧ es.toList.map (fun e => (e.key, e.val)) = mkv l
def assoc (l : List (Bs × Value)) (k : Bs) : Option Value := (l.find? (·.1 == k)).map (·.2)
theorem MapIs.lt {W : World} {b : Nat} {l : List (Bs × Value)} (h : MapIs W b l) : b < W.heap.size := by
  obtain ⟨es, c, hb, _⟩ := h; exact (Array.getElem?_eq_some_iff.1 hb).1
theorem MapIs.below {W W' : World} {b n : Nat} {l : List (Bs × Value)} (h : MapIs W b l) (hb : Below n W W') (hn : b < n) : MapIs W' b l := by
  obtain ⟨es, c, hh, he⟩ := h; exact ⟨es, c, (hb.block b hn).trans hh, he⟩
theorem MapIs.next {W W' : World} {b : Nat} {l : List (Bs × Value)} (h : MapIs W b l) (hb : Below W.heap.size W W') : MapIs W' b l := h.below hb h.lt
theorem mapIs_new (W : World) : MapIs (W.alloc (.map #[] 0)) W.heap.size [] := ⟨#[], 0, (MapKept.heap_alloc W _).1, rfl⟩
theorem beq_bytes (a b : ByteArray) : (a == b) = (a.data.toList == b.data.toList) := by
  rw [Bool.eq_iff_iff, MapKept.bytes_beq]; simp only [beq_iff_eq]
  exact ⟨fun h => by rw [h], fun h => ByteArray.ext (Array.toList_inj.1 h)⟩
theorem findNow_is (k : ByteArray) : ∀ (es : List MapEntry) (l : List (Bs × Value)) (i : Nat), es.map (fun e => (e.key, e.val)) = mkv l →
    ∃ r, Instr.findNow .string (.string k) es i = some r ∧ r.map (·.2) = assoc l k.data.toList
  | [], [], i, _ => ⟨none, rfl, rfl⟩
  | [], p :: l, i, h => by simp [mkv] at h
  | e :: es, [], i, h => by simp [mkv] at h
  | e :: es, p :: l, i, h => by
    simp only [mkv, List.map_cons, List.cons.injEq, Prod.mk.injEq] at h
    obtain ⟨⟨hk, hv⟩, hr⟩ := h
    obtain ⟨r, h1, h2⟩ := findNow_is k es l (i + 1) hr
    have hs : Instr.sameNow .string (.string k) e.key = some (p.1 == k.data.toList) := by
      rw [hk]; show some (k == (⟨p.1.toArray⟩ : ByteArray)) = _; rw [beq_bytes]; congr 1; rw [Bool.eq_iff_iff]; simp only [beq_iff_eq]; exact ⟨Eq.symm, Eq.symm⟩
    unfold Instr.findNow
    rw [hs]
    unfold assoc
    rw [List.find?_cons]
    cases hp : (p.1 == k.data.toList)
    · exact ⟨r, h1, h2⟩
    · exact ⟨some (i, e.val), rfl, by simp [hv]⟩
structure But (b : Nat) (W W' : World) : Prop where
  os : W'.os = W.os
  tape : W'.tape = W.tape
  output : W'.output = W.output
  size : W'.heap.size = W.heap.size
  block : ∀ k, k ≠ b → W'.heap[k]? = W.heap[k]?
theorem But.below {b n : Nat} {W W' : World} (h : But b W W') (hn : n ≤ b) : Below n W W' := ⟨h.os, h.tape, h.output, Nat.le_of_eq h.size.symm, fun k hk => h.block k (by omega)⟩
theorem But.cell {b p o : Nat} {W W' : World} (h : But b W W') (hn : p ≠ b) : W'.cell? ⟨p, o, none⟩ = W.cell? ⟨p, o, none⟩ := World.cell?_of_block (a := ⟨p, o, none⟩) (h.block p hn)
theorem map_put {W : World} {b : Nat} {l : List (Bs × Value)} (h : MapIs W b l) (T e : TypeId) (hT : Tryz.prog.underlying T = some (.map 9 e)) (k : ByteArray) (v : Value) (hk : assoc l k.data.toList = none) :
    ∃ W', (Instr.mapUpdate T (.map (some b)) (.string k) v).run Tryz.prog W = .ok () W' ∧ MapIs W' b (l ++ [(k.data.toList, v)]) ∧ But b W W' := by
  obtain ⟨es, clock, hb, he⟩ := h
  obtain ⟨r, h1, h2⟩ := findNow_is k es.toList l 0 he
  rw [hk] at h2
  cases r with
  | some x => cases h2
  | none =>
  have hc := MapKept.run_checkKey (P := Tryz.prog) (w := W) u9 (k := .string k) trivial false 9999
  refine ⟨W.putObj b (.map (es.push { key := .string k, val := v, born := clock }) (clock + 1)), ?_, ⟨_, _, World.putObj_heap_same ((Array.getElem?_eq_some_iff.1 hb).1), ?_⟩, ?_⟩
  · unfold Instr.mapUpdate
    simp [run_underlying hT, MapKept.run_getObj_map hb, hc, MapKept.run_findKey u9 h1, MapKept.run_setObj_map _ hb, Result.andThen, World.putObj]
  · rw [Array.toList_push, List.map_append, he]; simp [mkv]
  · exact ⟨rfl, rfl, rfl, by simp, fun j hj => World.putObj_heap_other hj⟩
theorem map_get {W : World} {b : Nat} {l : List (Bs × Value)} (h : MapIs W b l) (T e : TypeId) (hT : Tryz.prog.underlying T = some (.map 9 e)) (z : Value) (hz : (zeroValue e).run Tryz.prog W = .ok z W) (k : ByteArray) (ok : Bool) :
    (Instr.lookup T (.map (some b)) (.string k) ok).run Tryz.prog W = .ok (bif ok then .tuple #[(assoc l k.data.toList).getD z, .bool (assoc l k.data.toList).isSome] else (assoc l k.data.toList).getD z) W := by
  obtain ⟨es, clock, hb, he⟩ := h
  obtain ⟨r, h1, h2⟩ := findNow_is k es.toList l 0 he
  have hc := MapKept.run_checkKey (P := Tryz.prog) (w := W) u9 (k := .string k) trivial es.isEmpty 9999
  unfold Instr.lookup
  rw [← h2]
  have hf := MapKept.run_findKey (w := W) (P := Tryz.prog) u9 h1
  cases r with
  | none => cases ok <;> simp [run_underlying hT, MapKept.run_getObj_map hb, hc, hf, hz, Result.andThen]
  | some x => cases ok <;> simp [run_underlying hT, MapKept.run_getObj_map hb, hc, hf, Result.andThen]
end Go.Proofs.YtbkhmkpbbggcbaaGreatDoor
namespace Go.Proofs.YtbkhmkpbbggcbaaGreatDoor
open Go.RowKit
set_option linter.unusedVariables false
theorem wpList_insert {ops : Array Oper} {rest : List Oper} {o : Oper} {a : Act} {Q : Exit → Act → World → Prop} {W : World} (hg : o.guard = none) (m x v : Operand) (T : TypeId) (hop : o.op = Op.insert T m x v)
    (e : TypeId) (hT : Tryz.prog.underlying T = some (.map 9 e)) (b : Nat) (l : List (Bs × Value)) (hm : a.eval m = .map (some b)) (h : MapIs W b l) (k : ByteArray) (val : Value) (hx : a.eval x = .string k) (hv : a.eval v = val)
    (hk : assoc l k.data.toList = none)
    (hK : ∀ W', MapIs W' b (l ++ [(k.data.toList, val)]) → But b W W' → wpList Tryz.prog ops Q rest (a.put o.dst undef) W') :
    wpList Tryz.prog ops Q (o :: rest) a W := by
  refine wpList_plain hg fun K' hK' => ?_
  obtain ⟨W', hrun, r1, r2⟩ := map_put h T e hT k val hk
  unfold Oper.wp
  simp [execOp, hop, hm, hx, hv, hrun, Result.andThen]
  exact hK' _ _ (hK W' r1 r2)
theorem vars_field (s : ByteArray) (w : World) : Calls Tryz.prog 101 #[.string s] w fun e w' =>
    e = .returned (.func (.func 110) #[] #[.pointer (some ⟨w.heap.size, 0, none⟩)]) ∧ w' = w.alloc (.cells #[.string s] 9) := by
  go_enter Tryz.func101, Tryz.ntmps101
  go_wp2
  go_ret
  exact ⟨rfl, rfl⟩
def rv (hdr : Bs) (f g : Value) : Value := .agg #[.string ⟨hdr.toArray⟩, f, g]
def fn0 (k : Nat) : Value := .func (.func k) #[] #[]
def fn1 (p : Nat) : Value := .func (.func 110) #[] #[.pointer (some ⟨p, 0, none⟩)]
def ruleL (p1 p2 p3 : Nat) : List (Bs × Value) :=
  [(nHost, rv [104, 111, 115, 116] (fn0 99) (fn0 100)),
   (nReferer, rv refererName (fn1 p1) (fn0 100)),
   (nAgent, rv agentName (fn1 p2) (fn0 102)),
   (nCookie, rv cookieName (fn0 103) (fn0 104)),
   (nQuery, rv [] (fn0 105) (fn0 106)),
   (nLang, rv langName (fn1 p3) (fn0 107))]
structure RulesAt (W : World) (b p1 p2 p3 : Nat) : Prop where
  map : MapIs W b (ruleL p1 p2 p3)
  c1 : W.cell? ⟨p1, 0, none⟩ = some (.string ⟨refererName.toArray⟩)
  c2 : W.cell? ⟨p2, 0, none⟩ = some (.string ⟨agentName.toArray⟩)
  c3 : W.cell? ⟨p3, 0, none⟩ = some (.string ⟨langName.toArray⟩)
theorem RulesAt.next {W W' : World} {b p1 p2 p3 : Nat} (h : RulesAt W b p1 p2 p3) (hb : Below W.heap.size W W') : RulesAt W' b p1 p2 p3 :=
  ⟨h.map.next hb, (hb.cell (p := ⟨p1, 0, none⟩) (cell_lt h.c1)).trans h.c1, (hb.cell (p := ⟨p2, 0, none⟩) (cell_lt h.c2)).trans h.c2, (hb.cell (p := ⟨p3, 0, none⟩) (cell_lt h.c3)).trans h.c3⟩
theorem urules : Tryz.prog.underlying 116 = some (.map 9 114) := by kernel_rfl
def RulesRet (w : World) (e : Ending) (w' : World) : Prop := ∃ b p1 p2 p3, e = .returned (.map (some b)) ∧ RulesAt w' b p1 p2 p3 ∧ Below w.heap.size w w'
set_option maxRecDepth 100000 in
theorem vars_rules (w : World) : Calls Tryz.prog 90 #[] w (RulesRet w) := by
  have hmm := @run_makeMap Tryz.prog
  have hM := mapIs_new w
  have hbl := w.heap.size
  have hB : Below w.heap.size w (w.alloc (.map #[] 0)) := (Below.refl _ _).alloc (Nat.le_refl _) _
  go_enter Tryz.func90, Tryz.ntmps90
  go_wp2_with (first
    | (refine wpList_insert rfl _ _ _ _ rfl _ urules w.heap.size _ rfl (by assumption) _ _ rfl rfl (by rfl) ?_; intro W1 hM1 hB1)
    | fail)
  refine (vars_field ⟨#[114, 101, 102, 101, 114, 101, 114]⟩ _).mono ?_
  rintro e v1 ⟨rfl, hv1⟩
  have hA1 : Below W1.heap.size W1 v1 := by rw [hv1]; exact (Below.refl _ _).alloc (Nat.le_refl _) _
  have hc1 : v1.cell? ⟨W1.heap.size, 0, none⟩ = some (.string ⟨#[114, 101, 102, 101, 114, 101, 114]⟩) := by rw [hv1]; exact cell_new _ _ _ 0 _ rfl
  replace hM1 := hM1.next hA1
  clear hv1
  go_wp2_with (first
    | (refine wpList_insert rfl _ _ _ _ rfl _ urules w.heap.size _ rfl (by assumption) _ _ rfl rfl (by rfl) ?_; intro W2 hM2 hB2)
    | fail)
  refine (vars_field ⟨#[117, 115, 101, 114, 45, 97, 103, 101, 110, 116]⟩ _).mono ?_
  rintro e v2 ⟨rfl, hv2⟩
  have hA2 : Below W2.heap.size W2 v2 := by rw [hv2]; exact (Below.refl _ _).alloc (Nat.le_refl _) _
  have hc2 : v2.cell? ⟨W2.heap.size, 0, none⟩ = some (.string ⟨#[117, 115, 101, 114, 45, 97, 103, 101, 110, 116]⟩) := by rw [hv2]; exact cell_new _ _ _ 0 _ rfl
  replace hM2 := hM2.next hA2
  clear hv2
  go_wp2_with (first
    | (refine wpList_insert rfl _ _ _ _ rfl _ urules w.heap.size _ rfl hM2 _ _ rfl rfl (by rfl) ?_; intro W3 hM3 hB3; clear hM2)
    | (refine wpList_insert rfl _ _ _ _ rfl _ urules w.heap.size _ rfl hM3 _ _ rfl rfl (by rfl) ?_; intro W4 hM4 hB4; clear hM3)
    | (refine wpList_insert rfl _ _ _ _ rfl _ urules w.heap.size _ rfl hM4 _ _ rfl rfl (by rfl) ?_; intro W5 hM5 hB5; clear hM4)
    | fail)
  refine (vars_field ⟨#[97, 99, 99, 101, 112, 116, 45, 108, 97, 110, 103, 117, 97, 103, 101]⟩ _).mono ?_
  rintro e v3 ⟨rfl, hv3⟩
  have hA3 : Below W5.heap.size W5 v3 := by rw [hv3]; exact (Below.refl _ _).alloc (Nat.le_refl _) _
  have hc3 : v3.cell? ⟨W5.heap.size, 0, none⟩ = some (.string ⟨#[97, 99, 99, 101, 112, 116, 45, 108, 97, 110, 103, 117, 97, 103, 101]⟩) := by rw [hv3]; exact cell_new _ _ _ 0 _ rfl
  replace hM5 := hM5.next hA3
  clear hv3
  go_wp2_with (first
    | (refine wpList_insert rfl _ _ _ _ rfl _ urules w.heap.size _ rfl (by assumption) _ _ rfl rfl (by rfl) ?_; intro W6 hM6 hB6)
    | fail)
  have l0 : w.heap.size < (w.alloc (.map #[] 0)).heap.size := by simp
  have s1 := hB1.size
  have s2 := hB2.size
  have s3 := hB3.size
  have s4 := hB4.size
  have s5 := hB5.size
  have t1 := hA1.size
  have t2 := hA2.size
  have hE := Lib.hid (show Below w.heap.size w W6 from
    ((((((((hB.trans (hB1.below (Nat.le_refl _))).trans (hA1.mono (by omega))).trans (hB2.below (Nat.le_refl _))).trans (hA2.mono (by omega))).trans (hB3.below (Nat.le_refl _))).trans (hB4.below (Nat.le_refl _))).trans (hB5.below (Nat.le_refl _))).trans (hA3.mono (by omega))).trans (hB6.below (Nat.le_refl _)))
  have d3 : W6.cell? ⟨W5.heap.size, 0, none⟩ = _ := (hB6.cell (by omega)).trans hc3
  have e2 : W5.cell? ⟨W2.heap.size, 0, none⟩ = _ := (hB5.cell (by omega)).trans ((hB4.cell (by omega)).trans ((hB3.cell (by omega)).trans hc2))
  have d2 : W6.cell? ⟨W2.heap.size, 0, none⟩ = _ := (hB6.cell (by omega)).trans ((hA3.cell (p := ⟨W2.heap.size, 0, none⟩) (cell_lt e2)).trans e2)
  have f1 : W2.cell? ⟨W1.heap.size, 0, none⟩ = _ := (hB2.cell (by omega)).trans hc1
  have g1 : v2.cell? ⟨W1.heap.size, 0, none⟩ = _ := (hA2.cell (p := ⟨W1.heap.size, 0, none⟩) (cell_lt f1)).trans f1
  have h1 : W5.cell? ⟨W1.heap.size, 0, none⟩ = _ := (hB5.cell (by omega)).trans ((hB4.cell (by omega)).trans ((hB3.cell (by omega)).trans g1))
  have d1 : W6.cell? ⟨W1.heap.size, 0, none⟩ = _ := (hB6.cell (by omega)).trans ((hA3.cell (p := ⟨W1.heap.size, 0, none⟩) (cell_lt h1)).trans h1)
  have HM := Lib.hid (show MapIs W6 w.heap.size (ruleL W1.heap.size W2.heap.size W5.heap.size) from hM6)
  clear hM6
  go_wp2
  go_ret
  exact ⟨_, _, _, _, rfl, ⟨HM.out, d1, d2, d3⟩, hE.out⟩
end Go.Proofs.YtbkhmkpbbggcbaaGreatDoor
namespace Go.Proofs.YtbkhmkpbbggcbaaGreatDoor
open Go.RowKit
set_option linter.unusedVariables false
theorem zinfo : Tryz.t114.zero = some (.agg #[.string ⟨#[]⟩, .nilFunc, .nilFunc]) := by kernel_rfl
theorem zrule (W : World) : (zeroValue 114).run Tryz.prog W = .ok (.agg #[.string ⟨#[]⟩, .nilFunc, .nilFunc]) W := by
  simp [zeroValue, go_sem, zinfo]
theorem name_cases (name : Bs) : name = nHost ∨ name = nReferer ∨ name = nAgent ∨ name = nCookie ∨ name = nQuery ∨ name = nLang ∨ vknown name = false := by
  by_cases h1 : name = nHost
  · exact .inl h1
  by_cases h2 : name = nReferer
  · exact .inr (.inl h2)
  by_cases h3 : name = nAgent
  · exact .inr (.inr (.inl h3))
  by_cases h4 : name = nCookie
  · exact .inr (.inr (.inr (.inl h4)))
  by_cases h5 : name = nQuery
  · exact .inr (.inr (.inr (.inr (.inl h5))))
  by_cases h6 : name = nLang
  · exact .inr (.inr (.inr (.inr (.inr (.inl h6)))))
  refine .inr (.inr (.inr (.inr (.inr (.inr ?_)))))
  unfold vknown names tab
  simp only [List.map_cons, List.map_nil, List.any_cons, List.any_nil, beq_eq_false_iff_ne.2 (Ne.symm h1), beq_eq_false_iff_ne.2 (Ne.symm h2), beq_eq_false_iff_ne.2 (Ne.symm h3), beq_eq_false_iff_ne.2 (Ne.symm h4), beq_eq_false_iff_ne.2 (Ne.symm h5), beq_eq_false_iff_ne.2 (Ne.symm h6), Bool.or_false]
theorem none_ne {name n : Bs} (h : vknown name = false) (hn : n ∈ names) : (n == name) = false := by
  unfold vknown at h
  rw [List.any_eq_false] at h
  simpa using h n hn
theorem assoc_none {name : Bs} (h : vknown name = false) (p1 p2 p3 : Nat) : assoc (ruleL p1 p2 p3) name = none := by
  unfold assoc ruleL
  simp only [List.find?_cons, none_ne h (n := nHost) (by decide), none_ne h (n := nReferer) (by decide), none_ne h (n := nAgent) (by decide), none_ne h (n := nCookie) (by decide), none_ne h (n := nQuery) (by decide), none_ne h (n := nLang) (by decide)]
  rfl
theorem name_lit {name : ByteArray} {l : Bs} (h : name.data.toList = l) : name = ⟨l.toArray⟩ := bs_ext h
theorem look2_0 {W : World} {b p1 p2 p3 : Nat} (h : RulesAt W b p1 p2 p3) :
    (Instr.lookup 116 (.map (some b)) (.string ⟨nHost.toArray⟩) true).run Tryz.prog W = .ok (.tuple #[.agg #[.string ⟨[104, 111, 115, 116].toArray⟩, (.func (.func 99) #[] #[]), (.func (.func 100) #[] #[])], .bool true]) W := map_get h.map _ _ urules _ (zrule W) _ _
theorem look2_1 {W : World} {b p1 p2 p3 : Nat} (h : RulesAt W b p1 p2 p3) :
    (Instr.lookup 116 (.map (some b)) (.string ⟨nReferer.toArray⟩) true).run Tryz.prog W = .ok (.tuple #[.agg #[.string ⟨refererName.toArray⟩, (.func (.func 110) #[] #[.pointer (some ⟨p1, 0, none⟩)]), (.func (.func 100) #[] #[])], .bool true]) W := map_get h.map _ _ urules _ (zrule W) _ _
theorem look2_2 {W : World} {b p1 p2 p3 : Nat} (h : RulesAt W b p1 p2 p3) :
    (Instr.lookup 116 (.map (some b)) (.string ⟨nAgent.toArray⟩) true).run Tryz.prog W = .ok (.tuple #[.agg #[.string ⟨agentName.toArray⟩, (.func (.func 110) #[] #[.pointer (some ⟨p2, 0, none⟩)]), (.func (.func 102) #[] #[])], .bool true]) W := map_get h.map _ _ urules _ (zrule W) _ _
theorem look2_3 {W : World} {b p1 p2 p3 : Nat} (h : RulesAt W b p1 p2 p3) :
    (Instr.lookup 116 (.map (some b)) (.string ⟨nCookie.toArray⟩) true).run Tryz.prog W = .ok (.tuple #[.agg #[.string ⟨cookieName.toArray⟩, (.func (.func 103) #[] #[]), (.func (.func 104) #[] #[])], .bool true]) W := map_get h.map _ _ urules _ (zrule W) _ _
theorem look2_4 {W : World} {b p1 p2 p3 : Nat} (h : RulesAt W b p1 p2 p3) :
    (Instr.lookup 116 (.map (some b)) (.string ⟨nQuery.toArray⟩) true).run Tryz.prog W = .ok (.tuple #[.agg #[.string ⟨#[]⟩, (.func (.func 105) #[] #[]), (.func (.func 106) #[] #[])], .bool true]) W := map_get h.map _ _ urules _ (zrule W) _ _
theorem look2_5 {W : World} {b p1 p2 p3 : Nat} (h : RulesAt W b p1 p2 p3) :
    (Instr.lookup 116 (.map (some b)) (.string ⟨nLang.toArray⟩) true).run Tryz.prog W = .ok (.tuple #[.agg #[.string ⟨langName.toArray⟩, (.func (.func 110) #[] #[.pointer (some ⟨p3, 0, none⟩)]), (.func (.func 107) #[] #[])], .bool true]) W := map_get h.map _ _ urules _ (zrule W) _ _
theorem look2_6 {W : World} {b p1 p2 p3 : Nat} (h : RulesAt W b p1 p2 p3) {name : ByteArray} (hn : vknown name.data.toList = false) :
    (Instr.lookup 116 (.map (some b)) (.string name) true).run Tryz.prog W = .ok (.tuple #[.agg #[.string ⟨#[]⟩, .nilFunc, .nilFunc], .bool false]) W := by
  have := map_get h.map _ _ urules _ (zrule W) name true
  rw [assoc_none hn] at this
  exact this
end Go.Proofs.YtbkhmkpbbggcbaaGreatDoor
