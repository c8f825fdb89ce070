/- The walk of the table of variables. -/
import Derived.Test.YtoipnaoijccokaaDoorMaps
import Derived.Test.YtoipnaoijccokaaDoorVars1
import Derived.Test.YtoipnaoijccokaaDoorVars1
namespace Go.Proofs.YtoipnaoijccokaaDoor
open Go.RowKit
set_option linter.unusedVariables false

theorem wpList_insert {ops : Array Oper} {rest : List Oper} {o : Oper} {a : Act} {Q : Exit → Act → World → Prop} {W : World} (hg : o.guard = none) (m x v : Operand) (T : TypeId) (hop : o.op = Op.insert T m x v)
    (e : TypeId) (hT : Tryd.prog.underlying T = some (.map 9 e)) (b : Nat) (l : List (Bs × Value)) (hm : a.eval m = .map (some b)) (h : MapIs W b l) (k : ByteArray) (val : Value) (hx : a.eval x = .string k) (hv : a.eval v = val)
    (hk : assoc l k.data.toList = none) 
    (hK : ∀ W', MapIs W' b (l ++ [(k.data.toList, val)]) → But b W W' → wpList Tryd.prog ops Q rest (a.put o.dst undef) W') :
    wpList Tryd.prog ops Q (o :: rest) a W := by
  refine wpList_plain hg fun K' hK' => ?_
  obtain ⟨W', hrun, r1, r2⟩ := map_put h T e hT k val hk
  unfold Oper.wp
  simp [execOp, hop, hm, hx, hv, hrun, Result.andThen]
  exact hK' _ _ (hK W' r1 r2)

theorem vars_field (s : ByteArray) (w : World) : Calls Tryd.prog 26 #[.string s] w fun e w' =>
    e = .returned (.func (.func 39) #[] #[.pointer (some ⟨w.heap.size, 0, none⟩)]) ∧ w' = w.alloc (.cells #[.string s] 9) := by
  go_enter Tryd.func26, Tryd.ntmps26
  go_wp2
  go_ret
  exact ⟨rfl, rfl⟩

/-- A line of the table. -/
def rv (hdr : Bs) (f g : Value) : Value := .agg #[.string ⟨hdr.toArray⟩, f, g]
def fn0 (k : Nat) : Value := .func (.func k) #[] #[]
def fn1 (p : Nat) : Value := .func (.func 39) #[] #[.pointer (some ⟨p, 0, none⟩)]
def ruleL (p1 p2 p3 : Nat) : List (Bs × Value) :=
  [(nHost, rv [104, 111, 115, 116] (fn0 24) (fn0 25)),
   (nReferer, rv refererName (fn1 p1) (fn0 25)),
   (nAgent, rv agentName (fn1 p2) (fn0 27)),
   (nCookie, rv cookieName (fn0 28) (fn0 29)),
   (nQuery, rv [] (fn0 30) (fn0 31)),
   (nLang, rv langName (fn1 p3) (fn0 32))]
/-- The table stands in block b, and its three boxes hold their names. -/
structure RulesAt (W : World) (b p1 p2 p3 : Nat) : Prop where
  map : MapIs W b (ruleL p1 p2 p3)
  c1 : W.cell? ⟨p1, 0, none⟩ = some (.string ⟨refererName.toArray⟩)
  c2 : W.cell? ⟨p2, 0, none⟩ = some (.string ⟨agentName.toArray⟩)
  c3 : W.cell? ⟨p3, 0, none⟩ = some (.string ⟨langName.toArray⟩)

theorem RulesAt.next {W W' : World} {b p1 p2 p3 : Nat} (h : RulesAt W b p1 p2 p3) (hb : Below W.heap.size W W') : RulesAt W' b p1 p2 p3 :=
  ⟨h.map.next hb, (hb.cell (p := ⟨p1, 0, none⟩) (cell_lt h.c1)).trans h.c1, (hb.cell (p := ⟨p2, 0, none⟩) (cell_lt h.c2)).trans h.c2, (hb.cell (p := ⟨p3, 0, none⟩) (cell_lt h.c3)).trans h.c3⟩

theorem urules : Tryd.prog.underlying 48 = some (.map 9 46) := by kernel_rfl

def RulesRet (w : World) (e : Ending) (w' : World) : Prop := ∃ b p1 p2 p3, e = .returned (.map (some b)) ∧ RulesAt w' b p1 p2 p3 ∧ Below w.heap.size w w'
set_option maxRecDepth 100000 in
theorem vars_rules (w : World) : Calls Tryd.prog 16 #[] w (RulesRet w) := by
  have hmm := @run_makeMap Tryd.prog
  have hM := mapIs_new w
  have hbl := w.heap.size
  have hB : Below w.heap.size w (w.alloc (.map #[] 0)) := (Below.refl _ _).alloc (Nat.le_refl _) _
  go_enter Tryd.func16, Tryd.ntmps16
  go_wp2_with (first
    | (refine wpList_insert rfl _ _ _ _ rfl _ urules w.heap.size _ rfl (by assumption) _ _ rfl rfl (by rfl) ?_; intro W1 hM1 hB1)
    | fail)
  refine (vars_field ⟨#[114, 101, 102, 101, 114, 101, 114]⟩ _).mono ?_
  rintro e v1 ⟨rfl, hv1⟩
  have hA1 : Below W1.heap.size W1 v1 := by rw [hv1]; exact (Below.refl _ _).alloc (Nat.le_refl _) _
  have hc1 : v1.cell? ⟨W1.heap.size, 0, none⟩ = some (.string ⟨#[114, 101, 102, 101, 114, 101, 114]⟩) := by rw [hv1]; exact cell_new _ _ _ 0 _ rfl
  replace hM1 := hM1.next hA1
  clear hv1
  go_wp2_with (first
    | (refine wpList_insert rfl _ _ _ _ rfl _ urules w.heap.size _ rfl (by assumption) _ _ rfl rfl (by rfl) ?_; intro W2 hM2 hB2)
    | fail)
  refine (vars_field ⟨#[117, 115, 101, 114, 45, 97, 103, 101, 110, 116]⟩ _).mono ?_
  rintro e v2 ⟨rfl, hv2⟩
  have hA2 : Below W2.heap.size W2 v2 := by rw [hv2]; exact (Below.refl _ _).alloc (Nat.le_refl _) _
  have hc2 : v2.cell? ⟨W2.heap.size, 0, none⟩ = some (.string ⟨#[117, 115, 101, 114, 45, 97, 103, 101, 110, 116]⟩) := by rw [hv2]; exact cell_new _ _ _ 0 _ rfl
  replace hM2 := hM2.next hA2
  clear hv2
  go_wp2_with (first
    | (refine wpList_insert rfl _ _ _ _ rfl _ urules w.heap.size _ rfl hM2 _ _ rfl rfl (by rfl) ?_; intro W3 hM3 hB3; clear hM2)
    | (refine wpList_insert rfl _ _ _ _ rfl _ urules w.heap.size _ rfl hM3 _ _ rfl rfl (by rfl) ?_; intro W4 hM4 hB4; clear hM3)
    | (refine wpList_insert rfl _ _ _ _ rfl _ urules w.heap.size _ rfl hM4 _ _ rfl rfl (by rfl) ?_; intro W5 hM5 hB5; clear hM4)
    | fail)
  refine (vars_field ⟨#[97, 99, 99, 101, 112, 116, 45, 108, 97, 110, 103, 117, 97, 103, 101]⟩ _).mono ?_
  rintro e v3 ⟨rfl, hv3⟩
  have hA3 : Below W5.heap.size W5 v3 := by rw [hv3]; exact (Below.refl _ _).alloc (Nat.le_refl _) _
  have hc3 : v3.cell? ⟨W5.heap.size, 0, none⟩ = some (.string ⟨#[97, 99, 99, 101, 112, 116, 45, 108, 97, 110, 103, 117, 97, 103, 101]⟩) := by rw [hv3]; exact cell_new _ _ _ 0 _ rfl
  replace hM5 := hM5.next hA3
  clear hv3
  go_wp2_with (first
    | (refine wpList_insert rfl _ _ _ _ rfl _ urules w.heap.size _ rfl (by assumption) _ _ rfl rfl (by rfl) ?_; intro W6 hM6 hB6)
    | fail)
  have l0 : w.heap.size < (w.alloc (.map #[] 0)).heap.size := by simp
  have s1 := hB1.size
  have s2 := hB2.size
  have s3 := hB3.size
  have s4 := hB4.size
  have s5 := hB5.size
  have t1 := hA1.size
  have t2 := hA2.size
  have hE := Lib.hid (show Below w.heap.size w W6 from
    ((((((((hB.trans (hB1.below (Nat.le_refl _))).trans (hA1.mono (by omega))).trans (hB2.below (Nat.le_refl _))).trans (hA2.mono (by omega))).trans (hB3.below (Nat.le_refl _))).trans (hB4.below (Nat.le_refl _))).trans (hB5.below (Nat.le_refl _))).trans (hA3.mono (by omega))).trans (hB6.below (Nat.le_refl _)))
  have d3 : W6.cell? ⟨W5.heap.size, 0, none⟩ = _ := (hB6.cell (by omega)).trans hc3
  have e2 : W5.cell? ⟨W2.heap.size, 0, none⟩ = _ := (hB5.cell (by omega)).trans ((hB4.cell (by omega)).trans ((hB3.cell (by omega)).trans hc2))
  have d2 : W6.cell? ⟨W2.heap.size, 0, none⟩ = _ := (hB6.cell (by omega)).trans ((hA3.cell (p := ⟨W2.heap.size, 0, none⟩) (cell_lt e2)).trans e2)
  have f1 : W2.cell? ⟨W1.heap.size, 0, none⟩ = _ := (hB2.cell (by omega)).trans hc1
  have g1 : v2.cell? ⟨W1.heap.size, 0, none⟩ = _ := (hA2.cell (p := ⟨W1.heap.size, 0, none⟩) (cell_lt f1)).trans f1
  have h1 : W5.cell? ⟨W1.heap.size, 0, none⟩ = _ := (hB5.cell (by omega)).trans ((hB4.cell (by omega)).trans ((hB3.cell (by omega)).trans g1))
  have d1 : W6.cell? ⟨W1.heap.size, 0, none⟩ = _ := (hB6.cell (by omega)).trans ((hA3.cell (p := ⟨W1.heap.size, 0, none⟩) (cell_lt h1)).trans h1)
  have HM := Lib.hid (show MapIs W6 w.heap.size (ruleL W1.heap.size W2.heap.size W5.heap.size) from hM6)
  clear hM6
  go_wp2
  go_ret
  exact ⟨_, _, _, _, rfl, ⟨HM.out, d1, d2, d3⟩, hE.out⟩
end Go.Proofs.YtoipnaoijccokaaDoor
