/- The walks of truth's small functions: so, kids, number, order, holds, compares. -/
import Derived.Test.YtehdeclpighdeaaGreatDoorKTestT2
import Derived.Test.YtehdeclpighdeaaGreatDoorKTruthP
import Derived.Lib.AtoiErrMem
namespace Go.Proofs.YtehdeclpighdeaaGreatDoor
open Go.RowKit
set_option linter.unusedVariables false
abbrev tvV : TV → Value
  | .none => .nilIface
  | .txt s => .iface 133 (.string ⟨s.toArray⟩)
  | .yes b => .iface 135 (.bool b)
def Same9 (w : World) (v : Value) : Ending → World → Prop := fun e w' => e = .returned v ∧ w' = w
theorem trim_all (cs : Bs) (p : UInt8 → Bool) (hp : (fun c => cs.contains c) = p) (l : Bs) : (Lib.trimS l cs == []) = l.all p := by
  rw [Bool.eq_iff_iff, beq_iff_eq]
  have e : Lib.trimS l cs = List.dropWhile p (List.dropWhile p l.reverse).reverse := by rw [← hp]; rfl
  rw [e, dropWhile_nil_iff, List.all_reverse]
  constructor
  · intro h
    have h2 : l.reverse.dropWhile p = [] := by
      cases hd : l.reverse.dropWhile p with
      | nil => rfl
      | cons c r =>
        rw [hd, List.all_cons, Bool.and_eq_true] at h
        have h3 := List.head?_dropWhile_not p l.reverse
        rw [hd] at h3
        simp only [List.head?_cons] at h3
        rw [h.1] at h3; cases h3
    rw [dropWhile_nil_iff, List.all_reverse] at h2
    exact h2
  · intro h
    have h2 : l.reverse.dropWhile p = [] := by rw [dropWhile_nil_iff, List.all_reverse]; exact h
    rw [h2]; rfl
set_option maxRecDepth 100000 in
theorem me_words (s : ByteArray) (n : Nat) (w : World) : (method (n + 1) 133 (.string s) "inlay/truth.holds").run Tryz.prog w = .ok (226, .string s) w := by kernel_rfl
set_option maxRecDepth 100000 in
theorem me_yes (b : Bool) (n : Nat) (w : World) : (method (n + 1) 135 (.bool b) "inlay/truth.holds").run Tryz.prog w = .ok (227, .bool b) w := by kernel_rfl
set_option maxRecDepth 100000 in
theorem tr_wholds (s : Bs) (w : World) : Calls Tryz.prog 226 #[.string ⟨s.toArray⟩] w (Same9 w (.bool (soB (.txt s)))) := by
  rcases Decidable.em (s = []) with rfl | h1
  · go_enter Tryz.func226, Tryz.ntmps226
    go_wp2_with fail
    go_ret
    exact ⟨rfl, rfl⟩
  · have e1 : (s == []) = false := beq_eq_false_iff_ne.2 h1
    rcases Decidable.em (s = falseB) with rfl | h2
    · clear h1 e1
      go_enter Tryz.func226, Tryz.ntmps226
      go_wp2_with fail
      go_ret
      exact ⟨rfl, rfl⟩
    · have e2 : (s == [102, 97, 108, 115, 101]) = false := beq_eq_false_iff_ne.2 h2
      have HE := Lib.hid (show soB (.txt s) = true by
        have e3 : (s == falseB) = false := e2
        show ((!(s == [])) && (!(s == falseB))) = true
        rw [e1, e3]; rfl)
      clear h1 h2
      go_enter Tryz.func226, Tryz.ntmps226
      go_wp2_with fail
      go_ret
      exact ⟨(by rw [HE.out]; try rfl), rfl⟩
set_option maxRecDepth 100000 in
theorem tr_yholds (b : Bool) (w : World) : Calls Tryz.prog 227 #[.bool b] w (Same9 w (.bool b)) := by
  go_enter Tryz.func227, Tryz.ntmps227
  go_wp2_with fail
  go_ret
  exact ⟨rfl, rfl⟩
set_option maxRecDepth 100000 in
theorem tr_so (x : TV) (w : World) : Calls Tryz.prog 57 #[tvV x] w (Same9 w (.bool (soB x))) := by
  cases x with
  | none =>
    go_enter Tryz.func57, Tryz.ntmps57
    go_wp2_with fail
    go_ret
    exact ⟨rfl, rfl⟩
  | txt s =>
    have hm := me_words ⟨s.toArray⟩
    go_enter Tryz.func57, Tryz.ntmps57
    go_wp2_with fail
    refine (tr_wholds s w).mono ?_
    rintro e w1 ⟨rfl, rfl⟩
    go_wp2_with fail
    go_ret
    exact ⟨rfl, rfl⟩
  | yes b =>
    have hm := me_yes b
    go_enter Tryz.func57, Tryz.ntmps57
    go_wp2_with fail
    refine (tr_yholds b w).mono ?_
    rintro e w1 ⟨rfl, rfl⟩
    go_wp2_with fail
    go_ret
    exact ⟨rfl, rfl⟩
set_option maxRecDepth 100000 in
set_option maxHeartbeats 4000000 in
theorem tr_kids (k : Int) (w : World) : Calls Tryz.prog 80 #[.int .i64 k] w (Ret w (.int .i64 (kidsN k))) := by
  rcases Decidable.em (k = 10) with rfl | h10
  · go_enter Tryz.func80, Tryz.ntmps80
    go_wp2_with fail
    go_ret
    exact ⟨rfl, Below.refl _ _⟩
  rcases Decidable.em (k = 11) with rfl | h11
  · go_enter Tryz.func80, Tryz.ntmps80
    go_wp2_with fail
    go_ret
    exact ⟨rfl, Below.refl _ _⟩
  rcases Decidable.em (k = 12) with rfl | h12
  · go_enter Tryz.func80, Tryz.ntmps80
    go_wp2_with fail
    go_ret
    exact ⟨rfl, Below.refl _ _⟩
  rcases Decidable.em (k = 3) with rfl | h3
  · go_enter Tryz.func80, Tryz.ntmps80
    go_wp2_with fail
    go_ret
    exact ⟨rfl, Below.refl _ _⟩
  rcases Decidable.em (k = 1) with rfl | h1
  · go_enter Tryz.func80, Tryz.ntmps80
    go_wp2_with fail
    go_ret
    exact ⟨rfl, Below.refl _ _⟩
  rcases Decidable.em (k = 2) with rfl | h2
  · go_enter Tryz.func80, Tryz.ntmps80
    go_wp2_with fail
    go_ret
    exact ⟨rfl, Below.refl _ _⟩
  rcases Decidable.em (k = 4) with rfl | h4
  · go_enter Tryz.func80, Tryz.ntmps80
    go_wp2_with fail
    go_ret
    exact ⟨rfl, Below.refl _ _⟩
  rcases Decidable.em (k = 5) with rfl | h5
  · go_enter Tryz.func80, Tryz.ntmps80
    go_wp2_with fail
    go_ret
    exact ⟨rfl, Below.refl _ _⟩
  rcases Decidable.em (k = 6) with rfl | h6
  · go_enter Tryz.func80, Tryz.ntmps80
    go_wp2_with fail
    go_ret
    exact ⟨rfl, Below.refl _ _⟩
  rcases Decidable.em (k = 7) with rfl | h7
  · go_enter Tryz.func80, Tryz.ntmps80
    go_wp2_with fail
    go_ret
    exact ⟨rfl, Below.refl _ _⟩
  rcases Decidable.em (k = 8) with rfl | h8
  · go_enter Tryz.func80, Tryz.ntmps80
    go_wp2_with fail
    go_ret
    exact ⟨rfl, Below.refl _ _⟩
  rcases Decidable.em (k = 9) with rfl | h9
  · go_enter Tryz.func80, Tryz.ntmps80
    go_wp2_with fail
    go_ret
    exact ⟨rfl, Below.refl _ _⟩
  have HE := Lib.hid (show kidsN k = -1 by rcases kids_cases k with h | h | h | h <;> omega)
  have e10 : (k == 10) = false := beq_eq_false_iff_ne.2 h10
  have e11 : (k == 11) = false := beq_eq_false_iff_ne.2 h11
  have e12 : (k == 12) = false := beq_eq_false_iff_ne.2 h12
  have e3 : (k == 3) = false := beq_eq_false_iff_ne.2 h3
  have e1 : (k == 1) = false := beq_eq_false_iff_ne.2 h1
  have e2 : (k == 2) = false := beq_eq_false_iff_ne.2 h2
  have e4 : (k == 4) = false := beq_eq_false_iff_ne.2 h4
  have e5 : (k == 5) = false := beq_eq_false_iff_ne.2 h5
  have e6 : (k == 6) = false := beq_eq_false_iff_ne.2 h6
  have e7 : (k == 7) = false := beq_eq_false_iff_ne.2 h7
  have e8 : (k == 8) = false := beq_eq_false_iff_ne.2 h8
  have e9 : (k == 9) = false := beq_eq_false_iff_ne.2 h9
  clear h10 h11 h12 h3 h1 h2 h4 h5 h6 h7 h8 h9
  go_enter Tryz.func80, Tryz.ntmps80
  go_wp2_with fail
  go_ret
  exact ⟨(by rw [HE.out]; try rfl), Below.refl _ _⟩
set_option maxRecDepth 100000 in
set_option maxHeartbeats 4000000 in
theorem tr_holds (k o : Int) (w : World) : Calls Tryz.prog 100 #[.int .i64 k, .int .i64 o] w (Same9 w (.bool (holdsB k o))) := by
  rcases Decidable.em (k = 4) with rfl | h4
  · go_enter Tryz.func100, Tryz.ntmps100
    go_wp2_with fail
    all_goals
      go_ret
      exact ⟨ret_bool (by simp [holdsB]), rfl⟩
  rcases Decidable.em (k = 5) with rfl | h5
  · go_enter Tryz.func100, Tryz.ntmps100
    go_wp2_with fail
    all_goals
      go_ret
      exact ⟨ret_bool (by simp [holdsB]), rfl⟩
  rcases Decidable.em (k = 6) with rfl | h6
  · go_enter Tryz.func100, Tryz.ntmps100
    go_wp2_with fail
    all_goals
      go_ret
      exact ⟨ret_bool (by simp [holdsB]), rfl⟩
  rcases Decidable.em (k = 7) with rfl | h7
  · go_enter Tryz.func100, Tryz.ntmps100
    go_wp2_with fail
    all_goals
      go_ret
      exact ⟨ret_bool (by simp [holdsB]), rfl⟩
  rcases Decidable.em (k = 8) with rfl | h8
  · go_enter Tryz.func100, Tryz.ntmps100
    go_wp2_with fail
    all_goals
      go_ret
      exact ⟨ret_bool (by simp [holdsB]), rfl⟩
  have HE := Lib.hid (show holdsB k o = decide (0 ≤ o) by unfold holdsB; rw [if_neg h4, if_neg h5, if_neg h6, if_neg h7, if_neg h8])
  have e4 : (k == 4) = false := beq_eq_false_iff_ne.2 h4
  have e5 : (k == 5) = false := beq_eq_false_iff_ne.2 h5
  have e6 : (k == 6) = false := beq_eq_false_iff_ne.2 h6
  have e7 : (k == 7) = false := beq_eq_false_iff_ne.2 h7
  have e8 : (k == 8) = false := beq_eq_false_iff_ne.2 h8
  clear h4 h5 h6 h7 h8
  go_enter Tryz.func100, Tryz.ntmps100
  go_wp2_with fail
  all_goals
    go_ret
    exact ⟨(by rw [HE.out]; try rfl), rfl⟩
set_option maxRecDepth 100000 in
theorem tr_nan (s : Bs) (w : World) : Calls Tryz.prog 148 #[.string ⟨s.toArray⟩] w (Same9 w (.bool false)) := by
  go_enter Tryz.func148, Tryz.ntmps148
  go_wp2_with fail
  go_ret
  exact ⟨rfl, rfl⟩
set_option maxRecDepth 100000 in
set_option maxHeartbeats 4000000 in
theorem tr_cmpS (a b : Bs) (w : World) : Calls Tryz.prog 123 #[.string ⟨a.toArray⟩, .string ⟨b.toArray⟩] w (Same9 w (.int .i64 (cmpB a b))) := by
  have HE := Lib.hid (show cmpB a b = if Op.bytesLess a b = true then -1 else if a = b then 0 else 1 from rfl)
  obtain ⟨q, hq⟩ : ∃ q, Op.bytesLess a b = q := ⟨_, rfl⟩
  rw [hq] at HE
  go_enter Tryz.func123, Tryz.ntmps123
  go_wp2_with fail
  refine (tr_nan a w).mono ?_
  rintro e w1 ⟨rfl, rfl⟩
  go_wp2_with fail
  refine (tr_nan b w1).mono ?_
  rintro e w2 ⟨rfl, rfl⟩
  cases q
  · rcases Decidable.em (a = b) with rfl | hab
    · have HEE := Lib.hid (show cmpB a a = 0 by rw [HE.out]; simp)
      go_wp2_with fail
      go_ret
      exact ⟨(by rw [HEE.out]; try rfl), rfl⟩
    · have e1 : (a == b) = false := beq_eq_false_iff_ne.2 hab
      have HEE := Lib.hid (show cmpB a b = 1 by rw [HE.out, if_neg hab]; rfl)
      clear hab
      go_wp2_with fail
      go_ret
      exact ⟨(by rw [HEE.out]; try rfl), rfl⟩
  · have HEE := Lib.hid (show cmpB a b = -1 by rw [HE.out]; rfl)
    go_wp2_with fail
    go_ret
    exact ⟨(by rw [HEE.out]; try rfl), rfl⟩
theorem num_yes {s : Bs} {N : Int} {q : Bool} (h : (if numOk s = true then (numV s : Int) else 0) = N ∧ numOk s = q) (h1 : numOk s = true) : (numV s : Int) = N ∧ true = q := by
  rw [if_pos h1, h1] at h; exact h
theorem num_no {s : Bs} {N : Int} {q : Bool} (h : (if numOk s = true then (numV s : Int) else 0) = N ∧ numOk s = q) (h1 : numOk s = false) : (0 : Int) = N ∧ false = q := by
  rw [if_neg (by rw [h1]; decide), h1] at h; exact h
set_option maxRecDepth 100000 in
set_option maxHeartbeats 4000000 in
theorem tr_number (s : Bs) (hs : s.length ≤ 200000000) (w : World) : Calls Tryz.prog 121 #[.string ⟨s.toArray⟩] w (Ret w (.tuple #[.int .i64 (if numOk s = true then (numV s : Int) else 0), .bool (numOk s)])) := by
  obtain ⟨N, hN⟩ : ∃ N : Int, (if numOk s = true then (numV s : Int) else 0) = N := ⟨_, rfl⟩
  obtain ⟨q, hq⟩ : ∃ q, numOk s = q := ⟨_, rfl⟩
  rw [hN, hq]
  have HNQ := Lib.hid (And.intro hN hq)
  clear hN hq
  rcases Decidable.em (s = []) with rfl | h0
  · obtain ⟨rfl, rfl⟩ := num_no HNQ.out (show numOk [] = false from rfl)
    go_enter Tryz.func121, Tryz.ntmps121
    go_wp2_with fail
    go_ret2
    exact ⟨rfl, Below.refl _ _⟩
  · have e0 : (s == []) = false := beq_eq_false_iff_ne.2 h0
    have HNE := Lib.hid (show s.isEmpty = false by cases s; exact absurd rfl h0; rfl)
    clear h0
    by_cases h18 : s.length ≤ 18
    · have h18i : ¬ (18 : Int) < (s.length : Int) := by omega
      have H18 := Lib.hid h18
      have HT := Lib.hid (lib_Trim ⟨s.toArray⟩ ⟨#[48, 49, 50, 51, 52, 53, 54, 55, 56, 57]⟩ w (by show s.toArray.size ≤ _; rw [List.size_toArray]; omega) (by decide) digAsc)
      obtain ⟨r, hr⟩ : ∃ r, Lib.trimS (⟨s.toArray⟩ : ByteArray).data.toList (⟨#[48, 49, 50, 51, 52, 53, 54, 55, 56, 57]⟩ : ByteArray).data.toList = r := ⟨_, rfl⟩
      have HRA := Lib.hid (show (r == []) = s.all dig by rw [← hr]; exact trim_all digSet dig digSet_eq s)
      rw [hr] at HT
      clear hr h18
      go_enter Tryz.func121, Tryz.ntmps121
      go_wp2_with fail
      refine HT.out.mono ?_
      rintro e w1 ⟨rfl, hb1⟩
      have HB1 := Lib.hid hb1
      clear hb1
      rcases Decidable.em (r = []) with rfl | hrn
      · have HOK := Lib.hid (show numOk s = true by unfold numOk; rw [HNE.out, decide_eq_true H18.out, ← HRA.out]; rfl)
        obtain ⟨rfl, rfl⟩ := num_yes HNQ.out HOK.out
        have HAT := Lib.hid (Tryz.strconv_Atoi ⟨s.toArray⟩ (numV s : Int) (by show s.toArray.size ≤ _; rw [List.size_toArray]; exact H18.out) (atoi_num HOK.out) w1)
        go_upto_region 3 with fail
        clear e0 h18i
        go_wp2_with fail
        refine HAT.out.mono ?_
        rintro e w2 ⟨rfl, t2, rfl⟩
        have HB2 := Lib.hid (HB1.out.trans ((Lib.bytesWorld_below w1 5 t2).mono HB1.out.size))
        go_wp2_with fail
        go_ret2
        exact ⟨rfl, HB2.out⟩
      · have hrb : (r == []) = false := beq_eq_false_iff_ne.2 hrn
        have HOK := Lib.hid (show numOk s = false by unfold numOk; rw [← HRA.out, hrb, Bool.and_false])
        obtain ⟨rfl, rfl⟩ := num_no HNQ.out HOK.out
        clear hrn
        go_wp2_with fail
        go_ret2
        exact ⟨rfl, HB1.out⟩
    · have h18i : (18 : Int) < (s.length : Int) := by omega
      have HOK := Lib.hid (show numOk s = false by unfold numOk; rw [decide_eq_false h18, Bool.and_false, Bool.false_and])
      obtain ⟨rfl, rfl⟩ := num_no HNQ.out HOK.out
      clear h18
      go_enter Tryz.func121, Tryz.ntmps121
      go_wp2_with fail
      go_ret2
      exact ⟨rfl, Below.refl _ _⟩
set_option maxRecDepth 100000 in
set_option maxHeartbeats 4000000 in
theorem tr_order (a b : Bs) (ha : a.length ≤ 200000000) (hb : b.length ≤ 200000000) (w : World) : Calls Tryz.prog 101 #[.string ⟨a.toArray⟩, .string ⟨b.toArray⟩] w (Ret w (.int .i64 (ordB a b))) := by
  have HA := Lib.hid (tr_number a ha)
  have HBB := Lib.hid (tr_number b hb)
  have HE := Lib.hid (show ordB a b = if numOk a = true ∧ numOk b = true then Lib.compareInt (numV a) (numV b) else cmpB a b from rfl)
  obtain ⟨N, hN⟩ : ∃ N : Int, (if numOk a = true then (numV a : Int) else 0) = N := ⟨_, rfl⟩
  obtain ⟨M, hM⟩ : ∃ M : Int, (if numOk b = true then (numV b : Int) else 0) = M := ⟨_, rfl⟩
  obtain ⟨q, hq⟩ : ∃ q, numOk a = q := ⟨_, rfl⟩
  obtain ⟨q2, hq2⟩ : ∃ q2, numOk b = q2 := ⟨_, rfl⟩
  rw [hN, hq] at HA
  rw [hM, hq2] at HBB
  rw [hq, hq2] at HE
  have HNN := Lib.hid (And.intro hN hq)
  have HMM := Lib.hid (And.intro hM hq2)
  clear hq hq2 ha hb hN hM
  go_enter Tryz.func101, Tryz.ntmps101
  go_wp2_with fail
  refine (HA.out w).mono ?_
  rintro e w1 ⟨rfl, hb1⟩
  have HB1 := Lib.hid hb1
  clear hb1
  go_upto_region 2 with fail
  go_wp2_with fail
  refine (HBB.out w1).mono ?_
  rintro e w2 ⟨rfl, hb2⟩
  have HB2 := Lib.hid (HB1.out.trans (hb2.mono HB1.out.size))
  clear hb2
  cases q
  · have HEE := Lib.hid (show ordB a b = cmpB a b by rw [HE.out]; simp)
    go_upto_region 5 with fail
    go_wp2_with fail
    refine (tr_cmpS a b w2).mono ?_
    rintro e w3 ⟨rfl, rfl⟩
    go_wp2_with fail
    go_ret
    exact ⟨(by rw [HEE.out]; try rfl), HB2.out⟩
  · cases q2
    · have HEE := Lib.hid (show ordB a b = cmpB a b by rw [HE.out]; simp)
      go_upto_region 5 with fail
      go_wp2_with fail
      refine (tr_cmpS a b w2).mono ?_
      rintro e w3 ⟨rfl, rfl⟩
      go_wp2_with fail
      go_ret
      exact ⟨(by rw [HEE.out]; try rfl), HB2.out⟩
    · have HEE := Lib.hid (show ordB a b = Lib.compareInt N M by rw [HE.out, ← (num_yes HNN.out HNN.out.2).1, ← (num_yes HMM.out HMM.out.2).1]; simp)
      go_upto_region 4 with fail
      go_wp2_with fail
      refine (Tryz.cmp_Compare_int N M w2).mono ?_
      rintro e w3 ⟨rfl, rfl⟩
      go_wp2_with fail
      go_ret
      exact ⟨(by rw [HEE.out]; try rfl), HB2.out⟩
def SmallV : TV → Prop
  | .txt s => s.length ≤ 200000000
  | _ => True
set_option maxRecDepth 100000 in
theorem ta_ww (s : Bs) (w : World) : (Instr.typeAssert (.iface 133 (.string ⟨s.toArray⟩)) 110 133 true).run Tryz.prog w = .ok (.tuple #[.string ⟨s.toArray⟩, .bool true]) w := by kernel_rfl
set_option maxRecDepth 100000 in
theorem ta_wy (s : Bs) (w : World) : (Instr.typeAssert (.iface 133 (.string ⟨s.toArray⟩)) 110 135 true).run Tryz.prog w = .ok (.tuple #[.bool false, .bool false]) w := by kernel_rfl
set_option maxRecDepth 100000 in
theorem ta_yw (b : Bool) (w : World) : (Instr.typeAssert (.iface 135 (.bool b)) 110 133 true).run Tryz.prog w = .ok (.tuple #[.string ⟨#[]⟩, .bool false]) w := by kernel_rfl
set_option maxRecDepth 100000 in
theorem ta_yy (b : Bool) (w : World) : (Instr.typeAssert (.iface 135 (.bool b)) 110 135 true).run Tryz.prog w = .ok (.tuple #[.bool b, .bool true]) w := by kernel_rfl
set_option maxRecDepth 100000 in
theorem ta_nw (w : World) : (Instr.typeAssert .nilIface 110 133 true).run Tryz.prog w = .ok (.tuple #[.string ⟨#[]⟩, .bool false]) w := by kernel_rfl
set_option maxRecDepth 100000 in
theorem ta_ny (w : World) : (Instr.typeAssert .nilIface 110 135 true).run Tryz.prog w = .ok (.tuple #[.bool false, .bool false]) w := by kernel_rfl
set_option maxRecDepth 100000 in
set_option maxHeartbeats 4000000 in
theorem tr_compares (k : Int) (x y : TV) (hx : SmallV x) (hy : SmallV y) (w : World) : Calls Tryz.prog 82 #[.int .i64 k, tvV x, tvV y] w (Ret w (.bool (comparesB k x y))) := by
  have hww := ta_ww
  have hwy := ta_wy
  have hyw := ta_yw
  have hyy := ta_yy
  have hnw := ta_nw
  have hny := ta_ny
  cases x with
  | none =>
    go_enter Tryz.func82, Tryz.ntmps82
    go_wp2_with fail
    go_ret
    exact ⟨rfl, Below.refl _ _⟩
  | txt a =>
    cases y with
    | none =>
      go_enter Tryz.func82, Tryz.ntmps82
      go_wp2_with fail
      go_ret
      exact ⟨rfl, Below.refl _ _⟩
    | txt b =>
      have HO := Lib.hid (tr_order a b hx hy w)
      have HC := Lib.hid (show comparesB k (.txt a) (.txt b) = holdsB k (ordB a b) from rfl)
      clear hx hy
      obtain ⟨o, ho⟩ : ∃ o, ordB a b = o := ⟨_, rfl⟩
      rw [ho] at HO HC
      clear ho
      go_enter Tryz.func82, Tryz.ntmps82
      go_wp2_with fail
      refine HO.out.mono ?_
      rintro e w1 ⟨rfl, hb1⟩
      have HB1 := Lib.hid hb1
      clear hb1
      go_wp2_with fail
      refine (tr_holds k o w1).mono ?_
      rintro e w2 ⟨rfl, rfl⟩
      go_wp2_with fail
      go_ret
      exact ⟨(by rw [HC.out]; try rfl), HB1.out⟩
    | yes b =>
      go_enter Tryz.func82, Tryz.ntmps82
      go_wp2_with fail
      go_ret
      exact ⟨rfl, Below.refl _ _⟩
  | yes a =>
    cases y with
    | none =>
      go_enter Tryz.func82, Tryz.ntmps82
      go_wp2_with fail
      go_ret
      exact ⟨rfl, Below.refl _ _⟩
    | txt b =>
      go_enter Tryz.func82, Tryz.ntmps82
      go_wp2_with fail
      go_ret
      exact ⟨rfl, Below.refl _ _⟩
    | yes b =>
      have HC := Lib.hid (show comparesB k (.yes a) (.yes b) = ((decide (k = 4) && (a == b)) || (decide (k = 5) && (a != b))) from rfl)
      rcases Decidable.em (k = 4) with rfl | h4
      · cases a <;> cases b
        all_goals
          go_enter Tryz.func82, Tryz.ntmps82
          go_wp2_with fail
          go_ret
          exact ⟨by rw [HC.out]; rfl, Below.refl _ _⟩
      · rcases Decidable.em (k = 5) with rfl | h5
        · cases a <;> cases b
          all_goals
            go_enter Tryz.func82, Tryz.ntmps82
            go_wp2_with fail
            go_ret
            exact ⟨by rw [HC.out]; rfl, Below.refl _ _⟩
        · have e4 : (k == 4) = false := beq_eq_false_iff_ne.2 h4
          have e5 : (k == 5) = false := beq_eq_false_iff_ne.2 h5
          have HC2 := Lib.hid (show comparesB k (.yes a) (.yes b) = false by rw [HC.out, decide_eq_false h4, decide_eq_false h5]; rfl)
          clear h4 h5
          go_enter Tryz.func82, Tryz.ntmps82
          go_wp2_with fail
          go_ret
          exact ⟨(by rw [HC2.out]; try rfl), Below.refl _ _⟩
end Go.Proofs.YtehdeclpighdeaaGreatDoor
