/- The walks of the reference's small functions on tests: Past, has, digit, wrong, Signs. The reference's result of thirteen cells in memory, and where a rule of the reference ends. -/
import Derived.Test.YtbkhmkpbbggcbaaGreatDoorKTestW3
namespace Go.Proofs.YtbkhmkpbbggcbaaGreatDoor
open Go.RowKit
set_option linter.unusedVariables false
theorem rs_blank {s : Bs} {k : Nat} {c : UInt8} (h : s[k]? = some c) (hb : blk c = true) : rs s (k + 1) = rs s k := by
  obtain ⟨hl, rfl⟩ := List.getElem?_eq_some_iff.1 h
  unfold rs
  rw [List.drop_eq_getElem_cons hl, List.dropWhile_cons, if_pos hb]
theorem pa_stop {s : Bs} {k : Nat} {c : UInt8} (h : s[k]? = some c) (hb : blk c = false) : pa s k = k := by
  obtain ⟨hl, rfl⟩ := List.getElem?_eq_some_iff.1 h
  unfold pa rs
  rw [List.drop_eq_getElem_cons hl, List.dropWhile_cons, if_neg (by rw [hb]; decide), List.length_cons, List.length_drop]; omega
theorem pa_end (s : Bs) : pa s s.length = s.length := by
  unfold pa rs; rw [List.drop_length]; rfl
theorem blk_eqs {c : UInt8} (h : blk c = false) : ((c.toNat : Int) == 32) = false ∧ ((c.toNat : Int) == 9) = false ∧ ((c.toNat : Int) == 10) = false ∧ ((c.toNat : Int) == 13) = false := by
  unfold blk at h; rw [decide_eq_false_iff_not] at h
  refine ⟨?_, ?_, ?_, ?_⟩ <;> (rw [beq_eq_false_iff_ne]; omega)
theorem blk_nums {c : UInt8} (h : blk c = true) : (c.toNat : Int) = 32 ∨ (c.toNat : Int) = 9 ∨ (c.toNat : Int) = 10 ∨ (c.toNat : Int) = 13 := by
  unfold blk at h; rw [decide_eq_true_eq] at h; omega
set_option maxRecDepth 100000 in
theorem ref27_Past (s : Bs) (j : Int) (i : Nat) (w : World) (hj : j = (i : Int)) (hi : i ≤ s.length) (hs : s.length ≤ 100000) :
    Calls Tryz.prog 38 #[.string ⟨s.toArray⟩, .int .i64 j] w fun e w' => e = .returned (.int .i64 (pa s i : Int)) ∧ w = w' := by
  subst hj
  obtain ⟨n, hn⟩ : ∃ n, pa s i = n := ⟨_, rfl⟩
  have HN := Lib.hid hn
  rw [hn]
  clear hn
  go_enter Tryz.func38, Tryz.ntmps38
  go_wp2_with fail
  go_loop [1] (fun f => ∃ k : Nat, k ≤ s.length ∧ f = .int .i64 k ∧ Hid (rs s k = rs s i)) (fun f => s.length - (intOf f).toNat)
  case atStart => exact ⟨i, hi, rfl, Lib.hid rfl⟩
  case round =>
    obtain ⟨k, hk, rfl, HR⟩ := hrel
    have HP := Lib.hid (show pa s k = n by rw [← HN.out]; unfold pa; rw [HR.out])
    by_cases hlt : k < s.length
    · obtain ⟨c, hc⟩ : ∃ c, s[k] = c := ⟨_, rfl⟩
      have hg : s[k]? = some c := by rw [List.getElem?_eq_getElem hlt, hc]
      have hix : ∀ h, (⟨s.toArray⟩ : ByteArray)[k]'h = c := fun h => by rw [← hc]; rfl
      have k1 : (k : Int) < (s.length : Int) := by omega
      have HG := Lib.hid hg
      clear hc hg
      cases hb : blk c
      · obtain ⟨e1, e2, e3, e4⟩ := blk_eqs hb
        have HE := Lib.hid (pa_stop HG.out hb)
        clear hb
        go_wp2_with fail
        go_ret
        exact ⟨by rw [← HP.out, HE.out]; rfl, rfl⟩
      · have HE := Lib.hid (rs_blank HG.out hb)
        rcases blk_nums hb with e | e | e | e
        all_goals
          clear hb
          go_wp2_with fail
          go_round
          case rel => exact ⟨k + 1, by omega, by go_num, Lib.hid (HE.out.trans HR.out)⟩
          case measure => (simp [intOf] <;> omega)
    · obtain rfl : k = s.length := by omega
      clear hlt
      go_wp2_with fail
      go_ret
      exact ⟨by rw [← HP.out, pa_end]; rfl, rfl⟩
theorem ext_spanL (s : Bs) (a n : Nat) : (⟨s.toArray⟩ : ByteArray).extract a (a + n) = ⟨((s.drop a).take n).toArray⟩ := by
  apply ByteArray.ext; apply Array.ext'
  rw [ext_data, show a + n - a = n by omega]
theorem has_iff (s : Bs) (n : Nat) (p : Bs) : Lib.hasPrefix (s.drop n) p = (((s.drop n).take p.length) == p) := by
  unfold Lib.hasPrefix
  rw [Bool.eq_iff_iff, List.isPrefixOf_iff_prefix, List.prefix_iff_eq_take, beq_iff_eq]
  exact ⟨fun h => h.symm, fun h => h.symm⟩
theorem has_no {s : Bs} {n : Nat} {p : Bs} (hn : n ≤ s.length) (h : ¬ n + p.length ≤ s.length) : Lib.hasPrefix (s.drop n) p = false := by
  cases hp : Lib.hasPrefix (s.drop n) p
  · rfl
  · have := pfx_len hp
    rw [List.length_drop] at this; omega
set_option maxRecDepth 100000 in
theorem ref27_has (s : Bs) (i : Nat) (j : Int) (p : Bs) (w : World) (hj : j = (i : Int)) (hi : i ≤ s.length) (hs : s.length ≤ 100000) (hp : p.length ≤ 100) :
    Calls Tryz.prog 48 #[.string ⟨s.toArray⟩, .int .i64 j, .string ⟨p.toArray⟩] w fun e w' => e = .returned (.bool (Lib.hasPrefix (rs s i) p)) ∧ w = w' := by
  subst hj
  obtain ⟨R, hR⟩ : ∃ R, Lib.hasPrefix (rs s i) p = R := ⟨_, rfl⟩
  have hpl := pa_le s i
  have hdp := drop_pa s hi
  obtain ⟨n, hn⟩ : ∃ n, pa s i = n := ⟨_, rfl⟩
  have HN := Lib.hid hn
  rw [hR]
  rw [← hdp, hn] at hR
  rw [hn] at hpl
  have HR := Lib.hid hR
  clear hR hdp hn
  go_enter Tryz.func48, Tryz.ntmps48
  go_wp2_with fail
  refine (ref27_Past s _ i w rfl hi hs).mono ?_
  rintro e w1 ⟨rfl, rfl⟩
  rw [HN.out]
  by_cases h : n + p.length ≤ s.length
  · have hx := ext_spanL s n p.length
    have HI := Lib.hid (has_iff s n p)
    have n1 : (n : Int) + (p.length : Int) ≤ (s.length : Int) := by omega
    obtain ⟨t, ht⟩ : ∃ t, ((s.drop n).take p.length) = t := ⟨_, rfl⟩
    rw [ht] at hx HI
    clear ht h
    have HX := Lib.hid (HI.out.symm.trans HR.out)
    cases R
    all_goals
      have hq := HX.out
      go_wp2_with fail
      go_ret
      exact ⟨rfl, rfl⟩
  · have HI := Lib.hid ((has_no (s := s) (n := n) (p := p) hpl h).symm.trans HR.out)
    have n1 : ¬ (n : Int) + (p.length : Int) ≤ (s.length : Int) := by omega
    clear h
    go_wp2_with fail
    go_ret
    exact ⟨by rw [← HI.out]; rfl, rfl⟩
def digAt (s : Bs) (k : Nat) : Bool := match s[k]? with | some c => dig c | none => false
theorem dig_nums {c : UInt8} : (dig c = true ∧ (48 : Int) ≤ (c.toNat : Int) ∧ (c.toNat : Int) ≤ 57) ∨ (dig c = false ∧ ((¬ (48 : Int) ≤ (c.toNat : Int)) ∨ ((48 : Int) ≤ (c.toNat : Int) ∧ ¬ (c.toNat : Int) ≤ 57))) := by
  cases h : dig c
  · right; refine ⟨rfl, ?_⟩; unfold dig at h; rw [decide_eq_false_iff_not] at h; omega
  · left; refine ⟨rfl, ?_⟩; unfold dig at h; rw [decide_eq_true_eq] at h; omega
set_option maxRecDepth 100000 in
theorem ref27_digit (s : Bs) (j : Int) (k : Nat) (w : World) (hj : j = (k : Int)) (hs : s.length ≤ 100000) :
    Calls Tryz.prog 45 #[.string ⟨s.toArray⟩, .int .i64 j] w fun e w' => e = .returned (.bool (digAt s k)) ∧ w = w' := by
  subst hj
  by_cases hlt : k < s.length
  · obtain ⟨c, hc⟩ : ∃ c, s[k] = c := ⟨_, rfl⟩
    have HV := Lib.hid (show digAt s k = dig c by unfold digAt; rw [List.getElem?_eq_getElem hlt, hc])
    have hix : ∀ h, (⟨s.toArray⟩ : ByteArray)[k]'h = c := fun h => by rw [← hc]; rfl
    have k1 : (k : Int) < (s.length : Int) := by omega
    clear hc
    rcases dig_nums (c := c) with ⟨hd, h1, h2⟩ | ⟨hd, h1 | ⟨h1, h2⟩⟩
    all_goals
      have HD := Lib.hid hd
      clear hd
      go_enter Tryz.func45, Tryz.ntmps45
      go_wp2_with fail
      go_ret
      exact ⟨by rw [HV.out, HD.out]; rfl, rfl⟩
  · have HV := Lib.hid (show digAt s k = false by unfold digAt; rw [List.getElem?_eq_none (by omega)])
    have k1 : ¬ (k : Int) < (s.length : Int) := by omega
    clear hlt
    go_enter Tryz.func45, Tryz.ntmps45
    go_wp2_with fail
    go_ret
    exact ⟨by rw [HV.out]; rfl, rfl⟩
abbrev gotL (k : Int) (t : Bs) (u : UseI) (kv : Value) (x q e : Int) : List Value := [.int .i64 k, .string ⟨t.toArray⟩, .int .i64 u.src, .int .i64 u.till, .string ⟨u.name.toArray⟩, .string ⟨u.key.toArray⟩, .string ⟨u.dft.toArray⟩, .bool u.hk, .bool u.hd, kv, .int .i64 x, .int .i64 q, .int .i64 e]
abbrev gotV (k : Int) (t : Bs) (u : UseI) (kv : Value) (x q e : Int) : Value := .agg #[.int .i64 k, .string ⟨t.toArray⟩, .int .i64 u.src, .int .i64 u.till, .string ⟨u.name.toArray⟩, .string ⟨u.key.toArray⟩, .string ⟨u.dft.toArray⟩, .bool u.hk, .bool u.hd, kv, .int .i64 x, .int .i64 q, .int .i64 e]
def RGot (A : Nat → Prop) (W : World) : Got → Value → Prop
  | .good x t, v => ∃ k tx u a n c, v = gotV k tx u (.slice a n c) (t : Int) 0 0 ∧ ExAt A W x (exV k tx u (.slice a n c))
  | .wrong q e, v => ∃ k tx u a n c x, v = gotV k tx u (.slice a n c) x (q : Int) e
set_option maxRecDepth 100000 in
theorem ref27_wrong (q e : Int) (w : World) :
    Calls Tryz.prog 83 #[.int .i64 q, .int .i64 e] w (Ret w (gotV 0 [] noUseI (.slice none 0 0) 0 q e)) := by
  go_enter Tryz.func83, Tryz.ntmps83
  go_wp2_with fail
  have HN := Lib.hid (heap_alloc_new w (.cells (gotL 0 [] noUseI (.slice none 0 0) 0 q e).toArray 73))
  have HB := Lib.hid ((Below.refl w.heap.size w).alloc (Nat.le_refl _) (.cells (gotL 0 [] noUseI (.slice none 0 0) 0 q e).toArray 73))
  refine bodyPost_ret (v := gotV 0 [] noUseI (.slice none 0 0) 0 q e) ?_ rfl ⟨rfl, HB.out⟩
  simp [results, Tryz.f83, go_sem, noUseI]
set_option maxRecDepth 100000 in
theorem ref27_Signs (w : World) : Calls Tryz.prog 94 #[] w fun e w' => e = .returned (.slice (some ⟨w.heap.size, 0, none⟩) 6 6) ∧ w' = w.alloc (.cells #[.string ⟨#[61, 61]⟩, .string ⟨#[33, 61]⟩, .string ⟨#[60]⟩, .string ⟨#[60, 61]⟩, .string ⟨#[62]⟩, .string ⟨#[62, 61]⟩] 9) := by
  go_enter Tryz.func94, Tryz.ntmps94
  go_wp2_with fail
  go_ret
  exact ⟨rfl, rfl⟩
end Go.Proofs.YtbkhmkpbbggcbaaGreatDoor
namespace Go.Proofs.YtbkhmkpbbggcbaaGreatDoor
open Go.RowKit
set_option linter.unusedVariables false
abbrev setGot (W : World) (b : Nat) (k : Int) (t : Bs) (u : UseI) (kv : Value) (x q e : Int) : World :=
  ((((((((((((W.setCell ⟨b, 0, none⟩ (.int .i64 k)).setCell ⟨b, 1, none⟩ (.string ⟨t.toArray⟩)).setCell ⟨b, 2, none⟩ (.int .i64 u.src)).setCell ⟨b, 3, none⟩ (.int .i64 u.till)).setCell ⟨b, 4, none⟩ (.string ⟨u.name.toArray⟩)).setCell ⟨b, 5, none⟩ (.string ⟨u.key.toArray⟩)).setCell ⟨b, 6, none⟩ (.string ⟨u.dft.toArray⟩)).setCell ⟨b, 7, none⟩ (.bool u.hk)).setCell ⟨b, 8, none⟩ (.bool u.hd)).setCell ⟨b, 9, none⟩ (kv)).setCell ⟨b, 10, none⟩ (.int .i64 x)).setCell ⟨b, 11, none⟩ (.int .i64 q)).setCell ⟨b, 12, none⟩ (.int .i64 e)
theorem setGot_row {W : World} {b : Nat} {k : Int} {t : Bs} {u : UseI} {kv : Value} {x q e : Int} {v0 v1 v2 v3 v4 v5 v6 v7 v8 v9 v10 v11 v12 : Value} {T : TypeId} (h : W.heap[b]? = some (.cells #[v0, v1, v2, v3, v4, v5, v6, v7, v8, v9, v10, v11, v12] T)) : (setGot W b k t u kv x q e).heap[b]? = some (.cells (gotL k t u kv x q e).toArray T) := by
  have h0 := row_set (j := 0) (v := .int .i64 k) h
  simp only [List.setIfInBounds_toArray, List.set_cons_zero] at h0
  have h1 := row_set (j := 1) (v := .string ⟨t.toArray⟩) h0
  simp only [List.setIfInBounds_toArray, List.set_cons_zero, List.set_cons_succ] at h1
  have h2 := row_set (j := 2) (v := .int .i64 u.src) h1
  simp only [List.setIfInBounds_toArray, List.set_cons_zero, List.set_cons_succ] at h2
  have h3 := row_set (j := 3) (v := .int .i64 u.till) h2
  simp only [List.setIfInBounds_toArray, List.set_cons_zero, List.set_cons_succ] at h3
  have h4 := row_set (j := 4) (v := .string ⟨u.name.toArray⟩) h3
  simp only [List.setIfInBounds_toArray, List.set_cons_zero, List.set_cons_succ] at h4
  have h5 := row_set (j := 5) (v := .string ⟨u.key.toArray⟩) h4
  simp only [List.setIfInBounds_toArray, List.set_cons_zero, List.set_cons_succ] at h5
  have h6 := row_set (j := 6) (v := .string ⟨u.dft.toArray⟩) h5
  simp only [List.setIfInBounds_toArray, List.set_cons_zero, List.set_cons_succ] at h6
  have h7 := row_set (j := 7) (v := .bool u.hk) h6
  simp only [List.setIfInBounds_toArray, List.set_cons_zero, List.set_cons_succ] at h7
  have h8 := row_set (j := 8) (v := .bool u.hd) h7
  simp only [List.setIfInBounds_toArray, List.set_cons_zero, List.set_cons_succ] at h8
  have h9 := row_set (j := 9) (v := kv) h8
  simp only [List.setIfInBounds_toArray, List.set_cons_zero, List.set_cons_succ] at h9
  have h10 := row_set (j := 10) (v := .int .i64 x) h9
  simp only [List.setIfInBounds_toArray, List.set_cons_zero, List.set_cons_succ] at h10
  have h11 := row_set (j := 11) (v := .int .i64 q) h10
  simp only [List.setIfInBounds_toArray, List.set_cons_zero, List.set_cons_succ] at h11
  have h12 := row_set (j := 12) (v := .int .i64 e) h11
  simp only [List.setIfInBounds_toArray, List.set_cons_zero, List.set_cons_succ] at h12
  exact h12
theorem setGot_turn (W : World) (b : Nat) (k : Int) (t : Bs) (u : UseI) (kv : Value) (x q e : Int) : Turn b W (setGot W b k t u kv x q e) := (Turn.refl b W).set.set.set.set.set.set.set.set.set.set.set.set.set
theorem got_frozen {W : World} {b : Nat} {cs : Array Value} {T : TypeId} (h : W.heap[b]? = some (.cells cs T)) :
    W.frozen? ⟨b, 0, none⟩ = false ∧ W.frozen? ⟨b, 1, none⟩ = false ∧ W.frozen? ⟨b, 2, none⟩ = false ∧ W.frozen? ⟨b, 3, none⟩ = false ∧ W.frozen? ⟨b, 4, none⟩ = false ∧ W.frozen? ⟨b, 5, none⟩ = false ∧ W.frozen? ⟨b, 6, none⟩ = false ∧ W.frozen? ⟨b, 7, none⟩ = false ∧ W.frozen? ⟨b, 8, none⟩ = false ∧ W.frozen? ⟨b, 9, none⟩ = false ∧ W.frozen? ⟨b, 10, none⟩ = false ∧ W.frozen? ⟨b, 11, none⟩ = false ∧ W.frozen? ⟨b, 12, none⟩ = false :=
  ⟨frozen_of_row _ _ 0 _ _ h, frozen_of_row _ _ 1 _ _ h, frozen_of_row _ _ 2 _ _ h, frozen_of_row _ _ 3 _ _ h, frozen_of_row _ _ 4 _ _ h, frozen_of_row _ _ 5 _ _ h, frozen_of_row _ _ 6 _ _ h, frozen_of_row _ _ 7 _ _ h, frozen_of_row _ _ 8 _ _ h, frozen_of_row _ _ 9 _ _ h, frozen_of_row _ _ 10 _ _ h, frozen_of_row _ _ 11 _ _ h, frozen_of_row _ _ 12 _ _ h⟩
theorem got_live {W : World} {b : Nat} {v0 v1 v2 v3 v4 v5 v6 v7 v8 v9 v10 v11 v12 : Value} {T : TypeId} (h : W.heap[b]? = some (.cells #[v0, v1, v2, v3, v4, v5, v6, v7, v8, v9, v10, v11, v12] T)) :
    W.cell? ⟨b, 0, none⟩ = some v0 ∧ W.cell? ⟨b, 1, none⟩ = some v1 ∧ W.cell? ⟨b, 2, none⟩ = some v2 ∧ W.cell? ⟨b, 3, none⟩ = some v3 ∧ W.cell? ⟨b, 4, none⟩ = some v4 ∧ W.cell? ⟨b, 5, none⟩ = some v5 ∧ W.cell? ⟨b, 6, none⟩ = some v6 ∧ W.cell? ⟨b, 7, none⟩ = some v7 ∧ W.cell? ⟨b, 8, none⟩ = some v8 ∧ W.cell? ⟨b, 9, none⟩ = some v9 ∧ W.cell? ⟨b, 10, none⟩ = some v10 ∧ W.cell? ⟨b, 11, none⟩ = some v11 ∧ W.cell? ⟨b, 12, none⟩ = some v12 :=
  ⟨cell_of_row _ _ 0 _ _ _ h, cell_of_row _ _ 1 _ _ _ h, cell_of_row _ _ 2 _ _ _ h, cell_of_row _ _ 3 _ _ _ h, cell_of_row _ _ 4 _ _ _ h, cell_of_row _ _ 5 _ _ _ h, cell_of_row _ _ 6 _ _ _ h, cell_of_row _ _ 7 _ _ _ h, cell_of_row _ _ 8 _ _ _ h, cell_of_row _ _ 9 _ _ _ h, cell_of_row _ _ 10 _ _ _ h, cell_of_row _ _ 11 _ _ _ h, cell_of_row _ _ 12 _ _ _ h⟩
theorem got_cells {W : World} {b : Nat} {k : Int} {t : Bs} {u : UseI} {kv : Value} {x q e : Int} {T : TypeId} (h : W.heap[b]? = some (.cells (gotL k t u kv x q e).toArray T)) :
    W.cell? ⟨b, 0, none⟩ = some (.int .i64 k) ∧ W.cell? ⟨b, 1, none⟩ = some (.string ⟨t.toArray⟩) ∧ W.cell? ⟨b, 2, none⟩ = some (.int .i64 u.src) ∧ W.cell? ⟨b, 3, none⟩ = some (.int .i64 u.till) ∧ W.cell? ⟨b, 4, none⟩ = some (.string ⟨u.name.toArray⟩) ∧ W.cell? ⟨b, 5, none⟩ = some (.string ⟨u.key.toArray⟩) ∧ W.cell? ⟨b, 6, none⟩ = some (.string ⟨u.dft.toArray⟩) ∧ W.cell? ⟨b, 7, none⟩ = some (.bool u.hk) ∧ W.cell? ⟨b, 8, none⟩ = some (.bool u.hd) ∧ W.cell? ⟨b, 9, none⟩ = some (kv) ∧ W.cell? ⟨b, 10, none⟩ = some (.int .i64 x) ∧ W.cell? ⟨b, 11, none⟩ = some (.int .i64 q) ∧ W.cell? ⟨b, 12, none⟩ = some (.int .i64 e) :=
  ⟨cell_of_row _ _ 0 _ _ _ h, cell_of_row _ _ 1 _ _ _ h, cell_of_row _ _ 2 _ _ _ h, cell_of_row _ _ 3 _ _ _ h, cell_of_row _ _ 4 _ _ _ h, cell_of_row _ _ 5 _ _ _ h, cell_of_row _ _ 6 _ _ _ h, cell_of_row _ _ 7 _ _ _ h, cell_of_row _ _ 8 _ _ _ h, cell_of_row _ _ 9 _ _ _ h, cell_of_row _ _ 10 _ _ _ h, cell_of_row _ _ 11 _ _ _ h, cell_of_row _ _ 12 _ _ _ h⟩
theorem got_thaw {W : World} {b : Nat} {cs : Array Value} {T : TypeId} (h : W.heap[b]? = some (.cells cs T)) :
    (∀ O, (W.alloc O).frozen? ⟨b, 0, none⟩ = false) ∧ (∀ O, (W.alloc O).frozen? ⟨b, 1, none⟩ = false) ∧ (∀ O, (W.alloc O).frozen? ⟨b, 2, none⟩ = false) ∧ (∀ O, (W.alloc O).frozen? ⟨b, 3, none⟩ = false) ∧ (∀ O, (W.alloc O).frozen? ⟨b, 4, none⟩ = false) ∧ (∀ O, (W.alloc O).frozen? ⟨b, 5, none⟩ = false) ∧ (∀ O, (W.alloc O).frozen? ⟨b, 6, none⟩ = false) ∧ (∀ O, (W.alloc O).frozen? ⟨b, 7, none⟩ = false) ∧ (∀ O, (W.alloc O).frozen? ⟨b, 8, none⟩ = false) ∧ (∀ O, (W.alloc O).frozen? ⟨b, 9, none⟩ = false) ∧ (∀ O, (W.alloc O).frozen? ⟨b, 10, none⟩ = false) ∧ (∀ O, (W.alloc O).frozen? ⟨b, 11, none⟩ = false) ∧ (∀ O, (W.alloc O).frozen? ⟨b, 12, none⟩ = false) :=
  ⟨fun O => frozen_of_row _ _ 0 _ _ (row_alloc h O), fun O => frozen_of_row _ _ 1 _ _ (row_alloc h O), fun O => frozen_of_row _ _ 2 _ _ (row_alloc h O), fun O => frozen_of_row _ _ 3 _ _ (row_alloc h O), fun O => frozen_of_row _ _ 4 _ _ (row_alloc h O), fun O => frozen_of_row _ _ 5 _ _ (row_alloc h O), fun O => frozen_of_row _ _ 6 _ _ (row_alloc h O), fun O => frozen_of_row _ _ 7 _ _ (row_alloc h O), fun O => frozen_of_row _ _ 8 _ _ (row_alloc h O), fun O => frozen_of_row _ _ 9 _ _ (row_alloc h O), fun O => frozen_of_row _ _ 10 _ _ (row_alloc h O), fun O => frozen_of_row _ _ 11 _ _ (row_alloc h O), fun O => frozen_of_row _ _ 12 _ _ (row_alloc h O)⟩
theorem got_alloc {W : World} {b : Nat} {v0 v1 v2 v3 v4 v5 v6 v7 v8 v9 v10 v11 v12 : Value} {T : TypeId} (h : W.heap[b]? = some (.cells #[v0, v1, v2, v3, v4, v5, v6, v7, v8, v9, v10, v11, v12] T)) :
    (∀ O, (W.alloc O).cell? ⟨b, 0, none⟩ = some v0) ∧ (∀ O, (W.alloc O).cell? ⟨b, 1, none⟩ = some v1) ∧ (∀ O, (W.alloc O).cell? ⟨b, 2, none⟩ = some v2) ∧ (∀ O, (W.alloc O).cell? ⟨b, 3, none⟩ = some v3) ∧ (∀ O, (W.alloc O).cell? ⟨b, 4, none⟩ = some v4) ∧ (∀ O, (W.alloc O).cell? ⟨b, 5, none⟩ = some v5) ∧ (∀ O, (W.alloc O).cell? ⟨b, 6, none⟩ = some v6) ∧ (∀ O, (W.alloc O).cell? ⟨b, 7, none⟩ = some v7) ∧ (∀ O, (W.alloc O).cell? ⟨b, 8, none⟩ = some v8) ∧ (∀ O, (W.alloc O).cell? ⟨b, 9, none⟩ = some v9) ∧ (∀ O, (W.alloc O).cell? ⟨b, 10, none⟩ = some v10) ∧ (∀ O, (W.alloc O).cell? ⟨b, 11, none⟩ = some v11) ∧ (∀ O, (W.alloc O).cell? ⟨b, 12, none⟩ = some v12) :=
  ⟨fun O => cell_of_row _ _ 0 _ _ _ (row_alloc h O), fun O => cell_of_row _ _ 1 _ _ _ (row_alloc h O), fun O => cell_of_row _ _ 2 _ _ _ (row_alloc h O), fun O => cell_of_row _ _ 3 _ _ _ (row_alloc h O), fun O => cell_of_row _ _ 4 _ _ _ (row_alloc h O), fun O => cell_of_row _ _ 5 _ _ _ (row_alloc h O), fun O => cell_of_row _ _ 6 _ _ _ (row_alloc h O), fun O => cell_of_row _ _ 7 _ _ _ (row_alloc h O), fun O => cell_of_row _ _ 8 _ _ _ (row_alloc h O), fun O => cell_of_row _ _ 9 _ _ _ (row_alloc h O), fun O => cell_of_row _ _ 10 _ _ _ (row_alloc h O), fun O => cell_of_row _ _ 11 _ _ _ (row_alloc h O), fun O => cell_of_row _ _ 12 _ _ _ (row_alloc h O)⟩
theorem results_got {fn : Func} {W : World} {tmps : Array Value} {b slot : Nat} {v0 v1 v2 v3 v4 v5 v6 v7 v8 v9 v10 v11 v12 : Value} (h : fn.results = #[.cell slot 73]) (ht : tmps.getD slot undef = .pointer (some ⟨b, 0, none⟩)) (hW : W.heap[b]? = some (.cells #[v0, v1, v2, v3, v4, v5, v6, v7, v8, v9, v10, v11, v12] 73)) :
    (results fn tmps).run Tryz.prog W = .ok (.agg #[v0, v1, v2, v3, v4, v5, v6, v7, v8, v9, v10, v11, v12]) W := by
  obtain ⟨y0, y1, y2, y3, y4, y5, y6, y7, y8, y9, y10, y11, y12⟩ := got_live hW
  have ht2 : tmps[slot]?.getD undef = .pointer (some ⟨b, 0, none⟩) := by rw [← ht]; simp
  simp [results, h, go_sem, ht2, y0, y1, y2, y3, y4, y5, y6, y7, y8, y9, y10, y11, y12]
abbrev gotZ : Obj := .cells #[.int .i64 0, .string ⟨#[]⟩, .int .i64 0, .int .i64 0, .string ⟨#[]⟩, .string ⟨#[]⟩, .string ⟨#[]⟩, .bool false, .bool false, .slice none 0 0, .int .i64 0, .int .i64 0, .int .i64 0] 73
structure RW (w W : World) : Prop where
  below : Below w.heap.size w W
  box : W.heap[w.heap.size]? = some gotZ
  lt : w.heap.size < W.heap.size
theorem RW.start (w : World) : RW w (w.alloc gotZ) := ⟨(Below.refl _ _).alloc (Nat.le_refl _) _, heap_alloc_new w _, by rw [World.size_alloc]; omega⟩
theorem RW.next {w W W' : World} (h : RW w W) (hb : Below W.heap.size W W') : RW w W' := ⟨h.below.trans (hb.mono h.below.size), (hb.block _ h.lt).trans h.box, Nat.lt_of_lt_of_le h.lt hb.size⟩
theorem RW.turn {w W W' : World} {b : Nat} (h : RW w W) (ht : Turn b W W') (hb : w.heap.size < b) : RW w W' :=
  ⟨h.below.trans (ht.below (by omega) h.below.size), (ht.block _ h.lt (by intro e; cases e; omega)).trans h.box, Nat.lt_of_lt_of_le h.lt ht.size⟩
theorem RGot.next {A : Nat → Prop} {W W' : World} {g : Got} {v : Value} (h : RGot A W g v) (hb : Below W.heap.size W W') : RGot A W' g v := by
  cases g with
  | good x t => obtain ⟨k, tx, u, a, n, c, h1, h2⟩ := h; exact ⟨k, tx, u, a, n, c, h1, h2.next hb⟩
  | wrong q e => exact h
theorem RGot.weak {A A' : Nat → Prop} {W : World} {g : Got} {v : Value} (h : RGot A W g v) (hl : ∀ b, b < W.heap.size → A b → A' b) : RGot A' W g v := by
  cases g with
  | good x t => obtain ⟨k, tx, u, a, n, c, h1, h2⟩ := h; exact ⟨k, tx, u, a, n, c, h1, exAt_lo hl _ _ h2⟩
  | wrong q e => exact h
theorem RGot.turn {A : Nat → Prop} {p : Nat} {W W' : World} {g : Got} {v : Value} (h : RGot A W g v) (ht : Turn p W W') (hp : ¬ A p) : RGot A W' g v := by
  cases g with
  | good x t => obtain ⟨k, tx, u, a, n, c, h1, h2⟩ := h; exact ⟨k, tx, u, a, n, c, h1, h2.turn ht hp⟩
  | wrong q e => exact h
theorem RGot.cells {A : Nat → Prop} {W : World} {g : Got} {v : Value} (h : RGot A W g v) : ∃ k tx u a n c x q e, v = gotV k tx u (.slice a n c) x q e := by
  cases g with
  | good x t => obtain ⟨k, tx, u, a, n, c, h1, _⟩ := h; exact ⟨k, tx, u, a, n, c, _, _, _, h1⟩
  | wrong q e => obtain ⟨k, tx, u, a, n, c, x, h1⟩ := h; exact ⟨k, tx, u, a, n, c, _, _, _, h1⟩
theorem got_end {w W : World} {g : Got} {k : Int} {t : Bs} {u : UseI} {kv : Value} {x q e : Int} (h : RW w W) (hg : RGot (fun z => w.heap.size < z) W g (gotV k t u kv x q e)) :
    Below w.heap.size w (setGot W w.heap.size k t u kv x q e) ∧ RGot (From w.heap.size) (setGot W w.heap.size k t u kv x q e) g (gotV k t u kv x q e) ∧ (setGot W w.heap.size k t u kv x q e).heap[w.heap.size]? = some (.cells (gotL k t u kv x q e).toArray 73) := by
  have ht := setGot_turn W w.heap.size k t u kv x q e
  exact ⟨h.below.trans (ht.below (Nat.le_refl _) h.below.size), (hg.turn ht (Nat.lt_irrefl _)).weak (fun b _ hb => Nat.le_of_lt hb), setGot_row h.box⟩
def RunsR (f : FuncId) (args : Nat → Array Value) (s : Bs) (g : Nat → Got) : Prop :=
  ∀ (w : World) (i : Nat), i ≤ s.length → Calls Tryz.prog f (args i) w fun e w' => ∃ v, e = .returned v ∧ Below w.heap.size w w' ∧ Hid (RGot (From w.heap.size) w' (g i) v)
abbrev args3 (s : Bs) (op : Nat) (i : Nat) : Array Value := #[.string ⟨s.toArray⟩, .int .i64 (i : Int), .int .i64 (op : Int)]
abbrev args4 (s : Bs) (op : Nat) (d : Int) (i : Nat) : Array Value := #[.string ⟨s.toArray⟩, .int .i64 (i : Int), .int .i64 (op : Int), .int .i64 d]
end Go.Proofs.YtbkhmkpbbggcbaaGreatDoor
