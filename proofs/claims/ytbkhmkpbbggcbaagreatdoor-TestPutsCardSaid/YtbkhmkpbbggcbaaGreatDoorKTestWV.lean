/- The walk of an operand that is a variable. -/
import Derived.Test.YtbkhmkpbbggcbaaGreatDoorKTestW9
import Derived.Test.YtbkhmkpbbggcbaaGreatDoorKSubFind
namespace Go.Proofs.YtbkhmkpbbggcbaaGreatDoor
open Go.RowKit
set_option linter.unusedVariables false
theorem seven_live {W : World} {b : Nat} {v0 v1 v2 v3 v4 v5 v6 : Value} {T : TypeId} (h : W.heap[b]? = some (.cells #[v0, v1, v2, v3, v4, v5, v6] T)) :
    W.frozen? ⟨b, 0, none⟩ = false ∧ W.frozen? ⟨b, 1, none⟩ = false ∧ W.frozen? ⟨b, 2, none⟩ = false ∧ W.frozen? ⟨b, 3, none⟩ = false ∧ W.frozen? ⟨b, 4, none⟩ = false ∧ W.frozen? ⟨b, 5, none⟩ = false ∧ W.frozen? ⟨b, 6, none⟩ = false ∧
    W.cell? ⟨b, 0, none⟩ = some v0 ∧ W.cell? ⟨b, 1, none⟩ = some v1 ∧ W.cell? ⟨b, 2, none⟩ = some v2 ∧ W.cell? ⟨b, 3, none⟩ = some v3 ∧ W.cell? ⟨b, 4, none⟩ = some v4 ∧ W.cell? ⟨b, 5, none⟩ = some v5 ∧ W.cell? ⟨b, 6, none⟩ = some v6 :=
  ⟨frozen_of_row _ _ 0 _ _ h, frozen_of_row _ _ 1 _ _ h, frozen_of_row _ _ 2 _ _ h, frozen_of_row _ _ 3 _ _ h, frozen_of_row _ _ 4 _ _ h, frozen_of_row _ _ 5 _ _ h, frozen_of_row _ _ 6 _ _ h, cell_of_row _ _ 0 _ _ _ h, cell_of_row _ _ 1 _ _ _ h, cell_of_row _ _ 2 _ _ _ h, cell_of_row _ _ 3 _ _ _ h, cell_of_row _ _ 4 _ _ _ h, cell_of_row _ _ 5 _ _ _ h, cell_of_row _ _ 6 _ _ _ h⟩
theorem var_no {s : Bs} {n : Nat} {l : Bs} (hd : s.drop n = l) (h : ∀ u, vfind s n = some u → u.src ≠ n) : varG s n l = .wrong n 15 := by
  unfold varG
  cases hp : partsAt l with
  | none => rfl
  | some q => exact absurd rfl (h _ (vfind_at (by rw [hd]; exact hp)))
theorem var_yes {s : Bs} {n : Nat} {l : Bs} {u : Use} (hd : s.drop n = l) (hn : n ≤ s.length) (h : vfind s n = some u) (hs : u.src = n) : varG s n l = .good (varE ⟨(u.src : Int), (u.to : Int), u.name, u.key, u.dft, u.hk, u.hd⟩) u.to ∧ u.to ≤ s.length := by
  cases hp : partsAt l with
  | none =>
    exfalso
    rw [vfind_next (by rw [hd]; exact hp)] at h
    have := vfind_found s.length s (n + 1) u (Nat.le_add_right _ _) h
    have h2 := this.ge
    omega
  | some q =>
    have h3 := vfind_at (s := s) (i := n) (p := q) (by rw [hd]; exact hp)
    rw [h] at h3
    cases h3
    unfold varG
    rw [hp]
    exact ⟨rfl, Nat.sub_le _ _⟩
theorem seven_row {W : World} {b : Nat} {u : Use} {v0 v1 v2 v3 v4 v5 v6 : Value} {T : TypeId} (h : W.heap[b]? = some (.cells #[v0, v1, v2, v3, v4, v5, v6] T)) : (((((((W.setCell ⟨b, 0, none⟩ (.int .i64 (u.src : Int))).setCell ⟨b, 1, none⟩ (.int .i64 (u.to : Int))).setCell ⟨b, 2, none⟩ (.string ⟨u.name.toArray⟩)).setCell ⟨b, 3, none⟩ (.string ⟨u.key.toArray⟩)).setCell ⟨b, 4, none⟩ (.string ⟨u.dft.toArray⟩)).setCell ⟨b, 5, none⟩ (.bool u.hk)).setCell ⟨b, 6, none⟩ (.bool u.hd)).heap[b]? = some (.cells #[.int .i64 (u.src : Int), .int .i64 (u.to : Int), .string ⟨u.name.toArray⟩, .string ⟨u.key.toArray⟩, .string ⟨u.dft.toArray⟩, .bool u.hk, .bool u.hd] T) := by
  have h0 := row_set (j := 0) (v := .int .i64 (u.src : Int)) h
  simp only [List.setIfInBounds_toArray, List.set_cons_zero] at h0
  have h1 := row_set (j := 1) (v := .int .i64 (u.to : Int)) h0
  simp only [List.setIfInBounds_toArray, List.set_cons_zero, List.set_cons_succ] at h1
  have h2 := row_set (j := 2) (v := .string ⟨u.name.toArray⟩) h1
  simp only [List.setIfInBounds_toArray, List.set_cons_zero, List.set_cons_succ] at h2
  have h3 := row_set (j := 3) (v := .string ⟨u.key.toArray⟩) h2
  simp only [List.setIfInBounds_toArray, List.set_cons_zero, List.set_cons_succ] at h3
  have h4 := row_set (j := 4) (v := .string ⟨u.dft.toArray⟩) h3
  simp only [List.setIfInBounds_toArray, List.set_cons_zero, List.set_cons_succ] at h4
  have h5 := row_set (j := 5) (v := .bool u.hk) h4
  simp only [List.setIfInBounds_toArray, List.set_cons_zero, List.set_cons_succ] at h5
  have h6 := row_set (j := 6) (v := .bool u.hd) h5
  simp only [List.setIfInBounds_toArray, List.set_cons_zero, List.set_cons_succ] at h6
  exact h6
set_option maxRecDepth 100000 in
set_option maxHeartbeats 4000000 in
theorem ps_op_var (w : World) (p : Nat) (s : Bs) (i op k : Nat) (c : UInt8) (r : Bs) (hi : i ≤ s.length) (hs : s.length ≤ 100000) (hr : rs s i = c :: r) (hd : dig c = false) (hc40 : (c == 40) = false) (hc39 : (c == 39) = false) (hgp : GP p w) (h : PB w p s i op 0) :
    Calls Tryz.prog 79 #[.pointer (some ⟨p, 0, none⟩)] w fun e w' => ∃ v, e = .returned v ∧ Turn p w w' ∧ Hid (Res w' p s op (From w.heap.size) (opK s k i) v) := by
  have HPL := Lib.hid h.lt
  have HB := Lib.hid (show PB (w.alloc (.cells #[.int .i64 0, .string ⟨#[]⟩, .int .i64 0, .int .i64 0, .string ⟨#[]⟩, .string ⟨#[]⟩, .string ⟨#[]⟩, .bool false, .bool false, .slice none 0 0] 26)) p s i op 0 from h.next ((Below.refl _ _).alloc (Nat.le_refl _) _))
  have HT0 := Lib.hid (show Below w.heap.size w (w.alloc (.cells #[.int .i64 0, .string ⟨#[]⟩, .int .i64 0, .int .i64 0, .string ⟨#[]⟩, .string ⟨#[]⟩, .string ⟨#[]⟩, .bool false, .bool false, .slice none 0 0] 26)) from (Below.refl _ _).alloc (Nat.le_refl _) _)
  have HN0 := Lib.hid (heap_alloc_new w (.cells #[.int .i64 0, .string ⟨#[]⟩, .int .i64 0, .int .i64 0, .string ⟨#[]⟩, .string ⟨#[]⟩, .string ⟨#[]⟩, .bool false, .bool false, .slice none 0 0] 26))
  have HSZ := Lib.hid (show (w.alloc (.cells #[.int .i64 0, .string ⟨#[]⟩, .int .i64 0, .int .i64 0, .string ⟨#[]⟩, .string ⟨#[]⟩, .string ⟨#[]⟩, .bool false, .bool false, .slice none 0 0] 26)).heap.size = w.heap.size + 1 by rw [World.size_alloc])
  have HK := Lib.hid (show opK s k i = varG s (pa s i) (c :: r) by
    unfold opK opG; rw [hr]
    show (bif c == 40 then _ else bif c == 39 then _ else bif dig c then _ else _) = _
    rw [hc40, hc39, hd]; rfl)
  have HRS := Lib.hid hr
  have hln := rs_lt hi hr
  have HDR := Lib.hid (show s.drop (pa s i) = c :: r by rw [drop_pa s hi, hr])
  have HPX := Lib.hid (show Lib.hasPrefix (rs s i) [40] = false by rw [hr]; simp [Lib.hasPrefix, List.isPrefixOf]; intro h; rw [← h] at hc40; revert hc40; decide)
  have HPY := Lib.hid (show Lib.hasPrefix (rs s i) [39] = false by rw [hr]; simp [Lib.hasPrefix, List.isPrefixOf]; intro h; rw [← h] at hc39; revert hc39; decide)
  have hdd : c.toNat < 48 ∨ 57 < c.toNat := by
    unfold dig at hd; rw [decide_eq_false_iff_not] at hd; omega
  have HDD := Lib.hid hdd
  clear h hr hd hc40 hc39 hdd
  go_enter Tryz.func79, Tryz.ntmps79
  go_wp2_with fail
  generalize w.alloc (.cells #[.int .i64 0, .string ⟨#[]⟩, .int .i64 0, .int .i64 0, .string ⟨#[]⟩, .string ⟨#[]⟩, .string ⟨#[]⟩, .bool false, .bool false, .slice none 0 0] 26) = W0 at *
  refine (ps_rest_ok W0 p s i op hi hs HB.out).mono ?_
  rintro e w1 ⟨rfl, hb1, ht1⟩
  have HB1 := Lib.hid hb1
  have HT1 := Lib.hid ht1
  obtain ⟨-, -, -, c3, -, -, -, -⟩ := hb1.pc
  rw [HRS.out]
  have q1 : ((c : UInt8) :: r == []) = false := rfl
  clear hb1 ht1
  go_wp2_with fail
  refine (ps_is_ok w1 p s (pa s i) op [40] (pa_le s i) hs (by decide) HB1.out).mono ?_
  rintro e w2 ⟨rfl, hb2, ht2⟩
  rw [rs_pa s hi, HPX.out, pa_pa s hi] at hb2
  rw [rs_pa s hi, HPX.out]
  have HB2 := Lib.hid (show PB w2 p s (pa s i) op 0 from hb2)
  have HT2 := Lib.hid (HT1.out.trans ht2)
  clear hb2 ht2 c3 q1
  go_wp2_with fail
  refine (ps_is_ok w2 p s (pa s i) op [39] (pa_le s i) hs (by decide) HB2.out).mono ?_
  rintro e w3 ⟨rfl, hb3, ht3⟩
  rw [rs_pa s hi, HPY.out, pa_pa s hi] at hb3
  rw [rs_pa s hi, HPY.out]
  obtain ⟨n1, hn1⟩ : ∃ n1, pa s i = n1 := ⟨_, rfl⟩
  have HB3 := Lib.hid (show PB w3 p s n1 op 0 by rw [← hn1]; exact hb3)
  have HT3 := Lib.hid (HT2.out.trans ht3)
  rw [hn1] at hln
  have HDR2 := Lib.hid (show s.drop n1 = c :: r by rw [← hn1]; exact HDR.out)
  have HN1 := Lib.hid hn1
  clear hb3 ht3 hn1
  have hix : ∀ h, (⟨(c :: r).toArray⟩ : ByteArray)[0]'h = c := fun _ => rfl
  have HB3d := Lib.hid (show PB w3.drew p s n1 op 0 from HB3.out)
  have HTD := Lib.hid (show Turn p W0 w3.drew from HT3.out.trans ⟨rfl, rfl, rfl, Nat.le_refl _, fun _ _ _ => rfl⟩)
  have HG3 := Lib.hid (show GP p w3.drew from ((hgp.turn (Turn.of_below HT0.out)).turn HT3.out).turn ⟨rfl, rfl, rfl, Nat.le_refl _, fun _ _ _ => rfl⟩)
  have HS3 := Lib.hid (show w3.drew.cell? ⟨p, 0, none⟩ = some (.string ⟨s.toArray⟩) ∧ w3.drew.cell? ⟨p, 1, none⟩ = some (.int .i64 (n1 : Int)) from ⟨HB3d.out.pc.c0, HB3d.out.pc.c1⟩)
  have HCL := Lib.hid (show clampN (n1 : Int) s.length = n1 by unfold clampN; omega)
  have HBa := Lib.hid (show PB (w3.alloc (.cells #[.int .i64 0, .int .i64 0, .string ⟨#[]⟩, .string ⟨#[]⟩, .string ⟨#[]⟩, .bool false, .bool false] 23)).drew p s n1 op 0 from PB.next (W' := w3.alloc (.cells #[.int .i64 0, .int .i64 0, .string ⟨#[]⟩, .string ⟨#[]⟩, .string ⟨#[]⟩, .bool false, .bool false] 23)) HB3.out ((Below.refl _ _).alloc (Nat.le_refl _) _))
  have HTa := Lib.hid (show Turn p W0 (w3.alloc (.cells #[.int .i64 0, .int .i64 0, .string ⟨#[]⟩, .string ⟨#[]⟩, .string ⟨#[]⟩, .bool false, .bool false] 23)).drew from (HT3.out.trans (Turn.of_below ((Below.refl _ _).alloc (Nat.le_refl _) (.cells #[.int .i64 0, .int .i64 0, .string ⟨#[]⟩, .string ⟨#[]⟩, .string ⟨#[]⟩, .bool false, .bool false] 23)))).trans ⟨rfl, rfl, rfl, Nat.le_refl _, fun _ _ _ => rfl⟩)
  have HGa := Lib.hid (show GP p (w3.alloc (.cells #[.int .i64 0, .int .i64 0, .string ⟨#[]⟩, .string ⟨#[]⟩, .string ⟨#[]⟩, .bool false, .bool false] 23)).drew from (hgp.turn (Turn.of_below HT0.out)).turn HTa.out)
  have HSa := Lib.hid (show (w3.alloc (.cells #[.int .i64 0, .int .i64 0, .string ⟨#[]⟩, .string ⟨#[]⟩, .string ⟨#[]⟩, .bool false, .bool false] 23)).drew.cell? ⟨p, 0, none⟩ = some (.string ⟨s.toArray⟩) ∧ (w3.alloc (.cells #[.int .i64 0, .int .i64 0, .string ⟨#[]⟩, .string ⟨#[]⟩, .string ⟨#[]⟩, .bool false, .bool false] 23)).drew.cell? ⟨p, 1, none⟩ = some (.int .i64 (n1 : Int)) from ⟨HBa.out.pc.c0, HBa.out.pc.c1⟩)
  have HRa := Lib.hid (show (w3.alloc (.cells #[.int .i64 0, .int .i64 0, .string ⟨#[]⟩, .string ⟨#[]⟩, .string ⟨#[]⟩, .bool false, .bool false] 23)).drew.heap[w3.heap.size]? = some (.cells #[.int .i64 0, .int .i64 0, .string ⟨#[]⟩, .string ⟨#[]⟩, .string ⟨#[]⟩, .bool false, .bool false] 23) from heap_alloc_new w3 (.cells #[.int .i64 0, .int .i64 0, .string ⟨#[]⟩, .string ⟨#[]⟩, .string ⟨#[]⟩, .bool false, .bool false] 23))
  have HLE := Lib.hid (show W0.heap.size ≤ w3.heap.size from HT3.out.size)
  have HP3 := Lib.hid (show p < w3.heap.size from HB3.out.lt)
  obtain ⟨o, ho⟩ : ∃ o, vfind s n1 = o := ⟨_, rfl⟩
  obtain ⟨u, hu⟩ : ∃ u, o.getD noUse = u := ⟨_, rfl⟩
  obtain ⟨ok, hok⟩ : ∃ ok, o.isSome = ok := ⟨_, rfl⟩
  have HV := Lib.hid (show foundV (vfind (⟨s.toArray⟩ : ByteArray).data.toList (clampN (n1 : Int) (⟨s.toArray⟩ : ByteArray).size)) = .tuple #[.agg #[.int .i64 (u.src : Int), .int .i64 (u.to : Int), .string ⟨u.name.toArray⟩, .string ⟨u.key.toArray⟩, .string ⟨u.dft.toArray⟩, .bool u.hk, .bool u.hd], .bool ok] by
    rw [show (⟨s.toArray⟩ : ByteArray).size = s.length from rfl, HCL.out, show (⟨s.toArray⟩ : ByteArray).data.toList = s from rfl, ho, foundV, hu, hok]; rfl)
  have HO := Lib.hid (And.intro ho (And.intro hu hok))
  clear ho hu hok
  rcases HDD.out with hdd | hdd
  · have h48 : ¬ (48 : Int) ≤ (c.toNat : Int) := by omega
    go_upto_region 2 with fail
    clear hix h48
    go_region_held3 (fun w' => w'.cell? ⟨p, 0, none⟩ = some (.string ⟨s.toArray⟩) ∧ w'.cell? ⟨p, 1, none⟩ = some (.int .i64 (n1 : Int))) (first | with_reducible exact HS3.out | with_reducible exact HSa.out | with_reducible exact HS4.out | with_reducible exact HSb.out | with_reducible exact HSc.out | with_reducible exact HSd.out)
      (first
        | (go_at_call 41; refine (sub_Find ⟨s.toArray⟩ (n1 : Int) (w3.drew) HG3.out.1 (by show s.length ≤ _; omega)).mono ?_; rintro e w4 ⟨rfl, hb4⟩; rw [HV.out]; have HB4 := Lib.hid (HB3d.out.next hb4); have HT4 := Lib.hid (HTD.out.trans (Turn.of_below hb4)); have HS4 := Lib.hid (show w4.cell? ⟨p, 0, none⟩ = some (.string ⟨s.toArray⟩) ∧ w4.cell? ⟨p, 1, none⟩ = some (.int .i64 (n1 : Int)) from ⟨HB4.out.pc.c0, HB4.out.pc.c1⟩); have HBb := Lib.hid (show PB (w4.alloc (.cells #[.int .i64 0, .int .i64 0, .string ⟨#[]⟩, .string ⟨#[]⟩, .string ⟨#[]⟩, .bool false, .bool false] 23)) p s n1 op 0 from HB4.out.next ((Below.refl _ _).alloc (Nat.le_refl _) _)); have HBc := Lib.hid (show PB (w4.alloc (.cells #[.int .i64 (u.src : Int), .int .i64 (u.to : Int), .string ⟨u.name.toArray⟩, .string ⟨u.key.toArray⟩, .string ⟨u.dft.toArray⟩, .bool u.hk, .bool u.hd] 23)) p s n1 op 0 from HB4.out.next ((Below.refl _ _).alloc (Nat.le_refl _) _)); have HSb := Lib.hid (show (w4.alloc (.cells #[.int .i64 0, .int .i64 0, .string ⟨#[]⟩, .string ⟨#[]⟩, .string ⟨#[]⟩, .bool false, .bool false] 23)).cell? ⟨p, 0, none⟩ = some (.string ⟨s.toArray⟩) ∧ (w4.alloc (.cells #[.int .i64 0, .int .i64 0, .string ⟨#[]⟩, .string ⟨#[]⟩, .string ⟨#[]⟩, .bool false, .bool false] 23)).cell? ⟨p, 1, none⟩ = some (.int .i64 (n1 : Int)) from ⟨HBb.out.pc.c0, HBb.out.pc.c1⟩); have HSc := Lib.hid (show (w4.alloc (.cells #[.int .i64 (u.src : Int), .int .i64 (u.to : Int), .string ⟨u.name.toArray⟩, .string ⟨u.key.toArray⟩, .string ⟨u.dft.toArray⟩, .bool u.hk, .bool u.hd] 23)).cell? ⟨p, 0, none⟩ = some (.string ⟨s.toArray⟩) ∧ (w4.alloc (.cells #[.int .i64 (u.src : Int), .int .i64 (u.to : Int), .string ⟨u.name.toArray⟩, .string ⟨u.key.toArray⟩, .string ⟨u.dft.toArray⟩, .bool u.hk, .bool u.hd] 23)).cell? ⟨p, 1, none⟩ = some (.int .i64 (n1 : Int)) from ⟨HBc.out.pc.c0, HBc.out.pc.c1⟩); have hb7 := HBc.out; have ht7 := (show Turn p W0 (w4.alloc (.cells #[.int .i64 (u.src : Int), .int .i64 (u.to : Int), .string ⟨u.name.toArray⟩, .string ⟨u.key.toArray⟩, .string ⟨u.dft.toArray⟩, .bool u.hk, .bool u.hd] 23)) from HT4.out.trans (Turn.of_below ((Below.refl _ _).alloc (Nat.le_refl _) _))); have hr7 := (heap_alloc_new w4 (.cells #[.int .i64 (u.src : Int), .int .i64 (u.to : Int), .string ⟨u.name.toArray⟩, .string ⟨u.key.toArray⟩, .string ⟨u.dft.toArray⟩, .bool u.hk, .bool u.hd] 23)); obtain ⟨W7, hW7⟩ : ∃ W7, (w4.alloc (.cells #[.int .i64 (u.src : Int), .int .i64 (u.to : Int), .string ⟨u.name.toArray⟩, .string ⟨u.key.toArray⟩, .string ⟨u.dft.toArray⟩, .bool u.hk, .bool u.hd] 23)) = W7 := ⟨_, rfl⟩; obtain ⟨bb, hbb⟩ : ∃ bb, w4.heap.size = bb := ⟨_, rfl⟩; rw [hW7] at hb7 ht7 hr7; rw [hbb] at hr7; have HW7 := Lib.hid hW7; have HBB := Lib.hid hbb; have HB7 := Lib.hid hb7; have HT7 := Lib.hid ht7; have HR7 := Lib.hid hr7; have HBP := Lib.hid (show some bb ≠ some p from by rw [← hbb]; have := HB4.out.lt; intro e; cases e; omega); clear hW7 hbb hb7 ht7 hr7; clear hb4)
        | (go_at_call 41; refine (sub_Find ⟨s.toArray⟩ (n1 : Int) _ HGa.out.1 (by show s.length ≤ _; omega)).mono ?_; rintro e w4 ⟨rfl, hb4⟩; rw [HV.out]; have HB4 := Lib.hid (HBa.out.next hb4); have HT4 := Lib.hid (HTa.out.trans (Turn.of_below hb4)); have HS4 := Lib.hid (show w4.cell? ⟨p, 0, none⟩ = some (.string ⟨s.toArray⟩) ∧ w4.cell? ⟨p, 1, none⟩ = some (.int .i64 (n1 : Int)) from ⟨HB4.out.pc.c0, HB4.out.pc.c1⟩); have HR4 := Lib.hid ((hb4.block w3.heap.size (Array.getElem?_eq_some_iff.1 HRa.out).1).trans HRa.out); have HBd := Lib.hid (show PB (((((((w4.setCell ⟨w3.heap.size, 0, none⟩ (.int .i64 (u.src : Int))).setCell ⟨w3.heap.size, 1, none⟩ (.int .i64 (u.to : Int))).setCell ⟨w3.heap.size, 2, none⟩ (.string ⟨u.name.toArray⟩)).setCell ⟨w3.heap.size, 3, none⟩ (.string ⟨u.key.toArray⟩)).setCell ⟨w3.heap.size, 4, none⟩ (.string ⟨u.dft.toArray⟩)).setCell ⟨w3.heap.size, 5, none⟩ (.bool u.hk)).setCell ⟨w3.heap.size, 6, none⟩ (.bool u.hd)) p s n1 op 0 from PB.turn HB4.out ((Turn.refl w3.heap.size w4).set.set.set.set.set.set.set) (by have := HP3.out; omega)); have HSd := Lib.hid (show (((((((w4.setCell ⟨w3.heap.size, 0, none⟩ (.int .i64 (u.src : Int))).setCell ⟨w3.heap.size, 1, none⟩ (.int .i64 (u.to : Int))).setCell ⟨w3.heap.size, 2, none⟩ (.string ⟨u.name.toArray⟩)).setCell ⟨w3.heap.size, 3, none⟩ (.string ⟨u.key.toArray⟩)).setCell ⟨w3.heap.size, 4, none⟩ (.string ⟨u.dft.toArray⟩)).setCell ⟨w3.heap.size, 5, none⟩ (.bool u.hk)).setCell ⟨w3.heap.size, 6, none⟩ (.bool u.hd)).cell? ⟨p, 0, none⟩ = some (.string ⟨s.toArray⟩) ∧ (((((((w4.setCell ⟨w3.heap.size, 0, none⟩ (.int .i64 (u.src : Int))).setCell ⟨w3.heap.size, 1, none⟩ (.int .i64 (u.to : Int))).setCell ⟨w3.heap.size, 2, none⟩ (.string ⟨u.name.toArray⟩)).setCell ⟨w3.heap.size, 3, none⟩ (.string ⟨u.key.toArray⟩)).setCell ⟨w3.heap.size, 4, none⟩ (.string ⟨u.dft.toArray⟩)).setCell ⟨w3.heap.size, 5, none⟩ (.bool u.hk)).setCell ⟨w3.heap.size, 6, none⟩ (.bool u.hd)).cell? ⟨p, 1, none⟩ = some (.int .i64 (n1 : Int)) from ⟨HBd.out.pc.c0, HBd.out.pc.c1⟩); have hb7 := HBd.out; have ht7 := (show Turn p W0 (((((((w4.setCell ⟨w3.heap.size, 0, none⟩ (.int .i64 (u.src : Int))).setCell ⟨w3.heap.size, 1, none⟩ (.int .i64 (u.to : Int))).setCell ⟨w3.heap.size, 2, none⟩ (.string ⟨u.name.toArray⟩)).setCell ⟨w3.heap.size, 3, none⟩ (.string ⟨u.key.toArray⟩)).setCell ⟨w3.heap.size, 4, none⟩ (.string ⟨u.dft.toArray⟩)).setCell ⟨w3.heap.size, 5, none⟩ (.bool u.hk)).setCell ⟨w3.heap.size, 6, none⟩ (.bool u.hd)) from turn_fresh HT4.out ((Turn.refl w3.heap.size w4).set.set.set.set.set.set.set) HLE.out); have hr7 := (seven_row (u := u) HR4.out); obtain ⟨W7, hW7⟩ : ∃ W7, (((((((w4.setCell ⟨w3.heap.size, 0, none⟩ (.int .i64 (u.src : Int))).setCell ⟨w3.heap.size, 1, none⟩ (.int .i64 (u.to : Int))).setCell ⟨w3.heap.size, 2, none⟩ (.string ⟨u.name.toArray⟩)).setCell ⟨w3.heap.size, 3, none⟩ (.string ⟨u.key.toArray⟩)).setCell ⟨w3.heap.size, 4, none⟩ (.string ⟨u.dft.toArray⟩)).setCell ⟨w3.heap.size, 5, none⟩ (.bool u.hk)).setCell ⟨w3.heap.size, 6, none⟩ (.bool u.hd)) = W7 := ⟨_, rfl⟩; obtain ⟨bb, hbb⟩ : ∃ bb, w3.heap.size = bb := ⟨_, rfl⟩; rw [hW7] at hb7 ht7 hr7; rw [hbb] at hr7; have HW7 := Lib.hid hW7; have HBB := Lib.hid hbb; have HB7 := Lib.hid hb7; have HT7 := Lib.hid ht7; have HR7 := Lib.hid hr7; have HBP := Lib.hid (show some bb ≠ some p from by rw [← hbb]; have := HP3.out; intro e; cases e; omega); clear hW7 hbb hb7 ht7 hr7; clear hb4; obtain ⟨f0, f1, f2, f3, f4, f5, f6, g0, g1, g2, g3, g4, g5, g6⟩ := seven_live HR4.out))
    all_goals
      rename_i hheld
      clear hheld
      rw [HW7.out, HBB.out]
      try clear f0 f1 f2 f3 f4 f5 f6 g0 g1 g2 g3 g4 g5 g6
      clear HBB HW7 HBa HTa HGa HSa HRa HB3d HTD HG3 HS3
      cases ok
      · have HVN := Lib.hid (var_no HDR2.out (fun u' hu' => by have h1 := HO.out.1; rw [hu'] at h1; have h2 := HO.out.2.2; rw [← h1] at h2; cases h2))
        clear HR7
        go_upto_region 3 with fail
        go_quiet (fail)
        have HB8 := Lib.hid (show PB (W7.drewN nq) p s n1 op 0 from HB7.out)
        have HT8 := Lib.hid (show Turn p W0 (W7.drewN nq) from ⟨HT7.out.os, HT7.out.tape, HT7.out.output, HT7.out.size, HT7.out.block⟩)
        generalize W7.drewN nq = W8 at *
        go_wp2_with fail
        refine (ps_fail W8 p s n1 op 0 15 HB8.out).mono ?_
        rintro e w9 ⟨rfl, hb9, ht9⟩
        rw [if_pos rfl] at hb9
        have HT9 := Lib.hid (HT8.out.trans ht9)
        have HN9 := Lib.hid (first_row HN0.out HT9.out HPL.out)
        have HE := Lib.hid (put_bad (k := 0) (t := []) (u := noUseI) (a := none) (n := 0) (c := 0) ((Turn.of_below HT0.out).trans HT9.out) HPL.out hb9)
        have HRW := Lib.hid (setTen_row (k := 0) (t := []) (u := noUseI) (kv := .slice none 0 0) HN9.out)
        obtain ⟨f0, f1, f2, f3, f4, f5, f6, f7, f8, f9⟩ := ten_frozen HN9.out
        obtain ⟨g0, g1, g2, g3, g4, g5, g6, g7, g8, g9⟩ := ten_live HN9.out
        clear hb9 ht9
        go_wp2_with fail
        clear f0 f1 f2 f3 f4 f5 f6 f7 f8 f9 g0 g1 g2 g3 g4 g5 g6 g7 g8 g9
        refine bodyPost_ret (v := exV 0 [] noUseI (.slice none 0 0)) ?_ rfl ⟨_, rfl, HE.out.1, Lib.hid (by rw [HK.out, HN1.out, HVN.out]; exact ⟨by decide, by omega, HE.out.2.1, HE.out.2.2⟩)⟩
        exact results_ten (b := w.heap.size) rfl rfl HRW.out
      · have hou : o = some u := by
          have h2 := HO.out.2.1
          have h3 := HO.out.2.2
          cases o with
          | none => cases h3
          | some u' => exact congrArg some h2
        have hvf : vfind s n1 = some u := HO.out.1.trans hou
        have hnl : n1 ≤ s.length := by omega
        obtain ⟨-, c1, -, -, -, -, -, -⟩ := HB7.out.pc
        by_cases hsr : u.src = n1
        · have hvy := var_yes HDR2.out hnl hvf hsr
          rw [hsr] at hvy
          have HVY := Lib.hid hvy
          have hr8 := HR7.out
          rw [hsr] at hr8
          have HRX := Lib.hid hr8
          obtain ⟨-, -, -, -, -, -, -, b0, b1, b2, b3, b4, b5, b6⟩ := seven_live hr8
          clear hvy hou hvf hsr HR7 hr8
          go_upto_region 3 with fail
          go_quiet (fail)
          have HB8 := Lib.hid (show PB (W7.drewN nq) p s n1 op 0 from HB7.out)
          have HT8 := Lib.hid (show Turn p W0 (W7.drewN nq) from ⟨HT7.out.os, HT7.out.tape, HT7.out.output, HT7.out.size, HT7.out.block⟩)
          have HRX8 := Lib.hid (show (W7.drewN nq).heap[bb]? = _ from HRX.out)
          clear b0 b1 b2 b3 b4 b5 b6 c1
          generalize W7.drewN nq = W8 at *
          have HB9 := Lib.hid (show PB (W8.setCell ⟨p, 1, none⟩ (.int .i64 (u.to : Int))) p s u.to op 0 from HB8.out.set1 u.to)
          have HT9 := Lib.hid (show Turn p W0 (W8.setCell ⟨p, 1, none⟩ (.int .i64 (u.to : Int))) from HT8.out.set)
          have HR9 := Lib.hid (show (W8.setCell ⟨p, 1, none⟩ (.int .i64 (u.to : Int))).heap[bb]? = _ from ((Turn.refl p W8).set.block bb (Array.getElem?_eq_some_iff.1 HRX8.out).1 HBP.out).trans HRX8.out)
          obtain ⟨-, -, -, -, -, -, -, -, b1, -, -, -, -, -⟩ := seven_live HRX8.out
          obtain ⟨-, c1, -, -, -, f1, -, -⟩ := HB8.out.pc
          go_upto_region 6 with fail
          clear b1 f1 c1
          generalize W8.setCell ⟨p, 1, none⟩ (.int .i64 (u.to : Int)) = W9 at *
          obtain ⟨-, -, -, -, -, -, -, b0, b1, b2, b3, b4, b5, b6⟩ := seven_live HR9.out
          have HN9 := Lib.hid (first_row HN0.out HT9.out HPL.out)
          obtain ⟨f0, f1, f2, f3, f4, f5, f6, f7, f8, f9⟩ := ten_frozen HN9.out
          obtain ⟨g0, g1, g2, g3, g4, g5, g6, g7, g8, g9⟩ := ten_live HN9.out
          have HRW := Lib.hid (setTen_row (k := 12) (t := []) (u := ⟨(n1 : Int), (u.to : Int), u.name, u.key, u.dft, u.hk, u.hd⟩) (kv := .slice none 0 0) HN9.out)
          have HE := Lib.hid (put_end (N := W0.heap.size) ((Turn.of_below HT0.out).trans HT9.out) HPL.out (by have := HSZ.out; omega) (show Res W9 p s op (From W0.heap.size) (.good (varE ⟨(n1 : Int), (u.to : Int), u.name, u.key, u.dft, u.hk, u.hd⟩) u.to) (exV 12 [] ⟨(n1 : Int), (u.to : Int), u.name, u.key, u.dft, u.hk, u.hd⟩ (.slice none 0 0)) from ⟨⟨u.to, HVY.out.2, HVY.out.2, rfl, HB9.out⟩, exAt_leaf _ _ 12 [] _⟩))
          go_wp2_with fail
          clear f0 f1 f2 f3 f4 f5 f6 f7 f8 f9 g0 g1 g2 g3 g4 g5 g6 g7 g8 g9 b0 b1 b2 b3 b4 b5 b6
          refine bodyPost_ret (v := exV 12 [] ⟨(n1 : Int), (u.to : Int), u.name, u.key, u.dft, u.hk, u.hd⟩ (.slice none 0 0)) ?_ rfl ⟨_, rfl, HE.out.1, Lib.hid (by rw [HK.out, HN1.out, HVY.out.1]; exact HE.out.2)⟩
          exact results_ten (b := w.heap.size) rfl rfl HRW.out
        · have HVN := Lib.hid (var_no HDR2.out (fun u' hu' => by rw [hvf] at hu'; cases hu'; exact hsr))
          have hsq : ((u.src : Int) == (n1 : Int)) = false := by rw [beq_eq_false_iff_ne]; omega
          have hsq2 : ((u.src : Int) != (n1 : Int)) = true := by rw [bne_iff_ne]; omega
          obtain ⟨-, -, -, -, -, -, -, b0, -, -, -, -, -, -⟩ := seven_live HR7.out
          clear hou hvf hsr HR7
          go_upto_region 3 with fail
          go_quiet (fail)
          clear hsq hsq2 b0 c1
          have HB8 := Lib.hid (show PB (W7.drewN nq) p s n1 op 0 from HB7.out)
          have HT8 := Lib.hid (show Turn p W0 (W7.drewN nq) from ⟨HT7.out.os, HT7.out.tape, HT7.out.output, HT7.out.size, HT7.out.block⟩)
          generalize W7.drewN nq = W8 at *
          go_wp2_with fail
          refine (ps_fail W8 p s n1 op 0 15 HB8.out).mono ?_
          rintro e w9 ⟨rfl, hb9, ht9⟩
          rw [if_pos rfl] at hb9
          have HT9 := Lib.hid (HT8.out.trans ht9)
          have HN9 := Lib.hid (first_row HN0.out HT9.out HPL.out)
          have HE := Lib.hid (put_bad (k := 0) (t := []) (u := noUseI) (a := none) (n := 0) (c := 0) ((Turn.of_below HT0.out).trans HT9.out) HPL.out hb9)
          have HRW := Lib.hid (setTen_row (k := 0) (t := []) (u := noUseI) (kv := .slice none 0 0) HN9.out)
          obtain ⟨f0, f1, f2, f3, f4, f5, f6, f7, f8, f9⟩ := ten_frozen HN9.out
          obtain ⟨g0, g1, g2, g3, g4, g5, g6, g7, g8, g9⟩ := ten_live HN9.out
          clear hb9 ht9
          go_wp2_with fail
          clear f0 f1 f2 f3 f4 f5 f6 f7 f8 f9 g0 g1 g2 g3 g4 g5 g6 g7 g8 g9
          refine bodyPost_ret (v := exV 0 [] noUseI (.slice none 0 0)) ?_ rfl ⟨_, rfl, HE.out.1, Lib.hid (by rw [HK.out, HN1.out, HVN.out]; exact ⟨by decide, by omega, HE.out.2.1, HE.out.2.2⟩)⟩
          exact results_ten (b := w.heap.size) rfl rfl HRW.out
  · have h57 : ¬ (c.toNat : Int) ≤ 57 := by omega
    have h48 : (48 : Int) ≤ (c.toNat : Int) := by omega
    go_upto_region 2 with fail
    clear hix h48 h57
    go_region_held3 (fun w' => w'.cell? ⟨p, 0, none⟩ = some (.string ⟨s.toArray⟩) ∧ w'.cell? ⟨p, 1, none⟩ = some (.int .i64 (n1 : Int))) (first | with_reducible exact HS3.out | with_reducible exact HSa.out | with_reducible exact HS4.out | with_reducible exact HSb.out | with_reducible exact HSc.out | with_reducible exact HSd.out)
      (first
        | (go_at_call 41; refine (sub_Find ⟨s.toArray⟩ (n1 : Int) (w3.drew) HG3.out.1 (by show s.length ≤ _; omega)).mono ?_; rintro e w4 ⟨rfl, hb4⟩; rw [HV.out]; have HB4 := Lib.hid (HB3d.out.next hb4); have HT4 := Lib.hid (HTD.out.trans (Turn.of_below hb4)); have HS4 := Lib.hid (show w4.cell? ⟨p, 0, none⟩ = some (.string ⟨s.toArray⟩) ∧ w4.cell? ⟨p, 1, none⟩ = some (.int .i64 (n1 : Int)) from ⟨HB4.out.pc.c0, HB4.out.pc.c1⟩); have HBb := Lib.hid (show PB (w4.alloc (.cells #[.int .i64 0, .int .i64 0, .string ⟨#[]⟩, .string ⟨#[]⟩, .string ⟨#[]⟩, .bool false, .bool false] 23)) p s n1 op 0 from HB4.out.next ((Below.refl _ _).alloc (Nat.le_refl _) _)); have HBc := Lib.hid (show PB (w4.alloc (.cells #[.int .i64 (u.src : Int), .int .i64 (u.to : Int), .string ⟨u.name.toArray⟩, .string ⟨u.key.toArray⟩, .string ⟨u.dft.toArray⟩, .bool u.hk, .bool u.hd] 23)) p s n1 op 0 from HB4.out.next ((Below.refl _ _).alloc (Nat.le_refl _) _)); have HSb := Lib.hid (show (w4.alloc (.cells #[.int .i64 0, .int .i64 0, .string ⟨#[]⟩, .string ⟨#[]⟩, .string ⟨#[]⟩, .bool false, .bool false] 23)).cell? ⟨p, 0, none⟩ = some (.string ⟨s.toArray⟩) ∧ (w4.alloc (.cells #[.int .i64 0, .int .i64 0, .string ⟨#[]⟩, .string ⟨#[]⟩, .string ⟨#[]⟩, .bool false, .bool false] 23)).cell? ⟨p, 1, none⟩ = some (.int .i64 (n1 : Int)) from ⟨HBb.out.pc.c0, HBb.out.pc.c1⟩); have HSc := Lib.hid (show (w4.alloc (.cells #[.int .i64 (u.src : Int), .int .i64 (u.to : Int), .string ⟨u.name.toArray⟩, .string ⟨u.key.toArray⟩, .string ⟨u.dft.toArray⟩, .bool u.hk, .bool u.hd] 23)).cell? ⟨p, 0, none⟩ = some (.string ⟨s.toArray⟩) ∧ (w4.alloc (.cells #[.int .i64 (u.src : Int), .int .i64 (u.to : Int), .string ⟨u.name.toArray⟩, .string ⟨u.key.toArray⟩, .string ⟨u.dft.toArray⟩, .bool u.hk, .bool u.hd] 23)).cell? ⟨p, 1, none⟩ = some (.int .i64 (n1 : Int)) from ⟨HBc.out.pc.c0, HBc.out.pc.c1⟩); have hb7 := HBc.out; have ht7 := (show Turn p W0 (w4.alloc (.cells #[.int .i64 (u.src : Int), .int .i64 (u.to : Int), .string ⟨u.name.toArray⟩, .string ⟨u.key.toArray⟩, .string ⟨u.dft.toArray⟩, .bool u.hk, .bool u.hd] 23)) from HT4.out.trans (Turn.of_below ((Below.refl _ _).alloc (Nat.le_refl _) _))); have hr7 := (heap_alloc_new w4 (.cells #[.int .i64 (u.src : Int), .int .i64 (u.to : Int), .string ⟨u.name.toArray⟩, .string ⟨u.key.toArray⟩, .string ⟨u.dft.toArray⟩, .bool u.hk, .bool u.hd] 23)); obtain ⟨W7, hW7⟩ : ∃ W7, (w4.alloc (.cells #[.int .i64 (u.src : Int), .int .i64 (u.to : Int), .string ⟨u.name.toArray⟩, .string ⟨u.key.toArray⟩, .string ⟨u.dft.toArray⟩, .bool u.hk, .bool u.hd] 23)) = W7 := ⟨_, rfl⟩; obtain ⟨bb, hbb⟩ : ∃ bb, w4.heap.size = bb := ⟨_, rfl⟩; rw [hW7] at hb7 ht7 hr7; rw [hbb] at hr7; have HW7 := Lib.hid hW7; have HBB := Lib.hid hbb; have HB7 := Lib.hid hb7; have HT7 := Lib.hid ht7; have HR7 := Lib.hid hr7; have HBP := Lib.hid (show some bb ≠ some p from by rw [← hbb]; have := HB4.out.lt; intro e; cases e; omega); clear hW7 hbb hb7 ht7 hr7; clear hb4)
        | (go_at_call 41; refine (sub_Find ⟨s.toArray⟩ (n1 : Int) _ HGa.out.1 (by show s.length ≤ _; omega)).mono ?_; rintro e w4 ⟨rfl, hb4⟩; rw [HV.out]; have HB4 := Lib.hid (HBa.out.next hb4); have HT4 := Lib.hid (HTa.out.trans (Turn.of_below hb4)); have HS4 := Lib.hid (show w4.cell? ⟨p, 0, none⟩ = some (.string ⟨s.toArray⟩) ∧ w4.cell? ⟨p, 1, none⟩ = some (.int .i64 (n1 : Int)) from ⟨HB4.out.pc.c0, HB4.out.pc.c1⟩); have HR4 := Lib.hid ((hb4.block w3.heap.size (Array.getElem?_eq_some_iff.1 HRa.out).1).trans HRa.out); have HBd := Lib.hid (show PB (((((((w4.setCell ⟨w3.heap.size, 0, none⟩ (.int .i64 (u.src : Int))).setCell ⟨w3.heap.size, 1, none⟩ (.int .i64 (u.to : Int))).setCell ⟨w3.heap.size, 2, none⟩ (.string ⟨u.name.toArray⟩)).setCell ⟨w3.heap.size, 3, none⟩ (.string ⟨u.key.toArray⟩)).setCell ⟨w3.heap.size, 4, none⟩ (.string ⟨u.dft.toArray⟩)).setCell ⟨w3.heap.size, 5, none⟩ (.bool u.hk)).setCell ⟨w3.heap.size, 6, none⟩ (.bool u.hd)) p s n1 op 0 from PB.turn HB4.out ((Turn.refl w3.heap.size w4).set.set.set.set.set.set.set) (by have := HP3.out; omega)); have HSd := Lib.hid (show (((((((w4.setCell ⟨w3.heap.size, 0, none⟩ (.int .i64 (u.src : Int))).setCell ⟨w3.heap.size, 1, none⟩ (.int .i64 (u.to : Int))).setCell ⟨w3.heap.size, 2, none⟩ (.string ⟨u.name.toArray⟩)).setCell ⟨w3.heap.size, 3, none⟩ (.string ⟨u.key.toArray⟩)).setCell ⟨w3.heap.size, 4, none⟩ (.string ⟨u.dft.toArray⟩)).setCell ⟨w3.heap.size, 5, none⟩ (.bool u.hk)).setCell ⟨w3.heap.size, 6, none⟩ (.bool u.hd)).cell? ⟨p, 0, none⟩ = some (.string ⟨s.toArray⟩) ∧ (((((((w4.setCell ⟨w3.heap.size, 0, none⟩ (.int .i64 (u.src : Int))).setCell ⟨w3.heap.size, 1, none⟩ (.int .i64 (u.to : Int))).setCell ⟨w3.heap.size, 2, none⟩ (.string ⟨u.name.toArray⟩)).setCell ⟨w3.heap.size, 3, none⟩ (.string ⟨u.key.toArray⟩)).setCell ⟨w3.heap.size, 4, none⟩ (.string ⟨u.dft.toArray⟩)).setCell ⟨w3.heap.size, 5, none⟩ (.bool u.hk)).setCell ⟨w3.heap.size, 6, none⟩ (.bool u.hd)).cell? ⟨p, 1, none⟩ = some (.int .i64 (n1 : Int)) from ⟨HBd.out.pc.c0, HBd.out.pc.c1⟩); have hb7 := HBd.out; have ht7 := (show Turn p W0 (((((((w4.setCell ⟨w3.heap.size, 0, none⟩ (.int .i64 (u.src : Int))).setCell ⟨w3.heap.size, 1, none⟩ (.int .i64 (u.to : Int))).setCell ⟨w3.heap.size, 2, none⟩ (.string ⟨u.name.toArray⟩)).setCell ⟨w3.heap.size, 3, none⟩ (.string ⟨u.key.toArray⟩)).setCell ⟨w3.heap.size, 4, none⟩ (.string ⟨u.dft.toArray⟩)).setCell ⟨w3.heap.size, 5, none⟩ (.bool u.hk)).setCell ⟨w3.heap.size, 6, none⟩ (.bool u.hd)) from turn_fresh HT4.out ((Turn.refl w3.heap.size w4).set.set.set.set.set.set.set) HLE.out); have hr7 := (seven_row (u := u) HR4.out); obtain ⟨W7, hW7⟩ : ∃ W7, (((((((w4.setCell ⟨w3.heap.size, 0, none⟩ (.int .i64 (u.src : Int))).setCell ⟨w3.heap.size, 1, none⟩ (.int .i64 (u.to : Int))).setCell ⟨w3.heap.size, 2, none⟩ (.string ⟨u.name.toArray⟩)).setCell ⟨w3.heap.size, 3, none⟩ (.string ⟨u.key.toArray⟩)).setCell ⟨w3.heap.size, 4, none⟩ (.string ⟨u.dft.toArray⟩)).setCell ⟨w3.heap.size, 5, none⟩ (.bool u.hk)).setCell ⟨w3.heap.size, 6, none⟩ (.bool u.hd)) = W7 := ⟨_, rfl⟩; obtain ⟨bb, hbb⟩ : ∃ bb, w3.heap.size = bb := ⟨_, rfl⟩; rw [hW7] at hb7 ht7 hr7; rw [hbb] at hr7; have HW7 := Lib.hid hW7; have HBB := Lib.hid hbb; have HB7 := Lib.hid hb7; have HT7 := Lib.hid ht7; have HR7 := Lib.hid hr7; have HBP := Lib.hid (show some bb ≠ some p from by rw [← hbb]; have := HP3.out; intro e; cases e; omega); clear hW7 hbb hb7 ht7 hr7; clear hb4; obtain ⟨f0, f1, f2, f3, f4, f5, f6, g0, g1, g2, g3, g4, g5, g6⟩ := seven_live HR4.out))
    all_goals
      rename_i hheld
      clear hheld
      rw [HW7.out, HBB.out]
      try clear f0 f1 f2 f3 f4 f5 f6 g0 g1 g2 g3 g4 g5 g6
      clear HBB HW7 HBa HTa HGa HSa HRa HB3d HTD HG3 HS3
      cases ok
      · have HVN := Lib.hid (var_no HDR2.out (fun u' hu' => by have h1 := HO.out.1; rw [hu'] at h1; have h2 := HO.out.2.2; rw [← h1] at h2; cases h2))
        clear HR7
        go_upto_region 3 with fail
        go_quiet (fail)
        have HB8 := Lib.hid (show PB (W7.drewN nq) p s n1 op 0 from HB7.out)
        have HT8 := Lib.hid (show Turn p W0 (W7.drewN nq) from ⟨HT7.out.os, HT7.out.tape, HT7.out.output, HT7.out.size, HT7.out.block⟩)
        generalize W7.drewN nq = W8 at *
        go_wp2_with fail
        refine (ps_fail W8 p s n1 op 0 15 HB8.out).mono ?_
        rintro e w9 ⟨rfl, hb9, ht9⟩
        rw [if_pos rfl] at hb9
        have HT9 := Lib.hid (HT8.out.trans ht9)
        have HN9 := Lib.hid (first_row HN0.out HT9.out HPL.out)
        have HE := Lib.hid (put_bad (k := 0) (t := []) (u := noUseI) (a := none) (n := 0) (c := 0) ((Turn.of_below HT0.out).trans HT9.out) HPL.out hb9)
        have HRW := Lib.hid (setTen_row (k := 0) (t := []) (u := noUseI) (kv := .slice none 0 0) HN9.out)
        obtain ⟨f0, f1, f2, f3, f4, f5, f6, f7, f8, f9⟩ := ten_frozen HN9.out
        obtain ⟨g0, g1, g2, g3, g4, g5, g6, g7, g8, g9⟩ := ten_live HN9.out
        clear hb9 ht9
        go_wp2_with fail
        clear f0 f1 f2 f3 f4 f5 f6 f7 f8 f9 g0 g1 g2 g3 g4 g5 g6 g7 g8 g9
        refine bodyPost_ret (v := exV 0 [] noUseI (.slice none 0 0)) ?_ rfl ⟨_, rfl, HE.out.1, Lib.hid (by rw [HK.out, HN1.out, HVN.out]; exact ⟨by decide, by omega, HE.out.2.1, HE.out.2.2⟩)⟩
        exact results_ten (b := w.heap.size) rfl rfl HRW.out
      · have hou : o = some u := by
          have h2 := HO.out.2.1
          have h3 := HO.out.2.2
          cases o with
          | none => cases h3
          | some u' => exact congrArg some h2
        have hvf : vfind s n1 = some u := HO.out.1.trans hou
        have hnl : n1 ≤ s.length := by omega
        obtain ⟨-, c1, -, -, -, -, -, -⟩ := HB7.out.pc
        by_cases hsr : u.src = n1
        · have hvy := var_yes HDR2.out hnl hvf hsr
          rw [hsr] at hvy
          have HVY := Lib.hid hvy
          have hr8 := HR7.out
          rw [hsr] at hr8
          have HRX := Lib.hid hr8
          obtain ⟨-, -, -, -, -, -, -, b0, b1, b2, b3, b4, b5, b6⟩ := seven_live hr8
          clear hvy hou hvf hsr HR7 hr8
          go_upto_region 3 with fail
          go_quiet (fail)
          have HB8 := Lib.hid (show PB (W7.drewN nq) p s n1 op 0 from HB7.out)
          have HT8 := Lib.hid (show Turn p W0 (W7.drewN nq) from ⟨HT7.out.os, HT7.out.tape, HT7.out.output, HT7.out.size, HT7.out.block⟩)
          have HRX8 := Lib.hid (show (W7.drewN nq).heap[bb]? = _ from HRX.out)
          clear b0 b1 b2 b3 b4 b5 b6 c1
          generalize W7.drewN nq = W8 at *
          have HB9 := Lib.hid (show PB (W8.setCell ⟨p, 1, none⟩ (.int .i64 (u.to : Int))) p s u.to op 0 from HB8.out.set1 u.to)
          have HT9 := Lib.hid (show Turn p W0 (W8.setCell ⟨p, 1, none⟩ (.int .i64 (u.to : Int))) from HT8.out.set)
          have HR9 := Lib.hid (show (W8.setCell ⟨p, 1, none⟩ (.int .i64 (u.to : Int))).heap[bb]? = _ from ((Turn.refl p W8).set.block bb (Array.getElem?_eq_some_iff.1 HRX8.out).1 HBP.out).trans HRX8.out)
          obtain ⟨-, -, -, -, -, -, -, -, b1, -, -, -, -, -⟩ := seven_live HRX8.out
          obtain ⟨-, c1, -, -, -, f1, -, -⟩ := HB8.out.pc
          go_upto_region 6 with fail
          clear b1 f1 c1
          generalize W8.setCell ⟨p, 1, none⟩ (.int .i64 (u.to : Int)) = W9 at *
          obtain ⟨-, -, -, -, -, -, -, b0, b1, b2, b3, b4, b5, b6⟩ := seven_live HR9.out
          have HN9 := Lib.hid (first_row HN0.out HT9.out HPL.out)
          obtain ⟨f0, f1, f2, f3, f4, f5, f6, f7, f8, f9⟩ := ten_frozen HN9.out
          obtain ⟨g0, g1, g2, g3, g4, g5, g6, g7, g8, g9⟩ := ten_live HN9.out
          have HRW := Lib.hid (setTen_row (k := 12) (t := []) (u := ⟨(n1 : Int), (u.to : Int), u.name, u.key, u.dft, u.hk, u.hd⟩) (kv := .slice none 0 0) HN9.out)
          have HE := Lib.hid (put_end (N := W0.heap.size) ((Turn.of_below HT0.out).trans HT9.out) HPL.out (by have := HSZ.out; omega) (show Res W9 p s op (From W0.heap.size) (.good (varE ⟨(n1 : Int), (u.to : Int), u.name, u.key, u.dft, u.hk, u.hd⟩) u.to) (exV 12 [] ⟨(n1 : Int), (u.to : Int), u.name, u.key, u.dft, u.hk, u.hd⟩ (.slice none 0 0)) from ⟨⟨u.to, HVY.out.2, HVY.out.2, rfl, HB9.out⟩, exAt_leaf _ _ 12 [] _⟩))
          go_wp2_with fail
          clear f0 f1 f2 f3 f4 f5 f6 f7 f8 f9 g0 g1 g2 g3 g4 g5 g6 g7 g8 g9 b0 b1 b2 b3 b4 b5 b6
          refine bodyPost_ret (v := exV 12 [] ⟨(n1 : Int), (u.to : Int), u.name, u.key, u.dft, u.hk, u.hd⟩ (.slice none 0 0)) ?_ rfl ⟨_, rfl, HE.out.1, Lib.hid (by rw [HK.out, HN1.out, HVY.out.1]; exact HE.out.2)⟩
          exact results_ten (b := w.heap.size) rfl rfl HRW.out
        · have HVN := Lib.hid (var_no HDR2.out (fun u' hu' => by rw [hvf] at hu'; cases hu'; exact hsr))
          have hsq : ((u.src : Int) == (n1 : Int)) = false := by rw [beq_eq_false_iff_ne]; omega
          have hsq2 : ((u.src : Int) != (n1 : Int)) = true := by rw [bne_iff_ne]; omega
          obtain ⟨-, -, -, -, -, -, -, b0, -, -, -, -, -, -⟩ := seven_live HR7.out
          clear hou hvf hsr HR7
          go_upto_region 3 with fail
          go_quiet (fail)
          clear hsq hsq2 b0 c1
          have HB8 := Lib.hid (show PB (W7.drewN nq) p s n1 op 0 from HB7.out)
          have HT8 := Lib.hid (show Turn p W0 (W7.drewN nq) from ⟨HT7.out.os, HT7.out.tape, HT7.out.output, HT7.out.size, HT7.out.block⟩)
          generalize W7.drewN nq = W8 at *
          go_wp2_with fail
          refine (ps_fail W8 p s n1 op 0 15 HB8.out).mono ?_
          rintro e w9 ⟨rfl, hb9, ht9⟩
          rw [if_pos rfl] at hb9
          have HT9 := Lib.hid (HT8.out.trans ht9)
          have HN9 := Lib.hid (first_row HN0.out HT9.out HPL.out)
          have HE := Lib.hid (put_bad (k := 0) (t := []) (u := noUseI) (a := none) (n := 0) (c := 0) ((Turn.of_below HT0.out).trans HT9.out) HPL.out hb9)
          have HRW := Lib.hid (setTen_row (k := 0) (t := []) (u := noUseI) (kv := .slice none 0 0) HN9.out)
          obtain ⟨f0, f1, f2, f3, f4, f5, f6, f7, f8, f9⟩ := ten_frozen HN9.out
          obtain ⟨g0, g1, g2, g3, g4, g5, g6, g7, g8, g9⟩ := ten_live HN9.out
          clear hb9 ht9
          go_wp2_with fail
          clear f0 f1 f2 f3 f4 f5 f6 f7 f8 f9 g0 g1 g2 g3 g4 g5 g6 g7 g8 g9
          refine bodyPost_ret (v := exV 0 [] noUseI (.slice none 0 0)) ?_ rfl ⟨_, rfl, HE.out.1, Lib.hid (by rw [HK.out, HN1.out, HVN.out]; exact ⟨by decide, by omega, HE.out.2.1, HE.out.2.2⟩)⟩
          exact results_ten (b := w.heap.size) rfl rfl HRW.out
end Go.Proofs.YtbkhmkpbbggcbaaGreatDoor
