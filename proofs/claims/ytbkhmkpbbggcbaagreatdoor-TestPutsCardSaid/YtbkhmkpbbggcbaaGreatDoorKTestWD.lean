/- The walk of an operand in quotes. The walk of an operand that is a number. -/
import Derived.Test.YtbkhmkpbbggcbaaGreatDoorKTestW9
namespace Go.Proofs.YtbkhmkpbbggcbaaGreatDoor
open Go.RowKit
set_option linter.unusedVariables false
set_option maxRecDepth 100000 in
set_option maxHeartbeats 4000000 in
theorem ps_op_qu (w : World) (p : Nat) (s : Bs) (i op k : Nat) (r : Bs) (hi : i ≤ s.length) (hs : s.length ≤ 100000) (hr : rs s i = 39 :: r) (hgp : GP p w) (h : PB w p s i op 0) :
    Calls Tryz.prog 79 #[.pointer (some ⟨p, 0, none⟩)] w fun e w' => ∃ v, e = .returned v ∧ Turn p w w' ∧ Hid (Res w' p s op (From w.heap.size) (opK s k i) v) := by
  have HPL := Lib.hid h.lt
  have HB := Lib.hid (show PB (w.alloc (.cells #[.int .i64 0, .string ⟨#[]⟩, .int .i64 0, .int .i64 0, .string ⟨#[]⟩, .string ⟨#[]⟩, .string ⟨#[]⟩, .bool false, .bool false, .slice none 0 0] 26)) p s i op 0 from h.next ((Below.refl _ _).alloc (Nat.le_refl _) _))
  have HT0 := Lib.hid (show Below w.heap.size w (w.alloc (.cells #[.int .i64 0, .string ⟨#[]⟩, .int .i64 0, .int .i64 0, .string ⟨#[]⟩, .string ⟨#[]⟩, .string ⟨#[]⟩, .bool false, .bool false, .slice none 0 0] 26)) from (Below.refl _ _).alloc (Nat.le_refl _) _)
  have HN0 := Lib.hid (heap_alloc_new w (.cells #[.int .i64 0, .string ⟨#[]⟩, .int .i64 0, .int .i64 0, .string ⟨#[]⟩, .string ⟨#[]⟩, .string ⟨#[]⟩, .bool false, .bool false, .slice none 0 0] 26))
  have HSZ := Lib.hid (show (w.alloc (.cells #[.int .i64 0, .string ⟨#[]⟩, .int .i64 0, .int .i64 0, .string ⟨#[]⟩, .string ⟨#[]⟩, .string ⟨#[]⟩, .bool false, .bool false, .slice none 0 0] 26)).heap.size = w.heap.size + 1 by rw [World.size_alloc])
  have HK := Lib.hid (show opK s k i = quG s (pa s i) r by unfold opK opG; rw [hr]; rfl)
  have HRS := Lib.hid hr
  have hln := rs_lt hi hr
  have HPX := Lib.hid (show Lib.hasPrefix (rs s i) [40] = false by rw [hr]; simp [Lib.hasPrefix, List.isPrefixOf])
  have HPY := Lib.hid (show Lib.hasPrefix (rs s i) [39] = true by rw [hr]; simp [Lib.hasPrefix, List.isPrefixOf])
  have HDR := Lib.hid (show s.drop (pa s i + 1) = r by rw [← List.drop_drop, drop_pa s hi, hr]; rfl)
  clear h hr
  go_enter Tryz.func79, Tryz.ntmps79
  go_wp2_with fail
  generalize w.alloc (.cells #[.int .i64 0, .string ⟨#[]⟩, .int .i64 0, .int .i64 0, .string ⟨#[]⟩, .string ⟨#[]⟩, .string ⟨#[]⟩, .bool false, .bool false, .slice none 0 0] 26) = W0 at *
  refine (ps_rest_ok W0 p s i op hi hs HB.out).mono ?_
  rintro e w1 ⟨rfl, hb1, ht1⟩
  have HB1 := Lib.hid hb1
  have HT1 := Lib.hid ht1
  obtain ⟨-, -, -, c3, -, -, -, -⟩ := hb1.pc
  rw [HRS.out]
  have q1 : ((39 : UInt8) :: r == []) = false := rfl
  clear hb1 ht1
  go_wp2_with fail
  refine (ps_is_ok w1 p s (pa s i) op [40] (pa_le s i) hs (by decide) HB1.out).mono ?_
  rintro e w2 ⟨rfl, hb2, ht2⟩
  rw [rs_pa s hi, HPX.out, pa_pa s hi] at hb2
  rw [rs_pa s hi, HPX.out]
  have HB2 := Lib.hid (show PB w2 p s (pa s i) op 0 from hb2)
  have HT2 := Lib.hid (HT1.out.trans ht2)
  clear hb2 ht2 c3 q1
  go_wp2_with fail
  refine (ps_is_ok w2 p s (pa s i) op [39] (pa_le s i) hs (by decide) HB2.out).mono ?_
  rintro e w3 ⟨rfl, hb3, ht3⟩
  rw [rs_pa s hi, HPY.out, pa_pa s hi] at hb3
  rw [rs_pa s hi, HPY.out]
  obtain ⟨n1, hn1⟩ : ∃ n1, pa s i + 1 = n1 := ⟨_, rfl⟩
  have HB3 := Lib.hid (show PB w3 p s n1 op 0 by rw [← hn1]; exact hb3)
  have HT3 := Lib.hid (HT2.out.trans ht3)
  rw [hn1] at hln
  have HN1 := Lib.hid hn1
  have HDR2 := Lib.hid (show s.drop n1 = r by rw [← hn1]; exact HDR.out)
  have HG3 := Lib.hid (show GP p w3.drew from ((hgp.turn (Turn.of_below HT0.out)).turn HT3.out).turn ⟨rfl, rfl, rfl, Nat.le_refl _, fun _ _ _ => rfl⟩)
  have HB3d := Lib.hid (show PB w3.drew p s n1 op 0 from HB3.out)
  have HS3 := Lib.hid (show w3.drew.cell? ⟨p, 0, none⟩ = some (.string ⟨s.toArray⟩) ∧ w3.drew.cell? ⟨p, 1, none⟩ = some (.int .i64 (n1 : Int)) from ⟨HB3d.out.pc.c0, HB3d.out.pc.c1⟩)
  have HTD := Lib.hid (show Turn p W0 w3.drew from HT3.out.trans ⟨rfl, rfl, rfl, Nat.le_refl _, fun _ _ _ => rfl⟩)
  have hx := exl_drop s n1 s.length (Nat.le_refl _)
  rw [HDR2.out] at hx
  have i0 : (0 : Int) ≤ (n1 : Int) := by omega
  have i1 : (n1 : Int) ≤ (s.length : Int) := by omega
  clear hb3 ht3 hn1
  go_upto_region 18 with fail
  go_region_held3 (fun w' => w'.cell? ⟨p, 0, none⟩ = some (.string ⟨s.toArray⟩) ∧ w'.cell? ⟨p, 1, none⟩ = some (.int .i64 (n1 : Int))) (first | with_reducible exact HS3.out | with_reducible exact HS4.out)
    (first
      | (go_at_call 92; refine (lib_Cut1 ⟨r.toArray⟩ 39 _ HG3.out.1 (by show r.length < _; omega)).mono ?_; rintro e w4 ⟨rfl, hb4⟩; have HB4 := Lib.hid (HB3d.out.next hb4); have HT4 := Lib.hid (HTD.out.trans (Turn.of_below hb4)); have HS4 := Lib.hid (show w4.cell? ⟨p, 0, none⟩ = some (.string ⟨s.toArray⟩) ∧ w4.cell? ⟨p, 1, none⟩ = some (.int .i64 (n1 : Int)) from ⟨HB4.out.pc.c0, HB4.out.pc.c1⟩); clear hb4))
  obtain ⟨T, hT⟩ : ∃ T, upto 39 r = T := ⟨_, rfl⟩
  have hTl : T.length ≤ r.length := by rw [← hT, ← take_upto, List.length_take]; omega
  rw [hT]
  have HTT := Lib.hid hT
  obtain ⟨-, c1, -, -, -, f1, -, -⟩ := HB4.out.pc
  have HB5 := Lib.hid (show PB (w4.setCell ⟨p, 1, none⟩ (.int .i64 ((n1 : Int) + (T.length : Int)))) p s (n1 + T.length) op 0 from HB4.out.set1 (n1 + T.length))
  have HT5 := Lib.hid (show Turn p W0 (w4.setCell ⟨p, 1, none⟩ (.int .i64 ((n1 : Int) + (T.length : Int)))) from HT4.out.set)
  cases hq : hasB 39 r
  · have hqc : r.contains 39 = false := hq
    have hTr : T = r := by rw [← hT]; exact upto_all 39 r hqc
    have HK2 := Lib.hid (show opK s k i = .wrong s.length 15 by rw [HK.out]; unfold quG; rw [hqc]; rfl)
    have HLN := Lib.hid (show n1 + T.length = s.length by rw [hTr]; exact hln)
    clear hT hx hq hqc hTr
    go_upto_region 20 with fail
    clear c1 f1
    generalize w4.setCell ⟨p, 1, none⟩ (.int .i64 ((n1 : Int) + (T.length : Int))) = W5 at *
    go_wp2_with fail
    refine (ps_fail W5 p s (n1 + T.length) op 0 15 HB5.out).mono ?_
    rintro e w6 ⟨rfl, hb6, ht6⟩
    rw [if_pos rfl, HLN.out] at hb6
    have HB6 := Lib.hid hb6
    have HT6 := Lib.hid (HT5.out.trans ht6)
    clear hb6 ht6
    have HN7 := Lib.hid (first_row HN0.out HT6.out HPL.out)
    obtain ⟨f0, f1, f2, f3, f4, f5, f6, f7, f8, f9⟩ := ten_frozen HN7.out
    obtain ⟨g0, g1, g2, g3, g4, g5, g6, g7, g8, g9⟩ := ten_live HN7.out
    have HRW := Lib.hid (setTen_row (k := 0) (t := []) (u := noUseI) (kv := .slice none 0 0) HN7.out)
    have HE := Lib.hid (put_end (N := W0.heap.size) ((Turn.of_below HT0.out).trans HT6.out) HPL.out (by have := HSZ.out; omega) (show Res w6 p s op (From W0.heap.size) (.wrong s.length 15) (exV 0 [] noUseI (.slice none 0 0)) from ⟨by decide, Nat.le_refl _, HB6.out, ⟨0, [], noUseI, none, 0, 0, rfl⟩⟩))
    skip
    go_wp2_with fail
    clear f0 f1 f2 f3 f4 f5 f6 f7 f8 f9 g0 g1 g2 g3 g4 g5 g6 g7 g8 g9
    refine bodyPost_ret (v := exV 0 [] noUseI (.slice none 0 0)) ?_ rfl ⟨_, rfl, HE.out.1, Lib.hid (by rw [HK2.out]; exact HE.out.2)⟩
    exact results_ten (b := w.heap.size) rfl rfl HRW.out
  · have hqc : r.contains 39 = true := hq
    have hlt := upto_lt hqc
    rw [hT] at hlt
    have HK2 := Lib.hid (show opK s k i = .good (wordE 10 T) (n1 + T.length + 1) by rw [HK.out]; unfold quG; rw [hqc, hT, HN1.out]; rfl)
    clear hT hx hq hqc
    go_upto_region 20 with fail
    clear c1 f1
    generalize w4.setCell ⟨p, 1, none⟩ (.int .i64 ((n1 : Int) + (T.length : Int))) = W5 at *
    obtain ⟨n2, hn2⟩ : ∃ n2, n1 + T.length = n2 := ⟨_, rfl⟩
    rw [hn2] at HB5 HK2
    have hn3 : n2 + 1 ≤ s.length := by omega
    clear hn2
    obtain ⟨-, c1, -, -, -, f1', -, -⟩ := HB5.out.pc
    have HB6 := Lib.hid (show PB (W5.setCell ⟨p, 1, none⟩ (.int .i64 ((n2 : Int) + 1))) p s (n2 + 1) op 0 from HB5.out.set1 (n2 + 1))
    have HT6 := Lib.hid (show Turn p W0 (W5.setCell ⟨p, 1, none⟩ (.int .i64 ((n2 : Int) + 1))) from HT5.out.set)
    go_upto_region 23 with fail
    clear c1 f1'
    generalize W5.setCell ⟨p, 1, none⟩ (.int .i64 ((n2 : Int) + 1)) = W6 at *
    have HN7 := Lib.hid (first_row HN0.out HT6.out HPL.out)
    obtain ⟨f0, f1, f2, f3, f4, f5, f6, f7, f8, f9⟩ := ten_frozen HN7.out
    obtain ⟨g0, g1, g2, g3, g4, g5, g6, g7, g8, g9⟩ := ten_live HN7.out
    have HRW := Lib.hid (setTen_row (k := 10) (t := T) (u := noUseI) (kv := .slice none 0 0) HN7.out)
    have HE := Lib.hid (put_end (N := W0.heap.size) ((Turn.of_below HT0.out).trans HT6.out) HPL.out (by have := HSZ.out; omega) (show Res W6 p s op (From W0.heap.size) (.good (wordE 10 T) (n2 + 1)) (exV 10 T noUseI (.slice none 0 0)) from ⟨⟨n2 + 1, hn3, hn3, rfl, HB6.out⟩, exAt_leaf _ _ 10 T noUseI⟩))
    skip
    go_wp2_with fail
    clear f0 f1 f2 f3 f4 f5 f6 f7 f8 f9 g0 g1 g2 g3 g4 g5 g6 g7 g8 g9
    refine bodyPost_ret (v := exV 10 T noUseI (.slice none 0 0)) ?_ rfl ⟨_, rfl, HE.out.1, Lib.hid (by rw [HK2.out]; exact HE.out.2)⟩
    exact results_ten (b := w.heap.size) rfl rfl HRW.out
end Go.Proofs.YtbkhmkpbbggcbaaGreatDoor
namespace Go.Proofs.YtbkhmkpbbggcbaaGreatDoor
open Go.RowKit
set_option linter.unusedVariables false
theorem dig_asc : ∀ (j : Nat) b, (⟨#[48, 49, 50, 51, 52, 53, 54, 55, 56, 57]⟩ : ByteArray).data.toList[j]? = some b → b.toNat < 128 := by
  intro j b h
  have : b ∈ ([48, 49, 50, 51, 52, 53, 54, 55, 56, 57] : Bs) := List.mem_of_getElem? h
  simp only [List.mem_cons, List.not_mem_nil, or_false] at this
  rcases this with rfl | rfl | rfl | rfl | rfl | rfl | rfl | rfl | rfl | rfl <;> decide
theorem dig_trim (d : Bs) : Lib.trimLeftS (⟨d.toArray⟩ : ByteArray).data.toList (⟨#[48, 49, 50, 51, 52, 53, 54, 55, 56, 57]⟩ : ByteArray).data.toList = d.dropWhile dig := trimSet d digSet dig digSet_eq
set_option maxRecDepth 100000 in
set_option maxHeartbeats 4000000 in
theorem ps_op_num (w : World) (p : Nat) (s : Bs) (i op k : Nat) (c : UInt8) (r : Bs) (hi : i ≤ s.length) (hs : s.length ≤ 100000) (hr : rs s i = c :: r) (hd : dig c = true) (hgp : GP p w) (h : PB w p s i op 0) :
    Calls Tryz.prog 79 #[.pointer (some ⟨p, 0, none⟩)] w fun e w' => ∃ v, e = .returned v ∧ Turn p w w' ∧ Hid (Res w' p s op (From w.heap.size) (opK s k i) v) := by
  have HPL := Lib.hid h.lt
  have HB := Lib.hid (show PB (w.alloc (.cells #[.int .i64 0, .string ⟨#[]⟩, .int .i64 0, .int .i64 0, .string ⟨#[]⟩, .string ⟨#[]⟩, .string ⟨#[]⟩, .bool false, .bool false, .slice none 0 0] 26)) p s i op 0 from h.next ((Below.refl _ _).alloc (Nat.le_refl _) _))
  have HT0 := Lib.hid (show Below w.heap.size w (w.alloc (.cells #[.int .i64 0, .string ⟨#[]⟩, .int .i64 0, .int .i64 0, .string ⟨#[]⟩, .string ⟨#[]⟩, .string ⟨#[]⟩, .bool false, .bool false, .slice none 0 0] 26)) from (Below.refl _ _).alloc (Nat.le_refl _) _)
  have HN0 := Lib.hid (heap_alloc_new w (.cells #[.int .i64 0, .string ⟨#[]⟩, .int .i64 0, .int .i64 0, .string ⟨#[]⟩, .string ⟨#[]⟩, .string ⟨#[]⟩, .bool false, .bool false, .slice none 0 0] 26))
  have HSZ := Lib.hid (show (w.alloc (.cells #[.int .i64 0, .string ⟨#[]⟩, .int .i64 0, .int .i64 0, .string ⟨#[]⟩, .string ⟨#[]⟩, .string ⟨#[]⟩, .bool false, .bool false, .slice none 0 0] 26)).heap.size = w.heap.size + 1 by rw [World.size_alloc])
  have hdd := hd
  unfold dig at hdd
  rw [decide_eq_true_eq] at hdd
  have hc40 : (c == 40) = false := by rw [beq_eq_false_iff_ne]; intro h; subst h; revert hdd; decide
  have hc39 : (c == 39) = false := by rw [beq_eq_false_iff_ne]; intro h; subst h; revert hdd; decide
  have HK := Lib.hid (show opK s k i = numG (pa s i) ((c :: r).takeWhile dig) by
    unfold opK opG; rw [hr]
    show (bif c == 40 then _ else bif c == 39 then _ else bif dig c then _ else _) = _
    rw [hc40, hc39, hd]; rfl)
  have HRS := Lib.hid hr
  have hln := rs_lt hi hr
  have HPX := Lib.hid (show Lib.hasPrefix (rs s i) [40] = false by rw [hr]; simp [Lib.hasPrefix, List.isPrefixOf]; intro h; rw [← h] at hc40; revert hc40; decide)
  have HPY := Lib.hid (show Lib.hasPrefix (rs s i) [39] = false by rw [hr]; simp [Lib.hasPrefix, List.isPrefixOf]; intro h; rw [← h] at hc39; revert hc39; decide)
  have h48 : (48 : Int) ≤ (c.toNat : Int) := by omega
  have h57 : (c.toNat : Int) ≤ 57 := by omega
  have hrl := rs_len s hi
  rw [hr] at hrl
  obtain ⟨d, hdw⟩ : ∃ d, (c :: r).takeWhile dig = d := ⟨_, rfl⟩
  have hdl : d.length ≤ r.length + 1 := by rw [← hdw, ← take_lead, List.length_take]; simp; omega
  have HDW := Lib.hid hdw
  have hdd2 : ((c :: r).dropWhile dig).length + d.length = r.length + 1 := by
    have := congrArg List.length (List.takeWhile_append_dropWhile (p := dig) (l := c :: r))
    rw [List.length_append, hdw, List.length_cons] at this; omega
  obtain ⟨tl, htl⟩ : ∃ tl, (c :: r).dropWhile dig = tl := ⟨_, rfl⟩
  rw [htl] at hdd2
  have HTL := Lib.hid htl
  clear h hr hd hdd hc40 hc39 hdw htl hrl
  go_enter Tryz.func79, Tryz.ntmps79
  go_wp2_with fail
  generalize w.alloc (.cells #[.int .i64 0, .string ⟨#[]⟩, .int .i64 0, .int .i64 0, .string ⟨#[]⟩, .string ⟨#[]⟩, .string ⟨#[]⟩, .bool false, .bool false, .slice none 0 0] 26) = W0 at *
  refine (ps_rest_ok W0 p s i op hi hs HB.out).mono ?_
  rintro e w1 ⟨rfl, hb1, ht1⟩
  have HB1 := Lib.hid hb1
  have HT1 := Lib.hid ht1
  obtain ⟨-, -, -, c3, -, -, -, -⟩ := hb1.pc
  rw [HRS.out]
  have q1 : ((c : UInt8) :: r == []) = false := rfl
  clear hb1 ht1
  go_wp2_with fail
  refine (ps_is_ok w1 p s (pa s i) op [40] (pa_le s i) hs (by decide) HB1.out).mono ?_
  rintro e w2 ⟨rfl, hb2, ht2⟩
  rw [rs_pa s hi, HPX.out, pa_pa s hi] at hb2
  rw [rs_pa s hi, HPX.out]
  have HB2 := Lib.hid (show PB w2 p s (pa s i) op 0 from hb2)
  have HT2 := Lib.hid (HT1.out.trans ht2)
  clear hb2 ht2 c3 q1
  go_wp2_with fail
  refine (ps_is_ok w2 p s (pa s i) op [39] (pa_le s i) hs (by decide) HB2.out).mono ?_
  rintro e w3 ⟨rfl, hb3, ht3⟩
  rw [rs_pa s hi, HPY.out, pa_pa s hi] at hb3
  rw [rs_pa s hi, HPY.out]
  obtain ⟨n1, hn1⟩ : ∃ n1, pa s i = n1 := ⟨_, rfl⟩
  have HB3 := Lib.hid (show PB w3 p s n1 op 0 by rw [← hn1]; exact hb3)
  have HT3 := Lib.hid (HT2.out.trans ht3)
  rw [hn1] at hln
  have HN1 := Lib.hid hn1
  clear hb3 ht3 hn1
  have hix : ∀ h, (⟨(c :: r).toArray⟩ : ByteArray)[0]'h = c := fun _ => rfl
  go_upto_region 25 with fail
  clear hix
  go_wp2_with fail
  refine (lib_TrimLeft ⟨(c :: r).toArray⟩ ⟨#[48, 49, 50, 51, 52, 53, 54, 55, 56, 57]⟩ w3 (by decide) dig_asc).mono ?_
  rintro e w4 ⟨rfl, hb4⟩
  rw [dig_trim, HTL.out]
  have HB4 := Lib.hid (HB3.out.next hb4)
  have HT4 := Lib.hid (HT3.out.trans (Turn.of_below hb4))
  clear hb4
  obtain ⟨-, c1, -, -, -, f1, -, -⟩ := HB4.out.pc
  go_upto_region 26 with fail
  have hsub : (r.length : Int) + 1 - (tl.length : Int) = (d.length : Int) := by omega
  rw [hsub]
  clear hsub
  rcases Nat.lt_or_ge 18 d.length with h18 | h18
  · have z18 : (18 : Int) < (d.length : Int) := by omega
    have hmin : min (d.length : Int) 18 = 18 := by omega
    have hx : (⟨(c :: r).toArray⟩ : ByteArray).extract 0 18 = ⟨((c :: r).take 18).toArray⟩ := exl_take (c :: r) 18
    have HK2 := Lib.hid (show opK s k i = .wrong (n1 + 18) 15 by rw [HK.out, HDW.out, HN1.out]; unfold numG; rw [decide_eq_false (by omega)]; rfl)
    have HB5 := Lib.hid (show PB (w4.setCell ⟨p, 1, none⟩ (.int .i64 ((n1 : Int) + 18))) p s (n1 + 18) op 0 from HB4.out.set1 (n1 + 18))
    have HT5 := Lib.hid (show Turn p W0 (w4.setCell ⟨p, 1, none⟩ (.int .i64 ((n1 : Int) + 18))) from HT4.out.set)
    have hle : n1 + 18 ≤ s.length := by omega
    go_upto_region 27 with fail
    clear c1 f1
    generalize w4.setCell ⟨p, 1, none⟩ (.int .i64 ((n1 : Int) + 18)) = W5 at *
    go_wp2_with fail
    refine (ps_fail W5 p s (n1 + 18) op 0 15 HB5.out).mono ?_
    rintro e w6 ⟨rfl, hb6, ht6⟩
    rw [if_pos rfl] at hb6
    have HB6 := Lib.hid hb6
    have HT6 := Lib.hid (HT5.out.trans ht6)
    clear hb6 ht6
    obtain ⟨T, hT⟩ : ∃ T, (c :: r).take 18 = T := ⟨_, rfl⟩
    rw [hT] at hx
    clear hT
    have HN7 := Lib.hid (first_row HN0.out HT6.out HPL.out)
    obtain ⟨f0, f1, f2, f3, f4, f5, f6, f7, f8, f9⟩ := ten_frozen HN7.out
    obtain ⟨g0, g1, g2, g3, g4, g5, g6, g7, g8, g9⟩ := ten_live HN7.out
    have HRW := Lib.hid (setTen_row (k := 11) (t := T) (u := noUseI) (kv := .slice none 0 0) HN7.out)
    have HE := Lib.hid (put_end (N := W0.heap.size) ((Turn.of_below HT0.out).trans HT6.out) HPL.out (by have := HSZ.out; omega) (show Res w6 p s op (From W0.heap.size) (.wrong (n1 + 18) 15) (exV 11 T noUseI (.slice none 0 0)) from ⟨by decide, hle, HB6.out, ⟨11, T, noUseI, none, 0, 0, rfl⟩⟩))
    go_wp2_with fail
    clear f0 f1 f2 f3 f4 f5 f6 f7 f8 f9 g0 g1 g2 g3 g4 g5 g6 g7 g8 g9
    refine bodyPost_ret (v := exV 11 T noUseI (.slice none 0 0)) ?_ rfl ⟨_, rfl, HE.out.1, Lib.hid (by rw [HK2.out]; exact HE.out.2)⟩
    exact results_ten (b := w.heap.size) rfl rfl HRW.out
  · have z18 : ¬ (18 : Int) < (d.length : Int) := by omega
    have hmin : min (d.length : Int) 18 = (d.length : Int) := by omega
    have hx : (⟨(c :: r).toArray⟩ : ByteArray).extract 0 d.length = ⟨d.toArray⟩ := by
      rw [exl_take (c :: r) d.length]
      congr 2
      have := List.takeWhile_append_dropWhile (p := dig) (l := c :: r)
      rw [HDW.out, HTL.out] at this
      rw [← this, List.take_left]
    have HK2 := Lib.hid (show opK s k i = .good (wordE 11 d) (n1 + d.length) by rw [HK.out, HDW.out, HN1.out]; unfold numG; rw [decide_eq_true h18]; rfl)
    have HB5 := Lib.hid (show PB (w4.setCell ⟨p, 1, none⟩ (.int .i64 ((n1 : Int) + (d.length : Int)))) p s (n1 + d.length) op 0 from HB4.out.set1 (n1 + d.length))
    have HT5 := Lib.hid (show Turn p W0 (w4.setCell ⟨p, 1, none⟩ (.int .i64 ((n1 : Int) + (d.length : Int)))) from HT4.out.set)
    have hle : n1 + d.length ≤ s.length := by omega
    go_upto_region 27 with fail
    clear c1 f1
    generalize w4.setCell ⟨p, 1, none⟩ (.int .i64 ((n1 : Int) + (d.length : Int))) = W5 at *
    have HN7 := Lib.hid (first_row HN0.out HT5.out HPL.out)
    obtain ⟨f0, f1, f2, f3, f4, f5, f6, f7, f8, f9⟩ := ten_frozen HN7.out
    obtain ⟨g0, g1, g2, g3, g4, g5, g6, g7, g8, g9⟩ := ten_live HN7.out
    have HRW := Lib.hid (setTen_row (k := 11) (t := d) (u := noUseI) (kv := .slice none 0 0) HN7.out)
    have HE := Lib.hid (put_end (N := W0.heap.size) ((Turn.of_below HT0.out).trans HT5.out) HPL.out (by have := HSZ.out; omega) (show Res W5 p s op (From W0.heap.size) (.good (wordE 11 d) (n1 + d.length)) (exV 11 d noUseI (.slice none 0 0)) from ⟨⟨n1 + d.length, hle, hle, rfl, HB5.out⟩, exAt_leaf _ _ 11 d noUseI⟩))
    go_wp2_with fail
    clear f0 f1 f2 f3 f4 f5 f6 f7 f8 f9 g0 g1 g2 g3 g4 g5 g6 g7 g8 g9
    refine bodyPost_ret (v := exV 11 d noUseI (.slice none 0 0)) ?_ rfl ⟨_, rfl, HE.out.1, Lib.hid (by rw [HK2.out]; exact HE.out.2)⟩
    exact results_ten (b := w.heap.size) rfl rfl HRW.out
end Go.Proofs.YtbkhmkpbbggcbaaGreatDoor
