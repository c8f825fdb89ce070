/- The walk of an operand: nothing there, brackets. -/
import Derived.Test.YtbkhmkpbbggcbaaGreatDoorKTestW8
namespace Go.Proofs.YtbkhmkpbbggcbaaGreatDoor
open Go.RowKit
set_option linter.unusedVariables false
set_option maxRecDepth 100000 in
set_option maxHeartbeats 4000000 in
theorem ps_op_bad (w : World) (p : Nat) (s : Bs) (i op : Nat) (bad : Int) (hi : i ≤ s.length) (hs : s.length ≤ 100000) (hbad : bad ≠ 0) (h : PB w p s i op bad) :
    Calls Tryz.prog 79 #[.pointer (some ⟨p, 0, none⟩)] w fun e w' => ∃ v, e = .returned v ∧ Turn p w w' ∧ Hid (PB w' p s i op bad ∧ TenV v) := by
  have HPL := Lib.hid h.lt
  have HB := Lib.hid (show PB (w.alloc (.cells #[.int .i64 0, .string ⟨#[]⟩, .int .i64 0, .int .i64 0, .string ⟨#[]⟩, .string ⟨#[]⟩, .string ⟨#[]⟩, .bool false, .bool false, .slice none 0 0] 26)) p s i op bad from h.next ((Below.refl _ _).alloc (Nat.le_refl _) _))
  have HT0 := Lib.hid (show Below w.heap.size w (w.alloc (.cells #[.int .i64 0, .string ⟨#[]⟩, .int .i64 0, .int .i64 0, .string ⟨#[]⟩, .string ⟨#[]⟩, .string ⟨#[]⟩, .bool false, .bool false, .slice none 0 0] 26)) from (Below.refl _ _).alloc (Nat.le_refl _) _)
  have HN0 := Lib.hid (heap_alloc_new w (.cells #[.int .i64 0, .string ⟨#[]⟩, .int .i64 0, .int .i64 0, .string ⟨#[]⟩, .string ⟨#[]⟩, .string ⟨#[]⟩, .bool false, .bool false, .slice none 0 0] 26))
  have HBAD := Lib.hid hbad
  clear h hbad
  go_enter Tryz.func79, Tryz.ntmps79
  go_wp2_with fail
  generalize w.alloc (.cells #[.int .i64 0, .string ⟨#[]⟩, .int .i64 0, .int .i64 0, .string ⟨#[]⟩, .string ⟨#[]⟩, .string ⟨#[]⟩, .bool false, .bool false, .slice none 0 0] 26) = W0 at *
  refine (ps_rest_bad W0 p s i op bad hi hs HBAD.out HB.out).mono ?_
  rintro e w1 ⟨rfl, hb1, ht1⟩
  have HB1 := Lib.hid hb1
  have HT1 := Lib.hid ht1
  obtain ⟨-, -, -, c3, -, -, -, -⟩ := hb1.pc
  have q : (bad == 0) = false := beq_eq_false_iff_ne.2 HBAD.out
  have q2 : (bad != 0) = true := by rw [bne, q]; rfl
  clear hb1 ht1
  go_wp2_with fail
  refine (ps_fail w1 p s i op bad 15 HB1.out).mono ?_
  rintro e w2 ⟨rfl, hb2, ht2⟩
  rw [if_neg HBAD.out] at hb2
  have HT3 := Lib.hid (HT1.out.trans ht2)
  have HN3 := Lib.hid (first_row HN0.out HT3.out HPL.out)
  have HE := Lib.hid (put_bad (k := 0) (t := []) (u := noUseI) (a := none) (n := 0) (c := 0) ((Turn.of_below HT0.out).trans HT3.out) HPL.out hb2)
  have HRW := Lib.hid (setTen_row (k := 0) (t := []) (u := noUseI) (kv := .slice none 0 0) HN3.out)
  obtain ⟨f0, f1, f2, f3, f4, f5, f6, f7, f8, f9⟩ := ten_frozen HN3.out
  obtain ⟨g0, g1, g2, g3, g4, g5, g6, g7, g8, g9⟩ := ten_live HN3.out
  clear hb2 ht2 c3 q q2
  go_wp2_with fail
  clear f0 f1 f2 f3 f4 f5 f6 f7 f8 f9 g0 g1 g2 g3 g4 g5 g6 g7 g8 g9
  refine bodyPost_ret (v := exV 0 [] noUseI (.slice none 0 0)) ?_ rfl ⟨_, rfl, HE.out.1, Lib.hid HE.out.2⟩
  exact results_ten (b := w.heap.size) rfl rfl HRW.out
set_option maxRecDepth 100000 in
set_option maxHeartbeats 4000000 in
theorem ps_op_none (w : World) (p : Nat) (s : Bs) (i op k : Nat) (hi : i ≤ s.length) (hs : s.length ≤ 100000) (hr : rs s i = []) (h : PB w p s i op 0) :
    Calls Tryz.prog 79 #[.pointer (some ⟨p, 0, none⟩)] w fun e w' => ∃ v, e = .returned v ∧ Turn p w w' ∧ Hid (Res w' p s op (From w.heap.size) (opK s k i) v) := by
  have HPL := Lib.hid h.lt
  have HB := Lib.hid (show PB (w.alloc (.cells #[.int .i64 0, .string ⟨#[]⟩, .int .i64 0, .int .i64 0, .string ⟨#[]⟩, .string ⟨#[]⟩, .string ⟨#[]⟩, .bool false, .bool false, .slice none 0 0] 26)) p s i op 0 from h.next ((Below.refl _ _).alloc (Nat.le_refl _) _))
  have HT0 := Lib.hid (show Below w.heap.size w (w.alloc (.cells #[.int .i64 0, .string ⟨#[]⟩, .int .i64 0, .int .i64 0, .string ⟨#[]⟩, .string ⟨#[]⟩, .string ⟨#[]⟩, .bool false, .bool false, .slice none 0 0] 26)) from (Below.refl _ _).alloc (Nat.le_refl _) _)
  have HN0 := Lib.hid (heap_alloc_new w (.cells #[.int .i64 0, .string ⟨#[]⟩, .int .i64 0, .int .i64 0, .string ⟨#[]⟩, .string ⟨#[]⟩, .string ⟨#[]⟩, .bool false, .bool false, .slice none 0 0] 26))
  have HK := Lib.hid (show opK s k i = .wrong (pa s i) 15 by unfold opK opG; rw [hr]; rfl)
  have HRS := Lib.hid hr
  clear h hr
  go_enter Tryz.func79, Tryz.ntmps79
  go_wp2_with fail
  generalize w.alloc (.cells #[.int .i64 0, .string ⟨#[]⟩, .int .i64 0, .int .i64 0, .string ⟨#[]⟩, .string ⟨#[]⟩, .string ⟨#[]⟩, .bool false, .bool false, .slice none 0 0] 26) = W0 at *
  refine (ps_rest_ok W0 p s i op hi hs HB.out).mono ?_
  rintro e w1 ⟨rfl, hb1, ht1⟩
  have HB1 := Lib.hid hb1
  have HT1 := Lib.hid ht1
  obtain ⟨-, -, -, c3, -, -, -, -⟩ := hb1.pc
  rw [HRS.out]
  clear hb1 ht1
  go_wp2_with fail
  refine (ps_fail w1 p s (pa s i) op 0 15 HB1.out).mono ?_
  rintro e w2 ⟨rfl, hb2, ht2⟩
  rw [if_pos rfl] at hb2
  have HT3 := Lib.hid (HT1.out.trans ht2)
  have HN3 := Lib.hid (first_row HN0.out HT3.out HPL.out)
  have HE := Lib.hid (put_bad (k := 0) (t := []) (u := noUseI) (a := none) (n := 0) (c := 0) ((Turn.of_below HT0.out).trans HT3.out) HPL.out hb2)
  have HRW := Lib.hid (setTen_row (k := 0) (t := []) (u := noUseI) (kv := .slice none 0 0) HN3.out)
  obtain ⟨f0, f1, f2, f3, f4, f5, f6, f7, f8, f9⟩ := ten_frozen HN3.out
  obtain ⟨g0, g1, g2, g3, g4, g5, g6, g7, g8, g9⟩ := ten_live HN3.out
  clear hb2 ht2 c3
  go_wp2_with fail
  clear f0 f1 f2 f3 f4 f5 f6 f7 f8 f9 g0 g1 g2 g3 g4 g5 g6 g7 g8 g9
  refine bodyPost_ret (v := exV 0 [] noUseI (.slice none 0 0)) ?_ rfl ⟨_, rfl, HE.out.1, Lib.hid (by rw [HK.out]; exact ⟨by decide, pa_le s i, HE.out.2.1, HE.out.2.2⟩)⟩
  exact results_ten (b := w.heap.size) rfl rfl HRW.out
theorem br_end {w W6 : World} {p op N : Nat} {s : Bs} {g : Got} {k : Int} {t : Bs} {u : UseI} {a : Option Addr} {n c : Nat} (hT : Turn p w W6) (hpl : p < w.heap.size) (hn : w.heap.size < N) (hr : Res W6 p s (op + 1) (From N) g (exV k t u (.slice a n c))) :
    ∃ W7, W7 = W6.setCell ⟨p, 2, none⟩ (.int .i64 (op : Int)) ∧ Turn p W6 W7 ∧ Turn p w (setTen W7 w.heap.size k t u (.slice a n c)) ∧ Res (setTen W7 w.heap.size k t u (.slice a n c)) p s op (From w.heap.size) g (exV k t u (.slice a n c)) := by
  have hs : Turn p W6 (W6.setCell ⟨p, 2, none⟩ (.int .i64 (op : Int))) := (Turn.refl _ _).set
  have he := put_end (hT.trans hs) hpl hn (hr.op (fun h => by have : N ≤ p := h; omega) op)
  exact ⟨_, rfl, hs, he.1, he.2⟩
theorem opK_br {s : Bs} {k i : Nat} {r : Bs} (h : rs s i = 40 :: r) : opK s (k + 1) i = brG (some (orK s k)) s (pa s i) := by
  unfold opK opG; rw [h]; rfl
theorem brG_wrong {s : Bs} {f : Nat → Got} {i q : Nat} {e : Int} (h : f (i + 1) = .wrong q e) : brG (some f) s i = .wrong q e := by
  show (match f (i + 1) with | .wrong p e => Got.wrong p e | .good x t => bif Lib.hasPrefix (rs s t) [41] then Got.good x (pa s t + 1) else Got.wrong (pa s t) 15) = _
  rw [h]
theorem brG_good {s : Bs} {f : Nat → Got} {i t : Nat} {x : Ex} (h : f (i + 1) = .good x t) : brG (some f) s i = bif Lib.hasPrefix (rs s t) [41] then Got.good x (pa s t + 1) else Got.wrong (pa s t) 15 := by
  show (match f (i + 1) with | .wrong p e => Got.wrong p e | .good x t => bif Lib.hasPrefix (rs s t) [41] then Got.good x (pa s t + 1) else Got.wrong (pa s t) 15) = _
  rw [h]
set_option maxRecDepth 100000 in
set_option maxHeartbeats 4000000 in
theorem ps_op_br (w : World) (p : Nat) (s : Bs) (i op k : Nat) (r : Bs) (hi : i ≤ s.length) (hs : s.length ≤ 100000) (hop : op + (k + 1) = 16) (hr : rs s i = 40 :: r) (hOr : Runs 29 #[.pointer (some ⟨p, 0, none⟩)] p s (op + 1) (orK s k) (GP p)) (hgp : GP p w) (h : PB w p s i op 0) :
    Calls Tryz.prog 79 #[.pointer (some ⟨p, 0, none⟩)] w fun e w' => ∃ v, e = .returned v ∧ Turn p w w' ∧ Hid (Res w' p s op (From w.heap.size) (opK s (k + 1) i) v) := by
  have HPL := Lib.hid h.lt
  have HB := Lib.hid (show PB (w.alloc (.cells #[.int .i64 0, .string ⟨#[]⟩, .int .i64 0, .int .i64 0, .string ⟨#[]⟩, .string ⟨#[]⟩, .string ⟨#[]⟩, .bool false, .bool false, .slice none 0 0] 26)) p s i op 0 from h.next ((Below.refl _ _).alloc (Nat.le_refl _) _))
  have HT0 := Lib.hid (show Below w.heap.size w (w.alloc (.cells #[.int .i64 0, .string ⟨#[]⟩, .int .i64 0, .int .i64 0, .string ⟨#[]⟩, .string ⟨#[]⟩, .string ⟨#[]⟩, .bool false, .bool false, .slice none 0 0] 26)) from (Below.refl _ _).alloc (Nat.le_refl _) _)
  have HN0 := Lib.hid (heap_alloc_new w (.cells #[.int .i64 0, .string ⟨#[]⟩, .int .i64 0, .int .i64 0, .string ⟨#[]⟩, .string ⟨#[]⟩, .string ⟨#[]⟩, .bool false, .bool false, .slice none 0 0] 26))
  have HSZ := Lib.hid (show (w.alloc (.cells #[.int .i64 0, .string ⟨#[]⟩, .int .i64 0, .int .i64 0, .string ⟨#[]⟩, .string ⟨#[]⟩, .string ⟨#[]⟩, .bool false, .bool false, .slice none 0 0] 26)).heap.size = w.heap.size + 1 by rw [World.size_alloc])
  have HK0 := Lib.hid (opK_br (k := k) hr)
  have HRS := Lib.hid hr
  have HOR := Lib.hid hOr
  have hln := rs_lt hi hr
  have hpx : Lib.hasPrefix (rs s i) [40] = true := by rw [hr]; simp [Lib.hasPrefix, List.isPrefixOf]
  have HPX := Lib.hid hpx
  clear h hr hOr hpx
  go_enter Tryz.func79, Tryz.ntmps79
  go_wp2_with fail
  generalize w.alloc (.cells #[.int .i64 0, .string ⟨#[]⟩, .int .i64 0, .int .i64 0, .string ⟨#[]⟩, .string ⟨#[]⟩, .string ⟨#[]⟩, .bool false, .bool false, .slice none 0 0] 26) = W0 at *
  refine (ps_rest_ok W0 p s i op hi hs HB.out).mono ?_
  rintro e w1 ⟨rfl, hb1, ht1⟩
  have HB1 := Lib.hid hb1
  have HT1 := Lib.hid ht1
  obtain ⟨-, -, -, c3, -, -, -, -⟩ := hb1.pc
  rw [HRS.out]
  have q1 : ((40 : UInt8) :: r == []) = false := rfl
  clear hb1 ht1
  go_wp2_with fail
  refine (ps_is_ok w1 p s (pa s i) op [40] (pa_le s i) hs (by decide) HB1.out).mono ?_
  rintro e w2 ⟨rfl, hb2, ht2⟩
  rw [rs_pa s hi, HPX.out, pa_pa s hi] at hb2
  rw [rs_pa s hi, HPX.out]
  have HB2 := Lib.hid (show PB w2 p s (pa s i + 1) op 0 from hb2)
  have HT2 := Lib.hid (HT1.out.trans ht2)
  clear hb2 ht2 c3 q1
  go_wp2_with fail
  refine (ps_deeper_ok w2 p s (pa s i + 1) op 0 (by omega) HB2.out).mono ?_
  rintro e w3 ⟨rfl, hb3, ht3⟩
  have HB3 := Lib.hid hb3
  have HT3 := Lib.hid (HT2.out.trans ht3)
  clear hb3 ht3
  go_wp2_with fail
  refine (HOR.out w3 (pa s i + 1) (by omega) ((hgp.turn (Turn.of_below HT0.out)).turn HT3.out) HB3.out).mono ?_
  rintro e w4 ⟨v, rfl, ht4, hr4⟩
  obtain ⟨k9, t9, u9, a9, n9, c9, rfl⟩ := hr4.ten
  have hA : Below w4.heap.size w4 (w4.alloc (.cells (exL k9 t9 u9 (.slice a9 n9 c9)).toArray 26)) := (Below.refl _ _).alloc (Nat.le_refl _) _
  have HX5 := Lib.hid (heap_alloc_new w4 (.cells (exL k9 t9 u9 (.slice a9 n9 c9)).toArray 26))
  have HR5 := Lib.hid (hr4.next hA)
  have HT5 := Lib.hid ((HT3.out.trans ht4).trans (Turn.of_below hA))
  have HS3 := Lib.hid (show w.heap.size < w3.heap.size by have h1 := HSZ.out; have h2 := HT3.out.size; omega)
  have HBP4 := Lib.hid (show some w4.heap.size ≠ some p by have := ht4.size; have := HB3.out.lt; intro e; cases e; omega)
  have HPN := Lib.hid (show ¬ From w3.heap.size p from fun h => by have : w3.heap.size ≤ p := h; have := HB3.out.lt; omega)
  clear ht4 hr4 hA
  go_wp2_with fail
  generalize w4.alloc (.cells (exL k9 t9 u9 (.slice a9 n9 c9)).toArray 26) = W5 at *
  generalize hg : orK s k (pa s i + 1) = g at *
  refine (ps_is_any W5 p s (op + 1) g [41] (by decide) hs HR5.out.box).mono ?_
  rintro e w6 ⟨rfl, hb6, ht6⟩
  cases g with
  | wrong q e =>
    have HK := Lib.hid (show opK s (k + 1) i = .wrong q e by rw [HK0.out]; exact brG_wrong (s := s) hg)
    rw [show isG s [41] (.wrong q e) = false from rfl]
    obtain ⟨e0, hq, hpb⟩ : Box w6 p s (op + 1) (.wrong q e) := hb6
    have HE0 := Lib.hid e0
    have HPB := Lib.hid hpb
    have HT6 := Lib.hid (HT5.out.trans ht6)
    have HT56 := Lib.hid ht6
    clear ht6 hg e0 hpb
    go_wp2_with fail
    refine (ps_rest_bad w6 p s q (op + 1) e hq hs HE0.out HPB.out).mono ?_
    rintro e2 w7 ⟨rfl, hb7, ht7⟩
    have HB7 := Lib.hid hb7
    have HT7 := Lib.hid ht7
    clear hb7 ht7
    go_wp2_with fail
    refine (ps_fail w7 p s q (op + 1) e 15 HB7.out).mono ?_
    rintro e2 w8 ⟨rfl, hb8, ht8⟩
    rw [if_neg HE0.out] at hb8
    have HT8 := Lib.hid ((HT56.out.trans HT7.out).trans ht8)
    have HR8 := Lib.hid (show Res w8 p s (op + 1) (From w3.heap.size) (.wrong q e) (exV k9 t9 u9 (.slice a9 n9 c9)) from ⟨HE0.out, hq, hb8, ⟨k9, t9, u9, a9, n9, c9, rfl⟩⟩)
    clear hb8 ht8
    obtain ⟨W7, hw7, hTS, hfin⟩ := br_end (k := k9) (t := t9) (u := u9) (a := a9) (n := n9) (c := c9) ((Turn.of_below HT0.out).trans (HT5.out.trans HT8.out)) HPL.out HS3.out HR8.out
    obtain ⟨j9, bad9, hpb9⟩ := HR8.out.cell
    obtain ⟨-, -, c2, -, -, -, f2, -⟩ := hpb9.pc
    have HN7 := Lib.hid (first_row HN0.out ((HT5.out.trans HT8.out).trans hTS) HPL.out)
    have HX7 := Lib.hid (show W7.heap[w4.heap.size]? = some (.cells (exL k9 t9 u9 (.slice a9 n9 c9)).toArray 26) from ((HT8.out.trans hTS).block w4.heap.size (Array.getElem?_eq_some_iff.1 HX5.out).1 HBP4.out).trans HX5.out)
    have HFIN := Lib.hid hfin
    clear hpb9 hfin hTS
    go_upto_region 16 with fail
    rw [← hw7]
    clear hw7 c2 f2
    obtain ⟨x0, x1, x2, x3, x4, x5, x6, x7, x8, x9⟩ := ten_cells HX7.out
    obtain ⟨f0, f1, f2, f3, f4, f5, f6, f7, f8, f9⟩ := ten_frozen HN7.out
    obtain ⟨g0, g1, g2, g3, g4, g5, g6, g7, g8, g9⟩ := ten_live HN7.out
    have HRW := Lib.hid (setTen_row (k := k9) (t := t9) (u := u9) (kv := .slice a9 n9 c9) HN7.out)
    go_wp2_with fail
    clear x0 x1 x2 x3 x4 x5 x6 x7 x8 x9 f0 f1 f2 f3 f4 f5 f6 f7 f8 f9 g0 g1 g2 g3 g4 g5 g6 g7 g8 g9
    refine bodyPost_ret (v := exV k9 t9 u9 (.slice a9 n9 c9)) ?_ rfl ⟨_, rfl, HFIN.out.1, Lib.hid (by rw [HK.out]; exact HFIN.out.2)⟩
    exact results_ten (b := w.heap.size) rfl rfl HRW.out
  | good x t =>
    have hbr := brG_good (s := s) hg
    cases hp : Lib.hasPrefix (rs s t) [41]
    · have HK := Lib.hid (show opK s (k + 1) i = .wrong (pa s t) 15 by rw [HK0.out, hbr, hp]; rfl)
      rw [show isG s [41] (.good x t) = false from hp]
      obtain ⟨a0, ha0, htl, hra, hpb⟩ : Box w6 p s (op + 1) (.good x t) := by
        have : isN s [41] (.good x t) = .good x t := by
          show (bif Lib.hasPrefix (rs s t) [41] then Got.good x (pa s t + 1) else Got.good x t) = _
          rw [hp]; rfl
        rw [this] at hb6; exact hb6
      have HPA := Lib.hid (show pa s a0 = pa s t by unfold pa; rw [hra])
      have HPB := Lib.hid hpb
      have HT56 := Lib.hid ht6
      clear hb6 ht6 hg hpb hbr hp hra
      go_wp2_with fail
      refine (ps_rest_ok w6 p s a0 (op + 1) ha0 hs HPB.out).mono ?_
      rintro e2 w7 ⟨rfl, hb7, ht7⟩
      rw [HPA.out] at hb7
      have HB7 := Lib.hid hb7
      have HT7 := Lib.hid ht7
      clear hb7 ht7
      go_wp2_with fail
      refine (ps_fail w7 p s (pa s t) (op + 1) 0 15 HB7.out).mono ?_
      rintro e2 w8 ⟨rfl, hb8, ht8⟩
      rw [if_pos rfl] at hb8
      have HT8 := Lib.hid ((HT56.out.trans HT7.out).trans ht8)
      have HR8 := Lib.hid (show Res w8 p s (op + 1) (From w3.heap.size) (.wrong (pa s t) 15) (exV k9 t9 u9 (.slice a9 n9 c9)) from ⟨by decide, pa_le s t, hb8, ⟨k9, t9, u9, a9, n9, c9, rfl⟩⟩)
      clear hb8 ht8
      obtain ⟨W7, hw7, hTS, hfin⟩ := br_end (k := k9) (t := t9) (u := u9) (a := a9) (n := n9) (c := c9) ((Turn.of_below HT0.out).trans (HT5.out.trans HT8.out)) HPL.out HS3.out HR8.out
      obtain ⟨j9, bad9, hpb9⟩ := HR8.out.cell
      obtain ⟨-, -, c2, -, -, -, f2, -⟩ := hpb9.pc
      have HN7 := Lib.hid (first_row HN0.out ((HT5.out.trans HT8.out).trans hTS) HPL.out)
      have HX7 := Lib.hid (show W7.heap[w4.heap.size]? = some (.cells (exL k9 t9 u9 (.slice a9 n9 c9)).toArray 26) from ((HT8.out.trans hTS).block w4.heap.size (Array.getElem?_eq_some_iff.1 HX5.out).1 HBP4.out).trans HX5.out)
      have HFIN := Lib.hid hfin
      clear hpb9 hfin hTS
      go_upto_region 16 with fail
      rw [← hw7]
      clear hw7 c2 f2
      obtain ⟨x0, x1, x2, x3, x4, x5, x6, x7, x8, x9⟩ := ten_cells HX7.out
      obtain ⟨f0, f1, f2, f3, f4, f5, f6, f7, f8, f9⟩ := ten_frozen HN7.out
      obtain ⟨g0, g1, g2, g3, g4, g5, g6, g7, g8, g9⟩ := ten_live HN7.out
      have HRW := Lib.hid (setTen_row (k := k9) (t := t9) (u := u9) (kv := .slice a9 n9 c9) HN7.out)
      go_wp2_with fail
      clear x0 x1 x2 x3 x4 x5 x6 x7 x8 x9 f0 f1 f2 f3 f4 f5 f6 f7 f8 f9 g0 g1 g2 g3 g4 g5 g6 g7 g8 g9
      refine bodyPost_ret (v := exV k9 t9 u9 (.slice a9 n9 c9)) ?_ rfl ⟨_, rfl, HFIN.out.1, Lib.hid (by rw [HK.out]; exact HFIN.out.2)⟩
      exact results_ten (b := w.heap.size) rfl rfl HRW.out
    · have HK := Lib.hid (show opK s (k + 1) i = .good x (pa s t + 1) by rw [HK0.out, hbr, hp]; rfl)
      rw [show isG s [41] (.good x t) = true from hp]
      have hbx : Box w6 p s (op + 1) (.good x (pa s t + 1)) := by
        have : isN s [41] (.good x t) = .good x (pa s t + 1) := by
          show (bif Lib.hasPrefix (rs s t) [41] then Got.good x (pa s t + 1) else Got.good x t) = _
          rw [hp]; rfl
        rw [this] at hb6; exact hb6
      have HT56 := Lib.hid ht6
      have HR6 := Lib.hid (show Res w6 p s (op + 1) (From w3.heap.size) (.good x (pa s t + 1)) (exV k9 t9 u9 (.slice a9 n9 c9)) from ⟨hbx, HR5.out.2.turn ht6 HPN.out⟩)
      clear hb6 ht6 hg hbr hp hbx
      obtain ⟨W7, hw7, hTS, hfin⟩ := br_end (k := k9) (t := t9) (u := u9) (a := a9) (n := n9) (c := c9) ((Turn.of_below HT0.out).trans (HT5.out.trans HT56.out)) HPL.out HS3.out HR6.out
      obtain ⟨j9, bad9, hpb9⟩ := HR6.out.cell
      obtain ⟨-, -, c2, -, -, -, f2, -⟩ := hpb9.pc
      have HN7 := Lib.hid (first_row HN0.out ((HT5.out.trans HT56.out).trans hTS) HPL.out)
      have HX7 := Lib.hid (show W7.heap[w4.heap.size]? = some (.cells (exL k9 t9 u9 (.slice a9 n9 c9)).toArray 26) from ((HT56.out.trans hTS).block w4.heap.size (Array.getElem?_eq_some_iff.1 HX5.out).1 HBP4.out).trans HX5.out)
      have HFIN := Lib.hid hfin
      clear hpb9 hfin hTS
      go_upto_region 16 with fail
      rw [← hw7]
      clear hw7 c2 f2
      obtain ⟨x0, x1, x2, x3, x4, x5, x6, x7, x8, x9⟩ := ten_cells HX7.out
      obtain ⟨f0, f1, f2, f3, f4, f5, f6, f7, f8, f9⟩ := ten_frozen HN7.out
      obtain ⟨g0, g1, g2, g3, g4, g5, g6, g7, g8, g9⟩ := ten_live HN7.out
      have HRW := Lib.hid (setTen_row (k := k9) (t := t9) (u := u9) (kv := .slice a9 n9 c9) HN7.out)
      go_wp2_with fail
      clear x0 x1 x2 x3 x4 x5 x6 x7 x8 x9 f0 f1 f2 f3 f4 f5 f6 f7 f8 f9 g0 g1 g2 g3 g4 g5 g6 g7 g8 g9
      refine bodyPost_ret (v := exV k9 t9 u9 (.slice a9 n9 c9)) ?_ rfl ⟨_, rfl, HFIN.out.1, Lib.hid (by rw [HK.out]; exact HFIN.out.2)⟩
      exact results_ten (b := w.heap.size) rfl rfl HRW.out
set_option maxRecDepth 100000 in
set_option maxHeartbeats 4000000 in
theorem ps_op_br0 (w : World) (p : Nat) (s : Bs) (i op : Nat) (r : Bs) (hi : i ≤ s.length) (hs : s.length ≤ 100000) (hop : op = 16) (hr : rs s i = 40 :: r) (hOr : RunsBad 29 #[.pointer (some ⟨p, 0, none⟩)] p s (GP p)) (hgp : GP p w) (h : PB w p s i op 0) :
    Calls Tryz.prog 79 #[.pointer (some ⟨p, 0, none⟩)] w fun e w' => ∃ v, e = .returned v ∧ Turn p w w' ∧ Hid (Res w' p s op (From w.heap.size) (opK s 0 i) v) := by
  have HPL := Lib.hid h.lt
  have HB := Lib.hid (show PB (w.alloc (.cells #[.int .i64 0, .string ⟨#[]⟩, .int .i64 0, .int .i64 0, .string ⟨#[]⟩, .string ⟨#[]⟩, .string ⟨#[]⟩, .bool false, .bool false, .slice none 0 0] 26)) p s i op 0 from h.next ((Below.refl _ _).alloc (Nat.le_refl _) _))
  have HT0 := Lib.hid (show Below w.heap.size w (w.alloc (.cells #[.int .i64 0, .string ⟨#[]⟩, .int .i64 0, .int .i64 0, .string ⟨#[]⟩, .string ⟨#[]⟩, .string ⟨#[]⟩, .bool false, .bool false, .slice none 0 0] 26)) from (Below.refl _ _).alloc (Nat.le_refl _) _)
  have HN0 := Lib.hid (heap_alloc_new w (.cells #[.int .i64 0, .string ⟨#[]⟩, .int .i64 0, .int .i64 0, .string ⟨#[]⟩, .string ⟨#[]⟩, .string ⟨#[]⟩, .bool false, .bool false, .slice none 0 0] 26))
  have HSZ := Lib.hid (show (w.alloc (.cells #[.int .i64 0, .string ⟨#[]⟩, .int .i64 0, .int .i64 0, .string ⟨#[]⟩, .string ⟨#[]⟩, .string ⟨#[]⟩, .bool false, .bool false, .slice none 0 0] 26)).heap.size = w.heap.size + 1 by rw [World.size_alloc])
  have HK := Lib.hid (show opK s 0 i = .wrong (pa s i) 3 by unfold opK opG; rw [hr]; rfl)
  have HOP := Lib.hid hop
  have o1 : op ≤ 16 := by omega
  have HRS := Lib.hid hr
  have HOR := Lib.hid hOr
  have hln := rs_lt hi hr
  have hpx : Lib.hasPrefix (rs s i) [40] = true := by rw [hr]; simp [Lib.hasPrefix, List.isPrefixOf]
  have HPX := Lib.hid hpx
  clear h hr hOr hpx hop
  go_enter Tryz.func79, Tryz.ntmps79
  go_wp2_with fail
  generalize w.alloc (.cells #[.int .i64 0, .string ⟨#[]⟩, .int .i64 0, .int .i64 0, .string ⟨#[]⟩, .string ⟨#[]⟩, .string ⟨#[]⟩, .bool false, .bool false, .slice none 0 0] 26) = W0 at *
  refine (ps_rest_ok W0 p s i op hi hs HB.out).mono ?_
  rintro e w1 ⟨rfl, hb1, ht1⟩
  have HB1 := Lib.hid hb1
  have HT1 := Lib.hid ht1
  obtain ⟨-, -, -, c3, -, -, -, -⟩ := hb1.pc
  rw [HRS.out]
  have q1 : ((40 : UInt8) :: r == []) = false := rfl
  clear hb1 ht1
  go_wp2_with fail
  refine (ps_is_ok w1 p s (pa s i) op [40] (pa_le s i) hs (by decide) HB1.out).mono ?_
  rintro e w2 ⟨rfl, hb2, ht2⟩
  rw [rs_pa s hi, HPX.out, pa_pa s hi] at hb2
  rw [rs_pa s hi, HPX.out]
  have HB2 := Lib.hid (show PB w2 p s (pa s i + 1) op 0 from hb2)
  have HT2 := Lib.hid (HT1.out.trans ht2)
  clear hb2 ht2 c3 q1
  go_wp2_with fail
  refine (ps_deeper_long w2 p s (pa s i + 1) op (by omega) (by omega) HOP.out HB2.out).mono ?_
  rintro e w3 ⟨rfl, hb3, ht3⟩
  have HB3 := Lib.hid (show PB w3 p s (pa s i) (op + 1) 3 from hb3)
  have HT3 := Lib.hid (HT2.out.trans ht3)
  clear hb3 ht3
  go_wp2_with fail
  refine (HOR.out w3 (pa s i) (op + 1) 3 (pa_le s i) (by decide) ((hgp.turn (Turn.of_below HT0.out)).turn HT3.out) HB3.out).mono ?_
  rintro e w4 ⟨v, rfl, ht4, hp4, hv4⟩
  obtain ⟨k9, t9, u9, a9, n9, c9, rfl⟩ := hv4
  have hr4 : Res w4 p s (op + 1) (From w3.heap.size) (.wrong (pa s i) 3) (exV k9 t9 u9 (.slice a9 n9 c9)) := ⟨by decide, pa_le s i, hp4, ⟨k9, t9, u9, a9, n9, c9, rfl⟩⟩
  have hA : Below w4.heap.size w4 (w4.alloc (.cells (exL k9 t9 u9 (.slice a9 n9 c9)).toArray 26)) := (Below.refl _ _).alloc (Nat.le_refl _) _
  have HX5 := Lib.hid (heap_alloc_new w4 (.cells (exL k9 t9 u9 (.slice a9 n9 c9)).toArray 26))
  have HR5 := Lib.hid (hr4.next hA)
  have HT5 := Lib.hid ((HT3.out.trans ht4).trans (Turn.of_below hA))
  have HS3 := Lib.hid (show w.heap.size < w3.heap.size by have h1 := HSZ.out; have h2 := HT3.out.size; omega)
  have HBP4 := Lib.hid (show some w4.heap.size ≠ some p by have := ht4.size; have := HB3.out.lt; intro e; cases e; omega)
  have HPN := Lib.hid (show ¬ From w3.heap.size p from fun h => by have : w3.heap.size ≤ p := h; have := HB3.out.lt; omega)
  clear ht4 hr4 hA hp4
  go_wp2_with fail
  generalize w4.alloc (.cells (exL k9 t9 u9 (.slice a9 n9 c9)).toArray 26) = W5 at *
  refine (ps_is_any W5 p s (op + 1) (.wrong (pa s i) 3) [41] (by decide) hs HR5.out.box).mono ?_
  rintro e w6 ⟨rfl, hb6, ht6⟩
  rw [show isG s [41] (.wrong (pa s i) 3) = false from rfl]
  obtain ⟨e0, hq, hpb⟩ : Box w6 p s (op + 1) (.wrong (pa s i) 3) := hb6
  have HE0 := Lib.hid e0
  have HPB := Lib.hid hpb
  have HT6 := Lib.hid (HT5.out.trans ht6)
  have HT56 := Lib.hid ht6
  clear ht6 e0 hpb
  go_wp2_with fail
  refine (ps_rest_bad w6 p s (pa s i) (op + 1) 3 hq hs HE0.out HPB.out).mono ?_
  rintro e2 w7 ⟨rfl, hb7, ht7⟩
  have HB7 := Lib.hid hb7
  have HT7 := Lib.hid ht7
  clear hb7 ht7
  go_wp2_with fail
  refine (ps_fail w7 p s (pa s i) (op + 1) 3 15 HB7.out).mono ?_
  rintro e2 w8 ⟨rfl, hb8, ht8⟩
  rw [if_neg HE0.out] at hb8
  have HT8 := Lib.hid ((HT56.out.trans HT7.out).trans ht8)
  have HR8 := Lib.hid (show Res w8 p s (op + 1) (From w3.heap.size) (.wrong (pa s i) 3) (exV k9 t9 u9 (.slice a9 n9 c9)) from ⟨HE0.out, hq, hb8, ⟨k9, t9, u9, a9, n9, c9, rfl⟩⟩)
  clear hb8 ht8
  obtain ⟨W7, hw7, hTS, hfin⟩ := br_end (k := k9) (t := t9) (u := u9) (a := a9) (n := n9) (c := c9) ((Turn.of_below HT0.out).trans (HT5.out.trans HT8.out)) HPL.out HS3.out HR8.out
  obtain ⟨j9, bad9, hpb9⟩ := HR8.out.cell
  obtain ⟨-, -, c2, -, -, -, f2, -⟩ := hpb9.pc
  have HN7 := Lib.hid (first_row HN0.out ((HT5.out.trans HT8.out).trans hTS) HPL.out)
  have HX7 := Lib.hid (show W7.heap[w4.heap.size]? = some (.cells (exL k9 t9 u9 (.slice a9 n9 c9)).toArray 26) from ((HT8.out.trans hTS).block w4.heap.size (Array.getElem?_eq_some_iff.1 HX5.out).1 HBP4.out).trans HX5.out)
  have HFIN := Lib.hid hfin
  clear hpb9 hfin hTS
  go_upto_region 16 with fail
  rw [← hw7]
  clear hw7 c2 f2
  obtain ⟨x0, x1, x2, x3, x4, x5, x6, x7, x8, x9⟩ := ten_cells HX7.out
  obtain ⟨f0, f1, f2, f3, f4, f5, f6, f7, f8, f9⟩ := ten_frozen HN7.out
  obtain ⟨g0, g1, g2, g3, g4, g5, g6, g7, g8, g9⟩ := ten_live HN7.out
  have HRW := Lib.hid (setTen_row (k := k9) (t := t9) (u := u9) (kv := .slice a9 n9 c9) HN7.out)
  go_wp2_with fail
  clear x0 x1 x2 x3 x4 x5 x6 x7 x8 x9 f0 f1 f2 f3 f4 f5 f6 f7 f8 f9 g0 g1 g2 g3 g4 g5 g6 g7 g8 g9
  refine bodyPost_ret (v := exV k9 t9 u9 (.slice a9 n9 c9)) ?_ rfl ⟨_, rfl, HFIN.out.1, Lib.hid (by rw [HK.out]; exact HFIN.out.2)⟩
  exact results_ten (b := w.heap.size) rfl rfl HRW.out
end Go.Proofs.YtbkhmkpbbggcbaaGreatDoor
