/- The law that what values bring is not looked at again. -/
import Derived.Test.YtgpeehilemidlaaDoorSubLaw
import Derived.Test.YtgpeehilemidlaaDoorSubOnceP
namespace Go.Proofs.YtgpeehilemidlaaDoor
open Go.RowKit
set_option linter.unusedVariables false
attribute [local go_sem ↓] Go.wp_at_zero Go.wp_at_succ

theorem three_kept {w w' : World} {b : Nat} {x y z : Value} (hb : Below w.heap.size w w') (h : w.cell? ⟨b, 0, none⟩ = some x ∧ w.cell? ⟨b, 1, none⟩ = some y ∧ w.cell? ⟨b, 2, none⟩ = some z) : w'.cell? ⟨b, 0, none⟩ = some x ∧ w'.cell? ⟨b, 1, none⟩ = some y ∧ w'.cell? ⟨b, 2, none⟩ = some z :=
  ⟨((bcell hb).1 _ _ (cell_lt h.1)).trans h.1, ((bcell hb).1 _ _ (cell_lt h.1)).trans h.2.1, ((bcell hb).1 _ _ (cell_lt h.1)).trans h.2.2⟩
theorem applyV_mk (x : Bs) (i : Int) : applyV (x, i) = .tuple #[.string ⟨x.toArray⟩, .int .i64 i] := rfl
theorem once_lim (v : ByteArray) (h : v.size ≤ 1000) : Lim (kFs v.data.toList) := by
  have hl := bs_size v
  refine ⟨by show 1 ≤ 1000; omega, ?_⟩
  intro f hf
  obtain rfl : f = _ := by simpa [kFs] using hf
  show 6 + (v.data.toList.length + 1 + 1) ≤ 100000
  omega
theorem kcat (v : ByteArray) : (⟨#[107, 61]⟩ : ByteArray) ++ v = ⟨(107 :: 61 :: v.data.toList).toArray⟩ := by
  apply ByteArray.ext; apply Array.ext'; simp

set_option maxRecDepth 100000 in
set_option maxHeartbeats 1000000 in
theorem law_SubstOnce (v : ByteArray) (m : Nat) (w : World) (hg : Good w) (hm : m < 256) (hv : v.size ≤ 140737488351232) :
    Calls Tryd.prog 10 #[.string v, .int .u8 (m : Int)] w (Ret w (.bool true)) := by
  have HG := Lib.hid hg
  clear hg
  go_enter Tryd.func10, Tryd.ntmps10
  by_cases hl : v.size ≤ 1000
  · have hli : (v.size : Int) ≤ 1000 := by omega
    go_wp2_with fail
    refine (lib_Contains v ⟨#[59]⟩ _ HG.out (by omega)).mono ?_
    rintro e w1 ⟨rfl, rfl⟩
    have e1 : Lib.contains v.data.toList (⟨#[59]⟩ : ByteArray).data.toList = v.data.toList.contains 59 := has_byte v.data.toList 59
    rw [e1]
    clear e1
    rcases hc : v.data.toList.contains 59 with _ | _
    · have HC := Lib.hid hc
      clear hc
      have HT := Lib.hid (two_new w (.cells #[.string ⟨#[67, 111, 111, 107, 105, 101]⟩, .string (⟨#[107, 61]⟩ ++ v)] 39) (.cells #[.string ⟨#[71, 69, 84]⟩, .string ⟨#[47]⟩, .int .i64 1, .slice (some ⟨w.heap.size, 0, none⟩) 1 1, .string ⟨#[]⟩] 24))
      go_wp2_with fail
      generalize (w.alloc (.cells #[.string ⟨#[67, 111, 111, 107, 105, 101]⟩, .string (⟨#[107, 61]⟩ ++ v)] 39)).alloc (.cells #[.string ⟨#[71, 69, 84]⟩, .string ⟨#[47]⟩, .int .i64 1, .slice (some ⟨w.heap.size, 0, none⟩) 1 1, .string ⟨#[]⟩] 24) = W at *
      have hF : FieldsAt W (.slice (some ⟨w.heap.size, 0, none⟩) 1 1) (kFs v.data.toList) := fields_row (kFs v.data.toList) HT.out.b1 (by rw [kcat]; rfl)
      refine (vars_Of ⟨#[71, 69, 84]⟩ ⟨#[47]⟩ ⟨#[]⟩ ⟨#[104]⟩ 1 _ _ _ (kFs v.data.toList) W hF (by show 1 ≤ 1000; omega)).mono ?_
      rintro e w1 ⟨a', c', rfl, hown, hb1⟩
      have HW1 := Lib.hid (HT.out.below.trans (hb1.mono HT.out.below.size))
      have HO1 := Lib.hid hown
      have hvb : w.heap.size < w1.heap.size := by have := HT.out.size; have := hb1.size; omega
      have hlim := once_lim v hl
      have HV := Lib.hid (kGet [104] [47] v.data.toList HC.out)
      clear hF hown hb1 HT
      have n2 := heap_alloc_new w1 (.cells #[.string ⟨#[104]⟩, .string ⟨#[47]⟩, .slice a' (kFs v.data.toList).length c'] 31)
      have b2 := (Below.refl w1.heap.size w1).alloc (Nat.le_refl _) (.cells #[.string ⟨#[104]⟩, .string ⟨#[47]⟩, .slice a' (kFs v.data.toList).length c'] 31)
      have HN2 := Lib.hid n2
      have HO2 := Lib.hid (HO1.out.below b2)
      have HW2 := Lib.hid (HW1.out.trans (b2.mono HW1.out.size))
      clear n2 b2
      go_wp2_with fail
      generalize w1.alloc (.cells #[.string ⟨#[104]⟩, .string ⟨#[47]⟩, .slice a' (kFs v.data.toList).length c'] 31) = W2 at *
      generalize w1.heap.size = vb at *
      refine (vars_Get ⟨#[104]⟩ ⟨#[47]⟩ ⟨#[72, 84, 84, 80, 95, 67, 79, 79, 75, 73, 69]⟩ ⟨#[107]⟩ a' (kFs v.data.toList).length c' (kFs v.data.toList) true W2 (HG.out.next HW2.out) HO2.out.at hlim (by decide) (by decide)).mono ?_
      rintro e w3 ⟨rfl, hb3⟩
      rw [show vget (⟨#[104]⟩ : ByteArray).data.toList (⟨#[47]⟩ : ByteArray).data.toList (kFs v.data.toList) (⟨#[72, 84, 84, 80, 95, 67, 79, 79, 75, 73, 69]⟩ : ByteArray).data.toList (⟨#[107]⟩ : ByteArray).data.toList true = (rtrim v.data.toList, true) from HV.out]
      have HW3 := Lib.hid (HW2.out.trans (hb3.mono HW2.out.size))
      have HO3 := Lib.hid (HO2.out.below hb3)
      have hv3 : VBox w3 vb ⟨#[104]⟩ ⟨#[47]⟩ (.slice a' (kFs v.data.toList).length c') := (hb3.block vb (blk_lt HN2.out)).trans HN2.out
      have HV3 := Lib.hid hv3
      obtain ⟨c0, c1, c2⟩ := vbox_cells hv3
      have HC3 := Lib.hid (show w3.drew.cell? ⟨vb, 0, none⟩ = some (.string ⟨#[104]⟩) ∧ w3.drew.cell? ⟨vb, 1, none⟩ = some (.string ⟨#[47]⟩) ∧ w3.drew.cell? ⟨vb, 2, none⟩ = some (.slice a' (kFs v.data.toList).length c') from ⟨c0, c1, c2⟩)
      have HA := Lib.hid (once_apply [104] [47] v.data.toList (m % 50) HC.out (by rw [bs_size]; exact hl) (by omega))
      have HQ := Lib.hid (show IntKind.i64.wrap ((m : Int).tmod 50) = ((m % 50 : Nat) : Int) by
        have h1 : (m : Int).tmod 50 = ((m % 50 : Nat) : Int) := by rw [Int.tmod_eq_emod_of_nonneg (by omega)]; omega
        rw [h1]; exact IntWalk.i64_in _ (by omega))
      have hrl : (⟨(Lib.repeatL kUse (m % 50)).toArray⟩ : ByteArray).size ≤ 1000000 := by
        show (Lib.repeatL kUse (m % 50)).length ≤ _
        rw [rep_len]; show m % 50 * 17 ≤ _; omega
      clear hb3 hv3 HO2 HW2 HN2 HV HO1 HW1
      go_wp2_with fail
      clear c0 c1 c2
      go_region_held3 (fun w' => w'.cell? ⟨vb, 0, none⟩ = some (.string ⟨#[104]⟩) ∧ w'.cell? ⟨vb, 1, none⟩ = some (.string ⟨#[47]⟩) ∧ w'.cell? ⟨vb, 2, none⟩ = some (.slice a' (kFs v.data.toList).length c')) (first | with_reducible exact HC5.out | with_reducible exact HC4.out | with_reducible exact HC3.out)
        (first
          | (go_at_call 38; rw [HQ.out]; refine (Tryd.strings_Repeat ⟨kUse.toArray⟩ (m % 50) _ (by omega) (by rw [show (⟨kUse.toArray⟩ : ByteArray).size = 17 from rfl]; omega)).mono ?_; rintro e w4 ⟨rfl, hb4⟩; have HC4 := Lib.hid (three_kept hb4 HC3.out))
          | (go_at_call 30; refine (sub_Apply ⟨(Lib.repeatL kUse (m % 50)).toArray⟩ ⟨#[104]⟩ ⟨#[47]⟩ a' (kFs v.data.toList).length c' (kFs v.data.toList) w4 (HG.out.next (HW3.out.drew.trans (hb4.mono HW3.out.size))) (HO3.out.below ((Below.refl _ _).drew.trans hb4)).at hlim (by decide) hrl).mono ?_; rintro e w5 ⟨rfl, hb5⟩; rw [show vapply (⟨#[104]⟩ : ByteArray).data.toList (⟨#[47]⟩ : ByteArray).data.toList (kFs v.data.toList) (⟨(Lib.repeatL kUse (m % 50)).toArray⟩ : ByteArray).data.toList = (Lib.repeatL (rtrim v.data.toList) (m % 50), 0) from HA.out, applyV_mk]; have HC5 := Lib.hid (three_kept hb5 HC4.out)))
      have HW5 := Lib.hid ((HW3.out.drew.trans (hb4.mono HW3.out.size)).trans (hb5.mono (Nat.le_trans HW3.out.size hb4.size)))
      clear hb4 hb5 HC3 HC4 HC5 HV3 HO3 HW3
      have hq := HQ.out
      go_wp2_with fail
      clear hq
      rw [show ((m : Int) % 50) = ((m % 50 : Nat) : Int) by omega]
      have hrt := rtrim_len v.data.toList
      rw [bs_size] at hrt
      refine (Tryd.strings_Repeat ⟨(rtrim v.data.toList).toArray⟩ (m % 50) w5 (by omega) (by
        have h1 : (⟨(rtrim v.data.toList).toArray⟩ : ByteArray).size ≤ 1000 := by show (rtrim v.data.toList).length ≤ 1000; omega
        have := Nat.mul_le_mul h1 (show m % 50 ≤ 50 by omega); omega)).mono ?_
      rintro e w6 ⟨rfl, hb6⟩
      have HW6 := Lib.hid (HW5.out.trans (hb6.mono HW5.out.size))
      rw [show (⟨(rtrim v.data.toList).toArray⟩ : ByteArray).data.toList = rtrim v.data.toList from rfl]
      clear hb6 hrt
      go_wp2_with fail
      refine (law_works w6 (HG.out.next HW6.out)).mono ?_
      rintro e w7 ⟨rfl, hb7⟩
      have HW7 := Lib.hid (HW6.out.trans (hb7.mono HW6.out.size))
      clear hb7
      go_wp2
      go_ret
      exact ⟨rfl, HW7.out⟩
    · go_wp2_with fail
      refine (law_works w HG.out).mono ?_
      rintro e w2 ⟨rfl, hb2⟩
      go_wp2
      go_ret
      exact ⟨rfl, hb2⟩
  · have hli : (1000 : Int) < (v.size : Int) := by omega
    go_wp2_with fail
    refine (law_works w HG.out).mono ?_
    rintro e w2 ⟨rfl, hb2⟩
    go_wp2
    go_ret
    exact ⟨rfl, hb2⟩
end Go.Proofs.YtgpeehilemidlaaDoor
