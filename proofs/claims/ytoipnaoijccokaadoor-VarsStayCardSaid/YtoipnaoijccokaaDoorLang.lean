/- The walk of the program's language. -/
import Derived.Test.YtoipnaoijccokaaDoorCookie
namespace Go.Proofs.YtoipnaoijccokaaDoor
open Go.RowKit Go.Shelf
attribute [local go_sem] Oper.semAt_some
set_option linter.unusedVariables false

def lgO (key x : Bs) : Option Bs := if lgOf key x then some [116, 114, 117, 101] else none
theorem any_none {key : Bs} : ∀ {l : List Bs}, l.findSome? (lgO key) = none → l.any (lgOf key) = false
  | [], _ => rfl
  | x :: l, h => by
    rw [List.findSome?_cons] at h
    unfold lgO at h
    cases hx : lgOf key x
    · rw [hx] at h; rw [List.any_cons, hx]; exact any_none (l := l) h
    · rw [hx] at h; cases h
theorem any_some {key v : Bs} : ∀ {l : List Bs}, l.findSome? (lgO key) = some v → l.any (lgOf key) = true ∧ v = [116, 114, 117, 101]
  | [], h => by cases h
  | x :: l, h => by
    rw [List.findSome?_cons] at h
    unfold lgO at h
    cases hx : lgOf key x
    · rw [hx] at h; rw [List.any_cons, hx]; exact any_some (l := l) h
    · rw [hx] at h; rw [List.any_cons, hx]; exact ⟨rfl, by simpa using h.symm⟩
theorem lgO_no1 {key l : Bs} (h : same (trim (upto 59 l)) key = false) : lgO key l = none := by unfold lgO lgOf; rw [h]; rfl
theorem lgO_no2 {key l : Bs} (h : (pieces 59 l).tail.any zero = true) : lgO key l = none := by unfold lgO lgOf; rw [h, Bool.not_true, Bool.and_false]; rfl
theorem lgO_yes {key l : Bs} (h : same (trim (upto 59 l)) key = true) (h2 : (pieces 59 l).tail.any zero = false) : lgO key l = some [116, 114, 117, 101] := by unfold lgO lgOf; rw [h, h2]; rfl

set_option maxRecDepth 100000 in
set_option maxHeartbeats 800000 in
theorem vars_language (h t key : ByteArray) (a : Option Addr) (n c : Nat) (fs : List Fld) (w : World) (hg : Good w) (hF : FieldsAt w (.slice a n c) fs) (hlim : Lim fs)  (hkey : key.size ≤ 100000) :
    Calls Tryd.prog 32 #[.agg #[.string h, .string t, .slice a n c], .string key] w
      (Ret w (.tuple #[.string ⟨(langV (vlang fs key.data.toList)).toArray⟩, .bool (vlang fs key.data.toList)])) := by
  have hcl := fget_len hlim langName
  have HG := Lib.hid (show vlang fs key.data.toList = (pieces 44 (fget fs langName).1).any (lgOf key.data.toList) from rfl)
  have HW := Lib.hid (four_new w (.cells #[.string h, .string t, .slice a n c] 30) (.cells #[.string key] 9) (.cells #[.string ⟨#[]⟩] 9) (.cells #[.bool false] 4))
  have hlm := hg.lt
  obtain ⟨N, _⟩ : ∃ N : Nat, True := ⟨0, trivial⟩
  refine (callsIn_wide (n := N)).1 ?_
  refine callsIn_of_wp_marks Tryd.func32 rfl trivial ?_ rfl
  simp only [Tryd.ntmps32, List.size_toArray, List.length_cons, List.length_nil, Nat.reduceAdd, Nat.reduceSub, Array.replicate_succ, Array.replicate_zero, List.push_toArray, List.append_toArray, List.nil_append, List.cons_append]
  gi_wp2_with fail
  generalize (((w.alloc (.cells #[.string h, .string t, .slice a n c] 30)).alloc (.cells #[.string key] 9)).alloc (.cells #[.string ⟨#[]⟩] 9)).alloc (.cells #[.bool false] 4) = W0 at *
  have h4 := HW.out
  clear HW
  have hbW := h4.below
  have hsW := h4.size
  refine call_wide ((fields_Get fs _ ⟨#[97, 99, 99, 101, 112, 116, 45, 108, 97, 110, 103, 117, 97, 103, 101]⟩ _ (hF.below hbW) hlim (by decide)).mono ?_)
  rintro e w1 ⟨rfl, hb1⟩
  have hnm : (⟨#[97, 99, 99, 101, 112, 116, 45, 108, 97, 110, 103, 117, 97, 103, 101]⟩ : ByteArray).data.toList = langName := rfl
  rw [hnm]
  clear hnm
  have hg1 : Good w1 := (hg.next hbW).next hb1
  have hbw1 := hbW.trans (hb1.mono hbW.size)
  have k2 := (hb1.block _ (by omega)).trans h4.b2
  have k3 := (hb1.block _ (by omega)).trans h4.b3
  have k4 := (hb1.block _ (by omega)).trans h4.b4
  have hs1 := hb1.size
  clear hb1 h4 hbW
  generalize (fget fs langName).1 = all at *
  gi_wp2_with fail
  refine call_wide ((lib_SplitSeq all 44 w1).mono ?_)
  rintro e w2 ⟨rfl, hit, hs2, hb2⟩
  have hg2 : Good w2 := hg1.next hb2
  have hbw2 := hbw1.trans (hb2.mono hbw1.size)
  replace k2 := (hb2.block _ (by omega)).trans k2
  replace k3 := (hb2.block _ (by omega)).trans k3
  replace k4 := (hb2.block _ (by omega)).trans k4
  clear hb2 hbw1
  gi_wp2_with fail
  have hlw1 : w.heap.size + 1 + 1 + 1 + 1 ≤ w1.heap.size := by omega
  refine range_split 44 all w1.heap.size (w1.heap.size + 1) (w1.heap.size + 1 + 1) (by omega) (by omega) (by omega) rfl rfl hit hg2 (by omega)
    (fun k => k = w.heap.size + 1 + 1 ∨ k = w.heap.size + 1 + 1 + 1) (by rintro k (rfl | rfl) <;> omega)
    (Seek w2 w1.heap.size (lgO key.data.toList)) (Hit w w2 (w.heap.size + 1 + 1) (w.heap.size + 1 + 1 + 1) (lgO key.data.toList))
    (seek_stays w2 _ _) (hit_stays w w2 _ _ _ _ (by omega) (by omega) (by omega) (by omega) (by omega) (by omega)) ⟨rfl, Stays.refl _ _ _⟩ ?a1 ?assign ?body ?done ?stop
  case assign =>
    intro l x W K hK
    gi_wp2
    exact hK
  case body =>
    rintro l pre x W ⟨hno, hst⟩ hgW hpre
    have hxl : x.length ≤ all.length := pieces_each 44 all.length all (Nat.le_refl _) x (hpre.subset (by simp))
    have hul := upto_len 59 x
    have htl := trim_len (upto 59 x)
    have hsz := hst.size
    obtain ⟨c2, _⟩ := box_cell ((hst.block _ (by omega) (by omega)).trans k2)
    have hW2 : w.heap.size + 1 < W.heap.size := by omega
    have Hno := Lib.hid hno
    clear hno
    have hts : (⟨(trim (upto 59 x)).toArray⟩ : ByteArray).size ≤ 140737488351232 := bsz _ _ (by omega)
    have hus : (⟨(upto 59 x).toArray⟩ : ByteArray).size ≤ 9223372036854775807 := bsz _ _ (by omega)
    have hks : key.size ≤ 140737488351232 := by omega
    have hns : (⟨x.toArray⟩ : ByteArray).size ≤ 100002000 := bsz _ _ (by omega)
    gi_wp2_with fail
    refine call_round ((lib_Cut1 ⟨x.toArray⟩ 59 _ hgW (bsz_lt _ _ (by omega))).mono ?_)
    rintro e w3 ⟨rfl, hb3⟩
    have hat : (⟨x.toArray⟩ : ByteArray).data.toList = x := rfl
    rw [hat]
    clear hat
    have hg3 := hgW.next hb3
    have hg3' := hg3.next (Below.drew (Below.refl _ _))
    have c3 : w3.cell? ⟨w.heap.size + 1, 0, none⟩ = some (.string key) := (hb3.cell (p := ⟨w.heap.size + 1, 0, none⟩) hW2).trans c2
    have hW3 : w.heap.size + 1 < w3.heap.size := Nat.lt_of_lt_of_le hW2 hb3.size
    have q3 := (hb3.block (w.heap.size + 1 + 1) (by omega)).trans ((hst.block _ (by omega) (by omega)).trans k3)
    have q4 := (hb3.block (w.heap.size + 1 + 1 + 1) (by omega)).trans ((hst.block _ (by omega) (by omega)).trans k4)
    have Q3 := Lib.hid q3
    have Q4 := Lib.hid q4
    have HB3 := Lib.hid hb3
    clear c2 q3 q4 hb3
    gi_wp2_with fail
    rcases hsm : same (trim (upto 59 x)) key.data.toList with _ | _
    · have Hs := Lib.hid (lgO_no1 hsm)
      gi_region_with (first
        | (refine call_round ((text_Trim ⟨(upto 59 x).toArray⟩ _ hus).mono ?_); rintro e w4 ⟨rfl, hb4⟩;
           have hat : (⟨(upto 59 x).toArray⟩ : ByteArray).data.toList = upto 59 x := rfl; rw [hat]; clear hat;
           have c4 := (bcell hb4).1 _ _ (by show w.heap.size + 1 < w3.drew.heap.size; exact hW3) |>.trans c3)
        | (refine call_round ((text_Same ⟨(trim (upto 59 x)).toArray⟩ key _ hts hks).mono ?_); rintro e w5 ⟨rfl, hb5⟩;
           have hat : (⟨(trim (upto 59 x)).toArray⟩ : ByteArray).data.toList = trim (upto 59 x) := rfl; rw [hat, hsm]; clear hat)
        | (refine ⟨trivial, ?_⟩))
      all_goals
        have hb6 : Below W.heap.size W w5 := HB3.out.trans ((below_ofdrew (hb4.trans (hb5.mono hb4.size))).mono HB3.out.size)
        gi_wp2
        exact seek_mk hst hb6 Hno.out Hs.out
    · rcases hz : (pieces 59 x).tail.any zero with _ | _
      · have Hs := Lib.hid (lgO_yes hsm hz)
        gi_region_with (first
          | (refine call_round ((text_Trim ⟨(upto 59 x).toArray⟩ _ hus).mono ?_); rintro e w4 ⟨rfl, hb4⟩;
             have hat : (⟨(upto 59 x).toArray⟩ : ByteArray).data.toList = upto 59 x := rfl; rw [hat]; clear hat;
             have c4 := (bcell hb4).1 _ _ (by show w.heap.size + 1 < w3.drew.heap.size; exact hW3) |>.trans c3)
          | (refine call_round ((text_Same ⟨(trim (upto 59 x)).toArray⟩ key _ hts hks).mono ?_); rintro e w5 ⟨rfl, hb5⟩;
             have hat : (⟨(trim (upto 59 x)).toArray⟩ : ByteArray).data.toList = trim (upto 59 x) := rfl; rw [hat, hsm]; clear hat)
          | (refine call_round ((vars_nought ⟨x.toArray⟩ _ ((hg3'.next hb4).next hb5) hns).mono ?_); rintro e w6 ⟨rfl, hb6⟩;
             have hat : (⟨x.toArray⟩ : ByteArray).data.toList = x := rfl; rw [hat, hz]; clear hat)
          | (refine ⟨trivial, ?_⟩))
        all_goals
          have hb7 : Below W.heap.size W w6 := HB3.out.trans ((below_ofdrew ((hb4.trans (hb5.mono hb4.size)).trans (hb6.mono (Nat.le_trans hb4.size hb5.size)))).mono HB3.out.size)
          obtain ⟨d3, f3⟩ := box_cell ((hb7.block (w.heap.size + 1 + 1) (by omega)).trans ((hst.block _ (by omega) (by omega)).trans k3))
          obtain ⟨d4, f4⟩ := box_cell ((hb7.block (w.heap.size + 1 + 1 + 1) (by omega)).trans ((hst.block _ (by omega) (by omega)).trans k4))
          gi_wp2
          exact hit_mk hbw2 hst hb7 (by omega) (by omega) (by omega) (by omega) ((hb7.block (w.heap.size + 1 + 1) (by omega)).trans ((hst.block _ (by omega) (by omega)).trans k3)) ((hb7.block (w.heap.size + 1 + 1 + 1) (by omega)).trans ((hst.block _ (by omega) (by omega)).trans k4)) Hno.out Hs.out
      · have Hs := Lib.hid (lgO_no2 (key := key.data.toList) hz)
        gi_region_with (first
          | (refine call_round ((text_Trim ⟨(upto 59 x).toArray⟩ _ hus).mono ?_); rintro e w4 ⟨rfl, hb4⟩;
             have hat : (⟨(upto 59 x).toArray⟩ : ByteArray).data.toList = upto 59 x := rfl; rw [hat]; clear hat;
             have c4 := (bcell hb4).1 _ _ (by show w.heap.size + 1 < w3.drew.heap.size; exact hW3) |>.trans c3)
          | (refine call_round ((text_Same ⟨(trim (upto 59 x)).toArray⟩ key _ hts hks).mono ?_); rintro e w5 ⟨rfl, hb5⟩;
             have hat : (⟨(trim (upto 59 x)).toArray⟩ : ByteArray).data.toList = trim (upto 59 x) := rfl; rw [hat, hsm]; clear hat)
          | (refine call_round ((vars_nought ⟨x.toArray⟩ _ ((hg3'.next hb4).next hb5) hns).mono ?_); rintro e w6 ⟨rfl, hb6⟩;
             have hat : (⟨x.toArray⟩ : ByteArray).data.toList = x := rfl; rw [hat, hz]; clear hat)
          | (refine ⟨trivial, ?_⟩))
        all_goals
          have hb7 : Below W.heap.size W w6 := HB3.out.trans ((below_ofdrew ((hb4.trans (hb5.mono hb4.size)).trans (hb6.mono (Nat.le_trans hb4.size hb5.size)))).mono HB3.out.size)
          gi_wp2
          exact seek_mk hst hb7 Hno.out Hs.out
  case done =>
    rintro D W hD ⟨hno, hst⟩ hK
    obtain ⟨c3, f3⟩ := box_cell ((hst.block _ (by omega) (by omega)).trans k3)
    obtain ⟨c4, f4⟩ := box_cell ((hst.block _ (by omega) (by omega)).trans k4)
    have HE := Lib.hid (ret2_mk (hst.below hbw2 (by omega) (by omega)) (by omega) (by omega) (by omega) (by omega) (by omega) ((hst.block _ (by omega) (by omega)).trans k3) ((hst.block _ (by omega) (by omega)).trans k4) hK ⟨#[]⟩ false)
    have Hno := Lib.hid hno
    clear hno hK hst
    gi_wp2
    obtain ⟨hb, hK', e4, e5⟩ := HE.out
    refine ⟨by simp, .inl ⟨_, _, rfl, run_takeDeferred hK', ?_⟩⟩
    refine ⟨.tuple #[.string ⟨#[]⟩, .bool false], ?_, ?_, hb⟩
    · simp [results, Tryd.f32, go_sem, e4, e5]
    · rw [HG.out, any_none Hno.out]; rfl
  case stop =>
    rintro D pre W hD hpre ⟨v, hv, hbel, hsz, q4, q5⟩ hK
    have HE := Lib.hid (ret2_mk0 (D := D) hbel (by omega) (by omega) q4 q5)
    have HK := Lib.hid hK
    have Hv := Lib.hid (findSome_pre hpre hv)
    clear hv hK hbel
    gi_wp2
    obtain ⟨hb, e4, e5⟩ := HE.out
    refine ⟨by simp, .inl ⟨_, _, rfl, run_takeDeferred HK.out, ?_⟩⟩
    refine ⟨.tuple #[.string ⟨v.toArray⟩, .bool true], ?_, ?_, hb⟩
    · simp [results, Tryd.f32, go_sem, e4, e5]
    · obtain ⟨h1, rfl⟩ := any_some Hv.out; rw [HG.out, h1]; rfl
end Go.Proofs.YtoipnaoijccokaaDoor
