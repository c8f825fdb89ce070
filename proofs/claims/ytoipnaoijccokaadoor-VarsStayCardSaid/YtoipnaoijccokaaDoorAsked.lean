/- The walk of the program's asked. -/
import Derived.Test.YtoipnaoijccokaaDoorCookie
namespace Go.Proofs.YtoipnaoijccokaaDoor
open Go.RowKit Go.Shelf
attribute [local go_sem] Oper.semAt_some
set_option linter.unusedVariables false

theorem quOf_none' {key : ByteArray} {l : Bs} (h : (upto 61 l == key.toList) = false) : quOf key.data.toList l = none := by
  rw [Lib.toList_data] at h; unfold quOf; rw [h]; rfl
theorem quOf_some' {key : ByteArray} {l : Bs} (h : (upto 61 l == key.toList) = true) : quOf key.data.toList l = some (past 61 l) := by
  rw [Lib.toList_data] at h; unfold quOf; rw [h]; rfl

set_option maxRecDepth 100000 in
set_option maxHeartbeats 800000 in
theorem vars_asked (h t key : ByteArray) (a : Option Addr) (n c : Nat) (fs : List Fld) (w : World) (hg : Good w) (ht : t.size ≤ 100000) :
    Calls Tryd.prog 31 #[.agg #[.string h, .string t, .slice a n c], .string key] w
      (Ret w (.tuple #[.string ⟨((vasked t.data.toList key.data.toList).getD []).toArray⟩, .bool (vasked t.data.toList key.data.toList).isSome])) := by
  have hcl : (past 63 t.data.toList).length ≤ 100000 := Nat.le_trans (past_len 63 _) (by rw [bs_size]; exact ht)
  have HG := Lib.hid (show vasked t.data.toList key.data.toList = (pieces 38 (past 63 t.data.toList)).findSome? (quOf key.data.toList) from rfl)
  have HW := Lib.hid (four_new w (.cells #[.string h, .string t, .slice a n c] 30) (.cells #[.string key] 9) (.cells #[.string ⟨#[]⟩] 9) (.cells #[.bool false] 4))
  have hlm := hg.lt
  obtain ⟨N, _⟩ : ∃ N : Nat, True := ⟨0, trivial⟩
  refine (callsIn_wide (n := N)).1 ?_
  refine callsIn_of_wp_marks Tryd.func31 rfl trivial ?_ rfl
  simp only [Tryd.ntmps31, List.size_toArray, List.length_cons, List.length_nil, Nat.reduceAdd, Nat.reduceSub, Array.replicate_succ, Array.replicate_zero, List.push_toArray, List.append_toArray, List.nil_append, List.cons_append]
  gi_wp2_with fail
  generalize (((w.alloc (.cells #[.string h, .string t, .slice a n c] 30)).alloc (.cells #[.string key] 9)).alloc (.cells #[.string ⟨#[]⟩] 9)).alloc (.cells #[.bool false] 4) = W0 at *
  have h4 := HW.out
  clear HW
  have hbW := h4.below
  have hsW := h4.size
  refine call_wide ((vars_query h t a n c _ (hg.next hbW) ht).mono ?_)
  rintro e w1 ⟨rfl, hb1⟩
  have hg1 : Good w1 := (hg.next hbW).next hb1
  have hbw1 := hbW.trans (hb1.mono hbW.size)
  have k2 := (hb1.block _ (by omega)).trans h4.b2
  have k3 := (hb1.block _ (by omega)).trans h4.b3
  have k4 := (hb1.block _ (by omega)).trans h4.b4
  have hs1 := hb1.size
  clear hb1 h4 hbW
  generalize past 63 t.data.toList = all at *
  gi_wp2_with fail
  refine call_wide ((lib_SplitSeq all 38 w1).mono ?_)
  rintro e w2 ⟨rfl, hit, hs2, hb2⟩
  have hg2 : Good w2 := hg1.next hb2
  have hbw2 := hbw1.trans (hb2.mono hbw1.size)
  replace k2 := (hb2.block _ (by omega)).trans k2
  replace k3 := (hb2.block _ (by omega)).trans k3
  replace k4 := (hb2.block _ (by omega)).trans k4
  clear hb2 hbw1
  gi_wp2_with fail
  have hlw1 : w.heap.size + 1 + 1 + 1 + 1 ≤ w1.heap.size := by omega
  refine range_split 38 all w1.heap.size (w1.heap.size + 1) (w1.heap.size + 1 + 1) (by omega) (by omega) (by omega) rfl rfl hit hg2 (by omega)
    (fun k => k = w.heap.size + 1 + 1 ∨ k = w.heap.size + 1 + 1 + 1) (by rintro k (rfl | rfl) <;> omega)
    (Seek w2 w1.heap.size (quOf key.data.toList)) (Hit w w2 (w.heap.size + 1 + 1) (w.heap.size + 1 + 1 + 1) (quOf key.data.toList))
    (seek_stays w2 _ _) (hit_stays w w2 _ _ _ _ (by omega) (by omega) (by omega) (by omega) (by omega) (by omega)) ⟨rfl, Stays.refl _ _ _⟩ ?a1 ?assign ?body ?done ?stop
  case assign =>
    intro l x W K hK
    gi_wp2
    exact hK
  case body =>
    rintro l pre x W ⟨hno, hst⟩ hgW hpre
    have hxl : x.length ≤ all.length := pieces_each 38 all.length all (Nat.le_refl _) x (hpre.subset (by simp))
    have hsz := hst.size
    obtain ⟨c2, _⟩ := box_cell ((hst.block _ (by omega) (by omega)).trans k2)
    have Hno := Lib.hid hno
    clear hno
    gi_wp2_with fail
    refine call_round ((lib_Cut1 ⟨x.toArray⟩ 61 _ hgW (bsz_lt _ _ (by omega))).mono ?_)
    rintro e w4 ⟨rfl, hb34⟩
    have hat : (⟨x.toArray⟩ : ByteArray).data.toList = x := rfl
    rw [hat]
    clear hat
    have c2' : w4.cell? ⟨w.heap.size + 1, 0, none⟩ = some (.string key) := (hb34.cell (p := ⟨w.heap.size + 1, 0, none⟩) (by show w.heap.size + 1 < _; omega)).trans c2
    have q3 := (hb34.block (w.heap.size + 1 + 1) (by omega)).trans ((hst.block _ (by omega) (by omega)).trans k3)
    have q4 := (hb34.block (w.heap.size + 1 + 1 + 1) (by omega)).trans ((hst.block _ (by omega) (by omega)).trans k4)
    obtain ⟨c3, f3⟩ := box_cell q3
    obtain ⟨c4, f4⟩ := box_cell q4
    have Q3 := Lib.hid q3
    have Q4 := Lib.hid q4
    clear c2 q3 q4
    rcases hq : (upto 61 x == key.toList) with _ | _
    · have Hq := Lib.hid (quOf_none' hq)
      gi_wp2
      exact seek_mk hst hb34 Hno.out Hq.out
    · have Hq := Lib.hid (quOf_some' hq)
      gi_wp2
      exact hit_mk hbw2 hst hb34 (by omega) (by omega) (by omega) (by omega) Q3.out Q4.out Hno.out Hq.out
  case done =>
    rintro D W hD ⟨hno, hst⟩ hK
    obtain ⟨c3, f3⟩ := box_cell ((hst.block _ (by omega) (by omega)).trans k3)
    obtain ⟨c4, f4⟩ := box_cell ((hst.block _ (by omega) (by omega)).trans k4)
    have HE := Lib.hid (ret2_mk (hst.below hbw2 (by omega) (by omega)) (by omega) (by omega) (by omega) (by omega) (by omega) ((hst.block _ (by omega) (by omega)).trans k3) ((hst.block _ (by omega) (by omega)).trans k4) hK ⟨#[]⟩ false)
    have Hno := Lib.hid hno
    clear hno hK hst
    gi_wp2
    obtain ⟨hb, hK', e4, e5⟩ := HE.out
    refine ⟨by simp, .inl ⟨_, _, rfl, run_takeDeferred hK', ?_⟩⟩
    refine ⟨.tuple #[.string ⟨#[]⟩, .bool false], ?_, ?_, hb⟩
    · simp [results, Tryd.f31, go_sem, e4, e5]
    · rw [HG.out, Hno.out]; rfl
  case stop =>
    rintro D pre W hD hpre ⟨v, hv, hbel, hsz, q4, q5⟩ hK
    have HE := Lib.hid (ret2_mk0 (D := D) hbel (by omega) (by omega) q4 q5)
    have HK := Lib.hid hK
    have Hv := Lib.hid (findSome_pre hpre hv)
    clear hv hK hbel
    gi_wp2
    obtain ⟨hb, e4, e5⟩ := HE.out
    refine ⟨by simp, .inl ⟨_, _, rfl, run_takeDeferred HK.out, ?_⟩⟩
    refine ⟨.tuple #[.string ⟨v.toArray⟩, .bool true], ?_, ?_, hb⟩
    · simp [results, Tryd.f31, go_sem, e4, e5]
    · rw [HG.out, Hv.out]; rfl
end Go.Proofs.YtoipnaoijccokaaDoor
