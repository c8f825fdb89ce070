/- The law's own functions of the family: base, means, works, few. -/
import Derived.Test.YtobhceopfjcmnaaGreatDoorRes
import Derived.Test.YtobhceopfjcmnaaGreatDoorLawLong
namespace Go.Proofs.YtobhceopfjcmnaaGreatDoor
open Go.RowKit
set_option linter.unusedVariables false

/-- The chapter's base. -/
def baseU : U := ⟨[104, 116, 116, 112], [97], 0, [47, 98, 47, 99, 47, 100, 59, 112], [113], true⟩
theorem base_lim : LimU baseU := ⟨by decide, by decide, by decide, by decide⟩
theorem law10_base (w : World) : Calls Tryz.prog 82 #[] w (Ret w (uV baseU)) := by
  have HB := Lib.hid (ubx_new w baseU)
  have HW := Lib.hid ((Below.refl w.heap.size w).alloc (Nat.le_refl _) (uObj baseU))
  go_enter Tryz.func82, Tryz.ntmps82
  go_wp2_with fail
  obtain ⟨k0, k1, k2, k3, k4, k5⟩ := HB.out.cells
  unfold baseU at k0 k1 k2 k3 k4 k5 ⊢
  refine bodyPost_ret (v := uV ⟨[104, 116, 116, 112], [97], 0, [47, 98, 47, 99, 47, 100, 59, 112], [113], true⟩) ?_ rfl ⟨rfl, HW.out⟩
  simp [results, Tryz.f82, go_sem, k0, k1, k2, k3, k4, k5]

set_option maxRecDepth 100000 in
theorem law10_means (r want : Bs) (v : U) (w : World) (hg : GX w) (hr : r.length ≤ 1000000) (hv : refB baseU r = (v, 0)) (hp : putB v = want) (hw : want ≠ []) (hok : okB v = true) :
    Calls Tryz.prog 34 #[.string ⟨r.toArray⟩, .string ⟨want.toArray⟩] w (Ret w (.bool true)) := by
  have HG := Lib.hid hg
  have HV := Lib.hid hv
  have HP := Lib.hid hp
  have HL := Lib.hid (limU_ok hok)
  obtain ⟨c, q, rfl⟩ : ∃ c q, want = c :: q := by cases want with | nil => exact (hw rfl).elim | cons c q => exact ⟨c, q, rfl⟩
  clear hg hv hp hw hok
  go_enter Tryz.func34, Tryz.ntmps34
  go_wp2_with fail
  refine (law10_base w).mono ?_
  rintro e w1 ⟨rfl, hb1⟩
  have HB1 := Lib.hid hb1
  clear hb1
  go_wp2_with fail
  refine (res_Ref baseU r w1 (HG.out.next HB1.out) base_lim hr).mono ?_
  rintro e w2 ⟨rfl, hb2⟩
  rw [HV.out]
  have HW2 := Lib.hid ((HB1.out.trans (hb2.mono HB1.out.size)).alloc (by have h1 := HB1.out.size; have h2 := hb2.size; omega) (uObj v))
  have HB2 := Lib.hid (ubx_new w2 v)
  clear hb2
  obtain ⟨c0, c1, c2, c3, c4, c5⟩ := HB2.out.cells
  go_wp2_with fail
  refine (uri_Put v _ (HG.out.next HW2.out) HL.out).mono ?_
  rintro e w3 ⟨rfl, hb3⟩
  rw [HP.out]
  have HW3 := Lib.hid (HW2.out.trans (hb3.mono HW2.out.size))
  clear hb3 c0 c1 c2 c3 c4 c5
  go_wp2_with fail
  go_ret
  exact ⟨rfl, HW3.out⟩
set_option maxRecDepth 100000 in
theorem law10_meansNo (r : Bs) (w : World) (hg : GX w) (hr : r.length ≤ 1000000) (hv : refB baseU r = (noU, 4)) :
    Calls Tryz.prog 34 #[.string ⟨r.toArray⟩, .string ⟨#[]⟩] w (Ret w (.bool true)) := by
  have HG := Lib.hid hg
  have HV := Lib.hid hv
  clear hg hv
  go_enter Tryz.func34, Tryz.ntmps34
  go_wp2_with fail
  refine (law10_base w).mono ?_
  rintro e w1 ⟨rfl, hb1⟩
  have HB1 := Lib.hid hb1
  clear hb1
  go_wp2_with fail
  refine (res_Ref baseU r w1 (HG.out.next HB1.out) base_lim hr).mono ?_
  rintro e w2 ⟨rfl, hb2⟩
  rw [HV.out]
  have HW2 := Lib.hid ((HB1.out.trans (hb2.mono HB1.out.size)).alloc (by have h1 := HB1.out.size; have h2 := hb2.size; omega) (uObj noU))
  have HB2 := Lib.hid (ubx_new w2 noU)
  clear hb2
  obtain ⟨c0, c1, c2, c3, c4, c5⟩ := HB2.out.cells
  unfold noU at *
  go_wp2_with fail
  go_ret
  exact ⟨rfl, HW2.out⟩

theorem means1 : refB baseU [103] = (⟨http, [97], 0, [47, 98, 47, 99, 47, 103], [], false⟩, 0) := by kernel_rfl
theorem means2 : refB baseU [46, 46, 47, 103] = (⟨http, [97], 0, [47, 98, 47, 103], [], false⟩, 0) := by kernel_rfl
theorem means3 : refB baseU [63, 121] = (⟨http, [97], 0, [47, 98, 47, 99, 47, 100, 59, 112], [121], true⟩, 0) := by kernel_rfl
theorem means4 : refB baseU [103, 58, 104] = (noU, 4) := by kernel_rfl
set_option maxRecDepth 100000 in
theorem law10_works (w : World) (hg : GX w) : Calls Tryz.prog 31 #[] w (Ret w (.bool true)) := by
  have HG := Lib.hid hg
  clear hg
  go_enter Tryz.func31, Tryz.ntmps31
  go_wp2_with fail
  refine (law10_means [103] _ _ w HG.out (by decide) means1 (by decide +kernel) (by decide) (by decide +kernel)).mono ?_
  rintro e w1 ⟨rfl, hb1⟩
  have HB1 := Lib.hid hb1
  clear hb1
  go_wp2_with fail
  refine (law10_means [46, 46, 47, 103] _ _ w1 (HG.out.next HB1.out) (by decide) means2 (by decide +kernel) (by decide) (by decide +kernel)).mono ?_
  rintro e w2 ⟨rfl, hb2⟩
  have HB2 := Lib.hid (HB1.out.trans (hb2.mono HB1.out.size))
  clear hb2
  go_wp2_with fail
  refine (law10_means [63, 121] _ _ w2 (HG.out.next HB2.out) (by decide) means3 (by decide +kernel) (by decide) (by decide +kernel)).mono ?_
  rintro e w3 ⟨rfl, hb3⟩
  have HB3 := Lib.hid (HB2.out.trans (hb3.mono HB2.out.size))
  clear hb3
  go_wp2_with fail
  refine (law10_meansNo [103, 58, 104] w3 (HG.out.next HB3.out) (by decide) means4).mono ?_
  rintro e w4 ⟨rfl, hb4⟩
  have HB4 := Lib.hid (HB3.out.trans (hb4.mono HB3.out.size))
  clear hb4
  go_wp2_with fail
  go_ret
  exact ⟨rfl, HB4.out⟩

/-- May an address be gone through? -/
def fewU (u : U) : Bool := decide (u.scheme.length ≤ 3000) && decide (u.host.length ≤ 3000) && decide (u.path.length ≤ 3000) && decide (u.query.length ≤ 3000)
theorem few_lim10 {u : U} (h : fewU u = true) : LimU u := by
  unfold fewU at h
  rw [Bool.and_eq_true, Bool.and_eq_true, Bool.and_eq_true, decide_eq_true_eq, decide_eq_true_eq, decide_eq_true_eq, decide_eq_true_eq] at h
  exact ⟨by omega, by omega, by omega, by omega⟩
set_option maxRecDepth 100000 in
theorem law10_few (u : U) (w : World) (hu : BigU u) : Calls Tryz.prog 30 #[uV u] w (Ret w (.bool (fewU u))) := by
  have HB := Lib.hid (ubx_new w u)
  have HW := Lib.hid ((Below.refl w.heap.size w).alloc (Nat.le_refl _) (uObj u))
  have HE := Lib.hid (show fewU u = (decide (u.scheme.length ≤ 3000) && decide (u.host.length ≤ 3000) && decide (u.path.length ≤ 3000) && decide (u.query.length ≤ 3000)) from rfl)
  obtain ⟨l1, l2, l3, l4⟩ := hu
  obtain ⟨c0, c1, c2, c3, c4, c5⟩ := HB.out.cells
  by_cases h1 : u.scheme.length ≤ 3000
  · have i1 : (u.scheme.length : Int) ≤ 3000 := by omega
    by_cases h2 : u.host.length ≤ 3000
    · have i2 : (u.host.length : Int) ≤ 3000 := by omega
      by_cases h3 : u.path.length ≤ 3000
      · have i3 : (u.path.length : Int) ≤ 3000 := by omega
        by_cases h4 : u.query.length ≤ 3000
        · have i4 : (u.query.length : Int) ≤ 3000 := by omega
          have HF := Lib.hid (show fewU u = true by rw [HE.out, decide_eq_true h1, decide_eq_true h2, decide_eq_true h3, decide_eq_true h4]; rfl)
          clear h1 h2 h3 h4
          go_enter Tryz.func30, Tryz.ntmps30
          go_wp2_with fail
          go_ret
          exact ⟨by rw [HF.out]; rfl, HW.out⟩
        · have i4 : ¬ ((u.query.length : Int) ≤ 3000) := by omega
          have HF := Lib.hid (show fewU u = false by rw [HE.out, decide_eq_false h4, Bool.and_false])
          clear h1 h2 h3 h4
          go_enter Tryz.func30, Tryz.ntmps30
          go_wp2_with fail
          go_ret
          exact ⟨by rw [HF.out]; rfl, HW.out⟩
      · have i3 : ¬ ((u.path.length : Int) ≤ 3000) := by omega
        have HF := Lib.hid (show fewU u = false by rw [HE.out, decide_eq_false h3, Bool.and_false, Bool.false_and])
        clear h1 h2 h3
        go_enter Tryz.func30, Tryz.ntmps30
        go_wp2_with fail
        go_ret
        exact ⟨by rw [HF.out]; rfl, HW.out⟩
    · have i2 : ¬ ((u.host.length : Int) ≤ 3000) := by omega
      have HF := Lib.hid (show fewU u = false by rw [HE.out, decide_eq_false h2, Bool.and_false, Bool.false_and, Bool.false_and])
      clear h1 h2
      go_enter Tryz.func30, Tryz.ntmps30
      go_wp2_with fail
      go_ret
      exact ⟨by rw [HF.out]; rfl, HW.out⟩
  · have i1 : ¬ ((u.scheme.length : Int) ≤ 3000) := by omega
    have HF := Lib.hid (show fewU u = false by rw [HE.out, decide_eq_false h1, Bool.false_and, Bool.false_and, Bool.false_and])
    clear h1
    go_enter Tryz.func30, Tryz.ntmps30
    go_wp2_with fail
    go_ret
    exact ⟨by rw [HF.out]; rfl, HW.out⟩
end Go.Proofs.YtobhceopfjcmnaaGreatDoor
