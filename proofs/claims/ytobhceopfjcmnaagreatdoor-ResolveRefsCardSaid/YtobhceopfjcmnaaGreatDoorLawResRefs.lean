/- The law ResolveRefs. -/
import Derived.Test.YtobhceopfjcmnaaGreatDoorResAwake
import Derived.Test.YtobhceopfjcmnaaGreatDoorRefRes3
namespace Go.Proofs.YtobhceopfjcmnaaGreatDoor
open Go.RowKit
set_option linter.unusedVariables false

set_option maxRecDepth 100000 in
set_option maxHeartbeats 1000000 in
theorem law10_ResolveRefs (u : U) (s : ByteArray) (w : World) (hg : GX w) (hu : BigU u) :
    Calls Tryz.prog 6 #[uV u, .string s] w (Ret w (.bool true)) := by
  have HB := Lib.hid (ubx_new w u)
  have HW := Lib.hid ((Below.refl w.heap.size w).alloc (Nat.le_refl _) (uObj u))
  have HG := Lib.hid hg
  obtain ⟨c0, c1, c2, c3, c4, c5⟩ := HB.out.cells
  clear hg
  go_enter Tryz.func6, Tryz.ntmps6
  go_wp2_with fail
  generalize w.alloc (.cells #[.string ⟨u.scheme.toArray⟩, .string ⟨u.host.toArray⟩, .int .i64 u.port, .string ⟨u.path.toArray⟩, .string ⟨u.query.toArray⟩, .bool u.hq] 23) = W at *
  refine (law10_few u W hu).mono ?_
  rintro e w1 ⟨rfl, hb1⟩
  have HB1 := Lib.hid (HB.out.next hb1)
  have HW1 := Lib.hid (HW.out.trans (hb1.mono HW.out.size))
  clear hb1 c0 c1 c2 c3 c4 c5
  obtain ⟨c0, c1, c2, c3, c4, c5⟩ := HB1.out.cells
  rcases hf : fewU u with _ | _
  · go_wp2_with fail
    refine (law10_works w1 (HG.out.next HW1.out)).mono ?_
    rintro e w2 ⟨rfl, hb2⟩
    have HW2 := Lib.hid (HW1.out.trans (hb2.mono HW1.out.size))
    clear hb2
    go_wp2_with fail
    go_ret
    exact ⟨rfl, HW2.out⟩
  · have HL := Lib.hid (few_lim10 hf)
    clear hf
    by_cases hs : s.size ≤ 3000
    · have hsi : ¬ ((3000 : Int) < (s.size : Int)) := by omega
      obtain ⟨l, rfl⟩ : ∃ l : Bs, s = ⟨l.toArray⟩ := ⟨s.data.toList, rfl⟩
      have hll : l.length ≤ 3000 := by rw [← bs_size] at hs; exact hs
      go_wp2_with fail
      refine (res_Ref u l w1 (HG.out.next HW1.out) HL.out (by omega)).mono ?_
      rintro e w2 ⟨rfl, hb2⟩
      generalize hrp : refB u l = rp at *
      obtain ⟨v, ec⟩ := rp
      have HRP := Lib.hid hrp
      clear hrp
      have HB2 := Lib.hid (HB1.out.next hb2)
      have HW2 := Lib.hid (HW1.out.trans (hb2.mono HW1.out.size))
      have HC2 := Lib.hid (HB2.out.next ((Below.refl w2.heap.size w2).alloc (Nat.le_refl _) (uObj v)))
      have HV2 := Lib.hid (ubx_new w2 v)
      have HX2 := Lib.hid (HW2.out.alloc (by have := HW2.out.size; omega) (uObj v))
      clear hb2 c0 c1 c2 c3 c4 c5
      obtain ⟨c0, c1, c2, c3, c4, c5⟩ := HC2.out.cells
      go_wp2_with fail
      generalize w2.alloc (.cells #[.string ⟨v.scheme.toArray⟩, .string ⟨v.host.toArray⟩, .int .i64 v.port, .string ⟨v.path.toArray⟩, .string ⟨v.query.toArray⟩, .bool v.hq] 23) = W2 at *
      refine (ref10_Ref u l W2 HL.out (by omega)).mono ?_
      rintro e w3 ⟨rfl, hb3⟩
      rw [HRP.out]
      have HV3 := Lib.hid (HV2.out.next hb3)
      have HX3 := Lib.hid (HX2.out.trans (hb3.mono HX2.out.size))
      have HU4 := Lib.hid (HV3.out.next ((Below.refl w3.heap.size w3).alloc (Nat.le_refl _) (uObj v)))
      have HV4 := Lib.hid (ubx_new w3 v)
      have HX4 := Lib.hid (HX3.out.alloc (by have := HX3.out.size; omega) (uObj v))
      clear hb3 c0 c1 c2 c3 c4 c5
      obtain ⟨c0, c1, c2, c3, c4, c5⟩ := HU4.out.cells
      obtain ⟨d0, d1, d2, d3, d4, d5⟩ := HV4.out.cells
      go_wp2_with fail
      refine (law10_works _ (HG.out.next HX4.out)).mono ?_
      rintro e w5 ⟨rfl, hb5⟩
      have HW5 := Lib.hid (HX4.out.trans (hb5.mono HX4.out.size))
      clear hb5
      go_wp2_with fail
      go_ret
      exact ⟨rfl, HW5.out⟩
    · have hsi : (3000 : Int) < (s.size : Int) := by omega
      go_wp2_with fail
      refine (law10_works w1 (HG.out.next HW1.out)).mono ?_
      rintro e w2 ⟨rfl, hb2⟩
      have HW2 := Lib.hid (HW1.out.trans (hb2.mono HW1.out.size))
      clear hb2
      go_wp2_with fail
      go_ret
      exact ⟨rfl, HW2.out⟩
end Go.Proofs.YtobhceopfjcmnaaGreatDoor
