/- The law KeyOf: the key of any address for any method, and whether that is unsafe, are the document's. -/
import Derived.Test.YtmkpejioinkceaaGreatDoorKeyAwake
import Derived.Test.YtmkpejioinkceaaGreatDoorRefKey
import Derived.Test.YtmkpejioinkceaaGreatDoorKeyLong
import Derived.Deep.RegionHeld3
namespace Go.Proofs.YtmkpejioinkceaaGreatDoor
open Go.RowKit
set_option linter.unusedVariables false

set_option maxRecDepth 100000 in
set_option maxHeartbeats 2000000 in
theorem law17_KeyOf (m : Bs) (u : U) (w : World) (hg : GX w) (hu : BigU u) :
    Calls Tryz.prog 3 #[.string ⟨m.toArray⟩, uV u] w (Ret w (.bool true)) := by
  have HB := Lib.hid (ubx_new w u)
  have HW := Lib.hid ((Below.refl w.heap.size w).alloc (Nat.le_refl _) (uObj u))
  have HG := Lib.hid hg
  obtain ⟨c0, c1, c2, c3, c4, c5⟩ := HB.out.cells
  clear hg
  go_enter Tryz.func3, Tryz.ntmps3
  go_wp2_with fail
  generalize w.alloc (.cells #[.string ⟨u.scheme.toArray⟩, .string ⟨u.host.toArray⟩, .int .i64 u.port, .string ⟨u.path.toArray⟩, .string ⟨u.query.toArray⟩, .bool u.hq] 23) = W at *
  refine (law17_long u W hu).mono ?_
  rintro e w1 ⟨rfl, hb1⟩
  have HB1 := Lib.hid (HB.out.next hb1)
  have HW1 := Lib.hid (HW.out.trans (hb1.mono HW.out.size))
  clear hb1 c0 c1 c2 c3 c4 c5
  rcases hl : longU u with _ | _
  · have HL := Lib.hid (not_long hl)
    have HSc := Lib.hid (show SixU w.heap.size u w1.drew from HB1.out.six)
    have HBc := Lib.hid (show UBx w1.drew w.heap.size u from HB1.out)
    have HWc := Lib.hid (show Below w.heap.size w w1.drew from HW1.out.drew)
    obtain ⟨kk, hkk⟩ : ∃ kk, keyOfB m u = kk := ⟨_, rfl⟩
    have HKK := Lib.hid hkk
    obtain ⟨ub, hub⟩ : ∃ ub, unsafeB m = ub := ⟨_, rfl⟩
    have HUB := Lib.hid hub
    clear hkk hub
    go_wp2_with fail
    go_region_held3 (SixU w.heap.size u) (with_reducible exact HSc.out)
      (first
        | (go_at_call 10; (with_reducible refine (key_Of m u _ (HG.out.next HWc.out) HL.out).mono ?_); rintro e w3 ⟨rfl, hb3⟩; rw [HKK.out]; have HBc := Lib.hid (HBc.out.next hb3); have HWc := Lib.hid (HWc.out.trans (hb3.mono HWc.out.size)); have HSc := Lib.hid HBc.out.six; clear hb3)
        | (go_at_call 11; (with_reducible refine (ref17_Of m u _ HL.out).mono ?_); rintro e w3 ⟨rfl, hb3⟩; rw [HKK.out]; have HBc := Lib.hid (HBc.out.next hb3); have HWc := Lib.hid (HWc.out.trans (hb3.mono HWc.out.size)); have HSc := Lib.hid HBc.out.six; clear hb3)
        | (go_at_call 12; (with_reducible refine (key_Unsafe m _).mono ?_); rintro e w3 ⟨rfl, hb3⟩; rw [HUB.out]; have HBc := Lib.hid (HBc.out.next hb3); have HWc := Lib.hid (HWc.out.trans (hb3.mono HWc.out.size)); have HSc := Lib.hid HBc.out.six; clear hb3)
        | (go_at_call 13; (with_reducible refine (ref17_Unsafe m _).mono ?_); rintro e w3 ⟨rfl, hb3⟩; rw [HUB.out]; have HBc := Lib.hid (HBc.out.next hb3); have HWc := Lib.hid (HWc.out.trans (hb3.mono HWc.out.size)); have HSc := Lib.hid HBc.out.six; clear hb3)
        | (go_at_call 9; (with_reducible refine (law17_awake _ (HG.out.next HWc.out)).mono ?_); rintro e w3 ⟨rfl, hb3⟩; have HBc := Lib.hid (HBc.out.next hb3); have HWc := Lib.hid (HWc.out.trans (hb3.mono HWc.out.size)); have HSc := Lib.hid HBc.out.six; clear hb3))
    all_goals
      go_wp2_with fail
      go_ret
      exact ⟨rfl, HWc.out⟩
  · go_wp2_with fail
    refine (law17_awake w1 (HG.out.next HW1.out)).mono ?_
    rintro e w2 ⟨rfl, hb2⟩
    have HW2 := Lib.hid (HW1.out.trans (hb2.mono HW1.out.size))
    clear hb2
    go_wp2_with fail
    go_ret
    exact ⟨rfl, HW2.out⟩
end Go.Proofs.YtmkpejioinkceaaGreatDoor
