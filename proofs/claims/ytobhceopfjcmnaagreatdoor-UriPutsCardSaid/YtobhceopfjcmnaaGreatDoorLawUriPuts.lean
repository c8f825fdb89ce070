/- The law UriPuts. -/
import Derived.Test.YtobhceopfjcmnaaGreatDoorRefNorm
import Derived.Test.YtobhceopfjcmnaaGreatDoorLawLong
import Derived.Deep.RegionHeld3
namespace Go.Proofs.YtobhceopfjcmnaaGreatDoor
open Go.RowKit
set_option linter.unusedVariables false

set_option maxRecDepth 100000 in
set_option maxHeartbeats 2000000 in
theorem law09_UriPuts (u : U) (w : World) (hg : GX w) (hu : BigU u) :
    Calls Tryz.prog 3 #[uV u] w (Ret w (.bool true)) := by
  have HB := Lib.hid (ubx_new w u)
  have HW := Lib.hid ((Below.refl w.heap.size w).alloc (Nat.le_refl _) (uObj u))
  have HG := Lib.hid hg
  have hsix := HB.out.six
  obtain ⟨c0, c1, c2, c3, c4, c5⟩ := hsix
  clear hg
  go_enter Tryz.func3, Tryz.ntmps3
  go_wp2_with fail
  generalize w.alloc (.cells #[.string ⟨u.scheme.toArray⟩, .string ⟨u.host.toArray⟩, .int .i64 u.port, .string ⟨u.path.toArray⟩, .string ⟨u.query.toArray⟩, .bool u.hq] 23) = W at *
  refine (law09_long u W hu).mono ?_
  rintro e w1 ⟨rfl, hb1⟩
  have HB1 := Lib.hid (HB.out.next hb1)
  have HW1 := Lib.hid (HW.out.trans (hb1.mono HW.out.size))
  clear hb1 c0 c1 c2 c3 c4 c5
  obtain ⟨c0, c1, c2, c3, c4, c5⟩ := HB1.out.six
  rcases hl : longU u with _ | _
  · have HL := Lib.hid (not_long hl)
    go_wp2_with fail
    refine (uri_Check u w1 (HG.out.next HW1.out) HL.out).mono ?_
    rintro e w2 ⟨rfl, hb2⟩
    generalize hck : checkB u = ck at *
    have HCK := Lib.hid hck
    clear hck
    have HB2 := Lib.hid (HB1.out.next hb2)
    have HW2 := Lib.hid (HW1.out.trans (hb2.mono HW1.out.size))
    clear hb2 c0 c1 c2 c3 c4 c5
    have HSc := Lib.hid (show SixU w.heap.size u w2.drew from HB2.out.six)
    have HBc := Lib.hid (show UBx w2.drew w.heap.size u from HB2.out)
    have HWc := Lib.hid (show Below w.heap.size w w2.drew from HW2.out.drew)
    go_wp2_with fail
    go_region_held3 (SixU w.heap.size u) (with_reducible exact HSc.out)
      (first
        | (go_at_call 17; refine (ref09_Check u _ HL.out).mono ?_; rintro e w3 ⟨rfl, hb3⟩; rw [HCK.out]; have HBc := Lib.hid (HBc.out.next hb3); have HWc := Lib.hid (HWc.out.trans (hb3.mono HWc.out.size)); have HSc := Lib.hid HBc.out.six; clear hb3)
        | (go_at_call 18; refine (uri_Put u _ (HG.out.next HWc.out) HL.out).mono ?_; rintro e w3 ⟨rfl, hb3⟩; have HBc := Lib.hid (HBc.out.next hb3); have HWc := Lib.hid (HWc.out.trans (hb3.mono HWc.out.size)); have HSc := Lib.hid HBc.out.six; clear hb3)
        | (go_at_call 19; refine (ref09_Put u _ HL.out).mono ?_; rintro e w3 ⟨rfl, hb3⟩; have HBc := Lib.hid (HBc.out.next hb3); have HWc := Lib.hid (HWc.out.trans (hb3.mono HWc.out.size)); have HSc := Lib.hid HBc.out.six; clear hb3)
        | (go_at_call 20; refine (uri_Normal u _ (HG.out.next HWc.out) HL.out).mono ?_; rintro e w3 ⟨rfl, hb3⟩; have HBc := Lib.hid (HBc.out.next hb3); have HWc := Lib.hid (HWc.out.trans (hb3.mono HWc.out.size)); have HSc := Lib.hid HBc.out.six; clear hb3)
        | (go_at_call 21; refine (ref09_Normal u _ HL.out).mono ?_; rintro e w3 ⟨rfl, hb3⟩; have HBc := Lib.hid (HBc.out.next hb3); have HWc := Lib.hid (HWc.out.trans (hb3.mono HWc.out.size)); have HSc := Lib.hid HBc.out.six; clear hb3)
        | (go_at_call 15; refine (law09_awake _ (HG.out.next HWc.out)).mono ?_; rintro e w3 ⟨rfl, hb3⟩; have HBc := Lib.hid (HBc.out.next hb3); have HWc := Lib.hid (HWc.out.trans (hb3.mono HWc.out.size)); have HSc := Lib.hid HBc.out.six; clear hb3))
    go_wp2_with fail
    go_ret
    exact ⟨rfl, HWc.out⟩
  · go_wp2_with fail
    refine (law09_awake w1 (HG.out.next HW1.out)).mono ?_
    rintro e w2 ⟨rfl, hb2⟩
    have HW2 := Lib.hid (HW1.out.trans (hb2.mono HW1.out.size))
    clear hb2
    go_wp2_with fail
    go_ret
    exact ⟨rfl, HW2.out⟩
end Go.Proofs.YtobhceopfjcmnaaGreatDoor
