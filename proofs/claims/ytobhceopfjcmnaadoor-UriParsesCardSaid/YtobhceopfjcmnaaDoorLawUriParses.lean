/- The law UriParses. -/
import Derived.Test.YtobhceopfjcmnaaDoorUriAwake
import Derived.Test.YtobhceopfjcmnaaDoorRefUriP
namespace Go.Proofs.YtobhceopfjcmnaaDoor
open Go.RowKit
set_option linter.unusedVariables false

set_option maxRecDepth 100000 in
theorem law09_UriParses (s : ByteArray) (w : World) (hg : GX w) :
    Calls Tryd.prog 3 #[.string s] w (Ret w (.bool true)) := by
  have HG := Lib.hid hg
  clear hg
  by_cases hl : s.size ≤ 5000
  · have hli : ¬ ((5000 : Int) < (s.size : Int)) := by omega
    obtain ⟨u, c, hp⟩ : ∃ u c, parseB s.data.toList = (u, c) := ⟨_, _, rfl⟩
    have HP := Lib.hid hp
    clear hp
    go_enter Tryd.func3, Tryd.ntmps3
    go_wp2_with fail
    refine (uri_Parse s w HG.out (by omega)).mono ?_
    rintro e w1 ⟨rfl, hb1⟩
    rw [HP.out]
    have HB1 := Lib.hid (ubx_new w1 u)
    have HW1 := Lib.hid (hb1.alloc (by have := hb1.size; omega) (uObj u))
    clear hb1
    go_wp2_with fail
    generalize w1.alloc (.cells #[.string ⟨u.scheme.toArray⟩, .string ⟨u.host.toArray⟩, .int .i64 u.port, .string ⟨u.path.toArray⟩, .string ⟨u.query.toArray⟩, .bool u.hq] 24) = W1 at *
    refine (ref09_Parse s W1 (by omega)).mono ?_
    rintro e w2 ⟨rfl, hb2⟩
    rw [HP.out]
    have HC2 := Lib.hid (HB1.out.next hb2)
    have HW2 := Lib.hid (HW1.out.trans (hb2.mono HW1.out.size))
    clear hb2
    have HB3 := Lib.hid (ubx_new w2 u)
    have HC3 := Lib.hid (HC2.out.next ((Below.refl w2.heap.size w2).alloc (Nat.le_refl _) (uObj u)))
    have HW3 := Lib.hid (HW2.out.alloc (by have := HW2.out.size; omega) (uObj u))
    obtain ⟨c0, c1, c2, c3, c4, c5⟩ := HC3.out.cells
    obtain ⟨d0, d1, d2, d3, d4, d5⟩ := HB3.out.cells
    go_wp2_with fail
    refine (law09_awake _ (HG.out.next HW3.out)).mono ?_
    rintro e w4 ⟨rfl, hb4⟩
    have HW4 := Lib.hid (HW3.out.trans (hb4.mono HW3.out.size))
    clear hb4
    go_wp2_with fail
    go_ret
    exact ⟨rfl, HW4.out⟩
  · have hli : (5000 : Int) < (s.size : Int) := by omega
    go_enter Tryd.func3, Tryd.ntmps3
    go_wp2_with fail
    refine (law09_awake w HG.out).mono ?_
    rintro e w1 ⟨rfl, hb1⟩
    have HB1 := Lib.hid hb1
    clear hb1
    go_wp2_with fail
    go_ret
    exact ⟨rfl, HB1.out⟩
end Go.Proofs.YtobhceopfjcmnaaDoor
