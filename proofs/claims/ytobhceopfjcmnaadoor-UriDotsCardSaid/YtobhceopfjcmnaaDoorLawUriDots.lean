/- The law UriDots. -/
import Derived.Test.YtobhceopfjcmnaaDoorUriAwake
import Derived.Test.YtobhceopfjcmnaaDoorRefDotsW
namespace Go.Proofs.YtobhceopfjcmnaaDoor
open Go.RowKit
set_option linter.unusedVariables false

set_option maxRecDepth 100000 in
theorem law09_UriDots (s : ByteArray) (w : World) (hg : GX w) :
    Calls Tryd.prog 4 #[.string s] w (Ret w (.bool true)) := by
  have HG := Lib.hid hg
  clear hg
  by_cases hl : s.size ≤ 3000
  · have hli : ¬ ((3000 : Int) < (s.size : Int)) := by omega
    obtain ⟨l, rfl⟩ : ∃ l : Bs, s = ⟨l.toArray⟩ := ⟨s.data.toList, rfl⟩
    have hll : l.length ≤ 3000 := by rw [← bs_size] at hl; exact hl
    have H1 := Lib.hid (uri_Dots l w HG.out.good (by omega))
    generalize hD : dotsB l = D at *
    have HD := Lib.hid hD
    clear hD
    go_enter Tryd.func4, Tryd.ntmps4
    go_wp2_with fail
    refine H1.out.mono ?_
    rintro e w1 ⟨rfl, hb1⟩
    have HB1 := Lib.hid hb1
    clear hb1
    go_wp2_with fail
    refine (ref09_Dots l w1 (by omega)).mono ?_
    rintro e w2 ⟨rfl, rfl⟩
    rw [HD.out]
    go_wp2_with fail
    refine (law09_awake w1 (HG.out.next HB1.out)).mono ?_
    rintro e w2 ⟨rfl, hb2⟩
    have HB2 := Lib.hid (HB1.out.trans (hb2.mono HB1.out.size))
    clear hb2
    go_wp2_with fail
    go_ret
    exact ⟨rfl, HB2.out⟩
  · have hli : (3000 : Int) < (s.size : Int) := by omega
    go_enter Tryd.func4, Tryd.ntmps4
    go_wp2_with fail
    refine (law09_awake w HG.out).mono ?_
    rintro e w1 ⟨rfl, hb1⟩
    have HB1 := Lib.hid hb1
    clear hb1
    go_wp2_with fail
    go_ret
    exact ⟨rfl, HB1.out⟩
end Go.Proofs.YtobhceopfjcmnaaDoor
