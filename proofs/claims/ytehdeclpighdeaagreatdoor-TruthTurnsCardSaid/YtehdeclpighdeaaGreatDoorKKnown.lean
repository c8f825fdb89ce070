/- The walk of Known. -/
import Derived.Test.YtehdeclpighdeaaGreatDoorKLook
namespace Go.Proofs.YtehdeclpighdeaaGreatDoor
open Go.RowKit
set_option linter.unusedVariables false
set_option maxRecDepth 100000 in
theorem vars_Known (name : ByteArray) (w : World) : Calls Tryz.prog 131 #[.string name] w (Ret w (.bool (vknown name.data.toList))) := by
  rcases name_cases name.data.toList with hn | hn | hn | hn | hn | hn | hn
  · obtain rfl := name_lit hn
    have HV := Lib.hid (show vknown (⟨nHost.toArray⟩ : ByteArray).data.toList = true from rfl)
    clear hn
    go_enter Tryz.func131, Tryz.ntmps131
    go_wp2_with fail
    refine (vars_rules _).mono ?_
    rintro e w1 ⟨b, p1, p2, p3, rfl, hR, hb1⟩
    have hl := look2_0 hR
    go_wp2
    go_ret
    rw [HV.out]
    exact ⟨rfl, hb1.alloc hb1.size _⟩
  · obtain rfl := name_lit hn
    have HV := Lib.hid (show vknown (⟨nReferer.toArray⟩ : ByteArray).data.toList = true from rfl)
    clear hn
    go_enter Tryz.func131, Tryz.ntmps131
    go_wp2_with fail
    refine (vars_rules _).mono ?_
    rintro e w1 ⟨b, p1, p2, p3, rfl, hR, hb1⟩
    have hl := look2_1 hR
    go_wp2
    go_ret
    rw [HV.out]
    exact ⟨rfl, hb1.alloc hb1.size _⟩
  · obtain rfl := name_lit hn
    have HV := Lib.hid (show vknown (⟨nAgent.toArray⟩ : ByteArray).data.toList = true from rfl)
    clear hn
    go_enter Tryz.func131, Tryz.ntmps131
    go_wp2_with fail
    refine (vars_rules _).mono ?_
    rintro e w1 ⟨b, p1, p2, p3, rfl, hR, hb1⟩
    have hl := look2_2 hR
    go_wp2
    go_ret
    rw [HV.out]
    exact ⟨rfl, hb1.alloc hb1.size _⟩
  · obtain rfl := name_lit hn
    have HV := Lib.hid (show vknown (⟨nCookie.toArray⟩ : ByteArray).data.toList = true from rfl)
    clear hn
    go_enter Tryz.func131, Tryz.ntmps131
    go_wp2_with fail
    refine (vars_rules _).mono ?_
    rintro e w1 ⟨b, p1, p2, p3, rfl, hR, hb1⟩
    have hl := look2_3 hR
    go_wp2
    go_ret
    rw [HV.out]
    exact ⟨rfl, hb1.alloc hb1.size _⟩
  · obtain rfl := name_lit hn
    have HV := Lib.hid (show vknown (⟨nQuery.toArray⟩ : ByteArray).data.toList = true from rfl)
    clear hn
    go_enter Tryz.func131, Tryz.ntmps131
    go_wp2_with fail
    refine (vars_rules _).mono ?_
    rintro e w1 ⟨b, p1, p2, p3, rfl, hR, hb1⟩
    have hl := look2_4 hR
    go_wp2
    go_ret
    rw [HV.out]
    exact ⟨rfl, hb1.alloc hb1.size _⟩
  · obtain rfl := name_lit hn
    have HV := Lib.hid (show vknown (⟨nLang.toArray⟩ : ByteArray).data.toList = true from rfl)
    clear hn
    go_enter Tryz.func131, Tryz.ntmps131
    go_wp2_with fail
    refine (vars_rules _).mono ?_
    rintro e w1 ⟨b, p1, p2, p3, rfl, hR, hb1⟩
    have hl := look2_5 hR
    go_wp2
    go_ret
    rw [HV.out]
    exact ⟨rfl, hb1.alloc hb1.size _⟩
  · have HV := Lib.hid hn
    clear hn
    go_enter Tryz.func131, Tryz.ntmps131
    go_wp2_with fail
    refine (vars_rules _).mono ?_
    rintro e w1 ⟨b, p1, p2, p3, rfl, hR, hb1⟩
    have hl := look2_6 hR HV.out
    go_wp2
    go_ret
    rw [HV.out]
    exact ⟨rfl, hb1.alloc hb1.size _⟩
end Go.Proofs.YtehdeclpighdeaaGreatDoor
