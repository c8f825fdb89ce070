/- The walk of Source. -/
import Derived.Test.YtmkpejioinkceaaDoorLook
namespace Go.Proofs.YtmkpejioinkceaaDoor
open Go.RowKit
set_option linter.unusedVariables false

set_option maxRecDepth 100000 in
theorem vars_Source (name key : ByteArray) (has : Bool) (w : World) (hkey : key.size ≤ 140737488351232) :
    Calls Tryd.prog 15 #[.string name, .string key, .bool has] w (Ret w (.string ⟨(vsource name.data.toList key.data.toList has).toArray⟩)) := by
  rcases name_cases name.data.toList with hn | hn | hn | hn | hn | hn | hn
  · obtain rfl := name_lit hn
    have HV := Lib.hid (show vsource (⟨nHost.toArray⟩ : ByteArray).data.toList key.data.toList has = [104, 111, 115, 116] from rfl)
    have HN := Lib.hid hn
    clear hn
    have hq : ((⟨[104, 111, 115, 116].toArray⟩ : ByteArray).toList == [99, 111, 111, 107, 105, 101]) = false := by rw [Lib.toList_data]; rfl
    have hfd := fld0
    go_enter Tryd.func15, Tryd.ntmps15
    go_wp2_with fail
    refine (vars_rules _).mono ?_
    rintro e w1 ⟨b, p1, p2, p3, rfl, hR, hb1⟩
    have hl := look1_0 hR
    go_wp2
    go_ret
    rw [HV.out]
    exact ⟨ret_str (by simp), hb1⟩
  · obtain rfl := name_lit hn
    have HV := Lib.hid (show vsource (⟨nReferer.toArray⟩ : ByteArray).data.toList key.data.toList has = refererName from rfl)
    have HN := Lib.hid hn
    clear hn
    have hq : ((⟨refererName.toArray⟩ : ByteArray).toList == [99, 111, 111, 107, 105, 101]) = false := by rw [Lib.toList_data]; rfl
    have hfd := fld0
    go_enter Tryd.func15, Tryd.ntmps15
    go_wp2_with fail
    refine (vars_rules _).mono ?_
    rintro e w1 ⟨b, p1, p2, p3, rfl, hR, hb1⟩
    have hl := look1_1 hR
    go_wp2
    go_ret
    rw [HV.out]
    exact ⟨ret_str (by simp), hb1⟩
  · obtain rfl := name_lit hn
    have HV := Lib.hid (show vsource (⟨nAgent.toArray⟩ : ByteArray).data.toList key.data.toList has = agentName from rfl)
    have HN := Lib.hid hn
    clear hn
    have hq : ((⟨agentName.toArray⟩ : ByteArray).toList == [99, 111, 111, 107, 105, 101]) = false := by rw [Lib.toList_data]; rfl
    have hfd := fld0
    go_enter Tryd.func15, Tryd.ntmps15
    go_wp2_with fail
    refine (vars_rules _).mono ?_
    rintro e w1 ⟨b, p1, p2, p3, rfl, hR, hb1⟩
    have hl := look1_2 hR
    go_wp2
    go_ret
    rw [HV.out]
    exact ⟨ret_str (by simp), hb1⟩
  · obtain rfl := name_lit hn
    clear hn
    rcases has with _ | _
    · have HV := Lib.hid (show vsource (⟨nCookie.toArray⟩ : ByteArray).data.toList key.data.toList false = cookieName from rfl)
      have hq : ((⟨cookieName.toArray⟩ : ByteArray).toList == [99, 111, 111, 107, 105, 101]) = true := by rw [Lib.toList_data]; rfl
      have hfd := fld0
      go_enter Tryd.func15, Tryd.ntmps15
      go_wp2_with fail
      refine (vars_rules _).mono ?_
      rintro e w1 ⟨b, p1, p2, p3, rfl, hR, hb1⟩
      have hl := look1_3 hR
      go_wp2
      go_ret
      rw [HV.out]
      exact ⟨ret_str (by simp [cookieName]), hb1⟩
    · have HV := Lib.hid (show vsource (⟨nCookie.toArray⟩ : ByteArray).data.toList key.data.toList true = (cookieName ++ [46] ++ key.data.toList) from rfl)
      have hq : ((⟨cookieName.toArray⟩ : ByteArray).toList == [99, 111, 111, 107, 105, 101]) = true := by rw [Lib.toList_data]; rfl
      have hfd := fld0
      go_enter Tryd.func15, Tryd.ntmps15
      go_wp2_with fail
      refine (vars_rules _).mono ?_
      rintro e w1 ⟨b, p1, p2, p3, rfl, hR, hb1⟩
      have hl := look1_3 hR
      go_wp2
      go_ret
      rw [HV.out]
      exact ⟨ret_str (by simp [cookieName]), hb1⟩
  · obtain rfl := name_lit hn
    have HV := Lib.hid (show vsource (⟨nQuery.toArray⟩ : ByteArray).data.toList key.data.toList has = [] from rfl)
    have HN := Lib.hid hn
    clear hn
    have hfd := fld0
    go_enter Tryd.func15, Tryd.ntmps15
    go_wp2_with fail
    refine (vars_rules _).mono ?_
    rintro e w1 ⟨b, p1, p2, p3, rfl, hR, hb1⟩
    have hl := look1_4 hR
    go_wp2
    go_ret
    rw [HV.out]
    exact ⟨ret_str (by simp), hb1⟩
  · obtain rfl := name_lit hn
    have HV := Lib.hid (show vsource (⟨nLang.toArray⟩ : ByteArray).data.toList key.data.toList has = langName from rfl)
    have HN := Lib.hid hn
    clear hn
    have hq : ((⟨langName.toArray⟩ : ByteArray).toList == [99, 111, 111, 107, 105, 101]) = false := by rw [Lib.toList_data]; rfl
    have hfd := fld0
    go_enter Tryd.func15, Tryd.ntmps15
    go_wp2_with fail
    refine (vars_rules _).mono ?_
    rintro e w1 ⟨b, p1, p2, p3, rfl, hR, hb1⟩
    have hl := look1_5 hR
    go_wp2
    go_ret
    rw [HV.out]
    exact ⟨ret_str (by simp), hb1⟩
  · have HV := Lib.hid (show vsource name.data.toList key.data.toList has = [] by unfold vsource; rw [vsrc_none hn]; rfl)
    have HN := Lib.hid hn
    clear hn
    have hfd := fld0
    go_enter Tryd.func15, Tryd.ntmps15
    go_wp2_with fail
    refine (vars_rules _).mono ?_
    rintro e w1 ⟨b, p1, p2, p3, rfl, hR, hb1⟩
    have hl := look1_6 hR HN.out
    go_wp2
    go_ret
    rw [HV.out]
    exact ⟨ret_str (by simp), hb1⟩
end Go.Proofs.YtmkpejioinkceaaDoor
