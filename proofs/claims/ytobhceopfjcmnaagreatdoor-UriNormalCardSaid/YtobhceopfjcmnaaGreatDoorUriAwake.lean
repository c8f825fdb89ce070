/- The law's own functions of the family: is, no, awake. -/
import Derived.Test.YtobhceopfjcmnaaGreatDoorUriParse
import Derived.Test.YtobhceopfjcmnaaGreatDoorUriDotsW
import Derived.Test.YtobhceopfjcmnaaGreatDoorUriCheckW
namespace Go.Proofs.YtobhceopfjcmnaaGreatDoor
open Go.RowKit
set_option linter.unusedVariables false

/-- The block of a URI's box. -/
abbrev uObj (u : U) : Obj := .cells #[.string ⟨u.scheme.toArray⟩, .string ⟨u.host.toArray⟩, .int .i64 u.port, .string ⟨u.path.toArray⟩, .string ⟨u.query.toArray⟩, .bool u.hq] 23
theorem text_len {u : U} (h : okB u = true) : (textB u).length ≤ 1024 := by
  unfold okB at h
  rw [Bool.and_eq_true, decide_eq_true_eq] at h
  exact h.2

set_option maxRecDepth 100000 in
theorem law09_is (u : U) (w : World) (hg : GX w) (hok : okB u = true) :
    Calls Tryz.prog 25 #[.string ⟨(textB u).toArray⟩, uV u] w (Ret w (.bool true)) := by
  have HT := Lib.hid (parse_text hok)
  have HL := Lib.hid (text_len hok)
  have HK := Lib.hid (limU_ok hok)
  have HE := Lib.hid (show putB u = textB u by unfold putB; rw [hok]; rfl)
  have HB := Lib.hid (ubx_new w u)
  have HW := Lib.hid ((Below.refl w.heap.size w).alloc (Nat.le_refl _) (uObj u))
  have HG := Lib.hid hg
  clear hg hok
  generalize hs : textB u = s at *
  go_enter Tryz.func25, Tryz.ntmps25
  go_wp2_with fail
  generalize w.alloc (.cells #[.string ⟨u.scheme.toArray⟩, .string ⟨u.host.toArray⟩, .int .i64 u.port, .string ⟨u.path.toArray⟩, .string ⟨u.query.toArray⟩, .bool u.hq] 23) = W at *
  refine (uri_Parse ⟨s.toArray⟩ W (HG.out.next HW.out) (by rw [← bs_size]; have := HL.out; simp; omega)).mono ?_
  rintro e w1 ⟨rfl, hb1⟩
  have hp : parseB (⟨s.toArray⟩ : ByteArray).data.toList = (u, 0) := HT.out
  rw [hp]
  have HB1 := Lib.hid (HB.out.next hb1)
  have HW1 := Lib.hid (HW.out.trans (hb1.mono HW.out.size))
  clear hb1 hp
  have HB2 := Lib.hid (ubx_new w1 u)
  have HC2 := Lib.hid (HB1.out.next ((Below.refl w1.heap.size w1).alloc (Nat.le_refl _) (uObj u)))
  have HW2 := Lib.hid (HW1.out.alloc (by have := HW1.out.size; omega) (uObj u))
  obtain ⟨c0, c1, c2, c3, c4, c5⟩ := HC2.out.cells
  obtain ⟨d0, d1, d2, d3, d4, d5⟩ := HB2.out.cells
  go_wp2_with fail
  refine (uri_Put u _ (HG.out.next HW2.out) HK.out).mono ?_
  rintro e w2 ⟨rfl, hb2⟩
  have HW3 := Lib.hid (HW2.out.trans (hb2.mono HW2.out.size))
  rw [HE.out]
  clear hb2
  go_wp2_with fail
  go_ret
  exact ⟨rfl, HW3.out⟩

set_option maxRecDepth 100000 in
theorem law09_no (s : Bs) (w : World) (hg : GX w) (hp : parseB s = (noU, 4)) (hl : s.length ≤ 1000) :
    Calls Tryz.prog 26 #[.string ⟨s.toArray⟩] w (Ret w (.bool true)) := by
  have HT := Lib.hid hp
  have HG := Lib.hid hg
  clear hg hp
  go_enter Tryz.func26, Tryz.ntmps26
  go_wp2_with fail
  refine (uri_Parse ⟨s.toArray⟩ w HG.out (by rw [← bs_size]; simp; omega)).mono ?_
  rintro e w1 ⟨rfl, hb1⟩
  have hp : parseB (⟨s.toArray⟩ : ByteArray).data.toList = (noU, 4) := HT.out
  rw [hp]
  have HB2 := Lib.hid (ubx_new w1 noU)
  have HW2 := Lib.hid (hb1.alloc (by have := hb1.size; omega) (uObj noU))
  clear hb1 hp
  obtain ⟨d0, d1, d2, d3, d4, d5⟩ := HB2.out.cells
  unfold noU at *
  go_wp2_with fail
  go_ret
  exact ⟨rfl, HW2.out⟩

/-- The address that the law looks at to see that the program is awake. -/
def awakeU : U := ⟨[104, 116, 116, 112], [65, 46, 98], 8080, [47, 120], [121], true⟩
theorem awake_ok : okB awakeU = true := by decide +kernel
theorem awake_text : textB awakeU = [104, 116, 116, 112, 58, 47, 47, 65, 46, 98, 58, 56, 48, 56, 48, 47, 120, 63, 121] := by decide +kernel
theorem awake_dots : dotsB [47, 97, 47, 98, 47, 99, 47, 46, 47, 46, 46, 47, 46, 46, 47, 103] = [47, 97, 47, 103] := by decide +kernel
theorem awake_no : parseB [102, 116, 112, 58, 47, 47, 97, 47] = (noU, 4) := by kernel_rfl
set_option maxRecDepth 100000 in
theorem law09_awake (w : World) (hg : GX w) : Calls Tryz.prog 15 #[] w (Ret w (.bool true)) := by
  have HG := Lib.hid hg
  clear hg
  have H1 := law09_is awakeU w HG.out awake_ok
  rw [awake_text] at H1
  have HH1 := Lib.hid H1
  clear H1
  go_enter Tryz.func15, Tryz.ntmps15
  go_wp2_with fail
  refine HH1.out.mono ?_
  rintro e w1 ⟨rfl, hb1⟩
  have H2 := uri_Dots [47, 97, 47, 98, 47, 99, 47, 46, 47, 46, 46, 47, 46, 46, 47, 103] w1 (HG.out.next hb1).good (by decide)
  rw [awake_dots] at H2
  have HB1 := Lib.hid hb1
  have HH2 := Lib.hid H2
  clear H2 hb1
  go_wp2_with fail
  refine HH2.out.mono ?_
  rintro e w2 ⟨rfl, hb2⟩
  have HB2 := Lib.hid (HB1.out.trans (hb2.mono HB1.out.size))
  clear hb2
  go_wp2_with fail
  refine (law09_no [102, 116, 112, 58, 47, 47, 97, 47] w2 (HG.out.next HB2.out) awake_no (by decide)).mono ?_
  rintro e w3 ⟨rfl, hb3⟩
  have HB3 := Lib.hid (HB2.out.trans (hb3.mono HB2.out.size))
  clear hb3
  go_wp2_with fail
  go_ret
  exact ⟨rfl, HB3.out⟩
end Go.Proofs.YtobhceopfjcmnaaGreatDoor
