/- The closed law VarsKnown: the chapter's examples. -/
import Derived.Test.YtgpeehilemidlaaDoorAwake
import Derived.Test.YtgpeehilemidlaaDoorAgent
namespace Go.Proofs.YtgpeehilemidlaaDoor
open Go.RowKit
set_option linter.unusedVariables false

theorem lim_nil : Lim [] := ⟨by decide, fun f hf => by cases hf⟩
theorem kn1 : mark (vget [104] someT someF [72, 84, 84, 80, 95, 82, 69, 70, 69, 82, 69, 82] [] false) = [45] := by kernel_rfl
theorem kn2 : mark (vget [104] someT someF [88] [] false) = [45] := by kernel_rfl
theorem kn3 : mark (vget [104] someT someF [72, 84, 84, 80, 95, 72, 79, 83, 84] [97] true) = [45] := by kernel_rfl
theorem kn4 : mark (vget [104] someT someF [72, 84, 84, 80, 95, 67, 79, 79, 75, 73, 69] [120] true) = [49] := by kernel_rfl
theorem kn5 : mark (vget [104] someT someF [72, 84, 84, 80, 95, 67, 79, 79, 75, 73, 69] [121] true) = [45] := by kernel_rfl
theorem kn6 : mark (vget [104] someT someF [72, 84, 84, 80, 95, 67, 79, 79, 75, 73, 69] [119] true) = [45] := by kernel_rfl
theorem kn7 : mark (vget [104] someT someF [72, 84, 84, 80, 95, 67, 79, 79, 75, 73, 69] [] false) = [120, 61, 49, 59, 32, 121, 32, 61, 32, 50, 59, 122, 61, 97, 61, 98] := by kernel_rfl
theorem kn8 : mark (vget [104] someT someF [81, 85, 69, 82, 89, 95, 83, 84, 82, 73, 78, 71] [] false) = [97, 61, 49, 38, 98, 38, 97, 61, 50] := by kernel_rfl
theorem kn9 : mark (vget [104] someT someF [81, 85, 69, 82, 89, 95, 83, 84, 82, 73, 78, 71] [98] true) = [] := by kernel_rfl
theorem kn10 : mark (vget [104] someT someF [81, 85, 69, 82, 89, 95, 83, 84, 82, 73, 78, 71] [99] true) = [45] := by kernel_rfl
theorem kn11 : mark (vget [104] someT someF [81, 85, 69, 82, 89, 95, 83, 84, 82, 73, 78, 71] [] true) = [45] := by kernel_rfl
theorem kn12 : mark (vget [104] someT someF [81, 85, 69, 82, 89, 95, 83, 84, 82, 73, 78, 71] [97, 32, 98] true) = [45] := by kernel_rfl
theorem kn13 : mark (vget [104] someT someF [72, 84, 84, 80, 95, 85, 83, 69, 82, 95, 65, 71, 69, 78, 84] [98, 114, 111, 119, 115, 101, 114] true) = [77, 83, 73, 69] := by kernel_rfl
theorem kn14 : mark (vget [104] someT someF [72, 84, 84, 80, 95, 85, 83, 69, 82, 95, 65, 71, 69, 78, 84] [118, 101, 114, 115, 105, 111, 110] true) = [53, 46, 53] := by kernel_rfl
theorem kn15 : mark (vget [104] someT someF [72, 84, 84, 80, 95, 85, 83, 69, 82, 95, 65, 71, 69, 78, 84] [111, 115] true) = [87, 73, 78] := by kernel_rfl
theorem kn16 : mark (vget [104] someT someF [72, 84, 84, 80, 95, 85, 83, 69, 82, 95, 65, 71, 69, 78, 84] [110, 97, 109, 101] true) = [45] := by kernel_rfl
theorem kn17 : mark (vget [104] someT someF [72, 84, 84, 80, 95, 65, 67, 67, 69, 80, 84, 95, 76, 65, 78, 71, 85, 65, 71, 69] [101, 110] true) = [116, 114, 117, 101] := by kernel_rfl
theorem kn18 : mark (vget [104] someT someF [72, 84, 84, 80, 95, 65, 67, 67, 69, 80, 84, 95, 76, 65, 78, 71, 85, 65, 71, 69] [100, 101] true) = [45] := by kernel_rfl
theorem kn19 : mark (vget [104] someT someF [72, 84, 84, 80, 95, 65, 67, 67, 69, 80, 84, 95, 76, 65, 78, 71, 85, 65, 71, 69] [105, 116] true) = [45] := by kernel_rfl
theorem kn20 : mark (vget [] [] (uaF [77, 111, 122, 105, 108, 108, 97, 47, 53, 46, 48, 32, 40, 88, 49, 49, 41]) nAgent [98, 114, 111, 119, 115, 101, 114] true) = [77, 79, 90, 73, 76, 76, 65] := by kernel_rfl
theorem kn21 : mark (vget [] [] (uaF [77, 111, 122, 105, 108, 108, 97, 47, 53, 46, 48, 32, 40, 88, 49, 49, 41]) nAgent [111, 115] true) = [85, 78, 73, 88] := by kernel_rfl
theorem kn22 : mark (vget [] [] (uaF [120, 32, 77, 111, 122, 105, 108, 108, 97, 47, 49]) nAgent [98, 114, 111, 119, 115, 101, 114] true) = [79, 84, 72, 69, 82] := by kernel_rfl
theorem kn23 : mark (vget [] [] (uaF [77, 97, 99, 32, 87, 105, 110, 100, 111, 119, 115]) nAgent [111, 115] true) = [87, 73, 78] := by kernel_rfl
theorem kn24 : mark (vget [] [] (uaF [77, 97, 99, 32, 76, 105, 110, 117, 120]) nAgent [111, 115] true) = [77, 65, 67] := by kernel_rfl
theorem kn25 : mark (vget [] [] (uaF [99, 117, 114, 108, 47, 55, 46, 49, 46, 50, 45, 120]) nAgent [118, 101, 114, 115, 105, 111, 110] true) = [55, 46, 49, 46, 50] := by kernel_rfl
theorem kn26 : mark (vget [] [] (uaF [99, 117, 114, 108]) nAgent [118, 101, 114, 115, 105, 111, 110] true) = [45] := by kernel_rfl
theorem kn27 : mark (vget [] [] (uaF [97, 47, 98, 47, 49]) nAgent [118, 101, 114, 115, 105, 111, 110] true) = [45] := by kernel_rfl
theorem kn28 : mark (vget [] [] (uaF []) nAgent [111, 115] true) = [79, 84, 72, 69, 82] := by kernel_rfl
theorem kn29 : vget [] [47] [] [72, 84, 84, 80, 95, 72, 79, 83, 84] [] false = ([], false) := by kernel_rfl
theorem kn30 : vget [] [47] [] [81, 85, 69, 82, 89, 95, 83, 84, 82, 73, 78, 71] [] false = ([], false) := by kernel_rfl
theorem kn31 : vsource [72, 84, 84, 80, 95, 67, 79, 79, 75, 73, 69] [120] true = [99, 111, 111, 107, 105, 101, 46, 120] := by kernel_rfl
theorem kn32 : vsource [72, 84, 84, 80, 95, 67, 79, 79, 75, 73, 69] [120] false = [99, 111, 111, 107, 105, 101] := by kernel_rfl
theorem kn33 : vsource [81, 85, 69, 82, 89, 95, 83, 84, 82, 73, 78, 71] [97] true = [] := by kernel_rfl
theorem kn34 : vsource [88] [] false = [] := by kernel_rfl
theorem kl36 : ((Lib.repeatL [107] 64)).length = 64 := by kernel_rfl
theorem kn36 : vkey (Lib.repeatL [107] 64) = true := by kernel_rfl
theorem kl38 : ((Lib.repeatL [107] 65)).length = 65 := by kernel_rfl
theorem kn38 : vkey (Lib.repeatL [107] 65) = false := by kernel_rfl
theorem kn39 : vkey [] = false := by kernel_rfl
theorem kn40 : vkey [97, 95, 45, 46, 57] = true := by kernel_rfl
theorem kn41 : vknown [81, 85, 69, 82, 89, 95, 83, 84, 82, 73, 78, 71] = true := by kernel_rfl
theorem kn42 : vknown [113, 117, 101, 114, 121, 95, 115, 116, 114, 105, 110, 103] = false := by kernel_rfl

set_option maxRecDepth 100000 in
set_option maxHeartbeats 4000000 in
theorem law_VarsKnown (w : World) (hg : Good w) : Calls Tryd.prog 9 #[] w (Ret w (.bool true)) := by
  go_enter Tryd.func9, Tryd.ntmps9
  go_wp2_with fail
  refine (law_whole ⟨#[72, 84, 84, 80, 95, 82, 69, 70, 69, 82, 69, 82]⟩ _ hg).mono ?_
  rintro e w1 ⟨rfl, hb⟩
  rw [show mark (vget [104] someT someF (⟨#[72, 84, 84, 80, 95, 82, 69, 70, 69, 82, 69, 82]⟩ : ByteArray).data.toList [] false) = [45] from kn1]
  have B1 := hb
  clear hb
  go_wp2_with fail
  refine (law_whole ⟨#[88]⟩ _ (hg.next B1)).mono ?_
  rintro e w2 ⟨rfl, hb⟩
  rw [show mark (vget [104] someT someF (⟨#[88]⟩ : ByteArray).data.toList [] false) = [45] from kn2]
  have B2 := B1.trans (hb.mono B1.size)
  clear hb B1
  go_wp2_with fail
  refine (law_part ⟨#[72, 84, 84, 80, 95, 72, 79, 83, 84]⟩ ⟨#[97]⟩ _ (hg.next B2) (by decide)).mono ?_
  rintro e w3 ⟨rfl, hb⟩
  rw [show mark (vget [104] someT someF (⟨#[72, 84, 84, 80, 95, 72, 79, 83, 84]⟩ : ByteArray).data.toList (⟨#[97]⟩ : ByteArray).data.toList true) = [45] from kn3]
  have B3 := B2.trans (hb.mono B2.size)
  clear hb B2
  go_wp2_with fail
  refine (law_part ⟨#[72, 84, 84, 80, 95, 67, 79, 79, 75, 73, 69]⟩ ⟨#[120]⟩ _ (hg.next B3) (by decide)).mono ?_
  rintro e w4 ⟨rfl, hb⟩
  rw [show mark (vget [104] someT someF (⟨#[72, 84, 84, 80, 95, 67, 79, 79, 75, 73, 69]⟩ : ByteArray).data.toList (⟨#[120]⟩ : ByteArray).data.toList true) = [49] from kn4]
  have B4 := B3.trans (hb.mono B3.size)
  clear hb B3
  go_wp2_with fail
  refine (law_part ⟨#[72, 84, 84, 80, 95, 67, 79, 79, 75, 73, 69]⟩ ⟨#[121]⟩ _ (hg.next B4) (by decide)).mono ?_
  rintro e w5 ⟨rfl, hb⟩
  rw [show mark (vget [104] someT someF (⟨#[72, 84, 84, 80, 95, 67, 79, 79, 75, 73, 69]⟩ : ByteArray).data.toList (⟨#[121]⟩ : ByteArray).data.toList true) = [45] from kn5]
  have B5 := B4.trans (hb.mono B4.size)
  clear hb B4
  go_wp2_with fail
  refine (law_part ⟨#[72, 84, 84, 80, 95, 67, 79, 79, 75, 73, 69]⟩ ⟨#[119]⟩ _ (hg.next B5) (by decide)).mono ?_
  rintro e w6 ⟨rfl, hb⟩
  rw [show mark (vget [104] someT someF (⟨#[72, 84, 84, 80, 95, 67, 79, 79, 75, 73, 69]⟩ : ByteArray).data.toList (⟨#[119]⟩ : ByteArray).data.toList true) = [45] from kn6]
  have B6 := B5.trans (hb.mono B5.size)
  clear hb B5
  go_wp2_with fail
  refine (law_whole ⟨#[72, 84, 84, 80, 95, 67, 79, 79, 75, 73, 69]⟩ _ (hg.next B6)).mono ?_
  rintro e w7 ⟨rfl, hb⟩
  rw [show mark (vget [104] someT someF (⟨#[72, 84, 84, 80, 95, 67, 79, 79, 75, 73, 69]⟩ : ByteArray).data.toList [] false) = [120, 61, 49, 59, 32, 121, 32, 61, 32, 50, 59, 122, 61, 97, 61, 98] from kn7]
  have B7 := B6.trans (hb.mono B6.size)
  clear hb B6
  go_wp2_with fail
  refine (law_whole ⟨#[81, 85, 69, 82, 89, 95, 83, 84, 82, 73, 78, 71]⟩ _ (hg.next B7)).mono ?_
  rintro e w8 ⟨rfl, hb⟩
  rw [show mark (vget [104] someT someF (⟨#[81, 85, 69, 82, 89, 95, 83, 84, 82, 73, 78, 71]⟩ : ByteArray).data.toList [] false) = [97, 61, 49, 38, 98, 38, 97, 61, 50] from kn8]
  have B8 := B7.trans (hb.mono B7.size)
  clear hb B7
  go_wp2_with fail
  refine (law_part ⟨#[81, 85, 69, 82, 89, 95, 83, 84, 82, 73, 78, 71]⟩ ⟨#[98]⟩ _ (hg.next B8) (by decide)).mono ?_
  rintro e w9 ⟨rfl, hb⟩
  rw [show mark (vget [104] someT someF (⟨#[81, 85, 69, 82, 89, 95, 83, 84, 82, 73, 78, 71]⟩ : ByteArray).data.toList (⟨#[98]⟩ : ByteArray).data.toList true) = [] from kn9]
  have B9 := B8.trans (hb.mono B8.size)
  clear hb B8
  go_wp2_with fail
  refine (law_part ⟨#[81, 85, 69, 82, 89, 95, 83, 84, 82, 73, 78, 71]⟩ ⟨#[99]⟩ _ (hg.next B9) (by decide)).mono ?_
  rintro e w10 ⟨rfl, hb⟩
  rw [show mark (vget [104] someT someF (⟨#[81, 85, 69, 82, 89, 95, 83, 84, 82, 73, 78, 71]⟩ : ByteArray).data.toList (⟨#[99]⟩ : ByteArray).data.toList true) = [45] from kn10]
  have B10 := B9.trans (hb.mono B9.size)
  clear hb B9
  go_wp2_with fail
  refine (law_part ⟨#[81, 85, 69, 82, 89, 95, 83, 84, 82, 73, 78, 71]⟩ ⟨#[]⟩ _ (hg.next B10) (by decide)).mono ?_
  rintro e w11 ⟨rfl, hb⟩
  rw [show mark (vget [104] someT someF (⟨#[81, 85, 69, 82, 89, 95, 83, 84, 82, 73, 78, 71]⟩ : ByteArray).data.toList (⟨#[]⟩ : ByteArray).data.toList true) = [45] from kn11]
  have B11 := B10.trans (hb.mono B10.size)
  clear hb B10
  go_wp2_with fail
  refine (law_part ⟨#[81, 85, 69, 82, 89, 95, 83, 84, 82, 73, 78, 71]⟩ ⟨#[97, 32, 98]⟩ _ (hg.next B11) (by decide)).mono ?_
  rintro e w12 ⟨rfl, hb⟩
  rw [show mark (vget [104] someT someF (⟨#[81, 85, 69, 82, 89, 95, 83, 84, 82, 73, 78, 71]⟩ : ByteArray).data.toList (⟨#[97, 32, 98]⟩ : ByteArray).data.toList true) = [45] from kn12]
  have B12 := B11.trans (hb.mono B11.size)
  clear hb B11
  go_wp2_with fail
  refine (law_part ⟨#[72, 84, 84, 80, 95, 85, 83, 69, 82, 95, 65, 71, 69, 78, 84]⟩ ⟨#[98, 114, 111, 119, 115, 101, 114]⟩ _ (hg.next B12) (by decide)).mono ?_
  rintro e w13 ⟨rfl, hb⟩
  rw [show mark (vget [104] someT someF (⟨#[72, 84, 84, 80, 95, 85, 83, 69, 82, 95, 65, 71, 69, 78, 84]⟩ : ByteArray).data.toList (⟨#[98, 114, 111, 119, 115, 101, 114]⟩ : ByteArray).data.toList true) = [77, 83, 73, 69] from kn13]
  have B13 := B12.trans (hb.mono B12.size)
  clear hb B12
  go_wp2_with fail
  refine (law_part ⟨#[72, 84, 84, 80, 95, 85, 83, 69, 82, 95, 65, 71, 69, 78, 84]⟩ ⟨#[118, 101, 114, 115, 105, 111, 110]⟩ _ (hg.next B13) (by decide)).mono ?_
  rintro e w14 ⟨rfl, hb⟩
  rw [show mark (vget [104] someT someF (⟨#[72, 84, 84, 80, 95, 85, 83, 69, 82, 95, 65, 71, 69, 78, 84]⟩ : ByteArray).data.toList (⟨#[118, 101, 114, 115, 105, 111, 110]⟩ : ByteArray).data.toList true) = [53, 46, 53] from kn14]
  have B14 := B13.trans (hb.mono B13.size)
  clear hb B13
  go_wp2_with fail
  refine (law_part ⟨#[72, 84, 84, 80, 95, 85, 83, 69, 82, 95, 65, 71, 69, 78, 84]⟩ ⟨#[111, 115]⟩ _ (hg.next B14) (by decide)).mono ?_
  rintro e w15 ⟨rfl, hb⟩
  rw [show mark (vget [104] someT someF (⟨#[72, 84, 84, 80, 95, 85, 83, 69, 82, 95, 65, 71, 69, 78, 84]⟩ : ByteArray).data.toList (⟨#[111, 115]⟩ : ByteArray).data.toList true) = [87, 73, 78] from kn15]
  have B15 := B14.trans (hb.mono B14.size)
  clear hb B14
  go_wp2_with fail
  refine (law_part ⟨#[72, 84, 84, 80, 95, 85, 83, 69, 82, 95, 65, 71, 69, 78, 84]⟩ ⟨#[110, 97, 109, 101]⟩ _ (hg.next B15) (by decide)).mono ?_
  rintro e w16 ⟨rfl, hb⟩
  rw [show mark (vget [104] someT someF (⟨#[72, 84, 84, 80, 95, 85, 83, 69, 82, 95, 65, 71, 69, 78, 84]⟩ : ByteArray).data.toList (⟨#[110, 97, 109, 101]⟩ : ByteArray).data.toList true) = [45] from kn16]
  have B16 := B15.trans (hb.mono B15.size)
  clear hb B15
  go_wp2_with fail
  refine (law_part ⟨#[72, 84, 84, 80, 95, 65, 67, 67, 69, 80, 84, 95, 76, 65, 78, 71, 85, 65, 71, 69]⟩ ⟨#[101, 110]⟩ _ (hg.next B16) (by decide)).mono ?_
  rintro e w17 ⟨rfl, hb⟩
  rw [show mark (vget [104] someT someF (⟨#[72, 84, 84, 80, 95, 65, 67, 67, 69, 80, 84, 95, 76, 65, 78, 71, 85, 65, 71, 69]⟩ : ByteArray).data.toList (⟨#[101, 110]⟩ : ByteArray).data.toList true) = [116, 114, 117, 101] from kn17]
  have B17 := B16.trans (hb.mono B16.size)
  clear hb B16
  go_wp2_with fail
  refine (law_part ⟨#[72, 84, 84, 80, 95, 65, 67, 67, 69, 80, 84, 95, 76, 65, 78, 71, 85, 65, 71, 69]⟩ ⟨#[100, 101]⟩ _ (hg.next B17) (by decide)).mono ?_
  rintro e w18 ⟨rfl, hb⟩
  rw [show mark (vget [104] someT someF (⟨#[72, 84, 84, 80, 95, 65, 67, 67, 69, 80, 84, 95, 76, 65, 78, 71, 85, 65, 71, 69]⟩ : ByteArray).data.toList (⟨#[100, 101]⟩ : ByteArray).data.toList true) = [45] from kn18]
  have B18 := B17.trans (hb.mono B17.size)
  clear hb B17
  go_wp2_with fail
  refine (law_part ⟨#[72, 84, 84, 80, 95, 65, 67, 67, 69, 80, 84, 95, 76, 65, 78, 71, 85, 65, 71, 69]⟩ ⟨#[105, 116]⟩ _ (hg.next B18) (by decide)).mono ?_
  rintro e w19 ⟨rfl, hb⟩
  rw [show mark (vget [104] someT someF (⟨#[72, 84, 84, 80, 95, 65, 67, 67, 69, 80, 84, 95, 76, 65, 78, 71, 85, 65, 71, 69]⟩ : ByteArray).data.toList (⟨#[105, 116]⟩ : ByteArray).data.toList true) = [45] from kn19]
  have B19 := B18.trans (hb.mono B18.size)
  clear hb B18
  go_wp2_with fail
  refine (law_agent ⟨#[77, 111, 122, 105, 108, 108, 97, 47, 53, 46, 48, 32, 40, 88, 49, 49, 41]⟩ ⟨#[98, 114, 111, 119, 115, 101, 114]⟩ _ (hg.next B19) (by decide) (by decide)).mono ?_
  rintro e w20 ⟨rfl, hb⟩
  rw [show mark (vget [] [] (uaF (⟨#[77, 111, 122, 105, 108, 108, 97, 47, 53, 46, 48, 32, 40, 88, 49, 49, 41]⟩ : ByteArray).data.toList) nAgent (⟨#[98, 114, 111, 119, 115, 101, 114]⟩ : ByteArray).data.toList true) = [77, 79, 90, 73, 76, 76, 65] from kn20]
  have B20 := B19.trans (hb.mono B19.size)
  clear hb B19
  go_wp2_with fail
  refine (law_agent ⟨#[77, 111, 122, 105, 108, 108, 97, 47, 53, 46, 48, 32, 40, 88, 49, 49, 41]⟩ ⟨#[111, 115]⟩ _ (hg.next B20) (by decide) (by decide)).mono ?_
  rintro e w21 ⟨rfl, hb⟩
  rw [show mark (vget [] [] (uaF (⟨#[77, 111, 122, 105, 108, 108, 97, 47, 53, 46, 48, 32, 40, 88, 49, 49, 41]⟩ : ByteArray).data.toList) nAgent (⟨#[111, 115]⟩ : ByteArray).data.toList true) = [85, 78, 73, 88] from kn21]
  have B21 := B20.trans (hb.mono B20.size)
  clear hb B20
  go_wp2_with fail
  refine (law_agent ⟨#[120, 32, 77, 111, 122, 105, 108, 108, 97, 47, 49]⟩ ⟨#[98, 114, 111, 119, 115, 101, 114]⟩ _ (hg.next B21) (by decide) (by decide)).mono ?_
  rintro e w22 ⟨rfl, hb⟩
  rw [show mark (vget [] [] (uaF (⟨#[120, 32, 77, 111, 122, 105, 108, 108, 97, 47, 49]⟩ : ByteArray).data.toList) nAgent (⟨#[98, 114, 111, 119, 115, 101, 114]⟩ : ByteArray).data.toList true) = [79, 84, 72, 69, 82] from kn22]
  have B22 := B21.trans (hb.mono B21.size)
  clear hb B21
  go_wp2_with fail
  refine (law_agent ⟨#[77, 97, 99, 32, 87, 105, 110, 100, 111, 119, 115]⟩ ⟨#[111, 115]⟩ _ (hg.next B22) (by decide) (by decide)).mono ?_
  rintro e w23 ⟨rfl, hb⟩
  rw [show mark (vget [] [] (uaF (⟨#[77, 97, 99, 32, 87, 105, 110, 100, 111, 119, 115]⟩ : ByteArray).data.toList) nAgent (⟨#[111, 115]⟩ : ByteArray).data.toList true) = [87, 73, 78] from kn23]
  have B23 := B22.trans (hb.mono B22.size)
  clear hb B22
  go_wp2_with fail
  refine (law_agent ⟨#[77, 97, 99, 32, 76, 105, 110, 117, 120]⟩ ⟨#[111, 115]⟩ _ (hg.next B23) (by decide) (by decide)).mono ?_
  rintro e w24 ⟨rfl, hb⟩
  rw [show mark (vget [] [] (uaF (⟨#[77, 97, 99, 32, 76, 105, 110, 117, 120]⟩ : ByteArray).data.toList) nAgent (⟨#[111, 115]⟩ : ByteArray).data.toList true) = [77, 65, 67] from kn24]
  have B24 := B23.trans (hb.mono B23.size)
  clear hb B23
  go_wp2_with fail
  refine (law_agent ⟨#[99, 117, 114, 108, 47, 55, 46, 49, 46, 50, 45, 120]⟩ ⟨#[118, 101, 114, 115, 105, 111, 110]⟩ _ (hg.next B24) (by decide) (by decide)).mono ?_
  rintro e w25 ⟨rfl, hb⟩
  rw [show mark (vget [] [] (uaF (⟨#[99, 117, 114, 108, 47, 55, 46, 49, 46, 50, 45, 120]⟩ : ByteArray).data.toList) nAgent (⟨#[118, 101, 114, 115, 105, 111, 110]⟩ : ByteArray).data.toList true) = [55, 46, 49, 46, 50] from kn25]
  have B25 := B24.trans (hb.mono B24.size)
  clear hb B24
  go_wp2_with fail
  refine (law_agent ⟨#[99, 117, 114, 108]⟩ ⟨#[118, 101, 114, 115, 105, 111, 110]⟩ _ (hg.next B25) (by decide) (by decide)).mono ?_
  rintro e w26 ⟨rfl, hb⟩
  rw [show mark (vget [] [] (uaF (⟨#[99, 117, 114, 108]⟩ : ByteArray).data.toList) nAgent (⟨#[118, 101, 114, 115, 105, 111, 110]⟩ : ByteArray).data.toList true) = [45] from kn26]
  have B26 := B25.trans (hb.mono B25.size)
  clear hb B25
  go_wp2_with fail
  refine (law_agent ⟨#[97, 47, 98, 47, 49]⟩ ⟨#[118, 101, 114, 115, 105, 111, 110]⟩ _ (hg.next B26) (by decide) (by decide)).mono ?_
  rintro e w27 ⟨rfl, hb⟩
  rw [show mark (vget [] [] (uaF (⟨#[97, 47, 98, 47, 49]⟩ : ByteArray).data.toList) nAgent (⟨#[118, 101, 114, 115, 105, 111, 110]⟩ : ByteArray).data.toList true) = [45] from kn27]
  have B27 := B26.trans (hb.mono B26.size)
  clear hb B26
  go_wp2_with fail
  refine (law_agent ⟨#[]⟩ ⟨#[111, 115]⟩ _ (hg.next B27) (by decide) (by decide)).mono ?_
  rintro e w28 ⟨rfl, hb⟩
  rw [show mark (vget [] [] (uaF (⟨#[]⟩ : ByteArray).data.toList) nAgent (⟨#[111, 115]⟩ : ByteArray).data.toList true) = [79, 84, 72, 69, 82] from kn28]
  have B28 := B27.trans (hb.mono B27.size)
  clear hb B27
  go_wp2_with fail
  refine (vars_Of ⟨#[]⟩ ⟨#[47]⟩ ⟨#[]⟩ ⟨#[]⟩ 0 none 0 0 [] _ (.inl ⟨_, _, rfl, rfl⟩) (by decide)).mono ?_
  rintro e w29 ⟨a29, c29, rfl, hown, hb⟩
  have B29a := B28.trans (hb.mono B28.size)
  clear hb
  go_wp2_with fail
  refine (vars_Get ⟨#[]⟩ ⟨#[47]⟩ ⟨#[72, 84, 84, 80, 95, 72, 79, 83, 84]⟩ ⟨#[]⟩ a29 ([] : List Fld).length c29 [] false _ (hg.next B29a) hown.at lim_nil (by decide) (by decide)).mono ?_
  rintro e w29b ⟨rfl, hb⟩
  rw [show vget (⟨#[]⟩ : ByteArray).data.toList (⟨#[47]⟩ : ByteArray).data.toList [] (⟨#[72, 84, 84, 80, 95, 72, 79, 83, 84]⟩ : ByteArray).data.toList (⟨#[]⟩ : ByteArray).data.toList false = ([], false) from kn29]
  clear hown
  have B29 := B29a.trans (hb.mono B29a.size)
  clear hb B29a
  go_wp2_with fail
  refine (vars_Of ⟨#[]⟩ ⟨#[47]⟩ ⟨#[]⟩ ⟨#[]⟩ 0 none 0 0 [] _ (.inl ⟨_, _, rfl, rfl⟩) (by decide)).mono ?_
  rintro e w30 ⟨a30, c30, rfl, hown, hb⟩
  have B30a := B29.trans (hb.mono B29.size)
  clear hb
  go_wp2_with fail
  refine (vars_Get ⟨#[]⟩ ⟨#[47]⟩ ⟨#[81, 85, 69, 82, 89, 95, 83, 84, 82, 73, 78, 71]⟩ ⟨#[]⟩ a30 ([] : List Fld).length c30 [] false _ (hg.next B30a) hown.at lim_nil (by decide) (by decide)).mono ?_
  rintro e w30b ⟨rfl, hb⟩
  rw [show vget (⟨#[]⟩ : ByteArray).data.toList (⟨#[47]⟩ : ByteArray).data.toList [] (⟨#[81, 85, 69, 82, 89, 95, 83, 84, 82, 73, 78, 71]⟩ : ByteArray).data.toList (⟨#[]⟩ : ByteArray).data.toList false = ([], false) from kn30]
  clear hown
  have B30 := B30a.trans (hb.mono B30a.size)
  clear hb B30a
  go_wp2_with fail
  refine (vars_Source ⟨#[72, 84, 84, 80, 95, 67, 79, 79, 75, 73, 69]⟩ ⟨#[120]⟩ true _ (by decide)).mono ?_
  rintro e w31 ⟨rfl, hb⟩
  rw [show vsource (⟨#[72, 84, 84, 80, 95, 67, 79, 79, 75, 73, 69]⟩ : ByteArray).data.toList (⟨#[120]⟩ : ByteArray).data.toList true = [99, 111, 111, 107, 105, 101, 46, 120] from kn31]
  have B31 := B30.trans (hb.mono B30.size)
  clear hb B30
  go_wp2_with fail
  refine (vars_Source ⟨#[72, 84, 84, 80, 95, 67, 79, 79, 75, 73, 69]⟩ ⟨#[120]⟩ false _ (by decide)).mono ?_
  rintro e w32 ⟨rfl, hb⟩
  rw [show vsource (⟨#[72, 84, 84, 80, 95, 67, 79, 79, 75, 73, 69]⟩ : ByteArray).data.toList (⟨#[120]⟩ : ByteArray).data.toList false = [99, 111, 111, 107, 105, 101] from kn32]
  have B32 := B31.trans (hb.mono B31.size)
  clear hb B31
  go_wp2_with fail
  refine (vars_Source ⟨#[81, 85, 69, 82, 89, 95, 83, 84, 82, 73, 78, 71]⟩ ⟨#[97]⟩ true _ (by decide)).mono ?_
  rintro e w33 ⟨rfl, hb⟩
  rw [show vsource (⟨#[81, 85, 69, 82, 89, 95, 83, 84, 82, 73, 78, 71]⟩ : ByteArray).data.toList (⟨#[97]⟩ : ByteArray).data.toList true = [] from kn33]
  have B33 := B32.trans (hb.mono B32.size)
  clear hb B32
  go_wp2_with fail
  refine (vars_Source ⟨#[88]⟩ ⟨#[]⟩ false _ (by decide)).mono ?_
  rintro e w34 ⟨rfl, hb⟩
  rw [show vsource (⟨#[88]⟩ : ByteArray).data.toList (⟨#[]⟩ : ByteArray).data.toList false = [] from kn34]
  have B34 := B33.trans (hb.mono B33.size)
  clear hb B33
  go_wp2_with fail
  refine (Tryd.strings_Repeat_main ⟨#[107]⟩ 64 _ (by decide) (by decide) (by decide) (by decide)).mono ?_
  rintro e w35 ⟨rfl, hb⟩
  have B35 := B34.trans (hb.mono B34.size)
  clear hb B34
  go_wp2_with fail
  refine (vars_Key ⟨(Lib.repeatL (⟨#[107]⟩ : ByteArray).data.toList 64).toArray⟩ _ (by show (Lib.repeatL [107] 64).toArray.size ≤ _; rw [List.size_toArray, kl36]; decide)).mono ?_
  rintro e w36 ⟨rfl, hb⟩
  rw [show vkey (⟨(Lib.repeatL (⟨#[107]⟩ : ByteArray).data.toList 64).toArray⟩ : ByteArray).data.toList = true from kn36]
  have B36 := B35.trans (hb.mono B35.size)
  clear hb B35
  go_wp2_with fail
  refine (Tryd.strings_Repeat_main ⟨#[107]⟩ 65 _ (by decide) (by decide) (by decide) (by decide)).mono ?_
  rintro e w37 ⟨rfl, hb⟩
  have B37 := B36.trans (hb.mono B36.size)
  clear hb B36
  go_wp2_with fail
  refine (vars_Key ⟨(Lib.repeatL (⟨#[107]⟩ : ByteArray).data.toList 65).toArray⟩ _ (by show (Lib.repeatL [107] 65).toArray.size ≤ _; rw [List.size_toArray, kl38]; decide)).mono ?_
  rintro e w38 ⟨rfl, hb⟩
  rw [show vkey (⟨(Lib.repeatL (⟨#[107]⟩ : ByteArray).data.toList 65).toArray⟩ : ByteArray).data.toList = false from kn38]
  have B38 := B37.trans (hb.mono B37.size)
  clear hb B37
  go_wp2_with fail
  refine (vars_Key ⟨#[]⟩ _ (by decide)).mono ?_
  rintro e w39 ⟨rfl, hb⟩
  rw [show vkey (⟨#[]⟩ : ByteArray).data.toList = false from kn39]
  have B39 := B38.trans (hb.mono B38.size)
  clear hb B38
  go_wp2_with fail
  refine (vars_Key ⟨#[97, 95, 45, 46, 57]⟩ _ (by decide)).mono ?_
  rintro e w40 ⟨rfl, hb⟩
  rw [show vkey (⟨#[97, 95, 45, 46, 57]⟩ : ByteArray).data.toList = true from kn40]
  have B40 := B39.trans (hb.mono B39.size)
  clear hb B39
  go_wp2_with fail
  refine (vars_Known ⟨#[81, 85, 69, 82, 89, 95, 83, 84, 82, 73, 78, 71]⟩ _).mono ?_
  rintro e w41 ⟨rfl, hb⟩
  rw [show vknown (⟨#[81, 85, 69, 82, 89, 95, 83, 84, 82, 73, 78, 71]⟩ : ByteArray).data.toList = true from kn41]
  have B41 := B40.trans (hb.mono B40.size)
  clear hb B40
  go_wp2_with fail
  refine (vars_Known ⟨#[113, 117, 101, 114, 121, 95, 115, 116, 114, 105, 110, 103]⟩ _).mono ?_
  rintro e w42 ⟨rfl, hb⟩
  rw [show vknown (⟨#[113, 117, 101, 114, 121, 95, 115, 116, 114, 105, 110, 103]⟩ : ByteArray).data.toList = false from kn42]
  have B42 := B41.trans (hb.mono B41.size)
  clear hb B41
  go_wp2_with fail
  refine (law_awake _ (hg.next B42)).mono ?_
  rintro e w43 ⟨rfl, hb⟩
  have B43 := B42.trans (hb.mono B42.size)
  clear hb B42
  go_wp2
  go_ret
  exact ⟨rfl, B43⟩
end Go.Proofs.YtgpeehilemidlaaDoor
