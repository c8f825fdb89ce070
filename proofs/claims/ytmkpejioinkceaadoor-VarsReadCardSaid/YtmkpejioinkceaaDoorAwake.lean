/- The law's awake: some of the chapter's answers. -/
import Derived.Test.YtmkpejioinkceaaDoorSome
namespace Go.Proofs.YtmkpejioinkceaaDoor
open Go.RowKit
set_option linter.unusedVariables false

theorem aw1 : mark (vget [104] someT someF nHost [] false) = [104] := by kernel_rfl
theorem aw2 : mark (vget [104] someT someF nCookie [122] true) = [97, 61, 98] := by kernel_rfl
theorem aw3 : mark (vget [104] someT someF nQuery [97] true) = [49] := by kernel_rfl
theorem aw4 : mark (vget [104] someT someF nLang [102, 114, 45, 70, 82] true) = [116, 114, 117, 101] := by kernel_rfl

set_option maxRecDepth 100000 in
theorem law_awake (w : World) (hg : Good w) : Calls Tryd.prog 5 #[] w (Ret w (.bool true)) := by
  go_enter Tryd.func5, Tryd.ntmps5
  go_wp2_with fail
  refine (law_whole ⟨#[72, 84, 84, 80, 95, 72, 79, 83, 84]⟩ w hg).mono ?_
  rintro e w1 ⟨rfl, hb1⟩
  rw [show mark (vget [104] someT someF (⟨#[72, 84, 84, 80, 95, 72, 79, 83, 84]⟩ : ByteArray).data.toList [] false) = [104] from aw1]
  go_wp2_with fail
  refine (law_part ⟨#[72, 84, 84, 80, 95, 67, 79, 79, 75, 73, 69]⟩ ⟨#[122]⟩ w1 (hg.next hb1) (by decide)).mono ?_
  rintro e w2 ⟨rfl, hb2⟩
  rw [show mark (vget [104] someT someF (⟨#[72, 84, 84, 80, 95, 67, 79, 79, 75, 73, 69]⟩ : ByteArray).data.toList (⟨#[122]⟩ : ByteArray).data.toList true) = [97, 61, 98] from aw2]
  have hb12 := hb1.trans (hb2.mono hb1.size)
  go_wp2_with fail
  refine (law_part ⟨#[81, 85, 69, 82, 89, 95, 83, 84, 82, 73, 78, 71]⟩ ⟨#[97]⟩ w2 (hg.next hb12) (by decide)).mono ?_
  rintro e w3 ⟨rfl, hb3⟩
  rw [show mark (vget [104] someT someF (⟨#[81, 85, 69, 82, 89, 95, 83, 84, 82, 73, 78, 71]⟩ : ByteArray).data.toList (⟨#[97]⟩ : ByteArray).data.toList true) = [49] from aw3]
  have hb13 := hb12.trans (hb3.mono hb12.size)
  go_wp2_with fail
  refine (law_part ⟨#[72, 84, 84, 80, 95, 65, 67, 67, 69, 80, 84, 95, 76, 65, 78, 71, 85, 65, 71, 69]⟩ ⟨#[102, 114, 45, 70, 82]⟩ w3 (hg.next hb13) (by decide)).mono ?_
  rintro e w4 ⟨rfl, hb4⟩
  rw [show mark (vget [104] someT someF (⟨#[72, 84, 84, 80, 95, 65, 67, 67, 69, 80, 84, 95, 76, 65, 78, 71, 85, 65, 71, 69]⟩ : ByteArray).data.toList (⟨#[102, 114, 45, 70, 82]⟩ : ByteArray).data.toList true) = [116, 114, 117, 101] from aw4]
  have hb14 := hb13.trans (hb4.mono hb13.size)
  go_wp2
  go_ret
  exact ⟨rfl, hb14⟩
end Go.Proofs.YtmkpejioinkceaaDoor
