/- The law's given variables, what texts become by them, and its works. -/
import Derived.Test.YtoipnaoijccokaaGreatDoorSubApply
import Derived.Test.YtoipnaoijccokaaGreatDoorFlds
namespace Go.Proofs.YtoipnaoijccokaaGreatDoor
open Go.RowKit
set_option linter.unusedVariables false
attribute [local go_sem ↓] Go.wp_at_zero Go.wp_at_succ

def givF : List Fld := [([67, 111, 111, 107, 105, 101], [97, 61, 98])]
theorem giv_lim : Lim givF := ⟨by decide, by decide⟩
theorem giv_end {w W w1 : World} {h t : ByteArray} {v : Value} {x0 x1 x2 : Value} (hb : Below w.heap.size w W) (n0 : W.heap[w.heap.size]? = some (.cells #[x0, x1, x2] 33)) (hb1 : Below W.heap.size W w1) :
    (w1.cell? ⟨w.heap.size, 0, none⟩ = some x0 ∧ w1.cell? ⟨w.heap.size, 1, none⟩ = some x1 ∧ w1.cell? ⟨w.heap.size, 2, none⟩ = some x2 ∧ w1.frozen? ⟨w.heap.size, 0, none⟩ = false ∧ w1.frozen? ⟨w.heap.size, 1, none⟩ = false ∧ w1.frozen? ⟨w.heap.size, 2, none⟩ = false) ∧
    (((w1.setCell ⟨w.heap.size, 0, none⟩ (.string h)).setCell ⟨w.heap.size, 1, none⟩ (.string t)).setCell ⟨w.heap.size, 2, none⟩ v).cell? ⟨w.heap.size, 0, none⟩ = some (.string h) ∧
    (((w1.setCell ⟨w.heap.size, 0, none⟩ (.string h)).setCell ⟨w.heap.size, 1, none⟩ (.string t)).setCell ⟨w.heap.size, 2, none⟩ v).cell? ⟨w.heap.size, 1, none⟩ = some (.string t) ∧
    (((w1.setCell ⟨w.heap.size, 0, none⟩ (.string h)).setCell ⟨w.heap.size, 1, none⟩ (.string t)).setCell ⟨w.heap.size, 2, none⟩ v).cell? ⟨w.heap.size, 2, none⟩ = some v ∧
    Below w.heap.size w (((w1.setCell ⟨w.heap.size, 0, none⟩ (.string h)).setCell ⟨w.heap.size, 1, none⟩ (.string t)).setCell ⟨w.heap.size, 2, none⟩ v) := by
  have n1 := (hb1.block w.heap.size (blk_lt n0)).trans n0
  have r1 : (w1.setCell ⟨w.heap.size, 0, none⟩ (.string h)).heap[w.heap.size]? = some (.cells #[.string h, x1, x2] 33) := row_set (j := 0) n1
  have r2 : ((w1.setCell ⟨w.heap.size, 0, none⟩ (.string h)).setCell ⟨w.heap.size, 1, none⟩ (.string t)).heap[w.heap.size]? = some (.cells #[.string h, .string t, x2] 33) := row_set (j := 1) r1
  have r3 : (((w1.setCell ⟨w.heap.size, 0, none⟩ (.string h)).setCell ⟨w.heap.size, 1, none⟩ (.string t)).setCell ⟨w.heap.size, 2, none⟩ v).heap[w.heap.size]? = some (.cells #[.string h, .string t, v] 33) := row_set (j := 2) r2
  have hb2 := hb.trans (hb1.mono hb.size)
  exact ⟨⟨cell_of_row _ _ 0 _ _ _ n1, cell_of_row _ _ 1 _ _ _ n1, cell_of_row _ _ 2 _ _ _ n1, frozen_of_row _ _ 0 _ _ n1, frozen_of_row _ _ 1 _ _ n1, frozen_of_row _ _ 2 _ _ n1⟩,
    cell_of_row _ _ 0 _ _ _ r3, cell_of_row _ _ 1 _ _ _ r3, cell_of_row _ _ 2 _ _ _ r3,
    ((hb2.setCell (p := ⟨w.heap.size, 0, none⟩) (Nat.le_refl _) _).setCell (p := ⟨w.heap.size, 1, none⟩) (Nat.le_refl _) _).setCell (p := ⟨w.heap.size, 2, none⟩) (Nat.le_refl _) _⟩

set_option maxRecDepth 100000 in
theorem law_given (w : World) : Calls Tryz.prog 22 #[] w (RetVars w ⟨#[104]⟩ ⟨#[47]⟩ givF) := by
  have HT := Lib.hid (two_new w (.cells #[.string ⟨#[]⟩, .string ⟨#[]⟩, .slice none 0 0] 33) (.cells #[.string ⟨#[67, 111, 111, 107, 105, 101]⟩, .string ⟨#[97, 61, 98]⟩] 25))
  go_enter Tryz.func22, Tryz.ntmps22
  go_wp2_with fail
  generalize (w.alloc (.cells #[.string ⟨#[]⟩, .string ⟨#[]⟩, .slice none 0 0] 33)).alloc (.cells #[.string ⟨#[67, 111, 111, 107, 105, 101]⟩, .string ⟨#[97, 61, 98]⟩] 25) = W at *
  have hF : FieldsAt W (.slice (some ⟨w.heap.size + 1, 0, none⟩) 1 1) givF := fields_row givF HT.out.b2 rfl
  refine (vars_Of ⟨#[71, 69, 84]⟩ ⟨#[47]⟩ ⟨#[]⟩ ⟨#[104]⟩ 1 _ _ _ givF W hF (by decide)).mono ?_
  rintro e w1 ⟨a', c', rfl, hown, hb1⟩
  have HE := Lib.hid (giv_end (h := ⟨#[104]⟩) (t := ⟨#[47]⟩) (v := .slice a' givF.length c') HT.out.below HT.out.b1 hb1)
  obtain ⟨⟨c0, c1, c2, f0, f1, f2⟩, k0, k1, k2, hbel⟩ := HE.out
  have HO := Lib.hid hown
  have HBel := Lib.hid hbel
  have hlt : w.heap.size < W.heap.size := by have := HT.out.size; omega
  clear hown hbel hF hb1
  have HK := Lib.hid (And.intro k0 (And.intro k1 k2))
  clear k0 k1 k2
  go_wp2
  obtain ⟨k0, k1, k2⟩ := HK.out
  clear c0 c1 c2 f0 f1 f2
  refine bodyPost_ret (v := .agg #[.string ⟨#[104]⟩, .string ⟨#[47]⟩, .slice a' givF.length c']) ?_ rfl ⟨a', c', rfl, fown_base (fown_set (fown_set (fown_set HO.out hlt) hlt) hlt) (Nat.le_of_lt hlt), HBel.out⟩
  simp [results, Tryz.f22, go_sem, k0, k1, k2]

/-- What a text becomes by the given variables. -/
def gives (s want : Bs) : Prop := vapply [104] [47] givF s = (want, 0)
set_option maxRecDepth 100000 in
theorem law_makes (s want : ByteArray) (w : World) (hg : Good w) (hs : s.size ≤ 1000000) (h : gives s.data.toList want.data.toList) :
    Calls Tryz.prog 16 #[.string s, .string want] w (Ret w (.bool true)) := by
  have HG := Lib.hid hg
  have HH := Lib.hid h
  clear hg h
  go_enter Tryz.func16, Tryz.ntmps16
  go_wp2_with fail
  refine (law_given _).mono ?_
  rintro e w1 ⟨a', c', rfl, hown, hb1⟩
  go_wp2_with fail
  refine (sub_Apply s ⟨#[104]⟩ ⟨#[47]⟩ a' _ c' givF w1 (HG.out.next hb1) hown.at giv_lim (by decide) hs).mono ?_
  rintro e w2 ⟨rfl, hb2⟩
  have e1 : vapply (⟨#[104]⟩ : ByteArray).data.toList (⟨#[47]⟩ : ByteArray).data.toList givF s.data.toList = (want.data.toList, 0) := HH.out
  rw [e1, show applyV (want.data.toList, 0) = .tuple #[.string want, .int .i64 0] from rfl]
  clear e1 hown
  have HB := Lib.hid (hb1.trans (hb2.mono hb1.size))
  clear hb1 hb2
  go_wp2
  go_ret
  exact ⟨rfl, HB.out⟩

theorem wk0 : gives [120, 36, 40, 72, 84, 84, 80, 95, 72, 79, 83, 84, 41, 121, 36, 40, 72, 84, 84, 80, 95, 67, 79, 79, 75, 73, 69, 123, 97, 125, 41] [120, 104, 121, 98] := by unfold gives; kernel_rfl
theorem wk1 : gives [36, 40, 72, 84, 84, 80, 95, 67, 79, 79, 75, 73, 69, 123, 99, 125, 124, 100, 41] [100] := by unfold gives; kernel_rfl
theorem wk2 : gives [36, 40, 72, 84, 84, 80, 95, 72, 79, 83, 84] [36, 40, 72, 84, 84, 80, 95, 72, 79, 83, 84] := by unfold gives; kernel_rfl

set_option maxRecDepth 100000 in
theorem law_works (w : World) (hg : Good w) : Calls Tryz.prog 8 #[] w (Ret w (.bool true)) := by
  go_enter Tryz.func8, Tryz.ntmps8
  go_wp2_with fail
  refine (law_makes ⟨#[120, 36, 40, 72, 84, 84, 80, 95, 72, 79, 83, 84, 41, 121, 36, 40, 72, 84, 84, 80, 95, 67, 79, 79, 75, 73, 69, 123, 97, 125, 41]⟩ ⟨#[120, 104, 121, 98]⟩ _ hg (by decide) wk0).mono ?_
  rintro e w1 ⟨rfl, hc1⟩
  have hb1 := hc1
  clear hc1
  go_wp2_with fail
  refine (law_makes ⟨#[36, 40, 72, 84, 84, 80, 95, 67, 79, 79, 75, 73, 69, 123, 99, 125, 124, 100, 41]⟩ ⟨#[100]⟩ _ (hg.next hb1) (by decide) wk1).mono ?_
  rintro e w2 ⟨rfl, hc2⟩
  have hb2 := hb1.trans (hc2.mono hb1.size)
  clear hc2
  go_wp2_with fail
  refine (law_makes ⟨#[36, 40, 72, 84, 84, 80, 95, 72, 79, 83, 84]⟩ ⟨#[36, 40, 72, 84, 84, 80, 95, 72, 79, 83, 84]⟩ _ (hg.next hb2) (by decide) wk2).mono ?_
  rintro e w3 ⟨rfl, hc3⟩
  have hb3 := hb2.trans (hc3.mono hb2.size)
  clear hc3
  go_wp2
  go_ret
  exact ⟨rfl, hb3⟩
end Go.Proofs.YtoipnaoijccokaaGreatDoor
