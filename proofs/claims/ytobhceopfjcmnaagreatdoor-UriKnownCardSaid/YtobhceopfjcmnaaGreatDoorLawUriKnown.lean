/- The law UriKnown: the chapter's examples; URIs that may not be. -/
import Derived.Test.YtobhceopfjcmnaaGreatDoorUriAwake
import Derived.Test.YtobhceopfjcmnaaGreatDoorUriNorm
import Derived.Deep.RegionHeld3
namespace Go.Proofs.YtobhceopfjcmnaaGreatDoor
open Go.RowKit
set_option linter.unusedVariables false

def badL : List Bs := [[104, 116, 116, 112, 58, 47, 47, 47], [104, 116, 116, 112, 58, 47, 47, 97, 58, 47], [104, 116, 116, 112, 58, 47, 47, 97, 58, 48, 56, 48, 47], [104, 116, 116, 112, 58, 47, 47, 97, 58, 54, 53, 53, 51, 54, 47], [104, 116, 116, 112, 58, 47, 47, 97, 47, 98, 32, 99], [104, 116, 116, 112, 58, 47, 47, 97, 47, 37, 52], [104, 116, 116, 112, 58, 47, 47, 117, 64, 97, 47], [104, 116, 116, 112, 58, 47, 47, 97, 47, 35, 102], [72, 84, 84, 80, 58, 47, 47, 97, 47], [104, 116, 116, 112, 58, 47, 47, 97, 58, 48, 47], [104, 116, 116, 112, 58, 47, 47, 97, 95, 98, 47], [97], [], [104, 116, 116, 112, 58, 47, 47], [104, 116, 116, 112, 58, 47, 97], [104, 116, 116, 112, 58, 47, 47, 97, 47, 37, 103, 103], [104, 116, 116, 112, 58, 47, 47, 97, 58, 49, 58, 50, 47], [104, 116, 116, 112, 58, 47, 47, 97, 47, 128]]
def pathsL : List Bs := [[47, 97, 47, 46, 46], [47], [47, 97, 47, 46], [47, 97, 47], [47, 46, 46, 47, 97], [47, 97], [47, 47, 97, 47, 46, 46, 47, 98], [47, 47, 98], [47], [47], [47, 47], [47, 47], [47, 97, 47, 47, 46, 46], [47, 97, 47], [], [], [97, 47, 46, 46], [], [47, 46, 46, 46], [47, 46, 46, 46], [47, 46, 47, 97, 47, 46, 46, 98, 47], [47, 97, 47, 46, 46, 98, 47]]
theorem scells_one {W : World} {b : Nat} {cs : Array Value} {t : TypeId} (ls : List Bs) (h : W.heap[b]? = some (.cells cs t)) (hcs : cs = (scells ls).toArray) : SCells W b 0 ls := by
  subst hcs
  intro j l hl
  rw [Nat.zero_add]
  exact (cell_of_row _ _ _ _ _ _ h).trans (by simp [scells, hl])
theorem bad_all : ∀ r ∈ badL, parseB r = (noU, 4) := by
  intro r hr
  simp only [badL, List.mem_cons, List.not_mem_nil, or_false] at hr
  rcases hr with rfl | rfl | rfl | rfl | rfl | rfl | rfl | rfl | rfl | rfl | rfl | rfl | rfl | rfl | rfl | rfl | rfl | rfl <;> kernel_rfl
theorem bad_len : badL.all (fun r => decide (r.length ≤ 1000)) = true := by kernel_rfl
theorem bad_at {k : Nat} (hk : k < 18) : ∃ r, badL[k]? = some r ∧ parseB r = (noU, 4) ∧ r.length ≤ 1000 := by
  have h1 : k < badL.length := hk
  have := List.all_eq_true.1 bad_len badL[k] (List.getElem_mem h1)
  rw [decide_eq_true_eq] at this
  exact ⟨badL[k], List.getElem?_eq_getElem h1, bad_all _ (List.getElem_mem h1), this⟩
theorem paths_all : (List.range 11).all (fun k => decide (dotsB (pathsL[2 * k]?.getD []) = pathsL[2 * k + 1]?.getD []) && decide ((pathsL[2 * k]?.getD []).length ≤ 1000)) = true := by kernel_rfl
theorem paths_at {k : Nat} (hk : k < 11) : ∃ r x, pathsL[2 * k]? = some r ∧ pathsL[2 * k + 1]? = some x ∧ dotsB r = x ∧ r.length ≤ 1000 := by
  have h1 : 2 * k < pathsL.length := by show 2 * k < 22; omega
  have h2 : 2 * k + 1 < pathsL.length := by show 2 * k + 1 < 22; omega
  have := List.all_eq_true.1 paths_all k (List.mem_range.2 hk)
  rw [List.getElem?_eq_getElem h1, List.getElem?_eq_getElem h2, Option.getD_some, Option.getD_some, Bool.and_eq_true, decide_eq_true_eq, decide_eq_true_eq] at this
  exact ⟨pathsL[2 * k], pathsL[2 * k + 1], List.getElem?_eq_getElem h1, List.getElem?_eq_getElem h2, this.1, this.2⟩
theorem uk1 : parseB [104, 116, 116, 112, 115, 58, 47, 47, 97] = ((⟨[104, 116, 116, 112, 115], [97], 0, [47], [], false⟩ : U), 0) := by kernel_rfl
theorem uk2 : parseB [104, 116, 116, 112, 58, 47, 47, 97, 63] = ((⟨[104, 116, 116, 112], [97], 0, [47], [], true⟩ : U), 0) := by kernel_rfl
theorem uk3 : okB (⟨[104, 116, 116, 112], [97], 0, [47, 37, 52, 97], [], false⟩ : U) = true ∧ textB (⟨[104, 116, 116, 112], [97], 0, [47, 37, 52, 97], [], false⟩ : U) = [104, 116, 116, 112, 58, 47, 47, 97, 47, 37, 52, 97] := ⟨by kernel_rfl, by kernel_rfl⟩
theorem ukw : checkB (⟨[104, 116, 116, 112], [97], 0, [47], [113], false⟩ : U) = 4 ∧ putB (⟨[104, 116, 116, 112], [97], 0, [47], [113], false⟩ : U) = [] ∧ normB (⟨[104, 116, 116, 112], [97], 0, [47], [113], false⟩ : U) = noU := ⟨by kernel_rfl, by kernel_rfl, by kernel_rfl⟩
theorem ukm : checkB (⟨[104, 116, 116, 112], [97], -1, [47], [], false⟩ : U) = 4 := by kernel_rfl
theorem ukn0 : (parseB [104, 116, 116, 112, 58, 47, 47, 65, 58, 56, 48, 47, 37, 55, 101, 98, 47, 37, 50, 70, 47, 46, 46, 47, 99, 47, 46, 47, 37, 50, 101, 37, 50, 69, 47, 100, 63, 37, 54, 49, 37, 51, 100]).2 = 0 ∧ okB (parseB [104, 116, 116, 112, 58, 47, 47, 65, 58, 56, 48, 47, 37, 55, 101, 98, 47, 37, 50, 70, 47, 46, 46, 47, 99, 47, 46, 47, 37, 50, 101, 37, 50, 69, 47, 100, 63, 37, 54, 49, 37, 51, 100]).1 = true ∧ putB (normB (parseB [104, 116, 116, 112, 58, 47, 47, 65, 58, 56, 48, 47, 37, 55, 101, 98, 47, 37, 50, 70, 47, 46, 46, 47, 99, 47, 46, 47, 37, 50, 101, 37, 50, 69, 47, 100, 63, 37, 54, 49, 37, 51, 100]).1) = [104, 116, 116, 112, 58, 47, 47, 97, 47, 126, 98, 47, 100, 63, 97, 37, 51, 68] ∧ okB (normB (parseB [104, 116, 116, 112, 58, 47, 47, 65, 58, 56, 48, 47, 37, 55, 101, 98, 47, 37, 50, 70, 47, 46, 46, 47, 99, 47, 46, 47, 37, 50, 101, 37, 50, 69, 47, 100, 63, 37, 54, 49, 37, 51, 100]).1) = true := ⟨by kernel_rfl, by kernel_rfl, by kernel_rfl, by kernel_rfl⟩
theorem ukn1 : (parseB [104, 116, 116, 112, 115, 58, 47, 47, 97, 58, 52, 52, 51, 47, 63]).2 = 0 ∧ okB (parseB [104, 116, 116, 112, 115, 58, 47, 47, 97, 58, 52, 52, 51, 47, 63]).1 = true ∧ putB (normB (parseB [104, 116, 116, 112, 115, 58, 47, 47, 97, 58, 52, 52, 51, 47, 63]).1) = [104, 116, 116, 112, 115, 58, 47, 47, 97, 47, 63] ∧ okB (normB (parseB [104, 116, 116, 112, 115, 58, 47, 47, 97, 58, 52, 52, 51, 47, 63]).1) = true := ⟨by kernel_rfl, by kernel_rfl, by kernel_rfl, by kernel_rfl⟩
theorem ukn2 : (parseB [104, 116, 116, 112, 58, 47, 47, 97, 58, 52, 52, 51, 47, 46, 46]).2 = 0 ∧ okB (parseB [104, 116, 116, 112, 58, 47, 47, 97, 58, 52, 52, 51, 47, 46, 46]).1 = true ∧ putB (normB (parseB [104, 116, 116, 112, 58, 47, 47, 97, 58, 52, 52, 51, 47, 46, 46]).1) = [104, 116, 116, 112, 58, 47, 47, 97, 58, 52, 52, 51, 47] ∧ okB (normB (parseB [104, 116, 116, 112, 58, 47, 47, 97, 58, 52, 52, 51, 47, 46, 46]).1) = true := ⟨by kernel_rfl, by kernel_rfl, by kernel_rfl, by kernel_rfl⟩
theorem uka : (parseB ([104, 116, 116, 112, 58, 47, 47, 97, 47] ++ Lib.repeatL [120] 1015)).2 = 0 := by kernel_rfl
theorem ukb : (parseB ([104, 116, 116, 112, 58, 47, 47, 97, 47] ++ Lib.repeatL [120] 1015 ++ [120])).2 = 3 := by kernel_rfl
theorem ukc : (parseB ([104, 116, 116, 112, 58, 47, 47, 97, 63] ++ Lib.repeatL [120] 1015)).2 = 3 := by kernel_rfl
theorem ukl : (Lib.repeatL [(120 : UInt8)] 1015).length = 1015 := by kernel_rfl

theorem uk_sum (W : World) (a b : Bs) (h : a.length + b.length ≤ 100000) : (Op.stringOp .add ⟨a.toArray⟩ ⟨b.toArray⟩).run Tryz.prog W = .ok (.string ⟨(a ++ b).toArray⟩) W := by
  have := run_string_add_sum (P := Tryz.prog) W ⟨a.toArray⟩ ⟨b.toArray⟩ (by rw [← bs_size, ← bs_size]; show a.length + b.length ≤ _; omega)
  rw [cat_bs] at this; exact this
theorem uk_rep : ∃ (z za zb zc : Bs) (va vb vc : U), Lib.repeatL [(120 : UInt8)] 1015 = z ∧ (∀ W, (Op.stringOp .add ⟨#[104, 116, 116, 112, 58, 47, 47, 97, 47]⟩ ⟨z.toArray⟩).run Tryz.prog W = .ok (.string ⟨za.toArray⟩) W) ∧ (∀ W, (Op.stringOp .add ⟨za.toArray⟩ ⟨#[120]⟩).run Tryz.prog W = .ok (.string ⟨zb.toArray⟩) W) ∧ (∀ W, (Op.stringOp .add ⟨#[104, 116, 116, 112, 58, 47, 47, 97, 63]⟩ ⟨z.toArray⟩).run Tryz.prog W = .ok (.string ⟨zc.toArray⟩) W) ∧ parseB za = (va, 0) ∧ parseB zb = (vb, 3) ∧ parseB zc = (vc, 3) ∧ za.length ≤ 2000 ∧ zb.length ≤ 2000 ∧ zc.length ≤ 2000 := by
  refine ⟨_, [104, 116, 116, 112, 58, 47, 47, 97, 47] ++ Lib.repeatL [120] 1015, [104, 116, 116, 112, 58, 47, 47, 97, 47] ++ Lib.repeatL [120] 1015 ++ [120], [104, 116, 116, 112, 58, 47, 47, 97, 63] ++ Lib.repeatL [120] 1015, _, _, _, rfl, ?_, ?_, ?_, by rw [← uka], by rw [← ukb], by rw [← ukc], ?_, ?_, ?_⟩
  · exact fun W => uk_sum W _ _ (by rw [ukl]; decide)
  · exact fun W => uk_sum W _ _ (by rw [List.length_append, ukl]; decide)
  · exact fun W => uk_sum W _ _ (by rw [ukl]; decide)
  · rw [List.length_append, ukl]; decide
  · rw [List.length_append, List.length_append, ukl]; decide
  · rw [List.length_append, ukl]; decide
theorem cells2_next {W W' : World} {b i j : Nat} {v x : Value} (h : W.cell? ⟨b, i, none⟩ = some v ∧ W.cell? ⟨b, j, none⟩ = some x) (hlt : b < W.heap.size) (hb : Below W.heap.size W W') : W'.cell? ⟨b, i, none⟩ = some v ∧ W'.cell? ⟨b, j, none⟩ = some x :=
  ⟨(hb.cell (p := ⟨b, i, none⟩) hlt).trans h.1, (hb.cell (p := ⟨b, j, none⟩) hlt).trans h.2⟩

set_option maxRecDepth 100000 in
theorem law09_normal (s x : Bs) (w : World) (hg : GX w) (hl : s.length ≤ 1000) (h : (parseB s).2 = 0 ∧ okB (parseB s).1 = true ∧ putB (normB (parseB s).1) = x ∧ okB (normB (parseB s).1) = true) :
    Calls Tryz.prog 27 #[.string ⟨s.toArray⟩] w (Ret w (.string ⟨x.toArray⟩)) := by
  obtain ⟨v, hv⟩ : ∃ v, parseB s = (v, 0) := ⟨_, by rw [← h.1]⟩
  rw [hv] at h
  obtain ⟨_, h2, h3, h4⟩ := h
  have HT := Lib.hid hv
  have HG := Lib.hid hg
  have H2 := Lib.hid (limU_ok h2)
  have H3 := Lib.hid h3
  have H4 := Lib.hid (limU_ok h4)
  clear hg hv h2 h3 h4
  go_enter Tryz.func27, Tryz.ntmps27
  go_wp2_with fail
  refine (uri_Parse ⟨s.toArray⟩ w HG.out (by rw [← bs_size]; simp; omega)).mono ?_
  rintro e w1 ⟨rfl, hb1⟩
  have hp : parseB (⟨s.toArray⟩ : ByteArray).data.toList = (v, 0) := HT.out
  rw [hp]
  have HB2 := Lib.hid (ubx_new w1 v)
  have HW2 := Lib.hid (hb1.alloc (by have := hb1.size; omega) (uObj v))
  clear hb1 hp
  obtain ⟨d0, d1, d2, d3, d4, d5⟩ := HB2.out.cells
  go_wp2_with fail
  refine (uri_Normal v _ (HG.out.next HW2.out) H2.out).mono ?_
  rintro e w2 ⟨rfl, hb2⟩
  have HW3 := Lib.hid (HW2.out.trans (hb2.mono HW2.out.size))
  clear hb2
  generalize normB v = n at *
  go_wp2_with fail
  refine (uri_Put n _ (HG.out.next HW3.out) H4.out).mono ?_
  rintro e w3 ⟨rfl, hb3⟩
  rw [H3.out]
  have HW4 := Lib.hid (HW3.out.trans (hb3.mono HW3.out.size))
  clear hb3
  go_wp2_with fail
  go_ret
  exact ⟨rfl, HW4.out⟩

set_option maxRecDepth 100000 in
set_option maxHeartbeats 2000000 in
theorem law09_UriKnown (w : World) (hg : GX w) : Calls Tryz.prog 5 #[] w (Ret w (.bool true)) := by
  have HG := Lib.hid hg
  clear hg
  go_enter Tryz.func5, Tryz.ntmps5
  go_wp2_with fail
  refine (uri_Parse ⟨#[104, 116, 116, 112, 115, 58, 47, 47, 97]⟩ w HG.out (by decide)).mono ?_
  rintro e w1 ⟨rfl, hb1⟩
  rw [show parseB (⟨#[104, 116, 116, 112, 115, 58, 47, 47, 97]⟩ : ByteArray).data.toList = ((⟨[104, 116, 116, 112, 115], [97], 0, [47], [], false⟩ : U), 0) from uk1]
  have HB1 := Lib.hid (ubx_new w1 (⟨[104, 116, 116, 112, 115], [97], 0, [47], [], false⟩ : U))
  have HW1 := Lib.hid (hb1.alloc (by have := hb1.size; omega) (uObj (⟨[104, 116, 116, 112, 115], [97], 0, [47], [], false⟩ : U)))
  clear hb1
  go_wp2_with fail
  refine (uri_Parse ⟨#[104, 116, 116, 112, 58, 47, 47, 97, 63]⟩ _ (HG.out.next HW1.out) (by decide)).mono ?_
  rintro e w2 ⟨rfl, hb2⟩
  rw [show parseB (⟨#[104, 116, 116, 112, 58, 47, 47, 97, 63]⟩ : ByteArray).data.toList = ((⟨[104, 116, 116, 112], [97], 0, [47], [], true⟩ : U), 0) from uk2]
  have HC1 := Lib.hid ((HB1.out.next hb2).next ((Below.refl w2.heap.size w2).alloc (Nat.le_refl _) (uObj (⟨[104, 116, 116, 112], [97], 0, [47], [], true⟩ : U))))
  have HB2 := Lib.hid (ubx_new w2 (⟨[104, 116, 116, 112], [97], 0, [47], [], true⟩ : U))
  have HW2 := Lib.hid ((HW1.out.trans (hb2.mono HW1.out.size)).alloc (by have h1 := HW1.out.size; have h2 := hb2.size; omega) (uObj (⟨[104, 116, 116, 112], [97], 0, [47], [], true⟩ : U)))
  clear hb2 HB1 HW1
  obtain ⟨c0, c1, c2, c3, c4, c5⟩ := HC1.out.cells
  obtain ⟨d0, d1, d2, d3, d4, d5⟩ := HB2.out.cells
  go_wp2_with fail
  have K3 := law09_is (⟨[104, 116, 116, 112], [97], 0, [47, 37, 52, 97], [], false⟩ : U) (w2.alloc (.cells #[.string ⟨#[104, 116, 116, 112]⟩, .string ⟨#[97]⟩, .int .i64 0, .string ⟨#[47]⟩, .string ⟨#[]⟩, .bool true] 23)) (HG.out.next HW2.out) uk3.1
  rw [uk3.2] at K3
  refine K3.mono ?_
  clear K3
  rintro e w3 ⟨rfl, hb3⟩
  have HW3 := Lib.hid (HW2.out.trans (hb3.mono HW2.out.size))
  clear hb3 c0 c1 c2 c3 c4 c5 d0 d1 d2 d3 d4 d5 HC1 HB2 HW2
  have HR := Lib.hid (scells_one badL (heap_alloc_new w3 (.cells #[.string ⟨#[104, 116, 116, 112, 58, 47, 47, 47]⟩, .string ⟨#[104, 116, 116, 112, 58, 47, 47, 97, 58, 47]⟩, .string ⟨#[104, 116, 116, 112, 58, 47, 47, 97, 58, 48, 56, 48, 47]⟩, .string ⟨#[104, 116, 116, 112, 58, 47, 47, 97, 58, 54, 53, 53, 51, 54, 47]⟩, .string ⟨#[104, 116, 116, 112, 58, 47, 47, 97, 47, 98, 32, 99]⟩, .string ⟨#[104, 116, 116, 112, 58, 47, 47, 97, 47, 37, 52]⟩, .string ⟨#[104, 116, 116, 112, 58, 47, 47, 117, 64, 97, 47]⟩, .string ⟨#[104, 116, 116, 112, 58, 47, 47, 97, 47, 35, 102]⟩, .string ⟨#[72, 84, 84, 80, 58, 47, 47, 97, 47]⟩, .string ⟨#[104, 116, 116, 112, 58, 47, 47, 97, 58, 48, 47]⟩, .string ⟨#[104, 116, 116, 112, 58, 47, 47, 97, 95, 98, 47]⟩, .string ⟨#[97]⟩, .string ⟨#[]⟩, .string ⟨#[104, 116, 116, 112, 58, 47, 47]⟩, .string ⟨#[104, 116, 116, 112, 58, 47, 97]⟩, .string ⟨#[104, 116, 116, 112, 58, 47, 47, 97, 47, 37, 103, 103]⟩, .string ⟨#[104, 116, 116, 112, 58, 47, 47, 97, 58, 49, 58, 50, 47]⟩, .string ⟨#[104, 116, 116, 112, 58, 47, 47, 97, 47, 128]⟩] 9)) rfl)
  have HWR := Lib.hid (HW3.out.alloc (by have := HW3.out.size; omega) (.cells #[.string ⟨#[104, 116, 116, 112, 58, 47, 47, 47]⟩, .string ⟨#[104, 116, 116, 112, 58, 47, 47, 97, 58, 47]⟩, .string ⟨#[104, 116, 116, 112, 58, 47, 47, 97, 58, 48, 56, 48, 47]⟩, .string ⟨#[104, 116, 116, 112, 58, 47, 47, 97, 58, 54, 53, 53, 51, 54, 47]⟩, .string ⟨#[104, 116, 116, 112, 58, 47, 47, 97, 47, 98, 32, 99]⟩, .string ⟨#[104, 116, 116, 112, 58, 47, 47, 97, 47, 37, 52]⟩, .string ⟨#[104, 116, 116, 112, 58, 47, 47, 117, 64, 97, 47]⟩, .string ⟨#[104, 116, 116, 112, 58, 47, 47, 97, 47, 35, 102]⟩, .string ⟨#[72, 84, 84, 80, 58, 47, 47, 97, 47]⟩, .string ⟨#[104, 116, 116, 112, 58, 47, 47, 97, 58, 48, 47]⟩, .string ⟨#[104, 116, 116, 112, 58, 47, 47, 97, 95, 98, 47]⟩, .string ⟨#[97]⟩, .string ⟨#[]⟩, .string ⟨#[104, 116, 116, 112, 58, 47, 47]⟩, .string ⟨#[104, 116, 116, 112, 58, 47, 97]⟩, .string ⟨#[104, 116, 116, 112, 58, 47, 47, 97, 47, 37, 103, 103]⟩, .string ⟨#[104, 116, 116, 112, 58, 47, 47, 97, 58, 49, 58, 50, 47]⟩, .string ⟨#[104, 116, 116, 112, 58, 47, 47, 97, 47, 128]⟩] 9))
  have hsr : w3.heap.size < (w3.alloc (.cells #[.string ⟨#[104, 116, 116, 112, 58, 47, 47, 47]⟩, .string ⟨#[104, 116, 116, 112, 58, 47, 47, 97, 58, 47]⟩, .string ⟨#[104, 116, 116, 112, 58, 47, 47, 97, 58, 48, 56, 48, 47]⟩, .string ⟨#[104, 116, 116, 112, 58, 47, 47, 97, 58, 54, 53, 53, 51, 54, 47]⟩, .string ⟨#[104, 116, 116, 112, 58, 47, 47, 97, 47, 98, 32, 99]⟩, .string ⟨#[104, 116, 116, 112, 58, 47, 47, 97, 47, 37, 52]⟩, .string ⟨#[104, 116, 116, 112, 58, 47, 47, 117, 64, 97, 47]⟩, .string ⟨#[104, 116, 116, 112, 58, 47, 47, 97, 47, 35, 102]⟩, .string ⟨#[72, 84, 84, 80, 58, 47, 47, 97, 47]⟩, .string ⟨#[104, 116, 116, 112, 58, 47, 47, 97, 58, 48, 47]⟩, .string ⟨#[104, 116, 116, 112, 58, 47, 47, 97, 95, 98, 47]⟩, .string ⟨#[97]⟩, .string ⟨#[]⟩, .string ⟨#[104, 116, 116, 112, 58, 47, 47]⟩, .string ⟨#[104, 116, 116, 112, 58, 47, 97]⟩, .string ⟨#[104, 116, 116, 112, 58, 47, 47, 97, 47, 37, 103, 103]⟩, .string ⟨#[104, 116, 116, 112, 58, 47, 47, 97, 58, 49, 58, 50, 47]⟩, .string ⟨#[104, 116, 116, 112, 58, 47, 47, 97, 47, 128]⟩] 9)).heap.size := by rw [World.size_alloc]; omega
  go_wp2_with fail
  generalize w3.alloc (.cells #[.string ⟨#[104, 116, 116, 112, 58, 47, 47, 47]⟩, .string ⟨#[104, 116, 116, 112, 58, 47, 47, 97, 58, 47]⟩, .string ⟨#[104, 116, 116, 112, 58, 47, 47, 97, 58, 48, 56, 48, 47]⟩, .string ⟨#[104, 116, 116, 112, 58, 47, 47, 97, 58, 54, 53, 53, 51, 54, 47]⟩, .string ⟨#[104, 116, 116, 112, 58, 47, 47, 97, 47, 98, 32, 99]⟩, .string ⟨#[104, 116, 116, 112, 58, 47, 47, 97, 47, 37, 52]⟩, .string ⟨#[104, 116, 116, 112, 58, 47, 47, 117, 64, 97, 47]⟩, .string ⟨#[104, 116, 116, 112, 58, 47, 47, 97, 47, 35, 102]⟩, .string ⟨#[72, 84, 84, 80, 58, 47, 47, 97, 47]⟩, .string ⟨#[104, 116, 116, 112, 58, 47, 47, 97, 58, 48, 47]⟩, .string ⟨#[104, 116, 116, 112, 58, 47, 47, 97, 95, 98, 47]⟩, .string ⟨#[97]⟩, .string ⟨#[]⟩, .string ⟨#[104, 116, 116, 112, 58, 47, 47]⟩, .string ⟨#[104, 116, 116, 112, 58, 47, 97]⟩, .string ⟨#[104, 116, 116, 112, 58, 47, 47, 97, 47, 37, 103, 103]⟩, .string ⟨#[104, 116, 116, 112, 58, 47, 47, 97, 58, 49, 58, 50, 47]⟩, .string ⟨#[104, 116, 116, 112, 58, 47, 47, 97, 47, 128]⟩] 9) = W at *
  go_loopw [6] (fun ix wr => ∃ k : Nat, ix = .int .i64 k ∧ k ≤ 18 ∧ Hid (Below W.heap.size W wr)) (fun ix _ => 18 - (intOf ix).toNat)
  case atStart => exact ⟨0, rfl, by omega, Lib.hid (Below.refl _ _)⟩
  case round =>
    obtain ⟨k, rfl, hk, HB⟩ := hrel
    have hsz := HB.out.size
    have HB3 := Lib.hid (HWR.out.trans (HB.out.mono HWR.out.size))
    by_cases hlt2 : k < 18
    · obtain ⟨r, hr, hp, hl⟩ := bad_at hlt2
      have hc1 : wr.cell? ⟨w3.heap.size, k, none⟩ = some (.string ⟨r.toArray⟩) := by
        have := (HR.out.below HB.out hsr) k r hr
        rw [Nat.zero_add] at this; exact this
      have HP := Lib.hid hp
      clear hr hp
      go_wp2_with fail
      refine (law09_no r _ (HG.out.next HB3.out) HP.out hl).mono ?_
      rintro e w4 ⟨rfl, hb4⟩
      have HB4 := Lib.hid (HB.out.trans (hb4.mono hsz))
      clear hb4
      go_wp2_with fail
      go_roundw
      case rel => exact ⟨k + 1, by go_num, by omega, HB4⟩
      case measure => (simp [intOf] <;> omega)
    · have hk2 : k = 18 := by omega
      go_wp2_with fail
      refine (law09_normal [104, 116, 116, 112, 58, 47, 47, 65, 58, 56, 48, 47, 37, 55, 101, 98, 47, 37, 50, 70, 47, 46, 46, 47, 99, 47, 46, 47, 37, 50, 101, 37, 50, 69, 47, 100, 63, 37, 54, 49, 37, 51, 100] [104, 116, 116, 112, 58, 47, 47, 97, 47, 126, 98, 47, 100, 63, 97, 37, 51, 68] _ (HG.out.next HB3.out) (by decide) ukn0).mono ?_
      rintro e n0 ⟨rfl, hb⟩
      have HN0 := Lib.hid (HB3.out.trans (hb.mono HB3.out.size))
      clear hb
      go_wp2_with fail
      refine (law09_normal [104, 116, 116, 112, 115, 58, 47, 47, 97, 58, 52, 52, 51, 47, 63] [104, 116, 116, 112, 115, 58, 47, 47, 97, 47, 63] _ (HG.out.next HN0.out) (by decide) ukn1).mono ?_
      rintro e n1 ⟨rfl, hb⟩
      have HN1 := Lib.hid (HN0.out.trans (hb.mono HN0.out.size))
      clear hb
      go_wp2_with fail
      refine (law09_normal [104, 116, 116, 112, 58, 47, 47, 97, 58, 52, 52, 51, 47, 46, 46] [104, 116, 116, 112, 58, 47, 47, 97, 58, 52, 52, 51, 47] _ (HG.out.next HN1.out) (by decide) ukn2).mono ?_
      rintro e n2 ⟨rfl, hb⟩
      have HN2 := Lib.hid (HN1.out.trans (hb.mono HN1.out.size))
      clear hb
      go_upto_region 13 with fail
      clear HR HB3 HB hsr hsz
      have HR := Lib.hid (scells_one pathsL (heap_alloc_new n2 (.cells #[.string ⟨#[47, 97, 47, 46, 46]⟩, .string ⟨#[47]⟩, .string ⟨#[47, 97, 47, 46]⟩, .string ⟨#[47, 97, 47]⟩, .string ⟨#[47, 46, 46, 47, 97]⟩, .string ⟨#[47, 97]⟩, .string ⟨#[47, 47, 97, 47, 46, 46, 47, 98]⟩, .string ⟨#[47, 47, 98]⟩, .string ⟨#[47]⟩, .string ⟨#[47]⟩, .string ⟨#[47, 47]⟩, .string ⟨#[47, 47]⟩, .string ⟨#[47, 97, 47, 47, 46, 46]⟩, .string ⟨#[47, 97, 47]⟩, .string ⟨#[]⟩, .string ⟨#[]⟩, .string ⟨#[97, 47, 46, 46]⟩, .string ⟨#[]⟩, .string ⟨#[47, 46, 46, 46]⟩, .string ⟨#[47, 46, 46, 46]⟩, .string ⟨#[47, 46, 47, 97, 47, 46, 46, 98, 47]⟩, .string ⟨#[47, 97, 47, 46, 46, 98, 47]⟩] 9)) rfl)
      have HWR := Lib.hid (HN2.out.alloc (by have := HN2.out.size; omega) (.cells #[.string ⟨#[47, 97, 47, 46, 46]⟩, .string ⟨#[47]⟩, .string ⟨#[47, 97, 47, 46]⟩, .string ⟨#[47, 97, 47]⟩, .string ⟨#[47, 46, 46, 47, 97]⟩, .string ⟨#[47, 97]⟩, .string ⟨#[47, 47, 97, 47, 46, 46, 47, 98]⟩, .string ⟨#[47, 47, 98]⟩, .string ⟨#[47]⟩, .string ⟨#[47]⟩, .string ⟨#[47, 47]⟩, .string ⟨#[47, 47]⟩, .string ⟨#[47, 97, 47, 47, 46, 46]⟩, .string ⟨#[47, 97, 47]⟩, .string ⟨#[]⟩, .string ⟨#[]⟩, .string ⟨#[97, 47, 46, 46]⟩, .string ⟨#[]⟩, .string ⟨#[47, 46, 46, 46]⟩, .string ⟨#[47, 46, 46, 46]⟩, .string ⟨#[47, 46, 47, 97, 47, 46, 46, 98, 47]⟩, .string ⟨#[47, 97, 47, 46, 46, 98, 47]⟩] 9))
      have hsr : n2.heap.size < (n2.alloc (.cells #[.string ⟨#[47, 97, 47, 46, 46]⟩, .string ⟨#[47]⟩, .string ⟨#[47, 97, 47, 46]⟩, .string ⟨#[47, 97, 47]⟩, .string ⟨#[47, 46, 46, 47, 97]⟩, .string ⟨#[47, 97]⟩, .string ⟨#[47, 47, 97, 47, 46, 46, 47, 98]⟩, .string ⟨#[47, 47, 98]⟩, .string ⟨#[47]⟩, .string ⟨#[47]⟩, .string ⟨#[47, 47]⟩, .string ⟨#[47, 47]⟩, .string ⟨#[47, 97, 47, 47, 46, 46]⟩, .string ⟨#[47, 97, 47]⟩, .string ⟨#[]⟩, .string ⟨#[]⟩, .string ⟨#[97, 47, 46, 46]⟩, .string ⟨#[]⟩, .string ⟨#[47, 46, 46, 46]⟩, .string ⟨#[47, 46, 46, 46]⟩, .string ⟨#[47, 46, 47, 97, 47, 46, 46, 98, 47]⟩, .string ⟨#[47, 97, 47, 46, 46, 98, 47]⟩] 9)).heap.size := by rw [World.size_alloc]; omega
      go_wp2_with fail
      generalize n2.alloc (.cells #[.string ⟨#[47, 97, 47, 46, 46]⟩, .string ⟨#[47]⟩, .string ⟨#[47, 97, 47, 46]⟩, .string ⟨#[47, 97, 47]⟩, .string ⟨#[47, 46, 46, 47, 97]⟩, .string ⟨#[47, 97]⟩, .string ⟨#[47, 47, 97, 47, 46, 46, 47, 98]⟩, .string ⟨#[47, 47, 98]⟩, .string ⟨#[47]⟩, .string ⟨#[47]⟩, .string ⟨#[47, 47]⟩, .string ⟨#[47, 47]⟩, .string ⟨#[47, 97, 47, 47, 46, 46]⟩, .string ⟨#[47, 97, 47]⟩, .string ⟨#[]⟩, .string ⟨#[]⟩, .string ⟨#[97, 47, 46, 46]⟩, .string ⟨#[]⟩, .string ⟨#[47, 46, 46, 46]⟩, .string ⟨#[47, 46, 46, 46]⟩, .string ⟨#[47, 46, 47, 97, 47, 46, 46, 98, 47]⟩, .string ⟨#[47, 97, 47, 46, 46, 98, 47]⟩] 9) = Y at *
      go_loopw [8] (fun ix wr => ∃ m k : Nat, m = 2 * k ∧ ix = .int .i64 m ∧ k ≤ 11 ∧ Hid (Below Y.heap.size Y wr)) (fun ix _ => 22 - (intOf ix).toNat)
      case atStart => exact ⟨0, 0, rfl, rfl, by omega, Lib.hid (Below.refl _ _)⟩
      case round =>
        obtain ⟨m, k, hm, rfl, hk, HB⟩ := hrel
        have hsz := HB.out.size
        have HB3 := Lib.hid (HWR.out.trans (HB.out.mono HWR.out.size))
        by_cases hlt3 : k < 11
        · obtain ⟨r, x, hr, hx, hd, hl⟩ := paths_at hlt3
          rw [← hm] at hr hx
          have HMk := Lib.hid hm
          have m1 : (0 : Int) ≤ (m : Int) := by omega
          have m2 : (m : Int) < 22 := by omega
          have m3 : (0 : Int) ≤ (m : Int) + 1 := by omega
          have m4 : (m : Int) + 1 < 22 := by omega
          clear hm
          have hc1 : wr.cell? ⟨n2.heap.size, m, none⟩ = some (.string ⟨r.toArray⟩) := by
            have := (HR.out.below HB.out hsr) m r hr
            rw [Nat.zero_add] at this; exact this
          have hc2 : wr.cell? ⟨n2.heap.size, m + 1, none⟩ = some (.string ⟨x.toArray⟩) := by
            have := (HR.out.below HB.out hsr) (m + 1) x hx
            rw [Nat.zero_add] at this; exact this
          have hl9 : n2.heap.size < wr.heap.size := by omega
          have HC := Lib.hid (show wr.drew.cell? ⟨n2.heap.size, m, none⟩ = some (.string ⟨r.toArray⟩) ∧ wr.drew.cell? ⟨n2.heap.size, m + 1, none⟩ = some (.string ⟨x.toArray⟩) from ⟨hc1, hc2⟩)
          have HD := Lib.hid hd
          have HBd := Lib.hid (show Below w.heap.size w wr.drew from HB3.out.drew)
          have p1 : IntKind.i64.wrap ((m : Int) + 1) = (m : Int) + 1 := IntWalk.i64_in _ (by omega)
          have hl8 : r.length ≤ 100000 := by omega
          clear hr hx hd hc1 hc2
          go_wp2_with fail
          go_region_held3 (fun w' => w'.cell? ⟨n2.heap.size, m, none⟩ = some (.string ⟨r.toArray⟩) ∧ w'.cell? ⟨n2.heap.size, m + 1, none⟩ = some (.string ⟨x.toArray⟩)) (first | with_reducible exact HC1.out | with_reducible exact HC.out)
            (first
              | (go_at_call 28; refine (uri_Dots r _ (HG.out.next HBd.out).good hl8).mono ?_; rintro e wy ⟨rfl, hby⟩; rw [HD.out]; have HC1 := Lib.hid (cells2_next HC.out hl9 hby); have HB4 := Lib.hid (HB.out.trans ((below_ofdrew hby).mono hsz)); clear hby))
          go_wp2_with fail
          go_roundw
          case rel => exact ⟨m + 2, k + 1, by have := HMk.out; omega, by go_num, by omega, HB4⟩
          case measure => (simp [intOf] <;> omega)
        · obtain rfl : m = 22 := by omega
          obtain ⟨z, za, zb, zc, va, vb, vc, hz, hs1, hs2, hs3, ha, hb2, hc, la, lb, lc⟩ := uk_rep
          have HZ := Lib.hid hz
          have HA := Lib.hid ha
          have HB2 := Lib.hid hb2
          have HCc := Lib.hid hc
          clear hz ha hb2 hc
          go_wp2_with fail
          refine (Tryz.strings_Repeat_main ⟨#[120]⟩ 1015 _ (by decide) (by decide) (by decide) (by decide)).mono ?_
          rintro e r1 ⟨rfl, hb⟩
          rw [show Lib.repeatL (⟨#[120]⟩ : ByteArray).data.toList 1015 = z from HZ.out]
          have HM1 := Lib.hid (HB3.out.trans (hb.mono HB3.out.size))
          clear hb
          go_wp2_with fail
          refine (uri_Parse ⟨za.toArray⟩ _ (HG.out.next HM1.out) (by rw [← bs_size]; simp; omega)).mono ?_
          rintro e q1 ⟨rfl, hb⟩
          rw [show parseB (⟨za.toArray⟩ : ByteArray).data.toList = (va, 0) from HA.out]
          have HM2 := Lib.hid ((HM1.out.trans (hb.mono HM1.out.size)).alloc (by have h1 := HM1.out.size; have h2 := hb.size; omega) (uObj va))
          clear hb
          go_wp2_with fail
          refine (uri_Parse ⟨zb.toArray⟩ _ (HG.out.next HM2.out) (by rw [← bs_size]; simp; omega)).mono ?_
          rintro e q2 ⟨rfl, hb⟩
          rw [show parseB (⟨zb.toArray⟩ : ByteArray).data.toList = (vb, 3) from HB2.out]
          have HM3 := Lib.hid ((HM2.out.trans (hb.mono HM2.out.size)).alloc (by have h1 := HM2.out.size; have h2 := hb.size; omega) (uObj vb))
          clear hb
          go_wp2_with fail
          refine (Tryz.strings_Repeat_main ⟨#[120]⟩ 1015 _ (by decide) (by decide) (by decide) (by decide)).mono ?_
          rintro e r2 ⟨rfl, hb⟩
          rw [show Lib.repeatL (⟨#[120]⟩ : ByteArray).data.toList 1015 = z from HZ.out]
          have HM4 := Lib.hid (HM3.out.trans (hb.mono HM3.out.size))
          clear hb
          go_wp2_with fail
          refine (uri_Parse ⟨zc.toArray⟩ _ (HG.out.next HM4.out) (by rw [← bs_size]; simp; omega)).mono ?_
          rintro e q3 ⟨rfl, hb⟩
          rw [show parseB (⟨zc.toArray⟩ : ByteArray).data.toList = (vc, 3) from HCc.out]
          have HM5 := Lib.hid (HM4.out.trans (hb.mono HM4.out.size))
          clear hb
          have HM6 := Lib.hid ((HM5.out.alloc HM5.out.size (uObj vc)).alloc (by have := HM5.out.size; rw [World.size_alloc]; omega) (.cells #[.string ⟨#[104, 116, 116, 112]⟩, .string ⟨#[97]⟩, .int .i64 0, .string ⟨#[47]⟩, .string ⟨#[113]⟩, .bool false] 23))
          have HBW := Lib.hid (show UBx ((q3.alloc (uObj vc)).alloc (.cells #[.string ⟨#[104, 116, 116, 112]⟩, .string ⟨#[97]⟩, .int .i64 0, .string ⟨#[47]⟩, .string ⟨#[113]⟩, .bool false] 23)) (q3.heap.size + 1) (⟨[104, 116, 116, 112], [97], 0, [47], [113], false⟩ : U) from (two_new q3 _ _).b2)
          obtain ⟨d0, d1, d2, d3, d4, d5⟩ := HBW.out.cells
          go_wp2_with fail
          refine (uri_Check (⟨[104, 116, 116, 112], [97], 0, [47], [113], false⟩ : U) _ (HG.out.next HM6.out) ⟨by decide, by decide, by decide, by decide⟩).mono ?_
          rintro e t1 ⟨rfl, hb⟩
          rw [ukw.1]
          have HM7 := Lib.hid (HM6.out.trans (hb.mono HM6.out.size))
          have HBW1 := Lib.hid (HBW.out.next hb)
          clear hb d0 d1 d2 d3 d4 d5 HBW
          obtain ⟨d0, d1, d2, d3, d4, d5⟩ := HBW1.out.cells
          go_wp2_with fail
          refine (uri_Put (⟨[104, 116, 116, 112], [97], 0, [47], [113], false⟩ : U) _ (HG.out.next HM7.out) ⟨by decide, by decide, by decide, by decide⟩).mono ?_
          rintro e t2 ⟨rfl, hb⟩
          rw [ukw.2.1]
          have HM8 := Lib.hid (HM7.out.trans (hb.mono HM7.out.size))
          have HBW2 := Lib.hid (HBW1.out.next hb)
          clear hb d0 d1 d2 d3 d4 d5 HBW1
          obtain ⟨d0, d1, d2, d3, d4, d5⟩ := HBW2.out.cells
          go_wp2_with fail
          refine (uri_Normal (⟨[104, 116, 116, 112], [97], 0, [47], [113], false⟩ : U) _ (HG.out.next HM8.out) ⟨by decide, by decide, by decide, by decide⟩).mono ?_
          rintro e t3 ⟨rfl, hb⟩
          rw [ukw.2.2]
          have HM9 := Lib.hid (HM8.out.trans (hb.mono HM8.out.size))
          clear hb d0 d1 d2 d3 d4 d5 HBW2
          unfold noU at *
          go_wp2_with fail
          refine (uri_Check (⟨[104, 116, 116, 112], [97], -1, [47], [], false⟩ : U) _ (HG.out.next HM9.out) ⟨by decide, by decide, by decide, by decide⟩).mono ?_
          rintro e t4 ⟨rfl, hb⟩
          rw [ukm]
          have HM10 := Lib.hid (HM9.out.trans (hb.mono HM9.out.size))
          clear hb
          go_wp2_with fail
          refine (law09_awake _ (HG.out.next HM10.out)).mono ?_
          rintro e t5 ⟨rfl, hb⟩
          have HM11 := Lib.hid (HM10.out.trans (hb.mono HM10.out.size))
          clear hb
          go_wp2_with fail
          go_ret
          exact ⟨rfl, HM11.out⟩
end Go.Proofs.YtobhceopfjcmnaaGreatDoor
