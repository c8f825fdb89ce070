/- The law ResolveKnown: the chapter's examples hold. -/
import Derived.Test.YtobhceopfjcmnaaGreatDoorResAwake
import Derived.Test.YtobhceopfjcmnaaGreatDoorMade
namespace Go.Proofs.YtobhceopfjcmnaaGreatDoor
open Go.RowKit
set_option linter.unusedVariables false

def refsL : List Bs := [[46, 47, 103], [103, 47], [47, 103], [47, 47, 103], [103, 63, 121], [35, 115], [103, 35, 115], [103, 63, 121, 35, 115], [59, 120], [103, 59, 120], [103, 59, 120, 63, 121, 35, 115], [], [46], [46, 47], [46, 46], [46, 46, 47], [46, 46, 47, 46, 46], [46, 46, 47, 46, 46, 47], [46, 46, 47, 46, 46, 47, 103], [46, 46, 47, 46, 46, 47, 46, 46, 47, 103], [46, 46, 47, 46, 46, 47, 46, 46, 47, 46, 46, 47, 103], [47, 46, 47, 103], [47, 46, 46, 47, 103], [103, 46], [46, 103], [103, 46, 46], [46, 46, 103], [46, 47, 46, 46, 47, 103], [46, 47, 103, 47, 46], [103, 47, 46, 47, 104], [103, 47, 46, 46, 47, 104], [103, 59, 120, 61, 49, 47, 46, 47, 121], [103, 59, 120, 61, 49, 47, 46, 46, 47, 121], [103, 63, 121, 47, 46, 47, 120], [103, 63, 121, 47, 46, 46, 47, 120], [103, 35, 115, 47, 46, 47, 120]]
def wantsL : List Bs := [[47, 98, 47, 99, 47, 103], [47, 98, 47, 99, 47, 103, 47], [47, 103], [], [47, 98, 47, 99, 47, 103, 63, 121], [47, 98, 47, 99, 47, 100, 59, 112, 63, 113], [47, 98, 47, 99, 47, 103], [47, 98, 47, 99, 47, 103, 63, 121], [47, 98, 47, 99, 47, 59, 120], [47, 98, 47, 99, 47, 103, 59, 120], [47, 98, 47, 99, 47, 103, 59, 120, 63, 121], [47, 98, 47, 99, 47, 100, 59, 112, 63, 113], [47, 98, 47, 99, 47], [47, 98, 47, 99, 47], [47, 98, 47], [47, 98, 47], [47], [47], [47, 103], [47, 103], [47, 103], [47, 103], [47, 103], [47, 98, 47, 99, 47, 103, 46], [47, 98, 47, 99, 47, 46, 103], [47, 98, 47, 99, 47, 103, 46, 46], [47, 98, 47, 99, 47, 46, 46, 103], [47, 98, 47, 103], [47, 98, 47, 99, 47, 103, 47], [47, 98, 47, 99, 47, 103, 47, 104], [47, 98, 47, 99, 47, 104], [47, 98, 47, 99, 47, 103, 59, 120, 61, 49, 47, 121], [47, 98, 47, 99, 47, 121], [47, 98, 47, 99, 47, 103, 63, 121, 47, 46, 47, 120], [47, 98, 47, 99, 47, 103, 63, 121, 47, 46, 46, 47, 120], [47, 98, 47, 99, 47, 103]]
def httpA : Bs := [104, 116, 116, 112, 58, 47, 47, 97]
def httpG : Bs := [104, 116, 116, 112, 58, 47, 47, 103, 47]
/-- Does a reference mean this? -/
def chkB (r want : Bs) : Bool := decide ((refB baseU r).2 = 0) && (putB (refB baseU r).1 == want) && okB (refB baseU r).1 && decide (r.length ≤ 100) && decide (want.length ≤ 100)
def Chk (r want : Bs) : Prop := ∃ v, refB baseU r = (v, 0) ∧ putB v = want ∧ okB v = true ∧ r.length ≤ 100 ∧ want.length ≤ 100
theorem chk_of {r want : Bs} (h : chkB r want = true) : Chk r want := by
  unfold chkB at h
  rw [Bool.and_eq_true, Bool.and_eq_true, Bool.and_eq_true, Bool.and_eq_true, decide_eq_true_eq, decide_eq_true_eq, decide_eq_true_eq, beq_iff_eq] at h
  obtain ⟨⟨⟨⟨h1, h2⟩, h3⟩, h4⟩, h5⟩ := h
  exact ⟨_, by rw [← h1], h2, h3, h4, h5⟩
theorem known_all : (List.range 36).all (fun k => chkB (refsL[k]?.getD []) (if refsL[k]?.getD [] = [47, 47, 103] then httpG else httpA ++ wantsL[k]?.getD []) && decide ((wantsL[k]?.getD []).length ≤ 100)) = true := by kernel_rfl
theorem known_at {k : Nat} (hk : k < 36) : ∃ r x, refsL[k]? = some r ∧ wantsL[k]? = some x ∧ Chk r (if r = [47, 47, 103] then httpG else httpA ++ x) ∧ x.length ≤ 100 := by
  have h1 : k < refsL.length := hk
  have h2 : k < wantsL.length := hk
  have := List.all_eq_true.1 known_all k (List.mem_range.2 hk)
  rw [List.getElem?_eq_getElem h1, List.getElem?_eq_getElem h2, Option.getD_some, Option.getD_some, Bool.and_eq_true, decide_eq_true_eq] at this
  exact ⟨refsL[k], wantsL[k], List.getElem?_eq_getElem h1, List.getElem?_eq_getElem h2, chk_of this.1, this.2⟩
theorem scells_row {W : World} {b : Nat} {cs : Array Value} {t : TypeId} (ls : List Bs) (h : W.heap[b]? = some (.cells cs t)) (hcs : cs = (scells ls).toArray) : SCells W b 0 ls := by
  subst hcs
  intro j l hl
  rw [Nat.zero_add]
  exact (cell_of_row _ _ _ _ _ _ h).trans (by simp [scells, hl])
theorem rk0 : refB baseU [104, 116, 116, 112, 58, 103] = (noU, 4) := by kernel_rfl
theorem rk1 : Chk [72, 84, 84, 80, 58, 47, 47, 71] [104, 116, 116, 112, 58, 47, 47, 103, 47] := chk_of (by kernel_rfl)
theorem rk2 : Chk [47, 47, 103, 58, 57, 57] [104, 116, 116, 112, 58, 47, 47, 103, 58, 57, 57, 47] := chk_of (by kernel_rfl)
theorem rk3 : refB baseU [47, 97, 32, 98] = (noU, 4) := by kernel_rfl
theorem rk4 : refB baseU [37, 122, 122] = (noU, 4) := by kernel_rfl
theorem rk5 : Chk [104, 116, 116, 112, 115, 58, 47, 47, 65, 58, 52, 52, 51, 63, 37, 55, 101] [104, 116, 116, 112, 115, 58, 47, 47, 97, 47, 63, 126] := chk_of (by kernel_rfl)
theorem rk6 : Chk [49, 97, 58, 98] [104, 116, 116, 112, 58, 47, 47, 97, 47, 98, 47, 99, 47, 49, 97, 58, 98] := chk_of (by kernel_rfl)
theorem rk7 : refB baseU [47, 47] = (noU, 4) := by kernel_rfl
theorem rk8 : Chk [46, 47, 103, 58, 104] [104, 116, 116, 112, 58, 47, 47, 97, 47, 98, 47, 99, 47, 103, 58, 104] := chk_of (by kernel_rfl)
theorem rk_arg : refB noU [103] = (noU, 2) := by kernel_rfl
theorem rk_long : refB noU (List.replicate 1025 0) = (noU, 3) := ref_long (by rw [List.length_replicate]; decide)
theorem noU_lim : LimU noU := ⟨by decide, by decide, by decide, by decide⟩

set_option maxRecDepth 100000 in
set_option maxHeartbeats 2000000 in
theorem law10_ResolveKnown (w : World) (hg : GX w) : Calls Tryz.prog 8 #[] w (Ret w (.bool true)) := by
  have HG := Lib.hid hg
  have HT := Lib.hid (two_new w (.cells #[.string ⟨#[46, 47, 103]⟩, .string ⟨#[103, 47]⟩, .string ⟨#[47, 103]⟩, .string ⟨#[47, 47, 103]⟩, .string ⟨#[103, 63, 121]⟩, .string ⟨#[35, 115]⟩, .string ⟨#[103, 35, 115]⟩, .string ⟨#[103, 63, 121, 35, 115]⟩, .string ⟨#[59, 120]⟩, .string ⟨#[103, 59, 120]⟩, .string ⟨#[103, 59, 120, 63, 121, 35, 115]⟩, .string ⟨#[]⟩, .string ⟨#[46]⟩, .string ⟨#[46, 47]⟩, .string ⟨#[46, 46]⟩, .string ⟨#[46, 46, 47]⟩, .string ⟨#[46, 46, 47, 46, 46]⟩, .string ⟨#[46, 46, 47, 46, 46, 47]⟩, .string ⟨#[46, 46, 47, 46, 46, 47, 103]⟩, .string ⟨#[46, 46, 47, 46, 46, 47, 46, 46, 47, 103]⟩, .string ⟨#[46, 46, 47, 46, 46, 47, 46, 46, 47, 46, 46, 47, 103]⟩, .string ⟨#[47, 46, 47, 103]⟩, .string ⟨#[47, 46, 46, 47, 103]⟩, .string ⟨#[103, 46]⟩, .string ⟨#[46, 103]⟩, .string ⟨#[103, 46, 46]⟩, .string ⟨#[46, 46, 103]⟩, .string ⟨#[46, 47, 46, 46, 47, 103]⟩, .string ⟨#[46, 47, 103, 47, 46]⟩, .string ⟨#[103, 47, 46, 47, 104]⟩, .string ⟨#[103, 47, 46, 46, 47, 104]⟩, .string ⟨#[103, 59, 120, 61, 49, 47, 46, 47, 121]⟩, .string ⟨#[103, 59, 120, 61, 49, 47, 46, 46, 47, 121]⟩, .string ⟨#[103, 63, 121, 47, 46, 47, 120]⟩, .string ⟨#[103, 63, 121, 47, 46, 46, 47, 120]⟩, .string ⟨#[103, 35, 115, 47, 46, 47, 120]⟩] 9) (.cells #[.string ⟨#[47, 98, 47, 99, 47, 103]⟩, .string ⟨#[47, 98, 47, 99, 47, 103, 47]⟩, .string ⟨#[47, 103]⟩, .string ⟨#[]⟩, .string ⟨#[47, 98, 47, 99, 47, 103, 63, 121]⟩, .string ⟨#[47, 98, 47, 99, 47, 100, 59, 112, 63, 113]⟩, .string ⟨#[47, 98, 47, 99, 47, 103]⟩, .string ⟨#[47, 98, 47, 99, 47, 103, 63, 121]⟩, .string ⟨#[47, 98, 47, 99, 47, 59, 120]⟩, .string ⟨#[47, 98, 47, 99, 47, 103, 59, 120]⟩, .string ⟨#[47, 98, 47, 99, 47, 103, 59, 120, 63, 121]⟩, .string ⟨#[47, 98, 47, 99, 47, 100, 59, 112, 63, 113]⟩, .string ⟨#[47, 98, 47, 99, 47]⟩, .string ⟨#[47, 98, 47, 99, 47]⟩, .string ⟨#[47, 98, 47]⟩, .string ⟨#[47, 98, 47]⟩, .string ⟨#[47]⟩, .string ⟨#[47]⟩, .string ⟨#[47, 103]⟩, .string ⟨#[47, 103]⟩, .string ⟨#[47, 103]⟩, .string ⟨#[47, 103]⟩, .string ⟨#[47, 103]⟩, .string ⟨#[47, 98, 47, 99, 47, 103, 46]⟩, .string ⟨#[47, 98, 47, 99, 47, 46, 103]⟩, .string ⟨#[47, 98, 47, 99, 47, 103, 46, 46]⟩, .string ⟨#[47, 98, 47, 99, 47, 46, 46, 103]⟩, .string ⟨#[47, 98, 47, 103]⟩, .string ⟨#[47, 98, 47, 99, 47, 103, 47]⟩, .string ⟨#[47, 98, 47, 99, 47, 103, 47, 104]⟩, .string ⟨#[47, 98, 47, 99, 47, 104]⟩, .string ⟨#[47, 98, 47, 99, 47, 103, 59, 120, 61, 49, 47, 121]⟩, .string ⟨#[47, 98, 47, 99, 47, 121]⟩, .string ⟨#[47, 98, 47, 99, 47, 103, 63, 121, 47, 46, 47, 120]⟩, .string ⟨#[47, 98, 47, 99, 47, 103, 63, 121, 47, 46, 46, 47, 120]⟩, .string ⟨#[47, 98, 47, 99, 47, 103]⟩] 9))
  have HR := Lib.hid (scells_row refsL HT.out.b1 rfl)
  have HX := Lib.hid (scells_row wantsL HT.out.b2 rfl)
  have HBel := Lib.hid HT.out.below
  have HZ := HT.out.size
  clear hg HT
  go_enter Tryz.func8, Tryz.ntmps8
  go_wp2_with fail
  generalize (w.alloc (.cells #[.string ⟨#[46, 47, 103]⟩, .string ⟨#[103, 47]⟩, .string ⟨#[47, 103]⟩, .string ⟨#[47, 47, 103]⟩, .string ⟨#[103, 63, 121]⟩, .string ⟨#[35, 115]⟩, .string ⟨#[103, 35, 115]⟩, .string ⟨#[103, 63, 121, 35, 115]⟩, .string ⟨#[59, 120]⟩, .string ⟨#[103, 59, 120]⟩, .string ⟨#[103, 59, 120, 63, 121, 35, 115]⟩, .string ⟨#[]⟩, .string ⟨#[46]⟩, .string ⟨#[46, 47]⟩, .string ⟨#[46, 46]⟩, .string ⟨#[46, 46, 47]⟩, .string ⟨#[46, 46, 47, 46, 46]⟩, .string ⟨#[46, 46, 47, 46, 46, 47]⟩, .string ⟨#[46, 46, 47, 46, 46, 47, 103]⟩, .string ⟨#[46, 46, 47, 46, 46, 47, 46, 46, 47, 103]⟩, .string ⟨#[46, 46, 47, 46, 46, 47, 46, 46, 47, 46, 46, 47, 103]⟩, .string ⟨#[47, 46, 47, 103]⟩, .string ⟨#[47, 46, 46, 47, 103]⟩, .string ⟨#[103, 46]⟩, .string ⟨#[46, 103]⟩, .string ⟨#[103, 46, 46]⟩, .string ⟨#[46, 46, 103]⟩, .string ⟨#[46, 47, 46, 46, 47, 103]⟩, .string ⟨#[46, 47, 103, 47, 46]⟩, .string ⟨#[103, 47, 46, 47, 104]⟩, .string ⟨#[103, 47, 46, 46, 47, 104]⟩, .string ⟨#[103, 59, 120, 61, 49, 47, 46, 47, 121]⟩, .string ⟨#[103, 59, 120, 61, 49, 47, 46, 46, 47, 121]⟩, .string ⟨#[103, 63, 121, 47, 46, 47, 120]⟩, .string ⟨#[103, 63, 121, 47, 46, 46, 47, 120]⟩, .string ⟨#[103, 35, 115, 47, 46, 47, 120]⟩] 9)).alloc (.cells #[.string ⟨#[47, 98, 47, 99, 47, 103]⟩, .string ⟨#[47, 98, 47, 99, 47, 103, 47]⟩, .string ⟨#[47, 103]⟩, .string ⟨#[]⟩, .string ⟨#[47, 98, 47, 99, 47, 103, 63, 121]⟩, .string ⟨#[47, 98, 47, 99, 47, 100, 59, 112, 63, 113]⟩, .string ⟨#[47, 98, 47, 99, 47, 103]⟩, .string ⟨#[47, 98, 47, 99, 47, 103, 63, 121]⟩, .string ⟨#[47, 98, 47, 99, 47, 59, 120]⟩, .string ⟨#[47, 98, 47, 99, 47, 103, 59, 120]⟩, .string ⟨#[47, 98, 47, 99, 47, 103, 59, 120, 63, 121]⟩, .string ⟨#[47, 98, 47, 99, 47, 100, 59, 112, 63, 113]⟩, .string ⟨#[47, 98, 47, 99, 47]⟩, .string ⟨#[47, 98, 47, 99, 47]⟩, .string ⟨#[47, 98, 47]⟩, .string ⟨#[47, 98, 47]⟩, .string ⟨#[47]⟩, .string ⟨#[47]⟩, .string ⟨#[47, 103]⟩, .string ⟨#[47, 103]⟩, .string ⟨#[47, 103]⟩, .string ⟨#[47, 103]⟩, .string ⟨#[47, 103]⟩, .string ⟨#[47, 98, 47, 99, 47, 103, 46]⟩, .string ⟨#[47, 98, 47, 99, 47, 46, 103]⟩, .string ⟨#[47, 98, 47, 99, 47, 103, 46, 46]⟩, .string ⟨#[47, 98, 47, 99, 47, 46, 46, 103]⟩, .string ⟨#[47, 98, 47, 103]⟩, .string ⟨#[47, 98, 47, 99, 47, 103, 47]⟩, .string ⟨#[47, 98, 47, 99, 47, 103, 47, 104]⟩, .string ⟨#[47, 98, 47, 99, 47, 104]⟩, .string ⟨#[47, 98, 47, 99, 47, 103, 59, 120, 61, 49, 47, 121]⟩, .string ⟨#[47, 98, 47, 99, 47, 121]⟩, .string ⟨#[47, 98, 47, 99, 47, 103, 63, 121, 47, 46, 47, 120]⟩, .string ⟨#[47, 98, 47, 99, 47, 103, 63, 121, 47, 46, 46, 47, 120]⟩, .string ⟨#[47, 98, 47, 99, 47, 103]⟩] 9) = W at *
  go_loopw [3] (fun ix wr => ∃ k : Nat, ix = .int .i64 k ∧ k ≤ 36 ∧ Hid (Below W.heap.size W wr)) (fun ix _ => 36 - (intOf ix).toNat)
  case atStart => exact ⟨0, rfl, by omega, Lib.hid (Below.refl _ _)⟩
  case round =>
    obtain ⟨k, rfl, hk, HB⟩ := hrel
    have hsz := HB.out.size
    have HB3 := Lib.hid (HBel.out.trans (HB.out.mono HBel.out.size))
    by_cases hlt2 : k < 36
    · obtain ⟨r, x, hr, hx, hck, hxl⟩ := known_at hlt2
      have hc1 : wr.cell? ⟨w.heap.size, k, none⟩ = some (.string ⟨r.toArray⟩) := by
        have := (HR.out.below HB.out (by omega)) k r hr
        rw [Nat.zero_add] at this; exact this
      have hc2 : wr.cell? ⟨w.heap.size + 1, k, none⟩ = some (.string ⟨x.toArray⟩) := by
        have := (HX.out.below HB.out (by omega)) k x hx
        rw [Nat.zero_add] at this; exact this
      clear hr hx
      have hst : ∀ W, (Op.stringOp .add ⟨#[104, 116, 116, 112, 58, 47, 47, 97]⟩ ⟨x.toArray⟩).run Tryz.prog W = .ok (.string ⟨(httpA ++ x).toArray⟩) W := by
        intro W
        have := run_string_add_sum (P := Tryz.prog) W ⟨httpA.toArray⟩ ⟨x.toArray⟩ (by show 8 + x.length ≤ _; omega)
        rw [cat_bs] at this; exact this
      by_cases hrg : r = [47, 47, 103]
      · rw [if_pos hrg] at hck
        subst hrg
        obtain ⟨v, v1, v2, v3, v4, v5⟩ := hck
        have V1 := Lib.hid v1
        have V2 := Lib.hid v2
        have V3 := Lib.hid v3
        clear v1 v2 v3
        generalize httpA ++ x = hx at *
        go_wp2_with fail
        refine (law10_means [47, 47, 103] [104, 116, 116, 112, 58, 47, 47, 103, 47] v _ (HG.out.next HB3.out) (by decide) V1.out V2.out (by decide) V3.out).mono ?_
        rintro e w4 ⟨rfl, hb4⟩
        have HB4 := Lib.hid (HB.out.trans (hb4.mono hsz))
        clear hb4
        go_wp2_with fail
        go_roundw
        case rel => exact ⟨k + 1, by go_num, by omega, HB4⟩
        case measure => (simp [intOf] <;> omega)
      · rw [if_neg hrg] at hck
        have hrb : (r == [47, 47, 103]) = false := by rw [beq_eq_false_iff_ne]; exact hrg
        clear hrg
        obtain ⟨v, v1, v2, v3, v4, v5⟩ := hck
        have V1 := Lib.hid v1
        have V2 := Lib.hid v2
        have V3 := Lib.hid v3
        clear v1 v2 v3
        have HNE := Lib.hid (show httpA ++ x ≠ [] by unfold httpA; simp)
        generalize httpA ++ x = hx at *
        go_wp2_with fail
        refine (law10_means r hx v _ (HG.out.next HB3.out) (by omega) V1.out V2.out HNE.out V3.out).mono ?_
        rintro e w4 ⟨rfl, hb4⟩
        have HB4 := Lib.hid (HB.out.trans (hb4.mono hsz))
        clear hb4
        go_wp2_with fail
        go_roundw
        case rel => exact ⟨k + 1, by go_num, by omega, HB4⟩
        case measure => (simp [intOf] <;> omega)
    · have hk2 : k = 36 := by omega
      go_wp2_with fail
      refine (law10_meansNo [104, 116, 116, 112, 58, 103] _ (HG.out.next HB3.out) (by decide) rk0).mono ?_
      rintro e x0 ⟨rfl, hb⟩
      have HC0 := Lib.hid (HB3.out.trans (hb.mono HB3.out.size))
      clear hb
      go_wp2_with fail
      obtain ⟨v1, p1, q1, s1, _, _⟩ := rk1
      refine (law10_means [72, 84, 84, 80, 58, 47, 47, 71] [104, 116, 116, 112, 58, 47, 47, 103, 47] v1 _ (HG.out.next HC0.out) (by decide) p1 q1 (by decide) s1).mono ?_
      clear p1 q1 s1
      rintro e x1 ⟨rfl, hb⟩
      have HC1 := Lib.hid (HC0.out.trans (hb.mono HC0.out.size))
      clear hb
      go_wp2_with fail
      obtain ⟨v2, p2, q2, s2, _, _⟩ := rk2
      refine (law10_means [47, 47, 103, 58, 57, 57] [104, 116, 116, 112, 58, 47, 47, 103, 58, 57, 57, 47] v2 _ (HG.out.next HC1.out) (by decide) p2 q2 (by decide) s2).mono ?_
      clear p2 q2 s2
      rintro e x2 ⟨rfl, hb⟩
      have HC2 := Lib.hid (HC1.out.trans (hb.mono HC1.out.size))
      clear hb
      go_wp2_with fail
      refine (law10_meansNo [47, 97, 32, 98] _ (HG.out.next HC2.out) (by decide) rk3).mono ?_
      rintro e x3 ⟨rfl, hb⟩
      have HC3 := Lib.hid (HC2.out.trans (hb.mono HC2.out.size))
      clear hb
      go_wp2_with fail
      refine (law10_meansNo [37, 122, 122] _ (HG.out.next HC3.out) (by decide) rk4).mono ?_
      rintro e x4 ⟨rfl, hb⟩
      have HC4 := Lib.hid (HC3.out.trans (hb.mono HC3.out.size))
      clear hb
      go_wp2_with fail
      obtain ⟨v5, p5, q5, s5, _, _⟩ := rk5
      refine (law10_means [104, 116, 116, 112, 115, 58, 47, 47, 65, 58, 52, 52, 51, 63, 37, 55, 101] [104, 116, 116, 112, 115, 58, 47, 47, 97, 47, 63, 126] v5 _ (HG.out.next HC4.out) (by decide) p5 q5 (by decide) s5).mono ?_
      clear p5 q5 s5
      rintro e x5 ⟨rfl, hb⟩
      have HC5 := Lib.hid (HC4.out.trans (hb.mono HC4.out.size))
      clear hb
      go_wp2_with fail
      obtain ⟨v6, p6, q6, s6, _, _⟩ := rk6
      refine (law10_means [49, 97, 58, 98] [104, 116, 116, 112, 58, 47, 47, 97, 47, 98, 47, 99, 47, 49, 97, 58, 98] v6 _ (HG.out.next HC5.out) (by decide) p6 q6 (by decide) s6).mono ?_
      clear p6 q6 s6
      rintro e x6 ⟨rfl, hb⟩
      have HC6 := Lib.hid (HC5.out.trans (hb.mono HC5.out.size))
      clear hb
      go_wp2_with fail
      refine (law10_meansNo [47, 47] _ (HG.out.next HC6.out) (by decide) rk7).mono ?_
      rintro e x7 ⟨rfl, hb⟩
      have HC7 := Lib.hid (HC6.out.trans (hb.mono HC6.out.size))
      clear hb
      go_wp2_with fail
      obtain ⟨v8, p8, q8, s8, _, _⟩ := rk8
      refine (law10_means [46, 47, 103, 58, 104] [104, 116, 116, 112, 58, 47, 47, 97, 47, 98, 47, 99, 47, 103, 58, 104] v8 _ (HG.out.next HC7.out) (by decide) p8 q8 (by decide) s8).mono ?_
      clear p8 q8 s8
      rintro e x8 ⟨rfl, hb⟩
      have HC8 := Lib.hid (HC7.out.trans (hb.mono HC7.out.size))
      clear hb
      go_wp2_with fail
      refine (res_Ref noU [103] _ (HG.out.next HC8.out) noU_lim (by decide)).mono ?_
      rintro e y1 ⟨rfl, hb⟩
      rw [rk_arg]
      have HD1 := Lib.hid ((HC8.out.trans (hb.mono HC8.out.size)).alloc (by have h1 := HC8.out.size; have h2 := hb.size; omega) (uObj noU))
      clear hb
      go_upto_region 14 with fail
      have HD1 := Lib.hid (show Below w.heap.size w (y1.alloc (.cells #[.string ⟨noU.scheme.toArray⟩, .string ⟨noU.host.toArray⟩, .int .i64 noU.port, .string ⟨noU.path.toArray⟩, .string ⟨noU.query.toArray⟩, .bool noU.hq] 23)) from HD1.out)
      generalize y1.alloc (.cells #[.string ⟨noU.scheme.toArray⟩, .string ⟨noU.host.toArray⟩, .int .i64 noU.port, .string ⟨noU.path.toArray⟩, .string ⟨noU.query.toArray⟩, .bool noU.hq] 23) = Y at *
      obtain ⟨W2, hm, ho, hbm⟩ := made_bytes Y 1025 (by decide)
      have hm : (Instr.makeSlice 31 (.int .i64 1025) (.int .i64 1025)).run Tryz.prog Y = .ok (.slice (some ⟨Y.heap.size, 0, none⟩) 1025 1025) W2 := hm
      have hcv := conv_own ho
      have HBM := Lib.hid (HD1.out.trans (hbm.mono HD1.out.size))
      have HRL := Lib.hid rk_long
      have hzl : (List.replicate 1025 (0 : UInt8)).length ≤ 1000000 := by rw [List.length_replicate]; decide
      clear ho hbm
      generalize List.replicate 1025 (0 : UInt8) = z at *
      go_wp2_with fail
      refine (res_Ref noU z W2 (HG.out.next HBM.out) noU_lim hzl).mono ?_
      rintro e y2 ⟨rfl, hb⟩
      rw [HRL.out]
      have HD2 := Lib.hid ((HBM.out.trans (hb.mono HBM.out.size)).alloc (by have h1 := HBM.out.size; have h2 := hb.size; omega) (uObj noU))
      clear hb hm hcv
      go_wp2_with fail
      refine (law10_works _ (HG.out.next HD2.out)).mono ?_
      rintro e y3 ⟨rfl, hb⟩
      have HD3 := Lib.hid (HD2.out.trans (hb.mono HD2.out.size))
      clear hb
      go_wp2_with fail
      go_ret
      exact ⟨rfl, HD3.out⟩
end Go.Proofs.YtobhceopfjcmnaaGreatDoor
