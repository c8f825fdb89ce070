/- The law that the chapter's examples hold. -/
import Derived.Test.YtgpeehilemidlaaDoorSubLaw
namespace Go.Proofs.YtgpeehilemidlaaDoor
open Go.RowKit
set_option linter.unusedVariables false
attribute [local go_sem ↓] Go.wp_at_zero Go.wp_at_succ

theorem sk0 : gives [36, 40, 72, 84, 84, 80, 95, 67, 79, 79, 75, 73, 69, 123, 99, 125, 41] [] := by unfold gives; kernel_rfl
theorem sk1 : gives [36, 40, 72, 84, 84, 80, 95, 67, 79, 79, 75, 73, 69, 123, 99, 125, 124, 39, 100, 32, 101, 39, 41] [100, 32, 101] := by unfold gives; kernel_rfl
theorem sk2 : gives [36, 40, 72, 84, 84, 80, 95, 67, 79, 79, 75, 73, 69, 123, 99, 125, 124, 39, 39, 41] [] := by unfold gives; kernel_rfl
theorem sk3 : gives [36, 40, 36, 40, 72, 84, 84, 80, 95, 72, 79, 83, 84, 41, 41] [36, 40, 104, 41] := by unfold gives; kernel_rfl
theorem sk4 : gives [] [] := by unfold gives; kernel_rfl
def sameL : List Bs := [[36, 40, 72, 84, 84, 80, 95, 72, 79, 83, 84, 83, 41], [36, 40, 32, 72, 84, 84, 80, 95, 72, 79, 83, 84, 41], [36, 40, 72, 84, 84, 80, 95, 72, 79, 83, 84, 123, 97, 32, 98, 125, 41], [36, 40, 72, 84, 84, 80, 95, 72, 79, 83, 84, 124, 41], [36, 40, 72, 84, 84, 80, 95, 72, 79, 83, 84, 124, 97, 32, 98, 41], [36, 40, 88, 41], [36, 40, 72, 84, 84, 80, 95, 72, 79, 83, 84, 124, 39, 105, 116, 39, 115, 41], [36, 40, 72, 84, 84, 80, 95, 72, 79, 83, 84, 32, 41], [36, 40, 104, 116, 116, 112, 95, 104, 111, 115, 116, 41], [36, 72, 84, 84, 80, 95, 72, 79, 83, 84], [36, 40, 72, 84, 84, 80, 95, 72, 79, 83, 84, 123, 97, 41], [36, 40, 72, 84, 84, 80, 95, 72, 79, 83, 84, 124, 39, 97, 41], [36, 40, 41], [36, 40]]
theorem sameL_all : (sameL.all fun l => decide (vapply [104] [47] givF l = (l, 0)) && decide (l.length ≤ 100)) = true := by kernel_rfl
theorem sameL_get {k : Nat} {l : Bs} (h : sameL[k]? = some l) : gives l l ∧ l.length ≤ 100 := by
  have := List.all_eq_true.1 sameL_all l (List.mem_of_getElem? h)
  rw [Bool.and_eq_true] at this
  exact ⟨by unfold gives; exact of_decide_eq_true this.1, of_decide_eq_true this.2⟩
theorem sk_find : vfind [97, 98, 36, 40, 72, 84, 84, 80, 95, 67, 79, 79, 75, 73, 69, 123, 99, 125, 124, 39, 100, 32, 101, 39, 41, 102] 0 = some ⟨2, 25, [72, 84, 84, 80, 95, 67, 79, 79, 75, 73, 69], [99], [100, 32, 101], true, true⟩ := by kernel_rfl
theorem scells_row {W : World} {b : Nat} {cs : Array Value} {t : TypeId} (ls : List Bs) (h : W.heap[b]? = some (.cells cs t)) (hcs : cs = (scells ls).toArray) : SCells W b 0 ls := by
  subst hcs
  intro j l hl
  rw [Nat.zero_add]
  exact (cell_of_row _ _ _ _ _ _ h).trans (by simp [scells, hl])

set_option maxRecDepth 100000 in
set_option maxHeartbeats 1000000 in
theorem law_SubstKnown (w : World) (hg : Good w) : Calls Tryd.prog 8 #[] w (Ret w (.bool true)) := by
  have HG := Lib.hid hg
  clear hg
  go_enter Tryd.func8, Tryd.ntmps8
  go_wp2_with fail
  refine (law_works w HG.out).mono ?_
  rintro e w1 ⟨rfl, hb1⟩
  go_wp2_with fail
  refine (law_makes ⟨#[36, 40, 72, 84, 84, 80, 95, 67, 79, 79, 75, 73, 69, 123, 99, 125, 41]⟩ ⟨#[]⟩ _ (HG.out.next hb1) (by decide) sk0).mono ?_
  rintro e w2 ⟨rfl, hc2⟩
  have hb2 := hb1.trans (hc2.mono hb1.size)
  clear hc2
  go_wp2_with fail
  refine (law_makes ⟨#[36, 40, 72, 84, 84, 80, 95, 67, 79, 79, 75, 73, 69, 123, 99, 125, 124, 39, 100, 32, 101, 39, 41]⟩ ⟨#[100, 32, 101]⟩ _ (HG.out.next hb2) (by decide) sk1).mono ?_
  rintro e w3 ⟨rfl, hc3⟩
  have hb3 := hb2.trans (hc3.mono hb2.size)
  clear hc3
  go_wp2_with fail
  refine (law_makes ⟨#[36, 40, 72, 84, 84, 80, 95, 67, 79, 79, 75, 73, 69, 123, 99, 125, 124, 39, 39, 41]⟩ ⟨#[]⟩ _ (HG.out.next hb3) (by decide) sk2).mono ?_
  rintro e w4 ⟨rfl, hc4⟩
  have hb4 := hb3.trans (hc4.mono hb3.size)
  clear hc4
  go_wp2_with fail
  refine (law_makes ⟨#[36, 40, 36, 40, 72, 84, 84, 80, 95, 72, 79, 83, 84, 41, 41]⟩ ⟨#[36, 40, 104, 41]⟩ _ (HG.out.next hb4) (by decide) sk3).mono ?_
  rintro e w5 ⟨rfl, hc5⟩
  have hb5 := hb4.trans (hc5.mono hb4.size)
  clear hc5
  go_wp2_with fail
  refine (law_makes ⟨#[]⟩ ⟨#[]⟩ _ (HG.out.next hb5) (by decide) sk4).mono ?_
  rintro e w6 ⟨rfl, hc6⟩
  have hb6 := hb5.trans (hc6.mono hb5.size)
  clear hc6
  have HS := Lib.hid (scells_row sameL (heap_alloc_new w6 (.cells #[.string ⟨#[36, 40, 72, 84, 84, 80, 95, 72, 79, 83, 84, 83, 41]⟩, .string ⟨#[36, 40, 32, 72, 84, 84, 80, 95, 72, 79, 83, 84, 41]⟩, .string ⟨#[36, 40, 72, 84, 84, 80, 95, 72, 79, 83, 84, 123, 97, 32, 98, 125, 41]⟩, .string ⟨#[36, 40, 72, 84, 84, 80, 95, 72, 79, 83, 84, 124, 41]⟩, .string ⟨#[36, 40, 72, 84, 84, 80, 95, 72, 79, 83, 84, 124, 97, 32, 98, 41]⟩, .string ⟨#[36, 40, 88, 41]⟩, .string ⟨#[36, 40, 72, 84, 84, 80, 95, 72, 79, 83, 84, 124, 39, 105, 116, 39, 115, 41]⟩, .string ⟨#[36, 40, 72, 84, 84, 80, 95, 72, 79, 83, 84, 32, 41]⟩, .string ⟨#[36, 40, 104, 116, 116, 112, 95, 104, 111, 115, 116, 41]⟩, .string ⟨#[36, 72, 84, 84, 80, 95, 72, 79, 83, 84]⟩, .string ⟨#[36, 40, 72, 84, 84, 80, 95, 72, 79, 83, 84, 123, 97, 41]⟩, .string ⟨#[36, 40, 72, 84, 84, 80, 95, 72, 79, 83, 84, 124, 39, 97, 41]⟩, .string ⟨#[36, 40, 41]⟩, .string ⟨#[36, 40]⟩] 9)) rfl)
  have HBel := Lib.hid (hb6.trans (((Below.refl w6.heap.size w6).alloc (Nat.le_refl _) (.cells #[.string ⟨#[36, 40, 72, 84, 84, 80, 95, 72, 79, 83, 84, 83, 41]⟩, .string ⟨#[36, 40, 32, 72, 84, 84, 80, 95, 72, 79, 83, 84, 41]⟩, .string ⟨#[36, 40, 72, 84, 84, 80, 95, 72, 79, 83, 84, 123, 97, 32, 98, 125, 41]⟩, .string ⟨#[36, 40, 72, 84, 84, 80, 95, 72, 79, 83, 84, 124, 41]⟩, .string ⟨#[36, 40, 72, 84, 84, 80, 95, 72, 79, 83, 84, 124, 97, 32, 98, 41]⟩, .string ⟨#[36, 40, 88, 41]⟩, .string ⟨#[36, 40, 72, 84, 84, 80, 95, 72, 79, 83, 84, 124, 39, 105, 116, 39, 115, 41]⟩, .string ⟨#[36, 40, 72, 84, 84, 80, 95, 72, 79, 83, 84, 32, 41]⟩, .string ⟨#[36, 40, 104, 116, 116, 112, 95, 104, 111, 115, 116, 41]⟩, .string ⟨#[36, 72, 84, 84, 80, 95, 72, 79, 83, 84]⟩, .string ⟨#[36, 40, 72, 84, 84, 80, 95, 72, 79, 83, 84, 123, 97, 41]⟩, .string ⟨#[36, 40, 72, 84, 84, 80, 95, 72, 79, 83, 84, 124, 39, 97, 41]⟩, .string ⟨#[36, 40, 41]⟩, .string ⟨#[36, 40]⟩] 9)).mono hb6.size))
  have hlt : w6.heap.size < (w6.alloc (.cells #[.string ⟨#[36, 40, 72, 84, 84, 80, 95, 72, 79, 83, 84, 83, 41]⟩, .string ⟨#[36, 40, 32, 72, 84, 84, 80, 95, 72, 79, 83, 84, 41]⟩, .string ⟨#[36, 40, 72, 84, 84, 80, 95, 72, 79, 83, 84, 123, 97, 32, 98, 125, 41]⟩, .string ⟨#[36, 40, 72, 84, 84, 80, 95, 72, 79, 83, 84, 124, 41]⟩, .string ⟨#[36, 40, 72, 84, 84, 80, 95, 72, 79, 83, 84, 124, 97, 32, 98, 41]⟩, .string ⟨#[36, 40, 88, 41]⟩, .string ⟨#[36, 40, 72, 84, 84, 80, 95, 72, 79, 83, 84, 124, 39, 105, 116, 39, 115, 41]⟩, .string ⟨#[36, 40, 72, 84, 84, 80, 95, 72, 79, 83, 84, 32, 41]⟩, .string ⟨#[36, 40, 104, 116, 116, 112, 95, 104, 111, 115, 116, 41]⟩, .string ⟨#[36, 72, 84, 84, 80, 95, 72, 79, 83, 84]⟩, .string ⟨#[36, 40, 72, 84, 84, 80, 95, 72, 79, 83, 84, 123, 97, 41]⟩, .string ⟨#[36, 40, 72, 84, 84, 80, 95, 72, 79, 83, 84, 124, 39, 97, 41]⟩, .string ⟨#[36, 40, 41]⟩, .string ⟨#[36, 40]⟩] 9)).heap.size := by simp
  clear hb1 hb2 hb3 hb4 hb5 hb6
  go_wp2_with fail
  generalize w6.alloc (.cells #[.string ⟨#[36, 40, 72, 84, 84, 80, 95, 72, 79, 83, 84, 83, 41]⟩, .string ⟨#[36, 40, 32, 72, 84, 84, 80, 95, 72, 79, 83, 84, 41]⟩, .string ⟨#[36, 40, 72, 84, 84, 80, 95, 72, 79, 83, 84, 123, 97, 32, 98, 125, 41]⟩, .string ⟨#[36, 40, 72, 84, 84, 80, 95, 72, 79, 83, 84, 124, 41]⟩, .string ⟨#[36, 40, 72, 84, 84, 80, 95, 72, 79, 83, 84, 124, 97, 32, 98, 41]⟩, .string ⟨#[36, 40, 88, 41]⟩, .string ⟨#[36, 40, 72, 84, 84, 80, 95, 72, 79, 83, 84, 124, 39, 105, 116, 39, 115, 41]⟩, .string ⟨#[36, 40, 72, 84, 84, 80, 95, 72, 79, 83, 84, 32, 41]⟩, .string ⟨#[36, 40, 104, 116, 116, 112, 95, 104, 111, 115, 116, 41]⟩, .string ⟨#[36, 72, 84, 84, 80, 95, 72, 79, 83, 84]⟩, .string ⟨#[36, 40, 72, 84, 84, 80, 95, 72, 79, 83, 84, 123, 97, 41]⟩, .string ⟨#[36, 40, 72, 84, 84, 80, 95, 72, 79, 83, 84, 124, 39, 97, 41]⟩, .string ⟨#[36, 40, 41]⟩, .string ⟨#[36, 40]⟩] 9) = W at *
  generalize w6.heap.size = sb at *
  go_loopw [2] (fun ix wr => ∃ k : Nat, ix = .int .i64 k ∧ k ≤ 14 ∧ Hid (Below W.heap.size W wr)) (fun ix _ => 14 - (intOf ix).toNat)
  case atStart => exact ⟨0, rfl, by omega, Lib.hid (Below.refl _ _)⟩
  case round =>
    obtain ⟨k, rfl, hk, HB⟩ := hrel
    have hsz := HB.out.size
    by_cases hlt2 : k < 14
    · obtain ⟨l, hl⟩ : ∃ l, sameL[k]? = some l := ⟨sameL[k]'hlt2, List.getElem?_eq_getElem hlt2⟩
      have hc : wr.cell? ⟨sb, k, none⟩ = some (.string ⟨l.toArray⟩) := by
        have := (HS.out.below HB.out hlt) k l hl
        rw [Nat.zero_add] at this; exact this
      have HL := Lib.hid (sameL_get hl)
      have HC := Lib.hid (show wr.drew.cell? ⟨sb, k, none⟩ = some (.string ⟨l.toArray⟩) from hc)
      clear hl
      go_wp2_with fail
      clear hc
      go_region_held3 (fun w' => w'.cell? ⟨sb, k, none⟩ = some (.string ⟨l.toArray⟩)) (first | with_reducible exact HC1.out | with_reducible exact HC.out)
        (first
          | (go_at_call 33; refine (law_makes ⟨l.toArray⟩ ⟨l.toArray⟩ _ (HG.out.next ((HBel.out.trans (HB.out.mono HBel.out.size)).drew)) (by show l.length ≤ _; have := HL.out.2; omega) HL.out.1).mono ?_; rintro e wy ⟨rfl, hby⟩; have HC1 := Lib.hid (((bcell hby).1 _ k (cell_lt HC.out)).trans HC.out)))
      have HB2 := Lib.hid (HB.out.trans ((below_ofdrew hby).mono hsz))
      clear hby HC HC1
      go_wp2
      go_roundw
      case rel => exact ⟨k + 1, by go_num, by omega, HB2⟩
      case measure => (simp [intOf] <;> omega)
    · have hk2 : k = 14 := by omega
      have HB3 := Lib.hid (HBel.out.trans (HB.out.mono HBel.out.size))
      go_wp2_with fail
      refine (sub_Find ⟨#[97, 98, 36, 40, 72, 84, 84, 80, 95, 67, 79, 79, 75, 73, 69, 123, 99, 125, 124, 39, 100, 32, 101, 39, 41, 102]⟩ (-5) wr (HG.out.next HB3.out) (by decide)).mono ?_
      rintro e wf ⟨rfl, hbf⟩
      rw [show foundV (vfind (⟨#[97, 98, 36, 40, 72, 84, 84, 80, 95, 67, 79, 79, 75, 73, 69, 123, 99, 125, 124, 39, 100, 32, 101, 39, 41, 102]⟩ : ByteArray).data.toList (clampN (-5) (⟨#[97, 98, 36, 40, 72, 84, 84, 80, 95, 67, 79, 79, 75, 73, 69, 123, 99, 125, 124, 39, 100, 32, 101, 39, 41, 102]⟩ : ByteArray).size)) = .tuple #[.agg #[.int .i64 2, .int .i64 25, .string ⟨#[72, 84, 84, 80, 95, 67, 79, 79, 75, 73, 69]⟩, .string ⟨#[99]⟩, .string ⟨#[100, 32, 101]⟩, .bool true, .bool true], .bool true] from congrArg foundV sk_find]
      have HB4 := Lib.hid (HB3.out.trans (hbf.mono HB3.out.size))
      clear hbf
      go_wp2_with fail
      have HB5 := Lib.hid (HB4.out.alloc HB4.out.size (.cells #[.int .i64 2, .int .i64 25, .string ⟨#[72, 84, 84, 80, 95, 67, 79, 79, 75, 73, 69]⟩, .string ⟨#[99]⟩, .string ⟨#[100, 32, 101]⟩, .bool true, .bool true] 52))
      generalize wf.alloc (.cells #[.int .i64 2, .int .i64 25, .string ⟨#[72, 84, 84, 80, 95, 67, 79, 79, 75, 73, 69]⟩, .string ⟨#[99]⟩, .string ⟨#[100, 32, 101]⟩, .bool true, .bool true] 52) = w9 at *
      refine (law_works w9 (HG.out.next HB5.out)).mono ?_
      rintro e w10 ⟨rfl, hb10⟩
      have HB6 := Lib.hid (HB5.out.trans (hb10.mono HB5.out.size))
      clear hb10
      go_wp2
      go_ret
      exact ⟨rfl, HB6.out⟩
end Go.Proofs.YtgpeehilemidlaaDoor
