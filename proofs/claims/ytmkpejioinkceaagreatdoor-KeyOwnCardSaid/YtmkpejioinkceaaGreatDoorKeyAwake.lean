/- The law's awake, and the law KeyKnown: the chapter's examples. -/
import Derived.Test.YtmkpejioinkceaaGreatDoorKeyFns
namespace Go.Proofs.YtmkpejioinkceaaGreatDoor
open Go.RowKit
set_option linter.unusedVariables false

theorem strs_of_block {W : World} {b : Nat} {ls : List Bs} (h : W.heap[b]? = some (.cells (scells ls).toArray 9)) : StrsAt W (.slice (some ⟨b, 0, none⟩) ls.length ls.length) ls := by
  refine .inr ⟨b, 0, ls.length, rfl, Nat.le_refl _, lt_of_at h, ?_⟩
  intro j l hl
  rw [Nat.zero_add]
  exact (cell_of_row _ _ _ _ _ _ h).trans (by simp [scells, hl])
theorem law17_ofC (m s r : Bs) (w : World) (hg : GX w) (hs : s.length ≤ 1000) (h : keyOfB m (parseB s).1 = r) :
    Calls Tryz.prog 18 #[.string ⟨m.toArray⟩, .string ⟨s.toArray⟩] w (Ret w (.string ⟨r.toArray⟩)) := by
  subst h; exact law17_of m s w hg (by omega)
theorem key_UnsafeC (m : Bs) (r : Bool) (w : World) (h : unsafeB m = r) : Calls Tryz.prog 12 #[.string ⟨m.toArray⟩] w (Ret w (.bool r)) := by
  subst h; exact key_Unsafe m w
theorem law17_goneC (s r : Bs) (st : Int) (ls : List Bs) (b n : Nat) (w : World) (hg : GX w) (hB : w.heap[b]? = some (.cells (scells ls).toArray 9)) (hn : n = ls.length) (hs : s.length ≤ 1000) (h1 : ls.length ≤ 60) (h2 : ls.all (fun l => decide (l.length ≤ 1000)) = true) (h : Lib.join (goneB (parseB s).1 st (pairs ls)) [32] = r) :
    Calls Tryz.prog 19 #[.string ⟨s.toArray⟩, .int .i64 st, .slice (some ⟨b, 0, none⟩) n n] w (Ret w (.string ⟨r.toArray⟩)) := by
  subst h; subst hn
  exact law17_gone s st _ ls w hg (by omega) (strs_of_block hB) h1 (fun l hl => of_decide_eq_true (List.all_eq_true.1 h2 l hl))
theorem law17_goneN (s r : Bs) (st : Int) (w : World) (hg : GX w) (hs : s.length ≤ 1000) (h : Lib.join (goneB (parseB s).1 st (pairs [])) [32] = r) :
    Calls Tryz.prog 19 #[.string ⟨s.toArray⟩, .int .i64 st, .slice none 0 0] w (Ret w (.string ⟨r.toArray⟩)) := by
  subst h
  exact law17_gone s st _ [] w hg (by omega) (.inl ⟨_, _, rfl, rfl⟩) (Nat.zero_le _) (fun l hl => by cases hl)

theorem kk0 : keyOfB [71, 69, 84] (parseB [104, 116, 116, 112, 58, 47, 47, 65, 58, 56, 48, 47, 120, 47, 46, 46, 47, 121, 63]).1 = [104, 116, 116, 112, 58, 47, 47, 97, 47, 121, 63] := by kernel_rfl
theorem kk1 : unsafeB [80, 65, 84, 67, 72] = true := by kernel_rfl
theorem kk2 : Lib.join (goneB (parseB [104, 116, 116, 112, 58, 47, 47, 97, 47, 98]).1 201 (pairs [[108, 111, 99, 97, 116, 105, 111, 110], [47, 99], [99, 111, 110, 116, 101, 110, 116, 45, 108, 111, 99, 97, 116, 105, 111, 110], [100], [76, 111, 99, 97, 116, 105, 111, 110], [104, 116, 116, 112, 58, 47, 47, 120, 47]])) [32] = [104, 116, 116, 112, 58, 47, 47, 97, 47, 98, 32, 104, 116, 116, 112, 58, 47, 47, 97, 47, 99, 32, 104, 116, 116, 112, 58, 47, 47, 97, 47, 100] := by kernel_rfl
theorem kk3 : keyOfB [72, 69, 65, 68] (parseB [104, 116, 116, 112, 58, 47, 47, 65, 58, 56, 48, 47, 120, 47, 46, 46, 47, 121, 63]).1 = [104, 116, 116, 112, 58, 47, 47, 97, 47, 121, 63] := by kernel_rfl
theorem kk4 : keyOfB [80, 79, 83, 84] (parseB [104, 116, 116, 112, 58, 47, 47, 97, 47]).1 = [] := by kernel_rfl
theorem kk5 : keyOfB [103, 101, 116] (parseB [104, 116, 116, 112, 58, 47, 47, 97, 47]).1 = [] := by kernel_rfl
theorem kk6 : keyOfB [71, 69, 84] (parseB []).1 = [] := by kernel_rfl
theorem kk7 : unsafeB [112, 97, 116, 99, 104] = false := by kernel_rfl
theorem kk8 : unsafeB [71, 69, 84] = false := by kernel_rfl
theorem kk9 : unsafeB [] = false := by kernel_rfl
theorem kk10 : unsafeB [68, 69, 76, 69, 84, 69] = true := by kernel_rfl
theorem kk11 : unsafeB [80, 79, 83, 84] = true := by kernel_rfl
theorem kk12 : unsafeB [80, 85, 84] = true := by kernel_rfl
theorem kk13 : Lib.join (goneB (parseB [104, 116, 116, 112, 58, 47, 47, 97, 47, 98]).1 400 (pairs [[108, 111, 99, 97, 116, 105, 111, 110], [47, 99]])) [32] = [] := by kernel_rfl
theorem kk14 : Lib.join (goneB (parseB [104, 116, 116, 112, 58, 47, 47, 97, 47, 98]).1 204 (pairs [[108, 111, 99, 97, 116, 105, 111, 110], [98]])) [32] = [104, 116, 116, 112, 58, 47, 47, 97, 47, 98] := by kernel_rfl
theorem kk15 : Lib.join (goneB (parseB [104, 116, 116, 112, 58, 47, 47, 97, 47, 98]).1 399 (pairs [[108, 111, 99, 97, 116, 105, 111, 110], [104, 116, 116, 112, 115, 58, 47, 47, 97, 47]])) [32] = [104, 116, 116, 112, 58, 47, 47, 97, 47, 98] := by kernel_rfl
theorem kk16 : Lib.join (goneB (parseB [104, 116, 116, 112, 58, 47, 47, 97, 47, 98]).1 200 (pairs [[108, 111, 99, 97, 116, 105, 111, 110], [104, 116, 116, 112, 58, 47, 47, 65, 58, 56, 48, 47, 37, 54, 51]])) [32] = [104, 116, 116, 112, 58, 47, 47, 97, 47, 98, 32, 104, 116, 116, 112, 58, 47, 47, 97, 47, 99] := by kernel_rfl
theorem kk17 : Lib.join (goneB (parseB [104, 116, 116, 112, 58, 47, 47, 97, 47, 98]).1 199 (pairs [])) [32] = [] := by kernel_rfl
theorem kk18 : Lib.join (goneB (parseB []).1 200 (pairs [])) [32] = [] := by kernel_rfl
theorem kk19 : Lib.join (goneB (parseB [104, 116, 116, 112, 58, 47, 47, 97, 47, 98]).1 301 (pairs [[108, 111, 99, 97, 116, 105, 111, 110], [104, 116, 116, 112, 58, 47, 47, 97, 58, 56, 49, 47], [99, 111, 110, 116, 101, 110, 116, 45, 108, 111, 99, 97, 116, 105, 111, 110], [102, 116, 112, 58, 47, 47, 97, 47], [67, 111, 110, 116, 101, 110, 116, 45, 76, 111, 99, 97, 116, 105, 111, 110], [63, 113]])) [32] = [104, 116, 116, 112, 58, 47, 47, 97, 47, 98, 32, 104, 116, 116, 112, 58, 47, 47, 97, 47, 98, 63, 113] := by kernel_rfl

set_option maxRecDepth 100000 in
set_option maxHeartbeats 2000000 in
theorem law17_awake (w : World) (hg : GX w) : Calls Tryz.prog 9 #[] w (Ret w (.bool true)) := by
  have HG := Lib.hid hg
  have HW0 := Lib.hid (Below.refl w.heap.size w)
  clear hg
  go_enter Tryz.func9, Tryz.ntmps9
  go_wp2_with fail
  refine (law17_ofC [71, 69, 84] [104, 116, 116, 112, 58, 47, 47, 65, 58, 56, 48, 47, 120, 47, 46, 46, 47, 121, 63] [104, 116, 116, 112, 58, 47, 47, 97, 47, 121, 63] _ (HG.out.next HW0.out) (by decide) kk0).mono ?_
  rintro e w1 ⟨rfl, hb1⟩
  have HW1 := Lib.hid (HW0.out.trans (hb1.mono HW0.out.size))
  clear hb1
  go_wp2_with fail
  refine (key_UnsafeC [80, 65, 84, 67, 72] true _ kk1).mono ?_
  rintro e w2 ⟨rfl, hb2⟩
  have HW2 := Lib.hid (HW1.out.trans (hb2.mono HW1.out.size))
  clear hb2
  have HWa2 := Lib.hid (HW2.out.alloc HW2.out.size (.cells #[.string ⟨#[108, 111, 99, 97, 116, 105, 111, 110]⟩, .string ⟨#[47, 99]⟩, .string ⟨#[99, 111, 110, 116, 101, 110, 116, 45, 108, 111, 99, 97, 116, 105, 111, 110]⟩, .string ⟨#[100]⟩, .string ⟨#[76, 111, 99, 97, 116, 105, 111, 110]⟩, .string ⟨#[104, 116, 116, 112, 58, 47, 47, 120, 47]⟩] 9))
  go_wp2_with fail
  refine (law17_goneC [104, 116, 116, 112, 58, 47, 47, 97, 47, 98] [104, 116, 116, 112, 58, 47, 47, 97, 47, 98, 32, 104, 116, 116, 112, 58, 47, 47, 97, 47, 99, 32, 104, 116, 116, 112, 58, 47, 47, 97, 47, 100] 201 [[108, 111, 99, 97, 116, 105, 111, 110], [47, 99], [99, 111, 110, 116, 101, 110, 116, 45, 108, 111, 99, 97, 116, 105, 111, 110], [100], [76, 111, 99, 97, 116, 105, 111, 110], [104, 116, 116, 112, 58, 47, 47, 120, 47]] _ 6 _ (HG.out.next HWa2.out) (heap_alloc_new w2 _) rfl (by decide) (by decide) (by decide) kk2).mono ?_
  rintro e w3 ⟨rfl, hb3⟩
  have HW3 := Lib.hid (HWa2.out.trans (hb3.mono HWa2.out.size))
  clear hb3
  go_wp2_with fail
  go_ret
  exact ⟨rfl, HW3.out⟩

set_option maxRecDepth 100000 in
set_option maxHeartbeats 2000000 in
theorem law17_KeyKnown (w : World) (hg : GX w) : Calls Tryz.prog 5 #[] w (Ret w (.bool true)) := by
  have HG := Lib.hid hg
  have HW0 := Lib.hid (Below.refl w.heap.size w)
  clear hg
  go_enter Tryz.func5, Tryz.ntmps5
  go_wp2_with fail
  refine (law17_ofC [72, 69, 65, 68] [104, 116, 116, 112, 58, 47, 47, 65, 58, 56, 48, 47, 120, 47, 46, 46, 47, 121, 63] [104, 116, 116, 112, 58, 47, 47, 97, 47, 121, 63] _ (HG.out.next HW0.out) (by decide) kk3).mono ?_
  rintro e w1 ⟨rfl, hb1⟩
  have HW1 := Lib.hid (HW0.out.trans (hb1.mono HW0.out.size))
  clear hb1
  go_wp2_with fail
  refine (law17_ofC [80, 79, 83, 84] [104, 116, 116, 112, 58, 47, 47, 97, 47] [] _ (HG.out.next HW1.out) (by decide) kk4).mono ?_
  rintro e w2 ⟨rfl, hb2⟩
  have HW2 := Lib.hid (HW1.out.trans (hb2.mono HW1.out.size))
  clear hb2
  go_wp2_with fail
  refine (law17_ofC [103, 101, 116] [104, 116, 116, 112, 58, 47, 47, 97, 47] [] _ (HG.out.next HW2.out) (by decide) kk5).mono ?_
  rintro e w3 ⟨rfl, hb3⟩
  have HW3 := Lib.hid (HW2.out.trans (hb3.mono HW2.out.size))
  clear hb3
  go_wp2_with fail
  refine (law17_ofC [71, 69, 84] [] [] _ (HG.out.next HW3.out) (by decide) kk6).mono ?_
  rintro e w4 ⟨rfl, hb4⟩
  have HW4 := Lib.hid (HW3.out.trans (hb4.mono HW3.out.size))
  clear hb4
  go_wp2_with fail
  refine (key_UnsafeC [112, 97, 116, 99, 104] false _ kk7).mono ?_
  rintro e w5 ⟨rfl, hb5⟩
  have HW5 := Lib.hid (HW4.out.trans (hb5.mono HW4.out.size))
  clear hb5
  go_wp2_with fail
  refine (key_UnsafeC [71, 69, 84] false _ kk8).mono ?_
  rintro e w6 ⟨rfl, hb6⟩
  have HW6 := Lib.hid (HW5.out.trans (hb6.mono HW5.out.size))
  clear hb6
  go_wp2_with fail
  refine (key_UnsafeC [] false _ kk9).mono ?_
  rintro e w7 ⟨rfl, hb7⟩
  have HW7 := Lib.hid (HW6.out.trans (hb7.mono HW6.out.size))
  clear hb7
  go_wp2_with fail
  refine (key_UnsafeC [68, 69, 76, 69, 84, 69] true _ kk10).mono ?_
  rintro e w8 ⟨rfl, hb8⟩
  have HW8 := Lib.hid (HW7.out.trans (hb8.mono HW7.out.size))
  clear hb8
  go_wp2_with fail
  refine (key_UnsafeC [80, 79, 83, 84] true _ kk11).mono ?_
  rintro e w9 ⟨rfl, hb9⟩
  have HW9 := Lib.hid (HW8.out.trans (hb9.mono HW8.out.size))
  clear hb9
  go_wp2_with fail
  refine (key_UnsafeC [80, 85, 84] true _ kk12).mono ?_
  rintro e w10 ⟨rfl, hb10⟩
  have HW10 := Lib.hid (HW9.out.trans (hb10.mono HW9.out.size))
  clear hb10
  have HWa10 := Lib.hid (HW10.out.alloc HW10.out.size (.cells #[.string ⟨#[108, 111, 99, 97, 116, 105, 111, 110]⟩, .string ⟨#[47, 99]⟩] 9))
  go_wp2_with fail
  refine (law17_goneC [104, 116, 116, 112, 58, 47, 47, 97, 47, 98] [] 400 [[108, 111, 99, 97, 116, 105, 111, 110], [47, 99]] _ 2 _ (HG.out.next HWa10.out) (heap_alloc_new w10 _) rfl (by decide) (by decide) (by decide) kk13).mono ?_
  rintro e w11 ⟨rfl, hb11⟩
  have HW11 := Lib.hid (HWa10.out.trans (hb11.mono HWa10.out.size))
  clear hb11
  have HWa11 := Lib.hid (HW11.out.alloc HW11.out.size (.cells #[.string ⟨#[108, 111, 99, 97, 116, 105, 111, 110]⟩, .string ⟨#[98]⟩] 9))
  go_wp2_with fail
  refine (law17_goneC [104, 116, 116, 112, 58, 47, 47, 97, 47, 98] [104, 116, 116, 112, 58, 47, 47, 97, 47, 98] 204 [[108, 111, 99, 97, 116, 105, 111, 110], [98]] _ 2 _ (HG.out.next HWa11.out) (heap_alloc_new w11 _) rfl (by decide) (by decide) (by decide) kk14).mono ?_
  rintro e w12 ⟨rfl, hb12⟩
  have HW12 := Lib.hid (HWa11.out.trans (hb12.mono HWa11.out.size))
  clear hb12
  have HWa12 := Lib.hid (HW12.out.alloc HW12.out.size (.cells #[.string ⟨#[108, 111, 99, 97, 116, 105, 111, 110]⟩, .string ⟨#[104, 116, 116, 112, 115, 58, 47, 47, 97, 47]⟩] 9))
  go_wp2_with fail
  refine (law17_goneC [104, 116, 116, 112, 58, 47, 47, 97, 47, 98] [104, 116, 116, 112, 58, 47, 47, 97, 47, 98] 399 [[108, 111, 99, 97, 116, 105, 111, 110], [104, 116, 116, 112, 115, 58, 47, 47, 97, 47]] _ 2 _ (HG.out.next HWa12.out) (heap_alloc_new w12 _) rfl (by decide) (by decide) (by decide) kk15).mono ?_
  rintro e w13 ⟨rfl, hb13⟩
  have HW13 := Lib.hid (HWa12.out.trans (hb13.mono HWa12.out.size))
  clear hb13
  have HWa13 := Lib.hid (HW13.out.alloc HW13.out.size (.cells #[.string ⟨#[108, 111, 99, 97, 116, 105, 111, 110]⟩, .string ⟨#[104, 116, 116, 112, 58, 47, 47, 65, 58, 56, 48, 47, 37, 54, 51]⟩] 9))
  go_wp2_with fail
  refine (law17_goneC [104, 116, 116, 112, 58, 47, 47, 97, 47, 98] [104, 116, 116, 112, 58, 47, 47, 97, 47, 98, 32, 104, 116, 116, 112, 58, 47, 47, 97, 47, 99] 200 [[108, 111, 99, 97, 116, 105, 111, 110], [104, 116, 116, 112, 58, 47, 47, 65, 58, 56, 48, 47, 37, 54, 51]] _ 2 _ (HG.out.next HWa13.out) (heap_alloc_new w13 _) rfl (by decide) (by decide) (by decide) kk16).mono ?_
  rintro e w14 ⟨rfl, hb14⟩
  have HW14 := Lib.hid (HWa13.out.trans (hb14.mono HWa13.out.size))
  clear hb14
  go_wp2_with fail
  refine (law17_goneN [104, 116, 116, 112, 58, 47, 47, 97, 47, 98] [] 199 _ (HG.out.next HW14.out) (by decide) kk17).mono ?_
  rintro e w15 ⟨rfl, hb15⟩
  have HW15 := Lib.hid (HW14.out.trans (hb15.mono HW14.out.size))
  clear hb15
  go_wp2_with fail
  refine (law17_goneN [] [] 200 _ (HG.out.next HW15.out) (by decide) kk18).mono ?_
  rintro e w16 ⟨rfl, hb16⟩
  have HW16 := Lib.hid (HW15.out.trans (hb16.mono HW15.out.size))
  clear hb16
  have HWa16 := Lib.hid (HW16.out.alloc HW16.out.size (.cells #[.string ⟨#[108, 111, 99, 97, 116, 105, 111, 110]⟩, .string ⟨#[104, 116, 116, 112, 58, 47, 47, 97, 58, 56, 49, 47]⟩, .string ⟨#[99, 111, 110, 116, 101, 110, 116, 45, 108, 111, 99, 97, 116, 105, 111, 110]⟩, .string ⟨#[102, 116, 112, 58, 47, 47, 97, 47]⟩, .string ⟨#[67, 111, 110, 116, 101, 110, 116, 45, 76, 111, 99, 97, 116, 105, 111, 110]⟩, .string ⟨#[63, 113]⟩] 9))
  go_wp2_with fail
  refine (law17_goneC [104, 116, 116, 112, 58, 47, 47, 97, 47, 98] [104, 116, 116, 112, 58, 47, 47, 97, 47, 98, 32, 104, 116, 116, 112, 58, 47, 47, 97, 47, 98, 63, 113] 301 [[108, 111, 99, 97, 116, 105, 111, 110], [104, 116, 116, 112, 58, 47, 47, 97, 58, 56, 49, 47], [99, 111, 110, 116, 101, 110, 116, 45, 108, 111, 99, 97, 116, 105, 111, 110], [102, 116, 112, 58, 47, 47, 97, 47], [67, 111, 110, 116, 101, 110, 116, 45, 76, 111, 99, 97, 116, 105, 111, 110], [63, 113]] _ 6 _ (HG.out.next HWa16.out) (heap_alloc_new w16 _) rfl (by decide) (by decide) (by decide) kk19).mono ?_
  rintro e w17 ⟨rfl, hb17⟩
  have HW17 := Lib.hid (HWa16.out.trans (hb17.mono HWa16.out.size))
  clear hb17
  go_wp2_with fail
  refine (law17_awake _ (HG.out.next HW17.out)).mono ?_
  rintro e w18 ⟨rfl, hb18⟩
  have HW18 := Lib.hid (HW17.out.trans (hb18.mono HW17.out.size))
  clear hb18
  go_wp2_with fail
  go_ret
  exact ⟨rfl, HW18.out⟩
end Go.Proofs.YtmkpejioinkceaaGreatDoor
