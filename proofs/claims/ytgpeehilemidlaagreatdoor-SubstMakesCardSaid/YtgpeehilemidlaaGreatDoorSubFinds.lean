/- The law that where variables stand in a text is as the document says. -/
import Derived.Test.YtgpeehilemidlaaGreatDoorRefUses
import Derived.Test.YtgpeehilemidlaaGreatDoorSubLaw
namespace Go.Proofs.YtgpeehilemidlaaGreatDoor
open Go.RowKit
set_option linter.unusedVariables false
attribute [local go_sem ↓] Go.wp_at_zero Go.wp_at_succ

/-- Where uses lie, of whichever type. -/
def ULie (w : World) (a : Option Addr) (us : List Use) : Prop := ∀ (j : Nat) (u : Use), us[j]? = some u → ∃ g, a = some ⟨g, 0, none⟩ ∧
  w.cell? ⟨g, j * 7, none⟩ = some (.int .i64 u.src) ∧ w.cell? ⟨g, j * 7 + 1, none⟩ = some (.int .i64 u.to) ∧ w.cell? ⟨g, j * 7 + 2, none⟩ = some (.string ⟨u.name.toArray⟩) ∧ w.cell? ⟨g, j * 7 + 3, none⟩ = some (.string ⟨u.key.toArray⟩) ∧ w.cell? ⟨g, j * 7 + 4, none⟩ = some (.string ⟨u.dft.toArray⟩) ∧ w.cell? ⟨g, j * 7 + 5, none⟩ = some (.bool u.hk) ∧ w.cell? ⟨g, j * 7 + 6, none⟩ = some (.bool u.hd)
theorem ulie_of {w : World} {base : Nat} {T : TypeId} {a : Option Addr} {n c : Nat} {us : List Use} (h : w.ownsRow base T 7 (.slice a n c) us.length (ucells us)) : ULie w a us := by
  intro j u hu
  have hc := fun (g : Nat) (hg : (Value.slice a n c).ownBlock = some g) => h.cells hg
  rcases h.2 with ⟨hv, h0⟩ | ⟨g, cap, cur, hv, hbg, hg, _⟩
  · rw [List.eq_nil_of_length_eq_zero h0] at hu; simp at hu
  · obtain rfl : a = some ⟨g, 0, none⟩ := by simp only [Value.slice.injEq] at hv; exact hv.1
    have cell : ∀ i v, (ucell u)[i]? = some v → w.cell? ⟨g, j * 7 + i, none⟩ = some v := by
      intro i v hv
      have := hc g rfl _ _ (ucells_at us j i u v hu hv)
      rw [add_at] at this
      rw [Nat.zero_add] at this; exact this
    exact ⟨g, rfl, cell 0 _ rfl, cell 1 _ rfl, cell 2 _ rfl, cell 3 _ rfl, cell 4 _ rfl, cell 5 _ rfl, cell 6 _ rfl⟩
theorem ULie.next {w w' : World} {a : Option Addr} {us : List Use} (h : ULie w a us) (hb : Below w.heap.size w w') : ULie w' a us := by
  intro j u hu
  obtain ⟨g, h1, c0, c1, c2, c3, c4, c5, c6⟩ := h j u hu
  have q := (bcell hb).1
  exact ⟨g, h1, (q _ _ (cell_lt c0)).trans c0, (q _ _ (cell_lt c1)).trans c1, (q _ _ (cell_lt c2)).trans c2, (q _ _ (cell_lt c3)).trans c3, (q _ _ (cell_lt c4)).trans c4, (q _ _ (cell_lt c5)).trans c5, (q _ _ (cell_lt c6)).trans c6⟩

set_option maxRecDepth 100000 in
set_option maxHeartbeats 1000000 in
theorem law_same (a b : Option Addr) (c d : Nat) (us : List Use) (w : World) (ha : ULie w a us) (hb : ULie w b us) (hl : us.length ≤ 100000000) :
    Calls Tryz.prog 9 #[.slice a us.length c, .slice b us.length d] w (Ret w (.bool true)) := by
  have HA := Lib.hid ha
  have HB := Lib.hid hb
  clear ha hb
  go_enter Tryz.func9, Tryz.ntmps9
  go_wp2_with fail
  go_loopw [5] (fun i wr => ∃ k : Nat, k ≤ us.length ∧ i = .int .i64 k ∧ Hid (Below w.heap.size w wr)) (fun i _ => us.length - (intOf i).toNat)
  case atStart => exact ⟨0, Nat.zero_le _, rfl, Lib.hid (Below.refl _ _)⟩
  case round =>
    obtain ⟨k, hk, rfl, HW⟩ := hrel
    by_cases hlt : k < us.length
    · obtain ⟨u, hu⟩ : ∃ u, us[k]? = some u := ⟨us[k], List.getElem?_eq_getElem hlt⟩
      obtain ⟨g, rfl, c0, c1, c2, c3, c4, c5, c6⟩ := (HA.out.next HW.out) k u hu
      obtain ⟨g', rfl, d0, d1, d2, d3, d4, d5, d6⟩ := (HB.out.next HW.out) k u hu
      have i0 : (0 : Int) ≤ (k : Int) := by omega
      have i1 : (k : Int) < (us.length : Int) := by omega
      clear hu
      go_wp2_with fail
      go_quiet (fail)
      go_wp2
      go_roundw
      case rel => exact ⟨k + 1, by omega, by go_num, Lib.hid ⟨HW.out.os, HW.out.tape, HW.out.output, HW.out.size, HW.out.block⟩⟩
      case measure => (simp [intOf] <;> omega)
    · have i1 : (us.length : Int) ≤ (k : Int) := by omega
      go_wp2
      go_ret
      exact ⟨rfl, HW.out⟩

set_option maxRecDepth 100000 in
set_option maxHeartbeats 1000000 in
theorem law_SubstFinds (s : ByteArray) (i : Int) (w : World) (hg : Good w) (hs : s.size ≤ 140737488351232) :
    Calls Tryz.prog 3 #[.string s, .int .i64 i] w (Ret w (.bool true)) := by
  have HG := Lib.hid hg
  clear hg
  go_enter Tryz.func3, Tryz.ntmps3
  by_cases hl : s.size ≤ 3000
  · have hli : (s.size : Int) ≤ 3000 := by omega
    go_wp2_with fail
    refine (sub_Find s i w HG.out (by omega)).mono ?_
    rintro e w1 ⟨rfl, hb1⟩
    have HB1 := Lib.hid hb1
    have hz1 := hb1.size
    clear hb1
    generalize ho : vfind s.data.toList (clampN i s.size) = o
    have HO := Lib.hid ho
    clear ho
    rw [found_any o]
    generalize hu : o.getD noUse = u
    have HU := Lib.hid hu
    clear hu
    have n2 : UBox (w1.alloc (.cells #[.int .i64 u.src, .int .i64 u.to, .string ⟨u.name.toArray⟩, .string ⟨u.key.toArray⟩, .string ⟨u.dft.toArray⟩, .bool u.hk, .bool u.hd] 24)) w1.heap.size u := heap_alloc_new w1 _
    have b2 := (Below.refl w1.heap.size w1).alloc (Nat.le_refl _) (.cells #[.int .i64 u.src, .int .i64 u.to, .string ⟨u.name.toArray⟩, .string ⟨u.key.toArray⟩, .string ⟨u.dft.toArray⟩, .bool u.hk, .bool u.hd] 24)
    have HN2 := Lib.hid n2
    have HB2 := Lib.hid (HB1.out.trans (b2.mono hz1))
    clear n2 b2
    go_wp2_with fail
    generalize w1.alloc (.cells #[.int .i64 u.src, .int .i64 u.to, .string ⟨u.name.toArray⟩, .string ⟨u.key.toArray⟩, .string ⟨u.dft.toArray⟩, .bool u.hk, .bool u.hd] 24) = W2 at *
    generalize w1.heap.size = v2 at *
    refine (ref26_Find s i W2 (by omega)).mono ?_
    rintro e w3 ⟨rfl, hb3⟩
    rw [HO.out, found_any o, HU.out]
    have HN3 := Lib.hid (HN2.out.next hb3)
    have HB3 := Lib.hid (HB2.out.trans (hb3.mono HB2.out.size))
    have hz3 := HB3.out.size
    clear hb3 HN2 HB2 HU HO HB1
    have n4 : RU (w3.alloc (.cells #[.int .i64 u.src, .int .i64 u.to, .string ⟨u.name.toArray⟩, .string ⟨u.key.toArray⟩, .string ⟨u.dft.toArray⟩, .bool u.hk, .bool u.hd] 27)) w3.heap.size u.src u.to u.name u.key u.dft u.hk u.hd := heap_alloc_new w3 _
    have b4 := (Below.refl w3.heap.size w3).alloc (Nat.le_refl _) (.cells #[.int .i64 u.src, .int .i64 u.to, .string ⟨u.name.toArray⟩, .string ⟨u.key.toArray⟩, .string ⟨u.dft.toArray⟩, .bool u.hk, .bool u.hd] 27)
    have rc := n4.c
    have x0 := rc.c0
    have x1 := rc.c1
    have x2 := rc.c2
    have x3 := rc.c3
    have x4 := rc.c4
    have x5 := rc.c5
    have x6 := rc.c6
    obtain ⟨⟨c0, c1, c2, c3, c4, c5, c6⟩, f0, f1, f2, f3, f4, f5, f6⟩ := ubox_cells (HN3.out.next b4)
    have HB4 := Lib.hid (HB3.out.trans (b4.mono hz3))
    clear n4 b4 rc f0 f1 f2 f3 f4 f5 f6
    go_wp2_with fail
    generalize w3.alloc (.cells #[.int .i64 u.src, .int .i64 u.to, .string ⟨u.name.toArray⟩, .string ⟨u.key.toArray⟩, .string ⟨u.dft.toArray⟩, .bool u.hk, .bool u.hd] 27) = W4 at *
    clear c0 c1 c2 c3 c4 c5 c6 x0 x1 x2 x3 x4 x5 x6
    refine (sub_Uses s W4 (HG.out.next HB4.out) (by omega)).mono ?_
    rintro e w5 ⟨v, rfl, hown, hb5⟩
    obtain ⟨ua, uc, rfl⟩ := own_shape hown
    have HL5 := Lib.hid (ulie_of hown)
    have HB5 := Lib.hid (HB4.out.trans (hb5.mono HB4.out.size))
    clear hown hb5
    go_wp2_with fail
    refine (ref26_Uses s w5 (by omega)).mono ?_
    rintro e w6 ⟨v, rfl, hown, hb6⟩
    obtain ⟨ub, ud, rfl⟩ := own_shape hown
    have HL6 := Lib.hid (ulie_of hown)
    have HL56 := Lib.hid (HL5.out.next hb6)
    have HB6 := Lib.hid (HB5.out.trans (hb6.mono HB5.out.size))
    have hmany := uses_many s.data.toList
    rw [bs_size] at hmany
    clear hown hb6 HL5
    generalize vuses s.data.toList = us at *
    go_wp2_with fail
    refine (law_same ua ub uc ud us w6 HL56.out HL6.out (by omega)).mono ?_
    rintro e w7 ⟨rfl, hb7⟩
    have HB7 := Lib.hid (HB6.out.trans (hb7.mono HB6.out.size))
    clear hb7
    go_wp2_with fail
    refine (law_works w7 (HG.out.next HB7.out)).mono ?_
    rintro e w8 ⟨rfl, hb8⟩
    have HB8 := Lib.hid (HB7.out.trans (hb8.mono HB7.out.size))
    clear hb8
    go_wp2
    go_ret
    exact ⟨rfl, HB8.out⟩
  · have hli : (3000 : Int) < (s.size : Int) := by omega
    go_wp2_with fail
    refine (law_works w HG.out).mono ?_
    rintro e w2 ⟨rfl, hb2⟩
    go_wp2
    go_ret
    exact ⟨rfl, hb2⟩
end Go.Proofs.YtgpeehilemidlaaGreatDoor
