/- The law on the names: the document's answer. -/
import Derived.Test.YtgpeehilemidlaaDoorAwake
import Derived.Test.YtgpeehilemidlaaDoorRefNames
import Derived.Deep.RegionHeld3
import Derived.Deep.DrawnRows
namespace Go.Proofs.YtgpeehilemidlaaDoor
open Go.RowKit
set_option linter.unusedVariables false
attribute [local go_sem ↓] Go.wp_at_zero Go.wp_at_succ

theorem four_below {n : Nat} {b : Nat} {W W' : World} {host name key : ByteArray} {has : Bool} (hb : Below W.heap.size W W') (hl : b < W.heap.size)
    (h : W.cell? ⟨b, 0, none⟩ = some (.string host) ∧ W.cell? ⟨b, 1, none⟩ = some (.string name) ∧ W.cell? ⟨b, 2, none⟩ = some (.string key) ∧ W.cell? ⟨b, 3, none⟩ = some (.bool has)) : W'.cell? ⟨b, 0, none⟩ = some (.string host) ∧ W'.cell? ⟨b, 1, none⟩ = some (.string name) ∧ W'.cell? ⟨b, 2, none⟩ = some (.string key) ∧ W'.cell? ⟨b, 3, none⟩ = some (.bool has) := by
  obtain ⟨k0, k1, k2, k3⟩ := h
  have q := (bcell hb).1
  exact ⟨(q _ _ hl).trans k0, (q _ _ hl).trans k1, (q _ _ hl).trans k2, (q _ _ hl).trans k3⟩

set_option maxRecDepth 100000 in
set_option maxHeartbeats 2000000 in
theorem law_VarsNames (host name key : ByteArray) (has : Bool) (w : World) (hg : Good w) :
    Calls Tryd.prog 6 #[.agg #[.string host, .string name, .string key, .bool has]] w (Ret w (.bool true)) := by
  have n1 : (w.alloc (.cells #[.string host, .string name, .string key, .bool has] 26)).heap[w.heap.size]? = _ := heap_alloc_new w _
  have hs0 : (w.alloc (.cells #[.string host, .string name, .string key, .bool has] 26)).heap.size = w.heap.size + 1 := by simp
  have hb0 : Below w.heap.size w (w.alloc (.cells #[.string host, .string name, .string key, .bool has] 26)) := (Below.refl _ _).alloc (Nat.le_refl _) _
  have HS0 := Lib.hid (show (w.alloc (.cells #[.string host, .string name, .string key, .bool has] 26)).cell? ⟨w.heap.size, 0, none⟩ = some (.string host) ∧ (w.alloc (.cells #[.string host, .string name, .string key, .bool has] 26)).cell? ⟨w.heap.size, 1, none⟩ = some (.string name) ∧ (w.alloc (.cells #[.string host, .string name, .string key, .bool has] 26)).cell? ⟨w.heap.size, 2, none⟩ = some (.string key) ∧ (w.alloc (.cells #[.string host, .string name, .string key, .bool has] 26)).cell? ⟨w.heap.size, 3, none⟩ = some (.bool has) from ⟨cell_of_row _ _ 0 _ _ _ n1, cell_of_row _ _ 1 _ _ _ n1, cell_of_row _ _ 2 _ _ _ n1, cell_of_row _ _ 3 _ _ _ n1⟩)
  clear n1
  by_cases hk : key.size ≤ 2000
  · have hki : (key.size : Int) ≤ 2000 := by omega
    have hk2 : key.size ≤ 140737488351232 := by omega
    go_enter Tryd.func6, Tryd.ntmps6
    go_wp2_with fail
    generalize w.alloc (.cells #[.string host, .string name, .string key, .bool has] 26) = W0 at *
    have hl0 : w.heap.size < W0.drew.heap.size := by show _ < W0.heap.size; omega
    have hB0 : Below w.heap.size w W0.drew := hb0.drew
    have HS0d := Lib.hid (show W0.drew.cell? ⟨w.heap.size, 0, none⟩ = some (.string host) ∧ W0.drew.cell? ⟨w.heap.size, 1, none⟩ = some (.string name) ∧ W0.drew.cell? ⟨w.heap.size, 2, none⟩ = some (.string key) ∧ W0.drew.cell? ⟨w.heap.size, 3, none⟩ = some (.bool has) from HS0.out)
    clear hs0 hb0 HS0
    go_region_held3 (fun w' => w'.cell? ⟨w.heap.size, 0, none⟩ = some (.string host) ∧ w'.cell? ⟨w.heap.size, 1, none⟩ = some (.string name) ∧ w'.cell? ⟨w.heap.size, 2, none⟩ = some (.string key) ∧ w'.cell? ⟨w.heap.size, 3, none⟩ = some (.bool has)) (first | with_reducible exact HS7.out | with_reducible exact HS6.out | with_reducible exact HS5.out | with_reducible exact HS4.out | with_reducible exact HS3.out | with_reducible exact HS2.out | with_reducible exact HS1.out | with_reducible exact HS0d.out)
      (first
        | (go_at_call 22; refine (vars_Known name _).mono ?_; rintro e w1 ⟨rfl, hb1⟩; have hl1 := Nat.lt_of_lt_of_le hl0 hb1.size; have HS1 := Lib.hid (four_below (n := 0) hb1 hl0 HS0d.out); have hB1 := hB0.trans (hb1.mono hB0.size))
        | (go_at_call 23; refine (ref25_Known name _).mono ?_; rintro e w2 ⟨rfl, hb2⟩; have hl2 := Nat.lt_of_lt_of_le hl1 hb2.size; have HS2 := Lib.hid (four_below (n := 0) hb2 hl1 HS1.out); have hB2 := hB1.trans (hb2.mono hB1.size))
        | (go_at_call 20; refine (vars_Key key _ hk2).mono ?_; rintro e w3 ⟨rfl, hb3⟩; have hl3 := Nat.lt_of_lt_of_le hl2 hb3.size; have HS3 := Lib.hid (four_below (n := 0) hb3 hl2 HS2.out); have hB3 := hB2.trans (hb3.mono hB2.size))
        | (go_at_call 24; refine (ref25_Key key _ hk2).mono ?_; rintro e w4 ⟨rfl, rfl⟩)
        | (go_at_call 25; refine (vars_Source name key has _ hk2).mono ?_; rintro e w5 ⟨rfl, hb5⟩; have hl5 := Nat.lt_of_lt_of_le hl3 hb5.size; have HS5 := Lib.hid (four_below (n := 0) hb5 hl3 HS3.out); have hB5 := hB3.trans (hb5.mono hB3.size))
        | (go_at_call 26; refine (ref25_Source name key has _ hk2).mono ?_; rintro e w6 ⟨rfl, hb6⟩; have hl6 := Nat.lt_of_lt_of_le hl5 hb6.size; have HS6 := Lib.hid (four_below (n := 0) hb6 hl5 HS5.out); have hB6 := hB5.trans (hb6.mono hB5.size))
        | (go_at_call 12; refine (law_awake _ (hg.next hB6)).mono ?_; rintro e w7 ⟨rfl, hb7⟩; have hl7 := Nat.lt_of_lt_of_le hl6 hb7.size; have HS7 := Lib.hid (four_below (n := 0) hb7 hl6 HS6.out); have hB7 := hB6.trans (hb7.mono hB6.size)))
    clear HS0d HS1 HS2 HS3 HS5 HS6 HS7 hb1 hb2 hb3 hb5 hb6 hb7
    go_wp2
    go_ret
    exact ⟨rfl, hB7⟩
  · have hki : (2000 : Int) < (key.size : Int) := by omega
    go_enter Tryd.func6, Tryd.ntmps6
    go_wp2_with fail
    refine (law_awake _ (hg.next hb0)).mono ?_
    rintro e w1 ⟨rfl, hb1⟩
    go_wp2
    go_ret
    exact ⟨rfl, hb0.trans (hb1.mono hb0.size)⟩
end Go.Proofs.YtgpeehilemidlaaDoor
