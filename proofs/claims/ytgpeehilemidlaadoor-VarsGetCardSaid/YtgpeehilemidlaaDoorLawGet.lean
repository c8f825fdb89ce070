/- The law on any variable of any request: the document's answer. -/
import Derived.Test.YtgpeehilemidlaaDoorAwake
import Derived.Test.YtgpeehilemidlaaDoorRefGet
import Derived.Deep.RegionHeld3
import Derived.Deep.DrawnRows
namespace Go.Proofs.YtgpeehilemidlaaDoor
open Go.RowKit
set_option linter.unusedVariables false
attribute [local go_sem ↓] Go.wp_at_zero Go.wp_at_succ

theorem nine_below {w W W' : World} {m t bd host name key : ByteArray} {mn : Int} {a : Option Addr} {n c : Nat} {has : Bool} (hb : Below W.heap.size W W') (hl : w.heap.size + 1 < W.heap.size)
    (h : W.cell? ⟨w.heap.size, 0, none⟩ = some (.string m) ∧ W.cell? ⟨w.heap.size, 1, none⟩ = some (.string t) ∧ W.cell? ⟨w.heap.size, 2, none⟩ = some (.int .i64 mn) ∧ W.cell? ⟨w.heap.size, 3, none⟩ = some (.slice a n c) ∧ W.cell? ⟨w.heap.size, 4, none⟩ = some (.string bd) ∧ W.cell? ⟨w.heap.size + 1, 0, none⟩ = some (.string host) ∧ W.cell? ⟨w.heap.size + 1, 1, none⟩ = some (.string name) ∧ W.cell? ⟨w.heap.size + 1, 2, none⟩ = some (.string key) ∧ W.cell? ⟨w.heap.size + 1, 3, none⟩ = some (.bool has)) : W'.cell? ⟨w.heap.size, 0, none⟩ = some (.string m) ∧ W'.cell? ⟨w.heap.size, 1, none⟩ = some (.string t) ∧ W'.cell? ⟨w.heap.size, 2, none⟩ = some (.int .i64 mn) ∧ W'.cell? ⟨w.heap.size, 3, none⟩ = some (.slice a n c) ∧ W'.cell? ⟨w.heap.size, 4, none⟩ = some (.string bd) ∧ W'.cell? ⟨w.heap.size + 1, 0, none⟩ = some (.string host) ∧ W'.cell? ⟨w.heap.size + 1, 1, none⟩ = some (.string name) ∧ W'.cell? ⟨w.heap.size + 1, 2, none⟩ = some (.string key) ∧ W'.cell? ⟨w.heap.size + 1, 3, none⟩ = some (.bool has) := by
  obtain ⟨h0, h1, h2, h3, h4, k0, k1, k2, k3⟩ := h
  have q := (bcell hb).1
  exact ⟨(q _ _ (by omega)).trans h0, (q _ _ (by omega)).trans h1, (q _ _ (by omega)).trans h2, (q _ _ (by omega)).trans h3, (q _ _ (by omega)).trans h4, (q _ _ hl).trans k0, (q _ _ hl).trans k1, (q _ _ hl).trans k2, (q _ _ hl).trans k3⟩
theorem nine_new {w W : World} {m t bd host name key : ByteArray} {mn : Int} {a : Option Addr} {n c : Nat} {has : Bool} (h : Two w W (.cells #[.string m, .string t, .int .i64 mn, .slice a n c, .string bd] 24) (.cells #[.string host, .string name, .string key, .bool has] 26)) : W.cell? ⟨w.heap.size, 0, none⟩ = some (.string m) ∧ W.cell? ⟨w.heap.size, 1, none⟩ = some (.string t) ∧ W.cell? ⟨w.heap.size, 2, none⟩ = some (.int .i64 mn) ∧ W.cell? ⟨w.heap.size, 3, none⟩ = some (.slice a n c) ∧ W.cell? ⟨w.heap.size, 4, none⟩ = some (.string bd) ∧ W.cell? ⟨w.heap.size + 1, 0, none⟩ = some (.string host) ∧ W.cell? ⟨w.heap.size + 1, 1, none⟩ = some (.string name) ∧ W.cell? ⟨w.heap.size + 1, 2, none⟩ = some (.string key) ∧ W.cell? ⟨w.heap.size + 1, 3, none⟩ = some (.bool has) :=
  ⟨cell_of_row _ _ 0 _ _ _ h.b1, cell_of_row _ _ 1 _ _ _ h.b1, cell_of_row _ _ 2 _ _ _ h.b1, cell_of_row _ _ 3 _ _ _ h.b1, cell_of_row _ _ 4 _ _ _ h.b1,
   cell_of_row _ _ 0 _ _ _ h.b2, cell_of_row _ _ 1 _ _ _ h.b2, cell_of_row _ _ 2 _ _ _ h.b2, cell_of_row _ _ 3 _ _ _ h.b2⟩

set_option maxRecDepth 100000 in
set_option maxHeartbeats 1000000 in
theorem law_VarsGet (m t bd host name key : ByteArray) (mn : Int) (a : Option Addr) (n c : Nat) (fs : List Fld) (has : Bool) (w : World) (hg : Good w) (hF : FieldsAt w (.slice a n c) fs) (hs : ∀ f ∈ fs, f.1.length ≤ 140737488355328 ∧ f.2.length ≤ 140737488355328) (hlen : fs.length ≤ 140737488355328) :
    Calls Tryd.prog 3 #[.agg #[.string m, .string t, .int .i64 mn, .slice a n c, .string bd], .agg #[.string host, .string name, .string key, .bool has]] w (Ret w (.bool true)) := by
  have HT := Lib.hid (two_new w (.cells #[.string m, .string t, .int .i64 mn, .slice a n c, .string bd] 24) (.cells #[.string host, .string name, .string key, .bool has] 26))
  have Hs := Lib.hid hs
  clear hs
  go_enter Tryd.func3, Tryd.ntmps3
  go_wp2_with fail
  generalize (w.alloc (.cells #[.string m, .string t, .int .i64 mn, .slice a n c, .string bd] 24)).alloc (.cells #[.string host, .string name, .string key, .bool has] 26) = W0 at *
  have hT := HT.out
  clear HT
  have hS := nine_new hT
  have hb0 := hT.below
  have hsz := hT.size
  clear hT
  have hF0 := hF.below hb0
  have hg0 := hg.next hb0
  obtain ⟨h0, h1, h2, h3, h4, j0, j1, j2, j3⟩ := id hS
  refine (law_few m t bd mn a n c fs W0 hF0 Hs.out hlen).mono ?_
  rintro e w1 ⟨rfl, hb1⟩
  have hl1 : w.heap.size + 1 < w1.heap.size := by have := hb1.size; omega
  have hS1 := nine_below hb1 (by omega) hS
  have hb01 := hb0.trans (hb1.mono hb0.size)
  have hF1 := hF0.below hb1
  have hg1 := hg0.next hb1
  clear hS hb1 hb0 hF0 hg0 hF
  clear h0 h1 h2 h3 h4 j0 j1 j2 j3
  obtain ⟨h0, h1, h2, h3, h4, j0, j1, j2, j3⟩ := id hS1
  rcases hf : vfew t.data.toList fs with _ | _
  · go_wp2_with fail
    refine (law_awake w1 hg1).mono ?_
    rintro e w2 ⟨rfl, hb2⟩
    go_wp2
    go_ret
    exact ⟨rfl, hb01.trans (hb2.mono hb01.size)⟩
  · by_cases hk : key.size ≤ 2000
    · have hki : (key.size : Int) ≤ 2000 := by omega
      obtain ⟨f1, f2, f3⟩ := few_lim hf
      have hfl : fs.length ≤ 1000 := by omega
      have hlim : Lim fs := ⟨hfl, fun f hf => by have := f3 f hf; omega⟩
      rw [bs_size] at f2
      have ht : t.size ≤ 100000 := by omega
      have hk1 : key.size ≤ 100000 := by omega
      have hk2 : key.size ≤ 140737488351232 := by omega
      clear f1 f2 f3
      have HS1 := Lib.hid hS1
      have HS1d := Lib.hid (show w1.drew.cell? ⟨w.heap.size, 0, none⟩ = some (.string m) ∧ w1.drew.cell? ⟨w.heap.size, 1, none⟩ = some (.string t) ∧ w1.drew.cell? ⟨w.heap.size, 2, none⟩ = some (.int .i64 mn) ∧ w1.drew.cell? ⟨w.heap.size, 3, none⟩ = some (.slice a n c) ∧ w1.drew.cell? ⟨w.heap.size, 4, none⟩ = some (.string bd) ∧ w1.drew.cell? ⟨w.heap.size + 1, 0, none⟩ = some (.string host) ∧ w1.drew.cell? ⟨w.heap.size + 1, 1, none⟩ = some (.string name) ∧ w1.drew.cell? ⟨w.heap.size + 1, 2, none⟩ = some (.string key) ∧ w1.drew.cell? ⟨w.heap.size + 1, 3, none⟩ = some (.bool has) from hS1)
      go_wp2_with fail
      clear hS1 h0 h1 h2 h3 h4 j0 j1 j2 j3
      go_region_held3 (fun w' => w'.cell? ⟨w.heap.size, 0, none⟩ = some (.string m) ∧ w'.cell? ⟨w.heap.size, 1, none⟩ = some (.string t) ∧ w'.cell? ⟨w.heap.size, 2, none⟩ = some (.int .i64 mn) ∧ w'.cell? ⟨w.heap.size, 3, none⟩ = some (.slice a n c) ∧ w'.cell? ⟨w.heap.size, 4, none⟩ = some (.string bd) ∧ w'.cell? ⟨w.heap.size + 1, 0, none⟩ = some (.string host) ∧ w'.cell? ⟨w.heap.size + 1, 1, none⟩ = some (.string name) ∧ w'.cell? ⟨w.heap.size + 1, 2, none⟩ = some (.string key) ∧ w'.cell? ⟨w.heap.size + 1, 3, none⟩ = some (.bool has)) (first | with_reducible exact HS3.out | with_reducible exact HS2.out | with_reducible exact HS1d.out)
        (first
          | (go_at_call 13; refine (vars_Of m t bd host mn a n c fs _ (hF1.below (Below.drew (Below.refl _ _))) hfl).mono ?_; rintro e w2 ⟨a', c', rfl, hown, hb2⟩; have HS2 := Lib.hid (nine_below hb2 (by exact hl1) HS1d.out))
          | (go_at_call 14; refine (vars_Get host t name key a' fs.length c' fs has w2 (hg1.next (below_ofdrew hb2)) hown.at hlim ht hk1).mono ?_; rintro e w3 ⟨rfl, hb3⟩; have HS3 := Lib.hid (nine_below hb3 (Nat.lt_of_lt_of_le hl1 hb2.size) HS2.out)))
      have hB3 : Below w.heap.size w w3 := hb01.trans ((below_ofdrew (hb2.trans (hb3.mono hb2.size))).mono hb01.size)
      have hF3 : FieldsAt w3 (.slice a n c) fs := hF1.below (below_ofdrew (hb2.trans (hb3.mono hb2.size)))
      have hg3 := hg.next hB3
      have hl3 : w.heap.size + 1 < w3.heap.size := Nat.lt_of_lt_of_le hl1 (Nat.le_trans hb2.size hb3.size)
      have HS3d := Lib.hid (show w3.drew.cell? ⟨w.heap.size, 0, none⟩ = some (.string m) ∧ w3.drew.cell? ⟨w.heap.size, 1, none⟩ = some (.string t) ∧ w3.drew.cell? ⟨w.heap.size, 2, none⟩ = some (.int .i64 mn) ∧ w3.drew.cell? ⟨w.heap.size, 3, none⟩ = some (.slice a n c) ∧ w3.drew.cell? ⟨w.heap.size, 4, none⟩ = some (.string bd) ∧ w3.drew.cell? ⟨w.heap.size + 1, 0, none⟩ = some (.string host) ∧ w3.drew.cell? ⟨w.heap.size + 1, 1, none⟩ = some (.string name) ∧ w3.drew.cell? ⟨w.heap.size + 1, 2, none⟩ = some (.string key) ∧ w3.drew.cell? ⟨w.heap.size + 1, 3, none⟩ = some (.bool has) from HS3.out)
      clear HS1 HS1d HS2 HS3 hown hb2 hb3 hF1 hg1
      go_wp2_with fail
      go_region_held3 (fun w' => w'.cell? ⟨w.heap.size, 0, none⟩ = some (.string m) ∧ w'.cell? ⟨w.heap.size, 1, none⟩ = some (.string t) ∧ w'.cell? ⟨w.heap.size, 2, none⟩ = some (.int .i64 mn) ∧ w'.cell? ⟨w.heap.size, 3, none⟩ = some (.slice a n c) ∧ w'.cell? ⟨w.heap.size, 4, none⟩ = some (.string bd) ∧ w'.cell? ⟨w.heap.size + 1, 0, none⟩ = some (.string host) ∧ w'.cell? ⟨w.heap.size + 1, 1, none⟩ = some (.string name) ∧ w'.cell? ⟨w.heap.size + 1, 2, none⟩ = some (.string key) ∧ w'.cell? ⟨w.heap.size + 1, 3, none⟩ = some (.bool has)) (first | with_reducible exact HS5.out | with_reducible exact HS4.out | with_reducible exact HS3d.out)
        (first
          | (go_at_call 15; refine (ref25_Of m t bd host mn a n c _).mono ?_; rintro e w4 ⟨rfl, hb4⟩; have HS4 := Lib.hid (nine_below hb4 (by exact hl3) HS3d.out))
          | (go_at_call 16; refine (ref25_Get m t bd host name key mn a n c fs _ ((hF3.below (Below.drew (Below.refl _ _))).below hb4) hlim ht hk2 has).mono ?_; rintro e w5 ⟨rfl, hb5⟩; have HS5 := Lib.hid (nine_below hb5 (Nat.lt_of_lt_of_le hl3 hb4.size) HS4.out)))
      have hB5 : Below w.heap.size w w5 := hB3.trans ((below_ofdrew (hb4.trans (hb5.mono hb4.size))).mono hB3.size)
      have hg5 := hg.next hB5
      clear HS3d HS4 HS5 hb4 hb5
      generalize vget host.data.toList t.data.toList fs name.data.toList key.data.toList has = v at *
      go_wp2_with fail
      refine (law_awake w5 hg5).mono ?_
      rintro e w6 ⟨rfl, hb6⟩
      go_wp2
      go_ret
      exact ⟨rfl, hB5.trans (hb6.mono hB5.size)⟩
    · have hki : (2000 : Int) < (key.size : Int) := by omega
      go_wp2_with fail
      refine (law_awake w1 hg1).mono ?_
      rintro e w2 ⟨rfl, hb2⟩
      go_wp2
      go_ret
      exact ⟨rfl, hb01.trans (hb2.mono hb01.size)⟩
end Go.Proofs.YtgpeehilemidlaaDoor
