/- The walk of the reference's Text1 at leaves. (Under way.) -/
import Derived.Test.YtbkhmkpbbggcbaaGreatDoorKPutsO
namespace Go.Proofs.YtbkhmkpbbggcbaaGreatDoor
open Go.RowKit
set_option linter.unusedVariables false
set_option maxRecDepth 100000 in
theorem ref27_Text_10 (t : Bs) (u : UseI) (kv : Value) (ht : t.length ≤ 100000) (w : World) : Calls Tryz.prog 17 #[exV 10 t u kv] w (Ret w (.string ⟨(([39] ++ t) ++ [39]).toArray⟩)) := by
  have HB := Lib.hid ((Below.refl w.heap.size w).alloc (Nat.le_refl _) (.cells (exL 10 t u kv).toArray 37))
  have HN0 := Lib.hid (heap_alloc_new w (.cells (exL 10 t u kv).toArray 37))
  go_enter Tryz.func17, Tryz.ntmps17
  go_upto_region 1 with fail
  generalize w.alloc (.cells (exL 10 t u kv).toArray 37) = W0 at *
  obtain ⟨p0, p1, p2, p3, p4, p5, p6, p7, p8, p9⟩ := ten_cells HN0.out
  go_wp2_with fail
  go_ret
  exact ⟨ret_str (by simp), HB.out⟩
set_option maxRecDepth 100000 in
theorem ref27_Text_11 (t : Bs) (u : UseI) (kv : Value) (ht : t.length ≤ 100000) (w : World) : Calls Tryz.prog 17 #[exV 11 t u kv] w (Ret w (.string ⟨t.toArray⟩)) := by
  have HB := Lib.hid ((Below.refl w.heap.size w).alloc (Nat.le_refl _) (.cells (exL 11 t u kv).toArray 37))
  have HN0 := Lib.hid (heap_alloc_new w (.cells (exL 11 t u kv).toArray 37))
  go_enter Tryz.func17, Tryz.ntmps17
  go_upto_region 1 with fail
  generalize w.alloc (.cells (exL 11 t u kv).toArray 37) = W0 at *
  obtain ⟨p0, p1, p2, p3, p4, p5, p6, p7, p8, p9⟩ := ten_cells HN0.out
  go_wp2_with fail
  go_ret
  exact ⟨rfl, HB.out⟩
set_option maxRecDepth 100000 in
theorem ref27_Text_12 (t : Bs) (u : UseI) (kv : Value) (h1 : u.name.length ≤ 100000) (h2 : u.key.length ≤ 100000) (h3 : u.dft.length ≤ 100000) (w : World) : Calls Tryz.prog 17 #[exV 12 t u kv] w (Ret w (.string ⟨(usedB u).toArray⟩)) := by
  have HB := Lib.hid ((Below.refl w.heap.size w).alloc (Nat.le_refl _) (.cells (exL 12 t u kv).toArray 37))
  have HN0 := Lib.hid (heap_alloc_new w (.cells (exL 12 t u kv).toArray 37))
  have HU := Lib.hid (fun W => ref27_used u W h1 h2 h3)
  go_enter Tryz.func17, Tryz.ntmps17
  go_upto_region 1 with fail
  generalize w.alloc (.cells (exL 12 t u kv).toArray 37) = W0 at *
  obtain ⟨p0, p1, p2, p3, p4, p5, p6, p7, p8, p9⟩ := ten_cells HN0.out
  go_wp2_with fail
  refine (HU.out W0).mono ?_
  rintro e w1 ⟨rfl, hb1⟩
  have HB1 := Lib.hid (HB.out.trans (hb1.mono HB.out.size))
  clear hb1 p0 p1 p2 p3 p4 p5 p6 p7 p8 p9
  go_wp2_with fail
  go_ret
  exact ⟨rfl, HB1.out⟩
end Go.Proofs.YtbkhmkpbbggcbaaGreatDoor
