/- The law TestParses: the tree of any text, or what is wrong and where, is the document's. -/
import Derived.Test.YtehdeclpighdeaaGreatDoorTestE6
import Derived.Test.YtehdeclpighdeaaGreatDoorTestW8
import Derived.Deep.RegionHeld3
namespace Go.Proofs.YtehdeclpighdeaaGreatDoor
open Go.RowKit
set_option linter.unusedVariables false

/-- Both trees in their boxes. -/
structure PXY (W : World) (bx bn : Nat) (T : Ex) (k : Int) (t : Bs) (u : UseI) (a : Option Addr) (n c : Nat) (k2 : Int) (t2 : Bs) (u2 : UseI) (a2 : Option Addr) (n2 c2 : Nat) : Prop where
  rx : W.heap[bx]? = some (.cells (exL k t u (.slice a n c)).toArray 27)
  ry : W.heap[bn]? = some (.cells (exL k2 t2 u2 (.slice a2 n2 c2)).toArray 34)
  x : ExAt (fun _ => True) W T (exV k t u (.slice a n c))
  y : ExAt (fun _ => True) W T (exV k2 t2 u2 (.slice a2 n2 c2))
  good : Good W
abbrev SXY (bx bn : Nat) (k : Int) (t : Bs) (u : UseI) (a : Option Addr) (n c : Nat) (k2 : Int) (t2 : Bs) (u2 : UseI) (a2 : Option Addr) (n2 c2 : Nat) (w' : World) : Prop := TenC bx k t u (.slice a n c) w' ∧ TenC bn k2 t2 u2 (.slice a2 n2 c2) w'
section
variable {W W' : World} {bx bn : Nat} {T : Ex} {k k2 : Int} {t t2 : Bs} {u u2 : UseI} {a a2 : Option Addr} {n c n2 c2 : Nat}
theorem PXY.next (h : PXY W bx bn T k t u a n c k2 t2 u2 a2 n2 c2) (hb : Below W.heap.size W W') : PXY W' bx bn T k t u a n c k2 t2 u2 a2 n2 c2 :=
  ⟨(hb.block _ (Array.getElem?_eq_some_iff.1 h.rx).1).trans h.rx, (hb.block _ (Array.getElem?_eq_some_iff.1 h.ry).1).trans h.ry, h.x.next hb, h.y.next hb, h.good.next hb⟩
end
set_option maxRecDepth 100000 in
set_option maxHeartbeats 8000000 in
theorem law27_parses_in (s : Bs) (w : World) (hG : Good w) (hs : s.length ≤ 1500) : Calls Tryz.prog 3 #[.string ⟨s.toArray⟩] w (Ret w (.bool true)) := by
  have HNR := Lib.hid (testB_narrow s)
  have hs2 : ¬ (1500 : Int) < (s.length : Int) := by omega
  go_enter Tryz.func3, Tryz.ntmps3
  go_wp2_with fail
  refine (test_Parse w s (by omega) hG).mono ?_
  rintro e w1 ⟨v, rfl, hb, hx⟩
  obtain ⟨X, hX⟩ : ∃ X, (testB s).1 = X := ⟨_, rfl⟩
  obtain ⟨pl, hpl⟩ : ∃ pl : Nat, (testB s).2.1 = pl := ⟨_, rfl⟩
  obtain ⟨er, her⟩ : ∃ er : Int, (testB s).2.2 = er := ⟨_, rfl⟩
  rw [hX] at hx HNR
  rw [hpl, her]
  have HXX := Lib.hid (And.intro hX (And.intro hpl her))
  obtain ⟨k, t, u, a, n, c, rfl⟩ := hx.out.ten
  have hA : Below w1.heap.size w1 (w1.alloc (.cells (exL k t u (.slice a n c)).toArray 27)) := (Below.refl _ _).alloc (Nat.le_refl _) _
  have HX1 := Lib.hid ((hx.out.next hA).any)
  have HB := Lib.hid (hb.trans (hA.mono hb.size))
  have HG1 := Lib.hid ((hG.next hb).next hA)
  have HN := Lib.hid (heap_alloc_new w1 (.cells (exL k t u (.slice a n c)).toArray 27))
  clear hX hpl her hx hb hA hs2
  go_upto_region 4 with fail
  generalize w1.alloc (.cells (exL k t u (.slice a n c)).toArray 27) = W1 at *
  generalize w1.heap.size = bx at *
  go_wp2_with fail
  refine (ref27_Parse W1 s (by omega)).mono ?_
  rintro e w2 ⟨v, rfl, hb, hy⟩
  rw [HXX.out.1] at hy
  rw [HXX.out.2.1, HXX.out.2.2]
  obtain ⟨k2, t2, u2, a2, n2, c2, rfl⟩ := hy.out.ten
  have hA : Below w2.heap.size w2 (w2.alloc (.cells (exL k2 t2 u2 (.slice a2 n2 c2)).toArray 34)) := (Below.refl _ _).alloc (Nat.le_refl _) _
  have hbA := hb.trans (hA.mono hb.size)
  have HB2 := Lib.hid (HB.out.trans (hbA.mono HB.out.size))
  have HP := Lib.hid (show PXY (w2.alloc (.cells (exL k2 t2 u2 (.slice a2 n2 c2)).toArray 34)) bx w2.heap.size X k t u a n c k2 t2 u2 a2 n2 c2 from ⟨(hbA.block _ (Array.getElem?_eq_some_iff.1 HN.out).1).trans HN.out, heap_alloc_new w2 _, HX1.out.next hbA, (hy.out.next hA).any, HG1.out.next hbA⟩)
  clear hb hA hbA hy
  go_upto_region 5 with fail
  generalize w2.alloc (.cells (exL k2 t2 u2 (.slice a2 n2 c2)).toArray 34) = W2 at *
  generalize w2.heap.size = bn at *
  have HPD := Lib.hid (HP.out.next (below_drewn (Below.refl _ _)))
  have HBD := Lib.hid (below_drewn HB2.out)
  have HSD := Lib.hid (show SXY bx bn k t u a n c k2 t2 u2 a2 n2 c2 W2.drew from ⟨ten_c HPD.out.rx, ten_c HPD.out.ry⟩)
  go_region_held3 (SXY bx bn k t u a n c k2 t2 u2 a2 n2 c2) (first | with_reducible exact HSD.out | with_reducible exact HS3.out | with_reducible exact HS4.out | with_reducible exact HS5.out | with_reducible exact HS6.out | with_reducible exact HS7.out)
    (first
      | (go_at_call 15; refine (law_theirs X HNR.out _ W2.drew HPD.out.x).mono ?_; rintro e w3 ⟨v3, rfl, hb3, hx3⟩; obtain ⟨k3, t3, u3, a3, n3, c3, rfl⟩ := hx3.out.ten; have HX3 := Lib.hid hx3.out.any; have HP3 := Lib.hid (HPD.out.next hb3); have HB3 := Lib.hid (HBD.out.trans (hb3.mono HBD.out.size)); clear hb3 hx3; have HS3 := Lib.hid (show SXY bx bn k t u a n c k2 t2 u2 a2 n2 c2 w3 from ⟨ten_c HP3.out.rx, ten_c HP3.out.ry⟩))
      | (go_at_call 14; refine (ref27_Same X HNR.out X _ _ w3 HX3.out HP3.out.y).mono ?_; rintro e w4 ⟨rfl, hb4⟩; rw [sameE_refl]; have HP4 := Lib.hid (HP3.out.next hb4); have HB4 := Lib.hid (HB3.out.trans (hb4.mono HB3.out.size)); clear hb4; have HS4 := Lib.hid (show SXY bx bn k t u a n c k2 t2 u2 a2 n2 c2 w4 from ⟨ten_c HP4.out.rx, ten_c HP4.out.ry⟩))
      | (go_at_call 15; refine (law_theirs X HNR.out _ w4 HP4.out.x).mono ?_; rintro e w5 ⟨v5, rfl, hb5, hx5⟩; obtain ⟨k5, t5, u5, a5, n5, c5, rfl⟩ := hx5.out.ten; have HX5 := Lib.hid hx5.out.any; have HP5 := Lib.hid (HP4.out.next hb5); have HB5 := Lib.hid (HB4.out.trans (hb5.mono HB4.out.size)); clear hb5 hx5; have HS5 := Lib.hid (show SXY bx bn k t u a n c k2 t2 u2 a2 n2 c2 w5 from ⟨ten_c HP5.out.rx, ten_c HP5.out.ry⟩))
      | (go_at_call 16; refine (law_places X HNR.out X _ _ w5 HX5.out HP5.out.y).mono ?_; rintro e w6 ⟨rfl, hb6⟩; rw [placesE_refl]; have HP6 := Lib.hid (HP5.out.next hb6); have HB6 := Lib.hid (HB5.out.trans (hb6.mono HB5.out.size)); clear hb6; have HS6 := Lib.hid (show SXY bx bn k t u a n c k2 t2 u2 a2 n2 c2 w6 from ⟨ten_c HP6.out.rx, ten_c HP6.out.ry⟩))
      | (go_at_call 11; refine (law27_awake w6 HP6.out.good).mono ?_; rintro e w7 ⟨rfl, hb7⟩; have HB7 := Lib.hid (HB6.out.trans (hb7.mono HB6.out.size)); have HP7 := Lib.hid (HP6.out.next hb7); clear hb7; have HS7 := Lib.hid (show SXY bx bn k t u a n c k2 t2 u2 a2 n2 c2 w7 from ⟨ten_c HP7.out.rx, ten_c HP7.out.ry⟩)))
  all_goals
    go_wp2_with fail
    go_ret
    exact ⟨rfl, HB7.out⟩
set_option maxRecDepth 100000 in
theorem law27_parses (s : ByteArray) (w : World) (hG : Good w) : Calls Tryz.prog 3 #[.string s] w (Ret w (.bool true)) := by
  by_cases hs : s.size ≤ 1500
  · have h := law27_parses_in s.data.toList w hG hs
    rw [show (⟨s.data.toList.toArray⟩ : ByteArray) = s from by cases s; simp] at h
    exact h
  · have hs2 : (1500 : Int) < (s.size : Int) := by omega
    clear hs
    go_enter Tryz.func3, Tryz.ntmps3
    go_wp2_with fail
    refine (law27_awake w hG).mono ?_
    rintro e w1 ⟨rfl, hb1⟩
    go_wp2_with fail
    go_ret
    exact ⟨rfl, hb1⟩
end Go.Proofs.YtehdeclpighdeaaGreatDoor
