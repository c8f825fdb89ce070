/- The walk of Value. -/
import Derived.Test.YtoipnaoijccokaaGreatDoorSubUses
import Derived.Test.YtoipnaoijccokaaGreatDoorVarsGet2
namespace Go.Proofs.YtoipnaoijccokaaGreatDoor
open Go.RowKit
set_option linter.unusedVariables false
attribute [local go_sem ↓] Go.wp_at_zero Go.wp_at_succ

theorem vval_yes {h t : Bs} {fs : List Fld} {u : Use} (h2 : (vget h t fs u.name u.key u.hk).2 = true) : vval h t fs u = vget h t fs u.name u.key u.hk := by unfold vval; rw [h2]; rfl
theorem vval_dft {h t : Bs} {fs : List Fld} {u : Use} (h2 : (vget h t fs u.name u.key u.hk).2 = false) (h3 : u.hd = true) : vval h t fs u = (u.dft, true) := by unfold vval; rw [h2, h3]; rfl
theorem vval_no {h t : Bs} {fs : List Fld} {u : Use} (h2 : (vget h t fs u.name u.key u.hk).2 = false) (h3 : u.hd = false) : vval h t fs u = ([], false) := by unfold vval; rw [h2, h3]; rfl

set_option maxRecDepth 100000 in
theorem sub_Value (u : Use) (h t : ByteArray) (a : Option Addr) (n c : Nat) (fs : List Fld) (w : World) (hg : Good w) (hF : FieldsAt w (.slice a n c) fs) (hlim : Lim fs) (ht : t.size ≤ 100000) (hk : u.key.length ≤ 100000) :
    Calls Tryz.prog 11 #[.agg #[.int .i64 u.src, .int .i64 u.to, .string ⟨u.name.toArray⟩, .string ⟨u.key.toArray⟩, .string ⟨u.dft.toArray⟩, .bool u.hk, .bool u.hd], .agg #[.string h, .string t, .slice a n c]] w (Ret w (.tuple #[.string ⟨(vval h.data.toList t.data.toList fs u).1.toArray⟩, .bool (vval h.data.toList t.data.toList fs u).2])) := by
  have HT := Lib.hid (two_new w (.cells #[.int .i64 u.src, .int .i64 u.to, .string ⟨u.name.toArray⟩, .string ⟨u.key.toArray⟩, .string ⟨u.dft.toArray⟩, .bool u.hk, .bool u.hd] 48) (.cells #[.string h, .string t, .slice a n c] 33))
  have HG := Lib.hid hg
  have HF := Lib.hid hF
  clear hg hF
  go_enter Tryz.func11, Tryz.ntmps11
  go_wp2_with fail
  generalize (w.alloc (.cells #[.int .i64 u.src, .int .i64 u.to, .string ⟨u.name.toArray⟩, .string ⟨u.key.toArray⟩, .string ⟨u.dft.toArray⟩, .bool u.hk, .bool u.hd] 48)).alloc (.cells #[.string h, .string t, .slice a n c] 33) = W0 at *
  have hg0 := HG.out.next HT.out.below
  have hF0 := HF.out.below HT.out.below
  have HB0 := Lib.hid HT.out.below
  have B1 : UBox W0 w.heap.size u := HT.out.b1
  have HB1 := Lib.hid B1
  clear HT HG HF B1
  refine (vars_Get h t ⟨u.name.toArray⟩ ⟨u.key.toArray⟩ a n c fs u.hk _ hg0 hF0 hlim ht (by simp [ByteArray.size]; omega)).mono ?_
  rintro e w1 ⟨rfl, hb1⟩
  have e1 : vget h.data.toList t.data.toList fs (⟨u.name.toArray⟩ : ByteArray).data.toList (⟨u.key.toArray⟩ : ByteArray).data.toList u.hk = vget h.data.toList t.data.toList fs u.name u.key u.hk := rfl
  rw [e1]
  clear e1 hg0 hF0
  obtain ⟨⟨c0, c1, c2, c3, c4, c5, c6⟩, f0, f1, f2, f3, f4, f5, f6⟩ := ubox_cells (HB1.out.next hb1)
  have HB := Lib.hid (HB0.out.trans (hb1.mono HB0.out.size))
  clear hb1 HB0 HB1 c0 c1 c2 c3 c5 f0 f1 f2 f3 f4 f5 f6
  rcases h2 : (vget h.data.toList t.data.toList fs u.name u.key u.hk).2 with _ | _
  · have H2 := Lib.hid h2
    rcases h3 : u.hd with _ | _
    · have HV := Lib.hid (vval_no h2 h3)
      go_wp2
      go_ret2
      rw [HV.out]
      exact ⟨rfl, HB.out⟩
    · have HV := Lib.hid (vval_dft h2 h3)
      go_wp2
      go_ret2
      rw [HV.out]
      exact ⟨rfl, HB.out⟩
  · have HV := Lib.hid (vval_yes h2)
    have H2 := Lib.hid h2
    go_wp2
    go_ret2
    rw [HV.out, H2.out]
    exact ⟨rfl, HB.out⟩
end Go.Proofs.YtoipnaoijccokaaGreatDoor
