/- The walk of the reference's Value. -/
import Derived.Test.YtoipnaoijccokaaGreatDoorRefAt
import Derived.Test.YtoipnaoijccokaaGreatDoorRefGet
import Derived.Test.YtoipnaoijccokaaGreatDoorSubValue
namespace Go.Proofs.YtoipnaoijccokaaGreatDoor
open Go.RowKit
set_option linter.unusedVariables false
attribute [local go_sem ↓] Go.wp_at_zero Go.wp_at_succ

theorem atP_vfind {s : Bs} {k : Nat} : (∀ u, atP s k = some u → vfind s k = some u) ∧ (atP s k = none → vfind s k = vfind s (k + 1)) := by
  unfold atP
  cases h : partsAt (s.drop k) with
  | none => exact ⟨fun u hu => (by cases hu), fun _ => vfind_next h⟩
  | some p => exact ⟨fun u hu => (by rw [vfind_at h]; exact hu), fun hu => (by cases hu)⟩
theorem found_some (u : Use) : foundV (some u) = .tuple #[.agg #[.int .i64 u.src, .int .i64 u.to, .string ⟨u.name.toArray⟩, .string ⟨u.key.toArray⟩, .string ⟨u.dft.toArray⟩, .bool u.hk, .bool u.hd], .bool true] := rfl
set_option maxRecDepth 100000 in
theorem ref26_Value (u : Use) (m t bd h : ByteArray) (mn : Int) (a : Option Addr) (n c : Nat) (fs : List Fld) (w : World) (hF : FieldsAt w (.slice a n c) fs) (hlim : Lim fs) (ht : t.size ≤ 100000) (hk : u.key.length ≤ 100000) :
    Calls Tryz.prog 15 #[.agg #[.int .i64 u.src, .int .i64 u.to, .string ⟨u.name.toArray⟩, .string ⟨u.key.toArray⟩, .string ⟨u.dft.toArray⟩, .bool u.hk, .bool u.hd], .agg #[.string m, .string t, .int .i64 mn, .slice a n c, .string bd, .string h]] w (Ret w (.tuple #[.string ⟨(vval h.data.toList t.data.toList fs u).1.toArray⟩, .bool (vval h.data.toList t.data.toList fs u).2])) := by
  have HT := Lib.hid (two_new w (.cells #[.int .i64 u.src, .int .i64 u.to, .string ⟨u.name.toArray⟩, .string ⟨u.key.toArray⟩, .string ⟨u.dft.toArray⟩, .bool u.hk, .bool u.hd] 59) (.cells #[.string m, .string t, .int .i64 mn, .slice a n c, .string bd, .string h] 38))
  have HF := Lib.hid hF
  clear hF
  go_enter Tryz.func15, Tryz.ntmps15
  go_wp2_with fail
  generalize (w.alloc (.cells #[.int .i64 u.src, .int .i64 u.to, .string ⟨u.name.toArray⟩, .string ⟨u.key.toArray⟩, .string ⟨u.dft.toArray⟩, .bool u.hk, .bool u.hd] 59)).alloc (.cells #[.string m, .string t, .int .i64 mn, .slice a n c, .string bd, .string h] 38) = W0 at *
  have hF0 := HF.out.below HT.out.below
  have HB0 := Lib.hid HT.out.below
  have B1 : RU W0 w.heap.size u.src u.to u.name u.key u.dft u.hk u.hd := HT.out.b1
  have HB1 := Lib.hid B1
  clear HT HF B1
  refine (ref25_Get m t bd h ⟨u.name.toArray⟩ ⟨u.key.toArray⟩ mn a n c fs W0 hF0 hlim ht (by show u.key.length ≤ _; omega) u.hk).mono ?_
  rintro e w1 ⟨rfl, hb1⟩
  have e1 : vget h.data.toList t.data.toList fs (⟨u.name.toArray⟩ : ByteArray).data.toList (⟨u.key.toArray⟩ : ByteArray).data.toList u.hk = vget h.data.toList t.data.toList fs u.name u.key u.hk := rfl
  rw [e1]
  clear e1 hF0
  have bx := RU.c (show RU w1 w.heap.size u.src u.to u.name u.key u.dft u.hk u.hd from (hb1.block _ (blk_lt HB1.out)).trans HB1.out)
  have c4 := bx.c4
  have c6 := bx.c6
  have HB := Lib.hid (HB0.out.trans (hb1.mono HB0.out.size))
  clear hb1 HB0 HB1 bx
  rcases h2 : (vget h.data.toList t.data.toList fs u.name u.key u.hk).2 with _ | _
  · have H2 := Lib.hid h2
    rcases h3 : u.hd with _ | _
    · have HV := Lib.hid (vval_no h2 h3)
      go_wp2
      go_ret2
      rw [HV.out]
      exact ⟨rfl, HB.out⟩
    · have HV := Lib.hid (vval_dft h2 h3)
      go_wp2
      go_ret2
      rw [HV.out]
      exact ⟨rfl, HB.out⟩
  · have HV := Lib.hid (vval_yes h2)
    have H2 := Lib.hid h2
    go_wp2
    go_ret2
    rw [HV.out, H2.out]
    exact ⟨rfl, HB.out⟩
end Go.Proofs.YtoipnaoijccokaaGreatDoor
