/- The law's example request, and what is asked of it. -/
import Derived.Test.YtmkpejioinkceaaDoorFew
import Derived.Test.YtmkpejioinkceaaDoorFlds
namespace Go.Proofs.YtmkpejioinkceaaDoor
open Go.RowKit
set_option linter.unusedVariables false

def someT : Bs := [47, 112, 63, 97, 61, 49, 38, 98, 38, 97, 61, 50]
def someF : List Fld := [([67, 111, 111, 107, 105, 101], [120, 61, 49, 59, 32, 121, 32, 61, 32, 50, 59, 122, 61, 97, 61, 98]),
  ([85, 115, 101, 114, 45, 65, 103, 101, 110, 116], [77, 111, 122, 105, 108, 108, 97, 47, 52, 46, 48, 32, 40, 99, 111, 109, 112, 97, 116, 105, 98, 108, 101, 59, 32, 77, 83, 73, 69, 32, 53, 46, 53, 59, 32, 87, 105, 110, 100, 111, 119, 115, 41]),
  ([65, 99, 99, 101, 112, 116, 45, 76, 97, 110, 103, 117, 97, 103, 101], [101, 110, 44, 32, 100, 101, 59, 113, 61, 48, 46, 48, 44, 32, 70, 82, 45, 102, 114, 59, 32, 113, 61, 49])]
theorem some_lim : Lim someF := ⟨by decide, by decide⟩

def RetSome (w : World) (e : Ending) (w' : World) : Prop :=
  e = .returned (.agg #[.string ⟨#[71, 69, 84]⟩, .string ⟨someT.toArray⟩, .int .i64 0, .slice (some ⟨w.heap.size + 1, 0, none⟩) 3 3, .string ⟨#[]⟩]) ∧ FieldsAt w' (.slice (some ⟨w.heap.size + 1, 0, none⟩) 3 3) someF ∧ Below w.heap.size w w'
set_option maxRecDepth 100000 in
theorem law_some (w : World) : Calls Tryd.prog 22 #[] w (RetSome w) := by
  have HT := Lib.hid (fun o1 o2 => two_new w o1 o2)
  go_enter Tryd.func22, Tryd.ntmps22
  go_wp2
  have h2 := HT.out (.cells #[.string ⟨#[71, 69, 84]⟩, .string ⟨#[47, 112, 63, 97, 61, 49, 38, 98, 38, 97, 61, 50]⟩, .int .i64 0, .slice (some ⟨w.heap.size + 1, 0, none⟩) 3 3, .string ⟨#[]⟩] 24) (.cells (fcells someF).toArray 32)
  have k0 := cell_of_row _ _ 0 _ _ _ h2.b1
  have k1 := cell_of_row _ _ 1 _ _ _ h2.b1
  have k2 := cell_of_row _ _ 2 _ _ _ h2.b1
  have k3 := cell_of_row _ _ 3 _ _ _ h2.b1
  have k4 := cell_of_row _ _ 4 _ _ _ h2.b1
  refine bodyPost_ret (v := .agg #[.string ⟨#[71, 69, 84]⟩, .string ⟨someT.toArray⟩, .int .i64 0, .slice (some ⟨w.heap.size + 1, 0, none⟩) 3 3, .string ⟨#[]⟩]) ?_ rfl ⟨rfl, fields_row someF h2.b2 rfl, h2.below⟩
  simp [fcells, someF] at k0 k1 k2 k3 k4
  simp [results, Tryd.f22, go_sem, k0, k1, k2, k3, k4, someT]

def mark (v : Bs × Bool) : Bs := bif v.2 then v.1 else 45 :: v.1
set_option maxRecDepth 100000 in
theorem law_whole (name : ByteArray) (w : World) (hg : Good w) :
    Calls Tryd.prog 13 #[.string name] w (Ret w (.string ⟨(mark (vget [104] someT someF name.data.toList [] false)).toArray⟩)) := by
  obtain ⟨v, hv⟩ : ∃ v, vget [104] someT someF name.data.toList [] false = v := ⟨_, rfl⟩
  have HV := Lib.hid hv
  have HN := Lib.hid (vget_no (h := [104]) (t := someT) (fs := someF) (name := name.data.toList) (key := []) (has := false))
  go_enter Tryd.func13, Tryd.ntmps13
  go_wp2_with fail
  refine (law_some _).mono ?_
  rintro e w1 ⟨rfl, hF, hb1⟩
  go_wp2_with fail
  refine (vars_Of _ _ _ ⟨#[104]⟩ 0 _ _ _ someF _ hF (by decide)).mono ?_
  rintro e w2 ⟨a', c', rfl, hown, hb2⟩
  have hb12 := hb1.trans (hb2.mono hb1.size)
  go_wp2_with fail
  refine (vars_Get ⟨#[104]⟩ ⟨someT.toArray⟩ name ⟨#[]⟩ a' someF.length c' someF false w2 (hg.next hb12) hown.at some_lim (by decide) (by decide)).mono ?_
  rintro e w3 ⟨rfl, hb3⟩
  have hb13 := hb12.trans (hb3.mono hb12.size)
  have hat : vget (⟨#[104]⟩ : ByteArray).data.toList (⟨someT.toArray⟩ : ByteArray).data.toList someF name.data.toList (⟨#[]⟩ : ByteArray).data.toList false = v := hv
  rw [hat]
  clear hat hv
  obtain ⟨x, y⟩ := v
  rcases y with _ | _
  · have hx : x = [] := by have := HN.out; rw [HV.out] at this; exact this rfl
    subst hx
    go_wp2
    go_ret
    rw [HV.out]
    exact ⟨rfl, hb13⟩
  · go_wp2
    go_ret
    rw [HV.out]
    exact ⟨rfl, hb13⟩

set_option maxRecDepth 100000 in
theorem law_part (name key : ByteArray) (w : World) (hg : Good w) (hkey : key.size ≤ 100000) :
    Calls Tryd.prog 14 #[.string name, .string key] w (Ret w (.string ⟨(mark (vget [104] someT someF name.data.toList key.data.toList true)).toArray⟩)) := by
  obtain ⟨v, hv⟩ : ∃ v, vget [104] someT someF name.data.toList key.data.toList true = v := ⟨_, rfl⟩
  have HV := Lib.hid hv
  have HN := Lib.hid (vget_no (h := [104]) (t := someT) (fs := someF) (name := name.data.toList) (key := key.data.toList) (has := true))
  go_enter Tryd.func14, Tryd.ntmps14
  go_wp2_with fail
  refine (law_some _).mono ?_
  rintro e w1 ⟨rfl, hF, hb1⟩
  go_wp2_with fail
  refine (vars_Of _ _ _ ⟨#[104]⟩ 0 _ _ _ someF _ hF (by decide)).mono ?_
  rintro e w2 ⟨a', c', rfl, hown, hb2⟩
  have hb12 := hb1.trans (hb2.mono hb1.size)
  go_wp2_with fail
  refine (vars_Get ⟨#[104]⟩ ⟨someT.toArray⟩ name key a' someF.length c' someF true w2 (hg.next hb12) hown.at some_lim (by decide) hkey).mono ?_
  rintro e w3 ⟨rfl, hb3⟩
  have hb13 := hb12.trans (hb3.mono hb12.size)
  have hat : vget (⟨#[104]⟩ : ByteArray).data.toList (⟨someT.toArray⟩ : ByteArray).data.toList someF name.data.toList (key : ByteArray).data.toList true = v := hv
  rw [hat]
  clear hat hv
  obtain ⟨x, y⟩ := v
  rcases y with _ | _
  · have hx : x = [] := by have := HN.out; rw [HV.out] at this; exact this rfl
    subst hx
    go_wp2
    go_ret
    rw [HV.out]
    exact ⟨rfl, hb13⟩
  · go_wp2
    go_ret
    rw [HV.out]
    exact ⟨rfl, hb13⟩

end Go.Proofs.YtmkpejioinkceaaDoor
