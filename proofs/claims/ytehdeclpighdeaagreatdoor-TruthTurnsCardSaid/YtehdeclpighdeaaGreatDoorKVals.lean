/- The walk of fields.Values. -/
import Derived.Test.YtehdeclpighdeaaGreatDoorKCopy
import Derived.Test.YtehdeclpighdeaaGreatDoorKText1
import Derived.Test.YtehdeclpighdeaaGreatDoorKLib1
namespace Go.Proofs.YtehdeclpighdeaaGreatDoor
open Go.RowKit
set_option linter.unusedVariables false
theorem fields_Values_none (a : Option Addr) (c : Nat) (name : ByteArray) (w : World) :
    Calls Tryz.prog 162 #[.slice a 0 c, .string name] w (RetStrs w []) := by
  go_enter Tryz.func162, Tryz.ntmps162
  go_wp2
  refine wp_loop_rounds 1 ?_
  rw [rounds_succ]
  go_wp2
  go_ret
  exact ⟨_, rfl, World.ownsRow_nil _ _ _ _, Below.refl _ _⟩
set_option maxRecDepth 100000 in
set_option maxHeartbeats 400000 in
theorem fields_Values_some (fs : List Fld) (b o c : Nat) (name : ByteArray) (w : World) (hc : fs.length ≤ c) (hb : b < w.heap.size) (hF : FCells w b o fs) (hlim : Lim fs) (hn : name.size ≤ 140737488351232) :
    Calls Tryz.prog 162 #[.slice (some ⟨b, o, none⟩) fs.length c, .string name] w (RetStrs w (values fs name.data.toList)) := by
  have hmany := hlim.many
  go_enter Tryz.func162, Tryz.ntmps162
  go_wp2
  go_loopw [4, 9] (fun v i wr => ∃ k : Nat, k ≤ fs.length ∧ i = .int .i64 k ∧ wr.ownsRow w.heap.size 9 1 v (values (fs.take k) name.data.toList).length (scells (values (fs.take k) name.data.toList)) ∧ Below w.heap.size w wr) (fun _ i _ => fs.length - (intOf i).toNat)
  case atStart => exact ⟨0, Nat.zero_le _, rfl, World.ownsRow_nil _ _ _ _, Below.refl _ _⟩
  case round =>
    obtain ⟨k, hk, rfl, hown, hbel⟩ := hrel
    have hsz := hbel.size
    by_cases hlt : k < fs.length
    · obtain ⟨f, hf⟩ : ∃ f, fs[k]? = some f := ⟨fs[k], List.getElem?_eq_getElem hlt⟩
      obtain ⟨h1, h2⟩ := (hF.below hbel hb) k f hf
      have hfl := hlim.get hf
      have Hf := Lib.hid hf
      clear hf
      have hvl := values_take_len fs name.data.toList k
      go_wp2_with fail
      refine (text_Same _ _ _ (by simp [ByteArray.size]; omega) hn).mono ?_
      rintro e w1 ⟨rfl, hb1⟩
      have hc2 : w1.cell? ⟨wr.heap.size, 1, none⟩ = some (.string ⟨f.2.toArray⟩) := (hb1.cell (p := ⟨wr.heap.size, 1, none⟩) (by simp)).trans (cell_new wr _ _ 1 _ rfl)
      have hb12 := below_alloc hb1
      have hs2 := hb12.size
      have hown2 := own_below hown hb12
      clear h1 h2 hown hb1
      rcases hsm : same f.1 name.data.toList with _ | _
      · have Hs := Lib.hid hsm
        go_wp2
        go_roundw
        case rel =>
          refine ⟨k + 1, by omega, by go_num, ?_, hbel.trans (hb12.mono hsz)⟩
          rw [values_no fs _ k f Hf.out Hs.out]
          exact hown2
        case measure => simp [intOf]; omega
      · have Hs := Lib.hid hsm
        go_wp2_with (at_builtin; refine wpList_app1 rfl _ _ 120 rfl 9 (.string ⟨#[]⟩) 1 16 u120 info9 rfl (by decide) w.heap.size _ _ _ _ rfl hown2 [.string ⟨f.2.toArray⟩] rfl rfl rfl (by simp [Value.oneCell']) (by omega) (by omega) (by omega) ?_; intro g cap w3 hown3 hb3 hsz3)
        go_roundw
        case rel =>
          refine ⟨k + 1, by omega, by go_num, ?_, hbel.trans ((hb12.mono hsz).trans hb3)⟩
          rw [values_yes fs _ k f Hf.out Hs.out, scells_snoc, List.length_append]
          exact hown3
        case measure => simp [intOf]; omega
    · go_wp2
      go_ret
      refine ⟨_, rfl, ?_, hbel⟩
      rw [List.take_of_length_le (by omega)] at hown
      exact hown
theorem fields_Values (fs : List Fld) (v : Value) (name : ByteArray) (w : World) (hF : FieldsAt w v fs) (hlim : Lim fs) (hn : name.size ≤ 140737488351232) :
    Calls Tryz.prog 162 #[v, .string name] w (RetStrs w (values fs name.data.toList)) := by
  rcases hF with ⟨a, c, rfl, rfl⟩ | ⟨b, o, c, rfl, hc, hlt, hcell⟩
  · exact fields_Values_none a c name w
  · exact fields_Values_some fs b o c name w hc hlt hcell hlim hn
end Go.Proofs.YtehdeclpighdeaaGreatDoor
