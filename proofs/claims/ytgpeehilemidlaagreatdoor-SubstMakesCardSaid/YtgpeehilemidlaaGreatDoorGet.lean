/- Walks of fields.Get and of the reference's. -/
import Derived.Test.YtgpeehilemidlaaGreatDoorFields
import Derived.Test.YtgpeehilemidlaaGreatDoorLib
namespace Go.Proofs.YtgpeehilemidlaaGreatDoor
open Go.RowKit
set_option linter.unusedVariables false

theorem fields_Get (fs : List Fld) (v : Value) (name : ByteArray) (w : World) (hF : FieldsAt w v fs) (hlim : Lim fs) (hn : name.size ≤ 140737488351232) :
    Calls Tryz.prog 87 #[v, .string name] w (Ret w (.tuple #[.string ⟨(fget fs name.data.toList).1.toArray⟩, .bool (fget fs name.data.toList).2])) := by
  have hL := hlim.values name.data.toList
  go_enter Tryz.func87, Tryz.ntmps87
  go_wp2_with fail
  refine (fields_Values fs v name _ hF hlim hn).mono ?_
  rintro e w1 ⟨u, rfl, hown, hb1⟩
  have hS := StrsAt.of_own hown
  obtain ⟨a, c, rfl⟩ := own_shape hown
  go_wp2_with fail
  refine (lib_Join _ _ ⟨#[44, 32]⟩ _ hS hL (by decide)).mono ?_
  rintro e w2 ⟨rfl, hb2⟩
  go_wp2_with fail
  go_ret2
  exact ⟨by simp [fget], hb1.trans (hb2.mono hb1.size)⟩

/-- The round of the loop that joins texts by a comma and a blank (or another text of two bytes): slots and all, for one text of the program. -/
theorem bs_app (a b : Bs) : (⟨a.toArray⟩ : ByteArray) ++ ⟨b.toArray⟩ = ⟨(a ++ b).toArray⟩ := by
  apply ByteArray.ext; simp

theorem cat_more (ls : List Bs) (sep : Bs) (k : Nat) (l : Bs) (hk : 0 < k) (h : ls[k]? = some l) :
    Value.string (⟨(Lib.join (ls.take k) sep).toArray⟩ ++ ⟨sep.toArray⟩ ++ ⟨l.toArray⟩) = .string ⟨(Lib.join (ls.take (k + 1)) sep).toArray⟩ := by
  rw [bs_app, bs_app, join_take ls sep k l hk h]
theorem cat_first (ls : List Bs) (sep : Bs) (k : Nat) (l : Bs) (hk : ¬ 0 < k) (h : ls[k]? = some l) :
    Value.string (⟨(Lib.join (ls.take k) sep).toArray⟩ ++ ⟨l.toArray⟩) = .string ⟨(Lib.join (ls.take (k + 1)) sep).toArray⟩ := by
  obtain rfl : k = 0 := by omega
  rw [bs_app, join_take0 ls sep l h, List.take_zero, Lib.join_nil]; rfl

set_option maxRecDepth 100000 in
set_option maxHeartbeats 400000 in
theorem ref04_Get (fs : List Fld) (v : Value) (name : ByteArray) (w : World) (hF : FieldsAt w v fs) (hlim : Lim fs) (hn : name.size ≤ 140737488351232) :
    Calls Tryz.prog 47 #[v, .string name] w (Ret w (.tuple #[.string ⟨(fget fs name.data.toList).1.toArray⟩, .bool (fget fs name.data.toList).2])) := by
  have hL := hlim.values name.data.toList
  have hG : fget fs name.data.toList = (Lib.join (values fs name.data.toList) [44, 32], decide (0 < (values fs name.data.toList).length)) := rfl
  have HG := Lib.hid hG
  clear hG
  go_enter Tryz.func47, Tryz.ntmps47
  go_wp2_with fail
  refine (ref04_Values fs v name _ hF hlim hn).mono ?_
  rintro e w1 ⟨u, rfl, hown, hb1⟩
  generalize values fs name.data.toList = ls at *
  have hS := StrsAt.of_own hown
  have hm := hL.many
  rcases hS with ⟨a, c, rfl, rfl⟩ | ⟨b, o, c, rfl, hc, hlt, hcell⟩
  · go_wp2
    refine wp_loop_rounds 1 ?_
    rw [rounds_succ]
    go_wp2
    go_ret2
    exact ⟨by rw [HG.out]; simp [Lib.join_nil], hb1⟩
  · have HC : SCells w1 b o ls := hcell
    clear hcell hown
    go_wp2
    go_loop [7, 8] (fun s i => ∃ k : Nat, k ≤ ls.length ∧ i = .int .i64 k ∧ s = .string ⟨(Lib.join (ls.take k) [44, 32]).toArray⟩) (fun _ i => ls.length - (intOf i).toNat)
    case atStart => exact ⟨0, Nat.zero_le _, rfl, rfl⟩
    case round =>
      obtain ⟨k, hk, rfl, rfl⟩ := hrel
      by_cases hkl : k < ls.length
      · obtain ⟨l, hl⟩ : ∃ l, ls[k]? = some l := ⟨ls[k], List.getElem?_eq_getElem hkl⟩
        have hcell := HC k l hl
        have hll := hL.get hl
        have hjl := join_take_le hL [44, 32] (by decide) k
        have Hl := Lib.hid hl
        clear hl
        by_cases h0 : 0 < k
        · go_wp2
          go_round
          case rel => exact ⟨k + 1, by omega, by go_num, cat_more ls [44, 32] k l h0 Hl.out⟩
          case measure => simp [intOf]; omega
        · go_wp2
          go_round
          case rel => exact ⟨k + 1, by omega, by go_num, cat_first ls [44, 32] k l h0 Hl.out⟩
          case measure => simp [intOf]; omega
      · go_wp2
        go_ret2
        rw [List.take_of_length_le (by omega), HG.out]
        exact ⟨by simp, hb1⟩
end Go.Proofs.YtgpeehilemidlaaGreatDoor
