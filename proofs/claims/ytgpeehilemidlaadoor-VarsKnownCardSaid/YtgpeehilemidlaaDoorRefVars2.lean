/- Walks of the reference's variables: the query. -/
import Derived.Test.YtgpeehilemidlaaDoorRefVars
namespace Go.Proofs.YtgpeehilemidlaaDoor
open Go.RowKit
set_option linter.unusedVariables false

set_option maxRecDepth 100000 in
theorem ref25_query_no (m t bd h key : ByteArray) (mn : Int) (a : Option Addr) (n c : Nat) (part : Bool) (w : World) (ht : t.size ≤ 100000) (hc : t.data.toList.contains 63 = false) :
    Calls Tryd.prog 45 #[.agg #[.string m, .string t, .int .i64 mn, .slice a n c, .string bd, .string h], .string key, .bool part] w
      (Ret w (.tuple #[.string ⟨#[]⟩, .bool false])) := by
  go_enter Tryd.func45, Tryd.ntmps45
  go_wp2_with fail
  refine (find_no t 63 _ (by omega) hc).mono ?_
  rintro e w1 ⟨rfl, rfl⟩
  go_wp2
  go_ret2
  exact ⟨rfl, (Below.refl _ _).alloc (Nat.le_refl _) _⟩

set_option maxRecDepth 100000 in
theorem ref25_query_whole (m t bd h key : ByteArray) (mn : Int) (a : Option Addr) (n c : Nat) (w : World) (ht : t.size ≤ 100000) (hc : t.data.toList.contains 63 = true) :
    Calls Tryd.prog 45 #[.agg #[.string m, .string t, .int .i64 mn, .slice a n c, .string bd, .string h], .string key, .bool false] w
      (Ret w (.tuple #[.string ⟨(past 63 t.data.toList).toArray⟩, .bool true])) := by
  have hll := lead_lt 63 t.data.toList hc
  rw [bs_size] at hll
  go_enter Tryd.func45, Tryd.ntmps45
  go_wp2_with fail
  refine (find_yes t 63 _ (by omega) hc).mono ?_
  rintro e w1 ⟨rfl, rfl⟩
  have Hc := Lib.hid hc
  clear hc
  go_wp2
  go_ret2
  exact ⟨ret_sb (ext_past t.data.toList 63 t.size (by rw [bs_size]; exact Nat.le_refl _)) rfl, (Below.refl _ _).alloc (Nat.le_refl _) _⟩

set_option maxRecDepth 100000 in
set_option maxHeartbeats 400000 in
theorem ref25_query_part (m t bd h key : ByteArray) (mn : Int) (a : Option Addr) (n c : Nat) (w : World) (ht : t.size ≤ 100000) (hc : t.data.toList.contains 63 = true) :
    Calls Tryd.prog 45 #[.agg #[.string m, .string t, .int .i64 mn, .slice a n c, .string bd, .string h], .string key, .bool true] w
      (Ret w (.tuple #[.string ⟨((vasked t.data.toList key.data.toList).getD []).toArray⟩, .bool (vasked t.data.toList key.data.toList).isSome])) := by
  have HG := Lib.hid (show vasked t.data.toList key.data.toList = (pieces 38 (past 63 t.data.toList)).findSome? (quOf key.data.toList) from rfl)
  have hll := lead_lt 63 t.data.toList hc
  rw [bs_size] at hll
  go_enter Tryd.func45, Tryd.ntmps45
  go_wp2_with fail
  refine (find_yes t 63 _ (by omega) hc).mono ?_
  rintro e w1 ⟨rfl, rfl⟩
  have Hc := Lib.hid hc
  clear hc
  have hpl := past_len 63 t.data.toList
  rw [bs_size] at hpl
  have hx := ext_past t.data.toList 63 t.size (by rw [bs_size]; exact Nat.le_refl _)
  go_wp2_with fail
  refine (ref25_Pieces _ 38 _ _ rfl (by rw [← bs_size, hx]; omega)).mono ?_
  rintro e w2 ⟨u, rfl, hown, hb2⟩
  rw [hx] at hown
  clear hx
  have hb12 := below_alloc hb2
  have Hpe := Lib.hid (pieces_each 38 (past 63 t.data.toList).length _ (Nat.le_refl _))
  have hpm := pieces_many 38 (past 63 t.data.toList)
  have hS := StrsAt.of_own hown
  clear hown hb2
  generalize past 63 t.data.toList = q at *
  generalize pieces 38 q = ls at *
  rcases hS with ⟨a, c, rfl, rfl⟩ | ⟨b, o, c, rfl, hc, hlt, hcell⟩
  · go_wp2
    refine wp_loop_rounds 1 ?_
    rw [rounds_succ]
    go_wp2
    go_ret2
    exact ⟨by rw [HG.out]; simp, hb12⟩
  · have HC : SCells w2 b o ls := hcell
    clear hcell
    go_wp2
    go_loopw [11] (fun i wr => ∃ k : Nat, k ≤ ls.length ∧ i = .int .i64 k ∧ Hid ((ls.take k).findSome? (quOf key.data.toList) = none) ∧ Below w2.heap.size w2 wr) (fun i _ => ls.length - (intOf i).toNat)
    case atStart => exact ⟨0, Nat.zero_le _, rfl, Lib.hid rfl, Below.refl _ _⟩
    case round =>
      obtain ⟨k, hk, rfl, hno, hbr⟩ := hrel
      by_cases hkl : k < ls.length
      · obtain ⟨l, hl⟩ : ∃ l, ls[k]? = some l := ⟨ls[k], List.getElem?_eq_getElem hkl⟩
        have hcell := (HC.below hbr hlt) k l hl
        have hll := Hpe.out l (List.mem_of_getElem? hl)
        have Hl := Lib.hid hl
        clear hl
        rcases hct : l.contains 61 with _ | _
        · go_wp2_with fail
          refine (find_no _ 61 _ (by show l.toArray.size ≤ _; simp; omega) hct).mono ?_
          rintro e w3 ⟨rfl, rfl⟩
          have Hct := Lib.hid hct
          clear hct
          go_wp2
          · have hq : (l == key.toList) = true := by assumption
            go_ret2
            rw [HG.out, fs_hit hno.out Hl.out (quOf_whole Hct.out hq)]
            exact ⟨rfl, hb12.trans (hbr.mono hb12.size)⟩
          · have hq : (l == key.toList) = false := by assumption
            go_roundw
            case rel => exact ⟨k + 1, by omega, by go_num, Lib.hid (fs_step hno.out Hl.out (quOf_no Hct.out hq)), hbr⟩
            case measure => (simp [intOf] <;> omega)
        · go_wp2_with fail
          refine (find_yes _ 61 _ (by show l.toArray.size ≤ _; simp; omega) hct).mono ?_
          rintro e w3 ⟨rfl, rfl⟩
          have hat : (⟨l.toArray⟩ : ByteArray).data.toList = l := rfl
          rw [hat]
          clear hat
          have hle := lead_lt 61 l hct
          have Hct := Lib.hid hct
          clear hct
          go_wp2
          · have hq : (((⟨l.toArray⟩ : ByteArray).extract 0 (lead (· != 61) l)).toList == key.toList) = true := by assumption
            go_ret2
            rw [HG.out, fs_hit hno.out Hl.out (quOf_hit hq)]
            exact ⟨ret_sb (ext_past _ 61 _ (Nat.le_refl _)) rfl, hb12.trans (hbr.mono hb12.size)⟩
          · have hq : (((⟨l.toArray⟩ : ByteArray).extract 0 (lead (· != 61) l)).toList == key.toList) = false := by assumption
            go_roundw
            case rel => exact ⟨k + 1, by omega, by go_num, Lib.hid (fs_step hno.out Hl.out (quOf_ne hq)), hbr⟩
            case measure => (simp [intOf] <;> omega)
      · go_wp2
        go_ret2
        rw [HG.out, fs_end hno.out (by omega)]
        exact ⟨rfl, hb12.trans (hbr.mono hb12.size)⟩
end Go.Proofs.YtgpeehilemidlaaDoor
