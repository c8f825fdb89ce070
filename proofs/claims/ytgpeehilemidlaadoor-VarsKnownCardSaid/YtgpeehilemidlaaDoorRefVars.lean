/- Walks of the reference's variables. -/
import Derived.Test.YtgpeehilemidlaaDoorRefFind
import Derived.Test.YtgpeehilemidlaaDoorRefText
import Derived.Test.YtgpeehilemidlaaDoorGet
import Derived.Test.YtgpeehilemidlaaDoorPlain5
namespace Go.Proofs.YtgpeehilemidlaaDoor
open Go.RowKit
set_option linter.unusedVariables false

theorem strs_lt {w : World} {b o : Nat} {ls : List Bs} (h : SCells w b o ls) {k : Nat} {l : Bs} (hl : ls[k]? = some l) : b < w.heap.size := cell_lt (h k l hl)

set_option maxRecDepth 100000 in
set_option maxHeartbeats 400000 in
theorem ref25_Cookies (m t bd h : ByteArray) (mn : Int) (a : Option Addr) (n c : Nat) (fs : List Fld) (w : World) (hF : FieldsAt w (.slice a n c) fs) (hlim : Lim fs) :
    Calls Tryd.prog 44 #[.agg #[.string m, .string t, .int .i64 mn, .slice a n c, .string bd, .string h]] w (Ret w (.tuple #[.string ⟨(vcookies fs).1.toArray⟩, .bool (vcookies fs).2])) := by
  have hL := hlim.values cookieName
  have hG : vcookies fs = (Lib.join (values fs cookieName) [59, 32], decide (0 < (values fs cookieName).length)) := rfl
  have HG := Lib.hid hG
  clear hG
  go_enter Tryd.func44, Tryd.ntmps44
  go_wp2_with fail
  refine (ref04_Values fs _ ⟨#[99, 111, 111, 107, 105, 101]⟩ _ (hF.below ((Below.refl _ _).alloc (Nat.le_refl _) _)) hlim (by decide)).mono ?_
  rintro e w1 ⟨u, rfl, hown, hb0⟩
  have hb1 := below_alloc hb0
  clear hb0
  have hnm : (⟨#[99, 111, 111, 107, 105, 101]⟩ : ByteArray).data.toList = cookieName := rfl
  rw [hnm] at hown
  clear hnm
  generalize values fs cookieName = ls at *
  have hS := StrsAt.of_own hown
  have hm := hL.many
  rcases hS with ⟨a, c, rfl, rfl⟩ | ⟨b, o, c, rfl, hc, hlt, hcell⟩
  · go_wp2
    refine wp_loop_rounds 1 ?_
    rw [rounds_succ]
    go_wp2
    go_ret2
    exact ⟨by rw [HG.out]; simp [Lib.join_nil], hb1⟩
  · have HC : SCells w1 b o ls := hcell
    clear hcell hown
    go_wp2
    go_loop [5, 6] (fun s i => ∃ k : Nat, k ≤ ls.length ∧ i = .int .i64 k ∧ s = .string ⟨(Lib.join (ls.take k) [59, 32]).toArray⟩) (fun _ i => ls.length - (intOf i).toNat)
    case atStart => exact ⟨0, Nat.zero_le _, rfl, rfl⟩
    case round =>
      obtain ⟨k, hk, rfl, rfl⟩ := hrel
      by_cases hkl : k < ls.length
      · obtain ⟨l, hl⟩ : ∃ l, ls[k]? = some l := ⟨ls[k], List.getElem?_eq_getElem hkl⟩
        have hcell := HC k l hl
        have hll := hL.get hl
        have hjl := join_take_le hL [59, 32] (by decide) k
        have Hl := Lib.hid hl
        clear hl
        by_cases h0 : 0 < k
        · go_wp2
          go_round
          case rel => exact ⟨k + 1, by omega, by go_num, cat_more ls [59, 32] k l h0 Hl.out⟩
          case measure => simp [intOf]; omega
        · go_wp2
          go_round
          case rel => exact ⟨k + 1, by omega, by go_num, cat_first ls [59, 32] k l h0 Hl.out⟩
          case measure => simp [intOf]; omega
      · go_wp2
        go_ret2
        rw [List.take_of_length_le (by omega), HG.out]
        exact ⟨by simp, hb1⟩

theorem vcookies_len {fs : List Fld} (h : Lim fs) : (vcookies fs).1.length ≤ 100002000 := join_len (h.values cookieName) [59, 32] (by decide)

theorem find_yes (s : ByteArray) (c : UInt8) (w : World) (hs : s.size ≤ 140737488351232) (h : s.data.toList.contains c = true) :
    Calls Tryd.prog 75 #[.string s, .string ⟨#[c]⟩] w fun e w' => e = .returned (.int .i64 (lead (· != c) s.data.toList : Nat)) ∧ w = w' := by
  refine (ref25_Find s ⟨#[c]⟩ w hs (by show 1 ≤ _; decide) (Nat.le_refl 1)).mono ?_
  rintro e w' ⟨rfl, rfl⟩
  exact ⟨ret_int (index_yes c s.data.toList h), rfl⟩
theorem find_no (s : ByteArray) (c : UInt8) (w : World) (hs : s.size ≤ 140737488351232) (h : s.data.toList.contains c = false) :
    Calls Tryd.prog 75 #[.string s, .string ⟨#[c]⟩] w fun e w' => e = .returned (.int .i64 (-1)) ∧ w = w' := by
  refine (ref25_Find s ⟨#[c]⟩ w hs (by show 1 ≤ _; decide) (Nat.le_refl 1)).mono ?_
  rintro e w' ⟨rfl, rfl⟩
  exact ⟨ret_int (index_no c s.data.toList h), rfl⟩

set_option maxRecDepth 100000 in
set_option maxHeartbeats 400000 in
theorem ref25_cookie (m t bd h key : ByteArray) (mn : Int) (a : Option Addr) (n c : Nat) (fs : List Fld) (w : World) (hF : FieldsAt w (.slice a n c) fs) (hlim : Lim fs) :
    Calls Tryd.prog 43 #[.agg #[.string m, .string t, .int .i64 mn, .slice a n c, .string bd, .string h], .string key] w
      (Ret w (.tuple #[.string ⟨((vcookie fs key.data.toList).getD []).toArray⟩, .bool (vcookie fs key.data.toList).isSome])) := by
  have hcl := vcookies_len hlim
  have HG := Lib.hid (show vcookie fs key.data.toList = (pieces 59 (vcookies fs).1).findSome? (ckOf key.data.toList) from rfl)
  go_enter Tryd.func43, Tryd.ntmps43
  go_wp2_with fail
  refine (ref25_Cookies m t bd h mn a n c fs _ (hF.below ((Below.refl _ _).alloc (Nat.le_refl _) _)) hlim).mono ?_
  rintro e w1 ⟨rfl, hb0⟩
  have hb1 := below_alloc hb0
  clear hb0
  generalize (vcookies fs).1 = all at *
  go_wp2_with fail
  refine (ref25_Pieces _ 59 _ _ rfl (by show all.toArray.size < _; simp; omega)).mono ?_
  rintro e w2 ⟨u, rfl, hown, hb2⟩
  have hb12 := hb1.trans (hb2.mono hb1.size)
  have hpe := pieces_each 59 all.length all (Nat.le_refl _)
  have Hpe := Lib.hid hpe
  have hpm := pieces_many 59 all
  have hS := StrsAt.of_own hown
  clear hown hb1 hb2 hpe
  have hat : (⟨all.toArray⟩ : ByteArray).data.toList = all := rfl
  rw [hat] at hS
  clear hat
  generalize pieces 59 all = ls at *
  rcases hS with ⟨a, c, rfl, rfl⟩ | ⟨b, o, c, rfl, hc, hlt, hcell⟩
  · go_wp2
    refine wp_loop_rounds 1 ?_
    rw [rounds_succ]
    go_wp2
    go_ret2
    exact ⟨by rw [HG.out]; simp, hb12⟩
  · have HC : SCells w2 b o ls := hcell
    clear hcell
    go_wp2
    go_loopw [9] (fun i wr => ∃ k : Nat, k ≤ ls.length ∧ i = .int .i64 k ∧ Hid ((ls.take k).findSome? (ckOf key.data.toList) = none) ∧ Below w2.heap.size w2 wr) (fun i _ => ls.length - (intOf i).toNat)
    case atStart => exact ⟨0, Nat.zero_le _, rfl, Lib.hid rfl, Below.refl _ _⟩
    case round =>
      obtain ⟨k, hk, rfl, hno, hbr⟩ := hrel
      by_cases hkl : k < ls.length
      · obtain ⟨l, hl⟩ : ∃ l, ls[k]? = some l := ⟨ls[k], List.getElem?_eq_getElem hkl⟩
        have hcell := (HC.below hbr hlt) k l hl
        have hll := Hpe.out l (List.mem_of_getElem? hl)
        have htl := trim_len l
        have Hl := Lib.hid hl
        clear hl
        go_wp2_with fail
        refine (ref01_Trim _ _ (by show l.toArray.size ≤ _; simp; omega)).mono ?_
        rintro e w3 ⟨rfl, rfl⟩
        have hat : (⟨l.toArray⟩ : ByteArray).data.toList = l := rfl
        rw [hat]
        clear hat
        rcases hct : (trim l).contains 61 with _ | _
        · go_wp2_with fail
          refine (find_no _ 61 _ (by show (trim l).toArray.size ≤ _; simp; omega) hct).mono ?_
          rintro e w3 ⟨rfl, rfl⟩
          have Hct := Lib.hid hct
          clear hct
          go_wp2
          go_roundw
          case rel => exact ⟨k + 1, by omega, by go_num, Lib.hid (fs_step hno.out Hl.out (ckOf_no Hct.out)), hbr⟩
          case measure => (simp [intOf] <;> omega)
        · go_wp2_with fail
          refine (find_yes _ 61 _ (by show (trim l).toArray.size ≤ _; simp; omega) hct).mono ?_
          rintro e w3 ⟨rfl, rfl⟩
          have hat : (⟨(trim l).toArray⟩ : ByteArray).data.toList = trim l := rfl
          rw [hat]
          clear hat
          have hle := lead_lt 61 (trim l) hct
          have Hct := Lib.hid hct
          clear hct
          go_wp2
          · have hq : (((⟨(trim l).toArray⟩ : ByteArray).extract 0 (lead (· != 61) (trim l))).toList == key.toList) = true := by assumption
            go_ret2
            rw [HG.out, fs_hit hno.out Hl.out (ckOf_hit Hct.out hq)]
            exact ⟨ret_sb (ext_past _ 61 _ (Nat.le_refl _)) rfl, hb12.trans (hbr.mono hb12.size)⟩
          · have hq : (((⟨(trim l).toArray⟩ : ByteArray).extract 0 (lead (· != 61) (trim l))).toList == key.toList) = false := by assumption
            go_roundw
            case rel => exact ⟨k + 1, by omega, by go_num, Lib.hid (fs_step hno.out Hl.out (ckOf_ne hq)), hbr⟩
            case measure => (simp [intOf] <;> omega)
      · go_wp2
        go_ret2
        rw [HG.out, fs_end hno.out (by omega)]
        exact ⟨rfl, hb12.trans (hbr.mono hb12.size)⟩
end Go.Proofs.YtgpeehilemidlaaDoor
