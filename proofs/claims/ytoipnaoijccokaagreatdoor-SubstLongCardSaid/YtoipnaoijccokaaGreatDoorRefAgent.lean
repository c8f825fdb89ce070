/- Walks of the reference's variables. Walks of the reference's variables: what is told of an agent. -/
import Derived.Test.YtoipnaoijccokaaGreatDoorRefFind
import Derived.Test.YtoipnaoijccokaaGreatDoorRefText
import Derived.Test.YtoipnaoijccokaaGreatDoorGetR
import Derived.Test.YtoipnaoijccokaaGreatDoorPlain
namespace Go.Proofs.YtoipnaoijccokaaGreatDoor
open Go.RowKit
set_option linter.unusedVariables false


set_option maxRecDepth 100000 in
set_option maxHeartbeats 400000 in
theorem ref25_Cookies (m t bd h : ByteArray) (mn : Int) (a : Option Addr) (n c : Nat) (fs : List Fld) (w : World) (hF : FieldsAt w (.slice a n c) fs) (hlim : Lim fs) :
    Calls Tryz.prog 40 #[.agg #[.string m, .string t, .int .i64 mn, .slice a n c, .string bd, .string h]] w (Ret w (.tuple #[.string ⟨(vcookies fs).1.toArray⟩, .bool (vcookies fs).2])) := by
  have hL := hlim.values cookieName
  have hG : vcookies fs = (Lib.join (values fs cookieName) [59, 32], decide (0 < (values fs cookieName).length)) := rfl
  have HG := Lib.hid hG
  clear hG
  go_enter Tryz.func40, Tryz.ntmps40
  go_wp2_with fail
  refine (ref04_Values fs _ ⟨#[99, 111, 111, 107, 105, 101]⟩ _ (hF.below ((Below.refl _ _).alloc (Nat.le_refl _) _)) hlim (by decide)).mono ?_
  rintro e w1 ⟨u, rfl, hown, hb0⟩
  have hb1 := below_alloc hb0
  clear hb0
  have hnm : (⟨#[99, 111, 111, 107, 105, 101]⟩ : ByteArray).data.toList = cookieName := rfl
  rw [hnm] at hown
  clear hnm
  generalize values fs cookieName = ls at *
  have hS := StrsAt.of_own hown
  have hm := hL.many
  rcases hS with ⟨a, c, rfl, rfl⟩ | ⟨b, o, c, rfl, hc, hlt, hcell⟩
  · go_wp2
    refine wp_loop_rounds 1 ?_
    rw [rounds_succ]
    go_wp2
    go_ret2
    exact ⟨by rw [HG.out]; simp [Lib.join_nil], hb1⟩
  · have HC : SCells w1 b o ls := hcell
    clear hcell hown
    go_wp2
    go_loop [5, 6] (fun s i => ∃ k : Nat, k ≤ ls.length ∧ i = .int .i64 k ∧ s = .string ⟨(Lib.join (ls.take k) [59, 32]).toArray⟩) (fun _ i => ls.length - (intOf i).toNat)
    case atStart => exact ⟨0, Nat.zero_le _, rfl, rfl⟩
    case round =>
      obtain ⟨k, hk, rfl, rfl⟩ := hrel
      by_cases hkl : k < ls.length
      · obtain ⟨l, hl⟩ : ∃ l, ls[k]? = some l := ⟨ls[k], List.getElem?_eq_getElem hkl⟩
        have hcell := HC k l hl
        have hll := hL.get hl
        have hjl := join_take_le hL [59, 32] (by decide) k
        have Hl := Lib.hid hl
        clear hl
        by_cases h0 : 0 < k
        · go_wp2
          go_round
          case rel => exact ⟨k + 1, by omega, by go_num, cat_more ls [59, 32] k l h0 Hl.out⟩
          case measure => simp [intOf]; omega
        · go_wp2
          go_round
          case rel => exact ⟨k + 1, by omega, by go_num, cat_first ls [59, 32] k l h0 Hl.out⟩
          case measure => simp [intOf]; omega
      · go_wp2
        go_ret2
        rw [List.take_of_length_le (by omega), HG.out]
        exact ⟨by simp, hb1⟩


theorem find_yes (s : ByteArray) (c : UInt8) (w : World) (hs : s.size ≤ 140737488351232) (h : s.data.toList.contains c = true) :
    Calls Tryz.prog 61 #[.string s, .string ⟨#[c]⟩] w fun e w' => e = .returned (.int .i64 (lead (· != c) s.data.toList : Nat)) ∧ w = w' := by
  refine (ref25_Find s ⟨#[c]⟩ w hs (by show 1 ≤ _; decide) (Nat.le_refl 1)).mono ?_
  rintro e w' ⟨rfl, rfl⟩
  exact ⟨ret_int (index_yes c s.data.toList h), rfl⟩
theorem find_no (s : ByteArray) (c : UInt8) (w : World) (hs : s.size ≤ 140737488351232) (h : s.data.toList.contains c = false) :
    Calls Tryz.prog 61 #[.string s, .string ⟨#[c]⟩] w fun e w' => e = .returned (.int .i64 (-1)) ∧ w = w' := by
  refine (ref25_Find s ⟨#[c]⟩ w hs (by show 1 ≤ _; decide) (Nat.le_refl 1)).mono ?_
  rintro e w' ⟨rfl, rfl⟩
  exact ⟨ret_int (index_no c s.data.toList h), rfl⟩

set_option maxRecDepth 100000 in
set_option maxHeartbeats 400000 in
theorem ref25_cookie (m t bd h key : ByteArray) (mn : Int) (a : Option Addr) (n c : Nat) (fs : List Fld) (w : World) (hF : FieldsAt w (.slice a n c) fs) (hlim : Lim fs) :
    Calls Tryz.prog 39 #[.agg #[.string m, .string t, .int .i64 mn, .slice a n c, .string bd, .string h], .string key] w
      (Ret w (.tuple #[.string ⟨((vcookie fs key.data.toList).getD []).toArray⟩, .bool (vcookie fs key.data.toList).isSome])) := by
  have hcl := vcookies_len hlim
  have HG := Lib.hid (show vcookie fs key.data.toList = (pieces 59 (vcookies fs).1).findSome? (ckOf key.data.toList) from rfl)
  go_enter Tryz.func39, Tryz.ntmps39
  go_wp2_with fail
  refine (ref25_Cookies m t bd h mn a n c fs _ (hF.below ((Below.refl _ _).alloc (Nat.le_refl _) _)) hlim).mono ?_
  rintro e w1 ⟨rfl, hb0⟩
  have hb1 := below_alloc hb0
  clear hb0
  generalize (vcookies fs).1 = all at *
  go_wp2_with fail
  refine (ref25_Pieces _ 59 _ _ rfl (by show all.toArray.size < _; simp; omega)).mono ?_
  rintro e w2 ⟨u, rfl, hown, hb2⟩
  have hb12 := hb1.trans (hb2.mono hb1.size)
  have hpe := pieces_each 59 all.length all (Nat.le_refl _)
  have Hpe := Lib.hid hpe
  have hpm := pieces_many 59 all
  have hS := StrsAt.of_own hown
  clear hown hb1 hb2 hpe
  have hat : (⟨all.toArray⟩ : ByteArray).data.toList = all := rfl
  rw [hat] at hS
  clear hat
  generalize pieces 59 all = ls at *
  rcases hS with ⟨a, c, rfl, rfl⟩ | ⟨b, o, c, rfl, hc, hlt, hcell⟩
  · go_wp2
    refine wp_loop_rounds 1 ?_
    rw [rounds_succ]
    go_wp2
    go_ret2
    exact ⟨by rw [HG.out]; simp, hb12⟩
  · have HC : SCells w2 b o ls := hcell
    clear hcell
    go_wp2
    go_loopw [9] (fun i wr => ∃ k : Nat, k ≤ ls.length ∧ i = .int .i64 k ∧ Hid ((ls.take k).findSome? (ckOf key.data.toList) = none) ∧ Below w2.heap.size w2 wr) (fun i _ => ls.length - (intOf i).toNat)
    case atStart => exact ⟨0, Nat.zero_le _, rfl, Lib.hid rfl, Below.refl _ _⟩
    case round =>
      obtain ⟨k, hk, rfl, hno, hbr⟩ := hrel
      by_cases hkl : k < ls.length
      · obtain ⟨l, hl⟩ : ∃ l, ls[k]? = some l := ⟨ls[k], List.getElem?_eq_getElem hkl⟩
        have hcell := (HC.below hbr hlt) k l hl
        have hll := Hpe.out l (List.mem_of_getElem? hl)
        have htl := trim_len l
        have Hl := Lib.hid hl
        clear hl
        go_wp2_with fail
        refine (ref01_Trim _ _ (by show l.toArray.size ≤ _; simp; omega)).mono ?_
        rintro e w3 ⟨rfl, rfl⟩
        have hat : (⟨l.toArray⟩ : ByteArray).data.toList = l := rfl
        rw [hat]
        clear hat
        rcases hct : (trim l).contains 61 with _ | _
        · go_wp2_with fail
          refine (find_no _ 61 _ (by show (trim l).toArray.size ≤ _; simp; omega) hct).mono ?_
          rintro e w3 ⟨rfl, rfl⟩
          have Hct := Lib.hid hct
          clear hct
          go_wp2
          go_roundw
          case rel => exact ⟨k + 1, by omega, by go_num, Lib.hid (fs_step hno.out Hl.out (ckOf_no Hct.out)), hbr⟩
          case measure => (simp [intOf] <;> omega)
        · go_wp2_with fail
          refine (find_yes _ 61 _ (by show (trim l).toArray.size ≤ _; simp; omega) hct).mono ?_
          rintro e w3 ⟨rfl, rfl⟩
          have hat : (⟨(trim l).toArray⟩ : ByteArray).data.toList = trim l := rfl
          rw [hat]
          clear hat
          have hle := lead_lt 61 (trim l) hct
          have Hct := Lib.hid hct
          clear hct
          go_wp2
          · have hq : (((⟨(trim l).toArray⟩ : ByteArray).extract 0 (lead (· != 61) (trim l))).toList == key.toList) = true := by assumption
            go_ret2
            rw [HG.out, fs_hit hno.out Hl.out (ckOf_hit Hct.out hq)]
            exact ⟨ret_sb (ext_past _ 61 _ (Nat.le_refl _)) rfl, hb12.trans (hbr.mono hb12.size)⟩
          · have hq : (((⟨(trim l).toArray⟩ : ByteArray).extract 0 (lead (· != 61) (trim l))).toList == key.toList) = false := by assumption
            go_roundw
            case rel => exact ⟨k + 1, by omega, by go_num, Lib.hid (fs_step hno.out Hl.out (ckOf_ne hq)), hbr⟩
            case measure => (simp [intOf] <;> omega)
      · go_wp2
        go_ret2
        rw [HG.out, fs_end hno.out (by omega)]
        exact ⟨rfl, hb12.trans (hbr.mono hb12.size)⟩
end Go.Proofs.YtoipnaoijccokaaGreatDoor

/- Walks of the reference's variables: the query. -/
namespace Go.Proofs.YtoipnaoijccokaaGreatDoor
open Go.RowKit
set_option linter.unusedVariables false

set_option maxRecDepth 100000 in
theorem ref25_query_no (m t bd h key : ByteArray) (mn : Int) (a : Option Addr) (n c : Nat) (part : Bool) (w : World) (ht : t.size ≤ 100000) (hc : t.data.toList.contains 63 = false) :
    Calls Tryz.prog 41 #[.agg #[.string m, .string t, .int .i64 mn, .slice a n c, .string bd, .string h], .string key, .bool part] w
      (Ret w (.tuple #[.string ⟨#[]⟩, .bool false])) := by
  go_enter Tryz.func41, Tryz.ntmps41
  go_wp2_with fail
  refine (find_no t 63 _ (by omega) hc).mono ?_
  rintro e w1 ⟨rfl, rfl⟩
  go_wp2
  go_ret2
  exact ⟨rfl, (Below.refl _ _).alloc (Nat.le_refl _) _⟩

set_option maxRecDepth 100000 in
theorem ref25_query_whole (m t bd h key : ByteArray) (mn : Int) (a : Option Addr) (n c : Nat) (w : World) (ht : t.size ≤ 100000) (hc : t.data.toList.contains 63 = true) :
    Calls Tryz.prog 41 #[.agg #[.string m, .string t, .int .i64 mn, .slice a n c, .string bd, .string h], .string key, .bool false] w
      (Ret w (.tuple #[.string ⟨(past 63 t.data.toList).toArray⟩, .bool true])) := by
  have hll := lead_lt 63 t.data.toList hc
  rw [bs_size] at hll
  go_enter Tryz.func41, Tryz.ntmps41
  go_wp2_with fail
  refine (find_yes t 63 _ (by omega) hc).mono ?_
  rintro e w1 ⟨rfl, rfl⟩
  have Hc := Lib.hid hc
  clear hc
  go_wp2
  go_ret2
  exact ⟨ret_sb (ext_past t.data.toList 63 t.size (by rw [bs_size]; exact Nat.le_refl _)) rfl, (Below.refl _ _).alloc (Nat.le_refl _) _⟩

set_option maxRecDepth 100000 in
set_option maxHeartbeats 400000 in
theorem ref25_query_part (m t bd h key : ByteArray) (mn : Int) (a : Option Addr) (n c : Nat) (w : World) (ht : t.size ≤ 100000) (hc : t.data.toList.contains 63 = true) :
    Calls Tryz.prog 41 #[.agg #[.string m, .string t, .int .i64 mn, .slice a n c, .string bd, .string h], .string key, .bool true] w
      (Ret w (.tuple #[.string ⟨((vasked t.data.toList key.data.toList).getD []).toArray⟩, .bool (vasked t.data.toList key.data.toList).isSome])) := by
  have HG := Lib.hid (show vasked t.data.toList key.data.toList = (pieces 38 (past 63 t.data.toList)).findSome? (quOf key.data.toList) from rfl)
  have hll := lead_lt 63 t.data.toList hc
  rw [bs_size] at hll
  go_enter Tryz.func41, Tryz.ntmps41
  go_wp2_with fail
  refine (find_yes t 63 _ (by omega) hc).mono ?_
  rintro e w1 ⟨rfl, rfl⟩
  have Hc := Lib.hid hc
  clear hc
  have hpl := past_len 63 t.data.toList
  rw [bs_size] at hpl
  have hx := ext_past t.data.toList 63 t.size (by rw [bs_size]; exact Nat.le_refl _)
  go_wp2_with fail
  refine (ref25_Pieces _ 38 _ _ rfl (by rw [← bs_size, hx]; omega)).mono ?_
  rintro e w2 ⟨u, rfl, hown, hb2⟩
  rw [hx] at hown
  clear hx
  have hb12 := below_alloc hb2
  have Hpe := Lib.hid (pieces_each 38 (past 63 t.data.toList).length _ (Nat.le_refl _))
  have hpm := pieces_many 38 (past 63 t.data.toList)
  have hS := StrsAt.of_own hown
  clear hown hb2
  generalize past 63 t.data.toList = q at *
  generalize pieces 38 q = ls at *
  rcases hS with ⟨a, c, rfl, rfl⟩ | ⟨b, o, c, rfl, hc, hlt, hcell⟩
  · go_wp2
    refine wp_loop_rounds 1 ?_
    rw [rounds_succ]
    go_wp2
    go_ret2
    exact ⟨by rw [HG.out]; simp, hb12⟩
  · have HC : SCells w2 b o ls := hcell
    clear hcell
    go_wp2
    go_loopw [11] (fun i wr => ∃ k : Nat, k ≤ ls.length ∧ i = .int .i64 k ∧ Hid ((ls.take k).findSome? (quOf key.data.toList) = none) ∧ Below w2.heap.size w2 wr) (fun i _ => ls.length - (intOf i).toNat)
    case atStart => exact ⟨0, Nat.zero_le _, rfl, Lib.hid rfl, Below.refl _ _⟩
    case round =>
      obtain ⟨k, hk, rfl, hno, hbr⟩ := hrel
      by_cases hkl : k < ls.length
      · obtain ⟨l, hl⟩ : ∃ l, ls[k]? = some l := ⟨ls[k], List.getElem?_eq_getElem hkl⟩
        have hcell := (HC.below hbr hlt) k l hl
        have hll := Hpe.out l (List.mem_of_getElem? hl)
        have Hl := Lib.hid hl
        clear hl
        rcases hct : l.contains 61 with _ | _
        · go_wp2_with fail
          refine (find_no _ 61 _ (by show l.toArray.size ≤ _; simp; omega) hct).mono ?_
          rintro e w3 ⟨rfl, rfl⟩
          have Hct := Lib.hid hct
          clear hct
          go_wp2
          · have hq : (l == key.toList) = true := by assumption
            go_ret2
            rw [HG.out, fs_hit hno.out Hl.out (quOf_whole Hct.out hq)]
            exact ⟨rfl, hb12.trans (hbr.mono hb12.size)⟩
          · have hq : (l == key.toList) = false := by assumption
            go_roundw
            case rel => exact ⟨k + 1, by omega, by go_num, Lib.hid (fs_step hno.out Hl.out (quOf_no Hct.out hq)), hbr⟩
            case measure => (simp [intOf] <;> omega)
        · go_wp2_with fail
          refine (find_yes _ 61 _ (by show l.toArray.size ≤ _; simp; omega) hct).mono ?_
          rintro e w3 ⟨rfl, rfl⟩
          have hat : (⟨l.toArray⟩ : ByteArray).data.toList = l := rfl
          rw [hat]
          clear hat
          have hle := lead_lt 61 l hct
          have Hct := Lib.hid hct
          clear hct
          go_wp2
          · have hq : (((⟨l.toArray⟩ : ByteArray).extract 0 (lead (· != 61) l)).toList == key.toList) = true := by assumption
            go_ret2
            rw [HG.out, fs_hit hno.out Hl.out (quOf_hit hq)]
            exact ⟨ret_sb (ext_past _ 61 _ (Nat.le_refl _)) rfl, hb12.trans (hbr.mono hb12.size)⟩
          · have hq : (((⟨l.toArray⟩ : ByteArray).extract 0 (lead (· != 61) l)).toList == key.toList) = false := by assumption
            go_roundw
            case rel => exact ⟨k + 1, by omega, by go_num, Lib.hid (fs_step hno.out Hl.out (quOf_ne hq)), hbr⟩
            case measure => (simp [intOf] <;> omega)
      · go_wp2
        go_ret2
        rw [HG.out, fs_end hno.out (by omega)]
        exact ⟨rfl, hb12.trans (hbr.mono hb12.size)⟩
end Go.Proofs.YtoipnaoijccokaaGreatDoor

/- Walks of the reference's variables: languages. -/
namespace Go.Proofs.YtoipnaoijccokaaGreatDoor
open Go.RowKit
set_option linter.unusedVariables false

set_option maxRecDepth 100000 in
set_option maxHeartbeats 400000 in
theorem ref25_nought (s : ByteArray) (w : World) (hs : s.size ≤ 140737488351232) :
    Calls Tryz.prog 65 #[.string s] w (Ret w (.bool (zero s.data.toList))) := by
  have HC0 : SCells (w.alloc (.cells (scells zeros).toArray 9)) w.heap.size 0 zeros := fun j l hl => by
    rw [Nat.zero_add]; exact cell_new w (scells zeros).toArray 9 j _ (by simp [scells, hl])
  have HG := Lib.hid (zero_any s.data.toList)
  go_enter Tryz.func65, Tryz.ntmps65
  go_wp2
  generalize hW : w.alloc (.cells #[.string ⟨#[113, 61, 48]⟩, .string ⟨#[113, 61, 48, 46]⟩, .string ⟨#[113, 61, 48, 46, 48]⟩, .string ⟨#[113, 61, 48, 46, 48, 48]⟩, .string ⟨#[113, 61, 48, 46, 48, 48, 48]⟩] 9) = W
  have hbW : Below w.heap.size w W := by rw [← hW]; exact (Below.refl _ _).alloc (Nat.le_refl _) _
  have HC : SCells W w.heap.size 0 zeros := by rw [← hW]; exact HC0
  have hlt : w.heap.size < W.heap.size := by rw [← hW]; simp
  clear hW HC0
  go_loopw [4] (fun i wr => ∃ k : Nat, k ≤ 5 ∧ i = .int .i64 k ∧ Hid ((zeros.take k).any (same (trim s.data.toList)) = false) ∧ Below W.heap.size W wr) (fun i _ => 5 - (intOf i).toNat)
  case atStart => exact ⟨0, Nat.zero_le _, rfl, Lib.hid rfl, Below.refl _ _⟩
  case round =>
    obtain ⟨k, hk, rfl, hno, hbr⟩ := hrel
    by_cases hkl : k < 5
    · obtain ⟨l, hl⟩ : ∃ l, zeros[k]? = some l := ⟨zeros[k]'(by show k < 5; exact hkl), List.getElem?_eq_getElem _⟩
      have hcell0 := (HC.below hbr hlt) k l hl
      rw [Nat.zero_add] at hcell0
      have hll : l.length ≤ 7 := by
        have : ∀ z ∈ zeros, z.length ≤ 7 := by decide
        exact this l (List.mem_of_getElem? hl)
      have Hl := Lib.hid hl
      clear hl
      have htl := trim_len s.data.toList
      rw [bs_size] at htl
      have hts : (⟨(trim s.data.toList).toArray⟩ : ByteArray).size ≤ 140737488351232 := by show (trim s.data.toList).toArray.size ≤ _; simp; omega
      have hls : (⟨l.toArray⟩ : ByteArray).size ≤ 140737488351232 := by show l.toArray.size ≤ _; simp; omega
      have hs2 : s.size ≤ 9223372036854775807 := by omega
      go_wp2_with fail
      go_region_with (first | (go_at_call 63; refine (ref01_Trim s _ hs2).mono ?_; rintro e w3 ⟨rfl, rfl⟩) | (go_at_call 64; refine (ref01_Same _ _ _ hts hls).mono ?_; rintro e w4 ⟨rfl, hb4⟩))
      all_goals
        have hb5 : Below wr.heap.size wr w4 := below_ofdrew hb4
        clear hb4
        have hsz := hbr.size
        rcases hsm : same (trim s.data.toList) l with _ | _
        · have Hs := Lib.hid hsm
          go_wp2
          go_roundw
          case rel => exact ⟨k + 1, by omega, by go_num, Lib.hid (any_step hno.out Hl.out Hs.out), hbr.trans (hb5.mono hsz)⟩
          case measure => (simp [intOf] <;> omega)
        · have Hs := Lib.hid hsm
          go_wp2
          go_ret
          exact ⟨ret_bool (by rw [HG.out]; exact (any_hit Hl.out Hs.out).symm), (hbW.trans ((hbr.trans (hb5.mono hsz)).mono hbW.size))⟩
    · go_wp2
      go_ret
      exact ⟨ret_bool (by rw [HG.out]; exact (any_end hno.out (by show 5 ≤ k; omega)).symm), hbW.trans (hbr.mono hbW.size)⟩
end Go.Proofs.YtoipnaoijccokaaGreatDoor

/- Walks of the reference's variables: is a language accepted? -/
namespace Go.Proofs.YtoipnaoijccokaaGreatDoor
open Go.RowKit
set_option linter.unusedVariables false



set_option maxRecDepth 100000 in
set_option maxHeartbeats 800000 in
theorem ref25_language (m t bd h key : ByteArray) (mn : Int) (a : Option Addr) (n c : Nat) (fs : List Fld) (w : World) (hF : FieldsAt w (.slice a n c) fs) (hlim : Lim fs) (hkey : key.size ≤ 140737488351232) :
    Calls Tryz.prog 42 #[.agg #[.string m, .string t, .int .i64 mn, .slice a n c, .string bd, .string h], .string key] w
      (Ret w (.tuple #[.string ⟨(langV (vlang fs key.data.toList)).toArray⟩, .bool (vlang fs key.data.toList)])) := by
  have hcl := fget_len hlim langName
  have HG := Lib.hid (show vlang fs key.data.toList = (pieces 44 (fget fs langName).1).any (lgOf key.data.toList) from rfl)
  go_enter Tryz.func42, Tryz.ntmps42
  go_wp2_with fail
  refine (ref04_Get fs _ ⟨#[97, 99, 99, 101, 112, 116, 45, 108, 97, 110, 103, 117, 97, 103, 101]⟩ _ (hF.below ((Below.refl _ _).alloc (Nat.le_refl _) _)) hlim (by decide)).mono ?_
  rintro e w1 ⟨rfl, hb0⟩
  have hb1 := below_alloc hb0
  clear hb0
  have hnm : (⟨#[97, 99, 99, 101, 112, 116, 45, 108, 97, 110, 103, 117, 97, 103, 101]⟩ : ByteArray).data.toList = langName := rfl
  rw [hnm]
  clear hnm
  generalize (fget fs langName).1 = all at *
  go_wp2_with fail
  refine (ref25_Pieces ⟨all.toArray⟩ 44 _ _ rfl (bsz_lt _ _ (by omega))).mono ?_
  rintro e w2 ⟨u, rfl, hown, hb2⟩
  have hb12 := hb1.trans (hb2.mono hb1.size)
  have Hpe := Lib.hid (pieces_each 44 all.length all (Nat.le_refl _))
  have hpm := pieces_many 44 all
  have hS := StrsAt.of_own hown
  clear hown hb1 hb2
  have hat : (⟨all.toArray⟩ : ByteArray).data.toList = all := rfl
  rw [hat] at hS
  clear hat
  generalize pieces 44 all = ls at *
  rcases hS with ⟨a, c, rfl, rfl⟩ | ⟨b, o, c, rfl, hc, hlt, hcell⟩
  · go_wp2
    refine wp_loop_rounds 1 ?_
    rw [rounds_succ]
    go_wp2
    go_ret2
    exact ⟨by rw [show vlang fs key.data.toList = false from HG.out]; rfl, hb12⟩
  · have HC : SCells w2 b o ls := hcell
    clear hcell
    go_wp2
    go_loopw [9] (fun i wr => ∃ k : Nat, k ≤ ls.length ∧ i = .int .i64 k ∧ Hid ((ls.take k).any (lgOf key.data.toList) = false) ∧ Below w2.heap.size w2 wr) (fun i _ => ls.length - (intOf i).toNat)
    case atStart => exact ⟨0, Nat.zero_le _, rfl, Lib.hid rfl, Below.refl _ _⟩
    case round =>
      obtain ⟨k, hk, rfl, hno, hbr⟩ := hrel
      by_cases hkl : k < ls.length
      · obtain ⟨l, hl⟩ : ∃ l, ls[k]? = some l := ⟨ls[k], List.getElem?_eq_getElem hkl⟩
        have hcell := (HC.below hbr hlt) k l hl
        have hll := Hpe.out l (List.mem_of_getElem? hl)
        have hul := upto_len 59 l
        have htl := trim_len (upto 59 l)
        have Hl := Lib.hid hl
        clear hl
        go_wp2_with fail
        refine (ref25_Pieces ⟨l.toArray⟩ 59 _ _ rfl (bsz_lt _ _ (by omega))).mono ?_
        rintro e w3 ⟨u3, rfl, hown3, hb3⟩
        have hat : (⟨l.toArray⟩ : ByteArray).data.toList = l := rfl
        rw [hat] at hown3
        clear hat
        have hS3 := StrsAt.of_own hown3
        have Hpe3 := Lib.hid (pieces_each 59 l.length l (Nat.le_refl _))
        have hpm3 := pieces_many 59 l
        have hne3 := pieces_ne 59 l
        have hbr3 : Below w2.heap.size w2 w3 := hbr.trans (hb3.mono hbr.size)
        have hhd := pieces_head 59 l
        clear hown3 hb3 hcell
        rcases hS3 with ⟨a3, c3, rfl, h03⟩ | ⟨b3, o3, c3, rfl, hc3, hlt3, hcell3⟩
        · exact absurd h03 hne3
        · have HC3 : SCells w3 b3 o3 (pieces 59 l) := hcell3
          have hc0 : w3.cell? ⟨b3, o3, none⟩ = some (.string ⟨(upto 59 l).toArray⟩) := by
            have := HC3 0 (upto 59 l) (by rw [← hhd, List.head?_eq_getElem?])
            simpa using this
          have hp3 : 0 < (pieces 59 l).length := List.length_pos_iff.2 hne3
          clear hcell3 hhd hne3
          go_wp2_with fail
          refine (ref01_Trim ⟨(upto 59 l).toArray⟩ _ (bsz _ _ (by omega))).mono ?_
          rintro e w4 ⟨rfl, rfl⟩
          go_wp2_with fail
          refine (ref01_Same ⟨(trim (upto 59 l)).toArray⟩ key _ (bsz _ _ (by omega)) hkey).mono ?_
          rintro e w5 ⟨rfl, hb5⟩
          have hat : (⟨(trim (upto 59 l)).toArray⟩ : ByteArray).data.toList = trim (upto 59 l) := rfl
          rw [hat, ← lgAt_one]
          clear hat
          have hbr5 : Below w2.heap.size w2 w5 := hbr3.trans (hb5.mono hbr3.size)
          have HC5 : SCells w5 b3 o3 (pieces 59 l) := HC3.below hb5 hlt3
          have hlt5 : b3 < w5.heap.size := Nat.lt_of_lt_of_le hlt3 hb5.size
          clear hb5 hc0
          go_wp2
          go_loopw [11, 12] (fun g i wx => ∃ j : Nat, 1 ≤ j ∧ j ≤ (pieces 59 l).length ∧ i = .int .i64 j ∧ g = .bool (lgAt key.data.toList l j) ∧ Below w5.heap.size w5 wx) (fun _ i _ => (pieces 59 l).length - (intOf i).toNat)
          case atStart => exact ⟨1, Nat.le_refl _, by omega, rfl, rfl, Below.refl _ _⟩
          case round =>
            obtain ⟨j, hj1, hj, rfl, rfl, hbx⟩ := hrel
            by_cases hjl : j < (pieces 59 l).length
            · obtain ⟨q, hq⟩ : ∃ q, (pieces 59 l)[j]? = some q := ⟨(pieces 59 l)[j], List.getElem?_eq_getElem hjl⟩
              have hcq := (HC5.below hbx hlt5) j q hq
              have hql := Hpe3.out q (List.mem_of_getElem? hq)
              have HA := Lib.hid (lgAt_step key.data.toList l j q hj1 hq)
              clear hq
              rcases hg : lgAt key.data.toList l j with _ | _
              · have Hg := Lib.hid hg
                go_wp2
                go_roundw
                case rel => exact ⟨j + 1, by omega, by omega, by go_num, by rw [HA.out, Hg.out]; rfl, hbx⟩
                case measure => (simp [intOf] <;> omega)
              · have Hg := Lib.hid hg
                go_wp2_with fail
                refine (ref25_nought ⟨q.toArray⟩ _ (bsz _ _ (by omega))).mono ?_
                rintro e w6 ⟨rfl, hb6⟩
                have hat : (⟨q.toArray⟩ : ByteArray).data.toList = q := rfl
                rw [hat]
                clear hat
                go_wp2
                go_roundw
                case rel => exact ⟨j + 1, by omega, by omega, by go_num, by rw [HA.out, Hg.out]; simp, hbx.trans (hb6.mono hbx.size)⟩
                case measure => (simp [intOf] <;> omega)
            · have HE := Lib.hid (lgAt_end key.data.toList l j (by omega))
              rcases hg : lgAt key.data.toList l j with _ | _
              · have Hg := Lib.hid hg
                go_wp2
                go_roundw
                case rel => exact ⟨k + 1, by omega, by go_num, Lib.hid (any_step hno.out Hl.out (by rw [← HE.out]; exact Hg.out)), hbr5.trans (hbx.mono hbr5.size)⟩
                case measure => (simp [intOf] <;> omega)
              · have Hg := Lib.hid hg
                go_wp2
                go_ret2
                rw [HG.out, any_hit Hl.out (by rw [← HE.out]; exact Hg.out)]
                exact ⟨rfl, hb12.trans ((hbr5.trans (hbx.mono hbr5.size)).mono hb12.size)⟩
      · go_wp2
        go_ret2
        rw [HG.out, any_end hno.out (by omega)]
        exact ⟨rfl, hb12.trans (hbr.mono hb12.size)⟩
end Go.Proofs.YtoipnaoijccokaaGreatDoor

namespace Go.Proofs.YtoipnaoijccokaaGreatDoor
open Go.RowKit
set_option linter.unusedVariables false

theorem find_in (s t : ByteArray) (w : World) (hs : s.size ≤ 140737488351232) (ht : t.size ≤ 140737488351232) (h1 : 1 ≤ t.size) (h : Lib.contains s.data.toList t.data.toList = true) :
    Calls Tryz.prog 61 #[.string s, .string t] w fun e w' => e = .returned (.int .i64 ((Lib.index s.data.toList t.data.toList).toNat : Nat)) ∧ w = w' := by
  refine (ref25_Find s t w hs ht h1).mono ?_
  rintro e w' ⟨rfl, rfl⟩
  exact ⟨ret_int (index_has _ _ h), rfl⟩
theorem find_out (s t : ByteArray) (w : World) (hs : s.size ≤ 140737488351232) (ht : t.size ≤ 140737488351232) (h1 : 1 ≤ t.size) (h : Lib.contains s.data.toList t.data.toList = false) :
    Calls Tryz.prog 61 #[.string s, .string t] w fun e w' => e = .returned (.int .i64 (-1)) ∧ w = w' := by
  refine (ref25_Find s t w hs ht h1).mono ?_
  rintro e w' ⟨rfl, rfl⟩
  exact ⟨ret_int (index_hasnt _ _ h), rfl⟩

set_option maxRecDepth 100000 in
set_option maxHeartbeats 800000 in
theorem ref25_agent (m t bd h key : ByteArray) (mn : Int) (a : Option Addr) (n c : Nat) (fs : List Fld) (w : World) (hF : FieldsAt w (.slice a n c) fs) (hlim : Lim fs) (hkey : key.size ≤ 140737488351232) :
    Calls Tryz.prog 38 #[.agg #[.string m, .string t, .int .i64 mn, .slice a n c, .string bd, .string h], .string key] w
      (Ret w (.tuple #[.string ⟨(vua fs key.data.toList).1.toArray⟩, .bool (vua fs key.data.toList).2])) := by
  have hcl := fget_len hlim agentName
  have HG := Lib.hid (show vua fs key.data.toList = bif (fget fs agentName).2 then vagent (fget fs agentName).1 key.data.toList else ([], false) from rfl)
  go_enter Tryz.func38, Tryz.ntmps38
  go_wp2_with fail
  refine (ref04_Get fs _ ⟨#[117, 115, 101, 114, 45, 97, 103, 101, 110, 116]⟩ _ (hF.below ((Below.refl _ _).alloc (Nat.le_refl _) _)) hlim (by decide)).mono ?_
  rintro e w1 ⟨rfl, hb0⟩
  have hb1 := below_alloc hb0
  clear hb0
  have hnm : (⟨#[117, 115, 101, 114, 45, 97, 103, 101, 110, 116]⟩ : ByteArray).data.toList = agentName := rfl
  rw [hnm]
  clear hnm
  generalize (fget fs agentName).1 = s at *
  generalize (fget fs agentName).2 = is at *
  have hsz := bsz s 140737488351232 (by omega)
  rcases is with _ | _
  · go_wp2
    go_ret2
    rw [HG.out]
    exact ⟨rfl, hb1⟩
  · have HG2 := Lib.hid (show vua fs key.data.toList = vagent s key.data.toList from HG.out)
    clear HG
    rcases k1 : (key.toList == [98, 114, 111, 119, 115, 101, 114]) with _ | _
    · rcases k2 : (key.toList == [118, 101, 114, 115, 105, 111, 110]) with _ | _
      · rcases k3 : (key.toList == [111, 115]) with _ | _
        · have HR := Lib.hid (HG2.out.trans (vagent_other s key.data.toList (by rw [← Lib.toList_data]; exact k1) (by rw [← Lib.toList_data]; exact k2) (by rw [← Lib.toList_data]; exact k3)))
          go_wp2_with fail
          refine (ref25_Find ⟨s.toArray⟩ ⟨#[77, 83, 73, 69, 32]⟩ _ hsz (by decide) (by decide)).mono ?_
          rintro e w2 ⟨rfl, rfl⟩
          go_wp2
          go_ret2
          rw [HR.out]
          exact ⟨rfl, hb1⟩
        · have HR := Lib.hid (HG2.out.trans (vagent_os s key.data.toList (by rw [← Lib.toList_data]; exact k1) (by rw [← Lib.toList_data]; exact k2) (by rw [← Lib.toList_data]; exact k3)))
          go_wp2_with fail
          refine (ref25_Find ⟨s.toArray⟩ ⟨#[77, 83, 73, 69, 32]⟩ _ hsz (by decide) (by decide)).mono ?_
          rintro e w2 ⟨rfl, rfl⟩
          rcases c1 : Lib.contains s tWindows with _ | _
          · have C1 := Lib.hid c1
            go_wp2_with fail
            refine (find_out ⟨s.toArray⟩ ⟨#[87, 105, 110, 100, 111, 119, 115]⟩ _ hsz (by decide) (by decide) c1).mono ?_
            rintro e w2 ⟨rfl, rfl⟩
            clear c1
            rcases c1 : Lib.contains s tMac with _ | _
            · have C2 := Lib.hid c1
              go_wp2_with fail
              refine (find_out ⟨s.toArray⟩ ⟨#[77, 97, 99]⟩ _ hsz (by decide) (by decide) c1).mono ?_
              rintro e w2 ⟨rfl, rfl⟩
              clear c1
              rcases c1 : Lib.contains s tX11 with _ | _
              · have C3 := Lib.hid c1
                go_wp2_with fail
                refine (find_out ⟨s.toArray⟩ ⟨#[88, 49, 49]⟩ _ hsz (by decide) (by decide) c1).mono ?_
                rintro e w2 ⟨rfl, rfl⟩
                clear c1
                rcases c1 : Lib.contains s tLinux with _ | _
                · have C4 := Lib.hid c1
                  go_wp2_with fail
                  refine (find_out ⟨s.toArray⟩ ⟨#[76, 105, 110, 117, 120]⟩ _ hsz (by decide) (by decide) c1).mono ?_
                  rintro e w2 ⟨rfl, rfl⟩
                  clear c1
                  go_wp2
                  go_ret2
                  rw [HR.out]
                  exact ⟨by simp [vos, C1.out, C2.out, C3.out, C4.out], hb1⟩
                · have C4 := Lib.hid c1
                  go_wp2_with fail
                  refine (find_in ⟨s.toArray⟩ ⟨#[76, 105, 110, 117, 120]⟩ _ hsz (by decide) (by decide) c1).mono ?_
                  rintro e w2 ⟨rfl, rfl⟩
                  clear c1
                  go_wp2
                  go_ret2
                  rw [HR.out]
                  exact ⟨by simp [vos, C1.out, C2.out, C3.out, C4.out], hb1⟩
              · have C3 := Lib.hid c1
                go_wp2_with fail
                refine (find_in ⟨s.toArray⟩ ⟨#[88, 49, 49]⟩ _ hsz (by decide) (by decide) c1).mono ?_
                rintro e w2 ⟨rfl, rfl⟩
                clear c1
                go_wp2
                go_ret2
                rw [HR.out]
                exact ⟨by simp [vos, C1.out, C2.out, C3.out], hb1⟩
            · have C2 := Lib.hid c1
              go_wp2_with fail
              refine (find_in ⟨s.toArray⟩ ⟨#[77, 97, 99]⟩ _ hsz (by decide) (by decide) c1).mono ?_
              rintro e w2 ⟨rfl, rfl⟩
              clear c1
              go_wp2
              go_ret2
              rw [HR.out]
              exact ⟨by simp [vos, C1.out, C2.out], hb1⟩
          · have C1 := Lib.hid c1
            go_wp2_with fail
            refine (find_in ⟨s.toArray⟩ ⟨#[87, 105, 110, 100, 111, 119, 115]⟩ _ hsz (by decide) (by decide) c1).mono ?_
            rintro e w2 ⟨rfl, rfl⟩
            clear c1
            go_wp2
            go_ret2
            rw [HR.out]
            exact ⟨by simp [vos, C1.out], hb1⟩
      · have HR := Lib.hid (HG2.out.trans (vagent_version s key.data.toList (by rw [← Lib.toList_data]; exact k1) (by rw [← Lib.toList_data]; exact k2)))
        clear HG2
        rcases c1 : Lib.contains s tMsie with _ | _
        · rcases c2 : s.contains 47 with _ | _
          · have HN := Lib.hid (vver_none s c1 c2)
            go_wp2_with fail
            refine (find_out ⟨s.toArray⟩ ⟨#[77, 83, 73, 69, 32]⟩ _ hsz (by decide) (by decide) c1).mono ?_
            rintro e w2 ⟨rfl, rfl⟩
            clear c1
            go_wp2_with fail
            refine (find_no ⟨s.toArray⟩ 47 _ hsz c2).mono ?_
            rintro e w2 ⟨rfl, rfl⟩
            clear c2
            go_wp2
            go_ret2
            rw [HR.out, HN.out]
            exact ⟨rfl, hb1⟩
          · have hle := lead_lt 47 s c2
            have HD := Lib.hid (show verAt s = lead (· != 47) s + 1 by unfold verAt; rw [c1]; rfl)
            go_wp2_with fail
            refine (find_out ⟨s.toArray⟩ ⟨#[77, 83, 73, 69, 32]⟩ _ hsz (by decide) (by decide) c1).mono ?_
            rintro e w2 ⟨rfl, rfl⟩
            clear c1
            go_wp2_with fail
            refine (find_yes ⟨s.toArray⟩ 47 _ hsz c2).mono ?_
            rintro e w2 ⟨rfl, rfl⟩
            clear c2
            have hat : (⟨s.toArray⟩ : ByteArray).data.toList = s := rfl
            rw [hat]
            clear hat
            generalize lead (· != 47) s = p at *
            have hp1 : ((p : Int) + 1 == 0) = false := by rw [beq_eq_false_iff_ne]; omega
            go_wp2
            go_loop [10] (fun f => ∃ k : Nat, p + 1 ≤ k ∧ k ≤ s.length ∧ k - (p + 1) ≤ lead vd (s.drop (p + 1)) ∧ f = .int .i64 k) (fun f => s.length - (intOf f).toNat)
            case atStart => exact ⟨p + 1, by omega, by omega, by omega, by go_num⟩
            case round =>
              obtain ⟨k, hk1, hk2, hk3, rfl⟩ := hrel
              by_cases hkl : k < s.length
              · have hgk := drop_get s (p + 1) k hk1
                have hkk : k < (⟨s.toArray⟩ : ByteArray).size := by show k < s.toArray.size; simpa using hkl
                have hbg : s[k]? = some ((⟨s.toArray⟩ : ByteArray)[k]'hkk) := bs_get ⟨s.toArray⟩ k hkk
                have Hst := Lib.hid (fun (hv : vd ((⟨s.toArray⟩ : ByteArray)[k]'hkk) = true) => lead_step vd (s.drop (p + 1)) (k - (p + 1)) _ hk3 (hgk.trans hbg) hv)
                have Hsp := Lib.hid (fun (hv : vd ((⟨s.toArray⟩ : ByteArray)[k]'hkk) = false) => lead_stop vd (s.drop (p + 1)) (k - (p + 1)) hk3 (fun c hc => by rw [hgk, hbg] at hc; cases hc; exact hv))
                clear hgk hbg
                generalize hx : (⟨s.toArray⟩ : ByteArray)[k]'hkk = x at *
                have hq : vd x = true ↔ (((48 : Int) ≤ ↑x.toNat ∧ (↑x.toNat : Int) ≤ 57) ∨ (↑x.toNat : Int) = 46) := by
                  unfold vd; rw [decide_eq_true_eq]; omega
                have hqf : vd x = false ↔ ¬ (((48 : Int) ≤ ↑x.toNat ∧ (↑x.toNat : Int) ≤ 57) ∨ (↑x.toNat : Int) = 46) := by
                  rw [← hq]; simp
                have Hq := Lib.hid hq
                have Hqf := Lib.hid hqf
                clear hq hqf
                by_cases hdg : (48 : Int) ≤ ↑x.toNat ∧ (↑x.toNat : Int) ≤ 57
                · obtain ⟨hd1, hd2⟩ := hdg
                  have hs1 := Hst.out (Hq.out.2 (.inl ⟨hd1, hd2⟩))
                  go_wp2
                  go_round
                  case rel => exact ⟨k + 1, by omega, by omega, by omega, by go_num⟩
                  case measure => (simp [intOf] <;> omega)
                · by_cases hpt : (↑x.toNat : Int) = 46
                  · have hs1 := Hst.out (Hq.out.2 (.inr hpt))
                    have hlo : (↑x.toNat : Int) < 48 := by omega
                    have hpb : ((↑x.toNat : Int) == 46) = true := by rw [beq_iff_eq]; exact hpt
                    clear hpt hdg
                    go_wp2
                    go_round
                    case rel => exact ⟨k + 1, by omega, by omega, by omega, by go_num⟩
                    case measure => (simp [intOf] <;> omega)
                  · have hs1 := Hsp.out (Hqf.out.2 (by omega))
                    have hpb : ((↑x.toNat : Int) == 46) = false := by rw [beq_eq_false_iff_ne]; exact hpt
                    have hs2 : lead vd (List.drop (p + 1) s) ≤ k - (p + 1) := by omega
                    obtain ⟨hv1, hv2⟩ := vver_of s (p + 1) k s.length HD.out rfl hk1 hk3 hs2
                    have HV1 := Lib.hid hv1
                    have HV2 := Lib.hid hv2
                    clear hs1 hpt hv1 hv2
                    by_cases hlo : (↑x.toNat : Int) < 48
                    · go_wp2
                      go_ret2
                      rw [HR.out]
                      exact ⟨ret_sb HV1.out (by rw [← HV2.out]; rw [Bool.eq_iff_iff]; simp), hb1⟩
                    · have hhi : (57 : Int) < ↑x.toNat := by omega
                      clear hlo
                      go_wp2
                      go_ret2
                      rw [HR.out]
                      exact ⟨ret_sb HV1.out (by rw [← HV2.out]; rw [Bool.eq_iff_iff]; simp), hb1⟩
              · have hll := lead_le vd (List.drop (p + 1) s)
                rw [List.length_drop] at hll
                obtain ⟨hv1, hv2⟩ := vver_of s (p + 1) k s.length HD.out rfl hk1 hk3 (by omega)
                have HV1 := Lib.hid hv1
                have HV2 := Lib.hid hv2
                clear hv1 hv2
                go_wp2
                go_ret2
                rw [HR.out]
                exact ⟨ret_sb HV1.out (by rw [← HV2.out]; rw [Bool.eq_iff_iff]; simp), hb1⟩
        · have hrm := index_room' s tMsie c1
          have HD := Lib.hid (show verAt s = (Lib.index s tMsie).toNat + 5 by unfold verAt; rw [c1]; rfl)
          have h5 : tMsie.length = 5 := rfl
          rw [h5] at hrm
          go_wp2_with fail
          refine (find_in ⟨s.toArray⟩ ⟨#[77, 83, 73, 69, 32]⟩ _ hsz (by decide) (by decide) c1).mono ?_
          rintro e w2 ⟨rfl, rfl⟩
          clear c1 h5
          have hat : Lib.index (⟨s.toArray⟩ : ByteArray).data.toList (⟨#[77, 83, 73, 69, 32]⟩ : ByteArray).data.toList = Lib.index s tMsie := rfl
          rw [hat]
          clear hat
          generalize (Lib.index s tMsie).toNat = p at *
          have z1 := Lib.index_ge s [47]
          have z2 := Lib.index_le s [47]
          go_wp2_with fail
          refine (ref25_Find ⟨s.toArray⟩ ⟨#[47]⟩ _ hsz (by decide) (by decide)).mono ?_
          rintro e w2 ⟨rfl, rfl⟩
          have hat : Lib.index (⟨s.toArray⟩ : ByteArray).data.toList (⟨#[47]⟩ : ByteArray).data.toList = Lib.index s [47] := rfl
          rw [hat]
          clear hat
          generalize Lib.index s [47] = z at *
          have hp1 : ((p : Int) + 5 == 0) = false := by rw [beq_eq_false_iff_ne]; omega
          go_wp2
          go_loop [10] (fun f => ∃ k : Nat, p + 5 ≤ k ∧ k ≤ s.length ∧ k - (p + 5) ≤ lead vd (s.drop (p + 5)) ∧ f = .int .i64 k) (fun f => s.length - (intOf f).toNat)
          case atStart => exact ⟨p + 5, by omega, by omega, by omega, by go_num⟩
          case round =>
            obtain ⟨k, hk1, hk2, hk3, rfl⟩ := hrel
            by_cases hkl : k < s.length
            · have hgk := drop_get s (p + 5) k hk1
              have hkk : k < (⟨s.toArray⟩ : ByteArray).size := by show k < s.toArray.size; simpa using hkl
              have hbg : s[k]? = some ((⟨s.toArray⟩ : ByteArray)[k]'hkk) := bs_get ⟨s.toArray⟩ k hkk
              have Hst := Lib.hid (fun (hv : vd ((⟨s.toArray⟩ : ByteArray)[k]'hkk) = true) => lead_step vd (s.drop (p + 5)) (k - (p + 5)) _ hk3 (hgk.trans hbg) hv)
              have Hsp := Lib.hid (fun (hv : vd ((⟨s.toArray⟩ : ByteArray)[k]'hkk) = false) => lead_stop vd (s.drop (p + 5)) (k - (p + 5)) hk3 (fun c hc => by rw [hgk, hbg] at hc; cases hc; exact hv))
              clear hgk hbg
              generalize hx : (⟨s.toArray⟩ : ByteArray)[k]'hkk = x at *
              have hq : vd x = true ↔ (((48 : Int) ≤ ↑x.toNat ∧ (↑x.toNat : Int) ≤ 57) ∨ (↑x.toNat : Int) = 46) := by
                unfold vd; rw [decide_eq_true_eq]; omega
              have hqf : vd x = false ↔ ¬ (((48 : Int) ≤ ↑x.toNat ∧ (↑x.toNat : Int) ≤ 57) ∨ (↑x.toNat : Int) = 46) := by
                rw [← hq]; simp
              have Hq := Lib.hid hq
              have Hqf := Lib.hid hqf
              clear hq hqf
              by_cases hdg : (48 : Int) ≤ ↑x.toNat ∧ (↑x.toNat : Int) ≤ 57
              · obtain ⟨hd1, hd2⟩ := hdg
                have hs1 := Hst.out (Hq.out.2 (.inl ⟨hd1, hd2⟩))
                go_wp2
                go_round
                case rel => exact ⟨k + 1, by omega, by omega, by omega, by go_num⟩
                case measure => (simp [intOf] <;> omega)
              · by_cases hpt : (↑x.toNat : Int) = 46
                · have hs1 := Hst.out (Hq.out.2 (.inr hpt))
                  have hlo : (↑x.toNat : Int) < 48 := by omega
                  have hpb : ((↑x.toNat : Int) == 46) = true := by rw [beq_iff_eq]; exact hpt
                  clear hpt hdg
                  go_wp2
                  go_round
                  case rel => exact ⟨k + 1, by omega, by omega, by omega, by go_num⟩
                  case measure => (simp [intOf] <;> omega)
                · have hs1 := Hsp.out (Hqf.out.2 (by omega))
                  have hpb : ((↑x.toNat : Int) == 46) = false := by rw [beq_eq_false_iff_ne]; exact hpt
                  have hs2 : lead vd (List.drop (p + 5) s) ≤ k - (p + 5) := by omega
                  obtain ⟨hv1, hv2⟩ := vver_of s (p + 5) k s.length HD.out rfl hk1 hk3 hs2
                  have HV1 := Lib.hid hv1
                  have HV2 := Lib.hid hv2
                  clear hs1 hpt hv1 hv2
                  by_cases hlo : (↑x.toNat : Int) < 48
                  · go_wp2
                    go_ret2
                    rw [HR.out]
                    exact ⟨ret_sb HV1.out (by rw [← HV2.out]; rw [Bool.eq_iff_iff]; simp), hb1⟩
                  · have hhi : (57 : Int) < ↑x.toNat := by omega
                    clear hlo
                    go_wp2
                    go_ret2
                    rw [HR.out]
                    exact ⟨ret_sb HV1.out (by rw [← HV2.out]; rw [Bool.eq_iff_iff]; simp), hb1⟩
            · have hll := lead_le vd (List.drop (p + 5) s)
              rw [List.length_drop] at hll
              obtain ⟨hv1, hv2⟩ := vver_of s (p + 5) k s.length HD.out rfl hk1 hk3 (by omega)
              have HV1 := Lib.hid hv1
              have HV2 := Lib.hid hv2
              clear hv1 hv2
              go_wp2
              go_ret2
              rw [HR.out]
              exact ⟨ret_sb HV1.out (by rw [← HV2.out]; rw [Bool.eq_iff_iff]; simp), hb1⟩
    · have HR := Lib.hid (HG2.out.trans (vagent_browser s key.data.toList (by rw [← Lib.toList_data]; exact k1)))
      clear HG2
      rcases c1 : Lib.contains s tMsie with _ | _
      · have C1 := Lib.hid c1
        go_wp2_with fail
        refine (find_out ⟨s.toArray⟩ ⟨#[77, 83, 73, 69, 32]⟩ _ hsz (by decide) (by decide) c1).mono ?_
        rintro e w2 ⟨rfl, rfl⟩
        clear c1
        go_wp2_with fail
        refine (ref25_Find ⟨s.toArray⟩ ⟨#[77, 111, 122, 105, 108, 108, 97, 47]⟩ _ hsz (by decide) (by decide)).mono ?_
        rintro e w2 ⟨rfl, rfl⟩
        have hz := index_zero s tMozilla (by decide)
        have hat : Lib.index (⟨s.toArray⟩ : ByteArray).data.toList (⟨#[77, 111, 122, 105, 108, 108, 97, 47]⟩ : ByteArray).data.toList = Lib.index s tMozilla := rfl
        rw [hat]
        clear hat
        rcases c2 : Lib.hasPrefix s tMozilla with _ | _
        · have C2 := Lib.hid c2
          rw [c2] at hz
          clear c2
          go_wp2
          go_ret2
          rw [HR.out]
          exact ⟨by simp [vbrowser, C1.out, C2.out], hb1⟩
        · have C2 := Lib.hid c2
          rw [c2] at hz
          clear c2
          go_wp2
          go_ret2
          rw [HR.out]
          exact ⟨by simp [vbrowser, C1.out, C2.out], hb1⟩
      · have C1 := Lib.hid c1
        go_wp2_with fail
        refine (find_in ⟨s.toArray⟩ ⟨#[77, 83, 73, 69, 32]⟩ _ hsz (by decide) (by decide) c1).mono ?_
        rintro e w2 ⟨rfl, rfl⟩
        clear c1
        go_wp2
        go_ret2
        rw [HR.out]
        exact ⟨by simp [vbrowser, C1.out], hb1⟩
end Go.Proofs.YtoipnaoijccokaaGreatDoor
