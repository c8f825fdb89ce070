/- Walks of the program's variables: what needs no loop over pieces. -/
import Derived.Test.YtoipnaoijccokaaDoorGet
import Derived.Test.YtoipnaoijccokaaDoorPlain
import Derived.Test.YtoipnaoijccokaaDoorLib
namespace Go.Proofs.YtoipnaoijccokaaDoor
open Go.RowKit
set_option linter.unusedVariables false

theorem vars_never (h t key : ByteArray) (a : Option Addr) (n c : Nat) (w : World) :
    Calls Tryd.prog 25 #[.agg #[.string h, .string t, .slice a n c], .string key] w (Ret w (.tuple #[.string ⟨#[]⟩, .bool false])) := by
  go_enter Tryd.func25, Tryd.ntmps25
  go_wp2
  go_ret2
  exact ⟨rfl, (Below.refl _ _).alloc (Nat.le_refl _) _⟩

/-- A field's value: its name lies in a box. -/
theorem vars_field1 (h t name : ByteArray) (a : Option Addr) (n c b : Nat) (fs : List Fld) (w : World) (hF : FieldsAt w (.slice a n c) fs) (hlim : Lim fs) (hn : name.size ≤ 140737488351232)
    (hb : w.cell? ⟨b, 0, none⟩ = some (.string name)) :
    Calls Tryd.prog 39 #[.agg #[.string h, .string t, .slice a n c], .pointer (some ⟨b, 0, none⟩)] w (Ret w (.tuple #[.string ⟨(fget fs name.data.toList).1.toArray⟩, .bool (fget fs name.data.toList).2])) := by
  have hlt := cell_lt hb
  have hb2 : (w.alloc (.cells #[.string h, .string t, .slice a n c] 30)).cell? ⟨b, 0, none⟩ = some (.string name) :=
    (((Below.refl w.heap.size w).alloc (Nat.le_refl _) _).cell (p := ⟨b, 0, none⟩) hlt).trans hb
  go_enter Tryd.func39, Tryd.ntmps39
  go_wp2_with fail
  refine (fields_Get fs _ name _ (hF.below ((Below.refl _ _).alloc (Nat.le_refl _) _)) hlim hn).mono ?_
  rintro e w1 ⟨rfl, hb0⟩
  have hb1 := below_alloc hb0
  clear hb0
  go_wp2
  go_ret2
  exact ⟨rfl, hb1⟩

theorem vars_cookies (h t : ByteArray) (a : Option Addr) (n c : Nat) (fs : List Fld) (w : World) (hF : FieldsAt w (.slice a n c) fs) (hlim : Lim fs) :
    Calls Tryd.prog 28 #[.agg #[.string h, .string t, .slice a n c]] w (Ret w (.tuple #[.string ⟨(vcookies fs).1.toArray⟩, .bool (vcookies fs).2])) := by
  have hL := hlim.values cookieName
  have HG := Lib.hid (show vcookies fs = (Lib.join (values fs cookieName) [59, 32], decide (0 < (values fs cookieName).length)) from rfl)
  go_enter Tryd.func28, Tryd.ntmps28
  go_wp2_with fail
  refine (fields_Values fs _ ⟨#[99, 111, 111, 107, 105, 101]⟩ _ (hF.below ((Below.refl _ _).alloc (Nat.le_refl _) _)) hlim (by decide)).mono ?_
  rintro e w1 ⟨u, rfl, hown, hb0⟩
  have hb1 := below_alloc hb0
  clear hb0
  have hnm : (⟨#[99, 111, 111, 107, 105, 101]⟩ : ByteArray).data.toList = cookieName := rfl
  rw [hnm] at hown
  clear hnm
  have hS := StrsAt.of_own hown
  obtain ⟨a, c, rfl⟩ := own_shape hown
  go_wp2_with fail
  refine (lib_Join _ _ ⟨#[59, 32]⟩ _ hS hL (by decide)).mono ?_
  rintro e w2 ⟨rfl, hb2⟩
  go_wp2_with fail
  go_ret2
  rw [HG.out]
  exact ⟨by simp, hb1.trans (hb2.mono hb1.size)⟩

theorem vars_query (h t : ByteArray) (a : Option Addr) (n c : Nat) (w : World) (hg : Good w) (ht : t.size ≤ 100000) :
    Calls Tryd.prog 30 #[.agg #[.string h, .string t, .slice a n c]] w (Ret w (.tuple #[.string ⟨(past 63 t.data.toList).toArray⟩, .bool (hasB 63 t.data.toList)])) := by
  have hg2 := hg.next ((Below.refl w.heap.size w).alloc (Nat.le_refl _) (.cells #[.string h, .string t, .slice a n c] 30))
  go_enter Tryd.func30, Tryd.ntmps30
  go_wp2_with fail
  refine (lib_Cut1 t 63 _ hg2 (by omega)).mono ?_
  rintro e w1 ⟨rfl, hb0⟩
  have hb1 := below_alloc hb0
  clear hb0
  go_wp2
  go_ret2
  exact ⟨rfl, hb1⟩

set_option maxRecDepth 100000 in
theorem vars_Key (s : ByteArray) (w : World) (hs : s.size ≤ 140737488351232) :
    Calls Tryd.prog 12 #[.string s] w (Ret w (.bool (vkey s.data.toList))) := by
  have HK := Lib.hid (vkey_eq s.data.toList)
  rcases he : s.toList.isEmpty with _ | _
  · have hne : (!s.toList.isEmpty) = true := by rw [he]; rfl
    have He := Lib.hid (show (s.data.toList != []) = true by rw [Lib.toList_data] at he; simpa using he)
    by_cases hl : (s.size : Int) ≤ 64
    · have hl2 : decide ((s.size : Int) ≤ 64) = true := by simpa using hl
      have Hl := Lib.hid (show decide (s.data.toList.length ≤ 64) = true by rw [bs_size, decide_eq_true_eq]; omega)
      go_enter Tryd.func12, Tryd.ntmps12
      go_wp2_with fail
      refine (lib_TrimLeft s ⟨keySet.toArray⟩ _ (by decide) (ascii_of_all (by decide))).mono ?_
      rintro e w1 ⟨rfl, hb1⟩
      have hat : (⟨keySet.toArray⟩ : ByteArray).data.toList = keySet := rfl
      rw [hat]
      clear hat
      go_wp2
      go_ret
      exact ⟨ret_bool (by rw [HK.out, He.out, Hl.out, Bool.eq_iff_iff]; simp), hb1⟩
    · have hl2 : decide ((s.size : Int) ≤ 64) = false := by simpa using hl
      have Hl := Lib.hid (show decide (s.data.toList.length ≤ 64) = false by rw [bs_size, decide_eq_false_iff_not]; omega)
      go_enter Tryd.func12, Tryd.ntmps12
      go_wp2
      go_ret
      exact ⟨ret_bool (by rw [HK.out, He.out, Hl.out]; rfl), Below.refl _ _⟩
  · have hne : (!s.toList.isEmpty) = false := by rw [he]; rfl
    have He := Lib.hid (show (s.data.toList != []) = false by rw [Lib.toList_data] at he; simpa using he)
    go_enter Tryd.func12, Tryd.ntmps12
    go_wp2
    go_ret
    exact ⟨ret_bool (by rw [HK.out, He.out]; rfl), Below.refl _ _⟩

theorem ver_ret1 (r q : Bs) (h : r.length - q.length = lead vd r) : ((⟨r.toArray⟩ : ByteArray).extract 0 (r.length - q.length)).data.toList = r.takeWhile vd := by
  rw [Lib.extract_data, h, ← take_lead]; simp
theorem ver_ret2 (r q : Bs) (h : r.length - q.length = lead vd r) (hle : q.length ≤ r.length) : decide ((0 : Int) < (r.length : Int) - (q.length : Int)) = decide (0 < lead vd r) := by
  rw [Bool.eq_iff_iff]; simp only [decide_eq_true_eq]; omega

set_option maxRecDepth 100000 in
set_option maxHeartbeats 400000 in
theorem vars_version (s : ByteArray) (w : World) (hg : Good w) (hs : s.size ≤ 100002000) :
    Calls Tryd.prog 42 #[.string s] w (Ret w (.tuple #[.string ⟨(vver s.data.toList).1.toArray⟩, .bool (vver s.data.toList).2])) := by
  have HG := Lib.hid (show vver s.data.toList = ((s.data.toList.drop (verAt s.data.toList)).takeWhile vd, decide (0 < lead vd (s.data.toList.drop (verAt s.data.toList)))) from rfl)
  go_enter Tryd.func42, Tryd.ntmps42
  go_wp2_with fail
  refine (lib_Cut s ⟨#[77, 83, 73, 69, 32]⟩ _ hg (by omega)).mono ?_
  rintro e w1 ⟨rfl, hb1⟩
  have hat : (⟨#[77, 83, 73, 69, 32]⟩ : ByteArray).data.toList = tMsie := rfl
  rw [hat]
  clear hat
  rcases hc : Lib.contains s.data.toList tMsie with _ | _
  · have hr := ver_slash s.data.toList hc
    rw [hr] at HG
    rw [cut_hasnt _ _ hc]
    have hpl := past_len 47 s.data.toList
    rw [bs_size] at hpl
    clear hc hr
    go_wp2_with fail
    refine (lib_Cut1 s 47 _ (hg.next hb1) (by omega)).mono ?_
    rintro e w2 ⟨rfl, hb2⟩
    have hb12 := hb1.trans (hb2.mono hb1.size)
    clear hb1 hb2
    generalize past 47 s.data.toList = r at *
    have hle := ver_le r
    have HT := Lib.hid (ver_take r)
    go_wp2_with fail
    refine (lib_TrimLeft ⟨r.toArray⟩ ⟨verSet.toArray⟩ _ (by decide) (ascii_of_all (by decide))).mono ?_
    rintro e w3 ⟨rfl, hb3⟩
    have hat : (⟨r.toArray⟩ : ByteArray).data.toList = r := rfl
    have hat2 : (⟨verSet.toArray⟩ : ByteArray).data.toList = verSet := rfl
    rw [hat, hat2]
    clear hat hat2
    generalize Lib.trimLeftS r verSet = q at *
    go_wp2
    go_ret2
    rw [HG.out]
    exact ⟨by
      have := ret_sb (ver_ret1 r q HT.out) (ver_ret2 r q HT.out hle)
      rw [← this]; simp, hb12.trans (hb3.mono hb12.size)⟩
  · have hr := ver_msie s.data.toList hc
    have hrm := index_room' s.data.toList tMsie hc
    rw [hr] at HG
    have hcut := cut_has _ _ hc
    have hrl : (Lib.cut s.data.toList tMsie).2.1.length ≤ s.size := by rw [hcut]; simp only [List.length_drop]; rw [bs_size]; omega
    have h2 : (Lib.cut s.data.toList tMsie).2.2 = true := by rw [hcut]
    rw [h2]
    generalize (Lib.cut s.data.toList tMsie).1 = q0 at *
    generalize (Lib.cut s.data.toList tMsie).2.1 = r at *
    have hb12 := hb1
    clear hc hr hcut h2 hb1
    have hle := ver_le r
    have HT := Lib.hid (ver_take r)
    go_wp2_with fail
    refine (lib_TrimLeft ⟨r.toArray⟩ ⟨verSet.toArray⟩ _ (by decide) (ascii_of_all (by decide))).mono ?_
    rintro e w3 ⟨rfl, hb3⟩
    have hat : (⟨r.toArray⟩ : ByteArray).data.toList = r := rfl
    have hat2 : (⟨verSet.toArray⟩ : ByteArray).data.toList = verSet := rfl
    rw [hat, hat2]
    clear hat hat2
    generalize Lib.trimLeftS r verSet = q at *
    go_wp2
    go_ret2
    rw [HG.out]
    exact ⟨by
      have := ret_sb (ver_ret1 r q HT.out) (ver_ret2 r q HT.out hle)
      rw [← this]; simp, hb12.trans (hb3.mono hb12.size)⟩

end Go.Proofs.YtoipnaoijccokaaDoor
