/- Walks of the program's variables: what needs no loop over pieces. Walks of the program's variables: choose, agent, nought. The walk of the program's nought. -/
import Derived.Test.YtehdeclpighdeaaGreatDoorKText
namespace Go.Proofs.YtehdeclpighdeaaGreatDoor
open Go.RowKit
set_option linter.unusedVariables false
theorem vars_never (h t key : ByteArray) (a : Option Addr) (n c : Nat) (w : World) :
    Calls Tryz.prog 137 #[.agg #[.string h, .string t, .slice a n c], .string key] w (Ret w (.tuple #[.string ⟨#[]⟩, .bool false])) := by
  go_enter Tryz.func137, Tryz.ntmps137
  go_wp2
  go_ret2
  exact ⟨rfl, (Below.refl _ _).alloc (Nat.le_refl _) _⟩
theorem vars_field1 (h t name : ByteArray) (a : Option Addr) (n c b : Nat) (fs : List Fld) (w : World) (hF : FieldsAt w (.slice a n c) fs) (hlim : Lim fs) (hn : name.size ≤ 140737488351232)
    (hb : w.cell? ⟨b, 0, none⟩ = some (.string name)) :
    Calls Tryz.prog 158 #[.agg #[.string h, .string t, .slice a n c], .pointer (some ⟨b, 0, none⟩)] w (Ret w (.tuple #[.string ⟨(fget fs name.data.toList).1.toArray⟩, .bool (fget fs name.data.toList).2])) := by
  have hlt := cell_lt hb
  have hb2 : (w.alloc (.cells #[.string h, .string t, .slice a n c] 59)).cell? ⟨b, 0, none⟩ = some (.string name) :=
    (((Below.refl w.heap.size w).alloc (Nat.le_refl _) _).cell (p := ⟨b, 0, none⟩) hlt).trans hb
  go_enter Tryz.func158, Tryz.ntmps158
  go_wp2_with fail
  refine (fields_Get fs _ name _ (hF.below ((Below.refl _ _).alloc (Nat.le_refl _) _)) hlim hn).mono ?_
  rintro e w1 ⟨rfl, hb0⟩
  have hb1 := below_alloc hb0
  clear hb0
  go_wp2
  go_ret2
  exact ⟨rfl, hb1⟩
theorem vars_cookies (h t : ByteArray) (a : Option Addr) (n c : Nat) (fs : List Fld) (w : World) (hF : FieldsAt w (.slice a n c) fs) (hlim : Lim fs) :
    Calls Tryz.prog 140 #[.agg #[.string h, .string t, .slice a n c]] w (Ret w (.tuple #[.string ⟨(vcookies fs).1.toArray⟩, .bool (vcookies fs).2])) := by
  have hL := hlim.values cookieName
  have HG := Lib.hid (show vcookies fs = (Lib.join (values fs cookieName) [59, 32], decide (0 < (values fs cookieName).length)) from rfl)
  go_enter Tryz.func140, Tryz.ntmps140
  go_wp2_with fail
  refine (fields_Values fs _ ⟨#[99, 111, 111, 107, 105, 101]⟩ _ (hF.below ((Below.refl _ _).alloc (Nat.le_refl _) _)) hlim (by decide)).mono ?_
  rintro e w1 ⟨u, rfl, hown, hb0⟩
  have hb1 := below_alloc hb0
  clear hb0
  have hnm : (⟨#[99, 111, 111, 107, 105, 101]⟩ : ByteArray).data.toList = cookieName := rfl
  rw [hnm] at hown
  clear hnm
  have hS := StrsAt.of_own hown
  obtain ⟨a, c, rfl⟩ := own_shape hown
  go_wp2_with fail
  refine (lib_Join _ _ ⟨#[59, 32]⟩ _ hS hL (by decide)).mono ?_
  rintro e w2 ⟨rfl, hb2⟩
  go_wp2_with fail
  go_ret2
  rw [HG.out]
  exact ⟨by simp, hb1.trans (hb2.mono hb1.size)⟩
theorem vars_query (h t : ByteArray) (a : Option Addr) (n c : Nat) (w : World) (hg : Good w) (ht : t.size ≤ 100000) :
    Calls Tryz.prog 142 #[.agg #[.string h, .string t, .slice a n c]] w (Ret w (.tuple #[.string ⟨(past 63 t.data.toList).toArray⟩, .bool (hasB 63 t.data.toList)])) := by
  have hg2 := hg.next ((Below.refl w.heap.size w).alloc (Nat.le_refl _) (.cells #[.string h, .string t, .slice a n c] 59))
  go_enter Tryz.func142, Tryz.ntmps142
  go_wp2_with fail
  refine (lib_Cut1 t 63 _ hg2 (by omega)).mono ?_
  rintro e w1 ⟨rfl, hb0⟩
  have hb1 := below_alloc hb0
  clear hb0
  go_wp2
  go_ret2
  exact ⟨rfl, hb1⟩
set_option maxRecDepth 100000 in
theorem vars_Key (s : ByteArray) (w : World) (hs : s.size ≤ 140737488351232) :
    Calls Tryz.prog 119 #[.string s] w (Ret w (.bool (vkey s.data.toList))) := by
  have HK := Lib.hid (vkey_eq s.data.toList)
  rcases he : s.toList.isEmpty with _ | _
  · have hne : (!s.toList.isEmpty) = true := by rw [he]; rfl
    have He := Lib.hid (show (s.data.toList != []) = true by rw [Lib.toList_data] at he; simpa using he)
    by_cases hl : (s.size : Int) ≤ 64
    · have hl2 : decide ((s.size : Int) ≤ 64) = true := by simpa using hl
      have Hl := Lib.hid (show decide (s.data.toList.length ≤ 64) = true by rw [bs_size, decide_eq_true_eq]; omega)
      go_enter Tryz.func119, Tryz.ntmps119
      go_wp2_with fail
      refine (lib_TrimLeft s ⟨keySet.toArray⟩ _ (by decide) (ascii_of_all (by decide))).mono ?_
      rintro e w1 ⟨rfl, hb1⟩
      have hat : (⟨keySet.toArray⟩ : ByteArray).data.toList = keySet := rfl
      rw [hat]
      clear hat
      go_wp2
      go_ret
      exact ⟨ret_bool (by rw [HK.out, He.out, Hl.out, Bool.eq_iff_iff]; simp), hb1⟩
    · have hl2 : decide ((s.size : Int) ≤ 64) = false := by simpa using hl
      have Hl := Lib.hid (show decide (s.data.toList.length ≤ 64) = false by rw [bs_size, decide_eq_false_iff_not]; omega)
      go_enter Tryz.func119, Tryz.ntmps119
      go_wp2
      go_ret
      exact ⟨ret_bool (by rw [HK.out, He.out, Hl.out]; rfl), Below.refl _ _⟩
  · have hne : (!s.toList.isEmpty) = false := by rw [he]; rfl
    have He := Lib.hid (show (s.data.toList != []) = false by rw [Lib.toList_data] at he; simpa using he)
    go_enter Tryz.func119, Tryz.ntmps119
    go_wp2
    go_ret
    exact ⟨ret_bool (by rw [HK.out, He.out]; rfl), Below.refl _ _⟩
theorem ver_ret1 (r q : Bs) (h : r.length - q.length = lead vd r) : ((⟨r.toArray⟩ : ByteArray).extract 0 (r.length - q.length)).data.toList = r.takeWhile vd := by
  rw [Lib.extract_data, h, ← take_lead]; simp
theorem ver_ret2 (r q : Bs) (h : r.length - q.length = lead vd r) (hle : q.length ≤ r.length) : decide ((0 : Int) < (r.length : Int) - (q.length : Int)) = decide (0 < lead vd r) := by
  rw [Bool.eq_iff_iff]; simp only [decide_eq_true_eq]; omega
set_option maxRecDepth 100000 in
set_option maxHeartbeats 400000 in
theorem vars_version (s : ByteArray) (w : World) (hg : Good w) (hs : s.size ≤ 100002000) :
    Calls Tryz.prog 161 #[.string s] w (Ret w (.tuple #[.string ⟨(vver s.data.toList).1.toArray⟩, .bool (vver s.data.toList).2])) := by
  have HG := Lib.hid (show vver s.data.toList = ((s.data.toList.drop (verAt s.data.toList)).takeWhile vd, decide (0 < lead vd (s.data.toList.drop (verAt s.data.toList)))) from rfl)
  go_enter Tryz.func161, Tryz.ntmps161
  go_wp2_with fail
  refine (lib_Cut s ⟨#[77, 83, 73, 69, 32]⟩ _ hg (by omega)).mono ?_
  rintro e w1 ⟨rfl, hb1⟩
  have hat : (⟨#[77, 83, 73, 69, 32]⟩ : ByteArray).data.toList = tMsie := rfl
  rw [hat]
  clear hat
  rcases hc : Lib.contains s.data.toList tMsie with _ | _
  · have hr := ver_slash s.data.toList hc
    rw [hr] at HG
    rw [cut_hasnt _ _ hc]
    have hpl := past_len 47 s.data.toList
    rw [bs_size] at hpl
    clear hc hr
    go_wp2_with fail
    refine (lib_Cut1 s 47 _ (hg.next hb1) (by omega)).mono ?_
    rintro e w2 ⟨rfl, hb2⟩
    have hb12 := hb1.trans (hb2.mono hb1.size)
    clear hb1 hb2
    generalize past 47 s.data.toList = r at *
    have hle := ver_le r
    have HT := Lib.hid (ver_take r)
    go_wp2_with fail
    refine (lib_TrimLeft ⟨r.toArray⟩ ⟨verSet.toArray⟩ _ (by decide) (ascii_of_all (by decide))).mono ?_
    rintro e w3 ⟨rfl, hb3⟩
    have hat : (⟨r.toArray⟩ : ByteArray).data.toList = r := rfl
    have hat2 : (⟨verSet.toArray⟩ : ByteArray).data.toList = verSet := rfl
    rw [hat, hat2]
    clear hat hat2
    generalize Lib.trimLeftS r verSet = q at *
    go_wp2
    go_ret2
    rw [HG.out]
    exact ⟨by
      have := ret_sb (ver_ret1 r q HT.out) (ver_ret2 r q HT.out hle)
      rw [← this]; simp, hb12.trans (hb3.mono hb12.size)⟩
  · have hr := ver_msie s.data.toList hc
    have hrm := index_room' s.data.toList tMsie hc
    rw [hr] at HG
    have hcut := cut_has _ _ hc
    have hrl : (Lib.cut s.data.toList tMsie).2.1.length ≤ s.size := by rw [hcut]; simp only [List.length_drop]; rw [bs_size]; omega
    have h2 : (Lib.cut s.data.toList tMsie).2.2 = true := by rw [hcut]
    rw [h2]
    generalize (Lib.cut s.data.toList tMsie).1 = q0 at *
    generalize (Lib.cut s.data.toList tMsie).2.1 = r at *
    have hb12 := hb1
    clear hc hr hcut h2 hb1
    have hle := ver_le r
    have HT := Lib.hid (ver_take r)
    go_wp2_with fail
    refine (lib_TrimLeft ⟨r.toArray⟩ ⟨verSet.toArray⟩ _ (by decide) (ascii_of_all (by decide))).mono ?_
    rintro e w3 ⟨rfl, hb3⟩
    have hat : (⟨r.toArray⟩ : ByteArray).data.toList = r := rfl
    have hat2 : (⟨verSet.toArray⟩ : ByteArray).data.toList = verSet := rfl
    rw [hat, hat2]
    clear hat hat2
    generalize Lib.trimLeftS r verSet = q at *
    go_wp2
    go_ret2
    rw [HG.out]
    exact ⟨by
      have := ret_sb (ver_ret1 r q HT.out) (ver_ret2 r q HT.out hle)
      rw [← this]; simp, hb12.trans (hb3.mono hb12.size)⟩
end Go.Proofs.YtehdeclpighdeaaGreatDoor
namespace Go.Proofs.YtehdeclpighdeaaGreatDoor
open Go.RowKit
set_option linter.unusedVariables false
def chooseL (s other : Bs) : List Bs → Bs
  | a :: b :: r => bif Lib.contains s b then a else chooseL s other r
  | _ => other
theorem choose_more (s other : Bs) (ls : List Bs) (k : Nat) (a b : Bs) (ha : ls[2 * k]? = some a) (hb : ls[2 * k + 1]? = some b) :
    chooseL s other (ls.drop (2 * k)) = bif Lib.contains s b then a else chooseL s other (ls.drop (2 * (k + 1))) := by
  have h1 : ls.drop (2 * k) = a :: b :: ls.drop (2 * (k + 1)) := by
    obtain ⟨ha1, ha2⟩ := List.getElem?_eq_some_iff.1 ha
    obtain ⟨hb1, hb2⟩ := List.getElem?_eq_some_iff.1 hb
    rw [List.drop_eq_getElem_cons ha1, List.drop_eq_getElem_cons hb1, ha2, hb2]
    rfl
  rw [h1]; rfl
theorem choose_end (s other : Bs) (ls : List Bs) (k : Nat) (h : ls.length ≤ 2 * k) : chooseL s other (ls.drop (2 * k)) = other := by
  rw [List.drop_eq_nil_of_le h]; rfl
set_option maxRecDepth 100000 in
set_option maxHeartbeats 400000 in
theorem vars_choose (s other : ByteArray) (b o c m : Nat) (ls : List Bs) (w : World) (hg : Good w) (hs : s.size ≤ 100002000) (hm : ls.length = 2 * m) (hm2 : m ≤ 100) (hc : ls.length ≤ c) (hlt : b < w.heap.size) (HC : SCells w b o ls) :
    Calls Tryz.prog 160 #[.string s, .string other, .slice (some ⟨b, o, none⟩) ls.length c] w fun e w' => e = .returned (.string ⟨(chooseL s.data.toList other.data.toList ls).toArray⟩) ∧ w = w' := by
  have hm1 : 2 * m ≤ ls.length := by omega
  have hm3 : ls.length ≤ 2 * m := by omega
  clear hm
  go_enter Tryz.func160, Tryz.ntmps160
  go_wp2
  go_loop [7] (fun i => ∃ k : Nat, k ≤ m ∧ i = .int .i64 (2 * k : Nat) ∧ Hid (chooseL s.data.toList other.data.toList (ls.drop (2 * k)) = chooseL s.data.toList other.data.toList ls)) (fun i => 2 * m - (intOf i).toNat)
  case atStart => exact ⟨0, Nat.zero_le _, rfl, Lib.hid rfl⟩
  case round =>
    obtain ⟨k, hk, rfl, hH⟩ := hrel
    by_cases hkl : k < m
    · obtain ⟨l, hl⟩ : ∃ l, ls[2 * k]? = some l := ⟨ls[2 * k]'(by omega), List.getElem?_eq_getElem _⟩
      obtain ⟨t, ht⟩ : ∃ t, ls[2 * k + 1]? = some t := ⟨ls[2 * k + 1]'(by omega), List.getElem?_eq_getElem _⟩
      have hc1 := HC _ l hl
      have hc2 := HC _ t ht
      have Hm := Lib.hid (choose_more s.data.toList other.data.toList ls k l t hl ht)
      clear hl ht
      obtain ⟨j, hj⟩ : ∃ j, j = 2 * k := ⟨_, rfl⟩
      rw [← hj] at hc1 hc2
      have HJ := Lib.hid hj
      rw [← hj]
      have hj1 : j + 2 ≤ ls.length := by omega
      clear hj
      go_wp2_with fail
      refine (lib_Contains s ⟨t.toArray⟩ _ hg (by omega)).mono ?_
      rintro e w1 ⟨rfl, rfl⟩
      have hat : (⟨t.toArray⟩ : ByteArray).data.toList = t := rfl
      rw [hat]
      clear hat
      rcases hq : Lib.contains s.data.toList t with _ | _
      · have Hq := Lib.hid hq
        go_wp2
        go_round
        case rel =>
          refine ⟨k + 1, by omega, by rw [HJ.out]; go_num, Lib.hid ?_⟩
          have := Hm.out
          rw [Hq.out, hH.out] at this
          exact this.symm
        case measure => (simp [intOf] <;> omega)
      · have Hq := Lib.hid hq
        go_wp2
        go_ret
        have := Hm.out
        rw [Hq.out, hH.out] at this
        rw [this]
        exact ⟨rfl, rfl⟩
    · have He := Lib.hid (choose_end s.data.toList other.data.toList ls k (by omega))
      have hk2 : ls.length ≤ 2 * k := by omega
      go_wp2
      go_ret
      rw [← hH.out, He.out]
      exact ⟨rfl, rfl⟩
theorem scells_lit (w : World) (us : Array Value) (ls : List Bs) (h : us = (scells ls).toArray) : SCells (w.alloc (.cells us 9)) w.heap.size 0 ls := fun j l hl => by
  subst h
  rw [Nat.zero_add]; exact cell_new w _ _ j _ (by simp [scells, hl])
theorem choose_browser (s o : Bs) : chooseL s o [[77, 83, 73, 69], tMsie] = bif Lib.contains s tMsie then [77, 83, 73, 69] else o := rfl
theorem choose_os (s : Bs) : chooseL s [79, 84, 72, 69, 82] [[87, 73, 78], tWindows, [77, 65, 67], tMac, [85, 78, 73, 88], tX11, [85, 78, 73, 88], tLinux] = vos s := by
  unfold vos chooseL chooseL chooseL chooseL chooseL
  cases Lib.contains s tWindows <;> cases Lib.contains s tMac <;> cases Lib.contains s tX11 <;> cases Lib.contains s tLinux <;> rfl
set_option maxRecDepth 100000 in
set_option maxHeartbeats 800000 in
theorem vars_agent (h t key : ByteArray) (a : Option Addr) (n c : Nat) (fs : List Fld) (w : World) (hg : Good w) (hF : FieldsAt w (.slice a n c) fs) (hlim : Lim fs) :
    Calls Tryz.prog 139 #[.agg #[.string h, .string t, .slice a n c], .string key] w (Ret w (.tuple #[.string ⟨(vua fs key.data.toList).1.toArray⟩, .bool (vua fs key.data.toList).2])) := by
  have hcl := fget_len hlim agentName
  have HG := Lib.hid (show vua fs key.data.toList = bif (fget fs agentName).2 then vagent (fget fs agentName).1 key.data.toList else ([], false) from rfl)
  go_enter Tryz.func139, Tryz.ntmps139
  go_wp2_with fail
  refine (fields_Get fs _ ⟨#[117, 115, 101, 114, 45, 97, 103, 101, 110, 116]⟩ _ (hF.below ((Below.refl _ _).alloc (Nat.le_refl _) _)) hlim (by decide)).mono ?_
  rintro e w1 ⟨rfl, hb0⟩
  have hb1 := below_alloc hb0
  have hg1 := hg.next hb1
  clear hb0
  have hnm : (⟨#[117, 115, 101, 114, 45, 97, 103, 101, 110, 116]⟩ : ByteArray).data.toList = agentName := rfl
  rw [hnm]
  clear hnm
  generalize (fget fs agentName).1 = s at *
  generalize (fget fs agentName).2 = is at *
  have hsz := bsz s 100002000 hcl
  rcases is with _ | _
  · go_wp2
    go_ret2
    rw [HG.out]
    exact ⟨rfl, hb1⟩
  · have HG2 := Lib.hid (show vua fs key.data.toList = vagent s key.data.toList from HG.out)
    clear HG
    rcases k1 : (key.toList == [98, 114, 111, 119, 115, 101, 114]) with _ | _
    · rcases k2 : (key.toList == [118, 101, 114, 115, 105, 111, 110]) with _ | _
      · rcases k3 : (key.toList == [111, 115]) with _ | _
        · have HR := Lib.hid (HG2.out.trans (vagent_other s key.data.toList (by rw [← Lib.toList_data]; exact k1) (by rw [← Lib.toList_data]; exact k2) (by rw [← Lib.toList_data]; exact k3)))
          go_wp2
          go_ret2
          rw [HR.out]
          exact ⟨rfl, hb1⟩
        · have HR := Lib.hid (HG2.out.trans (vagent_os s key.data.toList (by rw [← Lib.toList_data]; exact k1) (by rw [← Lib.toList_data]; exact k2) (by rw [← Lib.toList_data]; exact k3)))
          clear HG2
          have hbA := (Below.refl w1.heap.size w1).alloc (Nat.le_refl _) (.cells #[.string ⟨#[87, 73, 78]⟩, .string ⟨#[87, 105, 110, 100, 111, 119, 115]⟩, .string ⟨#[77, 65, 67]⟩, .string ⟨#[77, 97, 99]⟩, .string ⟨#[85, 78, 73, 88]⟩, .string ⟨#[88, 49, 49]⟩, .string ⟨#[85, 78, 73, 88]⟩, .string ⟨#[76, 105, 110, 117, 120]⟩] 9)
          have hgA := hg1.next hbA
          go_wp2_with fail
          refine (vars_choose ⟨s.toArray⟩ ⟨#[79, 84, 72, 69, 82]⟩ w1.heap.size 0 8 4 [[87, 73, 78], tWindows, [77, 65, 67], tMac, [85, 78, 73, 88], tX11, [85, 78, 73, 88], tLinux] _ hgA hsz rfl (by decide) (by decide) (by simp) (scells_lit w1 _ _ rfl)).mono ?_
          rintro e w2 ⟨rfl, rfl⟩
          have hat : chooseL (⟨s.toArray⟩ : ByteArray).data.toList (⟨#[79, 84, 72, 69, 82]⟩ : ByteArray).data.toList [[87, 73, 78], tWindows, [77, 65, 67], tMac, [85, 78, 73, 88], tX11, [85, 78, 73, 88], tLinux] = vos s := choose_os s
          rw [hat]
          clear hat
          go_wp2
          go_ret2
          rw [HR.out]
          exact ⟨rfl, hb1.trans (hbA.mono hb1.size)⟩
      · have HR := Lib.hid (HG2.out.trans (vagent_version s key.data.toList (by rw [← Lib.toList_data]; exact k1) (by rw [← Lib.toList_data]; exact k2)))
        clear HG2
        go_wp2_with fail
        refine (vars_version ⟨s.toArray⟩ _ hg1 hsz).mono ?_
        rintro e w2 ⟨rfl, hb2⟩
        go_wp2
        go_ret2
        rw [HR.out]
        exact ⟨rfl, hb1.trans (hb2.mono hb1.size)⟩
    · have HR := Lib.hid (HG2.out.trans (vagent_browser s key.data.toList (by rw [← Lib.toList_data]; exact k1)))
      clear HG2
      have hbA := (Below.refl w1.heap.size w1).alloc (Nat.le_refl _) (.cells #[.string ⟨#[77, 83, 73, 69]⟩, .string ⟨#[77, 83, 73, 69, 32]⟩] 9)
      have hgA := hg1.next hbA
      go_wp2_with fail
      refine (lib_HasPrefix ⟨s.toArray⟩ ⟨#[77, 111, 122, 105, 108, 108, 97, 47]⟩ _).mono ?_
      rintro e w2 ⟨rfl, rfl⟩
      have hat : Lib.hasPrefix (⟨s.toArray⟩ : ByteArray).data.toList (⟨#[77, 111, 122, 105, 108, 108, 97, 47]⟩ : ByteArray).data.toList = Lib.hasPrefix s tMozilla := rfl
      rw [hat]
      clear hat
      rcases hp : Lib.hasPrefix s tMozilla with _ | _
      · have Hp := Lib.hid hp
        go_wp2_with fail
        refine (vars_choose ⟨s.toArray⟩ ⟨#[79, 84, 72, 69, 82]⟩ w1.heap.size 0 2 1 [[77, 83, 73, 69], tMsie] _ hgA hsz rfl (by decide) (by decide) (by simp) (scells_lit w1 _ _ rfl)).mono ?_
        rintro e w2 ⟨rfl, rfl⟩
        have hat : chooseL (⟨s.toArray⟩ : ByteArray).data.toList (⟨#[79, 84, 72, 69, 82]⟩ : ByteArray).data.toList [[77, 83, 73, 69], tMsie] = vbrowser s := by
          rw [choose_browser]; unfold vbrowser; rw [Hp.out]; rfl
        rw [hat]
        clear hat
        go_wp2
        go_ret2
        rw [HR.out]
        exact ⟨rfl, hb1.trans (hbA.mono hb1.size)⟩
      · have Hp := Lib.hid hp
        go_wp2_with fail
        refine (vars_choose ⟨s.toArray⟩ ⟨#[77, 79, 90, 73, 76, 76, 65]⟩ w1.heap.size 0 2 1 [[77, 83, 73, 69], tMsie] _ hgA hsz rfl (by decide) (by decide) (by simp) (scells_lit w1 _ _ rfl)).mono ?_
        rintro e w2 ⟨rfl, rfl⟩
        have hat : chooseL (⟨s.toArray⟩ : ByteArray).data.toList (⟨#[77, 79, 90, 73, 76, 76, 65]⟩ : ByteArray).data.toList [[77, 83, 73, 69], tMsie] = vbrowser s := by
          rw [choose_browser]; unfold vbrowser; rw [Hp.out]; rfl
        rw [hat]
        clear hat
        go_wp2
        go_ret2
        rw [HR.out]
        exact ⟨rfl, hb1.trans (hbA.mono hb1.size)⟩
end Go.Proofs.YtehdeclpighdeaaGreatDoor
namespace Go.Proofs.YtehdeclpighdeaaGreatDoor
open Go.RowKit
set_option linter.unusedVariables false
theorem tl_one (ls : List Bs) (p : Bs → Bool) : (ls.take 1).tail.any p = false := by cases ls <;> rfl
theorem tl_step (ls : List Bs) (p : Bs → Bool) (k : Nat) (l : Bs) (hk : 1 ≤ k) (hl : ls[k]? = some l) : (ls.take (k + 1)).tail.any p = ((ls.take k).tail.any p || p l) := by
  rw [take_snoc ls k l hl]
  have hne : ls.take k ≠ [] := by
    intro h
    have := congrArg List.length h
    rw [List.length_take, List.length_nil] at this
    have h2 := (List.getElem?_eq_some_iff.1 hl).1
    omega
  rw [List.tail_append_of_ne_nil hne, List.any_append]; simp
theorem tail_no (ls : List Bs) (p : Bs → Bool) (k : Nat) (l : Bs) (hl : ls[k]? = some l) (h : (ls.take k).tail.any p = false) (hp : 0 < k → p l = false) : (ls.take (k + 1)).tail.any p = false := by
  by_cases h0 : 0 < k
  · rw [tl_step ls p k l h0 hl, h, hp h0]; rfl
  · obtain rfl : k = 0 := by omega
    exact tl_one ls p
theorem tail_yes (ls : List Bs) (p : Bs → Bool) (k : Nat) (l : Bs) (hk : 0 < k) (hl : ls[k]? = some l) (hp : p l = true) : ls.tail.any p = true := by
  cases ls with
  | nil => simp at hl
  | cons x r =>
    cases k with
    | zero => omega
    | succ k => exact any_hit (ls := r) (k := k) (by simpa using hl) hp
theorem tl_end (ls : List Bs) (p : Bs → Bool) (k : Nat) (h : (ls.take k).tail.any p = false) (hk : ls.length ≤ k) : ls.tail.any p = false := by
  rw [List.take_of_length_le hk] at h; exact h
theorem zero_isz (l : Bs) : zero l = isz (lower (trim l)) := (isz_eq _).symm
theorem isz_not (t : Bs) (h : Lib.hasPrefix t [113, 61, 48] = false) : isz t = false := by unfold isz; rw [h]; rfl
theorem isz_nil (t : Bs) (h : Lib.hasPrefix t [113, 61, 48] = true) (h2 : Lib.trimPrefix t [113, 61, 48] = []) : isz t = true := by unfold isz; rw [h, h2]; rfl
theorem isz_cons (t : Bs) (x : UInt8) (r : Bs) (h : Lib.hasPrefix t [113, 61, 48] = true) (h2 : Lib.trimPrefix t [113, 61, 48] = x :: r) :
    isz t = ((((x.toNat : Int) == 46) && decide ((r.length : Int) + 1 ≤ 4)) && (Lib.trimS r [48] == [])) := by
  unfold isz; rw [h, h2]
  simp only [Bool.true_and, List.head?_cons, List.tail_cons]
  have e1 : ((x :: r : Bs) == []) = false := rfl
  have e2 : ((some x : Option UInt8) == some 46) = ((x.toNat : Int) == 46) := by
    rw [Bool.eq_iff_iff]; simp only [beq_iff_eq, Option.some.injEq, u8eq]
    have : (46 : UInt8).toNat = 46 := rfl
    rw [this]; omega
  have e3 : decide ((x :: r).length ≤ 4) = decide ((r.length : Int) + 1 ≤ 4) := by
    rw [Bool.eq_iff_iff]; simp only [decide_eq_true_eq, List.length_cons]; omega
  rw [e1, e2, e3, Bool.false_or]
theorem trimPrefix_len (t p : Bs) : (Lib.trimPrefix t p).length ≤ t.length := by
  unfold Lib.trimPrefix; split
  · rw [List.length_drop]; omega
  · exact Nat.le_refl _
theorem ext_tail (x : UInt8) (r : Bs) (n : Nat) (hn : n = r.length + 1) : (⟨(x :: r).toArray⟩ : ByteArray).extract 1 n = ⟨r.toArray⟩ := by
  refine bs_ext ?_
  rw [Lib.extract_data]
  subst hn; simp
set_option maxRecDepth 100000 in
set_option maxHeartbeats 800000 in
theorem vars_nought (s : ByteArray) (w : World) (hg : Good w) (hs : s.size ≤ 100002000) :
    Calls Tryz.prog 167 #[.string s] w (Ret w (.bool ((pieces 59 s.data.toList).tail.any zero))) := by
  go_enter Tryz.func167, Tryz.ntmps167
  go_wp2_with fail
  refine (lib_Split1 s 59 _ hg (by omega)).mono ?_
  rintro e w1 ⟨u, rfl, hown, hb1⟩
  have hg1 := hg.next hb1
  have Hpe := Lib.hid (pieces_each 59 s.size s.data.toList (by rw [bs_size]; exact Nat.le_refl _))
  have hpm := pieces_many 59 s.data.toList
  rw [bs_size] at hpm
  have hS := StrsAt.of_own hown
  have hne := pieces_ne 59 s.data.toList
  clear hown
  generalize pieces 59 s.data.toList = ls at *
  rcases hS with ⟨a, c, rfl, h0⟩ | ⟨b, o, c, rfl, hc, hlt, hcell⟩
  · exact absurd h0 hne
  · have HC : SCells w1 b o ls := hcell
    clear hcell hne
    go_wp2
    go_loopw [10] (fun i wr => ∃ k : Nat, k ≤ ls.length ∧ i = .int .i64 k ∧ Hid ((ls.take k).tail.any zero = false) ∧ Below w1.heap.size w1 wr) (fun i _ => ls.length - (intOf i).toNat)
    case atStart => exact ⟨0, Nat.zero_le _, rfl, Lib.hid rfl, Below.refl _ _⟩
    case round =>
      obtain ⟨k, hk, rfl, hno, hbr⟩ := hrel
      have hgr := hg1.next hbr
      by_cases hkl : k < ls.length
      · obtain ⟨l, hl⟩ : ∃ l, ls[k]? = some l := ⟨ls[k], List.getElem?_eq_getElem hkl⟩
        have hcell := (HC.below hbr hlt) k l hl
        have hll := Hpe.out l (List.mem_of_getElem? hl)
        rw [bs_size] at hll
        have htl := trim_len l
        have hlo := lower_length (trim l)
        have Hlo := Lib.hid hlo
        have hlol : (lower (trim l)).length ≤ 100002000 := by omega
        have Hl := Lib.hid hl
        clear hl hlo
        go_wp2_with fail
        refine (text_Trim ⟨l.toArray⟩ _ (bsz _ _ (by omega))).mono ?_
        rintro e w2 ⟨rfl, hb2⟩
        go_wp2_with fail
        refine (text_Lower ⟨(trim l).toArray⟩ _ (bsz _ _ (by omega))).mono ?_
        rintro e w3 ⟨rfl, hb3⟩
        go_wp2_with fail
        refine (lib_CutPrefix ⟨(lower (trim l)).toArray⟩ ⟨#[113, 61, 48]⟩ _).mono ?_
        rintro e w4 ⟨rfl, rfl⟩
        have hat : (⟨(lower (trim l)).toArray⟩ : ByteArray).data.toList = lower (trim l) := rfl
        have hat2 : (⟨#[113, 61, 48]⟩ : ByteArray).data.toList = [113, 61, 48] := rfl
        rw [hat, hat2]
        clear hat hat2
        have hbr3 : Below w1.heap.size w1 w3 := hbr.trans ((hb2.trans (hb3.mono hb2.size)).mono hbr.size)
        have hpl := trimPrefix_len (lower (trim l)) [113, 61, 48]
        have Hz := Lib.hid (zero_isz l)
        clear hb2 hb3 hcell
        generalize lower (trim l) = t at *
        rcases hp : Lib.hasPrefix t [113, 61, 48] with _ | _
        · have Hp := Lib.hid (isz_not t hp)
          go_wp2
          all_goals
            go_roundw
            case rel => exact ⟨k + 1, by omega, by go_num, Lib.hid (tail_no _ _ k l Hl.out hno.out (fun _ => Hz.out.trans Hp.out)), hbr3⟩
            case measure => (simp [intOf] <;> omega)
        · have hN := isz_nil t hp
          have hCo := fun x r => isz_cons t x r hp
          generalize Lib.trimPrefix t [113, 61, 48] = q at *
          have HN := Lib.hid hN
          have HCo := Lib.hid hCo
          clear hN hCo hp
          by_cases h0 : 0 < k
          · cases q with
            | nil =>
              have HN2 := Lib.hid (HN.out rfl)
              clear HN HCo
              go_wp2
              go_ret
              exact ⟨ret_bool (tail_yes _ _ k l h0 Hl.out (Hz.out.trans HN2.out)).symm, hb1.trans (hbr3.mono hb1.size)⟩
            | cons x r =>
              have HX := Lib.hid (HCo.out x r rfl)
              clear HN HCo
              have hrl : r.length + 1 ≤ 100002000 := by simp only [List.length_cons] at hpl; omega
              have hx0 : ∀ h, (⟨(x :: r).toArray⟩ : ByteArray)[0]'h = x := fun _ => rfl
              have hxt := ext_tail x r (r.length + 1) rfl
              rcases hxe : ((x.toNat : Int) == 46) with _ | _
              · have Hxe := Lib.hid hxe
                go_wp2
                go_roundw
                case rel => exact ⟨k + 1, by omega, by go_num, Lib.hid (tail_no _ _ k l Hl.out hno.out (fun _ => by rw [Hz.out, HX.out, Hxe.out]; rfl)), hbr3⟩
                case measure => (simp [intOf] <;> omega)
              · have Hxe := Lib.hid hxe
                by_cases hr : (r.length : Int) + 1 ≤ 4
                · have Hr := Lib.hid (decide_eq_true hr)
                  go_wp2_with fail
                  refine (lib_Trim ⟨r.toArray⟩ ⟨#[48]⟩ _ (bsz _ _ (by omega)) (by decide) (ascii_of_all (by decide))).mono ?_
                  rintro e w5 ⟨rfl, hb5⟩
                  have hat : (⟨r.toArray⟩ : ByteArray).data.toList = r := rfl
                  have hat2 : (⟨#[48]⟩ : ByteArray).data.toList = [48] := rfl
                  rw [hat, hat2]
                  clear hat hat2
                  have hbr5 : Below w1.heap.size w1 w5 := hbr3.trans (hb5.mono hbr3.size)
                  rcases hq : (Lib.trimS r [48] == []) with _ | _
                  · have Hq := Lib.hid hq
                    have hqe : (Lib.trimS r [48]).isEmpty = false := by simpa using hq
                    clear hq
                    go_wp2
                    go_roundw
                    case rel => exact ⟨k + 1, by omega, by go_num, Lib.hid (tail_no _ _ k l Hl.out hno.out (fun _ => by rw [Hz.out, HX.out, Hxe.out, Hr.out, Hq.out]; rfl)), hbr5⟩
                    case measure => (simp [intOf] <;> omega)
                  · have Hq := Lib.hid hq
                    have hqe : (Lib.trimS r [48]).isEmpty = true := by simpa using hq
                    clear hq
                    go_wp2
                    go_ret
                    exact ⟨ret_bool (tail_yes _ _ k l h0 Hl.out (by rw [Hz.out, HX.out, Hxe.out, Hr.out, Hq.out]; rfl)).symm, hb1.trans (hbr5.mono hb1.size)⟩
                · have Hr := Lib.hid (decide_eq_false hr)
                  go_wp2
                  go_roundw
                  case rel => exact ⟨k + 1, by omega, by go_num, Lib.hid (tail_no _ _ k l Hl.out hno.out (fun _ => by rw [Hz.out, HX.out, Hxe.out, Hr.out]; rfl)), hbr3⟩
                  case measure => (simp [intOf] <;> omega)
          · go_wp2
            all_goals
              go_roundw
              case rel => exact ⟨k + 1, by omega, by go_num, Lib.hid (tail_no _ _ k l Hl.out hno.out (fun h => absurd h h0)), hbr3⟩
              case measure => (simp [intOf] <;> omega)
      · go_wp2
        go_ret
        exact ⟨ret_bool (tl_end ls zero k hno.out (by omega)).symm, hb1.trans (hbr.mono hb1.size)⟩
end Go.Proofs.YtehdeclpighdeaaGreatDoor
