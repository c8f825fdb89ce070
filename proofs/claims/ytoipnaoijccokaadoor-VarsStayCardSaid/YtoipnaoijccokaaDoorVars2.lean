/- Walks of the program's variables: choose, agent, nought. -/
import Derived.Test.YtoipnaoijccokaaDoorVars1
import Derived.Test.YtoipnaoijccokaaDoorVars1
namespace Go.Proofs.YtoipnaoijccokaaDoor
open Go.RowKit
set_option linter.unusedVariables false

/-- The word of the first text that stands in s; words and texts stand by turns. -/
def chooseL (s other : Bs) : List Bs → Bs
  | a :: b :: r => bif Lib.contains s b then a else chooseL s other r
  | _ => other

theorem choose_more (s other : Bs) (ls : List Bs) (k : Nat) (a b : Bs) (ha : ls[2 * k]? = some a) (hb : ls[2 * k + 1]? = some b) :
    chooseL s other (ls.drop (2 * k)) = bif Lib.contains s b then a else chooseL s other (ls.drop (2 * (k + 1))) := by
  have h1 : ls.drop (2 * k) = a :: b :: ls.drop (2 * (k + 1)) := by
    obtain ⟨ha1, ha2⟩ := List.getElem?_eq_some_iff.1 ha
    obtain ⟨hb1, hb2⟩ := List.getElem?_eq_some_iff.1 hb
    rw [List.drop_eq_getElem_cons ha1, List.drop_eq_getElem_cons hb1, ha2, hb2]
    rfl
  rw [h1]; rfl
theorem choose_end (s other : Bs) (ls : List Bs) (k : Nat) (h : ls.length ≤ 2 * k) : chooseL s other (ls.drop (2 * k)) = other := by
  rw [List.drop_eq_nil_of_le h]; rfl

set_option maxRecDepth 100000 in
set_option maxHeartbeats 400000 in
theorem vars_choose (s other : ByteArray) (b o c m : Nat) (ls : List Bs) (w : World) (hg : Good w) (hs : s.size ≤ 100002000) (hm : ls.length = 2 * m) (hm2 : m ≤ 100) (hc : ls.length ≤ c) (hlt : b < w.heap.size) (HC : SCells w b o ls) :
    Calls Tryd.prog 41 #[.string s, .string other, .slice (some ⟨b, o, none⟩) ls.length c] w fun e w' => e = .returned (.string ⟨(chooseL s.data.toList other.data.toList ls).toArray⟩) ∧ w = w' := by
  have hm1 : 2 * m ≤ ls.length := by omega
  have hm3 : ls.length ≤ 2 * m := by omega
  clear hm
  go_enter Tryd.func41, Tryd.ntmps41
  go_wp2
  go_loop [7] (fun i => ∃ k : Nat, k ≤ m ∧ i = .int .i64 (2 * k : Nat) ∧ Hid (chooseL s.data.toList other.data.toList (ls.drop (2 * k)) = chooseL s.data.toList other.data.toList ls)) (fun i => 2 * m - (intOf i).toNat)
  case atStart => exact ⟨0, Nat.zero_le _, rfl, Lib.hid rfl⟩
  case round =>
    obtain ⟨k, hk, rfl, hH⟩ := hrel
    by_cases hkl : k < m
    · obtain ⟨l, hl⟩ : ∃ l, ls[2 * k]? = some l := ⟨ls[2 * k]'(by omega), List.getElem?_eq_getElem _⟩
      obtain ⟨t, ht⟩ : ∃ t, ls[2 * k + 1]? = some t := ⟨ls[2 * k + 1]'(by omega), List.getElem?_eq_getElem _⟩
      have hc1 := HC _ l hl
      have hc2 := HC _ t ht
      have Hm := Lib.hid (choose_more s.data.toList other.data.toList ls k l t hl ht)
      clear hl ht
      obtain ⟨j, hj⟩ : ∃ j, j = 2 * k := ⟨_, rfl⟩
      rw [← hj] at hc1 hc2
      have HJ := Lib.hid hj
      rw [← hj]
      have hj1 : j + 2 ≤ ls.length := by omega
      clear hj
      go_wp2_with fail
      refine (lib_Contains s ⟨t.toArray⟩ _ hg (by omega)).mono ?_
      rintro e w1 ⟨rfl, rfl⟩
      have hat : (⟨t.toArray⟩ : ByteArray).data.toList = t := rfl
      rw [hat]
      clear hat
      rcases hq : Lib.contains s.data.toList t with _ | _
      · have Hq := Lib.hid hq
        go_wp2
        go_round
        case rel =>
          refine ⟨k + 1, by omega, by rw [HJ.out]; go_num, Lib.hid ?_⟩
          have := Hm.out
          rw [Hq.out, hH.out] at this
          exact this.symm
        case measure => (simp [intOf] <;> omega)
      · have Hq := Lib.hid hq
        go_wp2
        go_ret
        have := Hm.out
        rw [Hq.out, hH.out] at this
        rw [this]
        exact ⟨rfl, rfl⟩
    · have He := Lib.hid (choose_end s.data.toList other.data.toList ls k (by omega))
      have hk2 : ls.length ≤ 2 * k := by omega
      go_wp2
      go_ret
      rw [← hH.out, He.out]
      exact ⟨rfl, rfl⟩

theorem scells_lit (w : World) (us : Array Value) (ls : List Bs) (h : us = (scells ls).toArray) : SCells (w.alloc (.cells us 9)) w.heap.size 0 ls := fun j l hl => by
  subst h
  rw [Nat.zero_add]; exact cell_new w _ _ j _ (by simp [scells, hl])

theorem choose_browser (s o : Bs) : chooseL s o [[77, 83, 73, 69], tMsie] = bif Lib.contains s tMsie then [77, 83, 73, 69] else o := rfl
theorem choose_os (s : Bs) : chooseL s [79, 84, 72, 69, 82] [[87, 73, 78], tWindows, [77, 65, 67], tMac, [85, 78, 73, 88], tX11, [85, 78, 73, 88], tLinux] = vos s := by
  unfold vos chooseL chooseL chooseL chooseL chooseL
  cases Lib.contains s tWindows <;> cases Lib.contains s tMac <;> cases Lib.contains s tX11 <;> cases Lib.contains s tLinux <;> rfl

set_option maxRecDepth 100000 in
set_option maxHeartbeats 800000 in
theorem vars_agent (h t key : ByteArray) (a : Option Addr) (n c : Nat) (fs : List Fld) (w : World) (hg : Good w) (hF : FieldsAt w (.slice a n c) fs) (hlim : Lim fs) :
    Calls Tryd.prog 27 #[.agg #[.string h, .string t, .slice a n c], .string key] w (Ret w (.tuple #[.string ⟨(vua fs key.data.toList).1.toArray⟩, .bool (vua fs key.data.toList).2])) := by
  have hcl := fget_len hlim agentName
  have HG := Lib.hid (show vua fs key.data.toList = bif (fget fs agentName).2 then vagent (fget fs agentName).1 key.data.toList else ([], false) from rfl)
  go_enter Tryd.func27, Tryd.ntmps27
  go_wp2_with fail
  refine (fields_Get fs _ ⟨#[117, 115, 101, 114, 45, 97, 103, 101, 110, 116]⟩ _ (hF.below ((Below.refl _ _).alloc (Nat.le_refl _) _)) hlim (by decide)).mono ?_
  rintro e w1 ⟨rfl, hb0⟩
  have hb1 := below_alloc hb0
  have hg1 := hg.next hb1
  clear hb0
  have hnm : (⟨#[117, 115, 101, 114, 45, 97, 103, 101, 110, 116]⟩ : ByteArray).data.toList = agentName := rfl
  rw [hnm]
  clear hnm
  generalize (fget fs agentName).1 = s at *
  generalize (fget fs agentName).2 = is at *
  have hsz := bsz s 100002000 hcl
  rcases is with _ | _
  · go_wp2
    go_ret2
    rw [HG.out]
    exact ⟨rfl, hb1⟩
  · have HG2 := Lib.hid (show vua fs key.data.toList = vagent s key.data.toList from HG.out)
    clear HG
    rcases k1 : (key.toList == [98, 114, 111, 119, 115, 101, 114]) with _ | _
    · rcases k2 : (key.toList == [118, 101, 114, 115, 105, 111, 110]) with _ | _
      · rcases k3 : (key.toList == [111, 115]) with _ | _
        · have HR := Lib.hid (HG2.out.trans (vagent_other s key.data.toList (by rw [← Lib.toList_data]; exact k1) (by rw [← Lib.toList_data]; exact k2) (by rw [← Lib.toList_data]; exact k3)))
          go_wp2
          go_ret2
          rw [HR.out]
          exact ⟨rfl, hb1⟩
        · have HR := Lib.hid (HG2.out.trans (vagent_os s key.data.toList (by rw [← Lib.toList_data]; exact k1) (by rw [← Lib.toList_data]; exact k2) (by rw [← Lib.toList_data]; exact k3)))
          clear HG2
          have hbA := (Below.refl w1.heap.size w1).alloc (Nat.le_refl _) (.cells #[.string ⟨#[87, 73, 78]⟩, .string ⟨#[87, 105, 110, 100, 111, 119, 115]⟩, .string ⟨#[77, 65, 67]⟩, .string ⟨#[77, 97, 99]⟩, .string ⟨#[85, 78, 73, 88]⟩, .string ⟨#[88, 49, 49]⟩, .string ⟨#[85, 78, 73, 88]⟩, .string ⟨#[76, 105, 110, 117, 120]⟩] 9)
          have hgA := hg1.next hbA
          go_wp2_with fail
          refine (vars_choose ⟨s.toArray⟩ ⟨#[79, 84, 72, 69, 82]⟩ w1.heap.size 0 8 4 [[87, 73, 78], tWindows, [77, 65, 67], tMac, [85, 78, 73, 88], tX11, [85, 78, 73, 88], tLinux] _ hgA hsz rfl (by decide) (by decide) (by simp) (scells_lit w1 _ _ rfl)).mono ?_
          rintro e w2 ⟨rfl, rfl⟩
          have hat : chooseL (⟨s.toArray⟩ : ByteArray).data.toList (⟨#[79, 84, 72, 69, 82]⟩ : ByteArray).data.toList [[87, 73, 78], tWindows, [77, 65, 67], tMac, [85, 78, 73, 88], tX11, [85, 78, 73, 88], tLinux] = vos s := choose_os s
          rw [hat]
          clear hat
          go_wp2
          go_ret2
          rw [HR.out]
          exact ⟨rfl, hb1.trans (hbA.mono hb1.size)⟩
      · have HR := Lib.hid (HG2.out.trans (vagent_version s key.data.toList (by rw [← Lib.toList_data]; exact k1) (by rw [← Lib.toList_data]; exact k2)))
        clear HG2
        go_wp2_with fail
        refine (vars_version ⟨s.toArray⟩ _ hg1 hsz).mono ?_
        rintro e w2 ⟨rfl, hb2⟩
        go_wp2
        go_ret2
        rw [HR.out]
        exact ⟨rfl, hb1.trans (hb2.mono hb1.size)⟩
    · have HR := Lib.hid (HG2.out.trans (vagent_browser s key.data.toList (by rw [← Lib.toList_data]; exact k1)))
      clear HG2
      have hbA := (Below.refl w1.heap.size w1).alloc (Nat.le_refl _) (.cells #[.string ⟨#[77, 83, 73, 69]⟩, .string ⟨#[77, 83, 73, 69, 32]⟩] 9)
      have hgA := hg1.next hbA
      go_wp2_with fail
      refine (lib_HasPrefix ⟨s.toArray⟩ ⟨#[77, 111, 122, 105, 108, 108, 97, 47]⟩ _).mono ?_
      rintro e w2 ⟨rfl, rfl⟩
      have hat : Lib.hasPrefix (⟨s.toArray⟩ : ByteArray).data.toList (⟨#[77, 111, 122, 105, 108, 108, 97, 47]⟩ : ByteArray).data.toList = Lib.hasPrefix s tMozilla := rfl
      rw [hat]
      clear hat
      rcases hp : Lib.hasPrefix s tMozilla with _ | _
      · have Hp := Lib.hid hp
        go_wp2_with fail
        refine (vars_choose ⟨s.toArray⟩ ⟨#[79, 84, 72, 69, 82]⟩ w1.heap.size 0 2 1 [[77, 83, 73, 69], tMsie] _ hgA hsz rfl (by decide) (by decide) (by simp) (scells_lit w1 _ _ rfl)).mono ?_
        rintro e w2 ⟨rfl, rfl⟩
        have hat : chooseL (⟨s.toArray⟩ : ByteArray).data.toList (⟨#[79, 84, 72, 69, 82]⟩ : ByteArray).data.toList [[77, 83, 73, 69], tMsie] = vbrowser s := by
          rw [choose_browser]; unfold vbrowser; rw [Hp.out]; rfl
        rw [hat]
        clear hat
        go_wp2
        go_ret2
        rw [HR.out]
        exact ⟨rfl, hb1.trans (hbA.mono hb1.size)⟩
      · have Hp := Lib.hid hp
        go_wp2_with fail
        refine (vars_choose ⟨s.toArray⟩ ⟨#[77, 79, 90, 73, 76, 76, 65]⟩ w1.heap.size 0 2 1 [[77, 83, 73, 69], tMsie] _ hgA hsz rfl (by decide) (by decide) (by simp) (scells_lit w1 _ _ rfl)).mono ?_
        rintro e w2 ⟨rfl, rfl⟩
        have hat : chooseL (⟨s.toArray⟩ : ByteArray).data.toList (⟨#[77, 79, 90, 73, 76, 76, 65]⟩ : ByteArray).data.toList [[77, 83, 73, 69], tMsie] = vbrowser s := by
          rw [choose_browser]; unfold vbrowser; rw [Hp.out]; rfl
        rw [hat]
        clear hat
        go_wp2
        go_ret2
        rw [HR.out]
        exact ⟨rfl, hb1.trans (hbA.mono hb1.size)⟩
end Go.Proofs.YtoipnaoijccokaaDoor
