/- The walk of the program's nought. -/
import Derived.Test.YtoipnaoijccokaaDoorVars2
import Derived.Test.YtoipnaoijccokaaDoorText
namespace Go.Proofs.YtoipnaoijccokaaDoor
open Go.RowKit
set_option linter.unusedVariables false

theorem tl_one (ls : List Bs) (p : Bs → Bool) : (ls.take 1).tail.any p = false := by cases ls <;> rfl
theorem tl_step (ls : List Bs) (p : Bs → Bool) (k : Nat) (l : Bs) (hk : 1 ≤ k) (hl : ls[k]? = some l) : (ls.take (k + 1)).tail.any p = ((ls.take k).tail.any p || p l) := by
  rw [take_snoc ls k l hl]
  have hne : ls.take k ≠ [] := by
    intro h
    have := congrArg List.length h
    rw [List.length_take, List.length_nil] at this
    have h2 := (List.getElem?_eq_some_iff.1 hl).1
    omega
  rw [List.tail_append_of_ne_nil hne, List.any_append]; simp
theorem tail_no (ls : List Bs) (p : Bs → Bool) (k : Nat) (l : Bs) (hl : ls[k]? = some l) (h : (ls.take k).tail.any p = false) (hp : 0 < k → p l = false) : (ls.take (k + 1)).tail.any p = false := by
  by_cases h0 : 0 < k
  · rw [tl_step ls p k l h0 hl, h, hp h0]; rfl
  · obtain rfl : k = 0 := by omega
    exact tl_one ls p
theorem tail_yes (ls : List Bs) (p : Bs → Bool) (k : Nat) (l : Bs) (hk : 0 < k) (hl : ls[k]? = some l) (hp : p l = true) : ls.tail.any p = true := by
  cases ls with
  | nil => simp at hl
  | cons x r =>
    cases k with
    | zero => omega
    | succ k => exact any_hit (ls := r) (k := k) (by simpa using hl) hp
theorem tl_end (ls : List Bs) (p : Bs → Bool) (k : Nat) (h : (ls.take k).tail.any p = false) (hk : ls.length ≤ k) : ls.tail.any p = false := by
  rw [List.take_of_length_le hk] at h; exact h

theorem zero_isz (l : Bs) : zero l = isz (lower (trim l)) := (isz_eq _).symm
theorem isz_not (t : Bs) (h : Lib.hasPrefix t [113, 61, 48] = false) : isz t = false := by unfold isz; rw [h]; rfl
theorem isz_nil (t : Bs) (h : Lib.hasPrefix t [113, 61, 48] = true) (h2 : Lib.trimPrefix t [113, 61, 48] = []) : isz t = true := by unfold isz; rw [h, h2]; rfl
theorem isz_cons (t : Bs) (x : UInt8) (r : Bs) (h : Lib.hasPrefix t [113, 61, 48] = true) (h2 : Lib.trimPrefix t [113, 61, 48] = x :: r) :
    isz t = ((((x.toNat : Int) == 46) && decide ((r.length : Int) + 1 ≤ 4)) && (Lib.trimS r [48] == [])) := by
  unfold isz; rw [h, h2]
  simp only [Bool.true_and, List.head?_cons, List.tail_cons]
  have e1 : ((x :: r : Bs) == []) = false := rfl
  have e2 : ((some x : Option UInt8) == some 46) = ((x.toNat : Int) == 46) := by
    rw [Bool.eq_iff_iff]; simp only [beq_iff_eq, Option.some.injEq, u8eq]
    have : (46 : UInt8).toNat = 46 := rfl
    rw [this]; omega
  have e3 : decide ((x :: r).length ≤ 4) = decide ((r.length : Int) + 1 ≤ 4) := by
    rw [Bool.eq_iff_iff]; simp only [decide_eq_true_eq, List.length_cons]; omega
  rw [e1, e2, e3, Bool.false_or]
theorem trimPrefix_len (t p : Bs) : (Lib.trimPrefix t p).length ≤ t.length := by
  unfold Lib.trimPrefix; split
  · rw [List.length_drop]; omega
  · exact Nat.le_refl _
theorem ext_tail (x : UInt8) (r : Bs) (n : Nat) (hn : n = r.length + 1) : (⟨(x :: r).toArray⟩ : ByteArray).extract 1 n = ⟨r.toArray⟩ := by
  refine bs_ext ?_
  rw [Lib.extract_data]
  subst hn; simp

set_option maxRecDepth 100000 in
set_option maxHeartbeats 800000 in
theorem vars_nought (s : ByteArray) (w : World) (hg : Good w) (hs : s.size ≤ 100002000) :
    Calls Tryd.prog 48 #[.string s] w (Ret w (.bool ((pieces 59 s.data.toList).tail.any zero))) := by
  go_enter Tryd.func48, Tryd.ntmps48
  go_wp2_with fail
  refine (lib_Split1 s 59 _ hg (by omega)).mono ?_
  rintro e w1 ⟨u, rfl, hown, hb1⟩
  have hg1 := hg.next hb1
  have Hpe := Lib.hid (pieces_each 59 s.size s.data.toList (by rw [bs_size]; exact Nat.le_refl _))
  have hpm := pieces_many 59 s.data.toList
  rw [bs_size] at hpm
  have hS := StrsAt.of_own hown
  have hne := pieces_ne 59 s.data.toList
  clear hown
  generalize pieces 59 s.data.toList = ls at *
  rcases hS with ⟨a, c, rfl, h0⟩ | ⟨b, o, c, rfl, hc, hlt, hcell⟩
  · exact absurd h0 hne
  · have HC : SCells w1 b o ls := hcell
    clear hcell hne
    go_wp2
    go_loopw [10] (fun i wr => ∃ k : Nat, k ≤ ls.length ∧ i = .int .i64 k ∧ Hid ((ls.take k).tail.any zero = false) ∧ Below w1.heap.size w1 wr) (fun i _ => ls.length - (intOf i).toNat)
    case atStart => exact ⟨0, Nat.zero_le _, rfl, Lib.hid rfl, Below.refl _ _⟩
    case round =>
      obtain ⟨k, hk, rfl, hno, hbr⟩ := hrel
      have hgr := hg1.next hbr
      by_cases hkl : k < ls.length
      · obtain ⟨l, hl⟩ : ∃ l, ls[k]? = some l := ⟨ls[k], List.getElem?_eq_getElem hkl⟩
        have hcell := (HC.below hbr hlt) k l hl
        have hll := Hpe.out l (List.mem_of_getElem? hl)
        rw [bs_size] at hll
        have htl := trim_len l
        have hlo := lower_length (trim l)
        have Hlo := Lib.hid hlo
        have hlol : (lower (trim l)).length ≤ 100002000 := by omega
        have Hl := Lib.hid hl
        clear hl hlo
        go_wp2_with fail
        refine (text_Trim ⟨l.toArray⟩ _ (bsz _ _ (by omega))).mono ?_
        rintro e w2 ⟨rfl, hb2⟩
        go_wp2_with fail
        refine (text_Lower ⟨(trim l).toArray⟩ _ (bsz _ _ (by omega))).mono ?_
        rintro e w3 ⟨rfl, hb3⟩
        go_wp2_with fail
        refine (lib_CutPrefix ⟨(lower (trim l)).toArray⟩ ⟨#[113, 61, 48]⟩ _).mono ?_
        rintro e w4 ⟨rfl, rfl⟩
        have hat : (⟨(lower (trim l)).toArray⟩ : ByteArray).data.toList = lower (trim l) := rfl
        have hat2 : (⟨#[113, 61, 48]⟩ : ByteArray).data.toList = [113, 61, 48] := rfl
        rw [hat, hat2]
        clear hat hat2
        have hbr3 : Below w1.heap.size w1 w3 := hbr.trans ((hb2.trans (hb3.mono hb2.size)).mono hbr.size)
        have hpl := trimPrefix_len (lower (trim l)) [113, 61, 48]
        have Hz := Lib.hid (zero_isz l)
        clear hb2 hb3 hcell
        generalize lower (trim l) = t at *
        rcases hp : Lib.hasPrefix t [113, 61, 48] with _ | _
        · have Hp := Lib.hid (isz_not t hp)
          go_wp2
          all_goals
            go_roundw
            case rel => exact ⟨k + 1, by omega, by go_num, Lib.hid (tail_no _ _ k l Hl.out hno.out (fun _ => Hz.out.trans Hp.out)), hbr3⟩
            case measure => (simp [intOf] <;> omega)
        · have hN := isz_nil t hp
          have hCo := fun x r => isz_cons t x r hp
          generalize Lib.trimPrefix t [113, 61, 48] = q at *
          have HN := Lib.hid hN
          have HCo := Lib.hid hCo
          clear hN hCo hp
          by_cases h0 : 0 < k
          · cases q with
            | nil =>
              have HN2 := Lib.hid (HN.out rfl)
              clear HN HCo
              go_wp2
              go_ret
              exact ⟨ret_bool (tail_yes _ _ k l h0 Hl.out (Hz.out.trans HN2.out)).symm, hb1.trans (hbr3.mono hb1.size)⟩
            | cons x r =>
              have HX := Lib.hid (HCo.out x r rfl)
              clear HN HCo
              have hrl : r.length + 1 ≤ 100002000 := by simp only [List.length_cons] at hpl; omega
              have hx0 : ∀ h, (⟨(x :: r).toArray⟩ : ByteArray)[0]'h = x := fun _ => rfl
              have hxt := ext_tail x r (r.length + 1) rfl
              rcases hxe : ((x.toNat : Int) == 46) with _ | _
              · have Hxe := Lib.hid hxe
                go_wp2
                go_roundw
                case rel => exact ⟨k + 1, by omega, by go_num, Lib.hid (tail_no _ _ k l Hl.out hno.out (fun _ => by rw [Hz.out, HX.out, Hxe.out]; rfl)), hbr3⟩
                case measure => (simp [intOf] <;> omega)
              · have Hxe := Lib.hid hxe
                by_cases hr : (r.length : Int) + 1 ≤ 4
                · have Hr := Lib.hid (decide_eq_true hr)
                  go_wp2_with fail
                  refine (lib_Trim ⟨r.toArray⟩ ⟨#[48]⟩ _ (bsz _ _ (by omega)) (by decide) (ascii_of_all (by decide))).mono ?_
                  rintro e w5 ⟨rfl, hb5⟩
                  have hat : (⟨r.toArray⟩ : ByteArray).data.toList = r := rfl
                  have hat2 : (⟨#[48]⟩ : ByteArray).data.toList = [48] := rfl
                  rw [hat, hat2]
                  clear hat hat2
                  have hbr5 : Below w1.heap.size w1 w5 := hbr3.trans (hb5.mono hbr3.size)
                  rcases hq : (Lib.trimS r [48] == []) with _ | _
                  · have Hq := Lib.hid hq
                    have hqe : (Lib.trimS r [48]).isEmpty = false := by simpa using hq
                    clear hq
                    go_wp2
                    go_roundw
                    case rel => exact ⟨k + 1, by omega, by go_num, Lib.hid (tail_no _ _ k l Hl.out hno.out (fun _ => by rw [Hz.out, HX.out, Hxe.out, Hr.out, Hq.out]; rfl)), hbr5⟩
                    case measure => (simp [intOf] <;> omega)
                  · have Hq := Lib.hid hq
                    have hqe : (Lib.trimS r [48]).isEmpty = true := by simpa using hq
                    clear hq
                    go_wp2
                    go_ret
                    exact ⟨ret_bool (tail_yes _ _ k l h0 Hl.out (by rw [Hz.out, HX.out, Hxe.out, Hr.out, Hq.out]; rfl)).symm, hb1.trans (hbr5.mono hb1.size)⟩
                · have Hr := Lib.hid (decide_eq_false hr)
                  go_wp2
                  go_roundw
                  case rel => exact ⟨k + 1, by omega, by go_num, Lib.hid (tail_no _ _ k l Hl.out hno.out (fun _ => by rw [Hz.out, HX.out, Hxe.out, Hr.out]; rfl)), hbr3⟩
                  case measure => (simp [intOf] <;> omega)
          · go_wp2
            all_goals
              go_roundw
              case rel => exact ⟨k + 1, by omega, by go_num, Lib.hid (tail_no _ _ k l Hl.out hno.out (fun h => absurd h h0)), hbr3⟩
              case measure => (simp [intOf] <;> omega)
      · go_wp2
        go_ret
        exact ⟨ret_bool (tl_end ls zero k hno.out (by omega)).symm, hb1.trans (hbr.mono hb1.size)⟩
end Go.Proofs.YtoipnaoijccokaaDoor
