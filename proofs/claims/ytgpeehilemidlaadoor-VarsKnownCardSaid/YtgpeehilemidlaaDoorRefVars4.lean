/- Walks of the reference's variables: is a language accepted? -/
import Derived.Test.YtgpeehilemidlaaDoorRefVars3
namespace Go.Proofs.YtgpeehilemidlaaDoor
open Go.RowKit
set_option linter.unusedVariables false

theorem bsz (l : Bs) (n : Nat) (h : l.length ≤ n) : (⟨l.toArray⟩ : ByteArray).size ≤ n := by show l.toArray.size ≤ n; simpa using h
theorem bsz_lt (l : Bs) (n : Nat) (h : l.length < n) : (⟨l.toArray⟩ : ByteArray).size < n := by show l.toArray.size < n; simpa using h

theorem fget_len {fs : List Fld} (h : Lim fs) (name : Bs) : (fget fs name).1.length ≤ 100002000 := join_len (h.values name) [44, 32] (by decide)

set_option maxRecDepth 100000 in
set_option maxHeartbeats 800000 in
theorem ref25_language (m t bd h key : ByteArray) (mn : Int) (a : Option Addr) (n c : Nat) (fs : List Fld) (w : World) (hF : FieldsAt w (.slice a n c) fs) (hlim : Lim fs) (hkey : key.size ≤ 140737488351232) :
    Calls Tryd.prog 46 #[.agg #[.string m, .string t, .int .i64 mn, .slice a n c, .string bd, .string h], .string key] w
      (Ret w (.tuple #[.string ⟨(langV (vlang fs key.data.toList)).toArray⟩, .bool (vlang fs key.data.toList)])) := by
  have hcl := fget_len hlim langName
  have HG := Lib.hid (show vlang fs key.data.toList = (pieces 44 (fget fs langName).1).any (lgOf key.data.toList) from rfl)
  go_enter Tryd.func46, Tryd.ntmps46
  go_wp2_with fail
  refine (ref04_Get fs _ ⟨#[97, 99, 99, 101, 112, 116, 45, 108, 97, 110, 103, 117, 97, 103, 101]⟩ _ (hF.below ((Below.refl _ _).alloc (Nat.le_refl _) _)) hlim (by decide)).mono ?_
  rintro e w1 ⟨rfl, hb0⟩
  have hb1 := below_alloc hb0
  clear hb0
  have hnm : (⟨#[97, 99, 99, 101, 112, 116, 45, 108, 97, 110, 103, 117, 97, 103, 101]⟩ : ByteArray).data.toList = langName := rfl
  rw [hnm]
  clear hnm
  generalize (fget fs langName).1 = all at *
  go_wp2_with fail
  refine (ref25_Pieces ⟨all.toArray⟩ 44 _ _ rfl (bsz_lt _ _ (by omega))).mono ?_
  rintro e w2 ⟨u, rfl, hown, hb2⟩
  have hb12 := hb1.trans (hb2.mono hb1.size)
  have Hpe := Lib.hid (pieces_each 44 all.length all (Nat.le_refl _))
  have hpm := pieces_many 44 all
  have hS := StrsAt.of_own hown
  clear hown hb1 hb2
  have hat : (⟨all.toArray⟩ : ByteArray).data.toList = all := rfl
  rw [hat] at hS
  clear hat
  generalize pieces 44 all = ls at *
  rcases hS with ⟨a, c, rfl, rfl⟩ | ⟨b, o, c, rfl, hc, hlt, hcell⟩
  · go_wp2
    refine wp_loop_rounds 1 ?_
    rw [rounds_succ]
    go_wp2
    go_ret2
    exact ⟨by rw [show vlang fs key.data.toList = false from HG.out]; rfl, hb12⟩
  · have HC : SCells w2 b o ls := hcell
    clear hcell
    go_wp2
    go_loopw [9] (fun i wr => ∃ k : Nat, k ≤ ls.length ∧ i = .int .i64 k ∧ Hid ((ls.take k).any (lgOf key.data.toList) = false) ∧ Below w2.heap.size w2 wr) (fun i _ => ls.length - (intOf i).toNat)
    case atStart => exact ⟨0, Nat.zero_le _, rfl, Lib.hid rfl, Below.refl _ _⟩
    case round =>
      obtain ⟨k, hk, rfl, hno, hbr⟩ := hrel
      by_cases hkl : k < ls.length
      · obtain ⟨l, hl⟩ : ∃ l, ls[k]? = some l := ⟨ls[k], List.getElem?_eq_getElem hkl⟩
        have hcell := (HC.below hbr hlt) k l hl
        have hll := Hpe.out l (List.mem_of_getElem? hl)
        have hul := upto_len 59 l
        have htl := trim_len (upto 59 l)
        have Hl := Lib.hid hl
        clear hl
        go_wp2_with fail
        refine (ref25_Pieces ⟨l.toArray⟩ 59 _ _ rfl (bsz_lt _ _ (by omega))).mono ?_
        rintro e w3 ⟨u3, rfl, hown3, hb3⟩
        have hat : (⟨l.toArray⟩ : ByteArray).data.toList = l := rfl
        rw [hat] at hown3
        clear hat
        have hS3 := StrsAt.of_own hown3
        have Hpe3 := Lib.hid (pieces_each 59 l.length l (Nat.le_refl _))
        have hpm3 := pieces_many 59 l
        have hne3 := pieces_ne 59 l
        have hbr3 : Below w2.heap.size w2 w3 := hbr.trans (hb3.mono hbr.size)
        have hhd := pieces_head 59 l
        clear hown3 hb3 hcell
        rcases hS3 with ⟨a3, c3, rfl, h03⟩ | ⟨b3, o3, c3, rfl, hc3, hlt3, hcell3⟩
        · exact absurd h03 hne3
        · have HC3 : SCells w3 b3 o3 (pieces 59 l) := hcell3
          have hc0 : w3.cell? ⟨b3, o3, none⟩ = some (.string ⟨(upto 59 l).toArray⟩) := by
            have := HC3 0 (upto 59 l) (by rw [← hhd, List.head?_eq_getElem?])
            simpa using this
          have hp3 : 0 < (pieces 59 l).length := List.length_pos_iff.2 hne3
          clear hcell3 hhd hne3
          go_wp2_with fail
          refine (ref01_Trim ⟨(upto 59 l).toArray⟩ _ (bsz _ _ (by omega))).mono ?_
          rintro e w4 ⟨rfl, rfl⟩
          go_wp2_with fail
          refine (ref01_Same ⟨(trim (upto 59 l)).toArray⟩ key _ (bsz _ _ (by omega)) hkey).mono ?_
          rintro e w5 ⟨rfl, hb5⟩
          have hat : (⟨(trim (upto 59 l)).toArray⟩ : ByteArray).data.toList = trim (upto 59 l) := rfl
          rw [hat, ← lgAt_one]
          clear hat
          have hbr5 : Below w2.heap.size w2 w5 := hbr3.trans (hb5.mono hbr3.size)
          have HC5 : SCells w5 b3 o3 (pieces 59 l) := HC3.below hb5 hlt3
          have hlt5 : b3 < w5.heap.size := Nat.lt_of_lt_of_le hlt3 hb5.size
          clear hb5 hc0
          go_wp2
          go_loopw [11, 12] (fun g i wx => ∃ j : Nat, 1 ≤ j ∧ j ≤ (pieces 59 l).length ∧ i = .int .i64 j ∧ g = .bool (lgAt key.data.toList l j) ∧ Below w5.heap.size w5 wx) (fun _ i _ => (pieces 59 l).length - (intOf i).toNat)
          case atStart => exact ⟨1, Nat.le_refl _, by omega, rfl, rfl, Below.refl _ _⟩
          case round =>
            obtain ⟨j, hj1, hj, rfl, rfl, hbx⟩ := hrel
            by_cases hjl : j < (pieces 59 l).length
            · obtain ⟨q, hq⟩ : ∃ q, (pieces 59 l)[j]? = some q := ⟨(pieces 59 l)[j], List.getElem?_eq_getElem hjl⟩
              have hcq := (HC5.below hbx hlt5) j q hq
              have hql := Hpe3.out q (List.mem_of_getElem? hq)
              have HA := Lib.hid (lgAt_step key.data.toList l j q hj1 hq)
              clear hq
              rcases hg : lgAt key.data.toList l j with _ | _
              · have Hg := Lib.hid hg
                go_wp2
                go_roundw
                case rel => exact ⟨j + 1, by omega, by omega, by go_num, by rw [HA.out, Hg.out]; rfl, hbx⟩
                case measure => (simp [intOf] <;> omega)
              · have Hg := Lib.hid hg
                go_wp2_with fail
                refine (ref25_nought ⟨q.toArray⟩ _ (bsz _ _ (by omega))).mono ?_
                rintro e w6 ⟨rfl, hb6⟩
                have hat : (⟨q.toArray⟩ : ByteArray).data.toList = q := rfl
                rw [hat]
                clear hat
                go_wp2
                go_roundw
                case rel => exact ⟨j + 1, by omega, by omega, by go_num, by rw [HA.out, Hg.out]; simp, hbx.trans (hb6.mono hbx.size)⟩
                case measure => (simp [intOf] <;> omega)
            · have HE := Lib.hid (lgAt_end key.data.toList l j (by omega))
              rcases hg : lgAt key.data.toList l j with _ | _
              · have Hg := Lib.hid hg
                go_wp2
                go_roundw
                case rel => exact ⟨k + 1, by omega, by go_num, Lib.hid (any_step hno.out Hl.out (by rw [← HE.out]; exact Hg.out)), hbr5.trans (hbx.mono hbr5.size)⟩
                case measure => (simp [intOf] <;> omega)
              · have Hg := Lib.hid hg
                go_wp2
                go_ret2
                rw [HG.out, any_hit Hl.out (by rw [← HE.out]; exact Hg.out)]
                exact ⟨rfl, hb12.trans ((hbr5.trans (hbx.mono hbr5.size)).mono hb12.size)⟩
      · go_wp2
        go_ret2
        rw [HG.out, any_end hno.out (by omega)]
        exact ⟨rfl, hb12.trans (hbr.mono hb12.size)⟩
end Go.Proofs.YtgpeehilemidlaaDoor
