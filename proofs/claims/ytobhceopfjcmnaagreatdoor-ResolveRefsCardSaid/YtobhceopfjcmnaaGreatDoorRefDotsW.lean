/- The walk of the reference's Dots: the loops. -/
import Derived.Test.YtobhceopfjcmnaaGreatDoorRefDots
namespace Go.Proofs.YtobhceopfjcmnaaGreatDoor
open Go.RowKit
set_option linter.unusedVariables false

theorem cat_ne {l : List Bs} (h : l ≠ []) : catB l ≠ [] := by
  cases l with
  | nil => exact (h rfl).elim
  | cons a b => rw [catB_cons]; simp
set_option maxRecDepth 100000 in
set_option maxHeartbeats 2000000 in
theorem ref09_Dots_yes (r : Bs) (w : World) (hs : r.length ≤ 100000) :
    Calls Tryz.prog 61 #[.string ⟨(47 :: r).toArray⟩] w fun e w' => e = .returned (.string ⟨(dotsB (47 :: r)).toArray⟩) ∧ w = w' := by
  have hR := RD.start r
  have hc := pieces_cat r
  generalize dotsB (47 :: r) = T at *
  have HR := Lib.hid hR
  have HC := Lib.hid (show (⟨(47 :: r).toArray⟩ : ByteArray) = ⟨(catB (pieces 47 r)).toArray⟩ by rw [hc])
  clear hR hc
  have hx : ∀ h, (⟨(47 :: r).toArray⟩ : ByteArray)[0]'h = 47 := fun _ => rfl
  go_enter Tryz.func61, Tryz.ntmps61
  go_wp2_with fail
  clear hx
  go_loop [3, 4] (fun i o => ∃ (l kept : List Bs), i = .string ⟨(catB l).toArray⟩ ∧ o = .string ⟨(catB kept).toArray⟩ ∧ Hid (RD T (r.length + 1) l kept)) (fun i _ => strSize i)
  case atStart => exact ⟨pieces 47 r, [], by rw [HC.out], rfl, HR⟩
  case round =>
    obtain ⟨l, kept, rfl, rfl, HI⟩ := hrel
    clear HR HC
    cases l with
    | nil =>
      have HE := Lib.hid (show catB kept = T from HI.out.ans)
      have h0 : (⟨(catB []).toArray⟩ : ByteArray).size = 0 := rfl
      go_wp2_with fail
      go_ret
      exact ⟨by rw [HE.out]; rfl, rfl⟩
    | cons p l =>
      have HF := Lib.hid (first_of (l := l) (HI.out.free p List.mem_cons_self))
      have hsz := HF.out.size
      have hlen := HI.out.len
      rw [catB_cons] at hlen
      generalize (⟨(catB (p :: l)).toArray⟩ : ByteArray) = B at *
      have hb0 : (0 : Int) < (B.size : Int) := by omega
      have hbl : B.size ≤ 100002 := by simp at hlen; omega
      go_wp2_with fail
      go_loop [5] (fun i5 => ∃ k : Nat, 1 ≤ k ∧ k ≤ 1 + p.length ∧ i5 = .int .i64 k) (fun i5 => 1 + p.length - (intOf i5).toNat)
      case atStart => exact ⟨1, Nat.le_refl _, by omega, rfl⟩
      case round =>
        obtain ⟨k, h1, h2, rfl⟩ := hrel
        by_cases hk : k < 1 + p.length
        · have hkB : k < B.size := by omega
          have i1 : (k : Int) < (B.size : Int) := by omega
          have hne := HF.out.mid k hkB h1 hk
          have hcb : ((B[k].toNat : Int) == 47) = false := by rw [beq_eq_false_iff_ne]; exact fun e => hne (UInt8.toNat_inj.1 (by have : (47 : UInt8).toNat = 47 := rfl; omega))
          clear hne
          go_wp2_with fail
          go_round
          case rel => exact ⟨k + 1, by omega, by omega, by go_num⟩
          case measure => (simp [intOf] <;> omega)
        · have hkp : k = 1 + p.length := by omega
          have hseg : B.extract 0 k = ⟨(47 :: p).toArray⟩ := by rw [hkp]; exact HF.out.seg
          have hrest : B.extract k B.size = ⟨(catB l).toArray⟩ := by rw [hkp]; exact HF.out.rest
          have HS := Lib.hid (show strSize (.string B) = B.size from rfl)
          have hL : (catB l).length + 1 + p.length = B.size := by omega
          have hfin : ∀ h : k < B.size, B[k] = 47 := by subst hkp; exact HF.out.fin
          have hcat : (catB l).length + k = B.size := by omega
          by_cases d1 : p = dot1
          · obtain rfl := d1
            obtain rfl : k = 2 := hkp
            have HR := Lib.hid HI.out.one
            rcases Decidable.em (l = []) with rfl | hl
            · have HN : catB ([] : List Bs) = [] := rfl
              have i1 : B.size = 2 := by rw [HN] at hL; simpa [dot1] using hL.symm
              have g1 : B.extract 0 2 = ⟨#[47, 46]⟩ := hseg
              have g2 : B.extract 2 B.size = ⟨#[]⟩ := hrest
              rw [i1] at g2
              clear hseg hrest hL hlen hsz hfin hcat
              unfold dot1 at *
              go_wp2_with fail
              go_round
              case rel => exact ⟨_, _, rfl, rfl, HR⟩
              case measure => show (1 : Nat) < B.size; omega
            · have HRr := HR
              replace HRr := HRr.out
              rw [if_neg hl] at HRr
              have hne := cat_ne hl
              have hneb : (catB l == []) = false := by rw [beq_eq_false_iff_ne]; exact hne
              have g1 : B.extract 0 2 = ⟨#[47, 46]⟩ := hseg
              have g2 : B.extract 2 B.size = ⟨(catB l).toArray⟩ := hrest
              have g3 : (catB l).length + 2 = B.size := hL
              have g4 : (2 : Int) ≤ (B.size : Int) := by omega
              have h2 : 2 < B.size := by have := List.length_pos_iff.2 hne; omega
              have i2 : (2 : Int) < (B.size : Int) := by omega
              have hb : ((B[2].toNat : Int) == 47) = true := by rw [show B[2] = 47 from hfin h2]; rfl
              have HM := Lib.hid (show (catB l).length < B.size by omega)
              clear hseg hrest hL hlen hsz g3 HR hfin hcat
              unfold dot1 at *
              go_wp2_with fail
              go_round
              case rel => exact ⟨_, _, rfl, rfl, Lib.hid HRr⟩
              case measure => show (⟨(catB l).toArray⟩ : ByteArray).size < B.size; rw [← bs_size]; exact HM.out
          · by_cases d2 : p = dot2
            · obtain rfl := d2
              obtain rfl : k = 3 := hkp
              have HR := Lib.hid HI.out.two
              obtain ⟨m, hP⟩ := prev_of kept HI.out.kfree
              obtain ⟨O, hO⟩ : ∃ O : ByteArray, (⟨(catB kept).toArray⟩ : ByteArray) = O := ⟨_, rfl⟩
              rw [hO] at hP
              have HP := Lib.hid hP
              have HO := Lib.hid hO
              have hOs : O.size ≤ 100002 := by rw [← hO, ← bs_size]; simp at hlen ⊢; omega
              rw [hO]
              clear hP hO d1
              have g1 : B.extract 0 3 = ⟨#[47, 46, 46]⟩ := hseg
              rcases Decidable.em (l = []) with rfl | hl
              · have HN : catB ([] : List Bs) = [] := rfl
                have i1 : B.size = 3 := by rw [HN] at hL; simpa [dot2] using hL.symm
                have g2 : B.extract 3 B.size = ⟨#[]⟩ := hrest
                rw [i1] at g2
                clear hseg hrest hL hlen hsz hfin hcat
                unfold dot2 at *
                have t9 : True := trivial
                go_wp2_with fail
                go_loop [7] (fun i7 => ∃ j : Nat, m ≤ j ∧ j ≤ O.size ∧ i7 = .int .i64 j) (fun i7 => (intOf i7).toNat)
                case atStart => exact ⟨O.size, HP.out.le, Nat.le_refl _, rfl⟩
                case round =>
                  obtain ⟨j, j1, j2, rfl⟩ := hrel
                  by_cases hj : m < j
                  · have y0 : (0 : Int) < (j : Int) := by omega
                    have y1 : j - 1 < O.size := by omega
                    have y2 : ((j : Int) - 1).toNat = j - 1 := by omega
                    have y3 : (j : Int) - 1 < (O.size : Int) := by omega
                    have hb7 : ((O[j - 1].toNat : Int) == 47) = false := by rw [beq_eq_false_iff_ne]; exact fun e => HP.out.mid j y1 hj (UInt8.toNat_inj.1 (by have : (47 : UInt8).toNat = 47 := rfl; omega))
                    go_wp2_with fail
                    go_round
                    case rel => exact ⟨j - 1, by omega, by omega, by go_num⟩
                    case measure => (simp [intOf] <;> omega)
                  · obtain rfl : j = m := by omega
                    by_cases hj0 : j = 0
                    · subst hj0
                      obtain ⟨z1, z2⟩ := HP.out.zero rfl
                      have HO2 := Lib.hid (show O = ⟨(catB kept.dropLast).toArray⟩ by rw [← HO.out, z1]; rfl)
                      clear z1
                      go_wp2_with fail
                      go_round
                      case rel => exact ⟨_, _, rfl, by rw [HO2.out], HR⟩
                      case measure => show (1 : Nat) < B.size; omega
                    · have y0 : (0 : Int) < (j : Int) := by omega
                      have y1 : j - 1 < O.size := by omega
                      have y2 : ((j : Int) - 1).toNat = j - 1 := by omega
                      have y3 : (j : Int) - 1 < (O.size : Int) := by omega
                      have hb7 : ((O[j - 1].toNat : Int) == 47) = true := by rw [HP.out.stop y1 (by omega)]; rfl
                      have hcut := HP.out.cut (by omega)
                      go_wp2_with fail
                      go_round
                      case rel => exact ⟨_, _, rfl, rfl, HR⟩
                      case measure => show (1 : Nat) < B.size; omega
              · have HR := HR.out
                rw [if_neg hl] at HR
                replace HR := Lib.hid HR
                have hne := cat_ne hl
                have hneb : (catB l == []) = false := by rw [beq_eq_false_iff_ne]; exact hne
                have g2 : B.extract 3 B.size = ⟨(catB l).toArray⟩ := hrest
                have g3 : (catB l).length + 3 = B.size := hL
                have h2 : 3 < B.size := by have := List.length_pos_iff.2 hne; omega
                have g4 : (3 : Int) ≤ (B.size : Int) := by omega
                have i2 : (3 : Int) < (B.size : Int) := by omega
                have hb : ((B[3].toNat : Int) == 47) = true := by rw [show B[3] = 47 from hfin h2]; rfl
                have HM := Lib.hid (show (catB l).length < B.size by omega)
                clear hseg hrest hL hlen hsz g3 hfin hcat
                unfold dot2 at *
                have t9 : True := trivial
                go_wp2_with fail
                go_loop [7] (fun i7 => ∃ j : Nat, m ≤ j ∧ j ≤ O.size ∧ i7 = .int .i64 j) (fun i7 => (intOf i7).toNat)
                case atStart => exact ⟨O.size, HP.out.le, Nat.le_refl _, rfl⟩
                case round =>
                  obtain ⟨j, j1, j2, rfl⟩ := hrel
                  by_cases hj : m < j
                  · have y0 : (0 : Int) < (j : Int) := by omega
                    have y1 : j - 1 < O.size := by omega
                    have y2 : ((j : Int) - 1).toNat = j - 1 := by omega
                    have y3 : (j : Int) - 1 < (O.size : Int) := by omega
                    have hb7 : ((O[j - 1].toNat : Int) == 47) = false := by rw [beq_eq_false_iff_ne]; exact fun e => HP.out.mid j y1 hj (UInt8.toNat_inj.1 (by have : (47 : UInt8).toNat = 47 := rfl; omega))
                    go_wp2_with fail
                    go_round
                    case rel => exact ⟨j - 1, by omega, by omega, by go_num⟩
                    case measure => (simp [intOf] <;> omega)
                  · obtain rfl : j = m := by omega
                    by_cases hj0 : j = 0
                    · subst hj0
                      obtain ⟨z1, z2⟩ := HP.out.zero rfl
                      have HO2 := Lib.hid (show O = ⟨(catB kept.dropLast).toArray⟩ by rw [← HO.out, z1]; rfl)
                      clear z1
                      go_wp2_with fail
                      go_round
                      case rel => exact ⟨_, _, rfl, by rw [HO2.out], HR⟩
                      case measure => show (⟨(catB l).toArray⟩ : ByteArray).size < B.size; rw [← bs_size]; exact HM.out
                    · have y0 : (0 : Int) < (j : Int) := by omega
                      have y1 : j - 1 < O.size := by omega
                      have y2 : ((j : Int) - 1).toNat = j - 1 := by omega
                      have y3 : (j : Int) - 1 < (O.size : Int) := by omega
                      have hb7 : ((O[j - 1].toNat : Int) == 47) = true := by rw [HP.out.stop y1 (by omega)]; rfl
                      have hcut := HP.out.cut (by omega)
                      go_wp2_with fail
                      go_round
                      case rel => exact ⟨_, _, rfl, rfl, HR⟩
                      case measure => show (⟨(catB l).toArray⟩ : ByteArray).size < B.size; rw [← bs_size]; exact HM.out
            · have HR := Lib.hid (HI.out.other d1 d2)
              have g3 : (catB kept).length + B.size ≤ 100002 := by simp at hlen; omega
              have g5 : (⟨(catB kept).toArray⟩ : ByteArray) ++ ⟨(47 :: p).toArray⟩ = ⟨(catB (kept ++ [p])).toArray⟩ := by rw [catB_snoc]; exact bs_ext (by simp)
              have f1 : ¬ (p = [46]) := d1
              have f2 : ¬ (p = [46, 46]) := d2
              have f3 : (p == [46]) = false := by rw [beq_eq_false_iff_ne]; exact d1
              have f4 : (p == [46, 46]) = false := by rw [beq_eq_false_iff_ne]; exact d2
              have HM := Lib.hid (show (catB l).length < B.size by omega)
              have i1 : (k : Int) ≤ (B.size : Int) := by omega
              rcases Nat.lt_or_ge k B.size with h2 | h2
              · have i2 : (k : Int) < (B.size : Int) := by omega
                have hb : ((B[k].toNat : Int) == 47) = true := by rw [hfin h2]; rfl
                clear hL hlen hsz hfin hcat hkp d1 d2
                go_wp2_with fail
                go_round
                case rel => exact ⟨_, _, rfl, rfl, HR⟩
                case measure => show (⟨(catB l).toArray⟩ : ByteArray).size < B.size; rw [← bs_size]; exact HM.out
              · have i2 : (B.size : Int) ≤ (k : Int) := by omega
                clear hL hlen hsz hfin hcat hkp d1 d2
                go_wp2_with fail
                go_round
                case rel => exact ⟨_, _, rfl, rfl, HR⟩
                case measure => show (⟨(catB l).toArray⟩ : ByteArray).size < B.size; rw [← bs_size]; exact HM.out

set_option maxRecDepth 100000 in
theorem ref09_Dots (s : Bs) (w : World) (hs : s.length ≤ 100000) :
    Calls Tryz.prog 61 #[.string ⟨s.toArray⟩] w fun e w' => e = .returned (.string ⟨(dotsB s).toArray⟩) ∧ w = w' := by
  cases s with
  | nil =>
    have HE := Lib.hid (show dotsB [] = [] from rfl)
    go_enter Tryz.func61, Tryz.ntmps61
    go_wp2_with fail
    go_ret
    exact ⟨by rw [HE.out]; rfl, rfl⟩
  | cons c r =>
    by_cases hc : c = 47
    · subst hc
      exact ref09_Dots_yes r w (by simp at hs; omega)
    · have HE := Lib.hid (show dotsB (c :: r) = [] by
        unfold dotsB
        have : Lib.hasPrefix (c :: r) [47] = false := by
          cases h : Lib.hasPrefix (c :: r) [47]
          · rfl
          · unfold Lib.hasPrefix at h
            obtain ⟨q, hq⟩ := List.isPrefixOf_iff_prefix.1 h
            exact (hc (List.cons.inj hq).1.symm).elim
        rw [this]; rfl)
      have hx : ∀ h, (⟨(c :: r).toArray⟩ : ByteArray)[0]'h = c := fun _ => rfl
      have hcb : ((c.toNat : Int) == 47) = false := by rw [beq_eq_false_iff_ne]; exact fun e => hc (UInt8.toNat_inj.1 (by have : (47 : UInt8).toNat = 47 := rfl; omega))
      have hcn : ¬ ((c.toNat : Int) = 47) := by simpa using hcb
      go_enter Tryz.func61, Tryz.ntmps61
      go_wp2_with fail
      go_ret
      exact ⟨by rw [HE.out]; rfl, rfl⟩
end Go.Proofs.YtobhceopfjcmnaaGreatDoor
