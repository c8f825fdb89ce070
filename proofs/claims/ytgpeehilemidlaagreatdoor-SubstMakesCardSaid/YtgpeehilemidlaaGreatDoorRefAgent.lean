/- Walks of the reference's variables: what is told of an agent. -/
import Derived.Test.YtgpeehilemidlaaGreatDoorRefVars
import Derived.Test.YtgpeehilemidlaaGreatDoorPlain
namespace Go.Proofs.YtgpeehilemidlaaGreatDoor
open Go.RowKit
set_option linter.unusedVariables false

theorem find_in (s t : ByteArray) (w : World) (hs : s.size ≤ 140737488351232) (ht : t.size ≤ 140737488351232) (h1 : 1 ≤ t.size) (h : Lib.contains s.data.toList t.data.toList = true) :
    Calls Tryz.prog 73 #[.string s, .string t] w fun e w' => e = .returned (.int .i64 ((Lib.index s.data.toList t.data.toList).toNat : Nat)) ∧ w = w' := by
  refine (ref25_Find s t w hs ht h1).mono ?_
  rintro e w' ⟨rfl, rfl⟩
  exact ⟨ret_int (index_has _ _ h), rfl⟩
theorem find_out (s t : ByteArray) (w : World) (hs : s.size ≤ 140737488351232) (ht : t.size ≤ 140737488351232) (h1 : 1 ≤ t.size) (h : Lib.contains s.data.toList t.data.toList = false) :
    Calls Tryz.prog 73 #[.string s, .string t] w fun e w' => e = .returned (.int .i64 (-1)) ∧ w = w' := by
  refine (ref25_Find s t w hs ht h1).mono ?_
  rintro e w' ⟨rfl, rfl⟩
  exact ⟨ret_int (index_hasnt _ _ h), rfl⟩

set_option maxRecDepth 100000 in
set_option maxHeartbeats 800000 in
theorem ref25_agent (m t bd h key : ByteArray) (mn : Int) (a : Option Addr) (n c : Nat) (fs : List Fld) (w : World) (hF : FieldsAt w (.slice a n c) fs) (hlim : Lim fs) (hkey : key.size ≤ 140737488351232) :
    Calls Tryz.prog 48 #[.agg #[.string m, .string t, .int .i64 mn, .slice a n c, .string bd, .string h], .string key] w
      (Ret w (.tuple #[.string ⟨(vua fs key.data.toList).1.toArray⟩, .bool (vua fs key.data.toList).2])) := by
  have hcl := fget_len hlim agentName
  have HG := Lib.hid (show vua fs key.data.toList = bif (fget fs agentName).2 then vagent (fget fs agentName).1 key.data.toList else ([], false) from rfl)
  go_enter Tryz.func48, Tryz.ntmps48
  go_wp2_with fail
  refine (ref04_Get fs _ ⟨#[117, 115, 101, 114, 45, 97, 103, 101, 110, 116]⟩ _ (hF.below ((Below.refl _ _).alloc (Nat.le_refl _) _)) hlim (by decide)).mono ?_
  rintro e w1 ⟨rfl, hb0⟩
  have hb1 := below_alloc hb0
  clear hb0
  have hnm : (⟨#[117, 115, 101, 114, 45, 97, 103, 101, 110, 116]⟩ : ByteArray).data.toList = agentName := rfl
  rw [hnm]
  clear hnm
  generalize (fget fs agentName).1 = s at *
  generalize (fget fs agentName).2 = is at *
  have hsz := bsz s 140737488351232 (by omega)
  rcases is with _ | _
  · go_wp2
    go_ret2
    rw [HG.out]
    exact ⟨rfl, hb1⟩
  · have HG2 := Lib.hid (show vua fs key.data.toList = vagent s key.data.toList from HG.out)
    clear HG
    rcases k1 : (key.toList == [98, 114, 111, 119, 115, 101, 114]) with _ | _
    · rcases k2 : (key.toList == [118, 101, 114, 115, 105, 111, 110]) with _ | _
      · rcases k3 : (key.toList == [111, 115]) with _ | _
        · have HR := Lib.hid (HG2.out.trans (vagent_other s key.data.toList (by rw [← Lib.toList_data]; exact k1) (by rw [← Lib.toList_data]; exact k2) (by rw [← Lib.toList_data]; exact k3)))
          go_wp2_with fail
          refine (ref25_Find ⟨s.toArray⟩ ⟨#[77, 83, 73, 69, 32]⟩ _ hsz (by decide) (by decide)).mono ?_
          rintro e w2 ⟨rfl, rfl⟩
          go_wp2
          go_ret2
          rw [HR.out]
          exact ⟨rfl, hb1⟩
        · have HR := Lib.hid (HG2.out.trans (vagent_os s key.data.toList (by rw [← Lib.toList_data]; exact k1) (by rw [← Lib.toList_data]; exact k2) (by rw [← Lib.toList_data]; exact k3)))
          go_wp2_with fail
          refine (ref25_Find ⟨s.toArray⟩ ⟨#[77, 83, 73, 69, 32]⟩ _ hsz (by decide) (by decide)).mono ?_
          rintro e w2 ⟨rfl, rfl⟩
          rcases c1 : Lib.contains s tWindows with _ | _
          · have C1 := Lib.hid c1
            go_wp2_with fail
            refine (find_out ⟨s.toArray⟩ ⟨#[87, 105, 110, 100, 111, 119, 115]⟩ _ hsz (by decide) (by decide) c1).mono ?_
            rintro e w2 ⟨rfl, rfl⟩
            clear c1
            rcases c1 : Lib.contains s tMac with _ | _
            · have C2 := Lib.hid c1
              go_wp2_with fail
              refine (find_out ⟨s.toArray⟩ ⟨#[77, 97, 99]⟩ _ hsz (by decide) (by decide) c1).mono ?_
              rintro e w2 ⟨rfl, rfl⟩
              clear c1
              rcases c1 : Lib.contains s tX11 with _ | _
              · have C3 := Lib.hid c1
                go_wp2_with fail
                refine (find_out ⟨s.toArray⟩ ⟨#[88, 49, 49]⟩ _ hsz (by decide) (by decide) c1).mono ?_
                rintro e w2 ⟨rfl, rfl⟩
                clear c1
                rcases c1 : Lib.contains s tLinux with _ | _
                · have C4 := Lib.hid c1
                  go_wp2_with fail
                  refine (find_out ⟨s.toArray⟩ ⟨#[76, 105, 110, 117, 120]⟩ _ hsz (by decide) (by decide) c1).mono ?_
                  rintro e w2 ⟨rfl, rfl⟩
                  clear c1
                  go_wp2
                  go_ret2
                  rw [HR.out]
                  exact ⟨by simp [vos, C1.out, C2.out, C3.out, C4.out], hb1⟩
                · have C4 := Lib.hid c1
                  go_wp2_with fail
                  refine (find_in ⟨s.toArray⟩ ⟨#[76, 105, 110, 117, 120]⟩ _ hsz (by decide) (by decide) c1).mono ?_
                  rintro e w2 ⟨rfl, rfl⟩
                  clear c1
                  go_wp2
                  go_ret2
                  rw [HR.out]
                  exact ⟨by simp [vos, C1.out, C2.out, C3.out, C4.out], hb1⟩
              · have C3 := Lib.hid c1
                go_wp2_with fail
                refine (find_in ⟨s.toArray⟩ ⟨#[88, 49, 49]⟩ _ hsz (by decide) (by decide) c1).mono ?_
                rintro e w2 ⟨rfl, rfl⟩
                clear c1
                go_wp2
                go_ret2
                rw [HR.out]
                exact ⟨by simp [vos, C1.out, C2.out, C3.out], hb1⟩
            · have C2 := Lib.hid c1
              go_wp2_with fail
              refine (find_in ⟨s.toArray⟩ ⟨#[77, 97, 99]⟩ _ hsz (by decide) (by decide) c1).mono ?_
              rintro e w2 ⟨rfl, rfl⟩
              clear c1
              go_wp2
              go_ret2
              rw [HR.out]
              exact ⟨by simp [vos, C1.out, C2.out], hb1⟩
          · have C1 := Lib.hid c1
            go_wp2_with fail
            refine (find_in ⟨s.toArray⟩ ⟨#[87, 105, 110, 100, 111, 119, 115]⟩ _ hsz (by decide) (by decide) c1).mono ?_
            rintro e w2 ⟨rfl, rfl⟩
            clear c1
            go_wp2
            go_ret2
            rw [HR.out]
            exact ⟨by simp [vos, C1.out], hb1⟩
      · have HR := Lib.hid (HG2.out.trans (vagent_version s key.data.toList (by rw [← Lib.toList_data]; exact k1) (by rw [← Lib.toList_data]; exact k2)))
        clear HG2
        rcases c1 : Lib.contains s tMsie with _ | _
        · rcases c2 : s.contains 47 with _ | _
          · have HN := Lib.hid (vver_none s c1 c2)
            go_wp2_with fail
            refine (find_out ⟨s.toArray⟩ ⟨#[77, 83, 73, 69, 32]⟩ _ hsz (by decide) (by decide) c1).mono ?_
            rintro e w2 ⟨rfl, rfl⟩
            clear c1
            go_wp2_with fail
            refine (find_no ⟨s.toArray⟩ 47 _ hsz c2).mono ?_
            rintro e w2 ⟨rfl, rfl⟩
            clear c2
            go_wp2
            go_ret2
            rw [HR.out, HN.out]
            exact ⟨rfl, hb1⟩
          · have hle := lead_lt 47 s c2
            have HD := Lib.hid (show verAt s = lead (· != 47) s + 1 by unfold verAt; rw [c1]; rfl)
            go_wp2_with fail
            refine (find_out ⟨s.toArray⟩ ⟨#[77, 83, 73, 69, 32]⟩ _ hsz (by decide) (by decide) c1).mono ?_
            rintro e w2 ⟨rfl, rfl⟩
            clear c1
            go_wp2_with fail
            refine (find_yes ⟨s.toArray⟩ 47 _ hsz c2).mono ?_
            rintro e w2 ⟨rfl, rfl⟩
            clear c2
            have hat : (⟨s.toArray⟩ : ByteArray).data.toList = s := rfl
            rw [hat]
            clear hat
            generalize lead (· != 47) s = p at *
            have hp1 : ((p : Int) + 1 == 0) = false := by rw [beq_eq_false_iff_ne]; omega
            go_wp2
            go_loop [10] (fun f => ∃ k : Nat, p + 1 ≤ k ∧ k ≤ s.length ∧ k - (p + 1) ≤ lead vd (s.drop (p + 1)) ∧ f = .int .i64 k) (fun f => s.length - (intOf f).toNat)
            case atStart => exact ⟨p + 1, by omega, by omega, by omega, by go_num⟩
            case round =>
              obtain ⟨k, hk1, hk2, hk3, rfl⟩ := hrel
              by_cases hkl : k < s.length
              · have hgk := drop_get s (p + 1) k hk1
                have hkk : k < (⟨s.toArray⟩ : ByteArray).size := by show k < s.toArray.size; simpa using hkl
                have hbg : s[k]? = some ((⟨s.toArray⟩ : ByteArray)[k]'hkk) := bs_get ⟨s.toArray⟩ k hkk
                have Hst := Lib.hid (fun (hv : vd ((⟨s.toArray⟩ : ByteArray)[k]'hkk) = true) => lead_step vd (s.drop (p + 1)) (k - (p + 1)) _ hk3 (hgk.trans hbg) hv)
                have Hsp := Lib.hid (fun (hv : vd ((⟨s.toArray⟩ : ByteArray)[k]'hkk) = false) => lead_stop vd (s.drop (p + 1)) (k - (p + 1)) hk3 (fun c hc => by rw [hgk, hbg] at hc; cases hc; exact hv))
                clear hgk hbg
                generalize hx : (⟨s.toArray⟩ : ByteArray)[k]'hkk = x at *
                have hq : vd x = true ↔ (((48 : Int) ≤ ↑x.toNat ∧ (↑x.toNat : Int) ≤ 57) ∨ (↑x.toNat : Int) = 46) := by
                  unfold vd; rw [decide_eq_true_eq]; omega
                have hqf : vd x = false ↔ ¬ (((48 : Int) ≤ ↑x.toNat ∧ (↑x.toNat : Int) ≤ 57) ∨ (↑x.toNat : Int) = 46) := by
                  rw [← hq]; simp
                have Hq := Lib.hid hq
                have Hqf := Lib.hid hqf
                clear hq hqf
                by_cases hdg : (48 : Int) ≤ ↑x.toNat ∧ (↑x.toNat : Int) ≤ 57
                · obtain ⟨hd1, hd2⟩ := hdg
                  have hs1 := Hst.out (Hq.out.2 (.inl ⟨hd1, hd2⟩))
                  go_wp2
                  go_round
                  case rel => exact ⟨k + 1, by omega, by omega, by omega, by go_num⟩
                  case measure => (simp [intOf] <;> omega)
                · by_cases hpt : (↑x.toNat : Int) = 46
                  · have hs1 := Hst.out (Hq.out.2 (.inr hpt))
                    have hlo : (↑x.toNat : Int) < 48 := by omega
                    have hpb : ((↑x.toNat : Int) == 46) = true := by rw [beq_iff_eq]; exact hpt
                    clear hpt hdg
                    go_wp2
                    go_round
                    case rel => exact ⟨k + 1, by omega, by omega, by omega, by go_num⟩
                    case measure => (simp [intOf] <;> omega)
                  · have hs1 := Hsp.out (Hqf.out.2 (by omega))
                    have hpb : ((↑x.toNat : Int) == 46) = false := by rw [beq_eq_false_iff_ne]; exact hpt
                    have hs2 : lead vd (List.drop (p + 1) s) ≤ k - (p + 1) := by omega
                    obtain ⟨hv1, hv2⟩ := vver_of s (p + 1) k s.length HD.out rfl hk1 hk3 hs2
                    have HV1 := Lib.hid hv1
                    have HV2 := Lib.hid hv2
                    clear hs1 hpt hv1 hv2
                    by_cases hlo : (↑x.toNat : Int) < 48
                    · go_wp2
                      go_ret2
                      rw [HR.out]
                      exact ⟨ret_sb HV1.out (by rw [← HV2.out]; rw [Bool.eq_iff_iff]; simp), hb1⟩
                    · have hhi : (57 : Int) < ↑x.toNat := by omega
                      clear hlo
                      go_wp2
                      go_ret2
                      rw [HR.out]
                      exact ⟨ret_sb HV1.out (by rw [← HV2.out]; rw [Bool.eq_iff_iff]; simp), hb1⟩
              · have hll := lead_le vd (List.drop (p + 1) s)
                rw [List.length_drop] at hll
                obtain ⟨hv1, hv2⟩ := vver_of s (p + 1) k s.length HD.out rfl hk1 hk3 (by omega)
                have HV1 := Lib.hid hv1
                have HV2 := Lib.hid hv2
                clear hv1 hv2
                go_wp2
                go_ret2
                rw [HR.out]
                exact ⟨ret_sb HV1.out (by rw [← HV2.out]; rw [Bool.eq_iff_iff]; simp), hb1⟩
        · have hrm := index_room' s tMsie c1
          have HD := Lib.hid (show verAt s = (Lib.index s tMsie).toNat + 5 by unfold verAt; rw [c1]; rfl)
          have h5 : tMsie.length = 5 := rfl
          rw [h5] at hrm
          go_wp2_with fail
          refine (find_in ⟨s.toArray⟩ ⟨#[77, 83, 73, 69, 32]⟩ _ hsz (by decide) (by decide) c1).mono ?_
          rintro e w2 ⟨rfl, rfl⟩
          clear c1 h5
          have hat : Lib.index (⟨s.toArray⟩ : ByteArray).data.toList (⟨#[77, 83, 73, 69, 32]⟩ : ByteArray).data.toList = Lib.index s tMsie := rfl
          rw [hat]
          clear hat
          generalize (Lib.index s tMsie).toNat = p at *
          have z1 := Lib.index_ge s [47]
          have z2 := Lib.index_le s [47]
          go_wp2_with fail
          refine (ref25_Find ⟨s.toArray⟩ ⟨#[47]⟩ _ hsz (by decide) (by decide)).mono ?_
          rintro e w2 ⟨rfl, rfl⟩
          have hat : Lib.index (⟨s.toArray⟩ : ByteArray).data.toList (⟨#[47]⟩ : ByteArray).data.toList = Lib.index s [47] := rfl
          rw [hat]
          clear hat
          generalize Lib.index s [47] = z at *
          have hp1 : ((p : Int) + 5 == 0) = false := by rw [beq_eq_false_iff_ne]; omega
          go_wp2
          go_loop [10] (fun f => ∃ k : Nat, p + 5 ≤ k ∧ k ≤ s.length ∧ k - (p + 5) ≤ lead vd (s.drop (p + 5)) ∧ f = .int .i64 k) (fun f => s.length - (intOf f).toNat)
          case atStart => exact ⟨p + 5, by omega, by omega, by omega, by go_num⟩
          case round =>
            obtain ⟨k, hk1, hk2, hk3, rfl⟩ := hrel
            by_cases hkl : k < s.length
            · have hgk := drop_get s (p + 5) k hk1
              have hkk : k < (⟨s.toArray⟩ : ByteArray).size := by show k < s.toArray.size; simpa using hkl
              have hbg : s[k]? = some ((⟨s.toArray⟩ : ByteArray)[k]'hkk) := bs_get ⟨s.toArray⟩ k hkk
              have Hst := Lib.hid (fun (hv : vd ((⟨s.toArray⟩ : ByteArray)[k]'hkk) = true) => lead_step vd (s.drop (p + 5)) (k - (p + 5)) _ hk3 (hgk.trans hbg) hv)
              have Hsp := Lib.hid (fun (hv : vd ((⟨s.toArray⟩ : ByteArray)[k]'hkk) = false) => lead_stop vd (s.drop (p + 5)) (k - (p + 5)) hk3 (fun c hc => by rw [hgk, hbg] at hc; cases hc; exact hv))
              clear hgk hbg
              generalize hx : (⟨s.toArray⟩ : ByteArray)[k]'hkk = x at *
              have hq : vd x = true ↔ (((48 : Int) ≤ ↑x.toNat ∧ (↑x.toNat : Int) ≤ 57) ∨ (↑x.toNat : Int) = 46) := by
                unfold vd; rw [decide_eq_true_eq]; omega
              have hqf : vd x = false ↔ ¬ (((48 : Int) ≤ ↑x.toNat ∧ (↑x.toNat : Int) ≤ 57) ∨ (↑x.toNat : Int) = 46) := by
                rw [← hq]; simp
              have Hq := Lib.hid hq
              have Hqf := Lib.hid hqf
              clear hq hqf
              by_cases hdg : (48 : Int) ≤ ↑x.toNat ∧ (↑x.toNat : Int) ≤ 57
              · obtain ⟨hd1, hd2⟩ := hdg
                have hs1 := Hst.out (Hq.out.2 (.inl ⟨hd1, hd2⟩))
                go_wp2
                go_round
                case rel => exact ⟨k + 1, by omega, by omega, by omega, by go_num⟩
                case measure => (simp [intOf] <;> omega)
              · by_cases hpt : (↑x.toNat : Int) = 46
                · have hs1 := Hst.out (Hq.out.2 (.inr hpt))
                  have hlo : (↑x.toNat : Int) < 48 := by omega
                  have hpb : ((↑x.toNat : Int) == 46) = true := by rw [beq_iff_eq]; exact hpt
                  clear hpt hdg
                  go_wp2
                  go_round
                  case rel => exact ⟨k + 1, by omega, by omega, by omega, by go_num⟩
                  case measure => (simp [intOf] <;> omega)
                · have hs1 := Hsp.out (Hqf.out.2 (by omega))
                  have hpb : ((↑x.toNat : Int) == 46) = false := by rw [beq_eq_false_iff_ne]; exact hpt
                  have hs2 : lead vd (List.drop (p + 5) s) ≤ k - (p + 5) := by omega
                  obtain ⟨hv1, hv2⟩ := vver_of s (p + 5) k s.length HD.out rfl hk1 hk3 hs2
                  have HV1 := Lib.hid hv1
                  have HV2 := Lib.hid hv2
                  clear hs1 hpt hv1 hv2
                  by_cases hlo : (↑x.toNat : Int) < 48
                  · go_wp2
                    go_ret2
                    rw [HR.out]
                    exact ⟨ret_sb HV1.out (by rw [← HV2.out]; rw [Bool.eq_iff_iff]; simp), hb1⟩
                  · have hhi : (57 : Int) < ↑x.toNat := by omega
                    clear hlo
                    go_wp2
                    go_ret2
                    rw [HR.out]
                    exact ⟨ret_sb HV1.out (by rw [← HV2.out]; rw [Bool.eq_iff_iff]; simp), hb1⟩
            · have hll := lead_le vd (List.drop (p + 5) s)
              rw [List.length_drop] at hll
              obtain ⟨hv1, hv2⟩ := vver_of s (p + 5) k s.length HD.out rfl hk1 hk3 (by omega)
              have HV1 := Lib.hid hv1
              have HV2 := Lib.hid hv2
              clear hv1 hv2
              go_wp2
              go_ret2
              rw [HR.out]
              exact ⟨ret_sb HV1.out (by rw [← HV2.out]; rw [Bool.eq_iff_iff]; simp), hb1⟩
    · have HR := Lib.hid (HG2.out.trans (vagent_browser s key.data.toList (by rw [← Lib.toList_data]; exact k1)))
      clear HG2
      rcases c1 : Lib.contains s tMsie with _ | _
      · have C1 := Lib.hid c1
        go_wp2_with fail
        refine (find_out ⟨s.toArray⟩ ⟨#[77, 83, 73, 69, 32]⟩ _ hsz (by decide) (by decide) c1).mono ?_
        rintro e w2 ⟨rfl, rfl⟩
        clear c1
        go_wp2_with fail
        refine (ref25_Find ⟨s.toArray⟩ ⟨#[77, 111, 122, 105, 108, 108, 97, 47]⟩ _ hsz (by decide) (by decide)).mono ?_
        rintro e w2 ⟨rfl, rfl⟩
        have hz := index_zero s tMozilla (by decide)
        have hat : Lib.index (⟨s.toArray⟩ : ByteArray).data.toList (⟨#[77, 111, 122, 105, 108, 108, 97, 47]⟩ : ByteArray).data.toList = Lib.index s tMozilla := rfl
        rw [hat]
        clear hat
        rcases c2 : Lib.hasPrefix s tMozilla with _ | _
        · have C2 := Lib.hid c2
          rw [c2] at hz
          clear c2
          go_wp2
          go_ret2
          rw [HR.out]
          exact ⟨by simp [vbrowser, C1.out, C2.out], hb1⟩
        · have C2 := Lib.hid c2
          rw [c2] at hz
          clear c2
          go_wp2
          go_ret2
          rw [HR.out]
          exact ⟨by simp [vbrowser, C1.out, C2.out], hb1⟩
      · have C1 := Lib.hid c1
        go_wp2_with fail
        refine (find_in ⟨s.toArray⟩ ⟨#[77, 83, 73, 69, 32]⟩ _ hsz (by decide) (by decide) c1).mono ?_
        rintro e w2 ⟨rfl, rfl⟩
        clear c1
        go_wp2
        go_ret2
        rw [HR.out]
        exact ⟨by simp [vbrowser, C1.out], hb1⟩
end Go.Proofs.YtgpeehilemidlaaGreatDoor
