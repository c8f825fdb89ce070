/- The law TestNests: texts with so many brackets and nots one in another. -/
import Derived.Test.YtehdeclpighdeaaGreatDoorLawParses
namespace Go.Proofs.YtehdeclpighdeaaGreatDoor
open Go.RowKit
set_option linter.unusedVariables false

theorem brack_size (S : ByteArray) : ((⟨#[40]⟩ : ByteArray) ++ S ++ ⟨#[41]⟩).size = S.size + 2 := by
  rw [ByteArray.size_append, ByteArray.size_append]
  show 1 + S.size + 1 = _
  omega
theorem nots_size (S : ByteArray) : ((⟨#[33]⟩ : ByteArray) ++ S).size = S.size + 1 := by
  rw [ByteArray.size_append]
  show 1 + S.size = _
  omega
set_option maxRecDepth 100000 in
set_option maxHeartbeats 4000000 in
theorem law27_nests (b nn : Nat) (more : ByteArray) (w : World) (hb : b < 256) (hn : nn < 256) (hG : Good w) : Calls Tryz.prog 4 #[.int .u8 (b : Int), .int .u8 (nn : Int), .string more] w (Ret w (.bool true)) := by
  by_cases hm : more.size ≤ 100
  · have hm2 : ¬ (100 : Int) < (more.size : Int) := by omega
    have hb20 : (b : Int) % 20 = ((b % 20 : Nat) : Int) := by omega
    have hn20 : (nn : Int) % 20 = ((nn % 20 : Nat) : Int) := by omega
    have hbl : b % 20 < 20 := Nat.mod_lt _ (by decide)
    have hnl : nn % 20 < 20 := Nat.mod_lt _ (by decide)
    obtain ⟨B, hB⟩ : ∃ B, b % 20 = B := ⟨_, rfl⟩
    obtain ⟨M, hM⟩ : ∃ M, nn % 20 = M := ⟨_, rfl⟩
    rw [hB] at hb20 hbl
    rw [hM] at hn20 hnl
    clear hB hM
    go_enter Tryz.func4, Tryz.ntmps4
    go_upto_region 5 with fail
    go_loop [7, 8] (fun sv iv => ∃ (i : Nat) (S : ByteArray), i ≤ B ∧ iv = .int .i64 i ∧ sv = .string S ∧ S.size ≤ 1 + 2 * i) (fun _ iv => B - (intOf iv).toNat)
    case atStart => exact ⟨0, _, Nat.zero_le _, rfl, rfl, by decide⟩
    case round =>
      obtain ⟨i, S, hi, rfl, rfl, hS⟩ := hrel
      have hsl : S.size ≤ 41 := by omega
      by_cases hlt : i < B
      · have i1 : (i : Int) < (B : Int) := by omega
        have HSZ := Lib.hid (brack_size S)
        have HS := Lib.hid hS
        go_wp2_with fail
        go_round
        case rel => exact ⟨i + 1, _, by omega, by go_num, rfl, by rw [HSZ.out]; omega⟩
        case measure => (simp [intOf] <;> omega)
      · have i1 : ¬ (i : Int) < (B : Int) := by omega
        clear hS hlt
        go_upto_region 9 with fail
        go_loop [7, 9] (fun sv iv => ∃ (j : Nat) (S : ByteArray), j ≤ M ∧ iv = .int .i64 j ∧ sv = .string S ∧ S.size ≤ 41 + j) (fun _ iv => M - (intOf iv).toNat)
        case atStart => exact ⟨0, S, Nat.zero_le _, rfl, rfl, hsl⟩
        case round =>
          obtain ⟨j, S2, hj, rfl, rfl, hS2⟩ := hrel
          have hs2 : S2.size ≤ 61 := by omega
          by_cases hlt2 : j < M
          · have j1 : (j : Int) < (M : Int) := by omega
            have HSZ := Lib.hid (nots_size S2)
            have HS := Lib.hid hS2
            go_wp2_with fail
            go_round
            case rel => exact ⟨j + 1, _, by omega, by go_num, rfl, by rw [HSZ.out]; omega⟩
            case measure => (simp [intOf] <;> omega)
          · have j1 : ¬ (j : Int) < (M : Int) := by omega
            clear hS2 hlt2
            go_wp2_with fail
            refine (law27_parses S2 w hG).mono ?_
            rintro e w1 ⟨rfl, hb1⟩
            have HB1 := Lib.hid hb1
            have HG1 := Lib.hid (hG.next hb1)
            clear hb1
            go_wp2_with fail
            refine (law27_parses _ w1 HG1.out).mono ?_
            rintro e w2 ⟨rfl, hb2⟩
            have HB2 := Lib.hid (HB1.out.trans (hb2.mono HB1.out.size))
            have HG2 := Lib.hid (HG1.out.next hb2)
            clear hb2
            go_wp2_with fail
            refine (law27_parses _ w2 HG2.out).mono ?_
            rintro e w3 ⟨rfl, hb3⟩
            have HB3 := Lib.hid (HB2.out.trans (hb3.mono HB2.out.size))
            have HG3 := Lib.hid (HG2.out.next hb3)
            clear hb3
            go_wp2_with fail
            refine (law27_awake w3 HG3.out).mono ?_
            rintro e w4 ⟨rfl, hb4⟩
            have HB4 := Lib.hid (HB3.out.trans (hb4.mono HB3.out.size))
            clear hb4
            go_wp2_with fail
            go_ret
            exact ⟨rfl, HB4.out⟩
  · have hm2 : (100 : Int) < (more.size : Int) := by omega
    clear hm
    go_enter Tryz.func4, Tryz.ntmps4
    go_wp2_with fail
    refine (law27_awake w hG).mono ?_
    rintro e w1 ⟨rfl, hb1⟩
    go_wp2_with fail
    go_ret
    exact ⟨rfl, hb1⟩
end Go.Proofs.YtehdeclpighdeaaGreatDoor
