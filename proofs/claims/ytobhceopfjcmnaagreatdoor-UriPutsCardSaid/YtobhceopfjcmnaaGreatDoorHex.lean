/- The walk of ParseUint at two hexadecimal digits. -/
import Derived.Test.YtobhceopfjcmnaaGreatDoorUriEsc
import Derived.Lib.ConvBytes
import Derived.Lib.AtoiErrMem
import Derived.Laws.Closers25b
namespace Go.Proofs.YtobhceopfjcmnaaGreatDoor
open Go.RowKit
set_option linter.unusedVariables false

theorem low_bits : ∀ n : Nat, n < 256 → bits .or .u8 (n : Int) 32 = ((n ||| 32 : Nat) : Int) := by decide +kernel
theorem low_hex : ∀ n : Nat, n < 256 → (97 ≤ n ∧ n ≤ 102 ∨ 65 ≤ n ∧ n ≤ 70) → 97 ≤ (n ||| 32) ∧ (n ||| 32) ≤ 102 ∧ (n ||| 32) - 87 = (if 97 ≤ n then n - 87 else n - 55) := by decide +kernel
/-- A hexadecimal digit is a digit, or a letter. -/
theorem hex_cases {c : UInt8} (h : hexc c = true) : (48 ≤ (c.toNat : Int) ∧ (c.toNat : Int) ≤ 57 ∧ (hexv c : Int) = c.toNat - 48) ∨
    (57 < (c.toNat : Int) ∧ ((c.toNat : Int) == 95) = false ∧ ∃ lw : Int, bits .or .u8 (c.toNat : Int) 32 = lw ∧ 97 ≤ lw ∧ lw ≤ 102 ∧ (hexv c : Int) = lw - 87) := by
  unfold hexc at h
  have h1 := of_decide_eq_true h
  unfold hexv
  by_cases h2 : c.toNat ≤ 57
  · rw [if_pos h2]; left; omega
  · rw [if_neg h2]
    right
    have h3 := low_hex c.toNat c.toNat_lt (by omega)
    refine ⟨by omega, by rw [beq_eq_false_iff_ne]; omega, _, low_bits c.toNat c.toNat_lt, by omega, by omega, ?_⟩
    rw [← h3.2.2]; omega
def valAt (a b : UInt8) : Nat → Int
  | 0 => 0
  | 1 => (hexv a : Int)
  | _ => 16 * (hexv a : Int) + (hexv b : Int)
theorem val_step (a b : UInt8) (ha : hexc a = true) (hb : hexc b = true) (k : Nat) (hk : k < 2) :
    ∃ c, [a, b].getD k 0 = c ∧ hexc c = true ∧ 0 ≤ valAt a b k ∧ valAt a b k ≤ 15 ∧ valAt a b (k + 1) = valAt a b k * 16 + (hexv c : Int) := by
  have hl := hexv_lt ha
  rcases Nat.lt_or_ge k 1 with h | h
  · obtain rfl : k = 0 := by omega
    exact ⟨a, rfl, ha, by show (0 : Int) ≤ 0; omega, by show (0 : Int) ≤ 15; omega, by show (hexv a : Int) = 0 * 16 + _; omega⟩
  · obtain rfl : k = 1 := by omega
    exact ⟨b, rfl, hb, by show (0 : Int) ≤ (hexv a : Int); omega, by show (hexv a : Int) ≤ 15; omega, by show 16 * (hexv a : Int) + _ = (hexv a : Int) * 16 + _; omega⟩

theorem lib_lower (c : Int) (w : World) :
    Calls Tryz.prog 152 #[.int .u8 c] w fun e w' => e = .returned (.int .u8 (bits .or .u8 c 32)) ∧ w = w' := by
  go_enter Tryz.func152, Tryz.ntmps152
  go_wp2
  go_ret
  exact ⟨rfl, rfl⟩

set_option maxRecDepth 100000 in
set_option maxHeartbeats 1000000 in
theorem int_ParseHex (a b : UInt8) (ha : hexc a = true) (hb : hexc b = true) (w : World) :
    Calls Tryz.prog 134 #[.string ⟨[a, b].toArray⟩, .int .i64 16, .int .i64 8] w (Ret w (.tuple #[.int .u64 (valAt a b 2), .nilIface])) := by
  have hcv := Lib.run_convert_string_bytes (P := Tryz.prog) w 9 31 5 ⟨[a, b].toArray⟩ u9 u31 u5
  have hB : ∀ j, j < 2 → (Lib.bytesWorld w 5 ⟨[a, b].toArray⟩).cell? ⟨w.heap.size, j, none⟩ = some (.int .u8 ([a, b].getD j 0).toNat) := fun j hj => Lib.bytesWorld_cell w 5 ⟨[a, b].toArray⟩ j hj
  have HBel := Lib.hid (Lib.bytesWorld_below w 5 ⟨[a, b].toArray⟩)
  have HV := Lib.hid (val_step a b ha hb)
  obtain ⟨W1, hW1⟩ : ∃ W1, W1 = Lib.bytesWorld w 5 ⟨[a, b].toArray⟩ := ⟨_, rfl⟩
  rw [← hW1] at hcv hB HBel
  clear hW1 ha hb
  have hmv : IntKind.u64.wrap (IntKind.u64.wrap 256 - 1) = 255 := by
    rw [IntKind.wrap_u64, IntKind.wrap_u64]
    decide
  have HB := Lib.hid hB
  clear hB
  go_enter Tryz.func134, Tryz.ntmps134
  go_wp2_with fail
  go_loop [12, 13, 101] (fun vu vn vi => ∃ k : Nat, vu = .bool false ∧ vi = .int .i64 k ∧ k ≤ 2 ∧ vn = .int .u64 (valAt a b k)) (fun _ _ vi => 2 - (intOf vi).toNat)
  case atStart => exact ⟨0, rfl, rfl, by omega, rfl⟩
  case round =>
    obtain ⟨k, rfl, rfl, hk, rfl⟩ := hrel
    by_cases hkn : k < 2
    · have hc := HB.out k hkn
      obtain ⟨c, h1, h2, h3, h4, h5⟩ := HV.out k hkn
      rw [h1] at hc
      clear h1
      have H5 := Lib.hid h5
      clear h5
      have hc256 : c.toNat < 256 := c.toNat_lt
      generalize valAt a b k = v at *
      rcases hex_cases h2 with ⟨d1, d2, d3⟩ | ⟨d1, d0, lw, d2, d3, d4, d5⟩
      · have D3 := Lib.hid d3
        clear d3 h2
        go_wp2_with fail
        go_round
        case rel => exact ⟨k + 1, rfl, by go_num, by omega, by rw [H5.out, D3.out]⟩
        case measure => simp [intOf]; omega
      · have D3 := Lib.hid d5
        have D2 := Lib.hid d2
        clear d5 h2 d2
        go_wp2_with fail
        refine (lib_lower _ _).mono ?_
        rintro e w' ⟨rfl, rfl⟩
        rw [D2.out]
        go_wp2_with fail
        refine (lib_lower _ _).mono ?_
        rintro e w' ⟨rfl, rfl⟩
        rw [D2.out]
        go_wp2_with fail
        refine (lib_lower _ _).mono ?_
        rintro e w' ⟨rfl, rfl⟩
        rw [D2.out]
        go_wp2_with fail
        go_round
        case rel => exact ⟨k + 1, rfl, by go_num, by omega, by rw [H5.out, D3.out]; go_num⟩
        case measure => simp [intOf]; omega
    · obtain rfl : k = 2 := by omega
      generalize valAt a b 2 = v at *
      go_wp2_with fail
      go_ret2
      exact ⟨rfl, HBel.out⟩

set_option maxRecDepth 100000 in
theorem lib_ParseHex (a b : UInt8) (ha : hexc a = true) (hb : hexc b = true) (w : World) :
    Calls Tryz.prog 106 #[.string ⟨[a, b].toArray⟩, .int .i64 16, .int .i64 8] w (Ret w (.tuple #[.int .u64 (valAt a b 2), .nilIface])) := by
  have H := Lib.hid (int_ParseHex a b ha hb w)
  generalize valAt a b 2 = v at *
  clear ha hb
  go_enter Tryz.func106, Tryz.ntmps106
  go_wp2_with fail
  refine H.out.mono ?_
  rintro e w1 ⟨rfl, hb1⟩
  have HB1 := Lib.hid hb1
  clear hb1
  go_wp2_with fail
  go_ret2
  exact ⟨rfl, HB1.out⟩
end Go.Proofs.YtobhceopfjcmnaaGreatDoor
