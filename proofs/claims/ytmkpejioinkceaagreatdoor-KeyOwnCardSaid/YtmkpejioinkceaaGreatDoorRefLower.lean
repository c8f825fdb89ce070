/- The walk of the reference's small letters. -/
import Derived.Test.YtmkpejioinkceaaGreatDoorBase
namespace Go.Proofs.YtmkpejioinkceaaGreatDoor
open Go.RowKit
set_option linter.unusedVariables false

theorem lower_take (s : ByteArray) (k : Nat) (h : k < s.size) : (lower s.data.toList).take (k + 1) = (lower s.data.toList).take k ++ [lowc s[k]] := by
  rw [List.take_add_one, lower, List.getElem?_map, bs_get s k h]; rfl
set_option maxRecDepth 100000 in
set_option maxHeartbeats 400000 in
theorem ref01_Lower (s : ByteArray) (w : World) (hs : s.size ≤ 140737488351232) :
    Calls Tryz.prog 59 #[.string s] w (Ret w (.string ⟨(lower s.data.toList).toArray⟩)) := by
  go_enter Tryz.func59, Tryz.ntmps59
  go_wp2
  go_loopw [3, 4, 5] (fun b i c wr => ∃ k : Nat, k ≤ s.size ∧ i = .int .i64 k ∧ wr.ownsRow w.heap.size 5 1 b k (bcells ((lower s.data.toList).take k)) ∧ Below w.heap.size w wr) (fun _ i _ _ => s.size - (intOf i).toNat)
  case atStart => exact ⟨0, Nat.zero_le _, rfl, World.ownsRow_nil _ _ _ _, Below.refl _ _⟩
  case round =>
    obtain ⟨k, hk, rfl, hown, hb⟩ := hrel
    have hsz := hb.size
    by_cases hlt : k < s.size
    · have Hst := Lib.hid (lower_take s k hlt)
      by_cases hup : (65 : Int) ≤ ↑s[k].toNat ∧ (↑s[k].toNat : Int) ≤ 90
      · obtain ⟨h65, h90⟩ := hup
        have Hl := Lib.hid (lowc_up s[k] h65 h90)
        go_wp2_with (at_builtin; refine wpList_app1 rfl _ _ 71 rfl 5 (.int .u8 0) 1 1 Go.Proofs.YtmkpejioinkceaaGreatDoor.u71 info5 rfl (by decide) w.heap.size _ _ _ _ rfl hown [.int .u8 (↑s[k].toNat + 32)] rfl rfl rfl (by simp [Value.oneCell']) (by omega) (by omega) hsz ?_; intro g cap w1 hown1 hb1 hsz1)
        go_roundw
        case rel =>
          refine ⟨k + 1, by omega, by go_num, ?_, hb.trans hb1⟩
          rw [Hst.out, bcells_snoc, Hl.out]; exact hown1
        case measure => simp [intOf]; omega
      · have Hl := Lib.hid (lowc_other s[k] hup)
        go_wp2_with (at_builtin; refine wpList_app1 rfl _ _ 71 rfl 5 (.int .u8 0) 1 1 Go.Proofs.YtmkpejioinkceaaGreatDoor.u71 info5 rfl (by decide) w.heap.size _ _ _ _ rfl hown [.int .u8 (↑s[k].toNat)] rfl rfl rfl (by simp [Value.oneCell']) (by omega) (by omega) hsz ?_; intro g cap w1 hown1 hb1 hsz1)
        all_goals
          go_roundw
          case rel =>
            refine ⟨k + 1, by omega, by go_num, ?_, hb.trans hb1⟩
            rw [Hst.out, bcells_snoc, Hl.out]; exact hown1
          case measure => simp [intOf]; omega
    · have hcv := conv_own hown
      go_wp2
      go_ret
      exact ⟨ret_str (by rw [List.take_of_length_le (by rw [lower_length, bs_size]; omega)]), hb⟩

end Go.Proofs.YtmkpejioinkceaaGreatDoor
