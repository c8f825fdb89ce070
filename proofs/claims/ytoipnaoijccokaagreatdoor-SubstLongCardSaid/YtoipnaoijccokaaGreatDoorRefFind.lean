/- Walks of the reference's Find and Pieces. -/
import Derived.Test.YtoipnaoijccokaaGreatDoorLib
import Derived.Test.YtoipnaoijccokaaGreatDoorPlain
namespace Go.Proofs.YtoipnaoijccokaaGreatDoor
open Go.RowKit
set_option linter.unusedVariables false

set_option maxHeartbeats 400000 in
theorem ref25_Find (s t : ByteArray) (w : World) (hs : s.size ≤ 140737488351232) (ht : t.size ≤ 140737488351232) (h1 : 1 ≤ t.size) :
    Calls Tryz.prog 61 #[.string s, .string t] w fun e w' => e = .returned (.int .i64 (Lib.index s.data.toList t.data.toList)) ∧ w = w' := by
  go_enter Tryz.func61, Tryz.ntmps61
  go_wp2
  go_loop [5] (fun f => ∃ k : Nat, k ≤ s.size ∧ f = .int .i64 k ∧ Hid (Lib.NoOccB s t k)) (fun f => s.size + 1 - (intOf f).toNat)
  case atStart => exact ⟨0, Nat.zero_le _, rfl, Lib.hid (Lib.NoOcc.zero _ _)⟩
  case round =>
    obtain ⟨k, hk, rfl, hno⟩ := hrel
    by_cases hlt : k + t.size ≤ s.size
    · rcases hq : ((s.extract k (k + t.size)).toList == t.toList) with _ | _
      · have Hq := Lib.hid hq
        go_wp2
        go_round
        case rel => exact ⟨k + 1, by omega, by go_num, Lib.hid (Lib.miss_piece s t k hno.out hlt Hq.out)⟩
        case measure => (simp [intOf] <;> omega)
      · have Hq := Lib.hid hq
        go_wp2
        go_ret
        exact ⟨ret_int (Lib.hit s t k hno.out hlt Hq.out).symm, rfl⟩
    · go_wp2
      go_ret
      exact ⟨ret_int (Lib.past s t k hno.out h1 (by omega)).symm, rfl⟩

theorem bs_get_eq {s : ByteArray} {k : Nat} (h : k < s.size) {c : UInt8} (e : s[k] = c) : s.data.toList[k]? = some c := by rw [bs_get s k h, e]

set_option maxRecDepth 100000 in
set_option maxHeartbeats 400000 in
theorem ref25_Pieces (s : ByteArray) (c : UInt8) (n : Int) (w : World) (hn : n = (c.toNat : Int)) (hs : s.size < 4294967281) :
    Calls Tryz.prog 62 #[.string s, .int .u8 n] w (RetStrs w (pieces c s.data.toList)) := by
  have Hn := Lib.hid hn
  clear hn
  go_enter Tryz.func62, Tryz.ntmps62
  go_wp2
  go_loopw [5, 6, 7] (fun v f i wr => ∃ (k a : Nat) (done : List Bs), k ≤ s.size + 1 ∧ i = .int .i64 k ∧ f = .int .i64 a ∧ PState s.data.toList c done a k ∧ wr.ownsRow w.heap.size 9 1 v done.length (scells done) ∧ Below w.heap.size w wr) (fun _ _ i _ => s.size + 1 - (intOf i).toNat)
  case atStart => exact ⟨0, 0, [], by omega, rfl, rfl, pstate_start _ _, World.ownsRow_nil _ _ _ _, Below.refl _ _⟩
  case round =>
    obtain ⟨k, a, done, hk, rfl, rfl, hp, hown, hbel⟩ := hrel
    have hsz := hbel.size
    by_cases hle : k ≤ s.size
    · by_cases hlt : k < s.size
      · have hke : ((k : Int) == (s.size : Int)) = false := by rw [beq_eq_false_iff_ne]; omega
        by_cases hc : s[k] = c
        · obtain ⟨hp', hak, hdk⟩ := pstate_hit hp (bs_get_eq hlt hc)
          have hcn : ((↑s[k].toNat : Int) == n) = true := by rw [Hn.out, hc]; simp
          have hex : (s.extract a k).data.toList = (s.data.toList.drop a).take (k - a) := ext_data s a k
          have Hex := Lib.hid (bs_ext hex)
          clear hex hp hc
          go_wp2_with (at_builtin; refine wpList_app1 rfl _ _ 95 rfl 9 (.string ⟨#[]⟩) 1 16 u95 info9 rfl (by decide) w.heap.size _ _ _ _ rfl hown [.string (s.extract a k)] rfl rfl rfl (by simp [Value.oneCell']) (by omega) (by omega) (by omega) ?_; intro g cap w3 hown3 hb3 hsz3)
          go_roundw
          case rel =>
            refine ⟨k + 1, k + 1, _, by omega, by go_num, by go_num, hp', ?_, hbel.trans hb3⟩
            rw [scells_snoc, List.length_append, ← Hex.out]
            exact hown3
          case measure => (simp [intOf] <;> omega)
        · have hp' := pstate_skip hp (bs_get s k hlt) hc
          have hcn : ((↑s[k].toNat : Int) == n) = false := by
            rw [beq_eq_false_iff_ne, Hn.out]; intro e; exact hc (u8eq.2 (by omega))
          go_wp2
          go_roundw
          case rel => exact ⟨k + 1, a, done, by omega, by go_num, rfl, hp', hown, hbel⟩
          case measure => (simp [intOf] <;> omega)
      · obtain rfl : k = s.size := by omega
        have hp0 : PState s.data.toList c done a s.data.toList.length := by rw [bs_size]; exact hp
        obtain ⟨hp', hak, hdk⟩ := pstate_last hp0
        rw [bs_size] at hp' hak hdk
        have hke : ((s.size : Int) == (s.size : Int)) = true := by simp
        have hex : (s.extract a s.size).data.toList = (s.data.toList.drop a).take (s.size - a) := ext_data s a s.size
        have Hex := Lib.hid (bs_ext hex)
        clear hex hp hp0
        go_wp2_with (at_builtin; refine wpList_app1 rfl _ _ 95 rfl 9 (.string ⟨#[]⟩) 1 16 u95 info9 rfl (by decide) w.heap.size _ _ _ _ rfl hown [.string (s.extract a s.size)] rfl rfl rfl (by simp [Value.oneCell']) (by omega) (by omega) (by omega) ?_; intro g cap w3 hown3 hb3 hsz3)
        go_roundw
        case rel =>
          refine ⟨s.size + 1, s.size + 1, _, by omega, by go_num, by go_num, hp', ?_, hbel.trans hb3⟩
          rw [scells_snoc, List.length_append, ← Hex.out]
          exact hown3
        case measure => (simp [intOf] <;> omega)
    · obtain ⟨hd, _⟩ := pstate_end hp (by rw [bs_size]; omega)
      have Hd := Lib.hid hd
      clear hd hp
      go_wp2
      go_ret
      refine ⟨_, rfl, ?_, hbel⟩
      rw [← Hd.out]; exact hown
end Go.Proofs.YtoipnaoijccokaaGreatDoor
