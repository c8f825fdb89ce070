/- The law's digits: a number's text. -/
import Derived.Test.YtehdeclpighdeaaGreatDoorKTruthW3
namespace Go.Proofs.YtehdeclpighdeaaGreatDoor
open Go.RowKit
set_option linter.unusedVariables false
theorem fold_ten (s : Bs) : ∀ acc : Nat, s.foldl (fun m c => 10 * m + (c.toNat - 48)) acc = acc * 10 ^ s.length + numV s := by
  induction s with
  | nil => intro acc; simp [numV]
  | cons c r ih =>
    intro acc
    have e : numV (c :: r) = (10 * 0 + (c.toNat - 48)) * 10 ^ r.length + numV r := by unfold numV; rw [List.foldl_cons, ih]; rfl
    rw [List.foldl_cons, ih, e, List.length_cons, Nat.pow_succ, Nat.mul_zero, Nat.zero_add, Nat.add_mul]
    have : 10 * acc * 10 ^ r.length = acc * (10 ^ r.length * 10) := by rw [Nat.mul_comm 10 acc, Nat.mul_assoc, Nat.mul_comm 10]
    omega
theorem numV_cons (c : UInt8) (r : Bs) : numV (c :: r) = (c.toNat - 48) * 10 ^ r.length + numV r := by
  have := fold_ten r (10 * 0 + (c.toNat - 48))
  unfold numV at this ⊢
  rw [List.foldl_cons, this]; simp
structure DigS (N m : Nat) (s : Bs) : Prop where
  sum : N = m * 10 ^ s.length + numV s
  dig : s.all dig = true
  len : s.length ≤ 10
  pos : s ≠ [] → 0 < m → s.length ≤ 9
  none : m = 0 → N = 0 ∨ s ≠ []
theorem pow_10 : ∀ k : Nat, 10 ≤ k → 10000000000 ≤ 10 ^ k := fun k hk => by
  have : 10 ^ 10 ≤ 10 ^ k := Nat.pow_le_pow_right (by decide) hk
  exact this
theorem DigS.start (N : Nat) : DigS N N [] := ⟨by simp [numV], rfl, by simp, fun h => (h rfl).elim, fun h => .inl h⟩
theorem DigS.next {N m : Nat} {s : Bs} (h : DigS N m s) (hN : N ≤ 4294967296) (hm : s = [] ∨ 0 < m) : DigS N (m / 10) (UInt8.ofNat (48 + m % 10) :: s) := by
  have hl9 : s.length ≤ 9 := by
    rcases hm with rfl | hm
    · simp
    · by_cases hs : s = []
      · subst hs; simp
      · exact h.pos hs hm
  have hc : (UInt8.ofNat (48 + m % 10)).toNat = 48 + m % 10 := by rw [UInt8.toNat_ofNat']; omega
  have hsum : N = m / 10 * 10 ^ (s.length + 1) + ((48 + m % 10 - 48) * 10 ^ s.length + numV s) := by
    have h1 := h.sum
    have h2 : m = 10 * (m / 10) + m % 10 := by omega
    have h3 : m * 10 ^ s.length = m / 10 * (10 ^ s.length * 10) + (m % 10) * 10 ^ s.length := by
      conv => lhs; rw [h2]
      rw [Nat.add_mul, Nat.mul_comm 10 (m / 10), Nat.mul_assoc, Nat.mul_comm 10]
    rw [Nat.pow_succ, show 48 + m % 10 - 48 = m % 10 by omega]; omega
  refine ⟨by rw [numV_cons, hc, List.length_cons]; exact hsum, ?_, by rw [List.length_cons]; omega, fun _ hp => ?_, fun _ => .inr (by simp)⟩
  · rw [List.all_cons, h.dig, Bool.and_true]
    unfold Go.Proofs.YtehdeclpighdeaaGreatDoor.dig
    rw [hc]; exact decide_eq_true (by omega)
  · rw [List.length_cons]
    by_cases h9 : s.length + 1 ≤ 9
    · exact h9
    · exfalso
      have h1 := pow_10 (s.length + 1) (by omega)
      have h2 : 10 ^ (s.length + 1) ≤ m / 10 * 10 ^ (s.length + 1) := Nat.le_mul_of_pos_left _ hp
      omega
def RetDig (w : World) (N : Nat) : Ending → World → Prop := fun e w' => ∃ R : Bs, e = .returned (.string ⟨R.toArray⟩) ∧ DigS N 0 R ∧ R ≠ [] ∧ Below w.heap.size w w'
set_option maxRecDepth 100000 in
set_option maxHeartbeats 4000000 in
theorem law28_digits (N : Nat) (hN : N ≤ 4294967296) (w : World) : Calls Tryz.prog 35 #[.int .i64 (N : Int)] w (RetDig w N) := by
  have HB0 := Lib.hid (Below.refl w.heap.size w)
  go_enter Tryz.func35, Tryz.ntmps35
  go_upto_region 2 with fail
  go_loopw [0, 3] (fun nv sv wr => ∃ (m : Nat) (s : Bs), nv = .int .i64 (m : Int) ∧ sv = .string ⟨s.toArray⟩ ∧ m ≤ 4294967296 ∧ s.length ≤ 10 ∧ Hid ((s = [] ∨ 0 < m) ∧ DigS N m s ∧ Below w.heap.size w wr)) (fun nv _ _ => (intOf nv).toNat)
  case atStart => exact ⟨N, [], rfl, rfl, hN, by simp, Lib.hid ⟨.inl rfl, DigS.start N, HB0.out⟩⟩
  case round =>
    obtain ⟨m, s, rfl, rfl, hm4, hs10, HR⟩ := hrel
    have HS := Lib.hid (HR.out.2.1.next hN HR.out.1)
    have i0 : (0 : Int) ≤ (m : Int) := by omega
    obtain ⟨B, hB⟩ : ∃ B, UInt8.ofNat (48 + m % 10) = B := ⟨_, rfl⟩
    have HBT := Lib.hid (show 48 + (m : Int) % 10 = (B.toNat : Int) by
      rw [← hB, UInt8.toNat_ofNat']; omega)
    rw [hB] at HS
    have hcv := conv_one wr B (48 + (m : Int) % 10) HBT.out
    have HA := Lib.hid (HR.out.2.2.alloc HR.out.2.2.size (.cells #[.int .u8 (48 + (m : Int) % 10)] 5))
    clear hB
    go_upto_region 4 with fail
    clear hcv
    generalize wr.alloc (.cells #[.int .u8 (48 + (m : Int) % 10)] 5) = wq at *
    rw [sh_app [B] s]
    obtain ⟨M, hM⟩ : ∃ M, m / 10 = M := ⟨_, rfl⟩
    rw [hM] at HS
    have hM2 : (m : Int) / 10 = (M : Int) := by omega
    rw [hM2]
    have hM4 : M ≤ 4294967296 := by omega
    have HMM := Lib.hid hM
    clear hM hM2 hs10 i0
    rcases Decidable.em (M = 0) with rfl | h0
    · go_wp2_with fail
      go_ret
      exact ⟨_, rfl, HS.out, by simp, HA.out⟩
    · have q0 : ((M : Int) == 0) = false := beq_eq_false_iff_ne.2 (by omega)
      have q1 : ((M : Int) = 0) = False := by simp; omega
      have hlt : M < m := by have := HMM.out; omega
      have HD := Lib.hid h0
      clear h0
      go_wp2_with fail
      go_roundw
      case rel => exact ⟨M, B :: s, rfl, rfl, hM4, HS.out.len, Lib.hid ⟨.inr (by have := HD.out; omega), HS.out, HA.out⟩⟩
      case measure => (simp [intOf] <;> omega)
end Go.Proofs.YtehdeclpighdeaaGreatDoor
