/- Walks of the reference's layer 1. -/
import Derived.Test.YtoipnaoijccokaaGreatDoorRefLetter
import Derived.Test.YtoipnaoijccokaaGreatDoorRefLower
namespace Go.Proofs.YtoipnaoijccokaaGreatDoor
open Go.RowKit
set_option linter.unusedVariables false

theorem trim_data (s : ByteArray) (a b : Nat) (ha : a = lead ws s.data.toList) (hab : a ≤ b) (hb : b ≤ s.size)
    (h1 : ∀ j c, b ≤ j → s.data.toList[j]? = some c → ws c = true) (h2 : a < b → ∀ c, s.data.toList[b - 1]? = some c → ws c = false) :
    (s.extract a b).data.toList = trim s.data.toList := by
  rw [ext_data, trim_of s.data.toList a b ha hab (by rw [bs_size]; exact hb) h1 h2]

/-- From place b on there are blanks alone. -/
def Tail (s : ByteArray) (b : Nat) : Prop := ∀ j c, b ≤ j → s.data.toList[j]? = some c → ws c = true
theorem tail_end (s : ByteArray) : Tail s s.size := fun j c hj h => by
  rw [List.getElem?_eq_none (by rw [bs_size]; exact hj)] at h; cases h
theorem tail_step (s : ByteArray) (b : Nat) (hb : b < s.size) (h : Tail s (b + 1)) (hw : ws s[b] = true) : Tail s b := fun j c hj hc => by
  by_cases e : j = b
  · subst e; rw [bs_get s j hb] at hc; cases hc; exact hw
  · exact h j c (by omega) hc
theorem lead_end (p : UInt8 → Bool) (s : ByteArray) (k : Nat) (hk : k ≤ lead p s.data.toList) (h : ∀ hlt : k < s.size, p s[k] = false) : lead p s.data.toList ≤ k := by
  refine Nat.le_of_eq (lead_stop p _ k hk fun c hc => ?_).symm
  have hlt : k < s.size := by rw [← bs_size]; exact (List.getElem?_eq_some_iff.1 hc).1
  rw [bs_get s k hlt] at hc; cases hc; exact h hlt

theorem ref01_Trim (s : ByteArray) (w : World) (hs : s.size ≤ 9223372036854775807) :
    Calls Tryz.prog 63 #[.string s] w fun e w' => e = .returned (.string ⟨(trim s.data.toList).toArray⟩) ∧ w = w' := by
  go_enter Tryz.func63, Tryz.ntmps63
  go_wp2
  go_loop [3] (fun f => ∃ k : Nat, k ≤ lead ws s.data.toList ∧ f = .int .i64 k) (fun f => s.size - (intOf f).toNat)
  case atStart => exact ⟨0, Nat.zero_le _, rfl⟩
  case round =>
    obtain ⟨k, hk, rfl⟩ := hrel
    have hl : lead ws s.data.toList ≤ s.size := by rw [← bs_size]; exact lead_le _ _
    go_wp2
    · have hlt : k < s.size := by assumption
      go_round
      case rel => exact ⟨k + 1, lead_step ws _ k s[k] hk (bs_get s k hlt) (by simp only [ws, decide_eq_true_eq]; omega), by go_num⟩
      case measure => simp [intOf]; omega
    · have hlt : k < s.size := by assumption
      have hor : ((↑s[k].toNat : Int) == 32) = true ∨ ((↑s[k].toNat : Int) == 9) = true := by assumption
      simp only [beq_iff_eq] at hor
      go_round
      case rel => exact ⟨k + 1, lead_step ws _ k s[k] hk (bs_get s k hlt) (by simp only [ws, decide_eq_true_eq]; omega), by go_num⟩
      case measure => simp [intOf]; omega
    all_goals
      have hend : lead ws s.data.toList ≤ k := lead_end ws s k hk (by
        first
        | (intro hlt; exact absurd hlt (by assumption))
        | (intro hlt
           have hor : ((↑s[k].toNat : Int) == 32) = false ∧ ((↑s[k].toNat : Int) == 9) = false := by assumption
           simp only [beq_eq_false_iff_ne] at hor
           simp only [ws, decide_eq_false_iff_not]; omega))
      go_loop [4] (fun t => ∃ b : Nat, k ≤ b ∧ b ≤ s.size ∧ Tail s b ∧ t = .int .i64 b) (fun t => (intOf t).toNat)
      case atStart => exact ⟨s.size, by omega, Nat.le_refl _, tail_end s, rfl⟩
      case round =>
        obtain ⟨b, hkb, hbs, htl, rfl⟩ := hrel
        by_cases hlt : k < b
        · obtain ⟨c, rfl⟩ : ∃ c, b = c + 1 := ⟨b - 1, by omega⟩
          go_wp2
          all_goals first
            | (have hc : c < s.size := by assumption
               have hw : ws s[c] = true := by
                 first
                 | (have h32 : (↑s[c].toNat : Int) = 32 := by assumption
                    simp only [ws, decide_eq_true_eq]; omega)
                 | (have hor : ((↑s[c].toNat : Int) == 32) = true ∨ ((↑s[c].toNat : Int) == 9) = true := by assumption
                    simp only [beq_iff_eq] at hor
                    simp only [ws, decide_eq_true_eq]; omega)
               go_round
               case rel => exact ⟨c, by omega, by omega, tail_step s c hc htl hw, rfl⟩
               case measure => simp [intOf])
            | (have hc : c < s.size := by assumption
               have hor : ((↑s[c].toNat : Int) == 32) = false ∧ ((↑s[c].toNat : Int) == 9) = false := by assumption
               simp only [beq_eq_false_iff_ne] at hor
               have hw : ws s[c] = false := by simp only [ws, decide_eq_false_iff_not]; omega
               go_ret
               exact ⟨ret_str (trim_data s k (c + 1) (by omega) (by omega) hbs htl (fun _ x hx => by
                 rw [Nat.add_sub_cancel, bs_get s c hc] at hx; cases hx; exact hw)), rfl⟩)
        · go_wp2
          go_ret
          exact ⟨ret_str (trim_data s k b (by omega) hkb hbs htl (fun h => absurd h hlt)), rfl⟩
end Go.Proofs.YtoipnaoijccokaaGreatDoor

/- Walks of the reference's layer 1: sameness. -/
namespace Go.Proofs.YtoipnaoijccokaaGreatDoor
open Go.RowKit
set_option linter.unusedVariables false

theorem ref01_Same (a b : ByteArray) (w : World) (ha : a.size ≤ 140737488351232) (hb : b.size ≤ 140737488351232) :
    Calls Tryz.prog 64 #[.string a, .string b] w (Ret w (.bool (same a.data.toList b.data.toList))) := by
  go_enter Tryz.func64, Tryz.ntmps64
  go_wp2_with fail
  refine (ref01_Lower a _ ha).mono ?_
  rintro e w1 ⟨rfl, hb1⟩
  go_wp2_with fail
  refine (ref01_Lower b _ hb).mono ?_
  rintro e w2 ⟨rfl, hb2⟩
  go_wp2_with fail
  go_ret
  exact ⟨ret_bool (by simp [same]), hb1.trans (hb2.mono hb1.size)⟩
end Go.Proofs.YtoipnaoijccokaaGreatDoor
