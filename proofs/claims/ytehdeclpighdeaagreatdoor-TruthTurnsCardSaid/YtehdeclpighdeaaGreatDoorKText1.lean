/- Walks of the program's layer 1 that the variables lean on: small letters, sameness, trimming. -/
import Derived.Test.YtehdeclpighdeaaGreatDoorKBase
import Derived.Test.YtehdeclpighdeaaGreatDoorKShelf
import Derived.Shelf.Strings.SlTrimAscii
import Derived.WalkSmall
import Derived.Lib.BufferMore
namespace Go.Proofs.YtehdeclpighdeaaGreatDoor
open Go.RowKit
set_option linter.unusedVariables false
def LowRow (w : World) (b : Nat) (s : ByteArray) (k : Nat) : Prop :=
  ∃ (C : Array Value) (m : Nat), w.heap[b]? = some (.cells C 5 (m, m + 1)) ∧ C.size = m ∧ s.size ≤ m ∧
    ∀ j (h : j < s.size), C[j]? = some (.int .u8 ((if j < k then lowc s[j] else s[j]).toNat : Int))
theorem lowRow_start (w : World) (s : ByteArray) (n : Nat) :
    LowRow (w.drew.alloc (.cells (bytesRow s n) 5 ((bytesRow s n).size, (bytesRow s n).size + 1))) w.heap.size s 0 := by
  refine ⟨bytesRow s n, _, heap_alloc_new w.drew _, rfl, ?_, ?_⟩
  · unfold bytesRow
    rw [Array.size_append, Array.size_map]
    show s.data.size ≤ _
    omega
  · intro j h
    rw [if_neg (by omega)]
    unfold bytesRow
    rw [Array.getElem?_append_left (by simpa using h)]
    simp only [Array.getElem?_map]
    have : s.data[j]? = some s[j] := by
      have := bs_get s j h
      simpa using this
    rw [this]; rfl
theorem lowRow_cell {w : World} {b : Nat} {s : ByteArray} {k : Nat} (h : LowRow w b s k) (hk : k < s.size) :
    w.cell? ⟨b, k, none⟩ = some (.int .u8 (s[k].toNat : Int)) ∧ w.frozen? ⟨b, k, none⟩ = false := by
  obtain ⟨C, m, hb, hC, hm, hc⟩ := h
  have := hc k hk
  rw [if_neg (by omega)] at this
  constructor
  · unfold World.cell?
    rw [show w.heap[(⟨b, k, none⟩ : Addr).block]? = _ from hb]
    simpa using this
  · unfold World.frozen?
    rw [show w.heap[(⟨b, k, none⟩ : Addr).block]? = _ from hb]
    simp; omega
theorem lowRow_set {w : World} {b : Nat} {s : ByteArray} {k : Nat} (h : LowRow w b s k) (hk : k < s.size) (v : Int) (hv : ((lowc s[k]).toNat : Int) = v) :
    LowRow (w.setCell ⟨b, k, none⟩ (.int .u8 v)) b s (k + 1) := by
  obtain ⟨C, m, hb, hC, hm, hc⟩ := h
  refine ⟨C.setIfInBounds k (.int .u8 v), m, Lib.heap_setCell_same hb _, by simpa using hC, hm, ?_⟩
  intro j hj
  rw [Array.getElem?_setIfInBounds]
  by_cases e : k = j
  · subst e
    rw [if_pos rfl, if_pos (by omega), if_pos (by omega), hv]
  · rw [if_neg e, hc j hj]
    by_cases h2 : j < k
    · rw [if_pos h2, if_pos (by omega)]
    · rw [if_neg h2, if_neg (by omega)]
theorem lowRow_skip {w : World} {b : Nat} {s : ByteArray} {k : Nat} (h : LowRow w b s k) (hk : k < s.size) (hv : lowc s[k] = s[k]) : LowRow w b s (k + 1) := by
  obtain ⟨C, m, hb, hC, hm, hc⟩ := h
  refine ⟨C, m, hb, hC, hm, ?_⟩
  intro j hj
  rw [hc j hj]
  by_cases e : j = k
  · subst e; rw [if_neg (by omega), if_pos (by omega), hv]
  · by_cases h2 : j < k
    · rw [if_pos h2, if_pos (by omega)]
    · rw [if_neg h2, if_neg (by omega)]
theorem lowRow_conv {w : World} {b : Nat} {s : ByteArray} {k : Nat} (h : LowRow w b s k) (hk : s.size ≤ k) (cap : Nat) :
    (convert 92 9 (.slice (some ⟨b, 0, none⟩) s.size cap)).run Tryz.prog w = .ok (.string ⟨(lower s.data.toList).toArray⟩) w := by
  obtain ⟨C, m, hb, hC, hm, hc⟩ := h
  have := run_convert_bytes_back (P := Tryz.prog) w 92 9 5 ⟨b, 0, none⟩ cap (lower s.data.toList) u92 u5 u9 (fun j hj => by
    have hj' : j < s.size := by rw [lower_length, bs_size] at hj; exact hj
    have e : ((⟨b, 0, none⟩ : Addr).add j) = ⟨b, j, none⟩ := by
      unfold Addr.add; by_cases h0 : j = 0
      · subst h0; rfl
      · rw [if_neg h0]; simp
    rw [e]
    unfold World.cell?
    rw [show w.heap[(⟨b, j, none⟩ : Addr).block]? = _ from hb]
    have h2 := hc j hj'
    rw [if_pos (by omega)] at h2
    have h3 : (lower s.data.toList)[j] = lowc s[j] := by
      have := bs_get s j hj'
      have h4 : (lower s.data.toList)[j]? = some (lowc s[j]) := by rw [lower, List.getElem?_map, this]; rfl
      rw [List.getElem?_eq_getElem hj] at h4; exact Option.some.inj h4
    rw [h3]; simpa using h2)
  rw [lower_length, bs_size] at this
  exact this
set_option maxRecDepth 100000 in
set_option maxHeartbeats 400000 in
theorem text_Lower (s : ByteArray) (w : World) (hs : s.size ≤ 140737488351232) :
    Calls Tryz.prog 176 #[.string s] w (Ret w (.string ⟨(lower s.data.toList).toArray⟩)) := by
  have hconv := fun (w : World) => run_bytes_of_string (P := Tryz.prog) w 9 92 5 s u9 u92 u5
  go_enter Tryz.func176, Tryz.ntmps176
  go_wp2
  have hst := lowRow_start w s (grownCap w s.size 0 5)
  go_loopw [9] (fun i wr => ∃ k : Nat, k ≤ s.size ∧ i = .int .i64 k ∧ LowRow wr w.heap.size s k ∧ Below w.heap.size w wr) (fun i _ => s.size - (intOf i).toNat)
  case atStart => exact ⟨0, Nat.zero_le _, rfl, hst, ((Below.refl _ _).alloc (Nat.le_refl _) _).drew⟩
  case round =>
    clear hst hconv
    obtain ⟨k, hk, rfl, hrow, hb⟩ := hrel
    by_cases hlt : k < s.size
    · obtain ⟨hc, hf⟩ := lowRow_cell hrow hlt
      by_cases hup : (65 : Int) ≤ ↑s[k].toNat ∧ (↑s[k].toNat : Int) ≤ 90
      · obtain ⟨h65, h90⟩ := hup
        have Hl := Lib.hid (lowc_up s[k] h65 h90)
        go_wp2
        go_roundw
        case rel => exact ⟨k + 1, by omega, by go_num, lowRow_set hrow hlt _ Hl.out, hb.setCell (p := ⟨_, _, none⟩) (Nat.le_refl _) _⟩
        case measure => simp [intOf]; omega
      · have Hl := Lib.hid (lowc_other s[k] hup)
        go_wp2
        all_goals
          go_roundw
          case rel => exact ⟨k + 1, by omega, by go_num, lowRow_skip hrow hlt Hl.out, hb⟩
          case measure => simp [intOf]; omega
    · have hcv := lowRow_conv hrow (by omega)
      go_wp2
      go_ret
      exact ⟨rfl, hb⟩
theorem text_Same (a b : ByteArray) (w : World) (ha : a.size ≤ 140737488351232) (hb : b.size ≤ 140737488351232) :
    Calls Tryz.prog 166 #[.string a, .string b] w (Ret w (.bool (same a.data.toList b.data.toList))) := by
  go_enter Tryz.func166, Tryz.ntmps166
  go_wp2_with fail
  refine (text_Lower a _ ha).mono ?_
  rintro e w1 ⟨rfl, hb1⟩
  go_wp2_with fail
  refine (text_Lower b _ hb).mono ?_
  rintro e w2 ⟨rfl, hb2⟩
  go_wp2_with fail
  go_ret
  exact ⟨ret_bool (by simp [same]), hb1.trans (hb2.mono hb1.size)⟩
end Go.Proofs.YtehdeclpighdeaaGreatDoor
