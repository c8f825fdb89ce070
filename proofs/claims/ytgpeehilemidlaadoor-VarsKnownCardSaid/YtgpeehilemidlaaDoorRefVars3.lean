/- Walks of the reference's variables: languages. -/
import Derived.Test.YtgpeehilemidlaaDoorRefVars2
namespace Go.Proofs.YtgpeehilemidlaaDoor
open Go.RowKit
set_option linter.unusedVariables false

set_option maxRecDepth 100000 in
set_option maxHeartbeats 400000 in
theorem ref25_nought (s : ByteArray) (w : World) (hs : s.size ≤ 140737488351232) :
    Calls Tryd.prog 79 #[.string s] w (Ret w (.bool (zero s.data.toList))) := by
  have HC0 : SCells (w.alloc (.cells (scells zeros).toArray 9)) w.heap.size 0 zeros := fun j l hl => by
    rw [Nat.zero_add]; exact cell_new w (scells zeros).toArray 9 j _ (by simp [scells, hl])
  have HG := Lib.hid (zero_any s.data.toList)
  go_enter Tryd.func79, Tryd.ntmps79
  go_wp2
  generalize hW : w.alloc (.cells #[.string ⟨#[113, 61, 48]⟩, .string ⟨#[113, 61, 48, 46]⟩, .string ⟨#[113, 61, 48, 46, 48]⟩, .string ⟨#[113, 61, 48, 46, 48, 48]⟩, .string ⟨#[113, 61, 48, 46, 48, 48, 48]⟩] 9) = W
  have hbW : Below w.heap.size w W := by rw [← hW]; exact (Below.refl _ _).alloc (Nat.le_refl _) _
  have HC : SCells W w.heap.size 0 zeros := by rw [← hW]; exact HC0
  have hlt : w.heap.size < W.heap.size := by rw [← hW]; simp
  clear hW HC0
  go_loopw [4] (fun i wr => ∃ k : Nat, k ≤ 5 ∧ i = .int .i64 k ∧ Hid ((zeros.take k).any (same (trim s.data.toList)) = false) ∧ Below W.heap.size W wr) (fun i _ => 5 - (intOf i).toNat)
  case atStart => exact ⟨0, Nat.zero_le _, rfl, Lib.hid rfl, Below.refl _ _⟩
  case round =>
    obtain ⟨k, hk, rfl, hno, hbr⟩ := hrel
    by_cases hkl : k < 5
    · obtain ⟨l, hl⟩ : ∃ l, zeros[k]? = some l := ⟨zeros[k]'(by show k < 5; exact hkl), List.getElem?_eq_getElem _⟩
      have hcell0 := (HC.below hbr hlt) k l hl
      rw [Nat.zero_add] at hcell0
      have hll : l.length ≤ 7 := by
        have : ∀ z ∈ zeros, z.length ≤ 7 := by decide
        exact this l (List.mem_of_getElem? hl)
      have Hl := Lib.hid hl
      clear hl
      have htl := trim_len s.data.toList
      rw [bs_size] at htl
      have hts : (⟨(trim s.data.toList).toArray⟩ : ByteArray).size ≤ 140737488351232 := by show (trim s.data.toList).toArray.size ≤ _; simp; omega
      have hls : (⟨l.toArray⟩ : ByteArray).size ≤ 140737488351232 := by show l.toArray.size ≤ _; simp; omega
      have hs2 : s.size ≤ 9223372036854775807 := by omega
      go_wp2_with fail
      go_region_with (first | (go_at_call 77; refine (ref01_Trim s _ hs2).mono ?_; rintro e w3 ⟨rfl, rfl⟩) | (go_at_call 78; refine (ref01_Same _ _ _ hts hls).mono ?_; rintro e w4 ⟨rfl, hb4⟩))
      all_goals
        have hb5 : Below wr.heap.size wr w4 := below_ofdrew hb4
        clear hb4
        have hsz := hbr.size
        rcases hsm : same (trim s.data.toList) l with _ | _
        · have Hs := Lib.hid hsm
          go_wp2
          go_roundw
          case rel => exact ⟨k + 1, by omega, by go_num, Lib.hid (any_step hno.out Hl.out Hs.out), hbr.trans (hb5.mono hsz)⟩
          case measure => (simp [intOf] <;> omega)
        · have Hs := Lib.hid hsm
          go_wp2
          go_ret
          exact ⟨ret_bool (by rw [HG.out]; exact (any_hit Hl.out Hs.out).symm), (hbW.trans ((hbr.trans (hb5.mono hsz)).mono hbW.size))⟩
    · go_wp2
      go_ret
      exact ⟨ret_bool (by rw [HG.out]; exact (any_end hno.out (by show 5 ≤ k; omega)).symm), hbW.trans (hbr.mono hbW.size)⟩
end Go.Proofs.YtgpeehilemidlaaDoor
