/- The law that it is so where a text becomes one of many bytes. -/
import Derived.Test.YtoipnaoijccokaaGreatDoorRefApply
import Derived.Test.YtoipnaoijccokaaGreatDoorSubLaw
import Derived.Test.YtoipnaoijccokaaGreatDoorOfR
import Derived.Test.YtoipnaoijccokaaGreatDoorMade
namespace Go.Proofs.YtoipnaoijccokaaGreatDoor
open Go.RowKit
set_option linter.unusedVariables false
attribute [local go_sem ↓] Go.wp_at_zero Go.wp_at_succ

theorem req_cells {W : World} {b : Nat} {m t bd : ByteArray} {mn : Int} {v : Value} (h : W.heap[b]? = some (.cells #[.string m, .string t, .int .i64 mn, v, .string bd] 28)) :
    W.cell? ⟨b, 0, none⟩ = some (.string m) ∧ W.cell? ⟨b, 1, none⟩ = some (.string t) ∧ W.cell? ⟨b, 2, none⟩ = some (.int .i64 mn) ∧ W.cell? ⟨b, 3, none⟩ = some v ∧ W.cell? ⟨b, 4, none⟩ = some (.string bd) :=
  ⟨cell_of_row _ _ 0 _ _ _ h, cell_of_row _ _ 1 _ _ _ h, cell_of_row _ _ 2 _ _ _ h, cell_of_row _ _ 3 _ _ _ h, cell_of_row _ _ 4 _ _ _ h⟩
theorem apply_any (p : Bs × Int) : applyV p = .tuple #[.string ⟨p.1.toArray⟩, .int .i64 p.2] := rfl

set_option maxRecDepth 100000 in
set_option maxHeartbeats 2000000 in
theorem law_SubstLong (n m l : Nat) (w : World) (hg : Good w) (hn : n < 65536) (hm : m < 65536) (hl : l < 65536) :
    Calls Tryz.prog 3 #[.int .u16 (n : Int), .int .u16 (m : Int), .int .u16 (l : Int)] w (Ret w (.bool true)) := by
  obtain ⟨W1, m1, o1, b1⟩ := made_bytesK .u16 w n (by omega)
  have hcv := conv_own o1
  have HB1 := Lib.hid b1
  have HG := Lib.hid hg
  clear o1 b1 hg
  have hrl : (List.replicate n (0 : UInt8)).length ≤ 65535 := by rw [List.length_replicate]; omega
  generalize List.replicate n (0 : UInt8) = S0 at *
  obtain ⟨M, hM, hM2⟩ : ∃ M : Nat, (m : Int) % 200 = (M : Int) ∧ M < 200 := ⟨m % 200, by omega, by omega⟩
  have hM3 : (m : Int).tmod 200 = (M : Int) := by rw [Int.tmod_eq_emod_of_nonneg (by omega)]; exact hM
  obtain ⟨L, hL, hL2⟩ : ∃ L : Nat, (l : Int) % 8193 = (L : Int) ∧ L < 8193 := ⟨l % 8193, by omega, by omega⟩
  have hL3 : (l : Int).tmod 8193 = (L : Int) := by rw [Int.tmod_eq_emod_of_nonneg (by omega)]; exact hL
  go_enter Tryz.func3, Tryz.ntmps3
  go_wp2_with fail
  clear m1 hcv
  go_loop [7, 8] (fun s i => ∃ (k : Nat) (t : Bs), i = .int .i64 k ∧ k ≤ M ∧ s = .string ⟨t.toArray⟩ ∧ t.length ≤ 65535 + 15 * k) (fun _ i => M - (intOf i).toNat)
  case atStart => exact ⟨0, S0, rfl, by omega, rfl, by omega⟩
  case round =>
    obtain ⟨k, t, rfl, hk, rfl, ht⟩ := hrel
    by_cases hlt : k < M
    · have i1 : (k : Int) < (M : Int) := by omega
      have hst : ∀ W, (Op.stringOp .add ⟨t.toArray⟩ ⟨#[36, 40, 72, 84, 84, 80, 95, 82, 69, 70, 69, 82, 69, 82, 41]⟩).run Tryz.prog W = .ok (.string ⟨(t ++ [36, 40, 72, 84, 84, 80, 95, 82, 69, 70, 69, 82, 69, 82, 41]).toArray⟩) W := by
        intro W
        have := run_string_add_sum (P := Tryz.prog) W ⟨t.toArray⟩ ⟨([36, 40, 72, 84, 84, 80, 95, 82, 69, 70, 69, 82, 69, 82, 41] : Bs).toArray⟩ (by show t.length + 15 ≤ _; omega)
        rw [bs_app] at this; exact this
      have htl : (t ++ [36, 40, 72, 84, 84, 80, 95, 82, 69, 70, 69, 82, 69, 82, 41]).length ≤ 65535 + 15 * (k + 1) := by simp; omega
      generalize t ++ [36, 40, 72, 84, 84, 80, 95, 82, 69, 70, 69, 82, 69, 82, 41] = t2 at *
      go_wp2_with fail
      go_round
      case rel => exact ⟨k + 1, t2, by go_num, by omega, rfl, htl⟩
      case measure => (simp [intOf] <;> omega)
    · have i1 : (M : Int) ≤ (k : Int) := by omega
      have ht1 : t.length ≤ 100000 := by omega
      obtain ⟨W2, m2, o2, b2⟩ := made_bytesK .u16 W1 L (by omega)
      have hcv := conv_own o2
      have HB2 := Lib.hid (HB1.out.trans (b2.mono HB1.out.size))
      clear o2 b2
      have hrl2 : (List.replicate L (0 : UInt8)).length ≤ 10000 := by rw [List.length_replicate]; omega
      generalize List.replicate L (0 : UInt8) = V at *
      have HT := Lib.hid (two_new W2 (.cells #[.string ⟨#[82, 101, 102, 101, 114, 101, 114]⟩, .string ⟨V.toArray⟩] 25) (.cells #[.string ⟨#[71, 69, 84]⟩, .string ⟨#[47]⟩, .int .i64 1, .slice (some ⟨W2.heap.size, 0, none⟩) 1 1, .string ⟨#[]⟩] 28))
      obtain ⟨fs, hfs⟩ : ∃ fs : List Fld, fs = [([82, 101, 102, 101, 114, 101, 114], V)] := ⟨_, rfl⟩
      have hF := fields_row fs HT.out.b1 (by rw [hfs]; rfl)
      have hfl : fs.length = 1 := by rw [hfs]; rfl
      have HL := Lib.hid (show Lim fs from ⟨by omega, fun f hf => by rw [hfs] at hf; simp at hf; subst hf; simp; omega⟩)
      rw [hfl] at hF
      have HF := Lib.hid hF
      have HFL := Lib.hid hfl
      have HB4 := Lib.hid (HB2.out.trans (HT.out.below.mono HB2.out.size))
      have hz := HT.out.size
      obtain ⟨c0, c1, c2, c3, c4⟩ := req_cells HT.out.b2
      clear hfs hF hfl
      go_wp2_with fail
      have HN := Lib.hid HT.out.b2
      clear HT m2 hcv c0 c1 c2 c3 c4
      generalize hW4 : (W2.alloc (.cells #[.string ⟨#[82, 101, 102, 101, 114, 101, 114]⟩, .string ⟨V.toArray⟩] 25)).alloc (.cells #[.string ⟨#[71, 69, 84]⟩, .string ⟨#[47]⟩, .int .i64 1, .slice (some ⟨W2.heap.size, 0, none⟩) 1 1, .string ⟨#[]⟩] 28) = W4 at *
      clear hW4
      have hrb : W2.heap.size + 1 < W4.heap.size := by omega
      generalize W2.heap.size = fb at *
      refine (vars_Of ⟨#[71, 69, 84]⟩ ⟨#[47]⟩ ⟨#[]⟩ ⟨#[104]⟩ 1 (some ⟨fb, 0, none⟩) 1 1 fs W4 HF.out (by have := HFL.out; omega)).mono ?_
      rintro e w5 ⟨a', c', rfl, hown, hb5⟩
      have HO5 := Lib.hid hown.at
      have HB5 := Lib.hid (HB4.out.trans (hb5.mono HB4.out.size))
      have HF5 := Lib.hid (HF.out.below hb5)
      have HN5 := Lib.hid ((hb5.block _ hrb).trans HN.out)
      have hz5 := hb5.size
      clear hown hb5
      go_wp2_with fail
      refine (sub_Apply ⟨t.toArray⟩ ⟨#[104]⟩ ⟨#[47]⟩ a' fs.length c' fs w5 (HG.out.next HB5.out) HO5.out HL.out (by decide) (by show t.length ≤ _; omega)).mono ?_
      rintro e w6 ⟨rfl, hb6⟩
      have HB6 := Lib.hid (HB5.out.trans (hb6.mono HB5.out.size))
      have HF6 := Lib.hid (HF5.out.below hb6)
      have HN6 := Lib.hid ((hb6.block _ (by omega)).trans HN5.out)
      have hz6 := hb6.size
      clear hb6
      obtain ⟨c0, c1, c2, c3, c4⟩ := req_cells HN6.out
      rw [apply_any]
      go_wp2_with fail
      refine (ref25_Of ⟨#[71, 69, 84]⟩ ⟨#[47]⟩ ⟨#[]⟩ ⟨#[104]⟩ 1 (some ⟨fb, 0, none⟩) 1 1 w6).mono ?_
      rintro e w7 ⟨rfl, hb7⟩
      have HB7 := Lib.hid (HB6.out.trans (hb7.mono HB6.out.size))
      have HF7 := Lib.hid (HF6.out.below hb7)
      clear hb7 c0 c1 c2 c3 c4
      go_wp2_with fail
      refine (ref26_Apply ⟨t.toArray⟩ ⟨#[71, 69, 84]⟩ ⟨#[47]⟩ ⟨#[]⟩ ⟨#[104]⟩ 1 (some ⟨fb, 0, none⟩) 1 1 fs w7 HF7.out HL.out (by decide) (by decide) (by show t.length ≤ _; omega)).mono ?_
      rintro e w8 ⟨rfl, hb8⟩
      have HB8 := Lib.hid (HB7.out.trans (hb8.mono HB7.out.size))
      clear hb8
      rw [apply_any]
      generalize vapply (⟨#[104]⟩ : ByteArray).data.toList (⟨#[47]⟩ : ByteArray).data.toList fs (⟨t.toArray⟩ : ByteArray).data.toList = r at *
      go_wp2_with fail
      refine (law_works w8 (HG.out.next HB8.out)).mono ?_
      rintro e w9 ⟨rfl, hb9⟩
      have HB9 := Lib.hid (HB8.out.trans (hb9.mono HB8.out.size))
      clear hb9
      go_wp2
      go_ret
      exact ⟨rfl, HB9.out⟩
end Go.Proofs.YtoipnaoijccokaaGreatDoor
