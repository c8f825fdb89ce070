/- The walk of ParseUint at two hexadecimal digits. The walk of undo: escapes of plain bytes are undone, others with capitals. -/
import Derived.Test.YtmkpejioinkceaaGreatDoorUriEscM
import Derived.Lib.ConvBytes
import Derived.Lib.AtoiErrMem
import Derived.Laws.Closers25b
import Derived.Test.YtmkpejioinkceaaGreatDoorUriCheck
import Derived.Test.YtmkpejioinkceaaGreatDoorBuildS
namespace Go.Proofs.YtmkpejioinkceaaGreatDoor
open Go.RowKit
set_option linter.unusedVariables false

theorem low_bits : ∀ n : Nat, n < 256 → bits .or .u8 (n : Int) 32 = ((n ||| 32 : Nat) : Int) := by decide +kernel
theorem low_hex : ∀ n : Nat, n < 256 → (97 ≤ n ∧ n ≤ 102 ∨ 65 ≤ n ∧ n ≤ 70) → 97 ≤ (n ||| 32) ∧ (n ||| 32) ≤ 102 ∧ (n ||| 32) - 87 = (if 97 ≤ n then n - 87 else n - 55) := by decide +kernel
/-- A hexadecimal digit is a digit, or a letter. -/
theorem hex_cases {c : UInt8} (h : hexc c = true) : (48 ≤ (c.toNat : Int) ∧ (c.toNat : Int) ≤ 57 ∧ (hexv c : Int) = c.toNat - 48) ∨
    (57 < (c.toNat : Int) ∧ ((c.toNat : Int) == 95) = false ∧ ∃ lw : Int, bits .or .u8 (c.toNat : Int) 32 = lw ∧ 97 ≤ lw ∧ lw ≤ 102 ∧ (hexv c : Int) = lw - 87) := by
  unfold hexc at h
  have h1 := of_decide_eq_true h
  unfold hexv
  by_cases h2 : c.toNat ≤ 57
  · rw [if_pos h2]; left; omega
  · rw [if_neg h2]
    right
    have h3 := low_hex c.toNat c.toNat_lt (by omega)
    refine ⟨by omega, by rw [beq_eq_false_iff_ne]; omega, _, low_bits c.toNat c.toNat_lt, by omega, by omega, ?_⟩
    rw [← h3.2.2]; omega
def valAt (a b : UInt8) : Nat → Int
  | 0 => 0
  | 1 => (hexv a : Int)
  | _ => 16 * (hexv a : Int) + (hexv b : Int)
theorem val_step (a b : UInt8) (ha : hexc a = true) (hb : hexc b = true) (k : Nat) (hk : k < 2) :
    ∃ c, [a, b].getD k 0 = c ∧ hexc c = true ∧ 0 ≤ valAt a b k ∧ valAt a b k ≤ 15 ∧ valAt a b (k + 1) = valAt a b k * 16 + (hexv c : Int) := by
  have hl := hexv_lt ha
  rcases Nat.lt_or_ge k 1 with h | h
  · obtain rfl : k = 0 := by omega
    exact ⟨a, rfl, ha, by show (0 : Int) ≤ 0; omega, by show (0 : Int) ≤ 15; omega, by show (hexv a : Int) = 0 * 16 + _; omega⟩
  · obtain rfl : k = 1 := by omega
    exact ⟨b, rfl, hb, by show (0 : Int) ≤ (hexv a : Int); omega, by show (hexv a : Int) ≤ 15; omega, by show 16 * (hexv a : Int) + _ = (hexv a : Int) * 16 + _; omega⟩

theorem lib_lower (c : Int) (w : World) :
    Calls Tryz.prog 134 #[.int .u8 c] w fun e w' => e = .returned (.int .u8 (bits .or .u8 c 32)) ∧ w = w' := by
  go_enter Tryz.func134, Tryz.ntmps134
  go_wp2
  go_ret
  exact ⟨rfl, rfl⟩

set_option maxRecDepth 100000 in
set_option maxHeartbeats 1000000 in
theorem int_ParseHex (a b : UInt8) (ha : hexc a = true) (hb : hexc b = true) (w : World) :
    Calls Tryz.prog 111 #[.string ⟨[a, b].toArray⟩, .int .i64 16, .int .i64 8] w (Ret w (.tuple #[.int .u64 (valAt a b 2), .nilIface])) := by
  have hcv := Lib.run_convert_string_bytes (P := Tryz.prog) w 9 71 5 ⟨[a, b].toArray⟩ u9 u71 u5
  have hB : ∀ j, j < 2 → (Lib.bytesWorld w 5 ⟨[a, b].toArray⟩).cell? ⟨w.heap.size, j, none⟩ = some (.int .u8 ([a, b].getD j 0).toNat) := fun j hj => Lib.bytesWorld_cell w 5 ⟨[a, b].toArray⟩ j hj
  have HBel := Lib.hid (Lib.bytesWorld_below w 5 ⟨[a, b].toArray⟩)
  have HV := Lib.hid (val_step a b ha hb)
  obtain ⟨W1, hW1⟩ : ∃ W1, W1 = Lib.bytesWorld w 5 ⟨[a, b].toArray⟩ := ⟨_, rfl⟩
  rw [← hW1] at hcv hB HBel
  clear hW1 ha hb
  have hmv : IntKind.u64.wrap (IntKind.u64.wrap 256 - 1) = 255 := by
    rw [IntKind.wrap_u64, IntKind.wrap_u64]
    decide
  have HB := Lib.hid hB
  clear hB
  go_enter Tryz.func111, Tryz.ntmps111
  go_wp2_with fail
  go_loop [12, 13, 101] (fun vu vn vi => ∃ k : Nat, vu = .bool false ∧ vi = .int .i64 k ∧ k ≤ 2 ∧ vn = .int .u64 (valAt a b k)) (fun _ _ vi => 2 - (intOf vi).toNat)
  case atStart => exact ⟨0, rfl, rfl, by omega, rfl⟩
  case round =>
    obtain ⟨k, rfl, rfl, hk, rfl⟩ := hrel
    by_cases hkn : k < 2
    · have hc := HB.out k hkn
      obtain ⟨c, h1, h2, h3, h4, h5⟩ := HV.out k hkn
      rw [h1] at hc
      clear h1
      have H5 := Lib.hid h5
      clear h5
      have hc256 : c.toNat < 256 := c.toNat_lt
      generalize valAt a b k = v at *
      rcases hex_cases h2 with ⟨d1, d2, d3⟩ | ⟨d1, d0, lw, d2, d3, d4, d5⟩
      · have D3 := Lib.hid d3
        clear d3 h2
        go_wp2_with fail
        go_round
        case rel => exact ⟨k + 1, rfl, by go_num, by omega, by rw [H5.out, D3.out]⟩
        case measure => simp [intOf]; omega
      · have D3 := Lib.hid d5
        have D2 := Lib.hid d2
        clear d5 h2 d2
        go_wp2_with fail
        refine (lib_lower _ _).mono ?_
        rintro e w' ⟨rfl, rfl⟩
        rw [D2.out]
        go_wp2_with fail
        refine (lib_lower _ _).mono ?_
        rintro e w' ⟨rfl, rfl⟩
        rw [D2.out]
        go_wp2_with fail
        refine (lib_lower _ _).mono ?_
        rintro e w' ⟨rfl, rfl⟩
        rw [D2.out]
        go_wp2_with fail
        go_round
        case rel => exact ⟨k + 1, rfl, by go_num, by omega, by rw [H5.out, D3.out]; go_num⟩
        case measure => simp [intOf]; omega
    · obtain rfl : k = 2 := by omega
      generalize valAt a b 2 = v at *
      go_wp2_with fail
      go_ret2
      exact ⟨rfl, HBel.out⟩

set_option maxRecDepth 100000 in
theorem lib_ParseHex (a b : UInt8) (ha : hexc a = true) (hb : hexc b = true) (w : World) :
    Calls Tryz.prog 84 #[.string ⟨[a, b].toArray⟩, .int .i64 16, .int .i64 8] w (Ret w (.tuple #[.int .u64 (valAt a b 2), .nilIface])) := by
  have H := Lib.hid (int_ParseHex a b ha hb w)
  generalize valAt a b 2 = v at *
  clear ha hb
  go_enter Tryz.func84, Tryz.ntmps84
  go_wp2_with fail
  refine H.out.mono ?_
  rintro e w1 ⟨rfl, hb1⟩
  have HB1 := Lib.hid hb1
  clear hb1
  go_wp2_with fail
  go_ret2
  exact ⟨rfl, HB1.out⟩
end Go.Proofs.YtmkpejioinkceaaGreatDoor

namespace Go.Proofs.YtmkpejioinkceaaGreatDoor
open Go.RowKit
set_option linter.unusedVariables false

theorem upperB_upc (c : UInt8) : Lib.upperB c = upc c := by
  have : ∀ n : Nat, n < 256 → Lib.upperB (UInt8.ofNat n) = upc (UInt8.ofNat n) := by decide +kernel
  have h := this c.toNat c.toNat_lt
  rwa [UInt8.ofNat_toNat] at h
theorem lib_Upper3 (a b : UInt8) (ha : hexc a = true) (hb : hexc b = true) (w : World) :
    Calls Tryz.prog 85 #[.string ⟨#[37, a, b]⟩] w (Ret w (.string ⟨[37, upc a, upc b].toArray⟩)) := by
  have hx : ∀ c, hexc c = true → c.toNat < 128 := by
    intro c h
    have := of_decide_eq_true (show decide _ = true from h)
    omega
  have h := Tryz.strings_ToUpper_ascii ⟨#[37, a, b]⟩ w (by show 3 ≤ _; omega) (by
    intro j c hj
    have hm : c ∈ [37, a, b] := List.mem_of_getElem? hj
    simp only [List.mem_cons, List.not_mem_nil, or_false] at hm
    rcases hm with rfl | rfl | rfl
    · decide
    · exact hx _ ha
    · exact hx _ hb)
  have e : Lib.toUpperA (⟨#[37, a, b]⟩ : ByteArray).data.toList = [37, upc a, upc b] := by
    show [Lib.upperB 37, Lib.upperB a, Lib.upperB b] = _
    rw [upperB_upc, upperB_upc, upperB_upc]; rfl
  rw [e] at h
  exact h
theorem plain_set (c : UInt8) : plainSet.contains c = plainc c := congrFun plainSet_eq c
/-- Where a byte stands among the plain ones: a sign that tells alone whether. -/
theorem lib_plain (v : Int) (c : UInt8) (hv : v = (c.toNat : Int)) (w : World) :
    Calls Tryz.prog 39 #[.string ⟨plainSet.toArray⟩, .int .u8 v] w fun e w' => (∃ i : Int, e = .returned (.int .i64 i) ∧ decide (0 ≤ i) = plainc c) ∧ w = w' := by
  refine (Tryz.strings_IndexByte ⟨plainSet.toArray⟩ v w).mono ?_
  rintro e w' ⟨rfl, rfl⟩
  subst hv
  refine ⟨⟨_, rfl, ?_⟩, rfl⟩
  rw [Int.toNat_natCast, show c.toNat.toUInt8 = c from UInt8.ofNat_toNat, indexB, show (⟨plainSet.toArray⟩ : ByteArray).data.toList = plainSet from rfl, plain_set]
  cases plainc c
  · rfl
  · exact decide_eq_true (by simp)

/-- What holds of undo's builder when so many bytes are gone through. -/
structure UI (w0 : World) (bb : Nat) (s : ByteArray) (k : Nat) (w : World) : Prop where
  bld : ∃ out, Bld w bb (bb + 1) out ∧ out ++ undoB (s.data.toList.drop k) = undoB s.data.toList
  room : bb + 1 ≤ w.heap.size
  bel : Below w0.heap.size w0 w
theorem UI.wrote {w0 w w1 w2 : World} {bb : Nat} {s : ByteArray} {k j : Nat} {out p : Bs} (x : UI w0 bb s k w) (h0 : w0.heap.size ≤ bb) (hb : Below w.heap.size w w1) (he : out ++ undoB (s.data.toList.drop k) = undoB s.data.toList)
    (hs : undoB (s.data.toList.drop k) = p ++ undoB (s.data.toList.drop j)) (hw : Wrote bb (bb + 1) (out ++ p) w1 w2) : UI w0 bb s j w2 := by
  have h1 := x.bel.trans (hb.mono x.bel.size)
  exact ⟨⟨_, hw.1, by rw [List.append_assoc, ← hs, he]⟩, Nat.le_trans x.room (Nat.le_trans hb.size hw.2.size), h1.trans (hw.2.below (by omega) h0)⟩
theorem UI.next {w0 w w' : World} {bb : Nat} {s : ByteArray} {k : Nat} (x : UI w0 bb s k w) (hb : Below w.heap.size w w') : UI w0 bb s k w' := by
  obtain ⟨out, h1, h2⟩ := x.bld
  exact ⟨⟨out, h1.next hb, h2⟩, Nat.le_trans x.room hb.size, x.bel.trans (hb.mono x.bel.size)⟩
theorem out_len {out r t : Bs} (h : out ++ r = t) (ht : t.length ≤ 1000000) : out.length ≤ 1000000 := by
  rw [← h] at ht; simp at ht; omega

set_option maxRecDepth 100000 in
theorem undo_each (w0 : World) (bb : Nat) (s : ByteArray) (h0 : w0.heap.size ≤ bb) (hl : (undoB s.data.toList).length ≤ 1000000) :
    Each 83 #[.pointer (some ⟨bb, 0, none⟩)] s (UI w0 bb s) := by
  refine ⟨fun k w w' x hb => x.next hb, ?_, ?_⟩
  · intro k c r w hd hc x
    have hr : s.data.toList.drop (k + 1) = r := by rw [← List.drop_drop, hd]; rfl
    have hu : undoB (s.data.toList.drop k) = [c] ++ undoB (s.data.toList.drop (k + 1)) := by rw [hr, hd]; exact undoB_byte hc
    obtain ⟨out, h1, h2⟩ := x.bld
    have HU := Lib.hid hu
    have HX := Lib.hid x
    have H1 := Lib.hid h1
    have H2 := Lib.hid h2
    have hol := out_len h2 hl
    have HR := Lib.hid x.room
    clear hd hr hu x h1 h2 hl
    show Calls Tryz.prog 83 #[.string ⟨#[c]⟩, .pointer (some ⟨bb, 0, none⟩)] w _
    go_enter Tryz.func83, Tryz.ntmps83
    go_wp2_with fail
    refine (b_Write bb (bb + 1) out ⟨#[c]⟩ w H1.out HR.out (by show out.length + 1 ≤ _; omega)).mono ?_
    rintro e w2 ⟨rfl, hw⟩
    have HW := Lib.hid (HX.out.wrote h0 (Below.refl _ _) H2.out HU.out hw)
    clear hw
    go_wp2_with fail
    go_end0
    exact ⟨rfl, HW.out⟩
  · intro k a b r w hd hab x
    have hr : s.data.toList.drop (k + 3) = r := by rw [← List.drop_drop, hd]; rfl
    have hu : undoB (s.data.toList.drop k) = unesc a b ++ undoB (s.data.toList.drop (k + 3)) := by rw [hr, hd]; exact undoB_esc hab
    rw [Bool.and_eq_true] at hab
    obtain ⟨ha, hb⟩ := hab
    obtain ⟨out, h1, h2⟩ := x.bld
    have hn := esc_nat ha hb
    have hx16 := hexv_lt ha
    have hy16 := hexv_lt hb
    have hv : valAt a b 2 = ((UInt8.ofNat (16 * hexv a + hexv b)).toNat : Int) := by rw [hn]; show 16 * (hexv a : Int) + (hexv b : Int) = _; omega
    have hv1 : 0 ≤ valAt a b 2 := by rw [hv]; omega
    have hv2 : valAt a b 2 ≤ 255 := by rw [hv, hn]; omega
    have HP := Lib.hid (lib_ParseHex a b ha hb w)
    have HT := Lib.hid (fun W => lib_Upper3 a b ha hb W)
    have HI := Lib.hid (fun W => lib_plain (valAt a b 2) _ hv W)
    have HV := Lib.hid hv
    have hun : unesc a b = if plainc (UInt8.ofNat (16 * hexv a + hexv b)) then [UInt8.ofNat (16 * hexv a + hexv b)] else [37, upc a, upc b] := rfl
    generalize UInt8.ofNat (16 * hexv a + hexv b) = c at *
    have HU := Lib.hid hu
    have HN := Lib.hid hun
    have HX := Lib.hid x
    have H1 := Lib.hid h1
    have H2 := Lib.hid h2
    have hol := out_len h2 hl
    have HR := Lib.hid x.room
    have hmid : (⟨#[37, a, b]⟩ : ByteArray).extract 1 3 = ⟨[a, b].toArray⟩ := bs_ext (by rw [ext_data]; rfl)
    clear hd hr hu x h1 h2 hl ha hb hn hx16 hy16 hv hun
    generalize valAt a b 2 = v at *
    show Calls Tryz.prog 83 #[.string ⟨#[37, a, b]⟩, .pointer (some ⟨bb, 0, none⟩)] w _
    go_enter Tryz.func83, Tryz.ntmps83
    go_wp2_with fail
    refine HP.out.mono ?_
    rintro e w1 ⟨rfl, hb1⟩
    have HX1 := Lib.hid (HX.out.next hb1)
    have HB1 := Lib.hid (H1.out.next hb1)
    have HL1 := Lib.hid hb1
    clear hb1
    go_wp2_with fail
    refine (HI.out w1).mono ?_
    rintro e w1' ⟨⟨i, rfl, hi⟩, rfl⟩
    rcases hp : plainc c with _ | _
    · rw [hp] at hi
      have hi' : i < 0 := by have := of_decide_eq_false hi; omega
      have HPc := Lib.hid hp
      clear hp hi
      go_wp2_with fail
      refine (HT.out w1).mono ?_
      rintro e w2 ⟨rfl, hb2⟩
      have HX2 := Lib.hid (HX1.out.next hb2)
      have HB2 := Lib.hid (HB1.out.next hb2)
      clear hb2
      go_wp2_with fail
      refine (b_Write bb (bb + 1) out ⟨[37, upc a, upc b].toArray⟩ w2 HB2.out HX2.out.room (by show out.length + 3 ≤ _; omega)).mono ?_
      rintro e w3 ⟨rfl, hw⟩
      have HW := Lib.hid (HX2.out.wrote (j := k + 3) h0 (Below.refl _ _) H2.out (by rw [HU.out, HN.out, HPc.out]; rfl) hw)
      clear hw
      go_wp2_with fail
      go_end0
      exact ⟨rfl, HW.out⟩
    · rw [hp] at hi
      have hi' : 0 ≤ i := of_decide_eq_true hi
      have HPc := Lib.hid hp
      have hcv := fun W => conv_one W c v HV.out
      have hb2 := (Below.refl w1.heap.size w1).alloc (Nat.le_refl _) (.cells #[.int .u8 v] 5)
      have HX2 := Lib.hid (HX1.out.next hb2)
      have HB2 := Lib.hid (HB1.out.next hb2)
      clear hp hi hb2
      go_wp2_with fail
      clear hcv
      refine (b_Write bb (bb + 1) out ⟨[c].toArray⟩ _ HB2.out HX2.out.room (by show out.length + 1 ≤ _; omega)).mono ?_
      rintro e w3 ⟨rfl, hw⟩
      have HW := Lib.hid (HX2.out.wrote (j := k + 3) h0 (Below.refl _ _) H2.out (by rw [HU.out, HN.out, HPc.out]; rfl) hw)
      clear hw
      go_wp2_with fail
      go_end0
      exact ⟨rfl, HW.out⟩

set_option maxRecDepth 100000 in
theorem uri_undo (s : ByteArray) (w : World) (hw : wellB s.data.toList = true) (hs : s.size ≤ 1000000) :
    Calls Tryz.prog 46 #[.string s] w (Ret w (.string ⟨(undoB s.data.toList).toArray⟩)) := by
  have hl : (undoB s.data.toList).length ≤ 1000000 := by
    have := undo_len (p := fun _ => true) hw
    rw [bs_size] at this; omega
  have HW := Lib.hid hw
  have HB := Lib.hid (bld_new w (w.heap.size + 1))
  have HE := Lib.hid (undo_each w w.heap.size s (Nat.le_refl _) hl)
  have HL := Lib.hid hl
  clear hw hl
  go_enter Tryz.func46, Tryz.ntmps46
  go_wp2_with fail
  refine (escapes_undo _ s _ HE.out _ ⟨⟨[], HB.out, by rw [List.drop_zero]; rfl⟩, by simp, (Below.refl _ _).alloc (Nat.le_refl _) _⟩ hs).mono ?_
  rintro e w1 (⟨hw, rfl, x⟩ | ⟨hw, _⟩)
  · obtain ⟨out, h1, h2⟩ := x.bld
    rw [← bs_size, List.drop_length, show undoB [] = [] from rfl, List.append_nil] at h2
    have H1 := Lib.hid h1
    have H2 := Lib.hid h2
    have HX := Lib.hid x.bel
    clear h1 h2 x hw
    go_wp2_with fail
    refine (b_String _ _ out w1 H1.out (by omega)).mono ?_
    rintro e w2 ⟨rfl, hb2⟩
    have HW2 := Lib.hid (HX.out.trans hb2)
    clear hb2
    go_wp2_with fail
    go_ret
    exact ⟨by rw [H2.out]; rfl, HW2.out⟩
  · rw [HW.out] at hw; cases hw
end Go.Proofs.YtmkpejioinkceaaGreatDoor
