/- The reference's at: the use that begins at a place. -/
import Derived.Test.YtbkhmkpbbggcbaaGreatDoorKRefSub
import Derived.Deep.DeepCutAuto
import Derived.Deep.CutBlock
namespace Go.Proofs.YtbkhmkpbbggcbaaGreatDoor
open Go.RowKit
set_option linter.unusedVariables false
attribute [local go_sem ↓] Go.wp_at_zero Go.wp_at_succ
def RU (W : World) (b : Nat) (i t : Int) (nm k d : Bs) (hk hd : Bool) : Prop := W.heap[b]? = some (.cells #[.int .i64 i, .int .i64 t, .string ⟨nm.toArray⟩, .string ⟨k.toArray⟩, .string ⟨d.toArray⟩, .bool hk, .bool hd] 34)
structure RUC (W : World) (b : Nat) (i t : Int) (nm k d : Bs) (hk hd : Bool) : Prop where
  c0 : W.cell? ⟨b, 0, none⟩ = some (.int .i64 i)
  c1 : W.cell? ⟨b, 1, none⟩ = some (.int .i64 t)
  c2 : W.cell? ⟨b, 2, none⟩ = some (.string ⟨nm.toArray⟩)
  c3 : W.cell? ⟨b, 3, none⟩ = some (.string ⟨k.toArray⟩)
  c4 : W.cell? ⟨b, 4, none⟩ = some (.string ⟨d.toArray⟩)
  c5 : W.cell? ⟨b, 5, none⟩ = some (.bool hk)
  c6 : W.cell? ⟨b, 6, none⟩ = some (.bool hd)
  f0 : W.frozen? ⟨b, 0, none⟩ = false
  f1 : W.frozen? ⟨b, 1, none⟩ = false
  f2 : W.frozen? ⟨b, 2, none⟩ = false
  f3 : W.frozen? ⟨b, 3, none⟩ = false
  f4 : W.frozen? ⟨b, 4, none⟩ = false
  f5 : W.frozen? ⟨b, 5, none⟩ = false
  f6 : W.frozen? ⟨b, 6, none⟩ = false
theorem RU.c {W : World} {b : Nat} {i t : Int} {nm k d : Bs} {hk hd : Bool} (h : RU W b i t nm k d hk hd) : RUC W b i t nm k d hk hd :=
  ⟨cell_of_row _ _ 0 _ _ _ h, cell_of_row _ _ 1 _ _ _ h, cell_of_row _ _ 2 _ _ _ h, cell_of_row _ _ 3 _ _ _ h, cell_of_row _ _ 4 _ _ _ h, cell_of_row _ _ 5 _ _ _ h, cell_of_row _ _ 6 _ _ _ h,
   frozen_of_row _ _ 0 _ _ h, frozen_of_row _ _ 1 _ _ h, frozen_of_row _ _ 2 _ _ h, frozen_of_row _ _ 3 _ _ h, frozen_of_row _ _ 4 _ _ h, frozen_of_row _ _ 5 _ _ h, frozen_of_row _ _ 6 _ _ h⟩
theorem put7g {w W : World} {b n : Nat} {T : TypeId} {a0 a1 a2 a3 a4 a5 a6 : Value} (v0 v1 v2 v3 v4 v5 v6 : Value) (hb : Below n w W) (hn : n ≤ b) (h : W.heap[b]? = some (.cells #[a0, a1, a2, a3, a4, a5, a6] T)) :
    (put7w W b v0 v1 v2 v3 v4 v5 v6).heap[b]? = some (.cells #[v0, v1, v2, v3, v4, v5, v6] T) ∧ Below n w (put7w W b v0 v1 v2 v3 v4 v5 v6) := by
  refine ⟨row7 v0 v1 v2 v3 v4 v5 v6 h, ?_⟩
  exact ((((((hb.setCell (p := ⟨b, 0, none⟩) hn _).setCell (p := ⟨b, 1, none⟩) hn _).setCell (p := ⟨b, 2, none⟩) hn _).setCell (p := ⟨b, 3, none⟩) hn _).setCell (p := ⟨b, 4, none⟩) hn _).setCell (p := ⟨b, 5, none⟩) hn _).setCell (p := ⟨b, 6, none⟩) hn _
structure At (w W : World) (i t : Int) (nm k d : Bs) (hk hd : Bool) : Prop where
  below : Below w.heap.size w W
  res : RU W w.heap.size 0 0 [] [] [] false false
  box : RU W (w.heap.size + 1) i t nm k d hk hd
theorem At.next {w W W' : World} {i t : Int} {nm k d : Bs} {hk hd : Bool} (h : At w W i t nm k d hk hd) (hb : Below W.heap.size W W') : At w W' i t nm k d hk hd :=
  ⟨h.below.trans (hb.mono h.below.size), (hb.block _ (blk_lt h.res)).trans h.res, (hb.block _ (blk_lt h.box)).trans h.box⟩
theorem At.put {w W : World} {i t : Int} {nm k d : Bs} {hk hd : Bool} {i' t' : Int} {nm' k' d' : Bs} {hk' hd' : Bool} (h : At w W i t nm k d hk hd) (j : Nat) (v : Value)
    (hr : RU (W.setCell ⟨w.heap.size + 1, j, none⟩ v) (w.heap.size + 1) i' t' nm' k' d' hk' hd') : At w (W.setCell ⟨w.heap.size + 1, j, none⟩ v) i' t' nm' k' d' hk' hd' :=
  ⟨h.below.setCell (p := ⟨w.heap.size + 1, j, none⟩) (by show w.heap.size ≤ w.heap.size + 1; omega) v, (Below.heap_setCell W ⟨w.heap.size + 1, j, none⟩ v _ (by show w.heap.size ≠ w.heap.size + 1; omega)).trans h.res, hr⟩
theorem At.to {w W : World} {i t : Int} {nm k d : Bs} {hk hd : Bool} (h : At w W i t nm k d hk hd) (x : Int) : At w (W.setCell ⟨w.heap.size + 1, 1, none⟩ (.int .i64 x)) i x nm k d hk hd := h.put 1 _ (row_set (j := 1) h.box)
theorem At.name {w W : World} {i t : Int} {nm k d : Bs} {hk hd : Bool} (h : At w W i t nm k d hk hd) (x : Bs) : At w (W.setCell ⟨w.heap.size + 1, 2, none⟩ (.string ⟨x.toArray⟩)) i t x k d hk hd := h.put 2 _ (row_set (j := 2) h.box)
theorem At.key {w W : World} {i t : Int} {nm k d : Bs} {hk hd : Bool} (h : At w W i t nm k d hk hd) (x : Bs) : At w (W.setCell ⟨w.heap.size + 1, 3, none⟩ (.string ⟨x.toArray⟩)) i t nm x d hk hd := h.put 3 _ (row_set (j := 3) h.box)
theorem At.dft {w W : World} {i t : Int} {nm k d : Bs} {hk hd : Bool} (h : At w W i t nm k d hk hd) (x : Bs) : At w (W.setCell ⟨w.heap.size + 1, 4, none⟩ (.string ⟨x.toArray⟩)) i t nm k x hk hd := h.put 4 _ (row_set (j := 4) h.box)
theorem At.hkey {w W : World} {i t : Int} {nm k d : Bs} {hk hd : Bool} (h : At w W i t nm k d hk hd) (x : Bool) : At w (W.setCell ⟨w.heap.size + 1, 5, none⟩ (.bool x)) i t nm k d x hd := h.put 5 _ (row_set (j := 5) h.box)
theorem At.hdft {w W : World} {i t : Int} {nm k d : Bs} {hk hd : Bool} (h : At w W i t nm k d hk hd) (x : Bool) : At w (W.setCell ⟨w.heap.size + 1, 6, none⟩ (.bool x)) i t nm k d hk x := h.put 6 _ (row_set (j := 6) h.box)
theorem at_new (w : World) (i : Int) : At w ((w.alloc (.cells #[.int .i64 0, .int .i64 0, .string ⟨#[]⟩, .string ⟨#[]⟩, .string ⟨#[]⟩, .bool false, .bool false] 34)).alloc (.cells #[.int .i64 i, .int .i64 0, .string ⟨#[]⟩, .string ⟨#[]⟩, .string ⟨#[]⟩, .bool false, .bool false] 34)) i 0 [] [] [] false false := by
  have t := two_new w (.cells #[.int .i64 0, .int .i64 0, .string ⟨#[]⟩, .string ⟨#[]⟩, .string ⟨#[]⟩, .bool false, .bool false] 34) (.cells #[.int .i64 i, .int .i64 0, .string ⟨#[]⟩, .string ⟨#[]⟩, .string ⟨#[]⟩, .bool false, .bool false] 34)
  exact ⟨t.below, t.b1, t.b2⟩
def atP (s : Bs) (i : Nat) : Option Use := (partsAt (s.drop i)).map (mkUse s.length i)
theorem begins_two (l : Bs) : begins l = (Lib.hasPrefix l [36] && Lib.hasPrefix (l.drop 1) [40]) := by
  unfold begins Lib.hasPrefix
  cases l with
  | nil => rfl
  | cons a r =>
    cases r with
    | nil => simp [List.isPrefixOf]
    | cons b r => simp [List.isPrefixOf]
theorem atP_no1 {s : Bs} {i : Nat} (h : Lib.hasPrefix (s.drop i) [36] = false) : atP s i = none := by
  unfold atP; rw [partsAt_begins (by rw [begins_two, h]; rfl)]; rfl
theorem atP_no2 {s : Bs} {i : Nat} (h : Lib.hasPrefix (s.drop (i + 1)) [40] = false) : atP s i = none := by
  unfold atP; rw [partsAt_begins (by rw [begins_two, List.drop_drop, h, Bool.and_false])]; rfl
theorem atP_yes {s : Bs} {i : Nat} (h1 : Lib.hasPrefix (s.drop i) [36] = true) (h2 : Lib.hasPrefix (s.drop (i + 1)) [40] = true) : atP s i = (useAt (s.drop (i + 2))).map (mkUse s.length i) ∧ i + 2 ≤ s.length := by
  have hb : begins (s.drop i) = true := by rw [begins_two, List.drop_drop, h1, h2]; rfl
  have hl := pfx_len hb
  rw [List.length_drop] at hl
  simp at hl
  unfold atP
  rw [partsAt_yes hb, List.drop_drop]
  exact ⟨rfl, by omega⟩
theorem ref26_wordI (x : Int) (c : UInt8) (w : World) (hx : x = (c.toNat : Int)) : Calls Tryz.prog 64 #[.int .u8 x] w fun e w' => e = .returned (.bool (keyc c)) ∧ w = w' := by
  subst hx; exact ref26_word c w
theorem useAt_cases (r : Bs) : (vknown (r.takeWhile letc) = false ∧ useAt r = none) ∨ (vknown (r.takeWhile letc) = true ∧ useAt r = match keyAt (r.dropWhile letc) with | none => none | some (k, hk, r2) => otherAt (r.takeWhile letc) k hk r2) := by
  cases h : vknown (r.takeWhile letc)
  · exact .inl ⟨rfl, parts_name h⟩
  · refine .inr ⟨rfl, ?_⟩
    unfold useAt; rw [h]; rfl
theorem letc_key (c : UInt8) : letc c = (keyc c && !(c == 45) && !(c == 46)) := by
  have : (List.range 256).all (fun n => letc (UInt8.ofNat n) == (keyc (UInt8.ofNat n) && !(UInt8.ofNat n == 45) && !(UInt8.ofNat n == 46))) = true := by decide +kernel
  have h := List.all_eq_true.1 this c.toNat (List.mem_range.2 c.toNat_lt)
  simpa using h
theorem drop_lead' (l : Bs) (a : Nat) (p : UInt8 → Bool) : l.drop (a + lead p (l.drop a)) = (l.drop a).dropWhile p := by
  rw [← List.drop_drop, drop_lead]
theorem ext_span (s : ByteArray) (a n : Nat) : s.extract a (a + n) = ⟨((s.data.toList.drop a).take n).toArray⟩ := by
  apply ByteArray.ext; apply Array.ext'
  rw [ext_data, show a + n - a = n by omega]
set_option maxRecDepth 100000 in
set_option maxHeartbeats 2000000 in
theorem ref26_at (s : ByteArray) (j : Int) (i : Nat) (w : World) (hj : j = (i : Int)) (hs : s.size ≤ 100000000) (hi : i ≤ s.size) :
    Calls Tryz.prog 46 #[.string s, .int .i64 j] w (Ret w (foundV (atP s.data.toList i))) := by
  subst hj
  have HA := Lib.hid (at_new w (i : Int))
  go_enter Tryz.func46, Tryz.ntmps46
  go_wp2_with fail
  generalize (w.alloc (.cells #[.int .i64 0, .int .i64 0, .string ⟨#[]⟩, .string ⟨#[]⟩, .string ⟨#[]⟩, .bool false, .bool false] 34)).alloc (.cells #[.int .i64 (i : Int), .int .i64 0, .string ⟨#[]⟩, .string ⟨#[]⟩, .string ⟨#[]⟩, .bool false, .bool false] 34) = W at *
  refine (ref26_is s _ i 36 W rfl hs).mono ?_
  rintro e w1 ⟨rfl, rfl⟩
  rcases h1 : Lib.hasPrefix (s.data.toList.drop i) [36] with _ | _
  · have H1 := Lib.hid h1
    clear h1
    have rs := HA.out.res.c
    have r0 := rs.c0
    have r1 := rs.c1
    have r2 := rs.c2
    have r3 := rs.c3
    have r4 := rs.c4
    have r5 := rs.c5
    have r6 := rs.c6
    have g0 := rs.f0
    have g1 := rs.f1
    have g2 := rs.f2
    have g3 := rs.f3
    have g4 := rs.f4
    have g5 := rs.f5
    have g6 := rs.f6
    clear rs
    have HP := Lib.hid (put7g (.int .i64 0) (.int .i64 0) (.string ⟨#[]⟩) (.string ⟨#[]⟩) (.string ⟨#[]⟩) (.bool false) (.bool false) HA.out.below (Nat.le_refl _) HA.out.res)
    have HNo := Lib.hid (atP_no1 H1.out)
    go_wp2_with fail
    clear r0 r1 r2 r3 r4 r5 r6 g0 g1 g2 g3 g4 g5 g6
    have kk := RU.c (i := 0) (t := 0) (nm := []) (k := []) (d := []) (hk := false) (hd := false) HP.out.1
    have k0 := kk.c0
    have k1 := kk.c1
    have k2 := kk.c2
    have k3 := kk.c3
    have k4 := kk.c4
    have k5 := kk.c5
    have k6 := kk.c6
    unfold put7w at k0 k1 k2 k3 k4 k5 k6
    refine bodyPost_ret (v := foundV none) ?_ rfl ⟨by rw [HNo.out], HP.out.2⟩
    rw [foundV_none]
    simp [results, Tryz.f46, go_sem, k0, k1, k2, k3, k4, k5, k6]
  · have H1 := Lib.hid h1
    clear h1
    go_wp2_with fail
    refine (ref26_is s _ (i + 1) 40 W (by omega) hs).mono ?_
    rintro e w1 ⟨rfl, rfl⟩
    rcases h2 : Lib.hasPrefix (s.data.toList.drop (i + 1)) [40] with _ | _
    · have H2 := Lib.hid h2
      clear h2
      have rs := HA.out.res.c
      have r0 := rs.c0
      have r1 := rs.c1
      have r2 := rs.c2
      have r3 := rs.c3
      have r4 := rs.c4
      have r5 := rs.c5
      have r6 := rs.c6
      have g0 := rs.f0
      have g1 := rs.f1
      have g2 := rs.f2
      have g3 := rs.f3
      have g4 := rs.f4
      have g5 := rs.f5
      have g6 := rs.f6
      clear rs
      have HP := Lib.hid (put7g (.int .i64 0) (.int .i64 0) (.string ⟨#[]⟩) (.string ⟨#[]⟩) (.string ⟨#[]⟩) (.bool false) (.bool false) HA.out.below (Nat.le_refl _) HA.out.res)
      have HNo := Lib.hid (atP_no2 H2.out)
      go_wp2_with fail
      clear r0 r1 r2 r3 r4 r5 r6 g0 g1 g2 g3 g4 g5 g6
      have kk := RU.c (i := 0) (t := 0) (nm := []) (k := []) (d := []) (hk := false) (hd := false) HP.out.1
      have k0 := kk.c0
      have k1 := kk.c1
      have k2 := kk.c2
      have k3 := kk.c3
      have k4 := kk.c4
      have k5 := kk.c5
      have k6 := kk.c6
      unfold put7w at k0 k1 k2 k3 k4 k5 k6
      refine bodyPost_ret (v := foundV none) ?_ rfl ⟨by rw [HNo.out], HP.out.2⟩
      rw [foundV_none]
      simp [results, Tryz.f46, go_sem, k0, k1, k2, k3, k4, k5, k6]
    · have hy := atP_yes H1.out h2
      have HY := Lib.hid hy.1
      have hi2 : i + 2 ≤ s.size := by have := hy.2; rw [bs_size] at this; exact this
      clear h2 H1 hy
      have hi2' : (i : Int) + 2 ≤ (s.size : Int) := by omega
      obtain ⟨a, ha⟩ : ∃ a, a = i + 2 := ⟨_, rfl⟩
      have hai : (i : Int) + 2 = (a : Int) := by omega
      have HAi := Lib.hid ha
      have has : a ≤ s.size := by omega
      have HY2 := Lib.hid (show atP s.data.toList i = (useAt (s.data.toList.drop a)).map (mkUse s.data.toList.length i) by rw [HAi.out]; exact HY.out)
      clear ha HY
      have hla := lead_le letc (s.data.toList.drop a)
      rw [List.length_drop, bs_size] at hla
      go_upto_block 0 with fail
      go_cut [7] (fun s7 wx => W = wx ∧ s7 = .int .i64 ((a + lead letc (s.data.toList.drop a) : Nat) : Int))
      case first =>
        go_wp2_with fail
        go_loopg [7] (s.size - a) (fun g s7 wx => W = wx ∧ ∃ k : Nat, a ≤ k ∧ k ≤ s.size ∧ g = s.size - k ∧ k - a ≤ lead letc (s.data.toList.drop a) ∧ s7 = .int .i64 k)
        case atStart => exact ⟨rfl, a, Nat.le_refl _, has, rfl, by omega, by first | rfl | (rw [hai]) | simp [hai]⟩
        case round =>
          obtain ⟨rfl, k, hak, hk, rfl, hkl, rfl⟩ := hrel
          by_cases hlt : k < s.size
          · have i1 : (k : Int) < (s.size : Int) := by omega
            have hget := bs_get s k hlt
            have hdg : (s.data.toList.drop a)[k - a]? = some s[k] := by rw [List.getElem?_drop, show a + (k - a) = k by omega]; exact hget
            have hlk := letc_key s[k]
            rcases hlc : letc s[k] with _ | _
            · have he : lead letc (s.data.toList.drop a) = k - a := by
                refine (lead_stop _ _ (k - a) hkl ?_).symm
                intro x hx
                rw [hdg] at hx
                obtain rfl := Option.some.inj hx
                exact hlc
              have HE := Lib.hid (show a + lead letc (s.data.toList.drop a) = k by omega)
              rw [hlc] at hlk
              clear he hget hdg hkl hlc
              rcases hkc : keyc s[k] with _ | _
              · clear hlk
                go_wp2_with (go_at_call 64; refine (ref26_word _ _).mono ?_; rintro e w' ⟨rfl, rfl⟩; rw [hkc])
                go_meet
                exact ⟨rfl, by rw [HE.out]⟩
              · rw [hkc] at hlk
                by_cases h45 : s[k] = 45
                · have h45i : (s[k].toNat : Int) = 45 := by rw [h45]; rfl
                  have H45 := Lib.hid h45i
                  clear hlk h45
                  go_wp2_with (go_at_call 64; refine (ref26_wordI 45 s[k] _ H45.out.symm).mono ?_; rintro e w' ⟨rfl, rfl⟩; rw [hkc])
                  go_meet
                  exact ⟨rfl, by rw [HE.out]⟩
                · have h46 : s[k] = 46 := by
                    have h45b : (s[k] == 45) = false := by simpa using h45
                    rw [h45b] at hlk
                    simpa using hlk.symm
                  have h45i : ¬ (s[k].toNat : Int) = 45 := by rw [h46]; decide
                  have h46i : (s[k].toNat : Int) = 46 := by rw [h46]; rfl
                  have H46 := Lib.hid h46i
                  clear hlk h45 h46
                  go_wp2_with (go_at_call 64; refine (ref26_wordI 46 s[k] _ H46.out.symm).mono ?_; rintro e w' ⟨rfl, rfl⟩; rw [hkc])
                  go_meet
                  exact ⟨rfl, by rw [HE.out]⟩
            · have hst := lead_step letc _ (k - a) s[k] hkl hdg hlc
              have HS := Lib.hid (show k + 1 - a ≤ lead letc (s.data.toList.drop a) by omega)
              rw [hlc] at hlk
              have hlk2 := hlk.symm
              rw [Bool.and_eq_true, Bool.and_eq_true] at hlk2
              have hkc := hlk2.1.1
              have h45i : ¬ (s[k].toNat : Int) = 45 := by
                intro h
                have h1 : s[k] = 45 := UInt8.toNat_inj.1 (by show s[k].toNat = 45; omega)
                have h2 := hlk2.1.2
                rw [h1] at h2; exact absurd h2 (by decide)
              have h46i : ¬ (s[k].toNat : Int) = 46 := by
                intro h
                have h1 : s[k] = 46 := UInt8.toNat_inj.1 (by show s[k].toNat = 46; omega)
                have h2 := hlk2.2
                rw [h1] at h2; exact absurd h2 (by decide)
              have b45 : ((s[k].toNat : Int) == 45) = false := by rw [beq_eq_false_iff_ne]; exact h45i
              have b46 : ((s[k].toNat : Int) == 46) = false := by rw [beq_eq_false_iff_ne]; exact h46i
              have d45 : ((s[k].toNat : Int) != 45) = true := by rw [bne, b45]; rfl
              have d46 : ((s[k].toNat : Int) != 46) = true := by rw [bne, b46]; rfl
              clear hget hdg hkl hlc hst hlk hlk2
              go_wp2_with (go_at_call 64; refine (ref26_word _ _).mono ?_; rintro e w' ⟨rfl, rfl⟩; rw [hkc])
              go_roundg (s.size - (k + 1))
              case measure => omega
              case rel => exact ⟨rfl, k + 1, by omega, by omega, rfl, HS.out, by go_num⟩
          · have hk2 : k = s.size := by omega
            have HE := Lib.hid (show a + lead letc (s.data.toList.drop a) = k by omega)
            have i1 : (s.size : Int) ≤ (k : Int) := by omega
            clear hkl hk2
            go_wp2_with fail
            go_meet
            exact ⟨rfl, by rw [HE.out]⟩
      case rest =>
        obtain ⟨rfl, rfl⟩ := hcut
        obtain ⟨k1, hk1⟩ : ∃ k1, k1 = a + lead letc (s.data.toList.drop a) := ⟨_, rfl⟩
        rw [← hk1]
        have hex : s.extract a k1 = ⟨((s.data.toList.drop a).takeWhile letc).toArray⟩ := by rw [hk1, ext_span, take_lead]
        have HD1 := Lib.hid (show s.data.toList.drop k1 = (s.data.toList.drop a).dropWhile letc by rw [hk1, drop_lead'])
        have j1 : (a : Int) ≤ (k1 : Int) := by omega
        have j2 : (k1 : Int) ≤ (s.size : Int) := by omega
        have hnl : ((s.data.toList.drop a).takeWhile letc).length ≤ s.size := by
          have := lead_le letc (s.data.toList.drop a)
          unfold lead at this
          rw [List.length_drop, bs_size] at this; omega
        have hk1s : k1 ≤ s.size := by omega
        clear hk1 hla
        have z2 := HA.out.box.c.c2
        have y2 := HA.out.box.c.f2
        have HA2 := Lib.hid (HA.out.name ((s.data.toList.drop a).takeWhile letc))
        have x2 := HA2.out.box.c.c2
        clear HA
        go_wp2_with fail
        have hnk : (⟨((s.data.toList.drop a).takeWhile letc).toArray⟩ : ByteArray).size ≤ 140737488351232 := by show ((s.data.toList.drop a).takeWhile letc).length ≤ _; omega
        refine (ref25_Known ⟨((s.data.toList.drop a).takeWhile letc).toArray⟩ _).mono ?_
        rintro e w2 ⟨rfl, hb2⟩
        have HA3 := Lib.hid (HA2.out.next hb2)
        rw [show vknown (⟨((s.data.toList.drop a).takeWhile letc).toArray⟩ : ByteArray).data.toList = vknown ((s.data.toList.drop a).takeWhile letc) from rfl]
        have huc := useAt_cases (s.data.toList.drop a)
        clear z2 y2 x2 hb2 HA2 hex hnk hnl j1
        generalize (s.data.toList.drop a).takeWhile letc = nm at *
        rcases hkn : vknown nm with _ | _
        · have HU := Lib.hid (show useAt (s.data.toList.drop a) = none by
            rcases huc with h | h
            · exact h.2
            · rw [hkn] at h; cases h.1)
          clear huc hkn
          have rs := HA3.out.res.c
          have r0 := rs.c0
          have r1 := rs.c1
          have r2 := rs.c2
          have r3 := rs.c3
          have r4 := rs.c4
          have r5 := rs.c5
          have r6 := rs.c6
          have g0 := rs.f0
          have g1 := rs.f1
          have g2 := rs.f2
          have g3 := rs.f3
          have g4 := rs.f4
          have g5 := rs.f5
          have g6 := rs.f6
          clear rs
          have HP := Lib.hid (put7g (.int .i64 0) (.int .i64 0) (.string ⟨#[]⟩) (.string ⟨#[]⟩) (.string ⟨#[]⟩) (.bool false) (.bool false) HA3.out.below (Nat.le_refl _) HA3.out.res)
          have HNo := Lib.hid (show atP s.data.toList i = none by simp only [HY2.out, HU.out, Option.map_none])
          go_wp2_with fail
          clear r0 r1 r2 r3 r4 r5 r6 g0 g1 g2 g3 g4 g5 g6
          have kk := RU.c (i := 0) (t := 0) (nm := []) (k := []) (d := []) (hk := false) (hd := false) HP.out.1
          have k0 := kk.c0
          have k1 := kk.c1
          have k2 := kk.c2
          have k3 := kk.c3
          have k4 := kk.c4
          have k5 := kk.c5
          have k6 := kk.c6
          unfold put7w at k0 k1 k2 k3 k4 k5 k6
          refine bodyPost_ret (v := foundV none) ?_ rfl ⟨by rw [HNo.out], HP.out.2⟩
          rw [foundV_none]
          simp [results, Tryz.f46, go_sem, k0, k1, k2, k3, k4, k5, k6]
        · have HU := Lib.hid (show useAt (s.data.toList.drop a) = (match keyAt (s.data.toList.drop k1) with | none => none | some (k, hk, r2) => otherAt nm k hk r2) by
            rcases huc with h | h
            · rw [hkn] at h; cases h.1
            · rw [HD1.out]; exact h.2)
          clear huc hkn HD1
          go_wp2_with fail
          refine (ref26_is s _ k1 123 w2 rfl hs).mono ?_
          rintro e w3 ⟨rfl, rfl⟩
          generalize h3 : Lib.hasPrefix (s.data.toList.drop k1) [123] = b3
          have H3 := Lib.hid h3
          clear h3
          have hkl := bs_size s
          have HKL := Lib.hid hkl
          clear hkl
          go_upto_if 63 with fail
          go_cut [7] (fun s7 wx => ∃ (ky : Bs) (hk : Bool) (k2 : Nat), s7 = .int .i64 k2 ∧ k2 ≤ s.size ∧ Hid (keyAt (s.data.toList.drop k1) = some (ky, hk, s.data.toList.drop k2)) ∧ Hid (At w wx i 0 nm ky [] hk false))
          case first =>
            rcases b3 with _ | _
            · go_wp2_with fail
              go_meet
              exact ⟨[], false, k1, rfl, hk1s, Lib.hid (keyAt_bare H3.out), HA3⟩
            · have hq := pfx_one H3.out
              have hdq : s.data.toList.drop (k1 + 1) = Lib.trimPrefix (s.data.toList.drop k1) [123] := by
                rw [← List.drop_drop, hq]; rfl
              have hlead : lead (· != 125) (s.data.toList.drop k1) = lead (· != 125) (s.data.toList.drop (k1 + 1)) + 1 := by
                rw [hdq]
                conv => lhs; rw [hq]
                rw [lead_cons]; rfl
              have hk1lt : k1 < s.size := by
                have := congrArg List.length hq
                rw [List.length_drop, bs_size] at this
                simp at this; omega
              have hll := lead_le (· != 125) (s.data.toList.drop (k1 + 1))
              rw [List.length_drop, bs_size] at hll
              go_wp2_with fail
              refine (ref26_until s _ k1 125 w2 rfl hk1s hs).mono ?_
              rintro e w3 ⟨rfl, rfl⟩
              have HQ := Lib.hid hdq
              rw [hlead]
              obtain ⟨kk, hkk⟩ : ∃ kk, kk = k1 + (lead (· != 125) (s.data.toList.drop (k1 + 1)) + 1) := ⟨_, rfl⟩
              rw [← hkk]
              have hex : s.extract (k1 + 1) kk = ⟨(upto 125 (Lib.trimPrefix (s.data.toList.drop k1) [123])).toArray⟩ := by
                rw [hkk, show k1 + (lead (· != 125) (s.data.toList.drop (k1 + 1)) + 1) = (k1 + 1) + lead (· != 125) (s.data.toList.drop (k1 + 1)) by omega, ext_span, take_upto, hdq]
              have q1 : (k1 : Int) + 1 ≤ (kk : Int) := by omega
              have q2 : (kk : Int) ≤ (s.size : Int) := by omega
              have hkks : kk ≤ s.size := by omega
              have HKK := Lib.hid hkk
              have z3 := HA3.out.box.c.c3
              have y3 := HA3.out.box.c.f3
              have HA4 := Lib.hid (HA3.out.key (upto 125 (Lib.trimPrefix (s.data.toList.drop k1) [123])))
              have z5 := HA4.out.box.c.c5
              have y5 := HA4.out.box.c.f5
              have HA5 := Lib.hid (HA4.out.hkey true)
              have x3 := HA5.out.box.c.c3
              have hul : (upto 125 (Lib.trimPrefix (s.data.toList.drop k1) [123])).length ≤ s.size := by
                have h1 := upto_len 125 (Lib.trimPrefix (s.data.toList.drop k1) [123])
                rw [← hdq, List.length_drop, bs_size] at h1; rw [← hdq]; omega
              have hcon : (Lib.trimPrefix (s.data.toList.drop k1) [123]).contains 125 = decide (kk < s.size) := by
                rw [← hdq]
                cases hc : (s.data.toList.drop (k1 + 1)).contains 125
                · have h1 := (lead_all (· != 125) (s.data.toList.drop (k1 + 1))).2 (by
                    rw [List.all_eq_true]; intro x hx
                    have : x ≠ 125 := by rintro rfl; rw [List.contains_iff_mem.2 hx] at hc; cases hc
                    simpa using this)
                  rw [List.length_drop, bs_size] at h1
                  exact (decide_eq_false (by omega)).symm
                · have h1 := lead_lt 125 (s.data.toList.drop (k1 + 1)) hc
                  rw [List.length_drop, bs_size] at h1
                  exact (decide_eq_true (by omega)).symm
              have HCon := Lib.hid hcon
              clear hq hdq hlead hll hkk hcon
              by_cases hend : kk < s.size
              · have e1 : (kk : Int) < (s.size : Int) := by omega
                have e2 : ¬ (kk : Int) = (s.size : Int) := by omega
                have e3 : ((kk : Int) == (s.size : Int)) = false := by rw [beq_eq_false_iff_ne]; exact e2
                go_wp2_with fail
                refine (ref25_Key ⟨(upto 125 (Lib.trimPrefix (s.data.toList.drop k1) [123])).toArray⟩ _ (by show (upto 125 (Lib.trimPrefix (s.data.toList.drop k1) [123])).length ≤ _; omega)).mono ?_
                rintro e w4 ⟨rfl, rfl⟩
                have HA6 := Lib.hid HA5.out
                rw [show vkey (⟨(upto 125 (Lib.trimPrefix (s.data.toList.drop k1) [123])).toArray⟩ : ByteArray).data.toList = vkey (upto 125 (Lib.trimPrefix (s.data.toList.drop k1) [123])) from rfl]
                clear z3 y3 z5 y5 x3 hex HA3 HA4 HA5 hul
                rcases hvk : vkey (upto 125 (Lib.trimPrefix (s.data.toList.drop k1) [123])) with _ | _
                · have HKN := Lib.hid (keyAt_bad H3.out hvk)
                  clear hvk
                  have rs := HA6.out.res.c
                  have r0 := rs.c0
                  have r1 := rs.c1
                  have r2 := rs.c2
                  have r3 := rs.c3
                  have r4 := rs.c4
                  have r5 := rs.c5
                  have r6 := rs.c6
                  have g0 := rs.f0
                  have g1 := rs.f1
                  have g2 := rs.f2
                  have g3 := rs.f3
                  have g4 := rs.f4
                  have g5 := rs.f5
                  have g6 := rs.f6
                  clear rs
                  have HP := Lib.hid (put7g (.int .i64 0) (.int .i64 0) (.string ⟨#[]⟩) (.string ⟨#[]⟩) (.string ⟨#[]⟩) (.bool false) (.bool false) HA6.out.below (Nat.le_refl _) HA6.out.res)
                  have HNo := Lib.hid (show atP s.data.toList i = none by simp only [HY2.out, HU.out, HKN.out, Option.map_none])
                  go_wp2_with fail
                  clear r0 r1 r2 r3 r4 r5 r6 g0 g1 g2 g3 g4 g5 g6
                  have kk := RU.c (i := 0) (t := 0) (nm := []) (k := []) (d := []) (hk := false) (hd := false) HP.out.1
                  have k0 := kk.c0
                  have k1 := kk.c1
                  have k2 := kk.c2
                  have k3 := kk.c3
                  have k4 := kk.c4
                  have k5 := kk.c5
                  have k6 := kk.c6
                  unfold put7w at k0 k1 k2 k3 k4 k5 k6
                  refine bodyPost_ret (v := foundV none) ?_ rfl ⟨by rw [HNo.out], HP.out.2⟩
                  rw [foundV_none]
                  simp [results, Tryz.f46, go_sem, k0, k1, k2, k3, k4, k5, k6]
                · have HKY := Lib.hid (keyAt_good H3.out (HCon.out.trans (decide_eq_true hend)) hvk)
                  clear hvk
                  go_wp2_with fail
                  go_meet
                  refine ⟨upto 125 (Lib.trimPrefix (s.data.toList.drop k1) [123]), true, kk + 1, by go_num, by omega, Lib.hid ?_, HA6⟩
                  rw [HKY.out, HKK.out, show k1 + (lead (· != 125) (s.data.toList.drop (k1 + 1)) + 1) + 1 = (k1 + 1) + (lead (· != 125) (s.data.toList.drop (k1 + 1)) + 1) by omega, ← List.drop_drop, drop_past, HQ.out]
              · have e2 : kk = s.size := by omega
                have e1 : ((kk : Int) == (s.size : Int)) = true := by rw [beq_iff_eq]; omega
                have HKN := Lib.hid (keyAt_open H3.out (HCon.out.trans (decide_eq_false hend)))
                clear e2 hend
                have rs := HA5.out.res.c
                have r0 := rs.c0
                have r1 := rs.c1
                have r2 := rs.c2
                have r3 := rs.c3
                have r4 := rs.c4
                have r5 := rs.c5
                have r6 := rs.c6
                have g0 := rs.f0
                have g1 := rs.f1
                have g2 := rs.f2
                have g3 := rs.f3
                have g4 := rs.f4
                have g5 := rs.f5
                have g6 := rs.f6
                clear rs
                have HP := Lib.hid (put7g (.int .i64 0) (.int .i64 0) (.string ⟨#[]⟩) (.string ⟨#[]⟩) (.string ⟨#[]⟩) (.bool false) (.bool false) HA5.out.below (Nat.le_refl _) HA5.out.res)
                have HNo := Lib.hid (show atP s.data.toList i = none by simp only [HY2.out, HU.out, HKN.out, Option.map_none])
                go_wp2_with fail
                clear r0 r1 r2 r3 r4 r5 r6 g0 g1 g2 g3 g4 g5 g6
                have kk := RU.c (i := 0) (t := 0) (nm := []) (k := []) (d := []) (hk := false) (hd := false) HP.out.1
                have k0 := kk.c0
                have k1 := kk.c1
                have k2 := kk.c2
                have k3 := kk.c3
                have k4 := kk.c4
                have k5 := kk.c5
                have k6 := kk.c6
                unfold put7w at k0 k1 k2 k3 k4 k5 k6
                refine bodyPost_ret (v := foundV none) ?_ rfl ⟨by rw [HNo.out], HP.out.2⟩
                rw [foundV_none]
                simp [results, Tryz.f46, go_sem, k0, k1, k2, k3, k4, k5, k6]
          case rest =>
            obtain ⟨ky, hk, k2, rfl, hk2, HK, HA6⟩ := hcut
            have HU2 := Lib.hid (show useAt (s.data.toList.drop a) = otherAt nm ky hk (s.data.toList.drop k2) by rw [HU.out, HK.out])
            clear HU HK HA3 H3
            go_wp2_with fail
            refine (ref26_is s _ k2 124 wc rfl hs).mono ?_
            rintro e w3 ⟨rfl, rfl⟩
            generalize h4 : Lib.hasPrefix (s.data.toList.drop k2) [124] = b4
            have H4 := Lib.hid h4
            clear h4
            go_upto_if 89 with fail
            go_cut [7] (fun s7 wx => ∃ (d : Bs) (hd : Bool) (k3 : Nat), s7 = .int .i64 k3 ∧ k3 ≤ s.size ∧ Hid (dftAt (s.data.toList.drop k2) = some (d, hd, s.data.toList.drop k3)) ∧ Hid (At w wx i 0 nm ky d hk hd))
            case first =>
              rcases b4 with _ | _
              · go_wp2_with fail
                go_meet
                exact ⟨[], false, k2, rfl, hk2, Lib.hid (dftAt_bare H4.out), HA6⟩
              · have hq := pfx_one H4.out
                have hdq : s.data.toList.drop (k2 + 1) = Lib.trimPrefix (s.data.toList.drop k2) [124] := by
                  rw [← List.drop_drop, hq]; rfl
                have hk2lt : k2 < s.size := by
                  have := congrArg List.length hq
                  rw [List.length_drop, bs_size] at this
                  simp at this; omega
                have HQ := Lib.hid hdq
                have HDI := Lib.hid ((dftAt_in H4.out).trans (by rw [← hdq] : _ = dftIn (s.data.toList.drop (k2 + 1))))
                have z6 := HA6.out.box.c.c6
                have y6 := HA6.out.box.c.f6
                have HA7 := Lib.hid (HA6.out.hdft true)
                have i1 : (k2 : Int) + 1 ≤ (s.size : Int) := by omega
                clear hq hdq
                go_wp2_with fail
                clear z6 y6
                refine (ref26_is s _ (k2 + 1) 39 _ (by omega) hs).mono ?_
                rintro e w3 ⟨rfl, rfl⟩
                rcases h5 : Lib.hasPrefix (s.data.toList.drop (k2 + 1)) [39] with _ | _
                · have H5 := Lib.hid h5
                  clear h5
                  have hb0 : k2 + 1 ≤ s.size := by omega
                  go_upto_block 2 with fail
                  have hll := lead_le keyc (s.data.toList.drop (k2 + 1))
                  rw [List.length_drop, bs_size] at hll
                  go_cut [9] (fun s9 wx => (wc.setCell ⟨w.heap.size + 1, 6, none⟩ (.bool true)) = wx ∧ s9 = .int .i64 ((k2 + 1 + lead keyc (s.data.toList.drop (k2 + 1)) : Nat) : Int))
                  case first =>
                    go_wp2_with fail
                    go_loopg [9] (s.size - (k2 + 1)) (fun g s9 wx => (wc.setCell ⟨w.heap.size + 1, 6, none⟩ (.bool true)) = wx ∧ ∃ k : Nat, k2 + 1 ≤ k ∧ k ≤ s.size ∧ g = s.size - k ∧ k - (k2 + 1) ≤ lead keyc (s.data.toList.drop (k2 + 1)) ∧ s9 = .int .i64 k)
                    case atStart => exact ⟨rfl, k2 + 1, Nat.le_refl _, hb0, rfl, by omega, by go_num⟩
                    case round =>
                      obtain ⟨rfl, k, hak, hk', rfl, hkl, rfl⟩ := hrel
                      by_cases hlt : k < s.size
                      · have j1 : (k : Int) < (s.size : Int) := by omega
                        have hget := bs_get s k hlt
                        have hdg : (s.data.toList.drop (k2 + 1))[k - (k2 + 1)]? = some s[k] := by rw [List.getElem?_drop, show k2 + 1 + (k - (k2 + 1)) = k by omega]; exact hget
                        rcases hkc : keyc s[k] with _ | _
                        · have he : lead keyc (s.data.toList.drop (k2 + 1)) = k - (k2 + 1) := by
                            refine (lead_stop _ _ (k - (k2 + 1)) hkl ?_).symm
                            intro x hx
                            rw [hdg] at hx
                            obtain rfl := Option.some.inj hx
                            exact hkc
                          have HE := Lib.hid (show k2 + 1 + lead keyc (s.data.toList.drop (k2 + 1)) = k by omega)
                          clear he hget hdg hkl
                          go_wp2_with (go_at_call 64; refine (ref26_word _ _).mono ?_; rintro e w' ⟨rfl, rfl⟩; rw [hkc])
                          go_meet
                          exact ⟨rfl, by rw [HE.out]⟩
                        · have hst := lead_step keyc _ (k - (k2 + 1)) s[k] hkl hdg hkc
                          have HS := Lib.hid (show k + 1 - (k2 + 1) ≤ lead keyc (s.data.toList.drop (k2 + 1)) by omega)
                          clear hget hdg hkl hst
                          go_wp2_with (go_at_call 64; refine (ref26_word _ _).mono ?_; rintro e w' ⟨rfl, rfl⟩; rw [hkc])
                          go_roundg (s.size - (k + 1))
                          case measure => omega
                          case rel => exact ⟨rfl, k + 1, by omega, by omega, rfl, HS.out, by go_num⟩
                      · have HE := Lib.hid (show k2 + 1 + lead keyc (s.data.toList.drop (k2 + 1)) = k by omega)
                        have j1 : (s.size : Int) ≤ (k : Int) := by omega
                        clear hkl
                        go_wp2_with fail
                        go_meet
                        exact ⟨rfl, by rw [HE.out]⟩
                  case rest =>
                    obtain ⟨rfl, rfl⟩ := hcut
                    have hn : lead keyc (s.data.toList.drop (k2 + 1)) = ((s.data.toList.drop (k2 + 1)).takeWhile keyc).length := rfl
                    rcases hem : ((s.data.toList.drop (k2 + 1)).takeWhile keyc).isEmpty with _ | _
                    · have hpos : 0 < lead keyc (s.data.toList.drop (k2 + 1)) := by
                        rw [hn]
                        cases hx : (s.data.toList.drop (k2 + 1)).takeWhile keyc with
                        | nil => rw [hx] at hem; cases hem
                        | cons x y => simp
                      have HDY := Lib.hid (HDI.out.trans (dftIn_word H5.out hem))
                      obtain ⟨kk, hkk⟩ : ∃ kk, kk = k2 + 1 + lead keyc (s.data.toList.drop (k2 + 1)) := ⟨_, rfl⟩
                      rw [← hkk]
                      have hex : s.extract (k2 + 1) kk = ⟨((s.data.toList.drop (k2 + 1)).takeWhile keyc).toArray⟩ := by rw [hkk, ext_span, take_lead]
                      have HKK := Lib.hid hkk
                      have e3 : ((kk : Int) == (k2 : Int) + 1) = false := by rw [beq_eq_false_iff_ne]; omega
                      have q1 : (k2 : Int) + 1 ≤ (kk : Int) := by omega
                      have q2 : (kk : Int) ≤ (s.size : Int) := by omega
                      have hkks : kk ≤ s.size := by omega
                      have z4 := HA7.out.box.c.c4
                      have y4 := HA7.out.box.c.f4
                      have HA9 := Lib.hid (HA7.out.dft ((s.data.toList.drop (k2 + 1)).takeWhile keyc))
                      clear hkk hpos hn hem hll
                      go_wp2_with fail
                      go_meet
                      refine ⟨(s.data.toList.drop (k2 + 1)).takeWhile keyc, true, kk, rfl, hkks, Lib.hid ?_, HA9⟩
                      rw [HDY.out, HKK.out, drop_lead']
                    · have h0 : lead keyc (s.data.toList.drop (k2 + 1)) = 0 := by
                        rw [hn, List.isEmpty_iff.1 hem]; rfl
                      have HKN := Lib.hid (HDI.out.trans (dftIn_none H5.out hem))
                      rw [h0]
                      have e3 : (((k2 + 1 + 0 : Nat) : Int) == (k2 : Int) + 1) = true := by rw [beq_iff_eq]; omega
                      clear h0 hn hem hll
                      have rs := HA7.out.res.c
                      have r0 := rs.c0
                      have r1 := rs.c1
                      have r2 := rs.c2
                      have r3 := rs.c3
                      have r4 := rs.c4
                      have r5 := rs.c5
                      have r6 := rs.c6
                      have g0 := rs.f0
                      have g1 := rs.f1
                      have g2 := rs.f2
                      have g3 := rs.f3
                      have g4 := rs.f4
                      have g5 := rs.f5
                      have g6 := rs.f6
                      clear rs
                      have HP := Lib.hid (put7g (.int .i64 0) (.int .i64 0) (.string ⟨#[]⟩) (.string ⟨#[]⟩) (.string ⟨#[]⟩) (.bool false) (.bool false) HA7.out.below (Nat.le_refl _) HA7.out.res)
                      have HNo := Lib.hid (show atP s.data.toList i = none by simp only [HY2.out, HU2.out, other_none HKN.out, Option.map_none])
                      go_wp2_with fail
                      clear r0 r1 r2 r3 r4 r5 r6 g0 g1 g2 g3 g4 g5 g6
                      have kk := RU.c (i := 0) (t := 0) (nm := []) (k := []) (d := []) (hk := false) (hd := false) HP.out.1
                      have k0 := kk.c0
                      have k1 := kk.c1
                      have k2 := kk.c2
                      have k3 := kk.c3
                      have k4 := kk.c4
                      have k5 := kk.c5
                      have k6 := kk.c6
                      unfold put7w at k0 k1 k2 k3 k4 k5 k6
                      refine bodyPost_ret (v := foundV none) ?_ rfl ⟨by rw [HNo.out], HP.out.2⟩
                      rw [foundV_none]
                      simp [results, Tryz.f46, go_sem, k0, k1, k2, k3, k4, k5, k6]
                · have H5 := Lib.hid h5
                  have hq2 := pfx_one h5
                  have hdq2 : s.data.toList.drop (k2 + 2) = Lib.trimPrefix (s.data.toList.drop (k2 + 1)) [39] := by
                    rw [show k2 + 2 = (k2 + 1) + 1 by omega, ← List.drop_drop, hq2]; rfl
                  have hk3lt : k2 + 1 < s.size := by
                    have := congrArg List.length hq2
                    rw [List.length_drop, bs_size] at this
                    simp at this; omega
                  clear h5 hq2
                  have hll := lead_le (· != 39) (s.data.toList.drop (k2 + 2))
                  rw [List.length_drop, bs_size] at hll
                  go_wp2_with fail
                  refine (ref26_until s _ (k2 + 2) 39 _ (by omega) (by omega) hs).mono ?_
                  rintro e w3 ⟨rfl, rfl⟩
                  obtain ⟨kk, hkk⟩ : ∃ kk, kk = k2 + 2 + lead (· != 39) (s.data.toList.drop (k2 + 2)) := ⟨_, rfl⟩
                  rw [← hkk]
                  have hex : s.extract (k2 + 2) kk = ⟨(upto 39 (Lib.trimPrefix (s.data.toList.drop (k2 + 1)) [39])).toArray⟩ := by
                    rw [hkk, ext_span, take_upto, hdq2]
                  have q1 : (k2 : Int) + 2 ≤ (kk : Int) := by omega
                  have q2 : (kk : Int) ≤ (s.size : Int) := by omega
                  have hkks : kk ≤ s.size := by omega
                  have HKK := Lib.hid hkk
                  have hcon : (Lib.trimPrefix (s.data.toList.drop (k2 + 1)) [39]).contains 39 = decide (kk < s.size) := by
                    rw [← hdq2]
                    cases hc : (s.data.toList.drop (k2 + 2)).contains 39
                    · have h1 := (lead_all (· != 39) (s.data.toList.drop (k2 + 2))).2 (by
                        rw [List.all_eq_true]; intro x hx
                        have : x ≠ 39 := by rintro rfl; rw [List.contains_iff_mem.2 hx] at hc; cases hc
                        simpa using this)
                      rw [List.length_drop, bs_size] at h1
                      exact (decide_eq_false (by omega)).symm
                    · have h1 := lead_lt 39 (s.data.toList.drop (k2 + 2)) hc
                      rw [List.length_drop, bs_size] at h1
                      exact (decide_eq_true (by omega)).symm
                  have HCon := Lib.hid hcon
                  have HQ2 := Lib.hid hdq2
                  clear hdq2 hll hkk hcon
                  by_cases hend : kk < s.size
                  · have e3 : ((kk : Int) == (s.size : Int)) = false := by rw [beq_eq_false_iff_ne]; omega
                    have z4 := HA7.out.box.c.c4
                    have y4 := HA7.out.box.c.f4
                    have HA9 := Lib.hid (HA7.out.dft (upto 39 (Lib.trimPrefix (s.data.toList.drop (k2 + 1)) [39])))
                    have HDY := Lib.hid (HDI.out.trans (dftIn_good H5.out (HCon.out.trans (decide_eq_true hend))))
                    have e1 : (kk : Int) < (s.size : Int) := by omega
                    go_wp2_with fail
                    go_meet
                    refine ⟨upto 39 (Lib.trimPrefix (s.data.toList.drop (k2 + 1)) [39]), true, kk + 1, by go_num, by omega, Lib.hid ?_, HA9⟩
                    have hdr : s.data.toList.drop (kk + 1) = (s.data.toList.drop (k2 + 2)).drop (lead (· != 39) (s.data.toList.drop (k2 + 2)) + 1) := by
                      rw [List.drop_drop, HKK.out]; congr 1
                    rw [HDY.out, hdr, drop_past, HQ2.out]
                  · have e3 : ((kk : Int) == (s.size : Int)) = true := by rw [beq_iff_eq]; omega
                    have HKN := Lib.hid (HDI.out.trans (dftIn_open H5.out (HCon.out.trans (decide_eq_false hend))))
                    clear hend
                    have rs := HA7.out.res.c
                    have r0 := rs.c0
                    have r1 := rs.c1
                    have r2 := rs.c2
                    have r3 := rs.c3
                    have r4 := rs.c4
                    have r5 := rs.c5
                    have r6 := rs.c6
                    have g0 := rs.f0
                    have g1 := rs.f1
                    have g2 := rs.f2
                    have g3 := rs.f3
                    have g4 := rs.f4
                    have g5 := rs.f5
                    have g6 := rs.f6
                    clear rs
                    have HP := Lib.hid (put7g (.int .i64 0) (.int .i64 0) (.string ⟨#[]⟩) (.string ⟨#[]⟩) (.string ⟨#[]⟩) (.bool false) (.bool false) HA7.out.below (Nat.le_refl _) HA7.out.res)
                    have HNo := Lib.hid (show atP s.data.toList i = none by simp only [HY2.out, HU2.out, other_none HKN.out, Option.map_none])
                    go_wp2_with fail
                    clear r0 r1 r2 r3 r4 r5 r6 g0 g1 g2 g3 g4 g5 g6
                    have kk := RU.c (i := 0) (t := 0) (nm := []) (k := []) (d := []) (hk := false) (hd := false) HP.out.1
                    have k0 := kk.c0
                    have k1 := kk.c1
                    have k2 := kk.c2
                    have k3 := kk.c3
                    have k4 := kk.c4
                    have k5 := kk.c5
                    have k6 := kk.c6
                    unfold put7w at k0 k1 k2 k3 k4 k5 k6
                    refine bodyPost_ret (v := foundV none) ?_ rfl ⟨by rw [HNo.out], HP.out.2⟩
                    rw [foundV_none]
                    simp [results, Tryz.f46, go_sem, k0, k1, k2, k3, k4, k5, k6]
            case rest =>
              obtain ⟨d, hd, k3, rfl, hk3, HDf, HA8⟩ := hcut
              have HU3 := Lib.hid (show useAt (s.data.toList.drop a) = endAt nm ky d hk hd (s.data.toList.drop k3) by rw [HU2.out]; exact other_some HDf.out)
              clear HU2 HDf H4 HA6
              go_wp2_with fail
              refine (ref26_is s _ k3 41 _ rfl hs).mono ?_
              rintro e w3 ⟨rfl, rfl⟩
              rcases h6 : Lib.hasPrefix (s.data.toList.drop k3) [41] with _ | _
              · have HKN := Lib.hid (end_no (nm := nm) (k := ky) (d := d) (hk := hk) (hd := hd) h6)
                clear h6
                have rs := HA8.out.res.c
                have r0 := rs.c0
                have r1 := rs.c1
                have r2 := rs.c2
                have r3 := rs.c3
                have r4 := rs.c4
                have r5 := rs.c5
                have r6 := rs.c6
                have g0 := rs.f0
                have g1 := rs.f1
                have g2 := rs.f2
                have g3 := rs.f3
                have g4 := rs.f4
                have g5 := rs.f5
                have g6 := rs.f6
                clear rs
                have HP := Lib.hid (put7g (.int .i64 0) (.int .i64 0) (.string ⟨#[]⟩) (.string ⟨#[]⟩) (.string ⟨#[]⟩) (.bool false) (.bool false) HA8.out.below (Nat.le_refl _) HA8.out.res)
                have HNo := Lib.hid (show atP s.data.toList i = none by simp only [HY2.out, HU3.out, HKN.out, Option.map_none])
                go_wp2_with fail
                clear r0 r1 r2 r3 r4 r5 r6 g0 g1 g2 g3 g4 g5 g6
                have kk := RU.c (i := 0) (t := 0) (nm := []) (k := []) (d := []) (hk := false) (hd := false) HP.out.1
                have k0 := kk.c0
                have k1 := kk.c1
                have k2 := kk.c2
                have k3 := kk.c3
                have k4 := kk.c4
                have k5 := kk.c5
                have k6 := kk.c6
                unfold put7w at k0 k1 k2 k3 k4 k5 k6
                refine bodyPost_ret (v := foundV none) ?_ rfl ⟨by rw [HNo.out], HP.out.2⟩
                rw [foundV_none]
                simp [results, Tryz.f46, go_sem, k0, k1, k2, k3, k4, k5, k6]
              · have hq := pfx_one h6
                have hdq : s.data.toList.drop (k3 + 1) = Lib.trimPrefix (s.data.toList.drop k3) [41] := by
                  rw [← List.drop_drop, hq]; rfl
                have hk3lt : k3 < s.size := by
                  have := congrArg List.length hq
                  rw [List.length_drop, bs_size] at this
                  simp at this; omega
                have HFin := Lib.hid (show atP s.data.toList i = some (mkUse s.data.toList.length i ⟨nm, ky, d, hk, hd, s.data.toList.drop (k3 + 1)⟩) by
                  rw [HY2.out, HU3.out, end_yes h6, hdq]; rfl)
                clear h6 hq hdq
                have z1 := HA8.out.box.c.c1
                have y1 := HA8.out.box.c.f1
                have HA9 := Lib.hid (HA8.out.to ((k3 : Int) + 1))
                have bx := HA9.out.box.c
                have x0 := bx.c0
                have x1 := bx.c1
                have x2 := bx.c2
                have x3 := bx.c3
                have x4 := bx.c4
                have x5 := bx.c5
                have x6 := bx.c6
                have rs := HA9.out.res.c
                have r0 := rs.c0
                have r1 := rs.c1
                have r2 := rs.c2
                have r3 := rs.c3
                have r4 := rs.c4
                have r5 := rs.c5
                have r6 := rs.c6
                have g0 := rs.f0
                have g1 := rs.f1
                have g2 := rs.f2
                have g3 := rs.f3
                have g4 := rs.f4
                have g5 := rs.f5
                have g6 := rs.f6
                clear rs bx
                have HP := Lib.hid (put7g (.int .i64 (i : Int)) (.int .i64 ((k3 : Int) + 1)) (.string ⟨nm.toArray⟩) (.string ⟨ky.toArray⟩) (.string ⟨d.toArray⟩) (.bool hk) (.bool hd) HA9.out.below (Nat.le_refl _) HA9.out.res)
                have j3 : (k3 : Int) + 1 ≤ (s.size : Int) := by omega
                go_wp2_with fail
                clear x0 x1 x2 x3 x4 x5 x6 r0 r1 r2 r3 r4 r5 r6 g0 g1 g2 g3 g4 g5 g6 z1 y1
                have kk := RU.c (i := (i : Int)) (t := (k3 : Int) + 1) (nm := nm) (k := ky) (d := d) (hk := hk) (hd := hd) HP.out.1
                have k0 := kk.c0
                have k1 := kk.c1
                have k2 := kk.c2
                have k3' := kk.c3
                have k4 := kk.c4
                have k5 := kk.c5
                have k6 := kk.c6
                unfold put7w at k0 k1 k2 k3' k4 k5 k6
                refine bodyPost_ret (v := foundV (some (mkUse s.data.toList.length i ⟨nm, ky, d, hk, hd, s.data.toList.drop (k3 + 1)⟩))) ?_ rfl ⟨by rw [HFin.out], HP.out.2⟩
                have hln : ((s.data.toList.length : Nat) : Int) - (((s.data.toList.drop (k3 + 1)).length : Nat) : Int) = (k3 : Int) + 1 := by rw [List.length_drop, bs_size]; omega
                rw [found_val _ _ _ (by show (s.data.toList.drop (k3 + 1)).length ≤ _; rw [List.length_drop]; omega)]
                rw [hln]
                simp [results, Tryz.f46, go_sem, k0, k1, k2, k3', k4, k5, k6]
theorem atP_vfind {s : Bs} {k : Nat} : (∀ u, atP s k = some u → vfind s k = some u) ∧ (atP s k = none → vfind s k = vfind s (k + 1)) := by
  unfold atP
  cases h : partsAt (s.drop k) with
  | none => exact ⟨fun u hu => (by cases hu), fun _ => vfind_next h⟩
  | some p => exact ⟨fun u hu => (by rw [vfind_at h]; exact hu), fun hu => (by cases hu)⟩
theorem found_some (u : Use) : foundV (some u) = .tuple #[.agg #[.int .i64 u.src, .int .i64 u.to, .string ⟨u.name.toArray⟩, .string ⟨u.key.toArray⟩, .string ⟨u.dft.toArray⟩, .bool u.hk, .bool u.hd], .bool true] := rfl
end Go.Proofs.YtbkhmkpbbggcbaaGreatDoor
