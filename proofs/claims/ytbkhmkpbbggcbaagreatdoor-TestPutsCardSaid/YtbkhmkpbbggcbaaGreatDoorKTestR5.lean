/- The walk of the reference's comparison of tests. -/
import Derived.Test.YtbkhmkpbbggcbaaGreatDoorKTestR4
import Derived.Test.YtbkhmkpbbggcbaaGreatDoorKTestW8
namespace Go.Proofs.YtbkhmkpbbggcbaaGreatDoor
open Go.RowKit
set_option linter.unusedVariables false
def lastI (r : Bs) : Nat → Option Nat
  | 0 => none
  | k + 1 => bif Lib.hasPrefix r (sgn k) then some k else lastI r k
theorem last_best (r : Bs) : lastI r 6 = bestI r 6 := by
  simp only [lastI, bestI, sgn]
  cases r with
  | nil => rfl
  | cons c r =>
    have h1 : ∀ a : UInt8, Lib.hasPrefix (c :: r) [a] = (a == c) := fun a => by simp [Lib.hasPrefix, List.isPrefixOf]
    have h2 : ∀ a : UInt8, Lib.hasPrefix (c :: r) [a, 61] = (a == c && Lib.hasPrefix r [61]) := fun a => by simp [Lib.hasPrefix, List.isPrefixOf]
    simp only [h1, h2]
    cases Lib.hasPrefix r [61]
    · simp only [Bool.and_false, cond_false]
      cases e1 : (60 : UInt8) == c
      · cases e2 : (62 : UInt8) == c <;> rfl
      · have : c = 60 := (beq_iff_eq.1 e1).symm
        subst this; rfl
    · simp only [Bool.and_true]
      cases e0 : (61 : UInt8) == c
      · cases e3 : (33 : UInt8) == c
        · cases e1 : (60 : UInt8) == c
          · cases e2 : (62 : UInt8) == c <;> rfl
          · have : c = 60 := (beq_iff_eq.1 e1).symm
            subst this; rfl
        · have : c = 33 := (beq_iff_eq.1 e3).symm
          subst this; rfl
      · have : c = 61 := (beq_iff_eq.1 e0).symm
        subst this; rfl
theorem lastI_no {r : Bs} {j : Nat} (h : Lib.hasPrefix r (sgn j) = false) : lastI r (j + 1) = lastI r j := by
  conv => lhs; unfold lastI
  rw [h]; rfl
theorem lastI_yes {r : Bs} {j : Nat} (h : Lib.hasPrefix r (sgn j) = true) : lastI r (j + 1) = some j := by
  conv => lhs; unfold lastI
  rw [h]; rfl
theorem lastI_lt (r : Bs) : ∀ k b, lastI r k = some b → b < k ∧ Lib.hasPrefix r (sgn b) = true
  | 0, b, h => by cases h
  | k + 1, b, h => by
    cases hp : Lib.hasPrefix r (sgn k)
    · rw [lastI_no hp] at h
      have := lastI_lt r k b h
      exact ⟨by omega, this.2⟩
    · rw [lastI_yes hp] at h; cases h; exact ⟨Nat.lt_succ_self _, hp⟩
theorem cmpK_on (s : Bs) (k i : Nat) : cmpK s k i = cmpOnG s k (opK s k i) := by unfold cmpK cmpG opK cmpOnG; cases opG (dOrK s k) s i <;> rfl
theorem cmpOnG_none {s : Bs} {k t : Nat} {x : Ex} (h : lastI (rs s t) 6 = none) : cmpOnG s k (.good x t) = .good x t := cmp_none (by rw [← last_best]; exact h)
theorem cmpOnG_some {s : Bs} {k b t : Nat} {x : Ex} (h : lastI (rs s t) 6 = some b) : cmpOnG s k (.good x t) = (opK s k (pa s t + (sgn b).length)).map (twoE (4 + b) x) := cmp_some (by rw [← last_best]; exact h) rfl
theorem no_from {n m : Nat} (h1 : n = m + 1) : ¬ From n m := fun h => by have : n ≤ m := h; omega
theorem below_dn {n m : Nat} {w W : World} (h : Below n w W) : Below n w (W.drewN m) := ⟨h.os, h.tape, h.output, h.size, h.block⟩
theorem RW.drewn {w W : World} (h : RW w W) : RW w W.drew := ⟨⟨h.below.os, h.below.tape, h.below.output, h.below.size, h.below.block⟩, h.box, h.lt⟩
set_option maxRecDepth 100000 in
set_option maxHeartbeats 4000000 in
theorem ref27_comparison (w : World) (s : Bs) (i op k : Nat) (hi : i ≤ s.length) (hs : s.length ≤ 100000) (hc : RunsR 93 (args3 s op) s (opK s k)) (hF : FitsF s (opK s k)) :
    Calls Tryz.prog 82 (args3 s op i) w fun e w' => ∃ v, e = .returned v ∧ Below w.heap.size w w' ∧ Hid (RGot (From w.heap.size) w' (cmpK s k i) v) := by
  have HC := Lib.hid hc
  have HF := Lib.hid hF
  have HK0 := Lib.hid (cmpK_on s k i)
  have HFT := Lib.hid (hF i hi)
  clear hc hF
  have HRW0 := Lib.hid (RW.start w)
  have HSZ := Lib.hid (show (w.alloc gotZ).heap.size = w.heap.size + 1 by rw [World.size_alloc])
  go_enter Tryz.func82, Tryz.ntmps82
  go_wp2_with fail
  generalize hw0 : w.alloc (.cells #[.int .i64 0, .string ⟨#[]⟩, .int .i64 0, .int .i64 0, .string ⟨#[]⟩, .string ⟨#[]⟩, .string ⟨#[]⟩, .bool false, .bool false, .slice none 0 0, .int .i64 0, .int .i64 0, .int .i64 0] 73) = W0 at *
  clear hw0
  refine (HC.out W0 i hi).mono ?_
  rintro e w1 ⟨v, rfl, hb, hr⟩
  have hrg := hr.out
  have hft := HFT.out
  obtain ⟨G, hG⟩ : ∃ G, opK s k i = G := ⟨_, rfl⟩
  rw [hG] at hrg hft
  have HK1 := HK0.out
  rw [hG] at HK1
  have HK := Lib.hid HK1
  clear HK1 hG hr
  cases G with
  | wrong q e =>
    obtain ⟨k9, t, u, a, n, c, x, rfl⟩ := hrg
    have HE0 := Lib.hid (show e ≠ 0 by have := hft.2; omega)
    have hA : Below w1.heap.size w1 (w1.alloc (.cells (gotL k9 t u (.slice a n c) x (q : Int) e).toArray 73)) := (Below.refl _ _).alloc (Nat.le_refl _) _
    have HRW1 := Lib.hid ((HRW0.out.next hb).next hA)
    have HG1 := Lib.hid (heap_alloc_new w1 (.cells (gotL k9 t u (.slice a n c) x (q : Int) e).toArray 73))
    clear hb hA hft
    go_upto_region 2 with fail
    generalize w1.alloc (.cells (gotL k9 t u (.slice a n c) x (q : Int) e).toArray 73) = W1 at *
    generalize w1.heap.size = b1 at *
    have hq1 : (e == 0) = false := beq_eq_false_iff_ne.2 HE0.out
    have hq2 : (e != 0) = true := by rw [bne, hq1]; rfl
    obtain ⟨c0, c1, c2, c3, c4, c5, c6, c7, c8, c9, c10, c11, c12⟩ := got_cells HG1.out
    have HE := Lib.hid (got_end HRW1.out (show RGot (fun z => w.heap.size < z) W1 (.wrong q e) _ from ⟨k9, t, u, a, n, c, x, rfl⟩))
    obtain ⟨f0, f1, f2, f3, f4, f5, f6, f7, f8, f9, f10, f11, f12⟩ := got_frozen HRW1.out.box
    obtain ⟨g0, g1, g2, g3, g4, g5, g6, g7, g8, g9, g10, g11, g12⟩ := got_live HRW1.out.box
    go_wp2_with fail
    clear c0 c1 c2 c3 c4 c5 c6 c7 c8 c9 c10 c11 c12 hq1 hq2 f0 f1 f2 f3 f4 f5 f6 f7 f8 f9 f10 f11 f12 g0 g1 g2 g3 g4 g5 g6 g7 g8 g9 g10 g11 g12
    refine bodyPost_ret (v := gotV k9 t u (.slice a n c) x (q : Int) e) ?_ rfl ⟨_, rfl, HE.out.1, Lib.hid (by rw [HK.out]; exact HE.out.2.1)⟩
    exact results_got (b := w.heap.size) rfl rfl HE.out.2.2
  | good y t2 =>
    obtain ⟨k9, t, u, a, n, c, rfl, hx⟩ := hrg
    have hlt : t2 ≤ s.length := hft.2
    have hA : Below w1.heap.size w1 (w1.alloc (.cells (gotL k9 t u (.slice a n c) (t2 : Int) 0 0).toArray 73)) := (Below.refl _ _).alloc (Nat.le_refl _) _
    have HRW1 := Lib.hid ((HRW0.out.next hb).next hA)
    have HX1 := Lib.hid ((exAt_lo (A' := fun z => w.heap.size < z ∧ z ≠ w1.heap.size) (fun z hz h => by have h1 : W0.heap.size ≤ z := h; have := HSZ.out; exact ⟨by omega, by omega⟩) _ _ hx).next hA)
    have HG1 := Lib.hid (heap_alloc_new w1 (.cells (gotL k9 t u (.slice a n c) (t2 : Int) 0 0).toArray 73))
    have HLB := Lib.hid (show w.heap.size < w1.heap.size from (HRW0.out.next hb).lt)
    clear hb hA hft hx
    go_upto_region 2 with fail
    generalize w1.alloc (.cells (gotL k9 t u (.slice a n c) (t2 : Int) 0 0).toArray 73) = W1 at *
    generalize w1.heap.size = b1 at *
    have HY := HX1
    clear HX1
    have HBL := Lib.hid (show b1 < W1.heap.size from (Array.getElem?_eq_some_iff.1 HG1.out).1)
    obtain ⟨c0, c1, c2, c3, c4, c5, c6, c7, c8, c9, c10, c11, c12⟩ := got_cells HG1.out
    go_wp2_with fail
    clear c0 c1 c2 c3 c4 c5 c6 c7 c8 c9 c10 c11 c12
    refine (ref27_Signs W1).mono ?_
    rintro e w2 ⟨rfl, rfl⟩
    have HS1 := Lib.hid (heap_alloc_new W1 (.cells #[.string ⟨#[61, 61]⟩, .string ⟨#[33, 61]⟩, .string ⟨#[60]⟩, .string ⟨#[60, 61]⟩, .string ⟨#[62]⟩, .string ⟨#[62, 61]⟩] 9))
    have hA : Below W1.heap.size W1 (W1.alloc (.cells #[.string ⟨#[61, 61]⟩, .string ⟨#[33, 61]⟩, .string ⟨#[60]⟩, .string ⟨#[60, 61]⟩, .string ⟨#[62]⟩, .string ⟨#[62, 61]⟩] 9)) := (Below.refl _ _).alloc (Nat.le_refl _) _
    have HRW2 := Lib.hid (HRW1.out.next hA)
    have HG2 := Lib.hid (show (W1.alloc (.cells #[.string ⟨#[61, 61]⟩, .string ⟨#[33, 61]⟩, .string ⟨#[60]⟩, .string ⟨#[60, 61]⟩, .string ⟨#[62]⟩, .string ⟨#[62, 61]⟩] 9)).heap[b1]? = some (.cells (gotL k9 t u (.slice a n c) (t2 : Int) 0 0).toArray 73) from (hA.block b1 HBL.out).trans HG1.out)
    have HY2 := Lib.hid (HY.out.next hA)
    have HBN := Lib.hid (show b1 ≠ W1.heap.size by have := HBL.out; omega)
    clear hA HG1 HRW1 HY
    go_upto_region 7 with fail
    generalize W1.alloc (.cells #[.string ⟨#[61, 61]⟩, .string ⟨#[33, 61]⟩, .string ⟨#[60]⟩, .string ⟨#[60, 61]⟩, .string ⟨#[62]⟩, .string ⟨#[62, 61]⟩] 9) = W2 at *
    generalize W1.heap.size = bs at *
    have HBB := Lib.hid (Below.refl W2.heap.size W2)
    obtain ⟨r, hr2⟩ : ∃ r, rs s t2 = r := ⟨_, rfl⟩
    have HRS := Lib.hid hr2
    clear hr2
    go_loopw [8, 10] (fun bv iv wr => ∃ (j : Nat), j ≤ 6 ∧ iv = .int .i64 (j : Int) ∧ bv = bestV (lastI r j) ∧ Hid (Below W2.heap.size W2 wr)) (fun _ iv _ => 6 - (intOf iv).toNat)
    case atStart => exact ⟨0, by omega, rfl, rfl, HBB⟩
    case round =>
      obtain ⟨j, hj, rfl, rfl, HW⟩ := hrel
      have HGr := Lib.hid (show wr.heap[b1]? = _ from (HW.out.block b1 (Array.getElem?_eq_some_iff.1 HG2.out).1).trans HG2.out)
      have HSr := Lib.hid (show wr.heap[bs]? = _ from (HW.out.block bs (Array.getElem?_eq_some_iff.1 HS1.out).1).trans HS1.out)
      by_cases hlt6 : j < 6
      · have hc := signs_cell hlt6 HSr.out
        have hc2 := cell_of_row _ _ 10 _ _ _ HGr.out
        have j0 : (0 : Int) ≤ (j : Int) := by omega
        have j1 : (j : Int) < 6 := by omega
        have hHA : ∀ W, Calls Tryz.prog 48 #[.string ⟨s.toArray⟩, .int .i64 (t2 : Int), .string ⟨(sgn j).toArray⟩] W fun e w' => e = .returned (.bool (Lib.hasPrefix r (sgn j))) ∧ w' = W := fun W => (ref27_has s t2 _ (sgn j) W rfl hlt hs (by have := sgn_len j; omega)).mono fun e w' ⟨h1, h2⟩ => ⟨by rw [h1, HRS.out], h2.symm⟩
        have HHA := Lib.hid hHA
        clear hHA
        go_upto_region 9 with fail
        go_quiet ((go_at_call 48; with_reducible exact Calls.quiet_of_same (HHA.out _)))
        have HW3 := Lib.hid (show Below W2.heap.size W2 (wr.drewN nq) from below_dn HW.out)
        generalize wr.drewN nq = W3 at *
        clear hc hc2 HGr HSr HW HHA
        cases hp : Lib.hasPrefix r (sgn j)
        · have HB := Lib.hid (lastI_no hp)
          clear hp
          go_wp2_with fail
          go_roundw
          case rel => exact ⟨j + 1, by omega, by go_num, by rw [HB.out], HW3⟩
          case measure => (simp [intOf] <;> omega)
        · have HB := Lib.hid (lastI_yes hp)
          clear hp
          go_wp2_with fail
          go_roundw
          case rel => exact ⟨j + 1, by omega, by go_num, by rw [HB.out]; rfl, HW3⟩
          case measure => (simp [intOf] <;> omega)
      · obtain rfl : j = 6 := by omega
        clear hlt6 hj
        have HRWr := Lib.hid (HRW2.out.next HW.out)
        have HYr := Lib.hid (HY2.out.next HW.out)
        cases hb6 : lastI r 6 with
        | none =>
          have HK2 := Lib.hid (HK.out.trans (cmpOnG_none (by rw [HRS.out]; exact hb6)))
          clear hb6 HSr
          rw [show bestV none = Value.int .i64 (-1) from rfl]
          obtain ⟨c0, c1, c2, c3, c4, c5, c6, c7, c8, c9, c10, c11, c12⟩ := got_cells HGr.out
          have HE := Lib.hid (got_end HRWr.out (show RGot (fun z => w.heap.size < z) wr (.good y t2) _ from ⟨k9, t, u, a, n, c, rfl, exAt_lo (fun z _ h => h.1) _ _ HYr.out⟩))
          obtain ⟨f0, f1, f2, f3, f4, f5, f6, f7, f8, f9, f10, f11, f12⟩ := got_frozen HRWr.out.box
          obtain ⟨g0, g1, g2, g3, g4, g5, g6, g7, g8, g9, g10, g11, g12⟩ := got_live HRWr.out.box
          go_wp2_with fail
          clear c0 c1 c2 c3 c4 c5 c6 c7 c8 c9 c10 c11 c12 f0 f1 f2 f3 f4 f5 f6 f7 f8 f9 f10 f11 f12 g0 g1 g2 g3 g4 g5 g6 g7 g8 g9 g10 g11 g12
          refine bodyPost_ret (v := gotV k9 t u (.slice a n c) (t2 : Int) 0 0) ?_ rfl ⟨_, rfl, HE.out.1, Lib.hid (by rw [HK2.out]; exact HE.out.2.1)⟩
          exact results_got (b := w.heap.size) rfl rfl HE.out.2.2
        | some kb =>
          have HK2 := Lib.hid (HK.out.trans (cmpOnG_some (by rw [HRS.out]; exact hb6)))
          have hkb := lastI_lt r 6 kb hb6
          rw [show bestV (some kb) = Value.int .i64 (kb : Int) from rfl]
          have hpl : pa s t2 + (sgn kb).length ≤ s.length := pfx_lt hlt (by rw [HRS.out]; exact hkb.2)
          have hsl := sgn_len kb
          have hc := signs_cell hkb.1 HSr.out
          have hk6 := hkb.1
          obtain ⟨sg, hsg⟩ : ∃ sg, sgn kb = sg := ⟨_, rfl⟩
          obtain ⟨n3, hn3⟩ : ∃ n3, pa s t2 = n3 := ⟨_, rfl⟩
          rw [hsg] at hpl hsl hc HK2
          rw [hn3] at hpl HK2
          have HPA := Lib.hid hn3
          have HFT2 := Lib.hid (HF.out (n3 + sg.length) hpl)
          have b0 : ¬ (kb : Int) < 0 := by omega
          have b1' : (0 : Int) ≤ (kb : Int) := by omega
          have b2' : (kb : Int) < 6 := by omega
          have hct := cell_of_row _ _ 10 _ _ _ HGr.out
          have HS3 := Lib.hid (show wr.drew.cell? ⟨b1, 10, none⟩ = some (.int .i64 (t2 : Int)) ∧ wr.drew.cell? ⟨bs, kb, none⟩ = some (.string ⟨sg.toArray⟩) from ⟨hct, hc⟩)
          have HRd := Lib.hid HRWr.out.drewn
          have HGd := Lib.hid (show wr.drew.heap[b1]? = _ from HGr.out)
          have HSd := Lib.hid (show wr.drew.heap[bs]? = _ from HSr.out)
          have HYx := Lib.hid (exAt_lo (A' := fun z => w.heap.size < z ∧ z ≠ b1 ∧ z ≠ wr.heap.size) (fun z hz h => ⟨h.1, h.2, by omega⟩) _ _ HYr.out)
          have HYd := Lib.hid (show ExAt (fun z => w.heap.size < z ∧ z ≠ b1 ∧ z ≠ wr.heap.size) wr.drew y _ from exAt_keep (W := wr) (W' := wr.drew) (Nat.le_refl _) (fun _ _ _ => rfl) _ _ HYx.out)
          have hA : Below wr.heap.size wr (wr.alloc (.cells #[.int .i64 0, .string ⟨#[]⟩, .int .i64 0, .int .i64 0, .string ⟨#[]⟩, .string ⟨#[]⟩, .string ⟨#[]⟩, .bool false, .bool false, .slice none 0 0, .int .i64 0, .int .i64 0, .int .i64 0] 73)) := (Below.refl _ _).alloc (Nat.le_refl _) _
          have HRa := Lib.hid (show RW w (wr.alloc (.cells #[.int .i64 0, .string ⟨#[]⟩, .int .i64 0, .int .i64 0, .string ⟨#[]⟩, .string ⟨#[]⟩, .string ⟨#[]⟩, .bool false, .bool false, .slice none 0 0, .int .i64 0, .int .i64 0, .int .i64 0] 73)).drew from (HRWr.out.next hA).drewn)
          have HGa := Lib.hid (show (wr.alloc (.cells #[.int .i64 0, .string ⟨#[]⟩, .int .i64 0, .int .i64 0, .string ⟨#[]⟩, .string ⟨#[]⟩, .string ⟨#[]⟩, .bool false, .bool false, .slice none 0 0, .int .i64 0, .int .i64 0, .int .i64 0] 73)).drew.heap[b1]? = _ from row_alloc HGr.out _)
          have HSa := Lib.hid (show (wr.alloc (.cells #[.int .i64 0, .string ⟨#[]⟩, .int .i64 0, .int .i64 0, .string ⟨#[]⟩, .string ⟨#[]⟩, .string ⟨#[]⟩, .bool false, .bool false, .slice none 0 0, .int .i64 0, .int .i64 0, .int .i64 0] 73)).drew.heap[bs]? = _ from row_alloc HSr.out _)
          have HYa := Lib.hid (show ExAt (fun z => w.heap.size < z ∧ z ≠ b1 ∧ z ≠ wr.heap.size) (wr.alloc (.cells #[.int .i64 0, .string ⟨#[]⟩, .int .i64 0, .int .i64 0, .string ⟨#[]⟩, .string ⟨#[]⟩, .string ⟨#[]⟩, .bool false, .bool false, .slice none 0 0, .int .i64 0, .int .i64 0, .int .i64 0] 73)).drew y _ from exAt_keep (W := wr.alloc (.cells #[.int .i64 0, .string ⟨#[]⟩, .int .i64 0, .int .i64 0, .string ⟨#[]⟩, .string ⟨#[]⟩, .string ⟨#[]⟩, .bool false, .bool false, .slice none 0 0, .int .i64 0, .int .i64 0, .int .i64 0] 73)) (W' := (wr.alloc (.cells #[.int .i64 0, .string ⟨#[]⟩, .int .i64 0, .int .i64 0, .string ⟨#[]⟩, .string ⟨#[]⟩, .string ⟨#[]⟩, .bool false, .bool false, .slice none 0 0, .int .i64 0, .int .i64 0, .int .i64 0] 73)).drew) (Nat.le_refl _) (fun _ _ _ => rfl) _ _ (HYx.out.next hA))
          have HZa := Lib.hid (show (wr.alloc (.cells #[.int .i64 0, .string ⟨#[]⟩, .int .i64 0, .int .i64 0, .string ⟨#[]⟩, .string ⟨#[]⟩, .string ⟨#[]⟩, .bool false, .bool false, .slice none 0 0, .int .i64 0, .int .i64 0, .int .i64 0] 73)).drew.heap[wr.heap.size]? = some (.cells #[.int .i64 0, .string ⟨#[]⟩, .int .i64 0, .int .i64 0, .string ⟨#[]⟩, .string ⟨#[]⟩, .string ⟨#[]⟩, .bool false, .bool false, .slice none 0 0, .int .i64 0, .int .i64 0, .int .i64 0] 73) from heap_alloc_new wr _)
          have HSza := Lib.hid (show (wr.alloc (.cells #[.int .i64 0, .string ⟨#[]⟩, .int .i64 0, .int .i64 0, .string ⟨#[]⟩, .string ⟨#[]⟩, .string ⟨#[]⟩, .bool false, .bool false, .slice none 0 0, .int .i64 0, .int .i64 0, .int .i64 0] 73)).drew.cell? ⟨b1, 10, none⟩ = some (.int .i64 (t2 : Int)) ∧ (wr.alloc (.cells #[.int .i64 0, .string ⟨#[]⟩, .int .i64 0, .int .i64 0, .string ⟨#[]⟩, .string ⟨#[]⟩, .string ⟨#[]⟩, .bool false, .bool false, .slice none 0 0, .int .i64 0, .int .i64 0, .int .i64 0] 73)).drew.cell? ⟨bs, kb, none⟩ = some (.string ⟨sg.toArray⟩) from ⟨cell_of_row _ _ 10 _ _ _ HGa.out, hsg ▸ signs_cell hk6 HSa.out⟩)
          have HLW := Lib.hid (show w.heap.size < wr.heap.size from HRWr.out.lt)
          have HZS := Lib.hid (show (wr.alloc (.cells #[.int .i64 0, .string ⟨#[]⟩, .int .i64 0, .int .i64 0, .string ⟨#[]⟩, .string ⟨#[]⟩, .string ⟨#[]⟩, .bool false, .bool false, .slice none 0 0, .int .i64 0, .int .i64 0, .int .i64 0] 73)).drew.heap.size = wr.heap.size + 1 from World.size_alloc _ _)
          have HLS := Lib.hid (show w.heap.size < (wr.alloc (.cells #[.int .i64 0, .string ⟨#[]⟩, .int .i64 0, .int .i64 0, .string ⟨#[]⟩, .string ⟨#[]⟩, .string ⟨#[]⟩, .bool false, .bool false, .slice none 0 0, .int .i64 0, .int .i64 0, .int .i64 0] 73)).drew.heap.size by rw [HZS.out]; have := HLW.out; omega)
          have HBW := Lib.hid (show b1 < wr.heap.size from (Array.getElem?_eq_some_iff.1 HGr.out).1)
          have HK6 := Lib.hid hk6
          have hwr : IntKind.i64.wrap ((n3 : Int) + (sg.length : Int)) = ((n3 + sg.length : Nat) : Int) := by rw [IntWalk.i64_in _ (by omega)]; omega
          have HSG := Lib.hid hsg
          clear hn3 hsg hkb hb6 hA
          go_upto_region 13 with fail
          clear b0 hc hct
          go_region_held3 (fun w' => w'.cell? ⟨b1, 10, none⟩ = some (.int .i64 (t2 : Int)) ∧ w'.cell? ⟨bs, kb, none⟩ = some (.string ⟨sg.toArray⟩)) (first | with_reducible exact HS3.out | with_reducible exact HSza.out | with_reducible exact HS4.out | with_reducible exact HSb.out | with_reducible exact HSc.out | with_reducible exact HSe.out)
            (first
              | (go_at_call 38; refine (ref27_Past s _ t2 _ rfl hlt hs).mono ?_; rintro e w9 ⟨rfl, rfl⟩; rw [HPA.out])
              | (go_at_call 93; refine (HC.out wr.drew (n3 + sg.length) hpl).mono ?_; rintro e w5 ⟨v, rfl, hb, hr⟩; have hrg := hr.out; obtain ⟨kz, tz, uz, az, nz, cz, xz, qz, ez, rfl⟩ := hrg.cells; have HR5 := Lib.hid (HRd.out.next hb); have hG5 := (hb.block b1 (Array.getElem?_eq_some_iff.1 HGd.out).1).trans HGd.out; have hS5 := (hb.block bs (Array.getElem?_eq_some_iff.1 HSd.out).1).trans HSd.out; have HS4 := Lib.hid (show w5.cell? ⟨b1, 10, none⟩ = some (.int .i64 (t2 : Int)) ∧ w5.cell? ⟨bs, kb, none⟩ = some (.string ⟨sg.toArray⟩) from ⟨cell_of_row _ _ 10 _ _ _ hG5, HSG.out ▸ signs_cell HK6.out hS5⟩); have hA5 : Below w5.heap.size w5 (w5.alloc (.cells (gotL kz tz uz (.slice az nz cz) xz qz ez).toArray 73)) := (Below.refl _ _).alloc (Nat.le_refl _) _; have HSb := Lib.hid (show (w5.alloc (.cells #[.int .i64 0, .string ⟨#[]⟩, .int .i64 0, .int .i64 0, .string ⟨#[]⟩, .string ⟨#[]⟩, .string ⟨#[]⟩, .bool false, .bool false, .slice none 0 0, .int .i64 0, .int .i64 0, .int .i64 0] 73)).cell? ⟨b1, 10, none⟩ = some (.int .i64 (t2 : Int)) ∧ (w5.alloc (.cells #[.int .i64 0, .string ⟨#[]⟩, .int .i64 0, .int .i64 0, .string ⟨#[]⟩, .string ⟨#[]⟩, .string ⟨#[]⟩, .bool false, .bool false, .slice none 0 0, .int .i64 0, .int .i64 0, .int .i64 0] 73)).cell? ⟨bs, kb, none⟩ = some (.string ⟨sg.toArray⟩) from ⟨cell_of_row _ _ 10 _ _ _ (row_alloc hG5 _), HSG.out ▸ signs_cell HK6.out (row_alloc hS5 _)⟩); have HSc := Lib.hid (show (w5.alloc (.cells (gotL kz tz uz (.slice az nz cz) xz qz ez).toArray 73)).cell? ⟨b1, 10, none⟩ = some (.int .i64 (t2 : Int)) ∧ (w5.alloc (.cells (gotL kz tz uz (.slice az nz cz) xz qz ez).toArray 73)).cell? ⟨bs, kb, none⟩ = some (.string ⟨sg.toArray⟩) from ⟨cell_of_row _ _ 10 _ _ _ (row_alloc hG5 _), HSG.out ▸ signs_cell HK6.out (row_alloc hS5 _)⟩); have hr7 := HR5.out.next hA5; have hg7 := heap_alloc_new w5 (.cells (gotL kz tz uz (.slice az nz cz) xz qz ez).toArray 73); have hy7 := exAt_lo (A' := fun z => w.heap.size < z) (fun z _ h => h.1) _ _ ((HYd.out.next hb).next hA5); have hz7 := (hrg.past (m := w.heap.size) HLW.out).next hA5; have hb7 := row_alloc hG5 (.cells (gotL kz tz uz (.slice az nz cz) xz qz ez).toArray 73); have hl7 : w.heap.size < w5.heap.size := HR5.out.lt; obtain ⟨W7, hW7⟩ : ∃ W7, w5.alloc (.cells (gotL kz tz uz (.slice az nz cz) xz qz ez).toArray 73) = W7 := ⟨_, rfl⟩; obtain ⟨bb, hbb⟩ : ∃ bb, w5.heap.size = bb := ⟨_, rfl⟩; rw [hW7] at hr7 hg7 hy7 hz7 hb7; rw [hbb] at hg7 hl7; have HR7 := Lib.hid hr7; have HG7 := Lib.hid hg7; have HY7 := Lib.hid hy7; have HZ7 := Lib.hid hz7; have HL7 := Lib.hid hl7; have HB7 := Lib.hid hb7; have HW7 := Lib.hid hW7; have HBBX := Lib.hid hbb; clear hb hr hrg hG5 hS5 hW7 hbb hr7 hg7 hy7 hz7 hl7 hb7)
              | (go_at_call 93; refine (HC.out _ (n3 + sg.length) hpl).mono ?_; rintro e w5 ⟨v, rfl, hb, hr⟩; have hrg := hr.out; obtain ⟨kz, tz, uz, az, nz, cz, xz, qz, ez, rfl⟩ := hrg.cells; have HR5 := Lib.hid (HRa.out.next hb); have hG5 := (hb.block b1 (Array.getElem?_eq_some_iff.1 HGa.out).1).trans HGa.out; have hS5 := (hb.block bs (Array.getElem?_eq_some_iff.1 HSa.out).1).trans HSa.out; have HS4 := Lib.hid (show w5.cell? ⟨b1, 10, none⟩ = some (.int .i64 (t2 : Int)) ∧ w5.cell? ⟨bs, kb, none⟩ = some (.string ⟨sg.toArray⟩) from ⟨cell_of_row _ _ 10 _ _ _ hG5, HSG.out ▸ signs_cell HK6.out hS5⟩); have hZ5 := (hb.block wr.heap.size (Array.getElem?_eq_some_iff.1 HZa.out).1).trans HZa.out; have ht7 := setGot_turn w5 wr.heap.size kz tz uz (.slice az nz cz) xz qz ez; have hg7 := setGot_row (k := kz) (t := tz) (u := uz) (kv := .slice az nz cz) (x := xz) (q := qz) (e := ez) hZ5; have hr7 := HR5.out.turn ht7 HLW.out; have hb7 := (ht7.block b1 (Array.getElem?_eq_some_iff.1 hG5).1 (by have := HBW.out; intro e; cases e; omega)).trans hG5; have hS7 := (ht7.block bs (Array.getElem?_eq_some_iff.1 hS5).1 (by have := (Array.getElem?_eq_some_iff.1 HSr.out).1; intro e; cases e; omega)).trans hS5; have HSe := Lib.hid (show (setGot w5 wr.heap.size kz tz uz (.slice az nz cz) xz qz ez).cell? ⟨b1, 10, none⟩ = some (.int .i64 (t2 : Int)) ∧ (setGot w5 wr.heap.size kz tz uz (.slice az nz cz) xz qz ez).cell? ⟨bs, kb, none⟩ = some (.string ⟨sg.toArray⟩) from ⟨cell_of_row _ _ 10 _ _ _ hb7, HSG.out ▸ signs_cell HK6.out hS7⟩); have hy7 := exAt_lo (A' := fun z => w.heap.size < z) (fun z _ h => h.1) _ _ ((HYa.out.next hb).turn ht7 (fun h => h.2.2 rfl)); have hz7 := (hrg.turn ht7 (no_from HZS.out)).past (m := w.heap.size) HLS.out; have hl7 : w.heap.size < wr.heap.size := HLW.out; obtain ⟨f0, f1, f2, f3, f4, f5, f6, f7, f8, f9, f10, f11, f12⟩ := got_frozen hZ5; obtain ⟨g0, g1, g2, g3, g4, g5, g6, g7, g8, g9, g10, g11, g12⟩ := got_live hZ5; clear hZ5 ht7 hS7; obtain ⟨W7, hW7⟩ : ∃ W7, setGot w5 wr.heap.size kz tz uz (.slice az nz cz) xz qz ez = W7 := ⟨_, rfl⟩; obtain ⟨bb, hbb⟩ : ∃ bb, wr.heap.size = bb := ⟨_, rfl⟩; rw [hW7] at hr7 hg7 hy7 hz7 hb7; rw [hbb] at hg7 hl7; unfold setGot at hW7; have HR7 := Lib.hid hr7; have HG7 := Lib.hid hg7; have HY7 := Lib.hid hy7; have HZ7 := Lib.hid hz7; have HL7 := Lib.hid hl7; have HB7 := Lib.hid hb7; have HW7 := Lib.hid hW7; have HBBX := Lib.hid hbb; clear hb hr hrg hG5 hS5 hW7 hbb hr7 hg7 hy7 hz7 hl7 hb7))
          all_goals
            rename_i hheld
            clear hheld hwr
            rw [HW7.out, HBBX.out]
            try clear f0 f1 f2 f3 f4 f5 f6 f7 f8 f9 f10 f11 f12 g0 g1 g2 g3 g4 g5 g6 g7 g8 g9 g10 g11 g12
            go_upto_region 14 with fail
            clear hsl HS3 HRd HGd HSd HYx HYd HRa HGa HSa HYa HZa HSza HS4
            have hz7 := HZ7.out
            have hft := HFT2.out
            have HK3 := HK2.out
            obtain ⟨G, hG⟩ : ∃ G, opK s k (n3 + sg.length) = G := ⟨_, rfl⟩
            rw [hG] at hz7 hft HK3
            have HK4 := Lib.hid HK3
            clear HK3 hG HZ7 HFT2 HK2
            cases G with
            | wrong qq ee =>
              obtain ⟨rfl, rfl⟩ := hz7.wrongV
              have HE0 := Lib.hid (show ez ≠ 0 by have := hft.2; omega)
              have HK5 := Lib.hid (show cmpK s k i = .wrong qq ez from HK4.out)
              clear hz7 hft HK4
              have hq5 : (ez == 0) = false := beq_eq_false_iff_ne.2 HE0.out
              have hq6 : (ez != 0) = true := by rw [bne, hq5]; rfl
              obtain ⟨c0, c1, c2, c3, c4, c5, c6, c7, c8, c9, c10, c11, c12⟩ := got_cells HG7.out
              have HE := Lib.hid (got_end HR7.out (show RGot (fun z => w.heap.size < z) W7 (.wrong qq ez) _ from ⟨kz, tz, uz, az, nz, cz, xz, rfl⟩))
              obtain ⟨f0, f1, f2, f3, f4, f5, f6, f7, f8, f9, f10, f11, f12⟩ := got_frozen HR7.out.box
              obtain ⟨g0, g1, g2, g3, g4, g5, g6, g7, g8, g9, g10, g11, g12⟩ := got_live HR7.out.box
              go_wp2_with fail
              clear c0 c1 c2 c3 c4 c5 c6 c7 c8 c9 c10 c11 c12 hq5 hq6 f0 f1 f2 f3 f4 f5 f6 f7 f8 f9 f10 f11 f12 g0 g1 g2 g3 g4 g5 g6 g7 g8 g9 g10 g11 g12
              refine bodyPost_ret (v := gotV kz tz uz (.slice az nz cz) xz (qq : Int) ez) ?_ rfl ⟨_, rfl, HE.out.1, Lib.hid (by rw [HK5.out]; exact HE.out.2.1)⟩
              exact results_got (b := w.heap.size) rfl rfl HE.out.2.2
            | good z t3 =>
              obtain ⟨rfl, rfl, rfl, hz⟩ := hz7.goodV
              have HK5 := Lib.hid (show cmpK s k i = .good (twoE (4 + (kb : Int)) y z) t3 from HK4.out)
              have HZ := Lib.hid hz
              clear hz7 hft HK4 hz
              have hA : Below W7.heap.size W7 (W7.alloc (.cells (exL k9 t u (.slice a n c) ++ exL kz tz uz (.slice az nz cz)).toArray 37)) := (Below.refl _ _).alloc (Nat.le_refl _) _
              have HE := Lib.hid (got_end (HR7.out.next hA) (show RGot (fun z => w.heap.size < z) (W7.alloc (.cells (exL k9 t u (.slice a n c) ++ exL kz tz uz (.slice az nz cz)).toArray 37)) (.good (twoE (4 + (kb : Int)) y z) t3) (gotV (4 + (kb : Int)) [] noUseI (.slice (some ⟨W7.heap.size, 0, none⟩) 2 2) (t3 : Int) 0 0) from ⟨_, [], noUseI, _, _, _, rfl, exAt_two _ HY7.out HZ.out HR7.out.lt⟩))
              have k4 : IntKind.i64.wrap ((4 : Int) + (kb : Int)) = 4 + (kb : Int) := IntWalk.i64_in _ (by omega)
              obtain ⟨c0, c1, c2, c3, c4, c5, c6, c7, c8, c9, c10, c11, c12⟩ := got_cells HG7.out
              obtain ⟨d0, d1, d2, d3, d4, d5, d6, d7, d8, d9, d10, d11, d12⟩ := got_alloc HG7.out
              obtain ⟨v0, v1, v2, v3, v4, v5, v6, v7, v8, v9, v10, v11, v12⟩ := got_cells HB7.out
              obtain ⟨f0, f1, f2, f3, f4, f5, f6, f7, f8, f9, f10, f11, f12⟩ := got_thaw HR7.out.box
              obtain ⟨g0, g1, g2, g3, g4, g5, g6, g7, g8, g9, g10, g11, g12⟩ := got_alloc HR7.out.box
              clear hA
              go_wp2_with fail
              clear f0 f1 f2 f3 f4 f5 f6 f7 f8 f9 f10 f11 f12 g0 g1 g2 g3 g4 g5 g6 g7 g8 g9 g10 g11 g12 c0 c1 c2 c3 c4 c5 c6 c7 c8 c9 c10 c11 c12 d0 d1 d2 d3 d4 d5 d6 d7 d8 d9 d10 d11 d12 v0 v1 v2 v3 v4 v5 v6 v7 v8 v9 v10 v11 v12
              refine bodyPost_ret (v := gotV (4 + (kb : Int)) [] noUseI (.slice (some ⟨W7.heap.size, 0, none⟩) 2 2) (t3 : Int) 0 0) ?_ rfl ⟨_, rfl, HE.out.1, Lib.hid (by rw [HK5.out]; exact HE.out.2.1)⟩
              exact results_got (b := w.heap.size) rfl rfl HE.out.2.2
end Go.Proofs.YtbkhmkpbbggcbaaGreatDoor
