/- The walks of the reference's rules on tests: one, not, bracket. -/
import Derived.Test.YtbkhmkpbbggcbaaGreatDoorKTestR2
import Derived.Test.YtbkhmkpbbggcbaaGreatDoorKTestW7
namespace Go.Proofs.YtbkhmkpbbggcbaaGreatDoor
open Go.RowKit
set_option linter.unusedVariables false
theorem RGot.past {n m : Nat} {W : World} {g : Got} {v : Value} (h : RGot (From n) W g v) (hn : m < n) : RGot (fun z => m < z) W g v := h.weak (fun b _ hb => by have : n ≤ b := hb; omega)
theorem rwrong (A : Nat → Prop) (W : World) (q : Nat) (e : Int) : RGot A W (.wrong q e) (gotV 0 [] noUseI (.slice none 0 0) 0 (q : Int) e) := ⟨0, [], noUseI, none, 0, 0, 0, rfl⟩
set_option maxRecDepth 100000 in
set_option maxHeartbeats 4000000 in
theorem ref27_one0 (w : World) (s : Bs) (i op : Nat) (g : Nat → Got) (hi : i ≤ s.length) (hc : RunsR 37 (args4 s op 1) s g) :
    Calls Tryz.prog 47 (args4 s op 0 i) w fun e w' => ∃ v, e = .returned v ∧ Below w.heap.size w w' ∧ Hid (RGot (From w.heap.size) w' (g i) v) := by
  have HC := Lib.hid hc
  clear hc
  have HRW0 := Lib.hid (RW.start w)
  have HSZ := Lib.hid (show (w.alloc gotZ).heap.size = w.heap.size + 1 by rw [World.size_alloc])
  go_enter Tryz.func47, Tryz.ntmps47
  go_wp2_with fail
  generalize hw0 : w.alloc (.cells #[.int .i64 0, .string ⟨#[]⟩, .int .i64 0, .int .i64 0, .string ⟨#[]⟩, .string ⟨#[]⟩, .string ⟨#[]⟩, .bool false, .bool false, .slice none 0 0, .int .i64 0, .int .i64 0, .int .i64 0] 73) = W0 at *
  clear hw0
  refine (HC.out W0 i hi).mono ?_
  rintro e w1 ⟨v, rfl, hb, hr⟩
  have hrg := hr.out
  obtain ⟨k, t, u, a, n, c, x, q, e, rfl⟩ := hrg.cells
  have HRW := Lib.hid (HRW0.out.next hb)
  have HRG := Lib.hid (hrg.past (m := w.heap.size) (by have := HSZ.out; omega))
  clear hb hr hrg
  have HE := Lib.hid (got_end HRW.out (HRG.out))
  obtain ⟨f0, f1, f2, f3, f4, f5, f6, f7, f8, f9, f10, f11, f12⟩ := got_frozen HRW.out.box
  obtain ⟨g0, g1, g2, g3, g4, g5, g6, g7, g8, g9, g10, g11, g12⟩ := got_live HRW.out.box
  go_wp2_with fail
  clear f0 f1 f2 f3 f4 f5 f6 f7 f8 f9 f10 f11 f12 g0 g1 g2 g3 g4 g5 g6 g7 g8 g9 g10 g11 g12
  refine bodyPost_ret (v := gotV k t u (.slice a n c) x q e) ?_ rfl ⟨_, rfl, HE.out.1, Lib.hid (HE.out.2.1)⟩
  exact results_got (b := w.heap.size) rfl rfl HE.out.2.2
set_option maxRecDepth 100000 in
set_option maxHeartbeats 4000000 in
theorem ref27_one1 (w : World) (s : Bs) (i op : Nat) (g : Nat → Got) (hi : i ≤ s.length) (hc : RunsR 68 (args3 s op) s g) :
    Calls Tryz.prog 47 (args4 s op 1 i) w fun e w' => ∃ v, e = .returned v ∧ Below w.heap.size w w' ∧ Hid (RGot (From w.heap.size) w' (g i) v) := by
  have HC := Lib.hid hc
  clear hc
  have HRW0 := Lib.hid (RW.start w)
  have HSZ := Lib.hid (show (w.alloc gotZ).heap.size = w.heap.size + 1 by rw [World.size_alloc])
  go_enter Tryz.func47, Tryz.ntmps47
  go_wp2_with fail
  generalize hw0 : w.alloc (.cells #[.int .i64 0, .string ⟨#[]⟩, .int .i64 0, .int .i64 0, .string ⟨#[]⟩, .string ⟨#[]⟩, .string ⟨#[]⟩, .bool false, .bool false, .slice none 0 0, .int .i64 0, .int .i64 0, .int .i64 0] 73) = W0 at *
  clear hw0
  refine (HC.out W0 i hi).mono ?_
  rintro e w1 ⟨v, rfl, hb, hr⟩
  have hrg := hr.out
  obtain ⟨k, t, u, a, n, c, x, q, e, rfl⟩ := hrg.cells
  have HRW := Lib.hid (HRW0.out.next hb)
  have HRG := Lib.hid (hrg.past (m := w.heap.size) (by have := HSZ.out; omega))
  clear hb hr hrg
  have HE := Lib.hid (got_end HRW.out (HRG.out))
  obtain ⟨f0, f1, f2, f3, f4, f5, f6, f7, f8, f9, f10, f11, f12⟩ := got_frozen HRW.out.box
  obtain ⟨g0, g1, g2, g3, g4, g5, g6, g7, g8, g9, g10, g11, g12⟩ := got_live HRW.out.box
  go_wp2_with fail
  clear f0 f1 f2 f3 f4 f5 f6 f7 f8 f9 f10 f11 f12 g0 g1 g2 g3 g4 g5 g6 g7 g8 g9 g10 g11 g12
  refine bodyPost_ret (v := gotV k t u (.slice a n c) x q e) ?_ rfl ⟨_, rfl, HE.out.1, Lib.hid (HE.out.2.1)⟩
  exact results_got (b := w.heap.size) rfl rfl HE.out.2.2
set_option maxRecDepth 100000 in
set_option maxHeartbeats 4000000 in
theorem ref27_not (w : World) (s : Bs) (i op k : Nat) (hi : i ≤ s.length) (hs : s.length ≤ 100000) (hop : op + k = 16) (hc : RunsR 82 (args3 s op) s (cmpK s k))
    (hn : ∀ j, k = j + 1 → RunsR 68 (args3 s (op + 1)) s (notK s j)) :
    Calls Tryz.prog 68 (args3 s op i) w fun e w' => ∃ v, e = .returned v ∧ Below w.heap.size w w' ∧ Hid (RGot (From w.heap.size) w' (notK s k i) v) := by
  have HC := Lib.hid hc
  have HN := Lib.hid hn
  have HOP := Lib.hid hop
  have HPL := Lib.hid (pa_le s i)
  clear hc hn hop
  have HRW0 := Lib.hid (RW.start w)
  have HSZ := Lib.hid (show (w.alloc gotZ).heap.size = w.heap.size + 1 by rw [World.size_alloc])
  go_enter Tryz.func68, Tryz.ntmps68
  go_wp2_with fail
  generalize hw0 : w.alloc (.cells #[.int .i64 0, .string ⟨#[]⟩, .int .i64 0, .int .i64 0, .string ⟨#[]⟩, .string ⟨#[]⟩, .string ⟨#[]⟩, .bool false, .bool false, .slice none 0 0, .int .i64 0, .int .i64 0, .int .i64 0] 73) = W0 at *
  clear hw0
  refine (ref27_Past s _ i W0 rfl hi hs).mono ?_
  rintro e w1 ⟨rfl, rfl⟩
  go_wp2_with fail
  refine (ref27_has s (pa s i) _ [33] W0 rfl (pa_le s i) hs (by decide)).mono ?_
  rintro e w1 ⟨rfl, rfl⟩
  rw [rs_pa s hi]
  cases hp : Lib.hasPrefix (rs s i) [33]
  · have HK := Lib.hid (notK_no (k := k) hp)
    clear hp
    go_wp2_with fail
    refine (HC.out W0 (pa s i) HPL.out).mono ?_
    rintro e w1 ⟨v, rfl, hb, hr⟩
    rw [cmpK_pa hi] at hr
    have hrg := hr.out
    obtain ⟨kk, t, u, a, n, c, x, q, e, rfl⟩ := hrg.cells
    have HRW := Lib.hid (HRW0.out.next hb)
    have HRG := Lib.hid (hrg.past (m := w.heap.size) (by have := HSZ.out; omega))
    clear hb hr hrg
    have HE := Lib.hid (got_end HRW.out (HRG.out))
    obtain ⟨f0, f1, f2, f3, f4, f5, f6, f7, f8, f9, f10, f11, f12⟩ := got_frozen HRW.out.box
    obtain ⟨g0, g1, g2, g3, g4, g5, g6, g7, g8, g9, g10, g11, g12⟩ := got_live HRW.out.box
    go_wp2_with fail
    clear f0 f1 f2 f3 f4 f5 f6 f7 f8 f9 f10 f11 f12 g0 g1 g2 g3 g4 g5 g6 g7 g8 g9 g10 g11 g12
    refine bodyPost_ret (v := gotV kk t u (.slice a n c) x q e) ?_ rfl ⟨_, rfl, HE.out.1, Lib.hid (by rw [HK.out]; exact HE.out.2.1)⟩
    exact results_got (b := w.heap.size) rfl rfl HE.out.2.2
  · have hln := pfx_lt hi hp
    rw [List.length_singleton] at hln
    cases k with
    | zero =>
      have HK := Lib.hid (notK_long hp)
      have o1 : (op : Int) = 16 := by have := HOP.out; omega
      clear hp hln
      go_wp2_with fail
      refine (ref27_wrong _ 3 W0).mono ?_
      rintro e w1 ⟨rfl, hb⟩
      have HRW := Lib.hid (HRW0.out.next hb)
      clear hb o1
      have HE := Lib.hid (got_end HRW.out (rwrong _ _ (pa s i) 3))
      obtain ⟨f0, f1, f2, f3, f4, f5, f6, f7, f8, f9, f10, f11, f12⟩ := got_frozen HRW.out.box
      obtain ⟨g0, g1, g2, g3, g4, g5, g6, g7, g8, g9, g10, g11, g12⟩ := got_live HRW.out.box
      go_wp2_with fail
      clear f0 f1 f2 f3 f4 f5 f6 f7 f8 f9 f10 f11 f12 g0 g1 g2 g3 g4 g5 g6 g7 g8 g9 g10 g11 g12
      refine bodyPost_ret (v := gotV 0 [] noUseI (.slice none 0 0) 0 (pa s i : Int) 3) ?_ rfl ⟨_, rfl, HE.out.1, Lib.hid (by rw [HK.out]; exact HE.out.2.1)⟩
      exact results_got (b := w.heap.size) rfl rfl HE.out.2.2
    | succ k =>
      have HK0 := Lib.hid (notK_yes (k := k) hp)
      have o1 : ((op : Int) == 16) = false := by rw [beq_eq_false_iff_ne]; have := HOP.out; omega
      have o2 : (op : Int) ≤ 16 := by have := HOP.out; omega
      have HFT := Lib.hid ((lev_fits s k).2 (pa s i + 1) hln)
      clear hp
      go_wp2_with fail
      clear o1 o2
      refine (HN.out k rfl W0 (pa s i + 1) hln).mono ?_
      rintro e w1 ⟨v, rfl, hb, hr⟩
      have hrg := hr.out
      have hft := HFT.out
      obtain ⟨G, hG⟩ : ∃ G, notK s k (pa s i + 1) = G := ⟨_, rfl⟩
      rw [hG] at hrg hft
      have HK1 := HK0.out
      rw [hG] at HK1
      have HK := Lib.hid HK1
      clear HK1 hG hr
      cases G with
      | wrong q e =>
        obtain ⟨k9, t, u, a, n, c, x, rfl⟩ := hrg
        have HE0 := Lib.hid (show e ≠ 0 by have := hft.2; omega)
        have hA : Below w1.heap.size w1 (w1.alloc (.cells (gotL k9 t u (.slice a n c) x (q : Int) e).toArray 73)) := (Below.refl _ _).alloc (Nat.le_refl _) _
        have HRW1 := Lib.hid ((HRW0.out.next hb).next hA)
        have HG1 := Lib.hid (heap_alloc_new w1 (.cells (gotL k9 t u (.slice a n c) x (q : Int) e).toArray 73))
        clear hb hA hft
        go_upto_region 7 with fail
        generalize w1.alloc (.cells (gotL k9 t u (.slice a n c) x (q : Int) e).toArray 73) = W1 at *
        generalize w1.heap.size = b1 at *
        have hq1 : (e == 0) = false := beq_eq_false_iff_ne.2 HE0.out
        have hq2 : (e != 0) = true := by rw [bne, hq1]; rfl
        obtain ⟨c0, c1, c2, c3, c4, c5, c6, c7, c8, c9, c10, c11, c12⟩ := got_cells HG1.out
        have HE := Lib.hid (got_end HRW1.out (show RGot (fun z => w.heap.size < z) W1 (.wrong q e) _ from ⟨k9, t, u, a, n, c, x, rfl⟩))
        obtain ⟨f0, f1, f2, f3, f4, f5, f6, f7, f8, f9, f10, f11, f12⟩ := got_frozen HRW1.out.box
        obtain ⟨g0, g1, g2, g3, g4, g5, g6, g7, g8, g9, g10, g11, g12⟩ := got_live HRW1.out.box
        go_wp2_with fail
        clear c0 c1 c2 c3 c4 c5 c6 c7 c8 c9 c10 c11 c12 hq1 hq2 f0 f1 f2 f3 f4 f5 f6 f7 f8 f9 f10 f11 f12 g0 g1 g2 g3 g4 g5 g6 g7 g8 g9 g10 g11 g12
        refine bodyPost_ret (v := gotV k9 t u (.slice a n c) x (q : Int) e) ?_ rfl ⟨_, rfl, HE.out.1, Lib.hid (by rw [HK.out]; exact HE.out.2.1)⟩
        exact results_got (b := w.heap.size) rfl rfl HE.out.2.2
      | good y t2 =>
        obtain ⟨k9, t, u, a, n, c, rfl, hx⟩ := hrg
        have hlt : t2 ≤ s.length := hft.2
        have hA : Below w1.heap.size w1 (w1.alloc (.cells (gotL k9 t u (.slice a n c) (t2 : Int) 0 0).toArray 73)) := (Below.refl _ _).alloc (Nat.le_refl _) _
        have HRW1 := Lib.hid ((HRW0.out.next hb).next hA)
        have HX1 := Lib.hid ((exAt_lo (A' := fun z => w.heap.size < z ∧ z ≠ w1.heap.size) (fun z hz h => by have h1 : W0.heap.size ≤ z := h; have := HSZ.out; exact ⟨by omega, by omega⟩) _ _ hx).next hA)
        have HG1 := Lib.hid (heap_alloc_new w1 (.cells (gotL k9 t u (.slice a n c) (t2 : Int) 0 0).toArray 73))
        have HLB := Lib.hid (show w.heap.size < w1.heap.size from (HRW0.out.next hb).lt)
        clear hb hA hft hx
        go_upto_region 7 with fail
        generalize w1.alloc (.cells (gotL k9 t u (.slice a n c) (t2 : Int) 0 0).toArray 73) = W1 at *
        generalize w1.heap.size = b1 at *
        obtain ⟨c0, c1, c2, c3, c4, c5, c6, c7, c8, c9, c10, c11, c12⟩ := got_cells HG1.out
        obtain ⟨d0, d1, d2, d3, d4, d5, d6, d7, d8, d9, d10, d11, d12⟩ := got_alloc HG1.out
        have hA : Below W1.heap.size W1 (W1.alloc (.cells (exL k9 t u (.slice a n c)).toArray 37)) := (Below.refl _ _).alloc (Nat.le_refl _) _
        have HRW2 := Lib.hid (HRW1.out.next hA)
        have HE := Lib.hid (got_end HRW2.out (show RGot (fun z => w.heap.size < z) (W1.alloc (.cells (exL k9 t u (.slice a n c)).toArray 37)) (.good (oneE 3 y) t2) (gotV 3 [] noUseI (.slice (some ⟨W1.heap.size, 0, none⟩) 1 1) (t2 : Int) 0 0) from ⟨3, [], noUseI, _, _, _, rfl, exAt_one 3 (exAt_lo (fun z _ h => h.1) _ _ HX1.out) HRW1.out.lt⟩))
        obtain ⟨f0, f1, f2, f3, f4, f5, f6, f7, f8, f9, f10, f11, f12⟩ := got_thaw HRW1.out.box
        obtain ⟨g0, g1, g2, g3, g4, g5, g6, g7, g8, g9, g10, g11, g12⟩ := got_alloc HRW1.out.box
        clear hA
        go_wp2_with fail
        clear f0 f1 f2 f3 f4 f5 f6 f7 f8 f9 f10 f11 f12 g0 g1 g2 g3 g4 g5 g6 g7 g8 g9 g10 g11 g12 c0 c1 c2 c3 c4 c5 c6 c7 c8 c9 c10 c11 c12 d0 d1 d2 d3 d4 d5 d6 d7 d8 d9 d10 d11 d12
        refine bodyPost_ret (v := gotV 3 [] noUseI (.slice (some ⟨W1.heap.size, 0, none⟩) 1 1) (t2 : Int) 0 0) ?_ rfl ⟨_, rfl, HE.out.1, Lib.hid (by rw [HK.out]; exact HE.out.2.1)⟩
        exact results_got (b := w.heap.size) rfl rfl HE.out.2.2
theorem brG_0 (s : Bs) (i : Nat) : brG (dOrK s 0) s i = .wrong i 3 := rfl
theorem brG_S (s : Bs) (k i : Nat) : brG (dOrK s (k + 1)) s i = match orK s k (i + 1) with | .wrong p e => Got.wrong p e | .good x t => bif Lib.hasPrefix (rs s t) [41] then Got.good x (pa s t + 1) else Got.wrong (pa s t) 15 := rfl
set_option maxRecDepth 100000 in
set_option maxHeartbeats 4000000 in
theorem ref27_bracket (w : World) (s : Bs) (i op k : Nat) (hi : i + 1 ≤ s.length) (hs : s.length ≤ 100000) (hop : op + k = 16)
    (hn : ∀ j, k = j + 1 → RunsR 37 (args4 s (op + 1) 0) s (orK s j)) :
    Calls Tryz.prog 109 (args3 s op i) w fun e w' => ∃ v, e = .returned v ∧ Below w.heap.size w w' ∧ Hid (RGot (From w.heap.size) w' (brG (dOrK s k) s i) v) := by
  have HN := Lib.hid hn
  have HOP := Lib.hid hop
  clear hn hop
  have HRW0 := Lib.hid (RW.start w)
  have HSZ := Lib.hid (show (w.alloc gotZ).heap.size = w.heap.size + 1 by rw [World.size_alloc])
  go_enter Tryz.func109, Tryz.ntmps109
  go_upto_region 1 with fail
  generalize hw0 : w.alloc (.cells #[.int .i64 0, .string ⟨#[]⟩, .int .i64 0, .int .i64 0, .string ⟨#[]⟩, .string ⟨#[]⟩, .string ⟨#[]⟩, .bool false, .bool false, .slice none 0 0, .int .i64 0, .int .i64 0, .int .i64 0] 73) = W0 at *
  clear hw0
  cases k with
  | zero =>
    have HK := Lib.hid (brG_0 s i)
    have o1 : (op : Int) = 16 := by have := HOP.out; omega
    go_wp2_with fail
    refine (ref27_wrong _ 3 W0).mono ?_
    rintro e w1 ⟨rfl, hb⟩
    have HRW := Lib.hid (HRW0.out.next hb)
    clear hb o1
    have HE := Lib.hid (got_end HRW.out (rwrong _ _ i 3))
    obtain ⟨f0, f1, f2, f3, f4, f5, f6, f7, f8, f9, f10, f11, f12⟩ := got_frozen HRW.out.box
    obtain ⟨g0, g1, g2, g3, g4, g5, g6, g7, g8, g9, g10, g11, g12⟩ := got_live HRW.out.box
    go_wp2_with fail
    clear f0 f1 f2 f3 f4 f5 f6 f7 f8 f9 f10 f11 f12 g0 g1 g2 g3 g4 g5 g6 g7 g8 g9 g10 g11 g12
    refine bodyPost_ret (v := gotV 0 [] noUseI (.slice none 0 0) 0 (i : Int) 3) ?_ rfl ⟨_, rfl, HE.out.1, Lib.hid (by rw [HK.out]; exact HE.out.2.1)⟩
    exact results_got (b := w.heap.size) rfl rfl HE.out.2.2
  | succ k =>
    have HK0 := Lib.hid (brG_S s k i)
    have o1 : ((op : Int) == 16) = false := by rw [beq_eq_false_iff_ne]; have := HOP.out; omega
    have o2 : (op : Int) ≤ 16 := by have := HOP.out; omega
    have HFT := Lib.hid ((lev_fits s k).1 (i + 1) hi)
    go_wp2_with fail
    clear o1 o2
    refine (HN.out k rfl W0 (i + 1) hi).mono ?_
    rintro e w1 ⟨v, rfl, hb, hr⟩
    have hrg := hr.out
    have hft := HFT.out
    obtain ⟨G, hG⟩ : ∃ G, orK s k (i + 1) = G := ⟨_, rfl⟩
    rw [hG] at hrg hft
    have HK1 := HK0.out
    rw [hG] at HK1
    have HK := Lib.hid HK1
    clear HK1 hG hr
    cases G with
    | wrong q e =>
      obtain ⟨k9, t, u, a, n, c, x, rfl⟩ := hrg
      have HE0 := Lib.hid (show e ≠ 0 by have := hft.2; omega)
      have hA : Below w1.heap.size w1 (w1.alloc (.cells (gotL k9 t u (.slice a n c) x (q : Int) e).toArray 73)) := (Below.refl _ _).alloc (Nat.le_refl _) _
      have HRW1 := Lib.hid ((HRW0.out.next hb).next hA)
      have HG1 := Lib.hid (heap_alloc_new w1 (.cells (gotL k9 t u (.slice a n c) x (q : Int) e).toArray 73))
      clear hb hA hft
      go_upto_region 4 with fail
      generalize w1.alloc (.cells (gotL k9 t u (.slice a n c) x (q : Int) e).toArray 73) = W1 at *
      generalize w1.heap.size = b1 at *
      have hq1 : (e == 0) = false := beq_eq_false_iff_ne.2 HE0.out
      have hq2 : (e != 0) = true := by rw [bne, hq1]; rfl
      obtain ⟨c0, c1, c2, c3, c4, c5, c6, c7, c8, c9, c10, c11, c12⟩ := got_cells HG1.out
      have HE := Lib.hid (got_end HRW1.out (show RGot (fun z => w.heap.size < z) W1 (.wrong q e) _ from ⟨k9, t, u, a, n, c, x, rfl⟩))
      obtain ⟨f0, f1, f2, f3, f4, f5, f6, f7, f8, f9, f10, f11, f12⟩ := got_frozen HRW1.out.box
      obtain ⟨g0, g1, g2, g3, g4, g5, g6, g7, g8, g9, g10, g11, g12⟩ := got_live HRW1.out.box
      go_wp2_with fail
      clear c0 c1 c2 c3 c4 c5 c6 c7 c8 c9 c10 c11 c12 hq1 hq2 f0 f1 f2 f3 f4 f5 f6 f7 f8 f9 f10 f11 f12 g0 g1 g2 g3 g4 g5 g6 g7 g8 g9 g10 g11 g12
      refine bodyPost_ret (v := gotV k9 t u (.slice a n c) x (q : Int) e) ?_ rfl ⟨_, rfl, HE.out.1, Lib.hid (by rw [HK.out]; exact HE.out.2.1)⟩
      exact results_got (b := w.heap.size) rfl rfl HE.out.2.2
    | good y t2 =>
      obtain ⟨k9, t, u, a, n, c, rfl, hx⟩ := hrg
      have hlt : t2 ≤ s.length := hft.2
      have hA : Below w1.heap.size w1 (w1.alloc (.cells (gotL k9 t u (.slice a n c) (t2 : Int) 0 0).toArray 73)) := (Below.refl _ _).alloc (Nat.le_refl _) _
      have HRW1 := Lib.hid ((HRW0.out.next hb).next hA)
      have HX1 := Lib.hid ((exAt_lo (A' := fun z => w.heap.size < z ∧ z ≠ w1.heap.size) (fun z hz h => by have h1 : W0.heap.size ≤ z := h; have := HSZ.out; exact ⟨by omega, by omega⟩) _ _ hx).next hA)
      have HG1 := Lib.hid (heap_alloc_new w1 (.cells (gotL k9 t u (.slice a n c) (t2 : Int) 0 0).toArray 73))
      have HLB := Lib.hid (show w.heap.size < w1.heap.size from (HRW0.out.next hb).lt)
      clear hb hA hft hx
      go_upto_region 4 with fail
      generalize w1.alloc (.cells (gotL k9 t u (.slice a n c) (t2 : Int) 0 0).toArray 73) = W1 at *
      generalize w1.heap.size = b1 at *
      obtain ⟨c0, c1, c2, c3, c4, c5, c6, c7, c8, c9, c10, c11, c12⟩ := got_cells HG1.out
      go_wp2_with fail
      refine (ref27_has s t2 _ [41] W1 rfl hlt hs (by decide)).mono ?_
      rintro e w2 ⟨rfl, rfl⟩
      have HPQ := Lib.hid (pa_le s t2)
      cases hp : Lib.hasPrefix (rs s t2) [41]
      · have HK2 := Lib.hid (HK.out.trans (show (bif Lib.hasPrefix (rs s t2) [41] then Got.good y (pa s t2 + 1) else Got.wrong (pa s t2) 15) = .wrong (pa s t2) 15 by rw [hp]; rfl))
        clear hp
        go_wp2_with fail
        refine (ref27_Past s _ t2 W1 rfl hlt hs).mono ?_
        rintro e w2 ⟨rfl, rfl⟩
        go_wp2_with fail
        refine (ref27_wrong _ 15 W1).mono ?_
        rintro e w2 ⟨rfl, hb⟩
        have HRW2 := Lib.hid (HRW1.out.next hb)
        clear hb c0 c1 c2 c3 c4 c5 c6 c7 c8 c9 c10 c11 c12
        have HE := Lib.hid (got_end HRW2.out (rwrong _ _ (pa s t2) 15))
        obtain ⟨f0, f1, f2, f3, f4, f5, f6, f7, f8, f9, f10, f11, f12⟩ := got_frozen HRW2.out.box
        obtain ⟨g0, g1, g2, g3, g4, g5, g6, g7, g8, g9, g10, g11, g12⟩ := got_live HRW2.out.box
        go_wp2_with fail
        clear f0 f1 f2 f3 f4 f5 f6 f7 f8 f9 f10 f11 f12 g0 g1 g2 g3 g4 g5 g6 g7 g8 g9 g10 g11 g12
        refine bodyPost_ret (v := gotV 0 [] noUseI (.slice none 0 0) 0 (pa s t2 : Int) 15) ?_ rfl ⟨_, rfl, HE.out.1, Lib.hid (by rw [HK2.out]; exact HE.out.2.1)⟩
        exact results_got (b := w.heap.size) rfl rfl HE.out.2.2
      · have HK2 := Lib.hid (HK.out.trans (show (bif Lib.hasPrefix (rs s t2) [41] then Got.good y (pa s t2 + 1) else Got.wrong (pa s t2) 15) = .good y (pa s t2 + 1) by rw [hp]; rfl))
        clear hp
        go_wp2_with fail
        refine (ref27_Past s _ t2 W1 rfl hlt hs).mono ?_
        rintro e w2 ⟨rfl, rfl⟩
        obtain ⟨n3, hn3⟩ : ∃ n3, pa s t2 = n3 := ⟨_, rfl⟩
        rw [hn3]
        rw [hn3] at HPQ HK2
        have hn4 : n3 ≤ s.length := HPQ.out
        have ht9 : Turn b1 W1 (W1.setCell ⟨b1, 10, none⟩ (.int .i64 ((n3 : Int) + 1))) := (Turn.refl b1 W1).set
        have HG2 := Lib.hid (show (W1.setCell ⟨b1, 10, none⟩ (.int .i64 ((n3 : Int) + 1))).heap[b1]? = some (.cells (gotL k9 t u (.slice a n c) ((n3 : Int) + 1) 0 0).toArray 73) from row_set (j := 10) HG1.out)
        have HRW2 := Lib.hid (HRW1.out.turn ht9 HLB.out)
        have HX2 := Lib.hid (HX1.out.turn ht9 (fun h => h.2 rfl))
        have hf := frozen_of_row _ _ 10 _ _ HG1.out
        clear hn3 ht9
        go_upto_region 9 with fail
        clear c0 c1 c2 c3 c4 c5 c6 c7 c8 c9 c10 c11 c12 hf
        generalize W1.setCell ⟨b1, 10, none⟩ (.int .i64 ((n3 : Int) + 1)) = W2 at *
        obtain ⟨c0, c1, c2, c3, c4, c5, c6, c7, c8, c9, c10, c11, c12⟩ := got_cells HG2.out
        have HE := Lib.hid (got_end HRW2.out (show RGot (fun z => w.heap.size < z) W2 (.good y (n3 + 1)) (gotV k9 t u (.slice a n c) ((n3 : Int) + 1) 0 0) from ⟨k9, t, u, a, n, c, rfl, exAt_lo (fun z _ h => h.1) _ _ HX2.out⟩))
        obtain ⟨f0, f1, f2, f3, f4, f5, f6, f7, f8, f9, f10, f11, f12⟩ := got_frozen HRW2.out.box
        obtain ⟨g0, g1, g2, g3, g4, g5, g6, g7, g8, g9, g10, g11, g12⟩ := got_live HRW2.out.box
        go_wp2_with fail
        clear c0 c1 c2 c3 c4 c5 c6 c7 c8 c9 c10 c11 c12 f0 f1 f2 f3 f4 f5 f6 f7 f8 f9 f10 f11 f12 g0 g1 g2 g3 g4 g5 g6 g7 g8 g9 g10 g11 g12
        refine bodyPost_ret (v := gotV k9 t u (.slice a n c) ((n3 : Int) + 1) 0 0) ?_ rfl ⟨_, rfl, HE.out.1, Lib.hid (by rw [HK2.out]; exact HE.out.2.1)⟩
        exact results_got (b := w.heap.size) rfl rfl HE.out.2.2
end Go.Proofs.YtbkhmkpbbggcbaaGreatDoor
