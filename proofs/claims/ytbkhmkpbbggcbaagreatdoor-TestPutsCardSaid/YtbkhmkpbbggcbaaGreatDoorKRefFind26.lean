/- The reference's Find and Value. -/
import Derived.Test.YtbkhmkpbbggcbaaGreatDoorKRefAt
namespace Go.Proofs.YtbkhmkpbbggcbaaGreatDoor
open Go.RowKit
set_option linter.unusedVariables false
attribute [local go_sem ↓] Go.wp_at_zero Go.wp_at_succ
def RNo (W : World) (b : Nat) : Prop := RU W b 0 0 [] [] [] false false
set_option maxRecDepth 100000 in
set_option maxHeartbeats 1000000 in
theorem ref26_Find_in (s : ByteArray) (i : Int) (n : Nat) (w : World) (hi : (i < 0 ∧ n = 0) ∨ i = (n : Int)) (hn : n ≤ s.size) (hs : s.size ≤ 100000000) :
    Calls Tryz.prog 35 #[.string s, .int .i64 i] w (Ret w (foundV (vfind s.data.toList n))) := by
  have HN := Lib.hid (show RNo (w.alloc (.cells #[.int .i64 0, .int .i64 0, .string ⟨#[]⟩, .string ⟨#[]⟩, .string ⟨#[]⟩, .bool false, .bool false] 34)) w.heap.size from heap_alloc_new w _)
  have HB := Lib.hid ((Below.refl w.heap.size w).alloc (Nat.le_refl _) (.cells #[.int .i64 0, .int .i64 0, .string ⟨#[]⟩, .string ⟨#[]⟩, .string ⟨#[]⟩, .bool false, .bool false] 34))
  go_enter Tryz.func35, Tryz.ntmps35
  rcases hi with ⟨hi, rfl⟩ | rfl
  all_goals
    go_wp2_with fail
    generalize w.alloc (.cells #[.int .i64 0, .int .i64 0, .string ⟨#[]⟩, .string ⟨#[]⟩, .string ⟨#[]⟩, .bool false, .bool false] 34) = W0 at *
  · go_loopw [6] (fun f wr => ∃ k : Nat, k ≤ s.size ∧ f = .int .i64 k ∧ Hid (vfind s.data.toList k = vfind s.data.toList 0) ∧ Hid (Below w.heap.size w wr) ∧ Hid (RNo wr w.heap.size)) (fun f _ => s.size - (intOf f).toNat)
    case atStart => exact ⟨0, hn, rfl, Lib.hid rfl, HB, HN⟩
    case round =>
      obtain ⟨k, hk, rfl, HF, HBr, HNr⟩ := hrel
      by_cases hlt : k < s.size
      · have i1 : (k : Int) < (s.size : Int) := by omega
        go_wp2_with fail
        refine (ref26_at s _ k wr rfl hs hk).mono ?_
        rintro e w1 ⟨rfl, hb1⟩
        have HB1 := Lib.hid (HBr.out.trans (hb1.mono HBr.out.size))
        have HN1 := Lib.hid (show RNo w1 w.heap.size from (hb1.block _ (blk_lt HNr.out)).trans HNr.out)
        have hz1 := HB1.out.size
        clear hb1 HBr HNr
        rcases ho : atP s.data.toList k with _ | u
        · have HO := Lib.hid (atP_vfind.2 ho)
          clear ho
          rw [foundV_none]
          have HB2 := Lib.hid (HB1.out.alloc hz1 (.cells #[.int .i64 0, .int .i64 0, .string ⟨#[]⟩, .string ⟨#[]⟩, .string ⟨#[]⟩, .bool false, .bool false] 34))
          have HN2 := Lib.hid (show RNo (w1.alloc (.cells #[.int .i64 0, .int .i64 0, .string ⟨#[]⟩, .string ⟨#[]⟩, .string ⟨#[]⟩, .bool false, .bool false] 34)) w.heap.size from (((Below.refl w1.heap.size w1).alloc (Nat.le_refl _) _).block _ (blk_lt HN1.out)).trans HN1.out)
          go_wp2_with fail
          go_roundw
          case rel => exact ⟨k + 1, by omega, by go_num, Lib.hid (HO.out.symm.trans HF.out), HB2, HN2⟩
          case measure => (simp [intOf] <;> omega)
        · have HO := Lib.hid (HF.out.symm.trans (atP_vfind.1 u ho))
          clear ho
          rw [found_some u]
          have HB2 := Lib.hid (HB1.out.alloc hz1 (.cells #[.int .i64 u.src, .int .i64 u.to, .string ⟨u.name.toArray⟩, .string ⟨u.key.toArray⟩, .string ⟨u.dft.toArray⟩, .bool u.hk, .bool u.hd] 34))
          have HN2 := Lib.hid (show RNo (w1.alloc (.cells #[.int .i64 u.src, .int .i64 u.to, .string ⟨u.name.toArray⟩, .string ⟨u.key.toArray⟩, .string ⟨u.dft.toArray⟩, .bool u.hk, .bool u.hd] 34)) w.heap.size from (((Below.refl w1.heap.size w1).alloc (Nat.le_refl _) _).block _ (blk_lt HN1.out)).trans HN1.out)
          have rs := RU.c HN2.out
          have r0 := rs.c0
          have g0 := rs.f0
          have r1 := rs.c1
          have g1 := rs.f1
          have r2 := rs.c2
          have g2 := rs.f2
          have r3 := rs.c3
          have g3 := rs.f3
          have r4 := rs.c4
          have g4 := rs.f4
          have r5 := rs.c5
          have g5 := rs.f5
          have r6 := rs.c6
          have g6 := rs.f6
          clear rs
          have HP := Lib.hid (put7g (.int .i64 u.src) (.int .i64 u.to) (.string ⟨u.name.toArray⟩) (.string ⟨u.key.toArray⟩) (.string ⟨u.dft.toArray⟩) (.bool u.hk) (.bool u.hd) HB2.out (Nat.le_refl _) HN2.out)
          go_wp2_with fail
          clear r0 g0 r1 g1 r2 g2 r3 g3 r4 g4 r5 g5 r6 g6
          have kk := RU.c (i := u.src) (t := u.to) (nm := u.name) (k := u.key) (d := u.dft) (hk := u.hk) (hd := u.hd) HP.out.1
          have k0 := kk.c0
          have k1 := kk.c1
          have k2 := kk.c2
          have k3 := kk.c3
          have k4 := kk.c4
          have k5 := kk.c5
          have k6 := kk.c6
          unfold put7w at k0 k1 k2 k3 k4 k5 k6
          refine bodyPost_ret (v := foundV (some u)) ?_ rfl ⟨by rw [HO.out], HP.out.2⟩
          rw [found_some u]
          simp [results, Tryz.f35, go_sem, k0, k1, k2, k3, k4, k5, k6]
      · have i1 : (s.size : Int) ≤ (k : Int) := by omega
        have HO := Lib.hid (HF.out.symm.trans (vfind_none (by rw [bs_size]; omega)))
        have rs := RU.c HNr.out
        have r0 := rs.c0
        have g0 := rs.f0
        have r1 := rs.c1
        have g1 := rs.f1
        have r2 := rs.c2
        have g2 := rs.f2
        have r3 := rs.c3
        have g3 := rs.f3
        have r4 := rs.c4
        have g4 := rs.f4
        have r5 := rs.c5
        have g5 := rs.f5
        have r6 := rs.c6
        have g6 := rs.f6
        clear rs
        have HP := Lib.hid (put7g (.int .i64 0) (.int .i64 0) (.string ⟨#[]⟩) (.string ⟨#[]⟩) (.string ⟨#[]⟩) (.bool false) (.bool false) HBr.out (Nat.le_refl _) HNr.out)
        go_wp2_with fail
        clear r0 g0 r1 g1 r2 g2 r3 g3 r4 g4 r5 g5 r6 g6
        have kk := RU.c (i := 0) (t := 0) (nm := []) (k := []) (d := []) (hk := false) (hd := false) HP.out.1
        have k0 := kk.c0
        have k1 := kk.c1
        have k2 := kk.c2
        have k3 := kk.c3
        have k4 := kk.c4
        have k5 := kk.c5
        have k6 := kk.c6
        unfold put7w at k0 k1 k2 k3 k4 k5 k6
        refine bodyPost_ret (v := foundV none) ?_ rfl ⟨by rw [HO.out], HP.out.2⟩
        rw [foundV_none]
        simp [results, Tryz.f35, go_sem, k0, k1, k2, k3, k4, k5, k6]
  · go_loopw [6] (fun f wr => ∃ k : Nat, k ≤ s.size ∧ f = .int .i64 k ∧ Hid (vfind s.data.toList k = vfind s.data.toList n) ∧ Hid (Below w.heap.size w wr) ∧ Hid (RNo wr w.heap.size)) (fun f _ => s.size - (intOf f).toNat)
    case atStart => exact ⟨n, hn, rfl, Lib.hid rfl, HB, HN⟩
    case round =>
      obtain ⟨k, hk, rfl, HF, HBr, HNr⟩ := hrel
      by_cases hlt : k < s.size
      · have i1 : (k : Int) < (s.size : Int) := by omega
        go_wp2_with fail
        refine (ref26_at s _ k wr rfl hs hk).mono ?_
        rintro e w1 ⟨rfl, hb1⟩
        have HB1 := Lib.hid (HBr.out.trans (hb1.mono HBr.out.size))
        have HN1 := Lib.hid (show RNo w1 w.heap.size from (hb1.block _ (blk_lt HNr.out)).trans HNr.out)
        have hz1 := HB1.out.size
        clear hb1 HBr HNr
        rcases ho : atP s.data.toList k with _ | u
        · have HO := Lib.hid (atP_vfind.2 ho)
          clear ho
          rw [foundV_none]
          have HB2 := Lib.hid (HB1.out.alloc hz1 (.cells #[.int .i64 0, .int .i64 0, .string ⟨#[]⟩, .string ⟨#[]⟩, .string ⟨#[]⟩, .bool false, .bool false] 34))
          have HN2 := Lib.hid (show RNo (w1.alloc (.cells #[.int .i64 0, .int .i64 0, .string ⟨#[]⟩, .string ⟨#[]⟩, .string ⟨#[]⟩, .bool false, .bool false] 34)) w.heap.size from (((Below.refl w1.heap.size w1).alloc (Nat.le_refl _) _).block _ (blk_lt HN1.out)).trans HN1.out)
          go_wp2_with fail
          go_roundw
          case rel => exact ⟨k + 1, by omega, by go_num, Lib.hid (HO.out.symm.trans HF.out), HB2, HN2⟩
          case measure => (simp [intOf] <;> omega)
        · have HO := Lib.hid (HF.out.symm.trans (atP_vfind.1 u ho))
          clear ho
          rw [found_some u]
          have HB2 := Lib.hid (HB1.out.alloc hz1 (.cells #[.int .i64 u.src, .int .i64 u.to, .string ⟨u.name.toArray⟩, .string ⟨u.key.toArray⟩, .string ⟨u.dft.toArray⟩, .bool u.hk, .bool u.hd] 34))
          have HN2 := Lib.hid (show RNo (w1.alloc (.cells #[.int .i64 u.src, .int .i64 u.to, .string ⟨u.name.toArray⟩, .string ⟨u.key.toArray⟩, .string ⟨u.dft.toArray⟩, .bool u.hk, .bool u.hd] 34)) w.heap.size from (((Below.refl w1.heap.size w1).alloc (Nat.le_refl _) _).block _ (blk_lt HN1.out)).trans HN1.out)
          have rs := RU.c HN2.out
          have r0 := rs.c0
          have g0 := rs.f0
          have r1 := rs.c1
          have g1 := rs.f1
          have r2 := rs.c2
          have g2 := rs.f2
          have r3 := rs.c3
          have g3 := rs.f3
          have r4 := rs.c4
          have g4 := rs.f4
          have r5 := rs.c5
          have g5 := rs.f5
          have r6 := rs.c6
          have g6 := rs.f6
          clear rs
          have HP := Lib.hid (put7g (.int .i64 u.src) (.int .i64 u.to) (.string ⟨u.name.toArray⟩) (.string ⟨u.key.toArray⟩) (.string ⟨u.dft.toArray⟩) (.bool u.hk) (.bool u.hd) HB2.out (Nat.le_refl _) HN2.out)
          go_wp2_with fail
          clear r0 g0 r1 g1 r2 g2 r3 g3 r4 g4 r5 g5 r6 g6
          have kk := RU.c (i := u.src) (t := u.to) (nm := u.name) (k := u.key) (d := u.dft) (hk := u.hk) (hd := u.hd) HP.out.1
          have k0 := kk.c0
          have k1 := kk.c1
          have k2 := kk.c2
          have k3 := kk.c3
          have k4 := kk.c4
          have k5 := kk.c5
          have k6 := kk.c6
          unfold put7w at k0 k1 k2 k3 k4 k5 k6
          refine bodyPost_ret (v := foundV (some u)) ?_ rfl ⟨by rw [HO.out], HP.out.2⟩
          rw [found_some u]
          simp [results, Tryz.f35, go_sem, k0, k1, k2, k3, k4, k5, k6]
      · have i1 : (s.size : Int) ≤ (k : Int) := by omega
        have HO := Lib.hid (HF.out.symm.trans (vfind_none (by rw [bs_size]; omega)))
        have rs := RU.c HNr.out
        have r0 := rs.c0
        have g0 := rs.f0
        have r1 := rs.c1
        have g1 := rs.f1
        have r2 := rs.c2
        have g2 := rs.f2
        have r3 := rs.c3
        have g3 := rs.f3
        have r4 := rs.c4
        have g4 := rs.f4
        have r5 := rs.c5
        have g5 := rs.f5
        have r6 := rs.c6
        have g6 := rs.f6
        clear rs
        have HP := Lib.hid (put7g (.int .i64 0) (.int .i64 0) (.string ⟨#[]⟩) (.string ⟨#[]⟩) (.string ⟨#[]⟩) (.bool false) (.bool false) HBr.out (Nat.le_refl _) HNr.out)
        go_wp2_with fail
        clear r0 g0 r1 g1 r2 g2 r3 g3 r4 g4 r5 g5 r6 g6
        have kk := RU.c (i := 0) (t := 0) (nm := []) (k := []) (d := []) (hk := false) (hd := false) HP.out.1
        have k0 := kk.c0
        have k1 := kk.c1
        have k2 := kk.c2
        have k3 := kk.c3
        have k4 := kk.c4
        have k5 := kk.c5
        have k6 := kk.c6
        unfold put7w at k0 k1 k2 k3 k4 k5 k6
        refine bodyPost_ret (v := foundV none) ?_ rfl ⟨by rw [HO.out], HP.out.2⟩
        rw [foundV_none]
        simp [results, Tryz.f35, go_sem, k0, k1, k2, k3, k4, k5, k6]
set_option maxRecDepth 100000 in
theorem ref26_Find (s : ByteArray) (i : Int) (w : World) (hs : s.size ≤ 100000000) :
    Calls Tryz.prog 35 #[.string s, .int .i64 i] w (Ret w (foundV (vfind s.data.toList (clampN i s.size)))) := by
  by_cases h1 : i < 0
  · have : clampN i s.size = 0 := by unfold clampN; omega
    rw [this]; exact ref26_Find_in s i 0 w (.inl ⟨h1, rfl⟩) (Nat.zero_le _) hs
  · by_cases h2 : i ≤ s.size
    · have : i = ((clampN i s.size : Nat) : Int) := by unfold clampN; omega
      exact ref26_Find_in s i (clampN i s.size) w (.inr this) (clamp_le _ _) hs
    · have hc : clampN i s.size = s.size := by unfold clampN; omega
      have HO := Lib.hid (show vfind s.data.toList (clampN i s.size) = none from vfind_none (by rw [hc, bs_size]; exact Nat.le_refl _))
      have i1 : (s.size : Int) ≤ i := by omega
      have i2 : (0 : Int) ≤ i := by omega
      have HNr := Lib.hid (show RNo (w.alloc (.cells #[.int .i64 0, .int .i64 0, .string ⟨#[]⟩, .string ⟨#[]⟩, .string ⟨#[]⟩, .bool false, .bool false] 34)) w.heap.size from heap_alloc_new w _)
      have HBr := Lib.hid ((Below.refl w.heap.size w).alloc (Nat.le_refl _) (.cells #[.int .i64 0, .int .i64 0, .string ⟨#[]⟩, .string ⟨#[]⟩, .string ⟨#[]⟩, .bool false, .bool false] 34))
      clear hc h1 h2
      go_enter Tryz.func35, Tryz.ntmps35
      go_wp2_with fail
      generalize w.alloc (.cells #[.int .i64 0, .int .i64 0, .string ⟨#[]⟩, .string ⟨#[]⟩, .string ⟨#[]⟩, .bool false, .bool false] 34) = W0 at *
      refine wp_loop_rounds 1 ?_
      rw [rounds_succ]
      have rs := RU.c HNr.out
      have r0 := rs.c0
      have g0 := rs.f0
      have r1 := rs.c1
      have g1 := rs.f1
      have r2 := rs.c2
      have g2 := rs.f2
      have r3 := rs.c3
      have g3 := rs.f3
      have r4 := rs.c4
      have g4 := rs.f4
      have r5 := rs.c5
      have g5 := rs.f5
      have r6 := rs.c6
      have g6 := rs.f6
      clear rs
      have HP := Lib.hid (put7g (.int .i64 0) (.int .i64 0) (.string ⟨#[]⟩) (.string ⟨#[]⟩) (.string ⟨#[]⟩) (.bool false) (.bool false) HBr.out (Nat.le_refl _) HNr.out)
      go_wp2_with fail
      clear r0 g0 r1 g1 r2 g2 r3 g3 r4 g4 r5 g5 r6 g6
      have kk := RU.c (i := 0) (t := 0) (nm := []) (k := []) (d := []) (hk := false) (hd := false) HP.out.1
      have k0 := kk.c0
      have k1 := kk.c1
      have k2 := kk.c2
      have k3 := kk.c3
      have k4 := kk.c4
      have k5 := kk.c5
      have k6 := kk.c6
      unfold put7w at k0 k1 k2 k3 k4 k5 k6
      refine bodyPost_ret (v := foundV none) ?_ rfl ⟨by rw [HO.out], HP.out.2⟩
      rw [foundV_none]
      simp [results, Tryz.f35, go_sem, k0, k1, k2, k3, k4, k5, k6]
end Go.Proofs.YtbkhmkpbbggcbaaGreatDoor
