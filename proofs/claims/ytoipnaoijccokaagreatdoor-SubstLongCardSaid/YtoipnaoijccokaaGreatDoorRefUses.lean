/- The reference's Uses; the law's same. -/
import Derived.Test.YtoipnaoijccokaaGreatDoorRefVal
namespace Go.Proofs.YtoipnaoijccokaaGreatDoor
open Go.RowKit
set_option linter.unusedVariables false
attribute [local go_sem ↓] Go.wp_at_zero Go.wp_at_succ

theorem atP_none {s : Bs} {k : Nat} (h : atP s k = none) : partsAt (s.drop k) = none := by
  unfold atP at h
  cases hp : partsAt (s.drop k) with
  | none => rfl
  | some p => rw [hp] at h; cases h
def RUOwn (w : World) (base : Nat) (v : Value) (us : List Use) : Prop := w.ownsRow base 59 7 v us.length (ucells us)
/-- Uses of the reference's were returned. -/
def RetRUses (w : World) (us : List Use) (e : Ending) (w' : World) : Prop := ∃ v, e = .returned v ∧ RUOwn w' w.heap.size v us ∧ Below w.heap.size w w'
theorem ruinfo : (Tryz.prog.info? 59).map (fun i => (i.zero, i.size, i.bytes)) = some (some (.agg #[.int .i64 0, .int .i64 0, .string ⟨#[]⟩, .string ⟨#[]⟩, .string ⟨#[]⟩, .bool false, .bool false]), 7, 72) := by kernel_rfl
theorem ruslice : Tryz.prog.underlying 57 = some (.slice 59) := by kernel_rfl
theorem ru_grown {W w' : World} {b : Nat} {u : Use} {o : Obj} {v : Value} (h : RU W b u.src u.to u.name u.key u.dft u.hk u.hd) (hne : v.ownBlock ≠ some b) (hg : (W.alloc o).grownBy w' v.ownBlock) : RU w' b u.src u.to u.name u.key u.dft u.hk u.hd := by
  have hl := blk_lt h
  have h1 : RU (W.alloc o) b u.src u.to u.name u.key u.dft u.hk u.hd := (((Below.refl W.heap.size W).alloc (Nat.le_refl _) o).block b hl).trans h
  exact (hg.block b (blk_lt h1) (fun e => hne e.symm)).trans h1

theorem own_ne {w : World} {base : Nat} {e : TypeId} {size : Nat} {v : Value} {n : Nat} {xs : List Value} (h : w.ownsRow base e size v n xs) : v.ownBlock ≠ some w.heap.size := by
  intro hg
  have := (h.lt _ hg).2
  omega
theorem ruses_step {w W w3 : World} {v : Value} {done : List Use} {u : Use} {g cap : Nat} {o : Obj} (hb : Below w.heap.size w W) (hw : RUOwn W w.heap.size v done) (ho : w3.ownsRow w.heap.size 59 7 (.slice (some ⟨g, 0, none⟩) (done.length + 1) cap) (done.length + 1) (ucells done ++ ucell u)) (hg : (W.alloc o).grownBy w3 v.ownBlock) :
    RUOwn w3 w.heap.size (.slice (some ⟨g, 0, none⟩) (done.length + 1) cap) (done ++ [u]) ∧ Below w.heap.size w w3 := by
  refine ⟨?_, (hb.alloc hb.size o).grown hg (by have := hb.size; simp; omega) (fun k hk => (hw.lt k hk).1)⟩
  unfold RUOwn
  rw [ucells_snoc, List.length_append]
  exact ho

set_option maxRecDepth 100000 in
set_option maxHeartbeats 1000000 in
theorem ref26_Uses (s : ByteArray) (w : World) (hs : s.size ≤ 100000000) :
    Calls Tryz.prog 14 #[.string s] w (RetRUses w (vuses s.data.toList)) := by
  go_enter Tryz.func14, Tryz.ntmps14
  go_wp2_with fail
  go_loopg [3, 4] s.size (fun g v i wr => ∃ (k f : Nat) (done : List Use), i = .int .i64 k ∧ k ≤ s.size ∧ g = s.size - k ∧ s.size + 1 ≤ f + k ∧ Hid (done ++ usesK s.data.toList f k = vuses s.data.toList) ∧ Hid (RUOwn wr w.heap.size v done) ∧ Hid (Below w.heap.size w wr))
  case atStart => exact ⟨0, s.size + 1, [], rfl, Nat.zero_le _, rfl, by omega, Lib.hid (by unfold vuses; rw [bs_size]; rfl), Lib.hid ⟨rfl, .inl ⟨rfl, rfl⟩⟩, Lib.hid (Below.refl _ _)⟩
  case round =>
    obtain ⟨k, f, done, rfl, hk, rfl, hf, HD, HW, HB⟩ := hrel
    by_cases hlt : k < s.size
    · have i1 : (k : Int) < (s.size : Int) := by omega
      go_wp2_with fail
      refine (ref26_at s _ k wr rfl hs hk).mono ?_
      rintro e w1 ⟨rfl, hb1⟩
      have HW1 := Lib.hid (own_below HW.out hb1)
      have HB1 := Lib.hid (HB.out.trans (hb1.mono HB.out.size))
      have hz1 := HB1.out.size
      clear hb1 HW HB
      rcases ho : atP s.data.toList k with _ | u
      · have HO := Lib.hid (usesK_next (k := f) (atP_none ho))
        clear ho
        rw [foundV_none]
        have b2 := (Below.refl w1.heap.size w1).alloc (Nat.le_refl _) (.cells #[.int .i64 0, .int .i64 0, .string ⟨#[]⟩, .string ⟨#[]⟩, .string ⟨#[]⟩, .bool false, .bool false] 59)
        have HW2 := Lib.hid (own_below HW1.out b2)
        have HB2 := Lib.hid (HB1.out.trans (b2.mono hz1))
        clear b2
        go_wp2_with fail
        go_roundg (s.size - (k + 1))
        case measure => omega
        case rel => exact ⟨k + 1, f, done, by go_num, by omega, rfl, by omega, Lib.hid (by rw [← HO.out]; exact HD.out), HW2, HB2⟩
      · have hv := atP_vfind.1 u ho
        have fnd := Found.of hv
        have hto := fnd.le
        have hlt' := fnd.lt
        have hge := fnd.ge
        rw [bs_size] at hto
        obtain ⟨f', hf', hus⟩ := usesK_some hv (by rw [bs_size]; exact hf)
        rw [bs_size] at hf'
        have HD2 := Lib.hid (show (done ++ [u]) ++ usesK s.data.toList f' u.to = vuses s.data.toList by rw [← HD.out, hus]; simp)
        have hdone := done_le HD.out
        rw [bs_size] at hdone
        clear ho hv fnd hus
        rw [found_some u]
        have n2 : RU (w1.alloc (.cells #[.int .i64 u.src, .int .i64 u.to, .string ⟨u.name.toArray⟩, .string ⟨u.key.toArray⟩, .string ⟨u.dft.toArray⟩, .bool u.hk, .bool u.hd] 59)) w1.heap.size u.src u.to u.name u.key u.dft u.hk u.hd := heap_alloc_new w1 _
        have b2 := (Below.refl w1.heap.size w1).alloc (Nat.le_refl _) (.cells #[.int .i64 u.src, .int .i64 u.to, .string ⟨u.name.toArray⟩, .string ⟨u.key.toArray⟩, .string ⟨u.dft.toArray⟩, .bool u.hk, .bool u.hd] 59)
        have HW2 := Lib.hid (own_below HW1.out b2)
        have HB2 := Lib.hid (HB1.out.trans (b2.mono hz1))
        have HNE := Lib.hid (own_ne HW1.out)
        have HN2 := Lib.hid n2
        have hown := HW2.out
        unfold RUOwn at hown
        have hbz := HB2.out.size
        clear n2 b2
        go_wp2_with (at_builtin; go_loud (refine wpList_app2 rfl _ _ 57 rfl 59 (.agg #[.int .i64 0, .int .i64 0, .string ⟨#[]⟩, .string ⟨#[]⟩, .string ⟨#[]⟩, .bool false, .bool false]) 7 72 ruslice ruinfo rfl (by decide) w.heap.size _ _ _ _ rfl hown (ucell u) rfl rfl (by rw [World.size_alloc]; rfl) (by intro u hu; simp [ucell] at hu; rcases hu with rfl | rfl | rfl | rfl | rfl | rfl | rfl <;> rfl) (by omega) (by omega) hbz ?_; intro g cap w3 hown3 hg3; have X3 := ru_grown HN2.out HNE.out hg3; have x1 := (RU.c X3).c1; have HS := Lib.hid (ruses_step HB2.out HW2.out hown3 hg3); clear hown3 hg3 X3 hown))
        go_roundg (s.size - u.to)
        case measure => omega
        case rel => exact ⟨u.to, f', done ++ [u], rfl, hto, rfl, hf', HD2, Lib.hid HS.out.1, Lib.hid HS.out.2⟩
    · have i1 : (s.size : Int) ≤ (k : Int) := by omega
      have HE := Lib.hid (usesK_none (k := f) (vfind_none (s := s.data.toList) (i := k) (by rw [bs_size]; omega)))
      go_wp2_with fail
      go_ret
      have hW := HW.out
      have hD := HD.out
      rw [HE.out, List.append_nil] at hD
      rw [hD] at hW
      exact ⟨_, rfl, hW, HB.out⟩
end Go.Proofs.YtoipnaoijccokaaGreatDoor
