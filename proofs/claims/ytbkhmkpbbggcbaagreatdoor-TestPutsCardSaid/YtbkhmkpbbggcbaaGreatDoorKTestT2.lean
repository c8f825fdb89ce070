/- The walks of used and of may: a use's text, and whether a node may be. The walks of text's two closures: a kid's text, and that of two. -/
import Derived.Test.YtbkhmkpbbggcbaaGreatDoorKTestE6
import Derived.Test.YtbkhmkpbbggcbaaGreatDoorKTestBackP
namespace Go.Proofs.YtbkhmkpbbggcbaaGreatDoor
open Go.RowKit
set_option linter.unusedVariables false
set_option maxRecDepth 100000 in
set_option maxHeartbeats 4000000 in
theorem test_used (u : UseI) (w : World) (h1 : u.name.length ≤ 100000) (h2 : u.key.length ≤ 100000) (h3 : u.dft.length ≤ 100000) : Calls Tryz.prog 27 #[useIV u] w (Ret w (.string ⟨(usedB u).toArray⟩)) := by
  obtain ⟨src, till, name, key, dft, hk, hd⟩ := u
  have HB := Lib.hid ((Below.refl w.heap.size w).alloc (Nat.le_refl _) (.cells #[.int .i64 src, .int .i64 till, .string ⟨name.toArray⟩, .string ⟨key.toArray⟩, .string ⟨dft.toArray⟩, .bool hk, .bool hd] 23))
  have h1 : name.length ≤ 100000 := h1
  have h2 : key.length ≤ 100000 := h2
  have h3 : dft.length ≤ 100000 := h3
  cases hk <;> cases hd
  all_goals
    go_enter Tryz.func27, Tryz.ntmps27
    go_wp2_with fail
    go_ret
    exact ⟨ret_str (by simp [usedB]), HB.out⟩
theorem lib_Has (s : Bs) (c : UInt8) (w : World) (hg : Good w) (hs : s.length < 4294967281) :
    Calls Tryz.prog 39 #[.string ⟨s.toArray⟩, .string ⟨#[c]⟩] w fun e w' => e = .returned (.bool (hasB c s)) ∧ w = w' := by
  refine (lib_Contains ⟨s.toArray⟩ ⟨#[c]⟩ w hg hs).mono ?_
  rintro e w' ⟨rfl, rfl⟩
  exact ⟨ret_bool (has_byte s c), rfl⟩
theorem digTrim (s : Bs) : (Lib.trimLeftS s digSet == []) = s.all dig := by
  unfold Lib.trimLeftS
  rw [show (fun x => digSet.contains x) = dig from digSet_eq, Bool.eq_iff_iff, beq_iff_eq, dropWhile_nil_iff]
theorem digAsc : ∀ (j : Nat) (b : UInt8), (⟨#[48, 49, 50, 51, 52, 53, 54, 55, 56, 57]⟩ : ByteArray).data.toList[j]? = some b → b.toNat < 128 := by
  intro j b h
  have hm := List.mem_of_getElem? h
  have : ∀ x ∈ (digSet : Bs), x.toNat < 128 := by decide
  exact this b hm
theorem equal_useT (u u2 : UseI) (W : World) : (Op.equalIn 10000 23 (useIV u) (useIV u2)).run Tryz.prog W = .ok (useEq u u2) W := by
  simp only [useEq, useSame]
  simp [useIV, go_sem]
  repeat' split
  all_goals simp_all
def uI (v : Use) : UseI := ⟨v.src, v.to, v.name, v.key, v.dft, v.hk, v.hd⟩
theorem useOk_some {u : UseI} {v : Use} (h : vfind (usedB u) 0 = some v) : useOk u = (decide ((uI v).src = 0) && decide ((uI v).till = ((usedB u).length : Int)) && useSame (uI v) u) := by
  unfold useOk
  rw [h]
  show (decide (v.src = 0) && decide (v.to = (usedB u).length) && alikeU v u) = (decide ((v.src : Int) = 0) && decide ((v.to : Int) = ((usedB u).length : Int)) && alikeU v u)
  simp only [Int.natCast_eq_zero, Int.ofNat_inj]
theorem useOk_none {u : UseI} (h : vfind (usedB u) 0 = none) : useOk u = false := by unfold useOk; rw [h]
theorem find_used (u : UseI) (w : World) (hg : Good w) (h1 : u.name.length ≤ 100000) (h2 : u.key.length ≤ 100000) (h3 : u.dft.length ≤ 100000) : Calls Tryz.prog 41 #[.string ⟨(usedB u).toArray⟩, .int .i64 0] w (Ret w (foundV (vfind (usedB u) 0))) := by
  have hl := used_len u
  have h := sub_Find ⟨(usedB u).toArray⟩ 0 w hg (by show (usedB u).toArray.size ≤ _; rw [List.size_toArray]; omega)
  rw [show clampN 0 (⟨(usedB u).toArray⟩ : ByteArray).size = 0 from Nat.zero_min _] at h
  exact h
set_option maxRecDepth 100000 in
set_option maxHeartbeats 8000000 in
theorem may_3 (t : Bs) (u : UseI) (a : Option Addr) (n c : Nat) (w : World) (hG : Good w) (ht : t.length ≤ 100000) (h1 : u.name.length ≤ 100000) (h2 : u.key.length ≤ 100000) (h3 : u.dft.length ≤ 100000) :
    Calls Tryz.prog 23 #[exV 3 t u (.slice a n c)] w (Ret w (.bool (mayN 3 t u n))) := by
  have HB := Lib.hid ((Below.refl w.heap.size w).alloc (Nat.le_refl _) (.cells (exL 3 t u (.slice a n c)).toArray 26))
  have HN := Lib.hid (heap_alloc_new w (.cells (exL 3 t u (.slice a n c)).toArray 26))
  have HG := Lib.hid (hG.next HB.out)
  have HEQ := Lib.hid (fun W => (show (Op.equalIn 10000 23 (.agg #[.int .i64 u.src, .int .i64 u.till, .string ⟨u.name.toArray⟩, .string ⟨u.key.toArray⟩, .string ⟨u.dft.toArray⟩, .bool u.hk, .bool u.hd]) (.agg #[.int .i64 0, .int .i64 0, .string ⟨#[]⟩, .string ⟨#[]⟩, .string ⟨#[]⟩, .bool false, .bool false])).run Tryz.prog W = .ok (useEq u noUseI) W from equal_useT u noUseI W))
  have HTL := Lib.hid ht
  have HU1 := Lib.hid h1
  have HU2 := Lib.hid h2
  have HU3 := Lib.hid h3
  clear ht h1 h2 h3
  go_enter Tryz.func23, Tryz.ntmps23
  go_upto_region 2 with fail
  generalize w.alloc (.cells (exL 3 t u (.slice a n c)).toArray 26) = W0 at *
  obtain ⟨p0, p1, p2, p3, p4, p5, p6, p7, p8, p9⟩ := ten_cells HN.out
  go_upto_region 22 with fail
  clear p0 p1 p2 p3 p4 p5 p6 p7 p8 p9
  obtain ⟨p0, p1, p2, p3, p4, p5, p6, p7, p8, p9⟩ := ten_cells HN.out
  rcases Decidable.em (n = 1) with rfl | hn
  · rcases Decidable.em (t = []) with rfl | ht
    · cases hu : useEq u noUseI
      · have heq := HEQ.out
        rw [hu] at heq
        have HU := Lib.hid hu
        clear hu
        go_wp2_with fail
        go_ret
        exact ⟨ret_bool (by simp [mayN, HU.out]), HB.out⟩
      · have heq := HEQ.out
        rw [hu] at heq
        have HU := Lib.hid hu
        clear hu
        go_wp2_with fail
        go_ret
        exact ⟨ret_bool (by simp [mayN, HU.out]), HB.out⟩
    · have htb : (t == []) = false := beq_eq_false_iff_ne.2 ht
      have HT := Lib.hid ht
      clear ht
      go_wp2_with fail
      go_ret
      exact ⟨ret_bool (by simp [mayN, HT.out]), HB.out⟩
  · have hnb : ((n : Int) == 1) = false := beq_eq_false_iff_ne.2 (by omega)
    have HNN := Lib.hid hn
    clear hn
    go_wp2_with fail
    go_ret
    exact ⟨ret_bool (by simp [mayN, HNN.out]), HB.out⟩
set_option maxRecDepth 100000 in
set_option maxHeartbeats 8000000 in
theorem may_10 (t : Bs) (u : UseI) (a : Option Addr) (n c : Nat) (w : World) (hG : Good w) (ht : t.length ≤ 100000) (h1 : u.name.length ≤ 100000) (h2 : u.key.length ≤ 100000) (h3 : u.dft.length ≤ 100000) :
    Calls Tryz.prog 23 #[exV 10 t u (.slice a n c)] w (Ret w (.bool (mayN 10 t u n))) := by
  have HB := Lib.hid ((Below.refl w.heap.size w).alloc (Nat.le_refl _) (.cells (exL 10 t u (.slice a n c)).toArray 26))
  have HN := Lib.hid (heap_alloc_new w (.cells (exL 10 t u (.slice a n c)).toArray 26))
  have HG := Lib.hid (hG.next HB.out)
  have HEQ := Lib.hid (fun W => (show (Op.equalIn 10000 23 (.agg #[.int .i64 u.src, .int .i64 u.till, .string ⟨u.name.toArray⟩, .string ⟨u.key.toArray⟩, .string ⟨u.dft.toArray⟩, .bool u.hk, .bool u.hd]) (.agg #[.int .i64 0, .int .i64 0, .string ⟨#[]⟩, .string ⟨#[]⟩, .string ⟨#[]⟩, .bool false, .bool false])).run Tryz.prog W = .ok (useEq u noUseI) W from equal_useT u noUseI W))
  have HTL := Lib.hid ht
  have HU1 := Lib.hid h1
  have HU2 := Lib.hid h2
  have HU3 := Lib.hid h3
  clear ht h1 h2 h3
  go_enter Tryz.func23, Tryz.ntmps23
  go_upto_region 2 with fail
  generalize w.alloc (.cells (exL 10 t u (.slice a n c)).toArray 26) = W0 at *
  obtain ⟨p0, p1, p2, p3, p4, p5, p6, p7, p8, p9⟩ := ten_cells HN.out
  go_upto_region 10 with fail
  go_wp2_with fail
  refine (lib_Has t 39 W0 HG.out (by have := HTL.out; omega)).mono ?_
  rintro e w1 ⟨rfl, rfl⟩
  cases hh : hasB 39 t
  · have HH := Lib.hid hh
    clear hh
    go_upto_region 22 with fail
    clear p0 p1 p2 p3 p4 p5 p6 p7 p8 p9
    obtain ⟨p0, p1, p2, p3, p4, p5, p6, p7, p8, p9⟩ := ten_cells HN.out
    rcases Decidable.em (n = 0) with rfl | hn
    · cases hu : useEq u noUseI
      · have heq := HEQ.out
        rw [hu] at heq
        have HU := Lib.hid hu
        clear hu
        go_wp2_with fail
        go_ret
        exact ⟨ret_bool (by simp [mayN, HH.out, HU.out]), HB.out⟩
      · have heq := HEQ.out
        rw [hu] at heq
        have HU := Lib.hid hu
        clear hu
        go_wp2_with fail
        go_ret
        exact ⟨ret_bool (by simp [mayN, HH.out, HU.out]), HB.out⟩
    · have hnb : ((n : Int) == 0) = false := beq_eq_false_iff_ne.2 (by omega)
      have HNN := Lib.hid hn
      clear hn
      go_wp2_with fail
      go_ret
      exact ⟨ret_bool (by simp [mayN, HH.out, HNN.out]), HB.out⟩
  · have HH := Lib.hid hh
    clear hh
    go_wp2_with fail
    go_ret
    exact ⟨ret_bool (by simp [mayN, HH.out]), HB.out⟩
set_option maxRecDepth 100000 in
set_option maxHeartbeats 8000000 in
theorem may_11 (t : Bs) (u : UseI) (a : Option Addr) (n c : Nat) (w : World) (hG : Good w) (ht : t.length ≤ 100000) (h1 : u.name.length ≤ 100000) (h2 : u.key.length ≤ 100000) (h3 : u.dft.length ≤ 100000) :
    Calls Tryz.prog 23 #[exV 11 t u (.slice a n c)] w (Ret w (.bool (mayN 11 t u n))) := by
  have HB := Lib.hid ((Below.refl w.heap.size w).alloc (Nat.le_refl _) (.cells (exL 11 t u (.slice a n c)).toArray 26))
  have HN := Lib.hid (heap_alloc_new w (.cells (exL 11 t u (.slice a n c)).toArray 26))
  have HG := Lib.hid (hG.next HB.out)
  have HEQ := Lib.hid (fun W => (show (Op.equalIn 10000 23 (.agg #[.int .i64 u.src, .int .i64 u.till, .string ⟨u.name.toArray⟩, .string ⟨u.key.toArray⟩, .string ⟨u.dft.toArray⟩, .bool u.hk, .bool u.hd]) (.agg #[.int .i64 0, .int .i64 0, .string ⟨#[]⟩, .string ⟨#[]⟩, .string ⟨#[]⟩, .bool false, .bool false])).run Tryz.prog W = .ok (useEq u noUseI) W from equal_useT u noUseI W))
  have HTL := Lib.hid ht
  have HU1 := Lib.hid h1
  have HU2 := Lib.hid h2
  have HU3 := Lib.hid h3
  clear ht h1 h2 h3
  go_enter Tryz.func23, Tryz.ntmps23
  go_upto_region 2 with fail
  generalize w.alloc (.cells (exL 11 t u (.slice a n c)).toArray 26) = W0 at *
  obtain ⟨p0, p1, p2, p3, p4, p5, p6, p7, p8, p9⟩ := ten_cells HN.out
  go_upto_region 14 with fail
  rcases Decidable.em (t = []) with rfl | ht
  · go_wp2_with fail
    go_ret
    exact ⟨ret_bool (by simp [mayN, numOk]), HB.out⟩
  · have htb : (t == []) = false := beq_eq_false_iff_ne.2 ht
    have HT := Lib.hid ht
    clear ht
    by_cases h18 : t.length ≤ 18
    · have h18i : ¬ (18 : Int) < (t.length : Int) := by omega
      have H18 := Lib.hid h18
      have htl := HTL.out
      clear h18
      go_wp2_with fail
      refine (lib_TrimLeft ⟨t.toArray⟩ ⟨#[48, 49, 50, 51, 52, 53, 54, 55, 56, 57]⟩ W0 (by decide) digAsc).mono ?_
      rintro e w1 ⟨rfl, hb1⟩
      have HB1 := Lib.hid (HB.out.trans (hb1.mono HB.out.size))
      have HN1 := Lib.hid ((hb1.block _ (Array.getElem?_eq_some_iff.1 HN.out).1).trans HN.out)
      clear hb1 p0 p1 p2 p3 p4 p5 p6 p7 p8 p9
      obtain ⟨r, hr⟩ : ∃ r, Lib.trimLeftS (⟨t.toArray⟩ : ByteArray).data.toList (⟨#[48, 49, 50, 51, 52, 53, 54, 55, 56, 57]⟩ : ByteArray).data.toList = r := ⟨_, rfl⟩
      have hra : (r == []) = t.all dig := by rw [← hr]; exact digTrim t
      have HRA := Lib.hid hra
      rw [hr]
      clear hr hra
      rcases Decidable.em (r = []) with rfl | hrn
      · have HALL := Lib.hid (show t.all dig = true from by rw [← HRA.out]; rfl)
        go_upto_region 22 with fail
        clear h18i htb htl
        obtain ⟨p0, p1, p2, p3, p4, p5, p6, p7, p8, p9⟩ := ten_cells HN1.out
        rcases Decidable.em (n = 0) with rfl | hn
        · cases hu : useEq u noUseI
          · have heq := HEQ.out
            rw [hu] at heq
            have HU := Lib.hid hu
            clear hu
            go_wp2_with fail
            go_ret
            exact ⟨ret_bool (by simp [mayN, numOk, HALL.out, H18.out, HU.out]), HB1.out⟩
          · have heq := HEQ.out
            rw [hu] at heq
            have HU := Lib.hid hu
            clear hu
            go_wp2_with fail
            go_ret
            exact ⟨ret_bool (by simp [mayN, numOk, HALL.out, H18.out, HT.out, HU.out]), HB1.out⟩
        · have hnb : ((n : Int) == 0) = false := beq_eq_false_iff_ne.2 (by omega)
          have HNN := Lib.hid hn
          clear hn
          go_wp2_with fail
          go_ret
          exact ⟨ret_bool (by simp [mayN, numOk, HALL.out, H18.out, HNN.out]), HB1.out⟩
      · have hrb : (r == []) = false := beq_eq_false_iff_ne.2 hrn
        have HALL := Lib.hid (show t.all dig = false from by rw [← HRA.out]; exact hrb)
        clear hrn
        go_wp2_with fail
        go_ret
        exact ⟨ret_bool (by simp only [mayN, numOk, HALL.out, Bool.and_false, Bool.false_and]; rfl), HB1.out⟩
    · have h18i : (18 : Int) < (t.length : Int) := by omega
      have H18 := Lib.hid h18
      clear h18
      go_wp2_with fail
      go_ret
      exact ⟨ret_bool (by simp [mayN, numOk, H18.out]), HB.out⟩
set_option maxRecDepth 100000 in
set_option maxHeartbeats 8000000 in
theorem may_other (k : Int) (h3k : k ≠ 3) (h10k : k ≠ 10) (h11k : k ≠ 11) (h12k : k ≠ 12) (t : Bs) (u : UseI) (a : Option Addr) (n c : Nat) (w : World) (hG : Good w) (ht : t.length ≤ 100000) (h1 : u.name.length ≤ 100000) (h2 : u.key.length ≤ 100000) (h3 : u.dft.length ≤ 100000) :
    Calls Tryz.prog 23 #[exV k t u (.slice a n c)] w (Ret w (.bool (mayN k t u n))) := by
  have HB := Lib.hid ((Below.refl w.heap.size w).alloc (Nat.le_refl _) (.cells (exL k t u (.slice a n c)).toArray 26))
  have HN := Lib.hid (heap_alloc_new w (.cells (exL k t u (.slice a n c)).toArray 26))
  have HG := Lib.hid (hG.next HB.out)
  have HEQ := Lib.hid (fun W => (show (Op.equalIn 10000 23 (.agg #[.int .i64 u.src, .int .i64 u.till, .string ⟨u.name.toArray⟩, .string ⟨u.key.toArray⟩, .string ⟨u.dft.toArray⟩, .bool u.hk, .bool u.hd]) (.agg #[.int .i64 0, .int .i64 0, .string ⟨#[]⟩, .string ⟨#[]⟩, .string ⟨#[]⟩, .bool false, .bool false])).run Tryz.prog W = .ok (useEq u noUseI) W from equal_useT u noUseI W))
  have HTL := Lib.hid ht
  have HU1 := Lib.hid h1
  have HU2 := Lib.hid h2
  have HU3 := Lib.hid h3
  clear ht h1 h2 h3
  go_enter Tryz.func23, Tryz.ntmps23
  go_upto_region 2 with fail
  generalize w.alloc (.cells (exL k t u (.slice a n c)).toArray 26) = W0 at *
  obtain ⟨p0, p1, p2, p3, p4, p5, p6, p7, p8, p9⟩ := ten_cells HN.out
  have e3 : (k == 3) = false := beq_eq_false_iff_ne.2 h3k
  have e10 : (k == 10) = false := beq_eq_false_iff_ne.2 h10k
  have e11 : (k == 11) = false := beq_eq_false_iff_ne.2 h11k
  have e12 : (k == 12) = false := beq_eq_false_iff_ne.2 h12k
  have H3 := Lib.hid h3k
  have H10 := Lib.hid h10k
  have H11 := Lib.hid h11k
  have H12 := Lib.hid h12k
  by_cases hk1 : k < 1
  · have HK := Lib.hid (show ¬ (1 ≤ k ∧ k ≤ 12) by omega)
    clear h3k h10k h11k h12k
    go_wp2_with fail
    go_ret
    exact ⟨ret_bool (by unfold mayN; rw [if_neg H3.out, if_neg H10.out, if_neg H11.out, if_neg H12.out, decide_eq_false HK.out]; rfl), HB.out⟩
  · by_cases hk9 : k ≤ 9
    · have hk9i : ¬ (9 : Int) < k := by omega
      have HK := Lib.hid (show 1 ≤ k ∧ k ≤ 12 by omega)
      clear h3k h10k h11k h12k hk9
      go_upto_region 22 with fail
      clear p0 p1 p2 p3 p4 p5 p6 p7 p8 p9 e3 e10 e11 e12 hk1 hk9i
      obtain ⟨p0, p1, p2, p3, p4, p5, p6, p7, p8, p9⟩ := ten_cells HN.out
      rcases Decidable.em (n = 2) with rfl | hn
      · rcases Decidable.em (t = []) with rfl | ht
        · cases hu : useEq u noUseI
          · have heq := HEQ.out
            rw [hu] at heq
            have HU := Lib.hid hu
            clear hu
            go_wp2_with fail
            go_ret
            exact ⟨ret_bool (by simp [mayN, H3.out, H10.out, H11.out, H12.out, HK.out.1, HK.out.2, HU.out]), HB.out⟩
          · have heq := HEQ.out
            rw [hu] at heq
            have HU := Lib.hid hu
            clear hu
            go_wp2_with fail
            go_ret
            exact ⟨ret_bool (by simp [mayN, H3.out, H10.out, H11.out, H12.out, HK.out.1, HK.out.2, HU.out]), HB.out⟩
        · have htb : (t == []) = false := beq_eq_false_iff_ne.2 ht
          have HT := Lib.hid ht
          clear ht
          go_wp2_with fail
          go_ret
          exact ⟨ret_bool (by simp [mayN, H3.out, H10.out, H11.out, H12.out, HK.out.1, HK.out.2, HT.out]), HB.out⟩
      · have hnb : ((n : Int) == 2) = false := beq_eq_false_iff_ne.2 (by omega)
        have HNN := Lib.hid hn
        clear hn
        go_wp2_with fail
        go_ret
        exact ⟨ret_bool (by simp [mayN, H3.out, H10.out, H11.out, H12.out, HK.out.1, HK.out.2, HNN.out]), HB.out⟩
    · have hk9i : (9 : Int) < k := by omega
      have HK := Lib.hid (show ¬ (1 ≤ k ∧ k ≤ 12) by omega)
      clear h3k h10k h11k h12k hk9
      go_wp2_with fail
      go_ret
      exact ⟨ret_bool (by unfold mayN; rw [if_neg H3.out, if_neg H10.out, if_neg H11.out, if_neg H12.out, decide_eq_false HK.out]; rfl), HB.out⟩
set_option maxRecDepth 100000 in
set_option maxHeartbeats 8000000 in
theorem may_12 (t : Bs) (u : UseI) (a : Option Addr) (n c : Nat) (w : World) (hG : Good w) (ht : t.length ≤ 100000) (h1 : u.name.length ≤ 100000) (h2 : u.key.length ≤ 100000) (h3 : u.dft.length ≤ 100000) :
    Calls Tryz.prog 23 #[exV 12 t u (.slice a n c)] w (Ret w (.bool (mayN 12 t u n))) := by
  have HB := Lib.hid ((Below.refl w.heap.size w).alloc (Nat.le_refl _) (.cells (exL 12 t u (.slice a n c)).toArray 26))
  have HN := Lib.hid (heap_alloc_new w (.cells (exL 12 t u (.slice a n c)).toArray 26))
  have HG := Lib.hid (hG.next HB.out)
  have HEQ := Lib.hid (fun W => (show (Op.equalIn 10000 23 (.agg #[.int .i64 u.src, .int .i64 u.till, .string ⟨u.name.toArray⟩, .string ⟨u.key.toArray⟩, .string ⟨u.dft.toArray⟩, .bool u.hk, .bool u.hd]) (.agg #[.int .i64 0, .int .i64 0, .string ⟨#[]⟩, .string ⟨#[]⟩, .string ⟨#[]⟩, .bool false, .bool false])).run Tryz.prog W = .ok (useEq u noUseI) W from equal_useT u noUseI W))
  have HTL := Lib.hid ht
  have HU1 := Lib.hid h1
  have HU2 := Lib.hid h2
  have HU3 := Lib.hid h3
  clear ht h1 h2 h3
  go_enter Tryz.func23, Tryz.ntmps23
  go_upto_region 2 with fail
  generalize w.alloc (.cells (exL 12 t u (.slice a n c)).toArray 26) = W0 at *
  obtain ⟨p0, p1, p2, p3, p4, p5, p6, p7, p8, p9⟩ := ten_cells HN.out
  go_upto_region 18 with fail
  go_wp2_with fail
  refine (test_used u W0 HU1.out HU2.out HU3.out).mono ?_
  rintro e w1 ⟨rfl, hb1⟩
  have HB1 := Lib.hid (HB.out.trans (hb1.mono HB.out.size))
  have HN1 := Lib.hid ((hb1.block _ (Array.getElem?_eq_some_iff.1 HN.out).1).trans HN.out)
  have HG1 := Lib.hid (HG.out.next hb1)
  clear hb1 p0 p1 p2 p3 p4 p5 p6 p7 p8 p9
  obtain ⟨S, hS⟩ : ∃ S, usedB u = S := ⟨_, rfl⟩
  have hSl : S.length ≤ 400000 := by rw [← hS]; have := used_len u; have := HU1.out; have := HU2.out; have := HU3.out; omega
  have HF := Lib.hid (find_used u w1 HG1.out HU1.out HU2.out HU3.out)
  have HOS := Lib.hid (fun v h => useOk_some (u := u) (v := v) h)
  have HON := Lib.hid (useOk_none (u := u))
  rw [hS] at HF HOS HON ⊢
  have HS := Lib.hid hS
  clear hS
  go_upto_region 19 with fail
  go_wp2_with fail
  refine HF.out.mono ?_
  rintro e w2 ⟨rfl, hb2⟩
  have HB2 := Lib.hid (HB1.out.trans (hb2.mono HB1.out.size))
  have HN2 := Lib.hid ((hb2.block _ (Array.getElem?_eq_some_iff.1 HN1.out).1).trans HN1.out)
  clear hb2 HF
  cases hv : vfind S 0 with
  | none =>
    have HOK := Lib.hid (HON.out hv)
    clear hv
    rw [foundV_none]
    have hA : Below w2.heap.size w2 (w2.alloc (.cells #[.int .i64 0, .int .i64 0, .string ⟨#[]⟩, .string ⟨#[]⟩, .string ⟨#[]⟩, .bool false, .bool false] 23)) := (Below.refl _ _).alloc (Nat.le_refl _) _
    have HB3 := Lib.hid (HB2.out.trans (hA.mono HB2.out.size))
    clear hA
    go_upto_region 20 with fail
    generalize w2.alloc (.cells #[.int .i64 0, .int .i64 0, .string ⟨#[]⟩, .string ⟨#[]⟩, .string ⟨#[]⟩, .bool false, .bool false] 23) = W3 at *
    haveI : Nonempty (BW W3) := ⟨⟨W3, Below.refl _ _⟩⟩
    refine wp_region_last_lit 21 (fun B : BW W3 => B.val) ⟨W3.drew, below_drewn (Below.refl _ _)⟩ rfl (by kernel_rfl) (by rfl) (by rfl) (by kernel_rfl) (by kernel_rfl) (by kernel_rfl) ?_
    simp only [List.take_succ_cons, List.take_zero]
    repeat (first | go_big_quiet_skip | quiet_step (fail))
    refine wpQuiet_nil ?_
    rintro w' ⟨B, rfl⟩
    rw [if_pos (by rfl)]
    have HBE := Lib.hid (HB3.out.trans (B.below.mono HB3.out.size))
    go_simp
    go_wp2_with fail
    go_ret
    exact ⟨ret_bool (by simp [mayN, HOK.out]), HBE.out⟩
  | some v =>
    have hok := HOS.out v hv
    rw [show foundV (some v) = .tuple #[useIV (uI v), .bool true] from rfl]
    generalize uI v = V at *
    have HOK := Lib.hid hok
    have hA : Below w2.heap.size w2 (w2.alloc (.cells #[.int .i64 V.src, .int .i64 V.till, .string ⟨V.name.toArray⟩, .string ⟨V.key.toArray⟩, .string ⟨V.dft.toArray⟩, .bool V.hk, .bool V.hd] 23)) := (Below.refl _ _).alloc (Nat.le_refl _) _
    have HB3 := Lib.hid (HB2.out.trans (hA.mono HB2.out.size))
    have HN3 := Lib.hid ((hA.block _ (Array.getElem?_eq_some_iff.1 HN2.out).1).trans HN2.out)
    have HM3 := Lib.hid (heap_alloc_new w2 (.cells #[.int .i64 V.src, .int .i64 V.till, .string ⟨V.name.toArray⟩, .string ⟨V.key.toArray⟩, .string ⟨V.dft.toArray⟩, .bool V.hk, .bool V.hd] 23))
    clear hA hv hok HOS HON
    go_upto_region 20 with fail
    generalize w2.alloc (.cells #[.int .i64 V.src, .int .i64 V.till, .string ⟨V.name.toArray⟩, .string ⟨V.key.toArray⟩, .string ⟨V.dft.toArray⟩, .bool V.hk, .bool V.hd] 23) = W3 at *
    haveI : Nonempty (BW W3) := ⟨⟨W3, Below.refl _ _⟩⟩
    have p2 : ∀ B : BW W3, B.val.cell? ⟨w.heap.size, 2, none⟩ = _ := fun B => cell_of_row _ _ 2 _ _ _ ((B.below.block _ (Array.getElem?_eq_some_iff.1 HN3.out).1).trans HN3.out)
    have p3 : ∀ B : BW W3, B.val.cell? ⟨w.heap.size, 3, none⟩ = _ := fun B => cell_of_row _ _ 3 _ _ _ ((B.below.block _ (Array.getElem?_eq_some_iff.1 HN3.out).1).trans HN3.out)
    have p4 : ∀ B : BW W3, B.val.cell? ⟨w.heap.size, 4, none⟩ = _ := fun B => cell_of_row _ _ 4 _ _ _ ((B.below.block _ (Array.getElem?_eq_some_iff.1 HN3.out).1).trans HN3.out)
    have p5 : ∀ B : BW W3, B.val.cell? ⟨w.heap.size, 5, none⟩ = _ := fun B => cell_of_row _ _ 5 _ _ _ ((B.below.block _ (Array.getElem?_eq_some_iff.1 HN3.out).1).trans HN3.out)
    have p6 : ∀ B : BW W3, B.val.cell? ⟨w.heap.size, 6, none⟩ = _ := fun B => cell_of_row _ _ 6 _ _ _ ((B.below.block _ (Array.getElem?_eq_some_iff.1 HN3.out).1).trans HN3.out)
    have p7 : ∀ B : BW W3, B.val.cell? ⟨w.heap.size, 7, none⟩ = _ := fun B => cell_of_row _ _ 7 _ _ _ ((B.below.block _ (Array.getElem?_eq_some_iff.1 HN3.out).1).trans HN3.out)
    have p8 : ∀ B : BW W3, B.val.cell? ⟨w.heap.size, 8, none⟩ = _ := fun B => cell_of_row _ _ 8 _ _ _ ((B.below.block _ (Array.getElem?_eq_some_iff.1 HN3.out).1).trans HN3.out)
    have r0 : ∀ B : BW W3, B.val.cell? ⟨w2.heap.size, 0, none⟩ = _ := fun B => cell_of_row _ _ 0 _ _ _ ((B.below.block _ (Array.getElem?_eq_some_iff.1 HM3.out).1).trans HM3.out)
    have r1 : ∀ B : BW W3, B.val.cell? ⟨w2.heap.size, 1, none⟩ = _ := fun B => cell_of_row _ _ 1 _ _ _ ((B.below.block _ (Array.getElem?_eq_some_iff.1 HM3.out).1).trans HM3.out)
    have r2 : ∀ B : BW W3, B.val.cell? ⟨w2.heap.size, 2, none⟩ = _ := fun B => cell_of_row _ _ 2 _ _ _ ((B.below.block _ (Array.getElem?_eq_some_iff.1 HM3.out).1).trans HM3.out)
    have r3 : ∀ B : BW W3, B.val.cell? ⟨w2.heap.size, 3, none⟩ = _ := fun B => cell_of_row _ _ 3 _ _ _ ((B.below.block _ (Array.getElem?_eq_some_iff.1 HM3.out).1).trans HM3.out)
    have r4 : ∀ B : BW W3, B.val.cell? ⟨w2.heap.size, 4, none⟩ = _ := fun B => cell_of_row _ _ 4 _ _ _ ((B.below.block _ (Array.getElem?_eq_some_iff.1 HM3.out).1).trans HM3.out)
    have r5 : ∀ B : BW W3, B.val.cell? ⟨w2.heap.size, 5, none⟩ = _ := fun B => cell_of_row _ _ 5 _ _ _ ((B.below.block _ (Array.getElem?_eq_some_iff.1 HM3.out).1).trans HM3.out)
    have r6 : ∀ B : BW W3, B.val.cell? ⟨w2.heap.size, 6, none⟩ = _ := fun B => cell_of_row _ _ 6 _ _ _ ((B.below.block _ (Array.getElem?_eq_some_iff.1 HM3.out).1).trans HM3.out)
    by_cases hsrc : V.src = 0
    · have hs1 : (V.src != 0) = false := by rw [hsrc]; rfl
      by_cases htill : V.till = (S.length : Int)
      · have hs2 : (V.till != (S.length : Int)) = false := by rw [htill]; simp
        cases hsm : useSame V u
        · have HUO := Lib.hid (show useOk u = false by rw [HOK.out, hsm, Bool.and_false])
          have heq := equal_useP V u
          rw [hsm] at heq
          clear hsrc htill hsm
          refine wp_region_last_lit 21 (fun B : BW W3 => B.val) ⟨W3.drew, below_drewn (Below.refl _ _)⟩ rfl (by kernel_rfl) (by rfl) (by rfl) (by kernel_rfl) (by kernel_rfl) (by kernel_rfl) ?_
          simp only [List.take_succ_cons, List.take_zero]
          repeat (first | go_big_quiet_skip | quiet_step ((first
              | (go_at_call 19; refine (test_plain V _).mono ?_; rintro e v1 ⟨rfl, hb1⟩; exact ⟨rfl, ⟨v1, BW.next _ hb1⟩, rfl⟩)
              | (go_at_call 19; refine (test_plain u _).mono ?_; rintro e v1 ⟨rfl, hb1⟩; exact ⟨rfl, ⟨v1, BW.next _ hb1⟩, rfl⟩))))
          refine wpQuiet_nil ?_
          rintro w' ⟨B, rfl⟩
          rw [if_pos (by rfl)]
          have HBE := Lib.hid (HB3.out.trans (B.below.mono HB3.out.size))
          have HNE := Lib.hid ((B.below.block _ (Array.getElem?_eq_some_iff.1 HN3.out).1).trans HN3.out)
          go_simp
          go_wp2_with fail
          go_ret
          exact ⟨ret_bool (by simp [mayN, HUO.out]), HBE.out⟩
        · have HUO := Lib.hid (show useOk u = true by rw [HOK.out, hsm, decide_eq_true hsrc, decide_eq_true htill]; rfl)
          have heq := equal_useP V u
          rw [hsm] at heq
          clear hsrc htill hsm
          refine wp_region_last_lit 21 (fun B : BW W3 => B.val) ⟨W3.drew, below_drewn (Below.refl _ _)⟩ rfl (by kernel_rfl) (by rfl) (by rfl) (by kernel_rfl) (by kernel_rfl) (by kernel_rfl) ?_
          simp only [List.take_succ_cons, List.take_zero]
          repeat (first | go_big_quiet_skip | quiet_step ((first
              | (go_at_call 19; refine (test_plain V _).mono ?_; rintro e v1 ⟨rfl, hb1⟩; exact ⟨rfl, ⟨v1, BW.next _ hb1⟩, rfl⟩)
              | (go_at_call 19; refine (test_plain u _).mono ?_; rintro e v1 ⟨rfl, hb1⟩; exact ⟨rfl, ⟨v1, BW.next _ hb1⟩, rfl⟩))))
          refine wpQuiet_nil ?_
          rintro w' ⟨B, rfl⟩
          rw [if_pos (by rfl)]
          have HBE := Lib.hid (HB3.out.trans (B.below.mono HB3.out.size))
          have HNE := Lib.hid ((B.below.block _ (Array.getElem?_eq_some_iff.1 HN3.out).1).trans HN3.out)
          go_simp
          clear p2 p3 p4 p5 p6 p7 p8 r0 r1 r2 r3 r4 r5 r6 heq
          go_upto_region 22 with fail
          obtain ⟨p0, p1, p2, p3, p4, p5, p6, p7, p8, p9⟩ := ten_cells HNE.out
          rcases Decidable.em (n = 0) with rfl | hn
          · rcases Decidable.em (t = []) with rfl | ht
            · go_wp2_with fail
              go_ret
              exact ⟨ret_bool (by simp [mayN, HUO.out]), HBE.out⟩
            · have htb : (t == []) = false := beq_eq_false_iff_ne.2 ht
              have HT := Lib.hid ht
              clear ht
              go_wp2_with fail
              go_ret
              exact ⟨ret_bool (by simp [mayN, HUO.out, HT.out]), HBE.out⟩
          · have hnb : ((n : Int) == 0) = false := beq_eq_false_iff_ne.2 (by omega)
            have HNN := Lib.hid hn
            clear hn
            go_wp2_with fail
            go_ret
            exact ⟨ret_bool (by simp [mayN, HUO.out, HNN.out]), HBE.out⟩
      · have hs2 : (V.till != (S.length : Int)) = true := by rw [bne, beq_eq_false_iff_ne.2 htill]; rfl
        have HUO := Lib.hid (show useOk u = false by rw [HOK.out, decide_eq_false htill, Bool.and_false, Bool.false_and])
        clear hsrc htill
        refine wp_region_last_lit 21 (fun B : BW W3 => B.val) ⟨W3.drew, below_drewn (Below.refl _ _)⟩ rfl (by kernel_rfl) (by rfl) (by rfl) (by kernel_rfl) (by kernel_rfl) (by kernel_rfl) ?_
        simp only [List.take_succ_cons, List.take_zero]
        repeat (first | go_big_quiet_skip | quiet_step ((first
            | (go_at_call 19; refine (test_plain V _).mono ?_; rintro e v1 ⟨rfl, hb1⟩; exact ⟨rfl, ⟨v1, BW.next _ hb1⟩, rfl⟩)
            | (go_at_call 19; refine (test_plain u _).mono ?_; rintro e v1 ⟨rfl, hb1⟩; exact ⟨rfl, ⟨v1, BW.next _ hb1⟩, rfl⟩))))
        refine wpQuiet_nil ?_
        rintro w' ⟨B, rfl⟩
        rw [if_pos (by rfl)]
        have HBE := Lib.hid (HB3.out.trans (B.below.mono HB3.out.size))
        have HNE := Lib.hid ((B.below.block _ (Array.getElem?_eq_some_iff.1 HN3.out).1).trans HN3.out)
        go_simp
        go_wp2_with fail
        go_ret
        exact ⟨ret_bool (by simp [mayN, HUO.out]), HBE.out⟩
    · have hs1 : (V.src != 0) = true := by rw [bne, beq_eq_false_iff_ne.2 hsrc]; rfl
      have HUO := Lib.hid (show useOk u = false by rw [HOK.out, decide_eq_false hsrc, Bool.false_and, Bool.false_and])
      clear hsrc
      refine wp_region_last_lit 21 (fun B : BW W3 => B.val) ⟨W3.drew, below_drewn (Below.refl _ _)⟩ rfl (by kernel_rfl) (by rfl) (by rfl) (by kernel_rfl) (by kernel_rfl) (by kernel_rfl) ?_
      simp only [List.take_succ_cons, List.take_zero]
      repeat (first | go_big_quiet_skip | quiet_step ((first
          | (go_at_call 19; refine (test_plain V _).mono ?_; rintro e v1 ⟨rfl, hb1⟩; exact ⟨rfl, ⟨v1, BW.next _ hb1⟩, rfl⟩)
          | (go_at_call 19; refine (test_plain u _).mono ?_; rintro e v1 ⟨rfl, hb1⟩; exact ⟨rfl, ⟨v1, BW.next _ hb1⟩, rfl⟩))))
      refine wpQuiet_nil ?_
      rintro w' ⟨B, rfl⟩
      rw [if_pos (by rfl)]
      have HBE := Lib.hid (HB3.out.trans (B.below.mono HB3.out.size))
      have HNE := Lib.hid ((B.below.block _ (Array.getElem?_eq_some_iff.1 HN3.out).1).trans HN3.out)
      go_simp
      go_wp2_with fail
      go_ret
      exact ⟨ret_bool (by simp [mayN, HUO.out]), HBE.out⟩
end Go.Proofs.YtbkhmkpbbggcbaaGreatDoor
namespace Go.Proofs.YtbkhmkpbbggcbaaGreatDoor
open Go.RowKit
set_option linter.unusedVariables false
def RetSB (w : World) (p : Bs × Bool) : Ending → World → Prop := fun e w' => e = .returned (.tuple #[.string ⟨p.1.toArray⟩, .bool p.2]) ∧ Below w.heap.size w w'
def IntsAt (W : World) (v : Value) (L : List Int) : Prop := ∃ b o c, v = .slice (some ⟨b, o, none⟩) L.length c ∧ b < W.heap.size ∧ ∀ j, j < L.length → W.cell? ⟨b, o + j, none⟩ = some (.int .i64 (L.getD j 0))
theorem IntsAt.next {W W' : World} {v : Value} {L : List Int} (h : IntsAt W v L) (hb : Below W.heap.size W W') : IntsAt W' v L := by
  obtain ⟨b, o, c, h1, h2, h3⟩ := h
  exact ⟨b, o, c, h1, Nat.lt_of_lt_of_le h2 hb.size, fun j hj => (hb.cell (p := ⟨b, o + j, none⟩) h2).trans (h3 j hj)⟩
theorem lib_ContainsI {W : World} {v : Value} {L : List Int} (h : IntsAt W v L) (hl : L.length ≤ 1000) (k : Int) :
    Calls Tryz.prog 25 #[v, .int .i64 k] W (Ret W (.bool (L.contains k))) := by
  obtain ⟨b, o, c, rfl, h2, h3⟩ := h
  refine (Tryz.slices_Contains_int b o L.length c L k W (Nat.le_refl _) (by omega) h3).mono ?_
  rintro e w' ⟨rfl, rfl⟩
  rw [List.take_length]
  exact ⟨rfl, Below.refl _ _⟩
theorem exAt_kind {A : Nat → Prop} {W : World} {y : Ex} {k : Int} {t : Bs} {u : UseI} {kv : Value} (h : ExAt A W y (exV k t u kv)) : y.kind = k := by
  obtain ⟨k2, t2, u2, l2⟩ := y
  obtain ⟨kv2, h2, _⟩ := exAt_iff.1 h
  simp only [exV, Value.agg.injEq, Array.mk.injEq, List.cons.injEq, Value.int.injEq] at h2
  exact h2.1.2.symm
def TextOk (y : Ex) : Prop := ∀ (v : Value) (W : World), Good W → ExAt (fun _ => True) W y v → Calls Tryz.prog 14 #[v] W (RetSB W (textE y))
theorem kid_yes {m k : Int} {s : Bs} (h : decide (m ≤ k ∧ k ≤ 12) = true) : kidT m k s = s := by unfold kidT; rw [h]; rfl
theorem kid_no {m k : Int} {s : Bs} (h : decide (m ≤ k ∧ k ≤ 12) = false) : kidT m k s = ([40] ++ s) ++ [41] := by unfold kidT; rw [h]; rfl
set_option maxRecDepth 100000 in
set_option maxHeartbeats 4000000 in
theorem text_kid (i : Nat) (m : Int) (y : Ex) (L : List Int) (vb : Value) (bx : Nat) (k : Int) (t : Bs) (u : UseI) (l : List Ex) (a : Option Addr) (c : Nat) (w : World) (hG : Good w) (hbox : w.heap[bx]? = some (.cells (exL k t u (.slice a l.length c)).toArray 26)) (hk : KidsAt (fun _ => True) w l (.slice a l.length c)) (hy : l[i]? = some y) (hln : l.length ≤ 1000) (hT : TextOk y) (hlen : (textE y).1.length ≤ 1000000) (hL : L.contains y.kind = decide (m ≤ y.kind ∧ y.kind ≤ 12)) (hLn : L.length ≤ 1000) (hv : IntsAt w vb L) :
    Calls Tryz.prog 24 #[.int .i64 (i : Int), vb, .pointer (some ⟨bx, 0, none⟩)] w (RetSB w (kidT m y.kind (textE y).1, (textE y).2)) := by
  have HLN := Lib.hid hLn
  have HV := Lib.hid hv
  have hi : i < l.length := (List.getElem?_eq_some_iff.1 hy).1
  obtain ⟨b, o, c', he, hlc, hbl, hrow⟩ := kids_row hk hy
  obtain ⟨rfl, rfl⟩ : a = some ⟨b, o, none⟩ ∧ c = c' := by injection he with h1 h2 h3; exact ⟨h1, h3⟩
  obtain ⟨k1, t1, u1, a1, n1, c1, hk1⟩ := kid_get hrow hy (Below.refl _ _) hbl
  have hkk := exAt_kind (hk1.ex ⟨w, Below.refl _ _⟩)
  have HCALL := Lib.hid (hT _ w hG (hk1.ex ⟨w, Below.refl _ _⟩))
  obtain ⟨n, hn⟩ : ∃ n, l.length = n := ⟨_, rfl⟩
  rw [hn] at hi hln hbox hlc
  have HB := Lib.hid hbox
  rw [hkk] at hL ⊢
  obtain ⟨q, hq⟩ : ∃ q, decide (m ≤ k1 ∧ k1 ≤ 12) = q := ⟨_, rfl⟩
  rw [hq] at hL
  have HQ := Lib.hid hq
  have HL := Lib.hid hL
  obtain ⟨R, hR⟩ : ∃ R, textE y = R := ⟨_, rfl⟩
  rw [hR] at HCALL hlen ⊢
  have i0 : (0 : Int) ≤ (i : Int) := by omega
  have i1 : (i : Int) < (n : Int) := by omega
  obtain ⟨-, y0, y1, y2, y3, y4, y5, y6, y7, y8, y9⟩ := hk1
  have z0 := y0 ⟨w, Below.refl _ _⟩
  have z1 := y1 ⟨w, Below.refl _ _⟩
  have z2 := y2 ⟨w, Below.refl _ _⟩
  have z3 := y3 ⟨w, Below.refl _ _⟩
  have z4 := y4 ⟨w, Below.refl _ _⟩
  have z5 := y5 ⟨w, Below.refl _ _⟩
  have z6 := y6 ⟨w, Below.refl _ _⟩
  have z7 := y7 ⟨w, Below.refl _ _⟩
  have z8 := y8 ⟨w, Below.refl _ _⟩
  have z9 := y9 ⟨w, Below.refl _ _⟩
  dsimp only at z0 z1 z2 z3 z4 z5 z6 z7 z8 z9
  have HY0 := Lib.hid y0
  obtain ⟨-, -, -, -, -, -, -, -, -, p9⟩ := ten_cells hbox
  clear hbox hk hy hT hL hv hq hR hn hkk he hlc hrow hG hbl y0 y1 y2 y3 y4 y5 y6 y7 y8 y9 hln hLn hi
  go_enter Tryz.func24, Tryz.ntmps24
  go_wp2_with fail
  refine HCALL.out.mono ?_
  rintro e w1 ⟨rfl, hb1⟩
  have HB1 := Lib.hid hb1
  have HV1 := Lib.hid (HV.out.next hb1)
  have z0' := HY0.out ⟨w1, hb1⟩
  have p9' : w1.cell? ⟨bx, 9, none⟩ = _ := (hb1.cell (p := ⟨bx, 9, none⟩) (cell_lt p9)).trans p9
  dsimp only at z0'
  clear hb1 z0 z1 z2 z3 z4 z5 z6 z7 z8 z9 p9
  go_upto_region 2 with fail
  go_wp2_with fail
  refine (lib_ContainsI HV1.out HLN.out k1).mono ?_
  rintro e w2 ⟨rfl, hb2⟩
  rw [HL.out]
  have HB2 := Lib.hid (HB1.out.trans (hb2.mono HB1.out.size))
  clear hb2 z0' p9'
  cases q
  · have HE := Lib.hid (kid_no (s := R.1) HQ.out)
    go_wp2_with fail
    go_ret2
    exact ⟨ret_sb (by rw [HE.out]; simp) rfl, HB2.out⟩
  · have HE := Lib.hid (kid_yes (s := R.1) HQ.out)
    go_wp2_with fail
    go_ret2
    exact ⟨ret_sb (by rw [HE.out]) rfl, HB2.out⟩
structure TwoK (W : World) (bx bk : Nat) (k : Int) (t : Bs) (u : UseI) (ya yb : Ex) (a : Option Addr) (c : Nat) : Prop where
  box : W.heap[bx]? = some (.cells (exL k t u (.slice a 2 c)).toArray 26)
  clo : W.cell? ⟨bk, 0, none⟩ = some (.func (.func 24) #[] #[.pointer (some ⟨bx, 0, none⟩)])
  kids : KidsAt (fun _ => True) W [ya, yb] (.slice a 2 c)
  good : Good W
theorem TwoK.next {W W' : World} {bx bk : Nat} {k : Int} {t : Bs} {u : UseI} {ya yb : Ex} {a : Option Addr} {c : Nat} (h : TwoK W bx bk k t u ya yb a c) (hb : Below W.heap.size W W') : TwoK W' bx bk k t u ya yb a c :=
  ⟨(hb.block _ (Array.getElem?_eq_some_iff.1 h.box).1).trans h.box, (hb.cell (p := ⟨bk, 0, none⟩) (cell_lt h.clo)).trans h.clo, kids_next h.kids hb, h.good.next hb⟩
set_option maxRecDepth 100000 in
set_option maxHeartbeats 4000000 in
theorem text_two (sg : Bs) (m1 m2 : Int) (ya yb : Ex) (L1 L2 : List Int) (v1 v2 : Value) (bx bk : Nat) (k : Int) (t : Bs) (u : UseI) (a : Option Addr) (c : Nat) (w : World) (h : TwoK w bx bk k t u ya yb a c) (hsg : sg.length ≤ 2) (ha : TextOk ya) (hb : TextOk yb) (hla : (textE ya).1.length ≤ 1000000) (hlb : (textE yb).1.length ≤ 1000000)
    (h1 : L1.contains ya.kind = decide (m1 ≤ ya.kind ∧ ya.kind ≤ 12)) (h2 : L2.contains yb.kind = decide (m2 ≤ yb.kind ∧ yb.kind ≤ 12)) (hl1 : L1.length ≤ 1000) (hl2 : L2.length ≤ 1000) (hv1 : IntsAt w v1 L1) (hv2 : IntsAt w v2 L2) :
    Calls Tryz.prog 26 #[.string ⟨sg.toArray⟩, v1, v2, .pointer (some ⟨bk, 0, none⟩)] w (RetSB w (twoT sg m1 m2 (textL [ya, yb]))) := by
  have HH := Lib.hid h
  have HA := Lib.hid (fun (W : World) (h : TwoK W bx bk k t u ya yb a c) (hv : IntsAt W v1 L1) => text_kid 0 m1 ya L1 v1 bx k t u [ya, yb] a c W h.good h.box h.kids rfl (by simp) ha hla h1 hl1 hv)
  have HBB := Lib.hid (fun (W : World) (h : TwoK W bx bk k t u ya yb a c) (hv : IntsAt W v2 L2) => text_kid 1 m2 yb L2 v2 bx k t u [ya, yb] a c W h.good h.box h.kids rfl (by simp) hb hlb h2 hl2 hv)
  have HV1 := Lib.hid hv1
  have HV2 := Lib.hid hv2
  have HTT := Lib.hid (two_two sg m1 m2 ya yb)
  have hka := kid_len m1 ya.kind (textE ya).1
  have hkb := kid_len m2 yb.kind (textE yb).1
  obtain ⟨KA, hKA⟩ : ∃ KA, kidT m1 ya.kind (textE ya).1 = KA := ⟨_, rfl⟩
  obtain ⟨KB, hKB⟩ : ∃ KB, kidT m2 yb.kind (textE yb).1 = KB := ⟨_, rfl⟩
  obtain ⟨qa, hqa⟩ : ∃ qa, (textE ya).2 = qa := ⟨_, rfl⟩
  obtain ⟨qb, hqb⟩ : ∃ qb, (textE yb).2 = qb := ⟨_, rfl⟩
  rw [hKA] at hka HTT HA
  rw [hKB] at hkb HTT HBB
  rw [hqa] at HTT HA
  rw [hqb] at HTT HBB
  have hka : KA.length ≤ 1000002 := by omega
  have hkb : KB.length ≤ 1000002 := by omega
  have d0 := h.clo
  rw [HTT.out]
  clear h ha hb hla hlb h1 h2 hl1 hl2 hv1 hv2 hKA hKB hqa hqb
  go_enter Tryz.func26, Tryz.ntmps26
  go_wp2_with fail
  refine (HA.out w HH.out HV1.out).mono ?_
  rintro e w1 ⟨rfl, hb1⟩
  have HH1 := Lib.hid (HH.out.next hb1)
  have HV := Lib.hid (HV2.out.next hb1)
  have HB1 := Lib.hid hb1
  clear d0 hb1
  have d0 := HH1.out.clo
  go_upto_region 2 with fail
  go_wp2_with fail
  refine (HBB.out w1 HH1.out HV.out).mono ?_
  rintro e w2 ⟨rfl, hb2⟩
  have HB2 := Lib.hid (HB1.out.trans (hb2.mono HB1.out.size))
  clear d0 hb2
  cases qa <;> cases qb
  all_goals
    go_wp2_with fail
    go_ret2
    exact ⟨ret_sb (by simp) rfl, HB2.out⟩
end Go.Proofs.YtbkhmkpbbggcbaaGreatDoor
