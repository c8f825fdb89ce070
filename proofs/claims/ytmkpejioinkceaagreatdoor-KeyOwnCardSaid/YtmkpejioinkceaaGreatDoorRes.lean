/- The walks of resolve's scheme and within. The walk of resolve's within. The walk of resolve.Ref. What references mean: the plain law of the stage's theorem. -/
import Derived.Test.YtmkpejioinkceaaGreatDoorResP
import Derived.Test.YtmkpejioinkceaaGreatDoorUriNorm
import Derived.IntWalk
import Derived.Outline
import Derived.Laws.Concat
import Derived.Test.YtmkpejioinkceaaGreatDoorLongP
namespace Go.Proofs.YtmkpejioinkceaaGreatDoor
open Go.RowKit
set_option linter.unusedVariables false

theorem lowerB_lowc (c : UInt8) : Lib.lowerB c = lowc c := by
  have : ∀ n : Nat, n < 256 → Lib.lowerB (UInt8.ofNat n) = lowc (UInt8.ofNat n) := by decide +kernel
  have h := this c.toNat c.toNat_lt
  rwa [UInt8.ofNat_toNat] at h
theorem lib_LowerA (l : Bs) (hl : l.length ≤ 100000) (ha : ∀ c ∈ l, c.toNat < 128) (w : World) :
    Calls Tryz.prog 88 #[.string ⟨l.toArray⟩] w (Ret w (.string ⟨(lower l).toArray⟩)) := by
  have h := Tryz.strings_ToLower_ascii ⟨l.toArray⟩ w (by show l.length ≤ _; omega) (by
    intro j c hj
    exact ha c (List.mem_of_getElem? hj))
  have e : Lib.toLowerA (⟨l.toArray⟩ : ByteArray).data.toList = lower l := by
    show l.map Lib.lowerB = lower l
    unfold lower; congr 1; funext c; exact lowerB_lowc c
  rw [e] at h
  exact h
theorem alpha_set (c : UInt8) : alphaSet.contains c = alphac c := congrFun alphaSet_eq c
theorem lib_alpha (c : UInt8) (w : World) :
    Calls Tryz.prog 39 #[.string ⟨alphaSet.toArray⟩, .int .u8 (c.toNat : Int)] w fun e w' => (∃ i : Int, e = .returned (.int .i64 i) ∧ decide (i < 0) = !alphac c) ∧ w = w' := by
  refine (lib_IndexByte ⟨alphaSet.toArray⟩ c w).mono ?_
  rintro e w' ⟨rfl, rfl⟩
  refine ⟨⟨_, rfl, ?_⟩, rfl⟩
  rw [show (⟨alphaSet.toArray⟩ : ByteArray).data.toList = alphaSet from rfl, alpha_set]
  cases alphac c
  · rfl
  · exact decide_eq_false (by simp)
theorem sch_ascii {l : Bs} (h : l.all schc = true) : ∀ c ∈ l, c.toNat < 128 := by
  intro c hc
  have := of_decide_eq_true (List.all_eq_true.1 h c hc)
  omega
theorem lib_schTrim (s : Bs) (w : World) (hs : s.length ≤ 1000000) : Calls Tryz.prog 36 #[.string ⟨s.toArray⟩, .string ⟨schSet.toArray⟩] w (Ret w (.string ⟨(Lib.trimS s schSet).toArray⟩)) :=
  lib_Trim ⟨s.toArray⟩ ⟨schSet.toArray⟩ w (by show s.length ≤ _; omega) (by decide) (ascii_of_all (by decide))
theorem sch_trim {s : Bs} (h : s.all schc = true) : Lib.trimS s schSet = [] := by
  have := trimS_nil s schSet
  rw [schSet_eq, h] at this
  exact eq_of_beq this
theorem sch_trim_no {s : Bs} (h : s.all schc = false) : (Lib.trimS s schSet).isEmpty = false := by
  have := trimS_nil s schSet
  rw [schSet_eq, h] at this
  cases ht : Lib.trimS s schSet
  · rw [ht] at this; cases this
  · rfl
/-- What scheme returns. -/
def schV (r : Bs) : Value := if schB r = true then .tuple #[.string ⟨(lower (upto 58 r)).toArray⟩, .string ⟨(past 58 r).toArray⟩, .bool true] else .tuple #[.string ⟨#[]⟩, .string ⟨#[]⟩, .bool false]
theorem schV_no {r : Bs} (h : schB r = false) : schV r = .tuple #[.string ⟨#[]⟩, .string ⟨#[]⟩, .bool false] := by unfold schV; rw [h]; rfl
theorem schV_yes {r : Bs} (h : schB r = true) : schV r = .tuple #[.string ⟨(lower (upto 58 r)).toArray⟩, .string ⟨(past 58 r).toArray⟩, .bool true] := by unfold schV; rw [if_pos h]

set_option maxRecDepth 100000 in
theorem res_scheme (r : Bs) (w : World) (hg : Good w) (hl : r.length ≤ 100000) :
    Calls Tryz.prog 53 #[.string ⟨r.toArray⟩] w (Ret w (schV r)) := by
  have HG := Lib.hid hg
  clear hg
  have hS := Lib.hid (show schB r = (r.contains 58 && nameOk (upto 58 r)) from rfl)
  have hul := upto_sub 58 r
  have HY := Lib.hid (fun h => schV_yes (r := r) h)
  have HN := Lib.hid (fun h => schV_no (r := r) h)
  go_enter Tryz.func53, Tryz.ntmps53
  go_wp2_with fail
  refine (lib_Cut1 ⟨r.toArray⟩ 58 w HG.out (by show r.length < _; omega)).mono ?_
  rintro e w1 ⟨rfl, hb1⟩
  rw [show (⟨r.toArray⟩ : ByteArray).data.toList = r from rfl, show hasB 58 r = r.contains 58 from rfl]
  have HB1 := Lib.hid hb1
  clear hb1
  generalize upto 58 r = nm at *
  generalize past 58 r = rest at *
  rcases hc : r.contains 58 with _ | _
  · have HE := Lib.hid (HN.out (by rw [hS.out, hc]; rfl))
    clear hc
    go_wp2_with fail
    go_ret3
    exact ⟨by rw [HE.out]; rfl, HB1.out⟩
  · rcases nm with _ | ⟨c, q⟩
    · have HE := Lib.hid (HN.out (by rw [hS.out, hc]; rfl))
      clear hc
      go_wp2_with fail
      go_ret3
      exact ⟨by rw [HE.out]; rfl, HB1.out⟩
    · have hS2 := Lib.hid (show schB r = (alphac c && (c :: q).all schc) by rw [hS.out, hc]; rfl)
      have hx : ∀ h, ((⟨(c :: q).toArray⟩ : ByteArray)[0]'h) = c := fun _ => rfl
      clear hc
      go_wp2_with fail
      refine (lib_alpha c w1).mono ?_
      rintro e w2 ⟨⟨i, rfl, hi⟩, rfl⟩
      rcases ha : alphac c with _ | _
      · rw [ha] at hi
        have HE := Lib.hid (HN.out (by rw [hS2.out, ha]; rfl))
        have hi' : i < 0 := of_decide_eq_true hi
        clear hi ha
        go_wp2_with fail
        go_ret3
        exact ⟨by rw [HE.out]; rfl, HB1.out⟩
      · rw [ha] at hi
        have hi' : ¬ i < 0 := of_decide_eq_false hi
        clear hi
        go_wp2_with fail
        refine (lib_schTrim (c :: q) w1 (by omega)).mono ?_
        rintro e w2 ⟨rfl, hb2⟩
        have HB2 := Lib.hid (HB1.out.trans (hb2.mono HB1.out.size))
        clear hb2
        rcases hal : (c :: q).all schc with _ | _
        · have HE := Lib.hid (HN.out (by rw [hS2.out, ha, hal]; rfl))
          have hne := sch_trim_no hal
          clear ha hal
          go_wp2_with fail
          go_ret3
          exact ⟨by rw [HE.out]; rfl, HB2.out⟩
        · have HE := Lib.hid (HY.out (by rw [hS2.out, ha, hal]; rfl))
          have HA := Lib.hid (sch_ascii hal)
          rw [sch_trim hal]
          clear ha hal
          go_wp2_with fail
          refine (lib_LowerA (c :: q) (by omega) HA.out w2).mono ?_
          rintro e w3 ⟨rfl, hb3⟩
          have HB3 := Lib.hid (HB2.out.trans (hb3.mono HB2.out.size))
          clear hb3
          go_wp2_with fail
          go_ret3
          exact ⟨by rw [HE.out]; rfl, HB3.out⟩
end Go.Proofs.YtmkpejioinkceaaGreatDoor

namespace Go.Proofs.YtmkpejioinkceaaGreatDoor
open Go.RowKit
set_option linter.unusedVariables false

theorem NA.s5 {w W : World} {u : U} (h : NA w W u) (x : Bool) : NA w (W.setCell ⟨w.heap.size, 5, none⟩ (.bool x)) { u with hq := x } := h.put 5 _ (h.box.s5 x)
theorem lib_LastSlash (l : Bs) (hl : l.length ≤ 1000000) (hs : l.contains 47 = true) (w : World) :
    Calls Tryz.prog 89 #[.string ⟨l.toArray⟩, .int .u8 47] w fun e w' => e = .returned (.int .i64 (lastAt l : Int)) ∧ w = w' := by
  refine (Tryz.strings_LastIndexByte ⟨l.toArray⟩ 47 (by show l.length < _; omega) w).mono ?_
  rintro e w' ⟨rfl, rfl⟩
  exact ⟨by rw [(last_some hs).1], rfl⟩
theorem within_none {u : U} {r : Bs} (h1 : upto 63 r = []) (h2 : r.contains 63 = false) : withinB u r = u := by
  unfold withinB withQuery; rw [h1, if_pos ⟨rfl, h2⟩]; rfl
theorem within_query {u : U} {r : Bs} (h1 : upto 63 r = []) (h2 : r.contains 63 = true) : withinB u r = { u with query := past 63 r, hq := true } := by
  unfold withinB withQuery; rw [h1, h2, if_neg (by simp)]; rfl
theorem within_abs {u : U} {r q : Bs} (h1 : upto 63 r = 47 :: q) : withinB u r = { u with query := past 63 r, hq := r.contains 63, path := 47 :: q } := by
  unfold withinB withQuery; rw [h1, if_neg (by simp)]; rfl
theorem within_rel {u : U} {r q : Bs} {c : UInt8} (h1 : upto 63 r = c :: q) (hc : c ≠ 47) : withinB u r = { u with query := past 63 r, hq := r.contains 63, path := u.path.take (lastAt u.path + 1) ++ (c :: q) } := by
  unfold withinB withQuery; rw [h1, if_neg (by simp)]
  show (if c = 47 then _ else _) = _
  rw [if_neg hc]

set_option maxRecDepth 100000 in
set_option maxHeartbeats 1000000 in
theorem res_within (u : U) (r : Bs) (w : World) (hg : Good w) (hr : r.length ≤ 4000) (hp : u.path.contains 47 = true) (hpl : u.path.length ≤ 4000) :
    Calls Tryz.prog 54 #[uV u, .string ⟨r.toArray⟩] w (Ret w (uV (withinB u r))) := by
  have HN := Lib.hid (na_new w u)
  have HG := Lib.hid hg
  have hul := upto_sub 63 r
  have hpl2 := past_sub 63 r
  have HP := Lib.hid hp
  clear hg hp
  have HE1 := Lib.hid (within_none (u := u) (r := r))
  have HE2 := Lib.hid (within_query (u := u) (r := r))
  have HE3 := Lib.hid (fun q => within_abs (u := u) (r := r) (q := q))
  have HE4 := Lib.hid (fun q c => within_rel (u := u) (r := r) (q := q) (c := c))
  obtain ⟨sc, ho, po, pa, qu, hq⟩ := u
  simp only at hpl
  go_enter Tryz.func54, Tryz.ntmps54
  go_wp2_with fail
  generalize (w.alloc (.cells #[.string ⟨sc.toArray⟩, .string ⟨ho.toArray⟩, .int .i64 po, .string ⟨pa.toArray⟩, .string ⟨qu.toArray⟩, .bool hq] 23)).alloc (.cells #[.string ⟨#[]⟩, .string ⟨#[]⟩, .int .i64 0, .string ⟨#[]⟩, .string ⟨#[]⟩, .bool false] 23) = W at *
  refine (lib_Cut1 ⟨r.toArray⟩ 63 W (HG.out.next HN.out.below) (by show r.length < _; omega)).mono ?_
  rintro e w1 ⟨rfl, hb1⟩
  rw [show (⟨r.toArray⟩ : ByteArray).data.toList = r from rfl, show hasB 63 r = r.contains 63 from rfl]
  have HN1 := Lib.hid (HN.out.next hb1)
  clear hb1 HN
  generalize withinB ⟨sc, ho, po, pa, qu, hq⟩ r = V at *
  generalize upto 63 r = p at *
  generalize past 63 r = q at *
  generalize r.contains 63 = has at *
  rcases p with _ | ⟨c, t⟩
  · cases has
    · have HE := Lib.hid (HE1.out rfl rfl)
      clear HE1 HE2 HE3 HE4
      have HQ := Lib.hid (put6 ⟨sc, ho, po, pa, qu, hq⟩ HN1.out.below (Nat.le_succ _) HN1.out.res)
      obtain ⟨c0, c1, c2, c3, c4, c5⟩ := HN1.out.box.cells
      simp only at c0 c1 c2 c3 c4 c5
      have rb := HN1.out.res.full
      obtain ⟨r0, r1, r2, r3, r4, r5⟩ := rb.c
      have g0 := rb.f0
      have g1 := rb.f1
      have g2 := rb.f2
      have g3 := rb.f3
      have g4 := rb.f4
      have g5 := rb.f5
      clear rb
      go_wp2_with fail
      clear r0 r1 r2 r3 r4 r5 g0 g1 g2 g3 g4 g5 c0 c1 c2 c3 c4 c5
      obtain ⟨k0, k1, k2, k3, k4, k5⟩ := HQ.out.1.cells
      unfold put6w at k0 k1 k2 k3 k4 k5
      simp only at k0 k1 k2 k3 k4 k5
      refine bodyPost_ret (v := uV ⟨sc, ho, po, pa, qu, hq⟩) ?_ rfl ⟨by rw [HE.out], HQ.out.2⟩
      simp [results, Tryz.f54, go_sem, k0, k1, k2, k3, k4, k5]
    · have HE := Lib.hid (HE2.out rfl rfl)
      clear HE1 HE2 HE3 HE4
      have c4 := HN1.out.box.cells.c4
      have f4 := HN1.out.box.full.f4
      simp only at c4
      have HN2 := Lib.hid (HN1.out.s4 q)
      simp only at HN2
      have c5 := HN2.out.box.cells.c5
      have f5 := HN2.out.box.full.f5
      simp only at c5
      have HN3 := Lib.hid (HN2.out.s5 true)
      simp only at HN3
      have HQ := Lib.hid (put6 ⟨sc, ho, po, pa, q, true⟩ HN3.out.below (Nat.le_succ _) HN3.out.res)
      obtain ⟨c0, c1, c2, c3, c4, c5⟩ := HN3.out.box.cells
      simp only at c0 c1 c2 c3 c4 c5
      have rb := HN3.out.res.full
      obtain ⟨r0, r1, r2, r3, r4, r5⟩ := rb.c
      have g0 := rb.f0
      have g1 := rb.f1
      have g2 := rb.f2
      have g3 := rb.f3
      have g4 := rb.f4
      have g5 := rb.f5
      clear rb
      go_wp2_with fail
      clear r0 r1 r2 r3 r4 r5 g0 g1 g2 g3 g4 g5 c0 c1 c2 c3 c4 c5
      obtain ⟨k0, k1, k2, k3, k4, k5⟩ := HQ.out.1.cells
      unfold put6w at k0 k1 k2 k3 k4 k5
      simp only at k0 k1 k2 k3 k4 k5
      refine bodyPost_ret (v := uV ⟨sc, ho, po, pa, q, true⟩) ?_ rfl ⟨by rw [HE.out], HQ.out.2⟩
      simp [results, Tryz.f54, go_sem, k0, k1, k2, k3, k4, k5]
  · have hx : ∀ h, ((⟨(c :: t).toArray⟩ : ByteArray)[0]'h) = c := fun _ => rfl
    by_cases hc : c = 47
    · subst hc
      have hx37 : ((47 : UInt8).toNat : Int) = 47 := rfl
      have HE := Lib.hid (HE3.out t rfl)
      clear HE1 HE2 HE3 HE4
      have c4 := HN1.out.box.cells.c4
      have f4 := HN1.out.box.full.f4
      simp only at c4
      have HN2 := Lib.hid (HN1.out.s4 q)
      simp only at HN2
      have c5 := HN2.out.box.cells.c5
      have f5 := HN2.out.box.full.f5
      simp only at c5
      have HN3 := Lib.hid (HN2.out.s5 has)
      simp only at HN3
      have c3 := HN3.out.box.cells.c3
      have f3 := HN3.out.box.full.f3
      simp only at c3
      have HN4 := Lib.hid (HN3.out.s3 (47 :: t))
      simp only at HN4
      have HQ := Lib.hid (put6 ⟨sc, ho, po, 47 :: t, q, has⟩ HN4.out.below (Nat.le_succ _) HN4.out.res)
      obtain ⟨c0, c1, c2, c3, c4, c5⟩ := HN4.out.box.cells
      simp only at c0 c1 c2 c3 c4 c5
      have rb := HN4.out.res.full
      obtain ⟨r0, r1, r2, r3, r4, r5⟩ := rb.c
      have g0 := rb.f0
      have g1 := rb.f1
      have g2 := rb.f2
      have g3 := rb.f3
      have g4 := rb.f4
      have g5 := rb.f5
      clear rb
      go_wp2_with fail
      clear r0 r1 r2 r3 r4 r5 g0 g1 g2 g3 g4 g5 c0 c1 c2 c3 c4 c5
      obtain ⟨k0, k1, k2, k3, k4, k5⟩ := HQ.out.1.cells
      unfold put6w at k0 k1 k2 k3 k4 k5
      simp only at k0 k1 k2 k3 k4 k5
      refine bodyPost_ret (v := uV ⟨sc, ho, po, 47 :: t, q, has⟩) ?_ rfl ⟨by rw [HE.out], HQ.out.2⟩
      simp [results, Tryz.f54, go_sem, k0, k1, k2, k3, k4, k5]
    · have hci : ((c.toNat : Int) == 47) = false := by
        rw [beq_eq_false_iff_ne]; exact fun e => hc (by rw [u8eq]; show c.toNat = 47; omega)
      have HE := Lib.hid (HE4.out t c rfl hc)
      clear HE1 HE2 HE3 HE4
      have c4 := HN1.out.box.cells.c4
      have f4 := HN1.out.box.full.f4
      simp only at c4
      have HN2 := Lib.hid (HN1.out.s4 q)
      simp only at HN2
      have c5 := HN2.out.box.cells.c5
      have f5 := HN2.out.box.full.f5
      simp only at c5
      have HN3 := Lib.hid (HN2.out.s5 has)
      simp only at HN3
      have hls := last_some HP.out
      have hlt := hls.2
      have HC := Lib.hid (lib_LastSlash pa (by omega) HP.out)
      clear hls HP
      generalize lastAt pa = k at *
      have hst : ∀ W, (Op.stringOp .add ⟨(pa.take (k + 1)).toArray⟩ ⟨(c :: t).toArray⟩).run Tryz.prog W = .ok (.string ⟨(pa.take (k + 1) ++ c :: t).toArray⟩) W := by
        intro W
        have := run_string_add_sum (P := Tryz.prog) W ⟨(pa.take (k + 1)).toArray⟩ ⟨(c :: t).toArray⟩ (by show (pa.take (k + 1)).length + (c :: t).length ≤ _; simp at hul ⊢; omega)
        rw [cat_bs] at this; exact this
      have hex : (⟨pa.toArray⟩ : ByteArray).extract 0 (k + 1) = ⟨(pa.take (k + 1)).toArray⟩ := bs_ext (by rw [ext_data]; simp)
      have c3 := HN3.out.box.cells.c3
      have f3 := HN3.out.box.full.f3
      simp only at c3
      have HN4 := Lib.hid (HN3.out.s3 (pa.take (k + 1) ++ c :: t))
      simp only at HN4
      have z1 : (k : Int) + 1 ≤ (pa.length : Int) := by omega
      have z2 : (0 : Int) ≤ (k : Int) + 1 := by omega
      have z3 : ((k : Int) + 1).toNat = k + 1 := by omega
      have z4 : IntKind.i64.wrap ((k : Int) + 1) = (k : Int) + 1 := IntWalk.i64_in _ (by omega)
      generalize pa.take (k + 1) ++ c :: t = np at *
      generalize pa.take (k + 1) = tk at *
      go_wp2_with fail
      generalize (w1.setCell ⟨w.heap.size, 4, none⟩ (.string ⟨q.toArray⟩)).setCell ⟨w.heap.size, 5, none⟩ (.bool has) = W3 at *
      clear c4 f4 c5 f5 HN1 HN2
      have HN5 := Lib.hid (show NA w (W3.setCell ⟨w.heap.size, 3, none⟩ (.string ⟨np.toArray⟩)).drew ⟨sc, ho, po, np, q, has⟩ from HN4.out.next (Below.refl _ _).drew)
      go_region_with ((go_at_call 89; refine (HC.out _).mono ?_; rintro e w' ⟨rfl, rfl⟩))
      all_goals
        generalize (W3.setCell ⟨w.heap.size, 3, none⟩ (.string ⟨np.toArray⟩)).drew = W5 at *
        clear c3 f3 HN3 HN4 hst hex hx
        have HQ := Lib.hid (put6 ⟨sc, ho, po, np, q, has⟩ HN5.out.below (Nat.le_succ _) HN5.out.res)
        obtain ⟨c0, c1, c2, c3, c4, c5⟩ := HN5.out.box.cells
        simp only at c0 c1 c2 c3 c4 c5
        have rb := HN5.out.res.full
        obtain ⟨r0, r1, r2, r3, r4, r5⟩ := rb.c
        have g0 := rb.f0
        have g1 := rb.f1
        have g2 := rb.f2
        have g3 := rb.f3
        have g4 := rb.f4
        have g5 := rb.f5
        clear rb
        go_wp2_with fail
        clear r0 r1 r2 r3 r4 r5 g0 g1 g2 g3 g4 g5 c0 c1 c2 c3 c4 c5
        obtain ⟨k0, k1, k2, k3, k4, k5⟩ := HQ.out.1.cells
        unfold put6w at k0 k1 k2 k3 k4 k5
        simp only at k0 k1 k2 k3 k4 k5
        refine bodyPost_ret (v := uV ⟨sc, ho, po, np, q, has⟩) ?_ rfl ⟨by rw [HE.out], HQ.out.2⟩
        simp [results, Tryz.f54, go_sem, k0, k1, k2, k3, k4, k5]
end Go.Proofs.YtmkpejioinkceaaGreatDoor

namespace Go.Proofs.YtmkpejioinkceaaGreatDoor
open Go.RowKit
set_option linter.unusedVariables false

theorem parse_code {s : Bs} {v : U} {c : Int} (h : parseB s = (v, c)) : c = 0 ∨ (v = noU ∧ (c = 3 ∨ c = 4)) := by
  unfold parseB at h
  cases hl : decide (s.length ≤ maxURI)
  · rw [hl] at h; injection h with h1 h2; exact .inr ⟨h1.symm, .inl h2.symm⟩
  · rw [hl, cond_true] at h
    cases hp : portedB (rawB s) with
    | none => rw [hp] at h; injection h with h1 h2; exact .inr ⟨h1.symm, .inr h2.symm⟩
    | some u =>
      rw [hp] at h
      change (if checkB u = 0 then (u, 0) else (noU, checkB u)) = (v, c) at h
      by_cases hk : checkB u = 0
      · rw [if_pos hk] at h; injection h with _ h2; exact .inl h2.symm
      · rw [if_neg hk] at h; injection h with h1 h2; rw [← h2]; exact .inr ⟨h1.symm, check_codes hk⟩
theorem ref_long {b : U} {s : Bs} (h : 1024 < s.length) : refB b s = (noU, 3) := by unfold refB; rw [if_pos h]
theorem ref_arg {b : U} {s : Bs} (h : ¬ 1024 < s.length) (hc : ¬ checkB b = 0) : refB b s = (noU, 2) := by unfold refB; rw [if_neg h, if_neg hc]
theorem ref_ok {b : U} {s : Bs} (h : ¬ 1024 < s.length) (hc : checkB b = 0) : refB b s = refC b (upto 35 s) := by unfold refB; rw [if_neg h, if_pos hc]
theorem refC_sch {b : U} {r : Bs} (h : schB r = true) (hn : lower (upto 58 r) = http ∨ lower (upto 58 r) = https) (hp : Lib.hasPrefix (past 58 r) twoSl = true) : refC b r = wholeB (lower (upto 58 r) ++ 58 :: past 58 r) := by
  unfold refC; rw [if_pos h, if_pos ⟨hn, hp⟩]
theorem refC_bad {b : U} {r : Bs} (h : schB r = true) (hn : ¬ ((lower (upto 58 r) = http ∨ lower (upto 58 r) = https) ∧ Lib.hasPrefix (past 58 r) twoSl = true)) : refC b r = (noU, 4) := by
  unfold refC; rw [if_pos h, if_neg hn]
theorem refC_two {b : U} {r : Bs} (h : schB r = false) (hp : Lib.hasPrefix r twoSl = true) : refC b r = wholeB (b.scheme ++ 58 :: r) := by
  unfold refC; rw [if_neg (by rw [h]; decide), if_pos hp]
theorem refC_in {b : U} {r : Bs} (h : schB r = false) (hp : Lib.hasPrefix r twoSl = false) : refC b r = checkedB (withinB b r) := by
  unfold refC; rw [if_neg (by rw [h]; decide), if_neg (by rw [hp]; decide)]
theorem whole_ok {t : Bs} {v : U} (h : parseB t = (v, 0)) : wholeB t = (normB v, 0) := by unfold wholeB; rw [h]; rfl
theorem whole_no {t : Bs} {v : U} {e : Int} (h : parseB t = (v, e)) (he : ¬ e = 0) : wholeB t = (noU, e) := by unfold wholeB; rw [h, if_neg he]
theorem checked_ok {v : U} (h : checkB v = 0) : checkedB v = (normB v, 0) := by unfold checkedB; rw [if_pos h]
theorem checked_no {v : U} (h : ¬ checkB v = 0) : checkedB v = (noU, checkB v) := by unfold checkedB; rw [if_neg h]
theorem cat58 (a b : Bs) : ((⟨a.toArray⟩ : ByteArray) ++ ⟨#[58]⟩ ++ ⟨b.toArray⟩).data.toList = a ++ 58 :: b := by
  rw [show (⟨#[58]⟩ : ByteArray) = ⟨([58] : Bs).toArray⟩ from rfl, cat_bs, cat_bs]; simp

/-- What holds behind the switch's head: the boxes of the base, the result, and what is meant. -/
structure RB (w W : World) (u u9 : U) (b9 : Nat) : Prop where
  na : NA w W u
  box : UBx W b9 u9
  lt : w.heap.size + 1 < b9
theorem RB.next {w W W' : World} {u u9 : U} {b9 : Nat} (h : RB w W u u9 b9) (hb : Below W.heap.size W W') : RB w W' u u9 b9 := ⟨h.na.next hb, h.box.next hb, h.lt⟩
theorem RB.set1 {w W : World} {u u9 u9' : U} {b9 j : Nat} {v : Value} (h : RB w W u u9 b9) (hx : UBx (W.setCell ⟨b9, j, none⟩ v) b9 u9') : RB w (W.setCell ⟨b9, j, none⟩ v) u u9' b9 := by
  have hl := h.lt
  exact ⟨⟨h.na.below.setCell (p := ⟨b9, j, none⟩) (by show w.heap.size ≤ b9; omega) v, h.na.box.other (by omega), h.na.res.other (by omega)⟩, hx, hl⟩
theorem RB.set9 {w W : World} {u u9 : U} {b9 : Nat} (h : RB w W u u9 b9) (x : U) : RB w (put6w W b9 x) u x b9 := by
  have h0 := h.set1 (h.box.s0 x.scheme)
  have h1 := h0.set1 (h0.box.s1 x.host)
  have h2 := h1.set1 (h1.box.s2 x.port)
  have h3 := h2.set1 (h2.box.s3 x.path)
  have h4 := h3.set1 (h3.box.s4 x.query)
  exact h4.set1 (h4.box.s5 x.hq)
theorem rb_new {w W : World} {u : U} (h : NA w W u) : RB w (W.alloc (uObj u)) u u W.heap.size := by
  have hb := (Below.refl W.heap.size W).alloc (Nat.le_refl _) (uObj u)
  exact ⟨h.next hb, ubx_new W u, h.res.lt⟩

set_option maxRecDepth 100000 in
set_option maxHeartbeats 2000000 in
theorem res_Ref (u : U) (s : Bs) (w : World) (hg : GX w) (hl : LimU u) (hs : s.length ≤ 1000000) :
    Calls Tryz.prog 31 #[uV u, .string ⟨s.toArray⟩] w (Ret w (parseV (refB u s))) := by
  have HN := Lib.hid (na_new w u)
  have HG := Lib.hid hg
  have HL := Lib.hid hl
  clear hg hl
  by_cases h1 : 1024 < s.length
  · have hli : (1024 : Int) < (s.length : Int) := by omega
    have HE := Lib.hid (ref_long (b := u) h1)
    clear h1
    go_enter Tryz.func31, Tryz.ntmps31
    go_upto_if 11 with fail
    generalize (w.alloc (.cells #[.string ⟨u.scheme.toArray⟩, .string ⟨u.host.toArray⟩, .int .i64 u.port, .string ⟨u.path.toArray⟩, .string ⟨u.query.toArray⟩, .bool u.hq] 23)).alloc (.cells #[.string ⟨#[]⟩, .string ⟨#[]⟩, .int .i64 0, .string ⟨#[]⟩, .string ⟨#[]⟩, .bool false] 23) = W at *
    have HQ := Lib.hid (put6 noU HN.out.below (Nat.le_succ _) HN.out.res)
    have rb := HN.out.res.full
    obtain ⟨r0, r1, r2, r3, r4, r5⟩ := rb.c
    have g0 := rb.f0
    have g1 := rb.f1
    have g2 := rb.f2
    have g3 := rb.f3
    have g4 := rb.f4
    have g5 := rb.f5
    clear rb
    go_wp2_with fail
    clear r0 r1 r2 r3 r4 r5 g0 g1 g2 g3 g4 g5
    obtain ⟨k0, k1, k2, k3, k4, k5⟩ := HQ.out.1.cells
    unfold put6w at k0 k1 k2 k3 k4 k5
    simp only [noU] at k0 k1 k2 k3 k4 k5
    refine bodyPost_ret (v := parseV (noU, 3)) ?_ rfl ⟨by rw [HE.out], HQ.out.2⟩
    simp [results, Tryz.f31, go_sem, k0, k1, k2, k3, k4, k5, noU]
  · have hli : ¬ ((1024 : Int) < (s.length : Int)) := by omega
    obtain ⟨c0, c1, c2, c3, c4, c5⟩ := HN.out.box.cells
    go_enter Tryz.func31, Tryz.ntmps31
    go_wp2_with fail
    generalize (w.alloc (.cells #[.string ⟨u.scheme.toArray⟩, .string ⟨u.host.toArray⟩, .int .i64 u.port, .string ⟨u.path.toArray⟩, .string ⟨u.query.toArray⟩, .bool u.hq] 23)).alloc (.cells #[.string ⟨#[]⟩, .string ⟨#[]⟩, .int .i64 0, .string ⟨#[]⟩, .string ⟨#[]⟩, .bool false] 23) = W at *
    refine (uri_Check u W (HG.out.next HN.out.below) HL.out).mono ?_
    rintro e w1 ⟨rfl, hb1⟩
    have HN1 := Lib.hid (HN.out.next hb1)
    clear hb1 c0 c1 c2 c3 c4 c5 HN
    by_cases hc : checkB u = 0
    · have HE0 := Lib.hid (ref_ok h1 hc)
      have hok := (checkB_ok u).1 hc
      have hform := hok
      unfold okB at hform
      rw [Bool.and_eq_true, form_iff, decide_eq_true_eq] at hform
      have HP7 := Lib.hid (show u.path.contains 47 = true by obtain ⟨pr, hpe, _⟩ := hform.1.path; rw [hpe]; exact slash_in)
      have htl : (textB u).length ≤ 1024 := hform.2
      have hlen := (show u.scheme.length ≤ 1024 ∧ u.path.length ≤ 1024 ∧ u.query.length ≤ 10000 ∧ u.host.length ≤ 10000 by
        have e := text_parts u
        rw [e] at htl
        simp only [List.length_append] at htl
        exact ⟨by omega, by omega, HL.out.query, HL.out.host⟩)
      obtain ⟨l1, l2, l3, l4⟩ := hlen
      rw [hc]
      clear hc hok hform htl
      go_wp2_with fail
      refine (lib_Cut1 ⟨s.toArray⟩ 35 w1 (HG.out.next HN1.out.below).good (by show s.length < _; omega)).mono ?_
      rintro e w2 ⟨rfl, hb2⟩
      rw [show (⟨s.toArray⟩ : ByteArray).data.toList = s from rfl]
      have HN2 := Lib.hid (HN1.out.next hb2)
      have hul := upto_sub 35 s
      clear hb2 HN1
      generalize upto 35 s = r at *
      have hrl : r.length ≤ 1024 := by omega
      clear hul
      go_wp2_with fail
      refine (res_scheme r w2 (HG.out.next HN2.out.below).good (by omega)).mono ?_
      rintro e w3 ⟨rfl, hb3⟩
      have HN3 := Lib.hid (HN2.out.next hb3)
      have HR4 := Lib.hid (rb_new HN3.out)
      clear hb3 HN2
      obtain ⟨c0, c1, c2, c3, c4, c5⟩ := HN3.out.box.cells
      rcases hsc : schB r with _ | _
      · rw [schV_no hsc]
        have HSC := Lib.hid hsc
        clear hsc
        go_wp2_with fail
        clear c0 c1 c2 c3 c4 c5
        generalize w3.alloc (.cells #[.string ⟨u.scheme.toArray⟩, .string ⟨u.host.toArray⟩, .int .i64 u.port, .string ⟨u.path.toArray⟩, .string ⟨u.query.toArray⟩, .bool u.hq] 23) = W4 at *
        generalize w3.heap.size = b9 at *
        refine (lib_HasPrefix ⟨r.toArray⟩ ⟨#[47, 47]⟩ W4).mono ?_
        rintro e w4 ⟨rfl, rfl⟩
        rw [show (⟨r.toArray⟩ : ByteArray).data.toList = r from rfl, show (⟨#[47, 47]⟩ : ByteArray).data.toList = twoSl from rfl]
        obtain ⟨c0, c1, c2, c3, c4, c5⟩ := HR4.out.na.box.cells
        rcases hp : Lib.hasPrefix r twoSl with _ | _
        · have HX := Lib.hid (show refB u s = checkedB (withinB u r) by rw [HE0.out]; exact refC_in HSC.out hp)
          have HWL := Lib.hid (within_lim (u := u) (r := r) (by omega) l4 (by omega) l3 (by omega))
          clear hp
          go_wp2_with fail
          refine (res_within u r W4 (HG.out.next HR4.out.na.below).good (by omega) HP7.out (by omega)).mono ?_
          rintro e w5 ⟨rfl, hb5⟩
          have HR5 := Lib.hid (HR4.out.next hb5)
          clear hb5 HR4 c0 c1 c2 c3 c4 c5
          generalize withinB u r = u9 at *
          have HR9 := Lib.hid (HR5.out.set9 u9)
          unfold put6w at HR9
          have rb := HR5.out.box.full
          obtain ⟨q0, q1, q2, q3, q4, q5⟩ := rb.c
          have h0 := rb.f0
          have h1 := rb.f1
          have h2 := rb.f2
          have h3 := rb.f3
          have h4 := rb.f4
          have h5 := rb.f5
          clear rb
          go_upto_region 16 with fail
          generalize (((((w5.setCell ⟨b9, 0, none⟩ (.string ⟨u9.scheme.toArray⟩)).setCell ⟨b9, 1, none⟩ (.string ⟨u9.host.toArray⟩)).setCell ⟨b9, 2, none⟩ (.int .i64 u9.port)).setCell ⟨b9, 3, none⟩ (.string ⟨u9.path.toArray⟩)).setCell ⟨b9, 4, none⟩ (.string ⟨u9.query.toArray⟩)).setCell ⟨b9, 5, none⟩ (.bool u9.hq) = W9 at *
          clear q0 q1 q2 q3 q4 q5 h0 h1 h2 h3 h4 h5 HR5
          obtain ⟨d0, d1, d2, d3, d4, d5⟩ := HR9.out.box.cells
          go_wp2_with fail
          refine (uri_Check u9 W9 (HG.out.next HR9.out.na.below) ⟨HWL.out.1, HWL.out.2.1, HWL.out.2.2.1, HWL.out.2.2.2⟩).mono ?_
          rintro e w6 ⟨rfl, hb6⟩
          have HR6 := Lib.hid (HR9.out.next hb6)
          clear hb6 d0 d1 d2 d3 d4 d5 HR9
          by_cases hck : checkB u9 = 0
          · have HE := Lib.hid (show refB u s = (normB u9, 0) by rw [HX.out]; exact checked_ok hck)
            have HOK := Lib.hid ((checkB_ok u9).1 hck)
            rw [hck]
            clear hck
            obtain ⟨d0, d1, d2, d3, d4, d5⟩ := HR6.out.box.cells
            go_wp2_with fail
            refine (uri_Normal u9 _ (HG.out.next HR6.out.na.below) (limU_ok HOK.out)).mono ?_
            rintro e w9 ⟨rfl, hb9⟩
            have HN9 := Lib.hid (HR6.out.na.next hb9)
            clear hb9 d0 d1 d2 d3 d4 d5
            generalize normB u9 = un at *
            have HQ := Lib.hid (put6 un HN9.out.below (Nat.le_succ _) HN9.out.res)
            have rb := HN9.out.res.full
            obtain ⟨r0, r1, r2, r3, r4, r5⟩ := rb.c
            have g0 := rb.f0
            have g1 := rb.f1
            have g2 := rb.f2
            have g3 := rb.f3
            have g4 := rb.f4
            have g5 := rb.f5
            clear rb
            go_wp2_with fail
            clear r0 r1 r2 r3 r4 r5 g0 g1 g2 g3 g4 g5
            obtain ⟨k0, k1, k2, k3, k4, k5⟩ := HQ.out.1.cells
            unfold put6w at k0 k1 k2 k3 k4 k5
            refine bodyPost_ret (v := parseV (un, 0)) ?_ rfl ⟨by rw [HE.out], HQ.out.2⟩
            simp [results, Tryz.f31, go_sem, k0, k1, k2, k3, k4, k5]
          · have HEx := Lib.hid (checked_no hck)
            rcases check_codes hck with h3 | h3
            · have HE := Lib.hid (show refB u s = (noU, 3) by rw [HX.out, HEx.out, h3])
              rw [h3]
              clear hck h3 HEx
              have HQ := Lib.hid (put6 noU HR6.out.na.below (Nat.le_succ _) HR6.out.na.res)
              have rb := HR6.out.na.res.full
              obtain ⟨r0, r1, r2, r3, r4, r5⟩ := rb.c
              have g0 := rb.f0
              have g1 := rb.f1
              have g2 := rb.f2
              have g3 := rb.f3
              have g4 := rb.f4
              have g5 := rb.f5
              clear rb
              go_wp2_with fail
              clear r0 r1 r2 r3 r4 r5 g0 g1 g2 g3 g4 g5
              obtain ⟨k0, k1, k2, k3, k4, k5⟩ := HQ.out.1.cells
              unfold put6w at k0 k1 k2 k3 k4 k5
              simp only [noU] at k0 k1 k2 k3 k4 k5
              refine bodyPost_ret (v := parseV (noU, 3)) ?_ rfl ⟨by rw [HE.out], HQ.out.2⟩
              simp [results, Tryz.f31, go_sem, k0, k1, k2, k3, k4, k5, noU]
            · have HE := Lib.hid (show refB u s = (noU, 4) by rw [HX.out, HEx.out, h3])
              rw [h3]
              clear hck h3 HEx
              have HQ := Lib.hid (put6 noU HR6.out.na.below (Nat.le_succ _) HR6.out.na.res)
              have rb := HR6.out.na.res.full
              obtain ⟨r0, r1, r2, r3, r4, r5⟩ := rb.c
              have g0 := rb.f0
              have g1 := rb.f1
              have g2 := rb.f2
              have g3 := rb.f3
              have g4 := rb.f4
              have g5 := rb.f5
              clear rb
              go_wp2_with fail
              clear r0 r1 r2 r3 r4 r5 g0 g1 g2 g3 g4 g5
              obtain ⟨k0, k1, k2, k3, k4, k5⟩ := HQ.out.1.cells
              unfold put6w at k0 k1 k2 k3 k4 k5
              simp only [noU] at k0 k1 k2 k3 k4 k5
              refine bodyPost_ret (v := parseV (noU, 4)) ?_ rfl ⟨by rw [HE.out], HQ.out.2⟩
              simp [results, Tryz.f31, go_sem, k0, k1, k2, k3, k4, k5, noU]
        · have HX := Lib.hid (show refB u s = wholeB (u.scheme ++ 58 :: r) by rw [HE0.out]; exact refC_two HSC.out hp)
          clear hp
          go_wp2_with fail
          clear c0 c1 c2 c3 c4 c5
          refine (uri_Parse _ _ (HG.out.next HR4.out.na.below) (by rw [← bs_size, cat58]; simp; omega)).mono ?_
          rintro e w5 ⟨rfl, hb5⟩
          rw [cat58]
          have HR5 := Lib.hid (HR4.out.next hb5)
          clear hb5 HR4
          generalize hpt : parseB (u.scheme ++ 58 :: r) = pt at *
          obtain ⟨u9, ec⟩ := pt
          have HPT := Lib.hid hpt
          clear hpt
          have HR9 := Lib.hid (HR5.out.set9 u9)
          unfold put6w at HR9
          have rb := HR5.out.box.full
          obtain ⟨q0, q1, q2, q3, q4, q5⟩ := rb.c
          have h0 := rb.f0
          have h1 := rb.f1
          have h2 := rb.f2
          have h3 := rb.f3
          have h4 := rb.f4
          have h5 := rb.f5
          clear rb
          rcases parse_code HPT.out with rfl | ⟨rfl, rfl | rfl⟩
          · have HE := Lib.hid (show refB u s = (normB u9, 0) by rw [HX.out]; exact whole_ok HPT.out)
            have HOK := Lib.hid (parse_back HPT.out).ok
            go_upto_if 76 with fail
            generalize (((((w5.setCell ⟨b9, 0, none⟩ (.string ⟨u9.scheme.toArray⟩)).setCell ⟨b9, 1, none⟩ (.string ⟨u9.host.toArray⟩)).setCell ⟨b9, 2, none⟩ (.int .i64 u9.port)).setCell ⟨b9, 3, none⟩ (.string ⟨u9.path.toArray⟩)).setCell ⟨b9, 4, none⟩ (.string ⟨u9.query.toArray⟩)).setCell ⟨b9, 5, none⟩ (.bool u9.hq) = W9 at *
            clear q0 q1 q2 q3 q4 q5 h0 h1 h2 h3 h4 h5 HR5
            obtain ⟨d0, d1, d2, d3, d4, d5⟩ := HR9.out.box.cells
            go_wp2_with fail
            refine (uri_Normal u9 _ (HG.out.next HR9.out.na.below) (limU_ok HOK.out)).mono ?_
            rintro e w9 ⟨rfl, hb9⟩
            have HN9 := Lib.hid (HR9.out.na.next hb9)
            clear hb9 d0 d1 d2 d3 d4 d5
            generalize normB u9 = un at *
            have HQ := Lib.hid (put6 un HN9.out.below (Nat.le_succ _) HN9.out.res)
            have rb := HN9.out.res.full
            obtain ⟨r0, r1, r2, r3, r4, r5⟩ := rb.c
            have g0 := rb.f0
            have g1 := rb.f1
            have g2 := rb.f2
            have g3 := rb.f3
            have g4 := rb.f4
            have g5 := rb.f5
            clear rb
            go_wp2_with fail
            clear r0 r1 r2 r3 r4 r5 g0 g1 g2 g3 g4 g5
            obtain ⟨k0, k1, k2, k3, k4, k5⟩ := HQ.out.1.cells
            unfold put6w at k0 k1 k2 k3 k4 k5
            refine bodyPost_ret (v := parseV (un, 0)) ?_ rfl ⟨by rw [HE.out], HQ.out.2⟩
            simp [results, Tryz.f31, go_sem, k0, k1, k2, k3, k4, k5]
          · have HE := Lib.hid (show refB u s = (noU, 3) by rw [HX.out]; exact whole_no HPT.out (by decide))
            go_upto_if 76 with fail
            generalize (((((w5.setCell ⟨b9, 0, none⟩ (.string ⟨noU.scheme.toArray⟩)).setCell ⟨b9, 1, none⟩ (.string ⟨noU.host.toArray⟩)).setCell ⟨b9, 2, none⟩ (.int .i64 noU.port)).setCell ⟨b9, 3, none⟩ (.string ⟨noU.path.toArray⟩)).setCell ⟨b9, 4, none⟩ (.string ⟨noU.query.toArray⟩)).setCell ⟨b9, 5, none⟩ (.bool noU.hq) = W9 at *
            clear q0 q1 q2 q3 q4 q5 h0 h1 h2 h3 h4 h5 HR5
            have HQ := Lib.hid (put6 noU HR9.out.na.below (Nat.le_succ _) HR9.out.na.res)
            have rb := HR9.out.na.res.full
            obtain ⟨r0, r1, r2, r3, r4, r5⟩ := rb.c
            have g0 := rb.f0
            have g1 := rb.f1
            have g2 := rb.f2
            have g3 := rb.f3
            have g4 := rb.f4
            have g5 := rb.f5
            clear rb
            go_wp2_with fail
            clear r0 r1 r2 r3 r4 r5 g0 g1 g2 g3 g4 g5
            obtain ⟨k0, k1, k2, k3, k4, k5⟩ := HQ.out.1.cells
            unfold put6w at k0 k1 k2 k3 k4 k5
            simp only [noU] at k0 k1 k2 k3 k4 k5
            refine bodyPost_ret (v := parseV (noU, 3)) ?_ rfl ⟨by rw [HE.out], HQ.out.2⟩
            simp [results, Tryz.f31, go_sem, k0, k1, k2, k3, k4, k5, noU]
          · have HE := Lib.hid (show refB u s = (noU, 4) by rw [HX.out]; exact whole_no HPT.out (by decide))
            go_upto_if 76 with fail
            generalize (((((w5.setCell ⟨b9, 0, none⟩ (.string ⟨noU.scheme.toArray⟩)).setCell ⟨b9, 1, none⟩ (.string ⟨noU.host.toArray⟩)).setCell ⟨b9, 2, none⟩ (.int .i64 noU.port)).setCell ⟨b9, 3, none⟩ (.string ⟨noU.path.toArray⟩)).setCell ⟨b9, 4, none⟩ (.string ⟨noU.query.toArray⟩)).setCell ⟨b9, 5, none⟩ (.bool noU.hq) = W9 at *
            clear q0 q1 q2 q3 q4 q5 h0 h1 h2 h3 h4 h5 HR5
            have HQ := Lib.hid (put6 noU HR9.out.na.below (Nat.le_succ _) HR9.out.na.res)
            have rb := HR9.out.na.res.full
            obtain ⟨r0, r1, r2, r3, r4, r5⟩ := rb.c
            have g0 := rb.f0
            have g1 := rb.f1
            have g2 := rb.f2
            have g3 := rb.f3
            have g4 := rb.f4
            have g5 := rb.f5
            clear rb
            go_wp2_with fail
            clear r0 r1 r2 r3 r4 r5 g0 g1 g2 g3 g4 g5
            obtain ⟨k0, k1, k2, k3, k4, k5⟩ := HQ.out.1.cells
            unfold put6w at k0 k1 k2 k3 k4 k5
            simp only [noU] at k0 k1 k2 k3 k4 k5
            refine bodyPost_ret (v := parseV (noU, 4)) ?_ rfl ⟨by rw [HE.out], HQ.out.2⟩
            simp [results, Tryz.f31, go_sem, k0, k1, k2, k3, k4, k5, noU]
      · rw [schV_yes hsc]
        have hl1 : (lower (upto 58 r)).length ≤ 1024 := by have := upto_sub 58 r; simp [lower]; omega
        have hl2 : (past 58 r).length ≤ 1024 := by have := past_sub 58 r; omega
        have HC1 := Lib.hid (fun a b => refC_sch (b := u) hsc a b)
        have HC2 := Lib.hid (fun a => refC_bad (b := u) hsc a)
        clear hsc
        generalize lower (upto 58 r) = nm at *
        generalize past 58 r = rest at *
        by_cases hn : nm = http ∨ nm = https
        · rcases hn with rfl | rfl
          all_goals
            unfold http https at *
            go_wp2_with fail
            clear c0 c1 c2 c3 c4 c5
            generalize w3.alloc (.cells #[.string ⟨u.scheme.toArray⟩, .string ⟨u.host.toArray⟩, .int .i64 u.port, .string ⟨u.path.toArray⟩, .string ⟨u.query.toArray⟩, .bool u.hq] 23) = W4 at *
            generalize w3.heap.size = b9 at *
            refine (lib_HasPrefix ⟨rest.toArray⟩ ⟨#[47, 47]⟩ W4).mono ?_
            rintro e w4 ⟨rfl, rfl⟩
            rw [show (⟨rest.toArray⟩ : ByteArray).data.toList = rest from rfl, show (⟨#[47, 47]⟩ : ByteArray).data.toList = twoSl from rfl]
            obtain ⟨c0, c1, c2, c3, c4, c5⟩ := HR4.out.na.box.cells
            rcases hp : Lib.hasPrefix rest twoSl with _ | _
            · have HE := Lib.hid (show refB u s = (noU, 4) by rw [HE0.out]; exact HC2.out (fun h => by have := h.2; rw [hp] at this; cases this))
              clear hp c0 c1 c2 c3 c4 c5
              have HQ := Lib.hid (put6 noU HR4.out.na.below (Nat.le_succ _) HR4.out.na.res)
              have rb := HR4.out.na.res.full
              obtain ⟨r0, r1, r2, r3, r4, r5⟩ := rb.c
              have g0 := rb.f0
              have g1 := rb.f1
              have g2 := rb.f2
              have g3 := rb.f3
              have g4 := rb.f4
              have g5 := rb.f5
              clear rb
              go_wp2_with fail
              clear r0 r1 r2 r3 r4 r5 g0 g1 g2 g3 g4 g5
              obtain ⟨k0, k1, k2, k3, k4, k5⟩ := HQ.out.1.cells
              unfold put6w at k0 k1 k2 k3 k4 k5
              simp only [noU] at k0 k1 k2 k3 k4 k5
              refine bodyPost_ret (v := parseV (noU, 4)) ?_ rfl ⟨by rw [HE.out], HQ.out.2⟩
              simp [results, Tryz.f31, go_sem, k0, k1, k2, k3, k4, k5, noU]
            · have HX := Lib.hid (show refB u s = wholeB (_ ++ 58 :: rest) by rw [HE0.out]; exact HC1.out (by simp) hp)
              clear hp c0 c1 c2 c3 c4 c5
              go_wp2_with fail
              refine (uri_Parse _ _ (HG.out.next HR4.out.na.below) (by rw [← bs_size, cat58]; simp; omega)).mono ?_
              rintro e w5 ⟨rfl, hb5⟩
              rw [cat58]
              have HR5 := Lib.hid (HR4.out.next hb5)
              clear hb5 HR4
              generalize hpt : parseB (_ ++ 58 :: rest) = pt at *
              obtain ⟨u9, ec⟩ := pt
              have HPT := Lib.hid hpt
              clear hpt
              have HR9 := Lib.hid (HR5.out.set9 u9)
              unfold put6w at HR9
              have rb := HR5.out.box.full
              obtain ⟨q0, q1, q2, q3, q4, q5⟩ := rb.c
              have h0 := rb.f0
              have h1 := rb.f1
              have h2 := rb.f2
              have h3 := rb.f3
              have h4 := rb.f4
              have h5 := rb.f5
              clear rb
              rcases parse_code HPT.out with rfl | ⟨rfl, rfl | rfl⟩
              · have HE := Lib.hid (show refB u s = (normB u9, 0) by rw [HX.out]; exact whole_ok HPT.out)
                have HOK := Lib.hid (parse_back HPT.out).ok
                go_upto_if 76 with fail
                generalize (((((w5.setCell ⟨b9, 0, none⟩ (.string ⟨u9.scheme.toArray⟩)).setCell ⟨b9, 1, none⟩ (.string ⟨u9.host.toArray⟩)).setCell ⟨b9, 2, none⟩ (.int .i64 u9.port)).setCell ⟨b9, 3, none⟩ (.string ⟨u9.path.toArray⟩)).setCell ⟨b9, 4, none⟩ (.string ⟨u9.query.toArray⟩)).setCell ⟨b9, 5, none⟩ (.bool u9.hq) = W9 at *
                clear q0 q1 q2 q3 q4 q5 h0 h1 h2 h3 h4 h5 HR5
                obtain ⟨d0, d1, d2, d3, d4, d5⟩ := HR9.out.box.cells
                go_wp2_with fail
                refine (uri_Normal u9 _ (HG.out.next HR9.out.na.below) (limU_ok HOK.out)).mono ?_
                rintro e w9 ⟨rfl, hb9⟩
                have HN9 := Lib.hid (HR9.out.na.next hb9)
                clear hb9 d0 d1 d2 d3 d4 d5
                generalize normB u9 = un at *
                have HQ := Lib.hid (put6 un HN9.out.below (Nat.le_succ _) HN9.out.res)
                have rb := HN9.out.res.full
                obtain ⟨r0, r1, r2, r3, r4, r5⟩ := rb.c
                have g0 := rb.f0
                have g1 := rb.f1
                have g2 := rb.f2
                have g3 := rb.f3
                have g4 := rb.f4
                have g5 := rb.f5
                clear rb
                go_wp2_with fail
                clear r0 r1 r2 r3 r4 r5 g0 g1 g2 g3 g4 g5
                obtain ⟨k0, k1, k2, k3, k4, k5⟩ := HQ.out.1.cells
                unfold put6w at k0 k1 k2 k3 k4 k5
                refine bodyPost_ret (v := parseV (un, 0)) ?_ rfl ⟨by rw [HE.out], HQ.out.2⟩
                simp [results, Tryz.f31, go_sem, k0, k1, k2, k3, k4, k5]
              · have HE := Lib.hid (show refB u s = (noU, 3) by rw [HX.out]; exact whole_no HPT.out (by decide))
                go_upto_if 76 with fail
                generalize (((((w5.setCell ⟨b9, 0, none⟩ (.string ⟨noU.scheme.toArray⟩)).setCell ⟨b9, 1, none⟩ (.string ⟨noU.host.toArray⟩)).setCell ⟨b9, 2, none⟩ (.int .i64 noU.port)).setCell ⟨b9, 3, none⟩ (.string ⟨noU.path.toArray⟩)).setCell ⟨b9, 4, none⟩ (.string ⟨noU.query.toArray⟩)).setCell ⟨b9, 5, none⟩ (.bool noU.hq) = W9 at *
                clear q0 q1 q2 q3 q4 q5 h0 h1 h2 h3 h4 h5 HR5
                have HQ := Lib.hid (put6 noU HR9.out.na.below (Nat.le_succ _) HR9.out.na.res)
                have rb := HR9.out.na.res.full
                obtain ⟨r0, r1, r2, r3, r4, r5⟩ := rb.c
                have g0 := rb.f0
                have g1 := rb.f1
                have g2 := rb.f2
                have g3 := rb.f3
                have g4 := rb.f4
                have g5 := rb.f5
                clear rb
                go_wp2_with fail
                clear r0 r1 r2 r3 r4 r5 g0 g1 g2 g3 g4 g5
                obtain ⟨k0, k1, k2, k3, k4, k5⟩ := HQ.out.1.cells
                unfold put6w at k0 k1 k2 k3 k4 k5
                simp only [noU] at k0 k1 k2 k3 k4 k5
                refine bodyPost_ret (v := parseV (noU, 3)) ?_ rfl ⟨by rw [HE.out], HQ.out.2⟩
                simp [results, Tryz.f31, go_sem, k0, k1, k2, k3, k4, k5, noU]
              · have HE := Lib.hid (show refB u s = (noU, 4) by rw [HX.out]; exact whole_no HPT.out (by decide))
                go_upto_if 76 with fail
                generalize (((((w5.setCell ⟨b9, 0, none⟩ (.string ⟨noU.scheme.toArray⟩)).setCell ⟨b9, 1, none⟩ (.string ⟨noU.host.toArray⟩)).setCell ⟨b9, 2, none⟩ (.int .i64 noU.port)).setCell ⟨b9, 3, none⟩ (.string ⟨noU.path.toArray⟩)).setCell ⟨b9, 4, none⟩ (.string ⟨noU.query.toArray⟩)).setCell ⟨b9, 5, none⟩ (.bool noU.hq) = W9 at *
                clear q0 q1 q2 q3 q4 q5 h0 h1 h2 h3 h4 h5 HR5
                have HQ := Lib.hid (put6 noU HR9.out.na.below (Nat.le_succ _) HR9.out.na.res)
                have rb := HR9.out.na.res.full
                obtain ⟨r0, r1, r2, r3, r4, r5⟩ := rb.c
                have g0 := rb.f0
                have g1 := rb.f1
                have g2 := rb.f2
                have g3 := rb.f3
                have g4 := rb.f4
                have g5 := rb.f5
                clear rb
                go_wp2_with fail
                clear r0 r1 r2 r3 r4 r5 g0 g1 g2 g3 g4 g5
                obtain ⟨k0, k1, k2, k3, k4, k5⟩ := HQ.out.1.cells
                unfold put6w at k0 k1 k2 k3 k4 k5
                simp only [noU] at k0 k1 k2 k3 k4 k5
                refine bodyPost_ret (v := parseV (noU, 4)) ?_ rfl ⟨by rw [HE.out], HQ.out.2⟩
                simp [results, Tryz.f31, go_sem, k0, k1, k2, k3, k4, k5, noU]
        · have n1 := fun h => hn (.inl h)
          have n2 := fun h => hn (.inr h)
          have HE := Lib.hid (show refB u s = (noU, 4) by rw [HE0.out]; exact HC2.out (fun h => hn h.1))
          unfold http https at *
          clear hn
          go_upto_region 12 with fail
          clear c0 c1 c2 c3 c4 c5
          generalize w3.alloc (.cells #[.string ⟨u.scheme.toArray⟩, .string ⟨u.host.toArray⟩, .int .i64 u.port, .string ⟨u.path.toArray⟩, .string ⟨u.query.toArray⟩, .bool u.hq] 23) = W4 at *
          generalize w3.heap.size = b9 at *
          have HQ := Lib.hid (put6 noU HR4.out.na.below (Nat.le_succ _) HR4.out.na.res)
          have rb := HR4.out.na.res.full
          obtain ⟨r0, r1, r2, r3, r4, r5⟩ := rb.c
          have g0 := rb.f0
          have g1 := rb.f1
          have g2 := rb.f2
          have g3 := rb.f3
          have g4 := rb.f4
          have g5 := rb.f5
          clear rb
          go_wp2_with fail
          clear r0 r1 r2 r3 r4 r5 g0 g1 g2 g3 g4 g5
          obtain ⟨k0, k1, k2, k3, k4, k5⟩ := HQ.out.1.cells
          unfold put6w at k0 k1 k2 k3 k4 k5
          simp only [noU] at k0 k1 k2 k3 k4 k5
          refine bodyPost_ret (v := parseV (noU, 4)) ?_ rfl ⟨by rw [HE.out], HQ.out.2⟩
          simp [results, Tryz.f31, go_sem, k0, k1, k2, k3, k4, k5, noU]

    · have HE := Lib.hid (ref_arg h1 hc)
      rcases check_codes hc with h3 | h3
      all_goals
        rw [h3]
        clear hc h3
        have HQ := Lib.hid (put6 noU HN1.out.below (Nat.le_succ _) HN1.out.res)
        have rb := HN1.out.res.full
        obtain ⟨r0, r1, r2, r3, r4, r5⟩ := rb.c
        have g0 := rb.f0
        have g1 := rb.f1
        have g2 := rb.f2
        have g3 := rb.f3
        have g4 := rb.f4
        have g5 := rb.f5
        clear rb
        go_wp2_with fail
        clear r0 r1 r2 r3 r4 r5 g0 g1 g2 g3 g4 g5
        obtain ⟨k0, k1, k2, k3, k4, k5⟩ := HQ.out.1.cells
        unfold put6w at k0 k1 k2 k3 k4 k5
        simp only [noU] at k0 k1 k2 k3 k4 k5
        refine bodyPost_ret (v := parseV (noU, 2)) ?_ rfl ⟨by rw [HE.out], HQ.out.2⟩
        simp [results, Tryz.f31, go_sem, k0, k1, k2, k3, k4, k5, noU]
end Go.Proofs.YtmkpejioinkceaaGreatDoor

namespace Go.Proofs.YtmkpejioinkceaaGreatDoor
open Go.Lib

theorem ref_empty {a : U} (ha : checkB a = 0) : refB a [] = (normB a, 0) := by
  rw [ref_ok (by simp) ha]
  show refC a [] = _
  rw [refC_in rfl rfl, within_none rfl rfl, checked_ok ha]
theorem dig_free {s : Bs} (h : s.all dig = true) : s.contains 35 = false := all_free (p := dig) (by decide) h
theorem text_free {b : U} (hb : okB b = true) : (textB b).contains 35 = false := by
  have hf := hb
  unfold okB at hf
  rw [Bool.and_eq_true, form_iff] at hf
  obtain ⟨r, hpe, hpm⟩ := hf.1.path
  have hport := hf.1.port
  have h1 : b.scheme.contains 35 = false := by rcases hf.1.scheme with h | h <;> rw [h] <;> decide
  have h2 : b.host.contains 35 = false := all_free (p := hostc) (by decide) hf.1.host
  have h3 : b.path.contains 35 = false := by rw [hpe]; exact madeB_free (p := pathc) (by decide) (by decide) (by decide) hpm
  have h4 : b.query.contains 35 = false := madeB_free (p := queryc) (by decide) (by decide) (by decide) hf.1.made
  have h5 : (numB b.port.toNat).contains 35 = false := dig_free (numK_digits 6 b.port.toNat (by omega))
  rw [text_parts, has_app, has_app, has_app, has_app, has_app, h1, h2, h3]
  have e1 : ((bif b.port == 0 then [] else [58] ++ numB b.port.toNat : Bs)).contains 35 = false := by
    cases b.port == 0
    · rw [cond_false, has_app, h5]; rfl
    · rfl
  have e2 : ((bif b.hq then [63] ++ b.query else [] : Bs)).contains 35 = false := by
    cases b.hq
    · rfl
    · rw [cond_true, has_app, h4]; rfl
  rw [e1, e2]; rfl
theorem ref_text {a b : U} (ha : checkB a = 0) (hb : okB b = true) : refB a (textB b) = (normB b, 0) := by
  have hf := hb
  unfold okB at hf
  rw [Bool.and_eq_true, form_iff, decide_eq_true_eq] at hf
  have hl : (textB b).length ≤ 1024 := hf.2
  rw [ref_ok (by omega) ha, upto_all 35 _ (text_free hb)]
  have hsc : b.scheme.contains 58 = false := by rcases hf.1.scheme with h | h <;> rw [h] <;> decide
  obtain ⟨tl, htl⟩ : ∃ tl, textB b = b.scheme ++ 58 :: 47 :: 47 :: tl := by
    rw [text_parts]; exact ⟨_, by simp; rfl⟩
  have hu : upto 58 (textB b) = b.scheme := by rw [htl]; exact upto_app hsc
  have hp : past 58 (textB b) = 47 :: 47 :: tl := by rw [htl]; exact past_app hsc
  have hc : (textB b).contains 58 = true := by rw [htl, has_app]; simp
  have hn : nameOk b.scheme = true := by rcases hf.1.scheme with h | h <;> rw [h] <;> decide
  have hlow : lower b.scheme = b.scheme := by rcases hf.1.scheme with h | h <;> rw [h] <;> decide
  have hs : schB (textB b) = true := by unfold schB; rw [hc, hu, hn]; rfl
  rw [refC_sch hs (by rw [hu, hlow]; exact hf.1.scheme) (by rw [hp]; rfl), hu, hp, hlow, ← htl]
  exact whole_ok (parse_text hb)
theorem whole_cases (t : Bs) : (∃ v, wholeB t = (normB v, 0) ∧ okB v = true) ∨ (∃ e, wholeB t = (noU, e) ∧ (e = 2 ∨ e = 3 ∨ e = 4)) := by
  rcases h : parseB t with ⟨v, c⟩
  rcases parse_code h with rfl | ⟨rfl, rfl | rfl⟩
  · exact .inl ⟨v, whole_ok h, (parse_back h).ok⟩
  · exact .inr ⟨3, whole_no h (by decide), .inr (.inl rfl)⟩
  · exact .inr ⟨4, whole_no h (by decide), .inr (.inr rfl)⟩
theorem checked_cases (u : U) : (∃ v, checkedB u = (normB v, 0) ∧ okB v = true) ∨ (∃ e, checkedB u = (noU, e) ∧ (e = 2 ∨ e = 3 ∨ e = 4)) := by
  by_cases h : checkB u = 0
  · exact .inl ⟨u, checked_ok h, (checkB_ok u).1 h⟩
  · refine .inr ⟨checkB u, checked_no h, ?_⟩
    rcases check_codes h with h | h <;> rw [h]
    · exact .inr (.inl rfl)
    · exact .inr (.inr rfl)
theorem ref_cases (a : U) (s : Bs) : (∃ v, refB a s = (normB v, 0) ∧ okB v = true) ∨ (∃ e, refB a s = (noU, e) ∧ (e = 2 ∨ e = 3 ∨ e = 4)) := by
  by_cases h1 : 1024 < s.length
  · exact .inr ⟨3, ref_long h1, .inr (.inl rfl)⟩
  · by_cases h2 : checkB a = 0
    · rw [ref_ok h1 h2]
      generalize upto 35 s = r
      cases h3 : schB r
      · cases h4 : hasPrefix r twoSl
        · rw [refC_in h3 h4]; exact checked_cases _
        · rw [refC_two h3 h4]; exact whole_cases _
      · by_cases h4 : (lower (upto 58 r) = http ∨ lower (upto 58 r) = https) ∧ hasPrefix (past 58 r) twoSl = true
        · rw [refC_sch h3 h4.1 h4.2]; exact whole_cases _
        · exact .inr ⟨4, refC_bad h3 h4, .inr (.inr rfl)⟩
    · exact .inr ⟨2, ref_arg h1 h2, .inl rfl⟩
end Go.Proofs.YtmkpejioinkceaaGreatDoor
