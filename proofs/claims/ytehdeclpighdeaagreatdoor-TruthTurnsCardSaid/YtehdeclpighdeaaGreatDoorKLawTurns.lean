/- The law TruthTurns: Nots turn, Or and And are each other's; what is not asked makes no difference. -/
import Derived.Test.YtehdeclpighdeaaGreatDoorKTurnsP
namespace Go.Proofs.YtehdeclpighdeaaGreatDoor
open Go.RowKit
set_option linter.unusedVariables false
set_option maxRecDepth 100000 in
set_option maxHeartbeats 32000000 in
theorem law28_turns (xa xb xc : Ex) (k1 k2 k3 : Int) (t1 t2 t3 : Bs) (u1 u2 u3 : UseI) (a1 a2 a3 : Option Addr) (n1 n2 n3 c1 c2 c3 : Nat) (fa : Option Addr) (fn fc : Nat) (fs : List Fld) (w : World) (hG : Good w)
    (hx : ExAt (fun _ => True) w xa (exV k1 t1 u1 (.slice a1 n1 c1))) (hy : ExAt (fun _ => True) w xb (exV k2 t2 u2 (.slice a2 n2 c2))) (hz : ExAt (fun _ => True) w xc (exV k3 t3 u3 (.slice a3 n3 c3))) (sx : smallE xa) (sy : smallE xb) (sz : smallE xc)
    (hF : FieldsAt w (.slice fa fn fc) fs) (hn : fn = fs.length) (hs : ∀ f ∈ fs, f.1.length ≤ 140737488355328 ∧ f.2.length ≤ 140737488355328) (hlen : fs.length ≤ 140737488355328) :
    Calls Tryz.prog 9 #[.agg #[.int .i64 k1, .string ⟨t1.toArray⟩, .int .i64 u1.src, .int .i64 u1.till, .string ⟨u1.name.toArray⟩, .string ⟨u1.key.toArray⟩, .string ⟨u1.dft.toArray⟩, .bool u1.hk, .bool u1.hd, .slice a1 n1 c1, .int .i64 k2, .string ⟨t2.toArray⟩, .int .i64 u2.src, .int .i64 u2.till, .string ⟨u2.name.toArray⟩, .string ⟨u2.key.toArray⟩, .string ⟨u2.dft.toArray⟩, .bool u2.hk, .bool u2.hd, .slice a2 n2 c2, .int .i64 k3, .string ⟨t3.toArray⟩, .int .i64 u3.src, .int .i64 u3.till, .string ⟨u3.name.toArray⟩, .string ⟨u3.key.toArray⟩, .string ⟨u3.dft.toArray⟩, .bool u3.hk, .bool u3.hd, .slice a3 n3 c3], .slice fa fn fc] w (Ret w (.bool true)) := by
  have HQ := Lib.hid (law28_few fa fn fc fs)
  have HS := Lib.hid (And.intro hn (And.intro hs hlen))
  have SX := Lib.hid (law28_small xa sx)
  have SY := Lib.hid (law28_small xb sy)
  have SZ := Lib.hid (law28_small xc sz)
  have hA : Below w.heap.size w (w.alloc (.cells #[.int .i64 k1, .string ⟨t1.toArray⟩, .int .i64 u1.src, .int .i64 u1.till, .string ⟨u1.name.toArray⟩, .string ⟨u1.key.toArray⟩, .string ⟨u1.dft.toArray⟩, .bool u1.hk, .bool u1.hd, .slice a1 n1 c1, .int .i64 k2, .string ⟨t2.toArray⟩, .int .i64 u2.src, .int .i64 u2.till, .string ⟨u2.name.toArray⟩, .string ⟨u2.key.toArray⟩, .string ⟨u2.dft.toArray⟩, .bool u2.hk, .bool u2.hd, .slice a2 n2 c2, .int .i64 k3, .string ⟨t3.toArray⟩, .int .i64 u3.src, .int .i64 u3.till, .string ⟨u3.name.toArray⟩, .string ⟨u3.key.toArray⟩, .string ⟨u3.dft.toArray⟩, .bool u3.hk, .bool u3.hd, .slice a3 n3 c3] 55)) := (Below.refl _ _).alloc (Nat.le_refl _) _
  have HN := Lib.hid (heap_alloc_new w (.cells #[.int .i64 k1, .string ⟨t1.toArray⟩, .int .i64 u1.src, .int .i64 u1.till, .string ⟨u1.name.toArray⟩, .string ⟨u1.key.toArray⟩, .string ⟨u1.dft.toArray⟩, .bool u1.hk, .bool u1.hd, .slice a1 n1 c1, .int .i64 k2, .string ⟨t2.toArray⟩, .int .i64 u2.src, .int .i64 u2.till, .string ⟨u2.name.toArray⟩, .string ⟨u2.key.toArray⟩, .string ⟨u2.dft.toArray⟩, .bool u2.hk, .bool u2.hd, .slice a2 n2 c2, .int .i64 k3, .string ⟨t3.toArray⟩, .int .i64 u3.src, .int .i64 u3.till, .string ⟨u3.name.toArray⟩, .string ⟨u3.key.toArray⟩, .string ⟨u3.dft.toArray⟩, .bool u3.hk, .bool u3.hd, .slice a3 n3 c3] 55))
  have HB := Lib.hid hA
  have HG := Lib.hid (hG.next hA)
  have HF := Lib.hid (hF.below hA)
  have HX0 := Lib.hid (hx.next hA)
  have HX1 := Lib.hid (hy.next hA)
  have HX2 := Lib.hid (hz.next hA)
  clear hA hG hx hy hz sx sy sz hF hn hs hlen
  go_enter Tryz.func9, Tryz.ntmps9
  go_upto_region 1 with fail
  generalize w.alloc (.cells #[.int .i64 k1, .string ⟨t1.toArray⟩, .int .i64 u1.src, .int .i64 u1.till, .string ⟨u1.name.toArray⟩, .string ⟨u1.key.toArray⟩, .string ⟨u1.dft.toArray⟩, .bool u1.hk, .bool u1.hd, .slice a1 n1 c1, .int .i64 k2, .string ⟨t2.toArray⟩, .int .i64 u2.src, .int .i64 u2.till, .string ⟨u2.name.toArray⟩, .string ⟨u2.key.toArray⟩, .string ⟨u2.dft.toArray⟩, .bool u2.hk, .bool u2.hd, .slice a2 n2 c2, .int .i64 k3, .string ⟨t3.toArray⟩, .int .i64 u3.src, .int .i64 u3.till, .string ⟨u3.name.toArray⟩, .string ⟨u3.key.toArray⟩, .string ⟨u3.dft.toArray⟩, .bool u3.hk, .bool u3.hd, .slice a3 n3 c3] 55) = W0 at *
  obtain ⟨p0, p1, p2, p3, p4, p5, p6, p7, p8, p9⟩ := three_a HN.out
  go_wp2_with fail
  refine (SX.out _ _ HX0.out).mono ?_
  rintro e w1 ⟨q0, rfl, HK0, hb⟩
  have HBq := Lib.hid (HB.out.trans (hb.out.mono HB.out.size))
  have HGq := Lib.hid (HG.out.next hb.out)
  have HFq := Lib.hid (HF.out.below hb.out)
  have HNq := Lib.hid (row_up28 HN.out hb.out)
  have HX0q := Lib.hid (HX0.out.next hb.out)
  have HX1q := Lib.hid (HX1.out.next hb.out)
  have HX2q := Lib.hid (HX2.out.next hb.out)
  clear HB HG HF HN HX0 HX1 HX2
  have HB := HBq
  have HG := HGq
  have HF := HFq
  have HN := HNq
  have HX0 := HX0q
  have HX1 := HX1q
  have HX2 := HX2q
  clear HBq HGq HFq HNq HX0q HX1q HX2q
  clear hb
  clear p0 p1 p2 p3 p4 p5 p6 p7 p8 p9
  rcases q0 with _ | _
  · skip
    go_wp2_with fail
    refine (law28_works _ HG.out).mono ?_
    rintro e wz ⟨rfl, hb⟩
    have HBE := Lib.hid (HB.out.trans (hb.mono HB.out.size))
    clear hb
    go_wp2_with fail
    go_ret
    exact ⟨rfl, HBE.out⟩
  · have HL0 := Lib.hid (HK0.out rfl)
    clear HK0
    obtain ⟨p0, p1, p2, p3, p4, p5, p6, p7, p8, p9⟩ := three_b HN.out
    go_wp2_with fail
    refine (SY.out _ _ HX1.out).mono ?_
    rintro e w2 ⟨q1, rfl, HK1, hb⟩
    have HBq := Lib.hid (HB.out.trans (hb.out.mono HB.out.size))
    have HGq := Lib.hid (HG.out.next hb.out)
    have HFq := Lib.hid (HF.out.below hb.out)
    have HNq := Lib.hid (row_up28 HN.out hb.out)
    have HX0q := Lib.hid (HX0.out.next hb.out)
    have HX1q := Lib.hid (HX1.out.next hb.out)
    have HX2q := Lib.hid (HX2.out.next hb.out)
    clear HB HG HF HN HX0 HX1 HX2
    have HB := HBq
    have HG := HGq
    have HF := HFq
    have HN := HNq
    have HX0 := HX0q
    have HX1 := HX1q
    have HX2 := HX2q
    clear HBq HGq HFq HNq HX0q HX1q HX2q
    clear hb
    clear p0 p1 p2 p3 p4 p5 p6 p7 p8 p9
    rcases q1 with _ | _
    · skip
      go_wp2_with fail
      refine (law28_works _ HG.out).mono ?_
      rintro e wz ⟨rfl, hb⟩
      have HBE := Lib.hid (HB.out.trans (hb.mono HB.out.size))
      clear hb
      go_wp2_with fail
      go_ret
      exact ⟨rfl, HBE.out⟩
    · have HL1 := Lib.hid (HK1.out rfl)
      clear HK1
      obtain ⟨p0, p1, p2, p3, p4, p5, p6, p7, p8, p9⟩ := three_c HN.out
      go_wp2_with fail
      refine (SZ.out _ _ HX2.out).mono ?_
      rintro e w3 ⟨q2, rfl, HK2, hb⟩
      have HBq := Lib.hid (HB.out.trans (hb.out.mono HB.out.size))
      have HGq := Lib.hid (HG.out.next hb.out)
      have HFq := Lib.hid (HF.out.below hb.out)
      have HNq := Lib.hid (row_up28 HN.out hb.out)
      have HX0q := Lib.hid (HX0.out.next hb.out)
      have HX1q := Lib.hid (HX1.out.next hb.out)
      have HX2q := Lib.hid (HX2.out.next hb.out)
      clear HB HG HF HN HX0 HX1 HX2
      have HB := HBq
      have HG := HGq
      have HF := HFq
      have HN := HNq
      have HX0 := HX0q
      have HX1 := HX1q
      have HX2 := HX2q
      clear HBq HGq HFq HNq HX0q HX1q HX2q
      clear hb
      clear p0 p1 p2 p3 p4 p5 p6 p7 p8 p9
      rcases q2 with _ | _
      · skip
        go_wp2_with fail
        refine (law28_works _ HG.out).mono ?_
        rintro e wz ⟨rfl, hb⟩
        have HBE := Lib.hid (HB.out.trans (hb.mono HB.out.size))
        clear hb
        go_wp2_with fail
        go_ret
        exact ⟨rfl, HBE.out⟩
      · have HL2 := Lib.hid (HK2.out rfl)
        clear HK2
        go_wp2_with fail
        refine (HQ.out _ HF.out HS.out.1 HS.out.2.1 HS.out.2.2).mono ?_
        rintro e w4 ⟨q3, rfl, HK3, hb⟩
        have HBq := Lib.hid (HB.out.trans (hb.out.mono HB.out.size))
        have HGq := Lib.hid (HG.out.next hb.out)
        have HFq := Lib.hid (HF.out.below hb.out)
        have HNq := Lib.hid (row_up28 HN.out hb.out)
        have HX0q := Lib.hid (HX0.out.next hb.out)
        have HX1q := Lib.hid (HX1.out.next hb.out)
        have HX2q := Lib.hid (HX2.out.next hb.out)
        clear HB HG HF HN HX0 HX1 HX2
        have HB := HBq
        have HG := HGq
        have HF := HFq
        have HN := HNq
        have HX0 := HX0q
        have HX1 := HX1q
        have HX2 := HX2q
        clear HBq HGq HFq HNq HX0q HX1q HX2q
        clear hb
        rcases q3 with _ | _
        · skip
          go_wp2_with fail
          refine (law28_works _ HG.out).mono ?_
          rintro e wz ⟨rfl, hb⟩
          have HBE := Lib.hid (HB.out.trans (hb.mono HB.out.size))
          clear hb
          go_wp2_with fail
          go_ret
          exact ⟨rfl, HBE.out⟩
        · skip
          have HIT := Lib.hid (isT fs (HK3.out rfl))
          have HAT := Lib.hid (askedT fs (HK3.out rfl))
          have HOa := Lib.hid (show OkT 400 xa from HL0.out)
          have HOb := Lib.hid (show OkT 400 xb from HL1.out)
          have HOc := Lib.hid (show OkT 400 xc from HL2.out)
          have HLI := Lib.hid (HK3.out rfl)
          have HSN := Lib.hid HS.out.1
          clear HL0 HL1 HL2 HK3 HQ HS SX SY SZ
          have HOn := Lib.hid ((HOa.out.one 3).le (m := 10000) (by decide))
          have HOnn := Lib.hid (((HOa.out.one 3).one 3).le (m := 10000) (by decide))
          have HOor := Lib.hid ((HOa.out.two HOb.out 1).le (m := 10000) (by decide))
          have HOan := Lib.hid ((HOa.out.two HOb.out 2).le (m := 10000) (by decide))
          have HOorn := Lib.hid (((HOa.out.one 3).two (HOb.out.one 3) 1).le (m := 10000) (by decide))
          have HOann := Lib.hid (((HOa.out.one 3).two (HOb.out.one 3) 2).le (m := 10000) (by decide))
          have HOorc := Lib.hid ((HOa.out.two HOc.out 1).le (m := 10000) (by decide))
          have HOanc := Lib.hid ((HOa.out.two HOc.out 2).le (m := 10000) (by decide))
          have HOa2 := Lib.hid (HOa.out.le (m := 10000) (by decide))
          have HOb2 := Lib.hid (HOb.out.le (m := 10000) (by decide))
          clear HOa HOb HOc
          have HOa := HOa2
          have HOb := HOb2
          clear HOa2 HOb2
          obtain ⟨a, ha⟩ : ∃ a, isB (vT fs) xa = a := ⟨_, rfl⟩
          obtain ⟨b, hb⟩ : ∃ b, isB (vT fs) xb = b := ⟨_, rfl⟩
          have HVn := Lib.hid (show isB (vT fs) (oneE 3 xa) = !a by rw [isB_not, ha])
          have HVnn := Lib.hid (show isB (vT fs) (oneE 3 (oneE 3 xa)) = a by rw [isB_not, isB_not, ha, Bool.not_not])
          obtain ⟨r, hr⟩ : ∃ r, (a || b) = r := ⟨_, rfl⟩
          obtain ⟨m, hm⟩ : ∃ m, (a && b) = m := ⟨_, rfl⟩
          have HVor := Lib.hid (show isB (vT fs) (twoE 1 xa xb) = r by rw [isB_or, ha, hb]; exact hr)
          have HVan := Lib.hid (show isB (vT fs) (twoE 2 xa xb) = m by rw [isB_and, ha, hb]; exact hm)
          have HVorn := Lib.hid (show isB (vT fs) (twoE 1 (oneE 3 xa) (oneE 3 xb)) = !m by rw [isB_or, isB_not, isB_not, ha, hb, ← hm]; cases a <;> cases b <;> rfl)
          have HVann := Lib.hid (show isB (vT fs) (twoE 2 (oneE 3 xa) (oneE 3 xb)) = !r by rw [isB_and, isB_not, isB_not, ha, hb, ← hr]; cases a <;> cases b <;> rfl)
          have HVa := Lib.hid ha
          have HVb := Lib.hid hb
          have HRR := Lib.hid hr
          have HMM := Lib.hid hm
          clear ha hb hr hm
          go_wp2_with fail
          refine (vars_Of ⟨#[71, 69, 84]⟩ ⟨#[47, 63, 97, 61, 98]⟩ ⟨#[]⟩ ⟨#[104]⟩ 1 fa fn fc fs _ HF.out (by have := HLI.out.many; omega)).mono ?_
          rintro e w5 ⟨va, vc, rfl, hown, hb⟩
          have HFn := Lib.hid hown.at
          have HBq := Lib.hid (HB.out.trans (hb.mono HB.out.size))
          have HGq := Lib.hid (HG.out.next hb)
          have HFq := Lib.hid (HF.out.below hb)
          have HNq := Lib.hid (row_up28 HN.out hb)
          have HX0q := Lib.hid (HX0.out.next hb)
          have HX1q := Lib.hid (HX1.out.next hb)
          have HX2q := Lib.hid (HX2.out.next hb)
          clear HB HG HF HN HX0 HX1 HX2
          have HB := HBq
          have HG := HGq
          have HF := HFq
          have HN := HNq
          have HX0 := HX0q
          have HX1 := HX1q
          have HX2 := HX2q
          clear HBq HGq HFq HNq HX0q HX1q HX2q
          clear hb hown HF
          have HF := HFn
          clear HFn HSN HLI
          have hA : Below w5.heap.size w5 (w5.alloc (.cells #[.string ⟨#[104]⟩, .string ⟨#[47, 63, 97, 61, 98]⟩, .slice va fs.length vc] 59)) := (Below.refl _ _).alloc (Nat.le_refl _) _
          have HR5 := Lib.hid (heap_alloc_new w5 (.cells #[.string ⟨#[104]⟩, .string ⟨#[47, 63, 97, 61, 98]⟩, .slice va fs.length vc] 59))
          have HBq := Lib.hid (HB.out.trans (hA.mono HB.out.size))
          have HGq := Lib.hid (HG.out.next hA)
          have HFq := Lib.hid (HF.out.below hA)
          have HNq := Lib.hid (row_up28 HN.out hA)
          have HX0q := Lib.hid (HX0.out.next hA)
          have HX1q := Lib.hid (HX1.out.next hA)
          have HX2q := Lib.hid (HX2.out.next hA)
          clear HB HG HF HN HX0 HX1 HX2
          have HB := HBq
          have HG := HGq
          have HF := HFq
          have HN := HNq
          have HX0 := HX0q
          have HX1 := HX1q
          have HX2 := HX2q
          clear HBq HGq HFq HNq HX0q HX1q HX2q
          clear hA
          go_upto_region 4 with fail
          generalize w5.alloc (.cells #[.string ⟨#[104]⟩, .string ⟨#[47, 63, 97, 61, 98]⟩, .slice va fs.length vc] 59) = V at *
          generalize w5.heap.size = b5 at *
          have HBV := Lib.hid (show w.heap.size < V.heap.size from (Array.getElem?_eq_some_iff.1 HN.out).1)
          have HB00 := HB
          clear HB
          have HB := Lib.hid (Below.refl V.heap.size V)
          skip
          refine wp_region_tail 10 [UpP.is (.pointer (some ⟨w.heap.size, 0, none⟩)), upTree xa, UpP.is (.agg #[.string ⟨#[104]⟩, .string ⟨#[47, 63, 97, 61, 98]⟩, .slice va fs.length vc]), UpP.is (.bool a), UpP.is (.pointer (some ⟨w.heap.size, 10, none⟩)), upTree xb, UpP.is (.agg #[.string ⟨#[104]⟩, .string ⟨#[47, 63, 97, 61, 98]⟩, .slice va fs.length vc]), UpP.is (.bool b), UpP.is (.bool a), UpP.is (.bool b)] (by kernel_rfl) (by rfl) (by rfl) (by kernel_rfl) (by rfl) ⟨?o0, ?o1, ?o2, ?o3, ?o4, ?o5, ?o6, ?o7, ?o8, ?o9, trivial⟩ ?_
          case o0 =>
            intro a' w' hB hL hA
            refine up_yes rfl ?_
            have s2 := like_at hL 2 (by rfl) rfl
            go_simp
            exact ⟨_, rfl, Below.refl _ _, rfl⟩
          case o1 =>
            intro a' w' hB hL hA
            refine up_yes rfl ?_
            obtain ⟨v0, e0, rfl⟩ := up_pre hA 0 (by rfl)
            have e0 : a'.tmps[38]? = some _ := e0
            have hV := HB.out.trans (hB.mono HB.out.size)
            obtain ⟨p0, p1, p2, p3, p4, p5, p6, p7, p8, p9⟩ := three_a (row_up28 HN.out hV)
            go_simp
            exact ⟨_, rfl, Below.refl _ _, HX0.out.next hV⟩
          case o2 =>
            intro a' w' hB hL hA
            refine up_yes rfl ?_
            have s5 := like_at hL 5 (by rfl) rfl
            have hV := HB.out.trans (hB.mono HB.out.size)
            obtain ⟨e0', e1', e2'⟩ := row_three28 (row_up28 HR5.out hV)
            go_simp
            exact ⟨_, rfl, Below.refl _ _, rfl⟩
          case o3 =>
            intro a' w' hB hL hA
            refine up_yes rfl ?_
            obtain ⟨v1, e1, h1⟩ := up_pre hA 1 (by rfl)
            have e1 : a'.tmps[39]? = some _ := e1
            have h1 : ExAt (fun _ => True) w' xa v1 := h1
            obtain ⟨v2, e2, rfl⟩ := up_pre hA 2 (by rfl)
            have e2 : a'.tmps[40]? = some _ := e2
            have hV := HB.out.trans (hB.mono HB.out.size)
            go_simp
            refine (HIT.out _ _ HVa.out _ va vc w' (HG.out.next hV) h1 (HF.out.below hV) HOa.out).mono ?_
            rintro e w6 ⟨rfl, hb6⟩
            exact ⟨_, rfl, hb6, rfl⟩
          case o4 =>
            intro a' w' hB hL hA
            refine up_yes rfl ?_
            have s2 := like_at hL 2 (by rfl) rfl
            go_simp
            exact ⟨_, rfl, Below.refl _ _, rfl⟩
          case o5 =>
            intro a' w' hB hL hA
            refine up_yes rfl ?_
            obtain ⟨v4, e4, rfl⟩ := up_pre hA 4 (by rfl)
            have e4 : a'.tmps[42]? = some _ := e4
            have hV := HB.out.trans (hB.mono HB.out.size)
            obtain ⟨p0, p1, p2, p3, p4, p5, p6, p7, p8, p9⟩ := three_b (row_up28 HN.out hV)
            go_simp
            exact ⟨_, rfl, Below.refl _ _, HX1.out.next hV⟩
          case o6 =>
            intro a' w' hB hL hA
            refine up_yes rfl ?_
            have s5 := like_at hL 5 (by rfl) rfl
            have hV := HB.out.trans (hB.mono HB.out.size)
            obtain ⟨e0', e1', e2'⟩ := row_three28 (row_up28 HR5.out hV)
            go_simp
            exact ⟨_, rfl, Below.refl _ _, rfl⟩
          case o7 =>
            intro a' w' hB hL hA
            refine up_yes rfl ?_
            obtain ⟨v5, e5, h5⟩ := up_pre hA 5 (by rfl)
            have e5 : a'.tmps[43]? = some _ := e5
            have h5 : ExAt (fun _ => True) w' xb v5 := h5
            obtain ⟨v6, e6, rfl⟩ := up_pre hA 6 (by rfl)
            have e6 : a'.tmps[44]? = some _ := e6
            have hV := HB.out.trans (hB.mono HB.out.size)
            go_simp
            refine (HIT.out _ _ HVb.out _ va vc w' (HG.out.next hV) h5 (HF.out.below hV) HOb.out).mono ?_
            rintro e w6 ⟨rfl, hb6⟩
            exact ⟨_, rfl, hb6, rfl⟩
          case o8 =>
            intro a' w' hB hL hA
            refine up_yes rfl ?_
            obtain ⟨v3, e3, rfl⟩ := up_pre hA 3 (by rfl)
            have e3 : a'.tmps[41]? = some _ := e3
            go_simp
            exact ⟨_, rfl, Below.refl _ _, rfl⟩
          case o9 =>
            intro a' w' hB hL hA
            refine up_yes rfl ?_
            obtain ⟨v7, e7, rfl⟩ := up_pre hA 7 (by rfl)
            have e7 : a'.tmps[45]? = some _ := e7
            go_simp
            exact ⟨_, rfl, Below.refl _ _, rfl⟩
          intro f wr hB hf
          have f8 : f 8 = _ := hf 8 _ rfl
          have f9 : f 9 = _ := hf 9 _ rfl
          have HBq := Lib.hid (HB.out.trans (hB.mono HB.out.size))
          clear hB hf HB
          have HB := HBq
          clear HBq
          simp only [List.take_succ_cons, List.take_zero, List.drop_succ_cons, List.drop_nil, putFn, Act.put, tailWp]
          rw [f8, f9]
          clear f8 f9
          go_simp
          go_upto_region 5 with fail
          obtain ⟨p0, p1, p2, p3, p4, p5, p6, p7, p8, p9⟩ := three_a (row_up28 HN.out HB.out)
          have hA1 : Below wr.heap.size wr (wr.alloc (.cells #[.int .i64 k1, .string ⟨t1.toArray⟩, .int .i64 u1.src, .int .i64 u1.till, .string ⟨u1.name.toArray⟩, .string ⟨u1.key.toArray⟩, .string ⟨u1.dft.toArray⟩, .bool u1.hk, .bool u1.hd, .slice a1 n1 c1] 27)) := (Below.refl _ _).alloc (Nat.le_refl _) _
          have hT : ExAt (fun _ => True) (wr.alloc (.cells #[.int .i64 k1, .string ⟨t1.toArray⟩, .int .i64 u1.src, .int .i64 u1.till, .string ⟨u1.name.toArray⟩, .string ⟨u1.key.toArray⟩, .string ⟨u1.dft.toArray⟩, .bool u1.hk, .bool u1.hd, .slice a1 n1 c1] 27)) (oneE 3 xa) (exV 3 [] noUseI (.slice (some ⟨wr.heap.size, 0, none⟩) 1 1)) := exAt_one (A := fun _ => True) 3 (HX0.out.next HB.out) trivial
          have HT := Lib.hid hT
          have HA1 := Lib.hid hA1
          clear hT hA1
          go_wp2_with fail
          refine (law28_ofL 3 (some ⟨wr.heap.size, 0, none⟩) 1 1 _).mono ?_
          rintro e w6 ⟨rfl, hb⟩
          clear p0 p1 p2 p3 p4 p5 p6 p7 p8 p9
          have hA2 : Below w6.heap.size w6 (w6.alloc (.cells #[.int .i64 3, .string ⟨#[]⟩, .int .i64 0, .int .i64 0, .string ⟨#[]⟩, .string ⟨#[]⟩, .string ⟨#[]⟩, .bool false, .bool false, .slice (some ⟨wr.heap.size, 0, none⟩) 1 1] 27)) := (Below.refl _ _).alloc (Nat.le_refl _) _
          have HB2 := Lib.hid ((HB.out.trans (HA1.out.mono HB.out.size)).trans ((hb.trans (hA2.mono hb.size)).mono (HB.out.trans (HA1.out.mono HB.out.size)).size))
          have HT8 := Lib.hid ((HT.out.next hb).next hA2)
          have HR8 := Lib.hid (show (w6.alloc (.cells #[.int .i64 3, .string ⟨#[]⟩, .int .i64 0, .int .i64 0, .string ⟨#[]⟩, .string ⟨#[]⟩, .string ⟨#[]⟩, .bool false, .bool false, .slice (some ⟨wr.heap.size, 0, none⟩) 1 1] 27)).heap[w6.heap.size]? = some (.cells (exL 3 [] noUseI (.slice (some ⟨wr.heap.size, 0, none⟩) 1 1)).toArray 27) from heap_alloc_new _ _)
          clear hb hA2 HT HA1 HB
          have HB := HB2
          clear HB2
          go_upto_region 6 with fail
          generalize w6.alloc (.cells #[.int .i64 3, .string ⟨#[]⟩, .int .i64 0, .int .i64 0, .string ⟨#[]⟩, .string ⟨#[]⟩, .string ⟨#[]⟩, .bool false, .bool false, .slice (some ⟨wr.heap.size, 0, none⟩) 1 1] 27) = W6 at *
          generalize w6.heap.size = b8 at *
          refine wp_region_tail 44 [upTree (oneE 3 xa), UpP.is (.agg #[.string ⟨#[104]⟩, .string ⟨#[47, 63, 97, 61, 98]⟩, .slice va fs.length vc]), UpP.is (.bool (!a)), UpP.is (.bool a), UpP.is (.bool false), UpP.is (.bool false), upTree (oneE 3 xa), upKids [(oneE 3 xa)], upTree (oneE 3 (oneE 3 xa)), UpP.is (.agg #[.string ⟨#[104]⟩, .string ⟨#[47, 63, 97, 61, 98]⟩, .slice va fs.length vc]), UpP.is (.bool a), UpP.is (.bool a), UpP.is (.bool false), UpP.is (.bool false), UpP.is (.bool false), UpP.is (.pointer (some ⟨w.heap.size, 0, none⟩)), upTree xa, UpP.is (.pointer (some ⟨w.heap.size, 10, none⟩)), upTree xb, upKids [xa, xb], upTree (twoE 1 xa xb), UpP.is (.agg #[.string ⟨#[104]⟩, .string ⟨#[47, 63, 97, 61, 98]⟩, .slice va fs.length vc]), UpP.is (.bool r), UpP.is (.bool a), UpP.is (.bool a), upIf a (.bool b), UpP.is (.bool r), UpP.is (.bool false), UpP.is (.bool false), UpP.is (.bool false), UpP.is (.pointer (some ⟨w.heap.size, 0, none⟩)), upTree xa, UpP.is (.pointer (some ⟨w.heap.size, 10, none⟩)), upTree xb, upKids [xa, xb], upTree (twoE 2 xa xb), UpP.is (.agg #[.string ⟨#[104]⟩, .string ⟨#[47, 63, 97, 61, 98]⟩, .slice va fs.length vc]), UpP.is (.bool m), UpP.is (.bool a), UpP.is (.bool a), upIf (!a) (.bool b), UpP.is (.bool m), UpP.is (.bool false), UpP.is (.bool false)] (by kernel_rfl) (by rfl) (by rfl) (by kernel_rfl) (by rfl) ⟨?o0, ?o1, ?o2, ?o3, ?o4, ?o5, ?o6, ?o7, ?o8, ?o9, ?o10, ?o11, ?o12, ?o13, ?o14, ?o15, ?o16, ?o17, ?o18, ?o19, ?o20, ?o21, ?o22, ?o23, ?o24, ?o25, ?o26, ?o27, ?o28, ?o29, ?o30, ?o31, ?o32, ?o33, ?o34, ?o35, ?o36, ?o37, ?o38, ?o39, ?o40, ?o41, ?o42, ?o43, trivial⟩ ?_
          case o0 =>
            intro a' w' hB hL hA
            refine up_yes rfl ?_
            have s8 := like_at hL 8 (by rfl) rfl
            obtain ⟨p0, p1, p2, p3, p4, p5, p6, p7, p8, p9⟩ := ten_cells (row_up28 HR8.out hB)
            go_simp
            exact ⟨_, rfl, Below.refl _ _, HT8.out.next hB⟩
          case o1 =>
            intro a' w' hB hL hA
            refine up_yes rfl ?_
            have s5 := like_at hL 5 (by rfl) rfl
            have hV := HB.out.trans (hB.mono HB.out.size)
            obtain ⟨e0', e1', e2'⟩ := row_three28 (row_up28 HR5.out hV)
            go_simp
            exact ⟨_, rfl, Below.refl _ _, rfl⟩
          case o2 =>
            intro a' w' hB hL hA
            refine up_yes rfl ?_
            obtain ⟨v0, e0, h0⟩ := up_pre hA 0 (by rfl)
            have e0 : a'.tmps[50]? = some _ := e0
            have h0 : ExAt (fun _ => True) w' (oneE 3 xa) v0 := h0
            obtain ⟨v1, e1, rfl⟩ := up_pre hA 1 (by rfl)
            have e1 : a'.tmps[51]? = some _ := e1
            have hV := HB.out.trans (hB.mono HB.out.size)
            go_simp
            refine (HIT.out _ _ HVn.out _ va vc w' (HG.out.next hV) h0 (HF.out.below hV) HOn.out).mono ?_
            rintro e w6 ⟨rfl, hb6⟩
            exact ⟨_, rfl, hb6, rfl⟩
          case o3 =>
            intro a' w' hB hL hA
            refine up_yes rfl ?_
            have s6 := like_at hL 6 (by rfl) rfl
            go_simp
            exact ⟨_, rfl, Below.refl _ _, rfl⟩
          case o4 =>
            intro a' w' hB hL hA
            refine up_yes rfl ?_
            obtain ⟨v2, e2, rfl⟩ := up_pre hA 2 (by rfl)
            have e2 : a'.tmps[52]? = some _ := e2
            obtain ⟨v3, e3, rfl⟩ := up_pre hA 3 (by rfl)
            have e3 : a'.tmps[53]? = some _ := e3
            go_simp
            first | exact ⟨_, rfl, Below.refl _ _, rfl⟩ | exact ⟨_, rfl, Below.refl _ _, (congrArg Value.bool (by cases m <;> cases r <;> rfl))⟩
          case o5 =>
            intro a' w' hB hL hA
            refine up_yes rfl ?_
            obtain ⟨v4, e4, rfl⟩ := up_pre hA 4 (by rfl)
            have e4 : a'.tmps[54]? = some _ := e4
            go_simp
            exact ⟨_, rfl, Below.refl _ _, rfl⟩
          case o6 =>
            intro a' w' hB hL hA
            obtain ⟨g0, ge, rfl⟩ := up_pre hA 5 (by rfl)
            have ge : a'.tmps[55]? = some _ := ge
            refine up_if rfl (up_yield rfl ge) ?_
            have s8 := like_at hL 8 (by rfl) rfl
            obtain ⟨p0, p1, p2, p3, p4, p5, p6, p7, p8, p9⟩ := ten_cells (row_up28 HR8.out hB)
            go_simp
            exact ⟨_, rfl, Below.refl _ _, HT8.out.next hB⟩
          case o7 =>
            intro a' w' hB hL hA
            obtain ⟨g0, ge, rfl⟩ := up_pre hA 5 (by rfl)
            have ge : a'.tmps[55]? = some _ := ge
            refine up_if rfl (up_yield rfl ge) ?_
            obtain ⟨v6, e6, h6⟩ := up_pre hA 6 (by rfl)
            have e6 : a'.tmps[56]? = some _ := e6
            have h6 : ExAt (fun _ => True) w' (oneE 3 xa) v6 := h6
            obtain ⟨k6, t6, u6, a6, n6, c6, rfl⟩ := h6.ten
            go_simp
            exact ⟨_, rfl, (Below.refl _ _).alloc (Nat.le_refl _) _, kids_of (exAt_one (A := (fun _ => True)) 3 h6 trivial)⟩
          case o8 =>
            intro a' w' hB hL hA
            obtain ⟨g0, ge, rfl⟩ := up_pre hA 5 (by rfl)
            have ge : a'.tmps[55]? = some _ := ge
            refine up_if rfl (up_yield rfl ge) ?_
            obtain ⟨v7, e7, h7⟩ := up_pre hA 7 (by rfl)
            have e7 : a'.tmps[57]? = some _ := e7
            have h7 : KidsAt (fun _ => True) w' [(oneE 3 xa)] v7 := h7
            obtain ⟨a7, c7, rfl⟩ := kids_slice h7
            go_simp
            refine (law28_of 3 a7 1 c7 w').mono ?_
            rintro e w6 ⟨rfl, hb6⟩
            exact ⟨_, rfl, hb6, exAt_iff.2 ⟨_, rfl, kids_nextA h7 hb6⟩⟩
          case o9 =>
            intro a' w' hB hL hA
            obtain ⟨g0, ge, rfl⟩ := up_pre hA 5 (by rfl)
            have ge : a'.tmps[55]? = some _ := ge
            refine up_if rfl (up_yield rfl ge) ?_
            have s5 := like_at hL 5 (by rfl) rfl
            have hV := HB.out.trans (hB.mono HB.out.size)
            obtain ⟨e0', e1', e2'⟩ := row_three28 (row_up28 HR5.out hV)
            go_simp
            exact ⟨_, rfl, Below.refl _ _, rfl⟩
          case o10 =>
            intro a' w' hB hL hA
            obtain ⟨g0, ge, rfl⟩ := up_pre hA 5 (by rfl)
            have ge : a'.tmps[55]? = some _ := ge
            refine up_if rfl (up_yield rfl ge) ?_
            obtain ⟨v8, e8, h8⟩ := up_pre hA 8 (by rfl)
            have e8 : a'.tmps[58]? = some _ := e8
            have h8 : ExAt (fun _ => True) w' (oneE 3 (oneE 3 xa)) v8 := h8
            obtain ⟨v9, e9, rfl⟩ := up_pre hA 9 (by rfl)
            have e9 : a'.tmps[59]? = some _ := e9
            have hV := HB.out.trans (hB.mono HB.out.size)
            go_simp
            refine (HIT.out _ _ HVnn.out _ va vc w' (HG.out.next hV) h8 (HF.out.below hV) HOnn.out).mono ?_
            rintro e w6 ⟨rfl, hb6⟩
            exact ⟨_, rfl, hb6, rfl⟩
          case o11 =>
            intro a' w' hB hL hA
            obtain ⟨g0, ge, rfl⟩ := up_pre hA 5 (by rfl)
            have ge : a'.tmps[55]? = some _ := ge
            refine up_if rfl (up_yield rfl ge) ?_
            have s6 := like_at hL 6 (by rfl) rfl
            go_simp
            exact ⟨_, rfl, Below.refl _ _, rfl⟩
          case o12 =>
            intro a' w' hB hL hA
            obtain ⟨g0, ge, rfl⟩ := up_pre hA 5 (by rfl)
            have ge : a'.tmps[55]? = some _ := ge
            refine up_if rfl (up_yield rfl ge) ?_
            obtain ⟨v10, e10, rfl⟩ := up_pre hA 10 (by rfl)
            have e10 : a'.tmps[60]? = some _ := e10
            obtain ⟨v11, e11, rfl⟩ := up_pre hA 11 (by rfl)
            have e11 : a'.tmps[61]? = some _ := e11
            go_simp
            exact ⟨_, rfl, Below.refl _ _, rfl⟩
          case o13 =>
            intro a' w' hB hL hA
            refine up_yes rfl ?_
            obtain ⟨v5, e5, rfl⟩ := up_pre hA 5 (by rfl)
            have e5 : a'.tmps[55]? = some _ := e5
            obtain ⟨v12, e12, rfl⟩ := up_pre hA 12 (by rfl)
            have e12 : a'.tmps[62]? = some _ := e12
            go_simp
            exact ⟨_, rfl, Below.refl _ _, rfl⟩
          case o14 =>
            intro a' w' hB hL hA
            refine up_yes rfl ?_
            obtain ⟨v13, e13, rfl⟩ := up_pre hA 13 (by rfl)
            have e13 : a'.tmps[63]? = some _ := e13
            go_simp
            exact ⟨_, rfl, Below.refl _ _, rfl⟩
          case o15 =>
            intro a' w' hB hL hA
            obtain ⟨g0, ge, rfl⟩ := up_pre hA 14 (by rfl)
            have ge : a'.tmps[64]? = some _ := ge
            refine up_if rfl (up_yield rfl ge) ?_
            have s2 := like_at hL 2 (by rfl) rfl
            go_simp
            exact ⟨_, rfl, Below.refl _ _, rfl⟩
          case o16 =>
            intro a' w' hB hL hA
            obtain ⟨g0, ge, rfl⟩ := up_pre hA 14 (by rfl)
            have ge : a'.tmps[64]? = some _ := ge
            refine up_if rfl (up_yield rfl ge) ?_
            obtain ⟨v15, e15, rfl⟩ := up_pre hA 15 (by rfl)
            have e15 : a'.tmps[65]? = some _ := e15
            have hV := HB.out.trans (hB.mono HB.out.size)
            obtain ⟨p0, p1, p2, p3, p4, p5, p6, p7, p8, p9⟩ := three_a (row_up28 HN.out hV)
            go_simp
            exact ⟨_, rfl, Below.refl _ _, HX0.out.next hV⟩
          case o17 =>
            intro a' w' hB hL hA
            obtain ⟨g0, ge, rfl⟩ := up_pre hA 14 (by rfl)
            have ge : a'.tmps[64]? = some _ := ge
            refine up_if rfl (up_yield rfl ge) ?_
            have s2 := like_at hL 2 (by rfl) rfl
            go_simp
            exact ⟨_, rfl, Below.refl _ _, rfl⟩
          case o18 =>
            intro a' w' hB hL hA
            obtain ⟨g0, ge, rfl⟩ := up_pre hA 14 (by rfl)
            have ge : a'.tmps[64]? = some _ := ge
            refine up_if rfl (up_yield rfl ge) ?_
            obtain ⟨v17, e17, rfl⟩ := up_pre hA 17 (by rfl)
            have e17 : a'.tmps[67]? = some _ := e17
            have hV := HB.out.trans (hB.mono HB.out.size)
            obtain ⟨p0, p1, p2, p3, p4, p5, p6, p7, p8, p9⟩ := three_b (row_up28 HN.out hV)
            go_simp
            exact ⟨_, rfl, Below.refl _ _, HX1.out.next hV⟩
          case o19 =>
            intro a' w' hB hL hA
            obtain ⟨g0, ge, rfl⟩ := up_pre hA 14 (by rfl)
            have ge : a'.tmps[64]? = some _ := ge
            refine up_if rfl (up_yield rfl ge) ?_
            obtain ⟨v16, e16, h16⟩ := up_pre hA 16 (by rfl)
            have e16 : a'.tmps[66]? = some _ := e16
            have h16 : ExAt (fun _ => True) w' xa v16 := h16
            obtain ⟨k16, t16, u16, a16, n16, c16, rfl⟩ := h16.ten
            obtain ⟨v18, e18, h18⟩ := up_pre hA 18 (by rfl)
            have e18 : a'.tmps[68]? = some _ := e18
            have h18 : ExAt (fun _ => True) w' xb v18 := h18
            obtain ⟨k18, t18, u18, a18, n18, c18, rfl⟩ := h18.ten
            go_simp
            exact ⟨_, rfl, (Below.refl _ _).alloc (Nat.le_refl _) _, kids_of (exAt_two (A := (fun _ => True)) 3 h16 h18 trivial)⟩
          case o20 =>
            intro a' w' hB hL hA
            obtain ⟨g0, ge, rfl⟩ := up_pre hA 14 (by rfl)
            have ge : a'.tmps[64]? = some _ := ge
            refine up_if rfl (up_yield rfl ge) ?_
            obtain ⟨v19, e19, h19⟩ := up_pre hA 19 (by rfl)
            have e19 : a'.tmps[69]? = some _ := e19
            have h19 : KidsAt (fun _ => True) w' [xa, xb] v19 := h19
            obtain ⟨a19, c19, rfl⟩ := kids_slice h19
            go_simp
            refine (law28_of 1 a19 2 c19 w').mono ?_
            rintro e w6 ⟨rfl, hb6⟩
            exact ⟨_, rfl, hb6, exAt_iff.2 ⟨_, rfl, kids_nextA h19 hb6⟩⟩
          case o21 =>
            intro a' w' hB hL hA
            obtain ⟨g0, ge, rfl⟩ := up_pre hA 14 (by rfl)
            have ge : a'.tmps[64]? = some _ := ge
            refine up_if rfl (up_yield rfl ge) ?_
            have s5 := like_at hL 5 (by rfl) rfl
            have hV := HB.out.trans (hB.mono HB.out.size)
            obtain ⟨e0', e1', e2'⟩ := row_three28 (row_up28 HR5.out hV)
            go_simp
            exact ⟨_, rfl, Below.refl _ _, rfl⟩
          case o22 =>
            intro a' w' hB hL hA
            obtain ⟨g0, ge, rfl⟩ := up_pre hA 14 (by rfl)
            have ge : a'.tmps[64]? = some _ := ge
            refine up_if rfl (up_yield rfl ge) ?_
            obtain ⟨v20, e20, h20⟩ := up_pre hA 20 (by rfl)
            have e20 : a'.tmps[70]? = some _ := e20
            have h20 : ExAt (fun _ => True) w' (twoE 1 xa xb) v20 := h20
            obtain ⟨v21, e21, rfl⟩ := up_pre hA 21 (by rfl)
            have e21 : a'.tmps[71]? = some _ := e21
            have hV := HB.out.trans (hB.mono HB.out.size)
            go_simp
            refine (HIT.out _ _ HVor.out _ va vc w' (HG.out.next hV) h20 (HF.out.below hV) HOor.out).mono ?_
            rintro e w6 ⟨rfl, hb6⟩
            exact ⟨_, rfl, hb6, rfl⟩
          case o23 =>
            intro a' w' hB hL hA
            obtain ⟨g0, ge, rfl⟩ := up_pre hA 14 (by rfl)
            have ge : a'.tmps[64]? = some _ := ge
            refine up_if rfl (up_yield rfl ge) ?_
            have s6 := like_at hL 6 (by rfl) rfl
            go_simp
            exact ⟨_, rfl, Below.refl _ _, rfl⟩
          case o24 =>
            intro a' w' hB hL hA
            obtain ⟨g0, ge, rfl⟩ := up_pre hA 14 (by rfl)
            have ge : a'.tmps[64]? = some _ := ge
            refine up_if rfl (up_yield rfl ge) ?_
            obtain ⟨v23, e23, rfl⟩ := up_pre hA 23 (by rfl)
            have e23 : a'.tmps[73]? = some _ := e23
            go_simp
            exact ⟨_, rfl, Below.refl _ _, rfl⟩
          case o25 =>
            intro a' w' hB hL hA
            obtain ⟨g0, ge, rfl⟩ := up_pre hA 24 (by rfl)
            have ge : a'.tmps[74]? = some _ := ge
            rcases a with _ | _
            · refine up_if rfl (up_yield rfl ge) ?_
              have s7 := like_at hL 7 (by rfl) rfl
              go_simp
              exact ⟨_, rfl, Below.refl _ _, fun _ => rfl⟩
            · exact up_no rfl (up_yield rfl ge) rfl (fun h => by cases h)
          case o26 =>
            intro a' w' hB hL hA
            obtain ⟨g0, ge, rfl⟩ := up_pre hA 14 (by rfl)
            have ge : a'.tmps[64]? = some _ := ge
            refine up_if rfl (up_yield rfl ge) ?_
            obtain ⟨v24, e24, rfl⟩ := up_pre hA 24 (by rfl)
            have e24 : a'.tmps[74]? = some _ := e24
            obtain ⟨v25, e25, hm⟩ := up_pre hA 25 (by rfl)
            have e25 : a'.tmps[75]? = some _ := e25
            rcases a with _ | _
            · obtain rfl := hm rfl
              go_simp
              exact ⟨_, rfl, Below.refl _ _, (congrArg Value.bool (by rw [← HRR.out]; rfl))⟩
            · go_simp
              exact ⟨_, rfl, Below.refl _ _, (congrArg Value.bool (by rw [← HRR.out]; rfl))⟩
          case o27 =>
            intro a' w' hB hL hA
            obtain ⟨g0, ge, rfl⟩ := up_pre hA 14 (by rfl)
            have ge : a'.tmps[64]? = some _ := ge
            refine up_if rfl (up_yield rfl ge) ?_
            obtain ⟨v22, e22, rfl⟩ := up_pre hA 22 (by rfl)
            have e22 : a'.tmps[72]? = some _ := e22
            obtain ⟨v26, e26, rfl⟩ := up_pre hA 26 (by rfl)
            have e26 : a'.tmps[76]? = some _ := e26
            go_simp
            exact ⟨_, rfl, Below.refl _ _, rfl⟩
          case o28 =>
            intro a' w' hB hL hA
            refine up_yes rfl ?_
            obtain ⟨v14, e14, rfl⟩ := up_pre hA 14 (by rfl)
            have e14 : a'.tmps[64]? = some _ := e14
            obtain ⟨v27, e27, rfl⟩ := up_pre hA 27 (by rfl)
            have e27 : a'.tmps[77]? = some _ := e27
            go_simp
            exact ⟨_, rfl, Below.refl _ _, rfl⟩
          case o29 =>
            intro a' w' hB hL hA
            refine up_yes rfl ?_
            obtain ⟨v28, e28, rfl⟩ := up_pre hA 28 (by rfl)
            have e28 : a'.tmps[78]? = some _ := e28
            go_simp
            exact ⟨_, rfl, Below.refl _ _, rfl⟩
          case o30 =>
            intro a' w' hB hL hA
            obtain ⟨g0, ge, rfl⟩ := up_pre hA 29 (by rfl)
            have ge : a'.tmps[79]? = some _ := ge
            refine up_if rfl (up_yield rfl ge) ?_
            have s2 := like_at hL 2 (by rfl) rfl
            go_simp
            exact ⟨_, rfl, Below.refl _ _, rfl⟩
          case o31 =>
            intro a' w' hB hL hA
            obtain ⟨g0, ge, rfl⟩ := up_pre hA 29 (by rfl)
            have ge : a'.tmps[79]? = some _ := ge
            refine up_if rfl (up_yield rfl ge) ?_
            obtain ⟨v30, e30, rfl⟩ := up_pre hA 30 (by rfl)
            have e30 : a'.tmps[80]? = some _ := e30
            have hV := HB.out.trans (hB.mono HB.out.size)
            obtain ⟨p0, p1, p2, p3, p4, p5, p6, p7, p8, p9⟩ := three_a (row_up28 HN.out hV)
            go_simp
            exact ⟨_, rfl, Below.refl _ _, HX0.out.next hV⟩
          case o32 =>
            intro a' w' hB hL hA
            obtain ⟨g0, ge, rfl⟩ := up_pre hA 29 (by rfl)
            have ge : a'.tmps[79]? = some _ := ge
            refine up_if rfl (up_yield rfl ge) ?_
            have s2 := like_at hL 2 (by rfl) rfl
            go_simp
            exact ⟨_, rfl, Below.refl _ _, rfl⟩
          case o33 =>
            intro a' w' hB hL hA
            obtain ⟨g0, ge, rfl⟩ := up_pre hA 29 (by rfl)
            have ge : a'.tmps[79]? = some _ := ge
            refine up_if rfl (up_yield rfl ge) ?_
            obtain ⟨v32, e32, rfl⟩ := up_pre hA 32 (by rfl)
            have e32 : a'.tmps[82]? = some _ := e32
            have hV := HB.out.trans (hB.mono HB.out.size)
            obtain ⟨p0, p1, p2, p3, p4, p5, p6, p7, p8, p9⟩ := three_b (row_up28 HN.out hV)
            go_simp
            exact ⟨_, rfl, Below.refl _ _, HX1.out.next hV⟩
          case o34 =>
            intro a' w' hB hL hA
            obtain ⟨g0, ge, rfl⟩ := up_pre hA 29 (by rfl)
            have ge : a'.tmps[79]? = some _ := ge
            refine up_if rfl (up_yield rfl ge) ?_
            obtain ⟨v31, e31, h31⟩ := up_pre hA 31 (by rfl)
            have e31 : a'.tmps[81]? = some _ := e31
            have h31 : ExAt (fun _ => True) w' xa v31 := h31
            obtain ⟨k31, t31, u31, a31, n31, c31, rfl⟩ := h31.ten
            obtain ⟨v33, e33, h33⟩ := up_pre hA 33 (by rfl)
            have e33 : a'.tmps[83]? = some _ := e33
            have h33 : ExAt (fun _ => True) w' xb v33 := h33
            obtain ⟨k33, t33, u33, a33, n33, c33, rfl⟩ := h33.ten
            go_simp
            exact ⟨_, rfl, (Below.refl _ _).alloc (Nat.le_refl _) _, kids_of (exAt_two (A := (fun _ => True)) 3 h31 h33 trivial)⟩
          case o35 =>
            intro a' w' hB hL hA
            obtain ⟨g0, ge, rfl⟩ := up_pre hA 29 (by rfl)
            have ge : a'.tmps[79]? = some _ := ge
            refine up_if rfl (up_yield rfl ge) ?_
            obtain ⟨v34, e34, h34⟩ := up_pre hA 34 (by rfl)
            have e34 : a'.tmps[84]? = some _ := e34
            have h34 : KidsAt (fun _ => True) w' [xa, xb] v34 := h34
            obtain ⟨a34, c34, rfl⟩ := kids_slice h34
            go_simp
            refine (law28_of 2 a34 2 c34 w').mono ?_
            rintro e w6 ⟨rfl, hb6⟩
            exact ⟨_, rfl, hb6, exAt_iff.2 ⟨_, rfl, kids_nextA h34 hb6⟩⟩
          case o36 =>
            intro a' w' hB hL hA
            obtain ⟨g0, ge, rfl⟩ := up_pre hA 29 (by rfl)
            have ge : a'.tmps[79]? = some _ := ge
            refine up_if rfl (up_yield rfl ge) ?_
            have s5 := like_at hL 5 (by rfl) rfl
            have hV := HB.out.trans (hB.mono HB.out.size)
            obtain ⟨e0', e1', e2'⟩ := row_three28 (row_up28 HR5.out hV)
            go_simp
            exact ⟨_, rfl, Below.refl _ _, rfl⟩
          case o37 =>
            intro a' w' hB hL hA
            obtain ⟨g0, ge, rfl⟩ := up_pre hA 29 (by rfl)
            have ge : a'.tmps[79]? = some _ := ge
            refine up_if rfl (up_yield rfl ge) ?_
            obtain ⟨v35, e35, h35⟩ := up_pre hA 35 (by rfl)
            have e35 : a'.tmps[85]? = some _ := e35
            have h35 : ExAt (fun _ => True) w' (twoE 2 xa xb) v35 := h35
            obtain ⟨v36, e36, rfl⟩ := up_pre hA 36 (by rfl)
            have e36 : a'.tmps[86]? = some _ := e36
            have hV := HB.out.trans (hB.mono HB.out.size)
            go_simp
            refine (HIT.out _ _ HVan.out _ va vc w' (HG.out.next hV) h35 (HF.out.below hV) HOan.out).mono ?_
            rintro e w6 ⟨rfl, hb6⟩
            exact ⟨_, rfl, hb6, rfl⟩
          case o38 =>
            intro a' w' hB hL hA
            obtain ⟨g0, ge, rfl⟩ := up_pre hA 29 (by rfl)
            have ge : a'.tmps[79]? = some _ := ge
            refine up_if rfl (up_yield rfl ge) ?_
            have s6 := like_at hL 6 (by rfl) rfl
            go_simp
            exact ⟨_, rfl, Below.refl _ _, rfl⟩
          case o39 =>
            intro a' w' hB hL hA
            obtain ⟨g0, ge, rfl⟩ := up_pre hA 29 (by rfl)
            have ge : a'.tmps[79]? = some _ := ge
            refine up_if rfl (up_yield rfl ge) ?_
            obtain ⟨v38, e38, rfl⟩ := up_pre hA 38 (by rfl)
            have e38 : a'.tmps[88]? = some _ := e38
            go_simp
            exact ⟨_, rfl, Below.refl _ _, rfl⟩
          case o40 =>
            intro a' w' hB hL hA
            obtain ⟨g0, ge, rfl⟩ := up_pre hA 39 (by rfl)
            have ge : a'.tmps[89]? = some _ := ge
            rcases a with _ | _
            · exact up_no rfl (up_yield rfl ge) rfl (fun h => by cases h)
            · refine up_if rfl (up_yield rfl ge) ?_
              have s7 := like_at hL 7 (by rfl) rfl
              go_simp
              exact ⟨_, rfl, Below.refl _ _, fun _ => rfl⟩
          case o41 =>
            intro a' w' hB hL hA
            obtain ⟨g0, ge, rfl⟩ := up_pre hA 29 (by rfl)
            have ge : a'.tmps[79]? = some _ := ge
            refine up_if rfl (up_yield rfl ge) ?_
            obtain ⟨v39, e39, rfl⟩ := up_pre hA 39 (by rfl)
            have e39 : a'.tmps[89]? = some _ := e39
            obtain ⟨v40, e40, hm⟩ := up_pre hA 40 (by rfl)
            have e40 : a'.tmps[90]? = some _ := e40
            rcases a with _ | _
            · go_simp
              exact ⟨_, rfl, Below.refl _ _, (congrArg Value.bool (by rw [← HMM.out]; rfl))⟩
            · obtain rfl := hm rfl
              go_simp
              exact ⟨_, rfl, Below.refl _ _, (congrArg Value.bool (by rw [← HMM.out]; rfl))⟩
          case o42 =>
            intro a' w' hB hL hA
            obtain ⟨g0, ge, rfl⟩ := up_pre hA 29 (by rfl)
            have ge : a'.tmps[79]? = some _ := ge
            refine up_if rfl (up_yield rfl ge) ?_
            obtain ⟨v37, e37, rfl⟩ := up_pre hA 37 (by rfl)
            have e37 : a'.tmps[87]? = some _ := e37
            obtain ⟨v41, e41, rfl⟩ := up_pre hA 41 (by rfl)
            have e41 : a'.tmps[91]? = some _ := e41
            go_simp
            exact ⟨_, rfl, Below.refl _ _, rfl⟩
          case o43 =>
            intro a' w' hB hL hA
            refine up_yes rfl ?_
            obtain ⟨v29, e29, rfl⟩ := up_pre hA 29 (by rfl)
            have e29 : a'.tmps[79]? = some _ := e29
            obtain ⟨v42, e42, rfl⟩ := up_pre hA 42 (by rfl)
            have e42 : a'.tmps[92]? = some _ := e42
            go_simp
            exact ⟨_, rfl, Below.refl _ _, rfl⟩
          intro f wr hB hf
          have f43 : f 43 = _ := hf 43 _ rfl
          have HBq := Lib.hid (HB.out.trans (hB.mono HB.out.size))
          have HR8q := Lib.hid (row_up28 HR8.out hB)
          have HT8q := Lib.hid (HT8.out.next hB)
          clear hB hf HB HR8 HT8
          have HB := HBq
          have HR8 := HR8q
          have HT8 := HT8q
          clear HBq HR8q HT8q
          simp only [List.take_succ_cons, List.take_zero, List.drop_succ_cons, List.drop_nil, putFn, Act.put, tailWp]
          rw [f43]
          clear f43
          go_simp
          go_upto_region 8 with fail
          refine wp_region_new 16 [upTreeG (oneE 3 xa), (UpP.is (.pointer (some ⟨w.heap.size, 10, none⟩))).g, upTreeG xb, upKidsG [xb], upTreeG (oneE 3 xb), upKidsG [(oneE 3 xa), (oneE 3 xb)], upTreeG (twoE 1 (oneE 3 xa) (oneE 3 xb)), upTreeG (oneE 3 xa), (UpP.is (.pointer (some ⟨w.heap.size, 10, none⟩))).g, upTreeG xb, upKidsG [xb], upTreeG (oneE 3 xb), upKidsG [(oneE 3 xa), (oneE 3 xb)], upTreeG (twoE 2 (oneE 3 xa) (oneE 3 xb)), upBoxG, upBoxG] [false, false, false, false, false, false, false, false, false, false, false, false, false, false, true, true] (by kernel_rfl) (by rfl) (by rfl) (by kernel_rfl) (by rfl) ?hd ⟨?o0, ?o1, ?o2, ?o3, ?o4, ?o5, ?o6, ?o7, ?o8, ?o9, ?o10, ?o11, ?o12, ?o13, ?o14, ?o15, trivial⟩ ?_
          case hd =>
            exact fr_dst (by rfl)
          case o0 =>
            intro a' w' G hB hL hG hA
            refine up_yes rfl ?_
            have s8 := like_at hL 8 (by rfl) rfl
            obtain ⟨p0, p1, p2, p3, p4, p5, p6, p7, p8, p9⟩ := ten_cells (row_up28 HR8.out hB)
            go_simp
            exact ⟨_, rfl, Below.refl _ _, (exAt_lo (A' := fun z => ¬ G z) (fun z hz _ hg => by have := (hG z hg).1; omega) _ _ HT8.out).next hB⟩
          case o1 =>
            intro a' w' G hB hL hG hA
            refine up_yes rfl ?_
            have s2 := like_at hL 2 (by rfl) rfl
            go_simp
            exact ⟨_, rfl, Below.refl _ _, rfl⟩
          case o2 =>
            intro a' w' G hB hL hG hA
            refine up_yes rfl ?_
            obtain ⟨v1, e1, rfl⟩ := up_preG hA 1 (by rfl)
            have e1 : a'.tmps[95]? = some _ := e1
            have hV := HB.out.trans (hB.mono HB.out.size)
            obtain ⟨p0, p1, p2, p3, p4, p5, p6, p7, p8, p9⟩ := three_b (row_up28 HN.out hV)
            go_simp
            exact ⟨_, rfl, Below.refl _ _, (exAt_lo (A' := fun z => ¬ G z) (fun z hz _ hg => by have := (hG z hg).1; have := HB.out.size; omega) _ _ HX1.out).next hV⟩
          case o3 =>
            intro a' w' G hB hL hG hA
            refine up_yes rfl ?_
            obtain ⟨v2, e2, h2⟩ := up_preG hA 2 (by rfl)
            have e2 : a'.tmps[96]? = some _ := e2
            have h2 : ExAt (fun z => ¬ G z) w' xb v2 := h2
            obtain ⟨k2, t2, u2, a2, n2, c2, rfl⟩ := h2.ten
            go_simp
            exact ⟨_, rfl, (Below.refl _ _).alloc (Nat.le_refl _) _, kids_of (exAt_one (A := (fun z => ¬ G z)) 3 h2 (fun hg => by have := (hG _ hg).2; omega))⟩
          case o4 =>
            intro a' w' G hB hL hG hA
            refine up_yes rfl ?_
            obtain ⟨v3, e3, h3⟩ := up_preG hA 3 (by rfl)
            have e3 : a'.tmps[97]? = some _ := e3
            have h3 : KidsAt (fun z => ¬ G z) w' [xb] v3 := h3
            obtain ⟨a3, c3, rfl⟩ := kids_slice h3
            go_simp
            refine (law28_of 3 a3 1 c3 w').mono ?_
            rintro e w6 ⟨rfl, hb6⟩
            exact ⟨_, rfl, hb6, exAt_iff.2 ⟨_, rfl, kids_nextA h3 hb6⟩⟩
          case o5 =>
            intro a' w' G hB hL hG hA
            refine up_yes rfl ?_
            obtain ⟨v0, e0, h0⟩ := up_preG hA 0 (by rfl)
            have e0 : a'.tmps[94]? = some _ := e0
            have h0 : ExAt (fun z => ¬ G z) w' (oneE 3 xa) v0 := h0
            obtain ⟨k0, t0, u0, a0, n0, c0, rfl⟩ := h0.ten
            obtain ⟨v4, e4, h4⟩ := up_preG hA 4 (by rfl)
            have e4 : a'.tmps[98]? = some _ := e4
            have h4 : ExAt (fun z => ¬ G z) w' (oneE 3 xb) v4 := h4
            obtain ⟨k4, t4, u4, a4, n4, c4, rfl⟩ := h4.ten
            go_simp
            exact ⟨_, rfl, (Below.refl _ _).alloc (Nat.le_refl _) _, kids_of (exAt_two (A := (fun z => ¬ G z)) 3 h0 h4 (fun hg => by have := (hG _ hg).2; omega))⟩
          case o6 =>
            intro a' w' G hB hL hG hA
            refine up_yes rfl ?_
            obtain ⟨v5, e5, h5⟩ := up_preG hA 5 (by rfl)
            have e5 : a'.tmps[99]? = some _ := e5
            have h5 : KidsAt (fun z => ¬ G z) w' [(oneE 3 xa), (oneE 3 xb)] v5 := h5
            obtain ⟨a5, c5, rfl⟩ := kids_slice h5
            go_simp
            refine (law28_of 1 a5 2 c5 w').mono ?_
            rintro e w6 ⟨rfl, hb6⟩
            exact ⟨_, rfl, hb6, exAt_iff.2 ⟨_, rfl, kids_nextA h5 hb6⟩⟩
          case o7 =>
            intro a' w' G hB hL hG hA
            refine up_yes rfl ?_
            have s8 := like_at hL 8 (by rfl) rfl
            obtain ⟨p0, p1, p2, p3, p4, p5, p6, p7, p8, p9⟩ := ten_cells (row_up28 HR8.out hB)
            go_simp
            exact ⟨_, rfl, Below.refl _ _, (exAt_lo (A' := fun z => ¬ G z) (fun z hz _ hg => by have := (hG z hg).1; omega) _ _ HT8.out).next hB⟩
          case o8 =>
            intro a' w' G hB hL hG hA
            refine up_yes rfl ?_
            have s2 := like_at hL 2 (by rfl) rfl
            go_simp
            exact ⟨_, rfl, Below.refl _ _, rfl⟩
          case o9 =>
            intro a' w' G hB hL hG hA
            refine up_yes rfl ?_
            obtain ⟨v8, e8, rfl⟩ := up_preG hA 8 (by rfl)
            have e8 : a'.tmps[102]? = some _ := e8
            have hV := HB.out.trans (hB.mono HB.out.size)
            obtain ⟨p0, p1, p2, p3, p4, p5, p6, p7, p8, p9⟩ := three_b (row_up28 HN.out hV)
            go_simp
            exact ⟨_, rfl, Below.refl _ _, (exAt_lo (A' := fun z => ¬ G z) (fun z hz _ hg => by have := (hG z hg).1; have := HB.out.size; omega) _ _ HX1.out).next hV⟩
          case o10 =>
            intro a' w' G hB hL hG hA
            refine up_yes rfl ?_
            obtain ⟨v9, e9, h9⟩ := up_preG hA 9 (by rfl)
            have e9 : a'.tmps[103]? = some _ := e9
            have h9 : ExAt (fun z => ¬ G z) w' xb v9 := h9
            obtain ⟨k9, t9, u9, a9, n9, c9, rfl⟩ := h9.ten
            go_simp
            exact ⟨_, rfl, (Below.refl _ _).alloc (Nat.le_refl _) _, kids_of (exAt_one (A := (fun z => ¬ G z)) 3 h9 (fun hg => by have := (hG _ hg).2; omega))⟩
          case o11 =>
            intro a' w' G hB hL hG hA
            refine up_yes rfl ?_
            obtain ⟨v10, e10, h10⟩ := up_preG hA 10 (by rfl)
            have e10 : a'.tmps[104]? = some _ := e10
            have h10 : KidsAt (fun z => ¬ G z) w' [xb] v10 := h10
            obtain ⟨a10, c10, rfl⟩ := kids_slice h10
            go_simp
            refine (law28_of 3 a10 1 c10 w').mono ?_
            rintro e w6 ⟨rfl, hb6⟩
            exact ⟨_, rfl, hb6, exAt_iff.2 ⟨_, rfl, kids_nextA h10 hb6⟩⟩
          case o12 =>
            intro a' w' G hB hL hG hA
            refine up_yes rfl ?_
            obtain ⟨v7, e7, h7⟩ := up_preG hA 7 (by rfl)
            have e7 : a'.tmps[101]? = some _ := e7
            have h7 : ExAt (fun z => ¬ G z) w' (oneE 3 xa) v7 := h7
            obtain ⟨k7, t7, u7, a7, n7, c7, rfl⟩ := h7.ten
            obtain ⟨v11, e11, h11⟩ := up_preG hA 11 (by rfl)
            have e11 : a'.tmps[105]? = some _ := e11
            have h11 : ExAt (fun z => ¬ G z) w' (oneE 3 xb) v11 := h11
            obtain ⟨k11, t11, u11, a11, n11, c11, rfl⟩ := h11.ten
            go_simp
            exact ⟨_, rfl, (Below.refl _ _).alloc (Nat.le_refl _) _, kids_of (exAt_two (A := (fun z => ¬ G z)) 3 h7 h11 (fun hg => by have := (hG _ hg).2; omega))⟩
          case o13 =>
            intro a' w' G hB hL hG hA
            refine up_yes rfl ?_
            obtain ⟨v12, e12, h12⟩ := up_preG hA 12 (by rfl)
            have e12 : a'.tmps[106]? = some _ := e12
            have h12 : KidsAt (fun z => ¬ G z) w' [(oneE 3 xa), (oneE 3 xb)] v12 := h12
            obtain ⟨a12, c12, rfl⟩ := kids_slice h12
            go_simp
            refine (law28_of 2 a12 2 c12 w').mono ?_
            rintro e w6 ⟨rfl, hb6⟩
            exact ⟨_, rfl, hb6, exAt_iff.2 ⟨_, rfl, kids_nextA h12 hb6⟩⟩
          case o14 =>
            intro a' w' G hB hL hG hA
            refine up_yes rfl ?_
            go_simp
            exact ⟨_, rfl, (Below.refl _ _).alloc (Nat.le_refl _) _, ⟨w'.heap.size, rfl, Nat.le_refl _, (by first | exact Nat.lt_succ_self _ | (rw [World.size_alloc]; omega)), ⟨w'.heap.size, rfl, heap_alloc_new _ _⟩⟩⟩
          case o15 =>
            intro a' w' G hB hL hG hA
            refine up_yes rfl ?_
            go_simp
            exact ⟨_, rfl, (Below.refl _ _).alloc (Nat.le_refl _) _, ⟨w'.heap.size, rfl, Nat.le_refl _, (by first | exact Nat.lt_succ_self _ | (rw [World.size_alloc]; omega)), ⟨w'.heap.size, rfl, heap_alloc_new _ _⟩⟩⟩
          intro f B w' hB hlt hf hfp hfd
          have q14 := hf 14 upBoxG rfl
          have q15 := hf 15 upBoxG rfl
          have q6 := hf 6 (upTreeG (twoE 1 (oneE 3 xa) (oneE 3 xb))) rfl
          have q13 := hf 13 (upTreeG (twoE 2 (oneE 3 xa) (oneE 3 xb))) rfl
          have hbp := box_pair (Fr := [false, false, false, false, false, false, false, false, false, false, false, false, false, false, true, true]) (B := B) (f := f) (w' := w') (i := 14) (j := 15) (T := 27) rfl rfl (by decide)
          have hbp2 := hbp q14 q15
          have hbp3 := hbp2 hfp hfd
          have e14 := hbp3.1
          have e15 := hbp3.2.1
          have hne := hbp3.2.2.1
          have z14 := hbp3.2.2.2.1
          have z15 := hbp3.2.2.2.2.1
          have hcv := hbp3.2.2.2.2.2
          clear hbp hbp2 hbp3 q14 q15
          have T9 := hcv (twoE 1 (oneE 3 xa) (oneE 3 xb)) (f 6) q6
          have T10 := hcv (twoE 2 (oneE 3 xa) (oneE 3 xb)) (f 13) q13
          have h9 := T9.ten
          have h10 := T10.ten
          with_reducible refine @ten_elim (f 6) _ h9 ?_
          intro k9 t9 u9 a9 n9 c9 e6
          with_reducible refine @ten_elim (f 13) _ h10 ?_
          intro k10 t10 u10 a10 n10 c10 e13
          rw [e6] at T9
          rw [e13] at T10
          have l9 := (hlt (B 14) ⟨14, rfl, rfl⟩).1
          have l10 := (hlt (B 15) ⟨15, rfl, rfl⟩).1
          clear hf hfp hfd hlt hcv q6 q13 h9 h10
          simp only [List.take_succ_cons, List.take_zero, List.drop_succ_cons, putFn, Act.put]
          rw [e14, e15, e6, e13]
          clear e6 e13 e14 e15
          generalize B 14 = b9 at *
          generalize B 15 = b10 at *
          have HP := Lib.hid (two_set (k1 := k9) (t1 := t9) (u1 := u9) (kv1 := .slice a9 n9 c9) (k2 := k10) (t2 := t10) (u2 := u10) (kv2 := .slice a10 n10 c10) l9 l10 hne hB z14 z15)
          have HT9 := Lib.hid T9
          have HT10 := Lib.hid T10
          have z15' := ((setTen_turn w' b9 k9 t9 u9 (.slice a9 n9 c9)).block b10 (Array.getElem?_eq_some_iff.1 z15).1 (by intro e; exact hne (Option.some.inj e).symm)).trans z15
          have HZ := Lib.hid (And.intro z14 z15')
          have HZ0 := Lib.hid z15
          have HNE := Lib.hid hne
          have HLL := Lib.hid (And.intro l9 (And.intro l10 hne))
          clear T9 T10 z14 z15 z15' l9 l10 hne
          simp only [List.drop_zero, tailWp]
          with_reducible refine up_yes rfl ?_
          have P := ten_live HZ.out.1
          have p0 := P.1
          have p1 := P.2.1
          have p2 := P.2.2.1
          have p3 := P.2.2.2.1
          have p4 := P.2.2.2.2.1
          have p5 := P.2.2.2.2.2.1
          have p6 := P.2.2.2.2.2.2.1
          have p7 := P.2.2.2.2.2.2.2.1
          have p8 := P.2.2.2.2.2.2.2.2.1
          have p9 := P.2.2.2.2.2.2.2.2.2
          clear P
          have Q := ten_frozen HZ.out.1
          have g0 := Q.1
          have g1 := Q.2.1
          have g2 := Q.2.2.1
          have g3 := Q.2.2.2.1
          have g4 := Q.2.2.2.2.1
          have g5 := Q.2.2.2.2.2.1
          have g6 := Q.2.2.2.2.2.2.1
          have g7 := Q.2.2.2.2.2.2.2.1
          have g8 := Q.2.2.2.2.2.2.2.2.1
          have g9 := Q.2.2.2.2.2.2.2.2.2
          clear Q
          go_simp
          clear p0 g0 p1 g1 p2 g2 p3 g3 p4 g4 p5 g5 p6 g6 p7 g7 p8 g8 p9 g9
          have P := ten_live HZ.out.2
          have p0 := P.1
          have p1 := P.2.1
          have p2 := P.2.2.1
          have p3 := P.2.2.2.1
          have p4 := P.2.2.2.2.1
          have p5 := P.2.2.2.2.2.1
          have p6 := P.2.2.2.2.2.2.1
          have p7 := P.2.2.2.2.2.2.2.1
          have p8 := P.2.2.2.2.2.2.2.2.1
          have p9 := P.2.2.2.2.2.2.2.2.2
          clear P
          have Q := ten_frozen HZ.out.2
          have g0 := Q.1
          have g1 := Q.2.1
          have g2 := Q.2.2.1
          have g3 := Q.2.2.2.1
          have g4 := Q.2.2.2.2.1
          have g5 := Q.2.2.2.2.2.1
          have g6 := Q.2.2.2.2.2.2.1
          have g7 := Q.2.2.2.2.2.2.2.1
          have g8 := Q.2.2.2.2.2.2.2.2.1
          have g9 := Q.2.2.2.2.2.2.2.2.2
          clear Q
          have P := ten_live HZ0.out
          have r0 := P.1
          have r1 := P.2.1
          have r2 := P.2.2.1
          have r3 := P.2.2.2.1
          have r4 := P.2.2.2.2.1
          have r5 := P.2.2.2.2.2.1
          have r6 := P.2.2.2.2.2.2.1
          have r7 := P.2.2.2.2.2.2.2.1
          have r8 := P.2.2.2.2.2.2.2.2.1
          have r9 := P.2.2.2.2.2.2.2.2.2
          clear P
          have Q := ten_frozen HZ0.out
          have s0 := Q.1
          have s1 := Q.2.1
          have s2 := Q.2.2.1
          have s3 := Q.2.2.2.1
          have s4 := Q.2.2.2.2.1
          have s5 := Q.2.2.2.2.2.1
          have s6 := Q.2.2.2.2.2.2.1
          have s7 := Q.2.2.2.2.2.2.2.1
          have s8 := Q.2.2.2.2.2.2.2.2.1
          have s9 := Q.2.2.2.2.2.2.2.2.2
          clear Q
          dsimp only [setTen] at p0 p1 p2 p3 p4 p5 p6 p7 p8 p9 g0 g1 g2 g3 g4 g5 g6 g7 g8 g9
          have hn1 : ¬ b9 = b10 := HNE.out
          have hn2 : ¬ b10 = b9 := fun e => HNE.out e.symm
          go_simp
          clear hn1 hn2 HNE
          clear p0 g0 r0 s0 p1 g1 r1 s1 p2 g2 r2 s2 p3 g3 r3 s3 p4 g4 r4 s4 p5 g5 r5 s5 p6 g6 r6 s6 p7 g7 r7 s7 p8 g8 r8 s8 p9 g9 r9 s9
          clear HZ HZ0
          have HTa := Lib.hid (HP.out.2.2.2.1 _ _ _ HT9.out (fun h => h.1 rfl) (fun h => h.2 rfl)).any
          have HTb := Lib.hid (HP.out.2.2.2.1 _ _ _ HT10.out (fun h => h.1 rfl) (fun h => h.2 rfl)).any
          have HRa := Lib.hid HP.out.1
          have HRb := Lib.hid HP.out.2.1
          have HBa := Lib.hid HP.out.2.2.1
          clear HT9 HT10 HP
          dsimp only [setTen] at HTa HTb HRa HRb HBa
          generalize hW : World.setCell _ (⟨b10, 9, none⟩ : Addr) _ = W9 at *
          clear hW
          have HT9 := HTa
          have HT10 := HTb
          clear HTa HTb
          have HBq := Lib.hid (HB.out.trans (HBa.out.mono HB.out.size))
          have HR9 := HRa
          have HR10 := HRb
          have HBX := Lib.hid (show V.heap.size ≤ b9 ∧ V.heap.size ≤ b10 ∧ b9 < W9.heap.size ∧ b10 < W9.heap.size ∧ b9 ≠ b10 from ⟨Nat.le_trans HB.out.size HLL.out.1, Nat.le_trans HB.out.size HLL.out.2.1, (Array.getElem?_eq_some_iff.1 HRa.out).1, (Array.getElem?_eq_some_iff.1 HRb.out).1, HLL.out.2.2⟩)
          clear HB HBa HRa HRb HLL hB
          have HB := HBq
          clear HBq
          go_upto_region 9 with fail
          refine wp_region_tail 26 [upTree (twoE 1 (oneE 3 xa) (oneE 3 xb)), UpP.is (.agg #[.string ⟨#[104]⟩, .string ⟨#[47, 63, 97, 61, 98]⟩, .slice va fs.length vc]), UpP.is (.bool (!m)), UpP.is (.pointer (some ⟨w.heap.size, 0, none⟩)), upTree xa, UpP.is (.pointer (some ⟨w.heap.size, 10, none⟩)), upTree xb, upKids [xa, xb], upTree (twoE 2 xa xb), UpP.is (.agg #[.string ⟨#[104]⟩, .string ⟨#[47, 63, 97, 61, 98]⟩, .slice va fs.length vc]), UpP.is (.bool m), UpP.is (.bool false), UpP.is (.bool false), upTree (twoE 2 (oneE 3 xa) (oneE 3 xb)), UpP.is (.agg #[.string ⟨#[104]⟩, .string ⟨#[47, 63, 97, 61, 98]⟩, .slice va fs.length vc]), UpP.is (.bool (!r)), UpP.is (.pointer (some ⟨w.heap.size, 0, none⟩)), upTree xa, UpP.is (.pointer (some ⟨w.heap.size, 10, none⟩)), upTree xb, upKids [xa, xb], upTree (twoE 1 xa xb), UpP.is (.agg #[.string ⟨#[104]⟩, .string ⟨#[47, 63, 97, 61, 98]⟩, .slice va fs.length vc]), UpP.is (.bool r), UpP.is (.bool false), UpP.is (.bool false)] (by kernel_rfl) (by rfl) (by rfl) (by kernel_rfl) (by rfl) ⟨?o0, ?o1, ?o2, ?o3, ?o4, ?o5, ?o6, ?o7, ?o8, ?o9, ?o10, ?o11, ?o12, ?o13, ?o14, ?o15, ?o16, ?o17, ?o18, ?o19, ?o20, ?o21, ?o22, ?o23, ?o24, ?o25, trivial⟩ ?_
          case o0 =>
            intro a' w' hB hL hA
            refine up_yes rfl ?_
            have s9 := like_at hL 9 (by rfl) rfl
            obtain ⟨p0, p1, p2, p3, p4, p5, p6, p7, p8, p9⟩ := ten_cells (row_up28 HR9.out hB)
            go_simp
            exact ⟨_, rfl, Below.refl _ _, HT9.out.next hB⟩
          case o1 =>
            intro a' w' hB hL hA
            refine up_yes rfl ?_
            have s5 := like_at hL 5 (by rfl) rfl
            have hV := HB.out.trans (hB.mono HB.out.size)
            obtain ⟨e0', e1', e2'⟩ := row_three28 (row_up28 HR5.out hV)
            go_simp
            exact ⟨_, rfl, Below.refl _ _, rfl⟩
          case o2 =>
            intro a' w' hB hL hA
            refine up_yes rfl ?_
            obtain ⟨v0, e0, h0⟩ := up_pre hA 0 (by rfl)
            have e0 : a'.tmps[108]? = some _ := e0
            have h0 : ExAt (fun _ => True) w' (twoE 1 (oneE 3 xa) (oneE 3 xb)) v0 := h0
            obtain ⟨v1, e1, rfl⟩ := up_pre hA 1 (by rfl)
            have e1 : a'.tmps[109]? = some _ := e1
            have hV := HB.out.trans (hB.mono HB.out.size)
            go_simp
            refine (HIT.out _ _ HVorn.out _ va vc w' (HG.out.next hV) h0 (HF.out.below hV) HOorn.out).mono ?_
            rintro e w6 ⟨rfl, hb6⟩
            exact ⟨_, rfl, hb6, rfl⟩
          case o3 =>
            intro a' w' hB hL hA
            refine up_yes rfl ?_
            have s2 := like_at hL 2 (by rfl) rfl
            go_simp
            exact ⟨_, rfl, Below.refl _ _, rfl⟩
          case o4 =>
            intro a' w' hB hL hA
            refine up_yes rfl ?_
            obtain ⟨v3, e3, rfl⟩ := up_pre hA 3 (by rfl)
            have e3 : a'.tmps[111]? = some _ := e3
            have hV := HB.out.trans (hB.mono HB.out.size)
            obtain ⟨p0, p1, p2, p3, p4, p5, p6, p7, p8, p9⟩ := three_a (row_up28 HN.out hV)
            go_simp
            exact ⟨_, rfl, Below.refl _ _, HX0.out.next hV⟩
          case o5 =>
            intro a' w' hB hL hA
            refine up_yes rfl ?_
            have s2 := like_at hL 2 (by rfl) rfl
            go_simp
            exact ⟨_, rfl, Below.refl _ _, rfl⟩
          case o6 =>
            intro a' w' hB hL hA
            refine up_yes rfl ?_
            obtain ⟨v5, e5, rfl⟩ := up_pre hA 5 (by rfl)
            have e5 : a'.tmps[113]? = some _ := e5
            have hV := HB.out.trans (hB.mono HB.out.size)
            obtain ⟨p0, p1, p2, p3, p4, p5, p6, p7, p8, p9⟩ := three_b (row_up28 HN.out hV)
            go_simp
            exact ⟨_, rfl, Below.refl _ _, HX1.out.next hV⟩
          case o7 =>
            intro a' w' hB hL hA
            refine up_yes rfl ?_
            obtain ⟨v4, e4, h4⟩ := up_pre hA 4 (by rfl)
            have e4 : a'.tmps[112]? = some _ := e4
            have h4 : ExAt (fun _ => True) w' xa v4 := h4
            obtain ⟨k4, t4, u4, a4, n4, c4, rfl⟩ := h4.ten
            obtain ⟨v6, e6, h6⟩ := up_pre hA 6 (by rfl)
            have e6 : a'.tmps[114]? = some _ := e6
            have h6 : ExAt (fun _ => True) w' xb v6 := h6
            obtain ⟨k6, t6, u6, a6, n6, c6, rfl⟩ := h6.ten
            go_simp
            exact ⟨_, rfl, (Below.refl _ _).alloc (Nat.le_refl _) _, kids_of (exAt_two (A := (fun _ => True)) 3 h4 h6 trivial)⟩
          case o8 =>
            intro a' w' hB hL hA
            refine up_yes rfl ?_
            obtain ⟨v7, e7, h7⟩ := up_pre hA 7 (by rfl)
            have e7 : a'.tmps[115]? = some _ := e7
            have h7 : KidsAt (fun _ => True) w' [xa, xb] v7 := h7
            obtain ⟨a7, c7, rfl⟩ := kids_slice h7
            go_simp
            refine (law28_of 2 a7 2 c7 w').mono ?_
            rintro e w6 ⟨rfl, hb6⟩
            exact ⟨_, rfl, hb6, exAt_iff.2 ⟨_, rfl, kids_nextA h7 hb6⟩⟩
          case o9 =>
            intro a' w' hB hL hA
            refine up_yes rfl ?_
            have s5 := like_at hL 5 (by rfl) rfl
            have hV := HB.out.trans (hB.mono HB.out.size)
            obtain ⟨e0', e1', e2'⟩ := row_three28 (row_up28 HR5.out hV)
            go_simp
            exact ⟨_, rfl, Below.refl _ _, rfl⟩
          case o10 =>
            intro a' w' hB hL hA
            refine up_yes rfl ?_
            obtain ⟨v8, e8, h8⟩ := up_pre hA 8 (by rfl)
            have e8 : a'.tmps[116]? = some _ := e8
            have h8 : ExAt (fun _ => True) w' (twoE 2 xa xb) v8 := h8
            obtain ⟨v9, e9, rfl⟩ := up_pre hA 9 (by rfl)
            have e9 : a'.tmps[117]? = some _ := e9
            have hV := HB.out.trans (hB.mono HB.out.size)
            go_simp
            refine (HIT.out _ _ HVan.out _ va vc w' (HG.out.next hV) h8 (HF.out.below hV) HOan.out).mono ?_
            rintro e w6 ⟨rfl, hb6⟩
            exact ⟨_, rfl, hb6, rfl⟩
          case o11 =>
            intro a' w' hB hL hA
            refine up_yes rfl ?_
            obtain ⟨v2, e2, rfl⟩ := up_pre hA 2 (by rfl)
            have e2 : a'.tmps[110]? = some _ := e2
            obtain ⟨v10, e10, rfl⟩ := up_pre hA 10 (by rfl)
            have e10 : a'.tmps[118]? = some _ := e10
            go_simp
            first | exact ⟨_, rfl, Below.refl _ _, rfl⟩ | exact ⟨_, rfl, Below.refl _ _, (congrArg Value.bool (by cases m <;> cases r <;> rfl))⟩
          case o12 =>
            intro a' w' hB hL hA
            refine up_yes rfl ?_
            obtain ⟨v11, e11, rfl⟩ := up_pre hA 11 (by rfl)
            have e11 : a'.tmps[119]? = some _ := e11
            go_simp
            exact ⟨_, rfl, Below.refl _ _, rfl⟩
          case o13 =>
            intro a' w' hB hL hA
            obtain ⟨g0, ge, rfl⟩ := up_pre hA 12 (by rfl)
            have ge : a'.tmps[120]? = some _ := ge
            refine up_if rfl (up_yield rfl ge) ?_
            have s10 := like_at hL 10 (by rfl) rfl
            obtain ⟨p0, p1, p2, p3, p4, p5, p6, p7, p8, p9⟩ := ten_cells (row_up28 HR10.out hB)
            go_simp
            exact ⟨_, rfl, Below.refl _ _, HT10.out.next hB⟩
          case o14 =>
            intro a' w' hB hL hA
            obtain ⟨g0, ge, rfl⟩ := up_pre hA 12 (by rfl)
            have ge : a'.tmps[120]? = some _ := ge
            refine up_if rfl (up_yield rfl ge) ?_
            have s5 := like_at hL 5 (by rfl) rfl
            have hV := HB.out.trans (hB.mono HB.out.size)
            obtain ⟨e0', e1', e2'⟩ := row_three28 (row_up28 HR5.out hV)
            go_simp
            exact ⟨_, rfl, Below.refl _ _, rfl⟩
          case o15 =>
            intro a' w' hB hL hA
            obtain ⟨g0, ge, rfl⟩ := up_pre hA 12 (by rfl)
            have ge : a'.tmps[120]? = some _ := ge
            refine up_if rfl (up_yield rfl ge) ?_
            obtain ⟨v13, e13, h13⟩ := up_pre hA 13 (by rfl)
            have e13 : a'.tmps[121]? = some _ := e13
            have h13 : ExAt (fun _ => True) w' (twoE 2 (oneE 3 xa) (oneE 3 xb)) v13 := h13
            obtain ⟨v14, e14, rfl⟩ := up_pre hA 14 (by rfl)
            have e14 : a'.tmps[122]? = some _ := e14
            have hV := HB.out.trans (hB.mono HB.out.size)
            go_simp
            refine (HIT.out _ _ HVann.out _ va vc w' (HG.out.next hV) h13 (HF.out.below hV) HOann.out).mono ?_
            rintro e w6 ⟨rfl, hb6⟩
            exact ⟨_, rfl, hb6, rfl⟩
          case o16 =>
            intro a' w' hB hL hA
            obtain ⟨g0, ge, rfl⟩ := up_pre hA 12 (by rfl)
            have ge : a'.tmps[120]? = some _ := ge
            refine up_if rfl (up_yield rfl ge) ?_
            have s2 := like_at hL 2 (by rfl) rfl
            go_simp
            exact ⟨_, rfl, Below.refl _ _, rfl⟩
          case o17 =>
            intro a' w' hB hL hA
            obtain ⟨g0, ge, rfl⟩ := up_pre hA 12 (by rfl)
            have ge : a'.tmps[120]? = some _ := ge
            refine up_if rfl (up_yield rfl ge) ?_
            obtain ⟨v16, e16, rfl⟩ := up_pre hA 16 (by rfl)
            have e16 : a'.tmps[124]? = some _ := e16
            have hV := HB.out.trans (hB.mono HB.out.size)
            obtain ⟨p0, p1, p2, p3, p4, p5, p6, p7, p8, p9⟩ := three_a (row_up28 HN.out hV)
            go_simp
            exact ⟨_, rfl, Below.refl _ _, HX0.out.next hV⟩
          case o18 =>
            intro a' w' hB hL hA
            obtain ⟨g0, ge, rfl⟩ := up_pre hA 12 (by rfl)
            have ge : a'.tmps[120]? = some _ := ge
            refine up_if rfl (up_yield rfl ge) ?_
            have s2 := like_at hL 2 (by rfl) rfl
            go_simp
            exact ⟨_, rfl, Below.refl _ _, rfl⟩
          case o19 =>
            intro a' w' hB hL hA
            obtain ⟨g0, ge, rfl⟩ := up_pre hA 12 (by rfl)
            have ge : a'.tmps[120]? = some _ := ge
            refine up_if rfl (up_yield rfl ge) ?_
            obtain ⟨v18, e18, rfl⟩ := up_pre hA 18 (by rfl)
            have e18 : a'.tmps[126]? = some _ := e18
            have hV := HB.out.trans (hB.mono HB.out.size)
            obtain ⟨p0, p1, p2, p3, p4, p5, p6, p7, p8, p9⟩ := three_b (row_up28 HN.out hV)
            go_simp
            exact ⟨_, rfl, Below.refl _ _, HX1.out.next hV⟩
          case o20 =>
            intro a' w' hB hL hA
            obtain ⟨g0, ge, rfl⟩ := up_pre hA 12 (by rfl)
            have ge : a'.tmps[120]? = some _ := ge
            refine up_if rfl (up_yield rfl ge) ?_
            obtain ⟨v17, e17, h17⟩ := up_pre hA 17 (by rfl)
            have e17 : a'.tmps[125]? = some _ := e17
            have h17 : ExAt (fun _ => True) w' xa v17 := h17
            obtain ⟨k17, t17, u17, a17, n17, c17, rfl⟩ := h17.ten
            obtain ⟨v19, e19, h19⟩ := up_pre hA 19 (by rfl)
            have e19 : a'.tmps[127]? = some _ := e19
            have h19 : ExAt (fun _ => True) w' xb v19 := h19
            obtain ⟨k19, t19, u19, a19, n19, c19, rfl⟩ := h19.ten
            go_simp
            exact ⟨_, rfl, (Below.refl _ _).alloc (Nat.le_refl _) _, kids_of (exAt_two (A := (fun _ => True)) 3 h17 h19 trivial)⟩
          case o21 =>
            intro a' w' hB hL hA
            obtain ⟨g0, ge, rfl⟩ := up_pre hA 12 (by rfl)
            have ge : a'.tmps[120]? = some _ := ge
            refine up_if rfl (up_yield rfl ge) ?_
            obtain ⟨v20, e20, h20⟩ := up_pre hA 20 (by rfl)
            have e20 : a'.tmps[128]? = some _ := e20
            have h20 : KidsAt (fun _ => True) w' [xa, xb] v20 := h20
            obtain ⟨a20, c20, rfl⟩ := kids_slice h20
            go_simp
            refine (law28_of 1 a20 2 c20 w').mono ?_
            rintro e w6 ⟨rfl, hb6⟩
            exact ⟨_, rfl, hb6, exAt_iff.2 ⟨_, rfl, kids_nextA h20 hb6⟩⟩
          case o22 =>
            intro a' w' hB hL hA
            obtain ⟨g0, ge, rfl⟩ := up_pre hA 12 (by rfl)
            have ge : a'.tmps[120]? = some _ := ge
            refine up_if rfl (up_yield rfl ge) ?_
            have s5 := like_at hL 5 (by rfl) rfl
            have hV := HB.out.trans (hB.mono HB.out.size)
            obtain ⟨e0', e1', e2'⟩ := row_three28 (row_up28 HR5.out hV)
            go_simp
            exact ⟨_, rfl, Below.refl _ _, rfl⟩
          case o23 =>
            intro a' w' hB hL hA
            obtain ⟨g0, ge, rfl⟩ := up_pre hA 12 (by rfl)
            have ge : a'.tmps[120]? = some _ := ge
            refine up_if rfl (up_yield rfl ge) ?_
            obtain ⟨v21, e21, h21⟩ := up_pre hA 21 (by rfl)
            have e21 : a'.tmps[129]? = some _ := e21
            have h21 : ExAt (fun _ => True) w' (twoE 1 xa xb) v21 := h21
            obtain ⟨v22, e22, rfl⟩ := up_pre hA 22 (by rfl)
            have e22 : a'.tmps[130]? = some _ := e22
            have hV := HB.out.trans (hB.mono HB.out.size)
            go_simp
            refine (HIT.out _ _ HVor.out _ va vc w' (HG.out.next hV) h21 (HF.out.below hV) HOor.out).mono ?_
            rintro e w6 ⟨rfl, hb6⟩
            exact ⟨_, rfl, hb6, rfl⟩
          case o24 =>
            intro a' w' hB hL hA
            obtain ⟨g0, ge, rfl⟩ := up_pre hA 12 (by rfl)
            have ge : a'.tmps[120]? = some _ := ge
            refine up_if rfl (up_yield rfl ge) ?_
            obtain ⟨v15, e15, rfl⟩ := up_pre hA 15 (by rfl)
            have e15 : a'.tmps[123]? = some _ := e15
            obtain ⟨v23, e23, rfl⟩ := up_pre hA 23 (by rfl)
            have e23 : a'.tmps[131]? = some _ := e23
            go_simp
            first | exact ⟨_, rfl, Below.refl _ _, rfl⟩ | exact ⟨_, rfl, Below.refl _ _, (congrArg Value.bool (by cases m <;> cases r <;> rfl))⟩
          case o25 =>
            intro a' w' hB hL hA
            refine up_yes rfl ?_
            obtain ⟨v12, e12, rfl⟩ := up_pre hA 12 (by rfl)
            have e12 : a'.tmps[120]? = some _ := e12
            obtain ⟨v24, e24, rfl⟩ := up_pre hA 24 (by rfl)
            have e24 : a'.tmps[132]? = some _ := e24
            go_simp
            exact ⟨_, rfl, Below.refl _ _, rfl⟩
          intro f wr hB hf
          have f25 : f 25 = _ := hf 25 _ rfl
          have HBq := Lib.hid (HB.out.trans (hB.mono HB.out.size))
          clear hB hf HB HR9 HR10 HT9 HT10 HR8 HT8 HBX
          have HB := HBq
          clear HBq
          simp only [List.take_succ_cons, List.take_zero, List.drop_succ_cons, List.drop_nil, putFn, Act.put, tailWp]
          rw [f25]
          clear f25
          go_simp
          go_upto_region 11 with fail
          refine wp_region_new 14 [(UpP.is (.pointer (some ⟨w.heap.size, 0, none⟩))).g, upTreeG xa, (UpP.is (.pointer (some ⟨w.heap.size, 10, none⟩))).g, upTreeG xb, upKidsG [xa, xb], upTreeG (twoE 1 xa xb), (UpP.is (.pointer (some ⟨w.heap.size, 0, none⟩))).g, upTreeG xa, (UpP.is (.pointer (some ⟨w.heap.size, 20, none⟩))).g, upTreeG xc, upKidsG [xa, xc], upTreeG (twoE 1 xa xc), upBoxG, upBoxG] [false, false, false, false, false, false, false, false, false, false, false, false, true, true] (by kernel_rfl) (by rfl) (by rfl) (by kernel_rfl) (by rfl) ?hd ⟨?o0, ?o1, ?o2, ?o3, ?o4, ?o5, ?o6, ?o7, ?o8, ?o9, ?o10, ?o11, ?o12, ?o13, trivial⟩ ?_
          case hd =>
            exact fr_dst (by rfl)
          case o0 =>
            intro a' w' G hB hL hG hA
            refine up_yes rfl ?_
            have s2 := like_at hL 2 (by rfl) rfl
            go_simp
            exact ⟨_, rfl, Below.refl _ _, rfl⟩
          case o1 =>
            intro a' w' G hB hL hG hA
            refine up_yes rfl ?_
            obtain ⟨v0, e0, rfl⟩ := up_preG hA 0 (by rfl)
            have e0 : a'.tmps[134]? = some _ := e0
            have hV := HB.out.trans (hB.mono HB.out.size)
            obtain ⟨p0, p1, p2, p3, p4, p5, p6, p7, p8, p9⟩ := three_a (row_up28 HN.out hV)
            go_simp
            exact ⟨_, rfl, Below.refl _ _, (exAt_lo (A' := fun z => ¬ G z) (fun z hz _ hg => by have := (hG z hg).1; have := HB.out.size; omega) _ _ HX0.out).next hV⟩
          case o2 =>
            intro a' w' G hB hL hG hA
            refine up_yes rfl ?_
            have s2 := like_at hL 2 (by rfl) rfl
            go_simp
            exact ⟨_, rfl, Below.refl _ _, rfl⟩
          case o3 =>
            intro a' w' G hB hL hG hA
            refine up_yes rfl ?_
            obtain ⟨v2, e2, rfl⟩ := up_preG hA 2 (by rfl)
            have e2 : a'.tmps[136]? = some _ := e2
            have hV := HB.out.trans (hB.mono HB.out.size)
            obtain ⟨p0, p1, p2, p3, p4, p5, p6, p7, p8, p9⟩ := three_b (row_up28 HN.out hV)
            go_simp
            exact ⟨_, rfl, Below.refl _ _, (exAt_lo (A' := fun z => ¬ G z) (fun z hz _ hg => by have := (hG z hg).1; have := HB.out.size; omega) _ _ HX1.out).next hV⟩
          case o4 =>
            intro a' w' G hB hL hG hA
            refine up_yes rfl ?_
            obtain ⟨v1, e1, h1⟩ := up_preG hA 1 (by rfl)
            have e1 : a'.tmps[135]? = some _ := e1
            have h1 : ExAt (fun z => ¬ G z) w' xa v1 := h1
            obtain ⟨k1, t1, u1, a1, n1, c1, rfl⟩ := h1.ten
            obtain ⟨v3, e3, h3⟩ := up_preG hA 3 (by rfl)
            have e3 : a'.tmps[137]? = some _ := e3
            have h3 : ExAt (fun z => ¬ G z) w' xb v3 := h3
            obtain ⟨k3, t3, u3, a3, n3, c3, rfl⟩ := h3.ten
            go_simp
            exact ⟨_, rfl, (Below.refl _ _).alloc (Nat.le_refl _) _, kids_of (exAt_two (A := (fun z => ¬ G z)) 3 h1 h3 (fun hg => by have := (hG _ hg).2; omega))⟩
          case o5 =>
            intro a' w' G hB hL hG hA
            refine up_yes rfl ?_
            obtain ⟨v4, e4, h4⟩ := up_preG hA 4 (by rfl)
            have e4 : a'.tmps[138]? = some _ := e4
            have h4 : KidsAt (fun z => ¬ G z) w' [xa, xb] v4 := h4
            obtain ⟨a4, c4, rfl⟩ := kids_slice h4
            go_simp
            refine (law28_of 1 a4 2 c4 w').mono ?_
            rintro e w6 ⟨rfl, hb6⟩
            exact ⟨_, rfl, hb6, exAt_iff.2 ⟨_, rfl, kids_nextA h4 hb6⟩⟩
          case o6 =>
            intro a' w' G hB hL hG hA
            refine up_yes rfl ?_
            have s2 := like_at hL 2 (by rfl) rfl
            go_simp
            exact ⟨_, rfl, Below.refl _ _, rfl⟩
          case o7 =>
            intro a' w' G hB hL hG hA
            refine up_yes rfl ?_
            obtain ⟨v6, e6, rfl⟩ := up_preG hA 6 (by rfl)
            have e6 : a'.tmps[140]? = some _ := e6
            have hV := HB.out.trans (hB.mono HB.out.size)
            obtain ⟨p0, p1, p2, p3, p4, p5, p6, p7, p8, p9⟩ := three_a (row_up28 HN.out hV)
            go_simp
            exact ⟨_, rfl, Below.refl _ _, (exAt_lo (A' := fun z => ¬ G z) (fun z hz _ hg => by have := (hG z hg).1; have := HB.out.size; omega) _ _ HX0.out).next hV⟩
          case o8 =>
            intro a' w' G hB hL hG hA
            refine up_yes rfl ?_
            have s2 := like_at hL 2 (by rfl) rfl
            go_simp
            exact ⟨_, rfl, Below.refl _ _, rfl⟩
          case o9 =>
            intro a' w' G hB hL hG hA
            refine up_yes rfl ?_
            obtain ⟨v8, e8, rfl⟩ := up_preG hA 8 (by rfl)
            have e8 : a'.tmps[142]? = some _ := e8
            have hV := HB.out.trans (hB.mono HB.out.size)
            obtain ⟨p0, p1, p2, p3, p4, p5, p6, p7, p8, p9⟩ := three_c (row_up28 HN.out hV)
            go_simp
            exact ⟨_, rfl, Below.refl _ _, (exAt_lo (A' := fun z => ¬ G z) (fun z hz _ hg => by have := (hG z hg).1; have := HB.out.size; omega) _ _ HX2.out).next hV⟩
          case o10 =>
            intro a' w' G hB hL hG hA
            refine up_yes rfl ?_
            obtain ⟨v7, e7, h7⟩ := up_preG hA 7 (by rfl)
            have e7 : a'.tmps[141]? = some _ := e7
            have h7 : ExAt (fun z => ¬ G z) w' xa v7 := h7
            obtain ⟨k7, t7, u7, a7, n7, c7, rfl⟩ := h7.ten
            obtain ⟨v9, e9, h9⟩ := up_preG hA 9 (by rfl)
            have e9 : a'.tmps[143]? = some _ := e9
            have h9 : ExAt (fun z => ¬ G z) w' xc v9 := h9
            obtain ⟨k9, t9, u9, a9, n9, c9, rfl⟩ := h9.ten
            go_simp
            exact ⟨_, rfl, (Below.refl _ _).alloc (Nat.le_refl _) _, kids_of (exAt_two (A := (fun z => ¬ G z)) 3 h7 h9 (fun hg => by have := (hG _ hg).2; omega))⟩
          case o11 =>
            intro a' w' G hB hL hG hA
            refine up_yes rfl ?_
            obtain ⟨v10, e10, h10⟩ := up_preG hA 10 (by rfl)
            have e10 : a'.tmps[144]? = some _ := e10
            have h10 : KidsAt (fun z => ¬ G z) w' [xa, xc] v10 := h10
            obtain ⟨a10, c10, rfl⟩ := kids_slice h10
            go_simp
            refine (law28_of 1 a10 2 c10 w').mono ?_
            rintro e w6 ⟨rfl, hb6⟩
            exact ⟨_, rfl, hb6, exAt_iff.2 ⟨_, rfl, kids_nextA h10 hb6⟩⟩
          case o12 =>
            intro a' w' G hB hL hG hA
            refine up_yes rfl ?_
            go_simp
            exact ⟨_, rfl, (Below.refl _ _).alloc (Nat.le_refl _) _, ⟨w'.heap.size, rfl, Nat.le_refl _, (by first | exact Nat.lt_succ_self _ | (rw [World.size_alloc]; omega)), ⟨w'.heap.size, rfl, heap_alloc_new _ _⟩⟩⟩
          case o13 =>
            intro a' w' G hB hL hG hA
            refine up_yes rfl ?_
            go_simp
            exact ⟨_, rfl, (Below.refl _ _).alloc (Nat.le_refl _) _, ⟨w'.heap.size, rfl, Nat.le_refl _, (by first | exact Nat.lt_succ_self _ | (rw [World.size_alloc]; omega)), ⟨w'.heap.size, rfl, heap_alloc_new _ _⟩⟩⟩
          intro f B w' hB hlt hf hfp hfd
          have q14 := hf 12 upBoxG rfl
          have q15 := hf 13 upBoxG rfl
          have q6 := hf 5 (upTreeG (twoE 1 xa xb)) rfl
          have q13 := hf 11 (upTreeG (twoE 1 xa xc)) rfl
          have hbp := box_pair (Fr := [false, false, false, false, false, false, false, false, false, false, false, false, true, true]) (B := B) (f := f) (w' := w') (i := 12) (j := 13) (T := 27) rfl rfl (by decide)
          have hbp2 := hbp q14 q15
          have hbp3 := hbp2 hfp hfd
          have e14 := hbp3.1
          have e15 := hbp3.2.1
          have hne := hbp3.2.2.1
          have z14 := hbp3.2.2.2.1
          have z15 := hbp3.2.2.2.2.1
          have hcv := hbp3.2.2.2.2.2
          clear hbp hbp2 hbp3 q14 q15
          have T9 := hcv (twoE 1 xa xb) (f 5) q6
          have T10 := hcv (twoE 1 xa xc) (f 11) q13
          have h9 := T9.ten
          have h10 := T10.ten
          with_reducible refine @ten_elim (f 5) _ h9 ?_
          intro k9 t9 u9 a9 n9 c9 e6
          with_reducible refine @ten_elim (f 11) _ h10 ?_
          intro k10 t10 u10 a10 n10 c10 e13
          rw [e6] at T9
          rw [e13] at T10
          have l9 := (hlt (B 12) ⟨12, rfl, rfl⟩).1
          have l10 := (hlt (B 13) ⟨13, rfl, rfl⟩).1
          clear hf hfp hfd hlt hcv q6 q13 h9 h10
          simp only [List.take_succ_cons, List.take_zero, List.drop_succ_cons, putFn, Act.put]
          rw [e14, e15, e6, e13]
          clear e6 e13 e14 e15
          generalize B 12 = b11 at *
          generalize B 13 = b12 at *
          have HP := Lib.hid (two_set (k1 := k9) (t1 := t9) (u1 := u9) (kv1 := .slice a9 n9 c9) (k2 := k10) (t2 := t10) (u2 := u10) (kv2 := .slice a10 n10 c10) l9 l10 hne hB z14 z15)
          have HT11 := Lib.hid T9
          have HT12 := Lib.hid T10
          have z15' := ((setTen_turn w' b11 k9 t9 u9 (.slice a9 n9 c9)).block b12 (Array.getElem?_eq_some_iff.1 z15).1 (by intro e; exact hne (Option.some.inj e).symm)).trans z15
          have HZ := Lib.hid (And.intro z14 z15')
          have HZ0 := Lib.hid z15
          have HNE := Lib.hid hne
          have HLL := Lib.hid (And.intro l9 (And.intro l10 hne))
          clear T9 T10 z14 z15 z15' l9 l10 hne
          simp only [List.drop_zero, tailWp]
          with_reducible refine up_yes rfl ?_
          have P := ten_live HZ.out.1
          have p0 := P.1
          have p1 := P.2.1
          have p2 := P.2.2.1
          have p3 := P.2.2.2.1
          have p4 := P.2.2.2.2.1
          have p5 := P.2.2.2.2.2.1
          have p6 := P.2.2.2.2.2.2.1
          have p7 := P.2.2.2.2.2.2.2.1
          have p8 := P.2.2.2.2.2.2.2.2.1
          have p9 := P.2.2.2.2.2.2.2.2.2
          clear P
          have Q := ten_frozen HZ.out.1
          have g0 := Q.1
          have g1 := Q.2.1
          have g2 := Q.2.2.1
          have g3 := Q.2.2.2.1
          have g4 := Q.2.2.2.2.1
          have g5 := Q.2.2.2.2.2.1
          have g6 := Q.2.2.2.2.2.2.1
          have g7 := Q.2.2.2.2.2.2.2.1
          have g8 := Q.2.2.2.2.2.2.2.2.1
          have g9 := Q.2.2.2.2.2.2.2.2.2
          clear Q
          go_simp
          clear p0 g0 p1 g1 p2 g2 p3 g3 p4 g4 p5 g5 p6 g6 p7 g7 p8 g8 p9 g9
          have P := ten_live HZ.out.2
          have p0 := P.1
          have p1 := P.2.1
          have p2 := P.2.2.1
          have p3 := P.2.2.2.1
          have p4 := P.2.2.2.2.1
          have p5 := P.2.2.2.2.2.1
          have p6 := P.2.2.2.2.2.2.1
          have p7 := P.2.2.2.2.2.2.2.1
          have p8 := P.2.2.2.2.2.2.2.2.1
          have p9 := P.2.2.2.2.2.2.2.2.2
          clear P
          have Q := ten_frozen HZ.out.2
          have g0 := Q.1
          have g1 := Q.2.1
          have g2 := Q.2.2.1
          have g3 := Q.2.2.2.1
          have g4 := Q.2.2.2.2.1
          have g5 := Q.2.2.2.2.2.1
          have g6 := Q.2.2.2.2.2.2.1
          have g7 := Q.2.2.2.2.2.2.2.1
          have g8 := Q.2.2.2.2.2.2.2.2.1
          have g9 := Q.2.2.2.2.2.2.2.2.2
          clear Q
          have P := ten_live HZ0.out
          have r0 := P.1
          have r1 := P.2.1
          have r2 := P.2.2.1
          have r3 := P.2.2.2.1
          have r4 := P.2.2.2.2.1
          have r5 := P.2.2.2.2.2.1
          have r6 := P.2.2.2.2.2.2.1
          have r7 := P.2.2.2.2.2.2.2.1
          have r8 := P.2.2.2.2.2.2.2.2.1
          have r9 := P.2.2.2.2.2.2.2.2.2
          clear P
          have Q := ten_frozen HZ0.out
          have s0 := Q.1
          have s1 := Q.2.1
          have s2 := Q.2.2.1
          have s3 := Q.2.2.2.1
          have s4 := Q.2.2.2.2.1
          have s5 := Q.2.2.2.2.2.1
          have s6 := Q.2.2.2.2.2.2.1
          have s7 := Q.2.2.2.2.2.2.2.1
          have s8 := Q.2.2.2.2.2.2.2.2.1
          have s9 := Q.2.2.2.2.2.2.2.2.2
          clear Q
          dsimp only [setTen] at p0 p1 p2 p3 p4 p5 p6 p7 p8 p9 g0 g1 g2 g3 g4 g5 g6 g7 g8 g9
          have hn1 : ¬ b11 = b12 := HNE.out
          have hn2 : ¬ b12 = b11 := fun e => HNE.out e.symm
          go_simp
          clear hn1 hn2 HNE
          clear p0 g0 r0 s0 p1 g1 r1 s1 p2 g2 r2 s2 p3 g3 r3 s3 p4 g4 r4 s4 p5 g5 r5 s5 p6 g6 r6 s6 p7 g7 r7 s7 p8 g8 r8 s8 p9 g9 r9 s9
          clear HZ HZ0
          have HTa := Lib.hid (HP.out.2.2.2.1 _ _ _ HT11.out (fun h => h.1 rfl) (fun h => h.2 rfl)).any
          have HTb := Lib.hid (HP.out.2.2.2.1 _ _ _ HT12.out (fun h => h.1 rfl) (fun h => h.2 rfl)).any
          have HRa := Lib.hid HP.out.1
          have HRb := Lib.hid HP.out.2.1
          have HBa := Lib.hid HP.out.2.2.1
          clear HT11 HT12 HP
          dsimp only [setTen] at HTa HTb HRa HRb HBa
          generalize hW : World.setCell _ (⟨b12, 9, none⟩ : Addr) _ = W11 at *
          clear hW
          have HT11 := HTa
          have HT12 := HTb
          clear HTa HTb
          have HBq := Lib.hid (HB.out.trans (HBa.out.mono HB.out.size))
          have HR11 := HRa
          have HR12 := HRb
          have HBX := Lib.hid (show V.heap.size ≤ b11 ∧ V.heap.size ≤ b12 ∧ b11 < W11.heap.size ∧ b12 < W11.heap.size ∧ b11 ≠ b12 from ⟨Nat.le_trans HB.out.size HLL.out.1, Nat.le_trans HB.out.size HLL.out.2.1, (Array.getElem?_eq_some_iff.1 HRa.out).1, (Array.getElem?_eq_some_iff.1 HRb.out).1, HLL.out.2.2⟩)
          clear HB HBa HRa HRb HLL hB
          have HB := HBq
          clear HBq
          go_upto_region 12 with fail
          obtain ⟨k, hk⟩ : ∃ k, (askE (vT fs) xa).2 = k := ⟨_, rfl⟩
          have HKA := Lib.hid hk
          clear hk
          rcases a with _ | _
          · skip
            go_upto_region 13 with fail
            refine wp_region_tail 12 [UpP.is (.pointer (some ⟨w.heap.size, 0, none⟩)), upTreeN b11 b12 xa, UpP.is (.pointer (some ⟨w.heap.size, 10, none⟩)), upTreeN b11 b12 xb, upKidsN b11 b12 [xa, xb], upTreeN b11 b12 (twoE 2 xa xb), UpP.is (.pointer (some ⟨w.heap.size, 0, none⟩)), upTreeN b11 b12 xa, UpP.is (.pointer (some ⟨w.heap.size, 20, none⟩)), upTreeN b11 b12 xc, upKidsN b11 b12 [xa, xc], upTreeN b11 b12 (twoE 2 xa xc)] (by kernel_rfl) (by rfl) (by rfl) (by kernel_rfl) (by rfl) ⟨?o0, ?o1, ?o2, ?o3, ?o4, ?o5, ?o6, ?o7, ?o8, ?o9, ?o10, ?o11, trivial⟩ ?_
            case o0 =>
              intro a' w' hB hL hA
              refine up_yes rfl ?_
              have s2 := like_at hL 2 (by rfl) rfl
              go_simp
              exact ⟨_, rfl, Below.refl _ _, rfl⟩
            case o1 =>
              intro a' w' hB hL hA
              refine up_yes rfl ?_
              obtain ⟨v0, e0, rfl⟩ := up_pre hA 0 (by rfl)
              have e0 : a'.tmps[148]? = some _ := e0
              have hV := HB.out.trans (hB.mono HB.out.size)
              obtain ⟨p0, p1, p2, p3, p4, p5, p6, p7, p8, p9⟩ := three_a (row_up28 HN.out hV)
              go_simp
              exact ⟨_, rfl, Below.refl _ _, (exAt_lo (A' := fun z => z ≠ b11 ∧ z ≠ b12) (fun z hz _ => by have := HBX.out; exact ⟨by omega, by omega⟩) _ _ HX0.out).next hV⟩
            case o2 =>
              intro a' w' hB hL hA
              refine up_yes rfl ?_
              have s2 := like_at hL 2 (by rfl) rfl
              go_simp
              exact ⟨_, rfl, Below.refl _ _, rfl⟩
            case o3 =>
              intro a' w' hB hL hA
              refine up_yes rfl ?_
              obtain ⟨v2, e2, rfl⟩ := up_pre hA 2 (by rfl)
              have e2 : a'.tmps[150]? = some _ := e2
              have hV := HB.out.trans (hB.mono HB.out.size)
              obtain ⟨p0, p1, p2, p3, p4, p5, p6, p7, p8, p9⟩ := three_b (row_up28 HN.out hV)
              go_simp
              exact ⟨_, rfl, Below.refl _ _, (exAt_lo (A' := fun z => z ≠ b11 ∧ z ≠ b12) (fun z hz _ => by have := HBX.out; exact ⟨by omega, by omega⟩) _ _ HX1.out).next hV⟩
            case o4 =>
              intro a' w' hB hL hA
              refine up_yes rfl ?_
              obtain ⟨v1, e1, h1⟩ := up_pre hA 1 (by rfl)
              have e1 : a'.tmps[149]? = some _ := e1
              have h1 : ExAt (fun z => z ≠ b11 ∧ z ≠ b12) w' xa v1 := h1
              obtain ⟨k1, t1, u1, a1, n1, c1, rfl⟩ := h1.ten
              obtain ⟨v3, e3, h3⟩ := up_pre hA 3 (by rfl)
              have e3 : a'.tmps[151]? = some _ := e3
              have h3 : ExAt (fun z => z ≠ b11 ∧ z ≠ b12) w' xb v3 := h3
              obtain ⟨k3, t3, u3, a3, n3, c3, rfl⟩ := h3.ten
              go_simp
              exact ⟨_, rfl, (Below.refl _ _).alloc (Nat.le_refl _) _, kids_of (exAt_two (A := (fun z => z ≠ b11 ∧ z ≠ b12)) 3 h1 h3 (by have := HBX.out; have := hB.size; exact ⟨by omega, by omega⟩))⟩
            case o5 =>
              intro a' w' hB hL hA
              refine up_yes rfl ?_
              obtain ⟨v4, e4, h4⟩ := up_pre hA 4 (by rfl)
              have e4 : a'.tmps[152]? = some _ := e4
              have h4 : KidsAt (fun z => z ≠ b11 ∧ z ≠ b12) w' [xa, xb] v4 := h4
              obtain ⟨a4, c4, rfl⟩ := kids_slice h4
              go_simp
              refine (law28_of 2 a4 2 c4 w').mono ?_
              rintro e w6 ⟨rfl, hb6⟩
              exact ⟨_, rfl, hb6, exAt_iff.2 ⟨_, rfl, kids_nextA h4 hb6⟩⟩
            case o6 =>
              intro a' w' hB hL hA
              refine up_yes rfl ?_
              have s2 := like_at hL 2 (by rfl) rfl
              go_simp
              exact ⟨_, rfl, Below.refl _ _, rfl⟩
            case o7 =>
              intro a' w' hB hL hA
              refine up_yes rfl ?_
              obtain ⟨v6, e6, rfl⟩ := up_pre hA 6 (by rfl)
              have e6 : a'.tmps[154]? = some _ := e6
              have hV := HB.out.trans (hB.mono HB.out.size)
              obtain ⟨p0, p1, p2, p3, p4, p5, p6, p7, p8, p9⟩ := three_a (row_up28 HN.out hV)
              go_simp
              exact ⟨_, rfl, Below.refl _ _, (exAt_lo (A' := fun z => z ≠ b11 ∧ z ≠ b12) (fun z hz _ => by have := HBX.out; exact ⟨by omega, by omega⟩) _ _ HX0.out).next hV⟩
            case o8 =>
              intro a' w' hB hL hA
              refine up_yes rfl ?_
              have s2 := like_at hL 2 (by rfl) rfl
              go_simp
              exact ⟨_, rfl, Below.refl _ _, rfl⟩
            case o9 =>
              intro a' w' hB hL hA
              refine up_yes rfl ?_
              obtain ⟨v8, e8, rfl⟩ := up_pre hA 8 (by rfl)
              have e8 : a'.tmps[156]? = some _ := e8
              have hV := HB.out.trans (hB.mono HB.out.size)
              obtain ⟨p0, p1, p2, p3, p4, p5, p6, p7, p8, p9⟩ := three_c (row_up28 HN.out hV)
              go_simp
              exact ⟨_, rfl, Below.refl _ _, (exAt_lo (A' := fun z => z ≠ b11 ∧ z ≠ b12) (fun z hz _ => by have := HBX.out; exact ⟨by omega, by omega⟩) _ _ HX2.out).next hV⟩
            case o10 =>
              intro a' w' hB hL hA
              refine up_yes rfl ?_
              obtain ⟨v7, e7, h7⟩ := up_pre hA 7 (by rfl)
              have e7 : a'.tmps[155]? = some _ := e7
              have h7 : ExAt (fun z => z ≠ b11 ∧ z ≠ b12) w' xa v7 := h7
              obtain ⟨k7, t7, u7, a7, n7, c7, rfl⟩ := h7.ten
              obtain ⟨v9, e9, h9⟩ := up_pre hA 9 (by rfl)
              have e9 : a'.tmps[157]? = some _ := e9
              have h9 : ExAt (fun z => z ≠ b11 ∧ z ≠ b12) w' xc v9 := h9
              obtain ⟨k9, t9, u9, a9, n9, c9, rfl⟩ := h9.ten
              go_simp
              exact ⟨_, rfl, (Below.refl _ _).alloc (Nat.le_refl _) _, kids_of (exAt_two (A := (fun z => z ≠ b11 ∧ z ≠ b12)) 3 h7 h9 (by have := HBX.out; have := hB.size; exact ⟨by omega, by omega⟩))⟩
            case o11 =>
              intro a' w' hB hL hA
              refine up_yes rfl ?_
              obtain ⟨v10, e10, h10⟩ := up_pre hA 10 (by rfl)
              have e10 : a'.tmps[158]? = some _ := e10
              have h10 : KidsAt (fun z => z ≠ b11 ∧ z ≠ b12) w' [xa, xc] v10 := h10
              obtain ⟨a10, c10, rfl⟩ := kids_slice h10
              go_simp
              refine (law28_of 2 a10 2 c10 w').mono ?_
              rintro e w6 ⟨rfl, hb6⟩
              exact ⟨_, rfl, hb6, exAt_iff.2 ⟨_, rfl, kids_nextA h10 hb6⟩⟩
            intro f w' hB hf
            have T9 := hf 5 (upTreeN b11 b12 (twoE 2 xa xb)) rfl
            have T10 := hf 11 (upTreeN b11 b12 (twoE 2 xa xc)) rfl
            have T9 : ExAt (fun z => z ≠ b11 ∧ z ≠ b12) w' (twoE 2 xa xb) (f 5) := T9
            have T10 : ExAt (fun z => z ≠ b11 ∧ z ≠ b12) w' (twoE 2 xa xc) (f 11) := T10
            have h9 := T9.ten
            have h10 := T10.ten
            with_reducible refine @ten_elim (f 5) _ h9 ?_
            intro k9 t9 u9 a9 n9 c9 e6
            with_reducible refine @ten_elim (f 11) _ h10 ?_
            intro k10 t10 u10 a10 n10 c10 e13
            rw [e6] at T9
            rw [e13] at T10
            have z14 := row_up28 HR11.out hB
            have z15 := row_up28 HR12.out hB
            have hBV := HB.out.trans (hB.mono HB.out.size)
            clear hf h9 h10
            simp only [List.take_succ_cons, List.take_zero, List.drop_succ_cons, putFn, Act.put]
            rw [e6, e13]
            clear e6 e13
            have HP := Lib.hid (two_set (k1 := k9) (t1 := t9) (u1 := u9) (kv1 := .slice a9 n9 c9) (k2 := k10) (t2 := t10) (u2 := u10) (kv2 := .slice a10 n10 c10) HBX.out.1 HBX.out.2.1 HBX.out.2.2.2.2 hBV z14 z15)
            clear HT11 HT12 HR11 HR12
            have HT11 := Lib.hid T9
            have HT12 := Lib.hid T10
            have z15' := ((setTen_turn w' b11 k9 t9 u9 (.slice a9 n9 c9)).block b12 (Array.getElem?_eq_some_iff.1 z15).1 (by intro e; exact HBX.out.2.2.2.2 (Option.some.inj e).symm)).trans z15
            have HZ := Lib.hid (And.intro z14 z15')
            have HZ0 := Lib.hid z15
            have HNE := Lib.hid HBX.out.2.2.2.2
            clear T9 T10 z14 z15 z15' hBV
            simp only [List.drop_zero, tailWp]
            with_reducible refine up_yes rfl ?_
            have P := ten_live HZ.out.1
            have p0 := P.1
            have p1 := P.2.1
            have p2 := P.2.2.1
            have p3 := P.2.2.2.1
            have p4 := P.2.2.2.2.1
            have p5 := P.2.2.2.2.2.1
            have p6 := P.2.2.2.2.2.2.1
            have p7 := P.2.2.2.2.2.2.2.1
            have p8 := P.2.2.2.2.2.2.2.2.1
            have p9 := P.2.2.2.2.2.2.2.2.2
            clear P
            have Q := ten_frozen HZ.out.1
            have g0 := Q.1
            have g1 := Q.2.1
            have g2 := Q.2.2.1
            have g3 := Q.2.2.2.1
            have g4 := Q.2.2.2.2.1
            have g5 := Q.2.2.2.2.2.1
            have g6 := Q.2.2.2.2.2.2.1
            have g7 := Q.2.2.2.2.2.2.2.1
            have g8 := Q.2.2.2.2.2.2.2.2.1
            have g9 := Q.2.2.2.2.2.2.2.2.2
            clear Q
            go_simp
            clear p0 g0 p1 g1 p2 g2 p3 g3 p4 g4 p5 g5 p6 g6 p7 g7 p8 g8 p9 g9
            have P := ten_live HZ.out.2
            have p0 := P.1
            have p1 := P.2.1
            have p2 := P.2.2.1
            have p3 := P.2.2.2.1
            have p4 := P.2.2.2.2.1
            have p5 := P.2.2.2.2.2.1
            have p6 := P.2.2.2.2.2.2.1
            have p7 := P.2.2.2.2.2.2.2.1
            have p8 := P.2.2.2.2.2.2.2.2.1
            have p9 := P.2.2.2.2.2.2.2.2.2
            clear P
            have Q := ten_frozen HZ.out.2
            have g0 := Q.1
            have g1 := Q.2.1
            have g2 := Q.2.2.1
            have g3 := Q.2.2.2.1
            have g4 := Q.2.2.2.2.1
            have g5 := Q.2.2.2.2.2.1
            have g6 := Q.2.2.2.2.2.2.1
            have g7 := Q.2.2.2.2.2.2.2.1
            have g8 := Q.2.2.2.2.2.2.2.2.1
            have g9 := Q.2.2.2.2.2.2.2.2.2
            clear Q
            have P := ten_live HZ0.out
            have r0 := P.1
            have r1 := P.2.1
            have r2 := P.2.2.1
            have r3 := P.2.2.2.1
            have r4 := P.2.2.2.2.1
            have r5 := P.2.2.2.2.2.1
            have r6 := P.2.2.2.2.2.2.1
            have r7 := P.2.2.2.2.2.2.2.1
            have r8 := P.2.2.2.2.2.2.2.2.1
            have r9 := P.2.2.2.2.2.2.2.2.2
            clear P
            have Q := ten_frozen HZ0.out
            have s0 := Q.1
            have s1 := Q.2.1
            have s2 := Q.2.2.1
            have s3 := Q.2.2.2.1
            have s4 := Q.2.2.2.2.1
            have s5 := Q.2.2.2.2.2.1
            have s6 := Q.2.2.2.2.2.2.1
            have s7 := Q.2.2.2.2.2.2.2.1
            have s8 := Q.2.2.2.2.2.2.2.2.1
            have s9 := Q.2.2.2.2.2.2.2.2.2
            clear Q
            dsimp only [setTen] at p0 p1 p2 p3 p4 p5 p6 p7 p8 p9 g0 g1 g2 g3 g4 g5 g6 g7 g8 g9
            have hn1 : ¬ b11 = b12 := HNE.out
            have hn2 : ¬ b12 = b11 := fun e => HNE.out e.symm
            go_simp
            clear hn1 hn2 HNE
            clear p0 g0 r0 s0 p1 g1 r1 s1 p2 g2 r2 s2 p3 g3 r3 s3 p4 g4 r4 s4 p5 g5 r5 s5 p6 g6 r6 s6 p7 g7 r7 s7 p8 g8 r8 s8 p9 g9 r9 s9
            clear HZ HZ0
            have HTa := Lib.hid (HP.out.2.2.2.1 _ _ _ HT11.out (fun h => h.1 rfl) (fun h => h.2 rfl)).any
            have HTb := Lib.hid (HP.out.2.2.2.1 _ _ _ HT12.out (fun h => h.1 rfl) (fun h => h.2 rfl)).any
            have HRa := Lib.hid HP.out.1
            have HRb := Lib.hid HP.out.2.1
            have HBa := Lib.hid HP.out.2.2.1
            clear HT11 HT12 HP
            dsimp only [setTen] at HTa HTb HRa HRb HBa
            generalize hW : World.setCell _ (⟨b12, 9, none⟩ : Addr) _ = W13 at *
            clear hW
            have HT11 := HTa
            have HT12 := HTb
            clear HTa HTb
            clear HB hB
            have HB := HBa
            have HR11 := HRa
            have HR12 := HRb
            clear HBa HRa HRb
            have HI1 := Lib.hid (show isB (vT fs) (twoE 2 xa xb) = false by rw [isB_and, HVa.out]; rfl)
            have HI2 := Lib.hid (show isB (vT fs) (twoE 2 xa xc) = false by rw [isB_and, HVa.out]; rfl)
            have HJ1 := Lib.hid (show (askE (vT fs) (twoE 2 xa xb)).2 = k from (asked_and _ _ _ HVa.out).trans HKA.out)
            have HJ2 := Lib.hid (show (askE (vT fs) (twoE 2 xa xc)).2 = k from (asked_and _ _ _ HVa.out).trans HKA.out)
            go_upto_region 14 with fail
            refine wp_region_tail 34 [upTree (twoE 2 xa xb), UpP.is (.agg #[.string ⟨#[104]⟩, .string ⟨#[47, 63, 97, 61, 98]⟩, .slice va fs.length vc]), UpP.is (.bool false), upTree (twoE 2 xa xc), UpP.is (.agg #[.string ⟨#[104]⟩, .string ⟨#[47, 63, 97, 61, 98]⟩, .slice va fs.length vc]), UpP.is (.bool false), UpP.is (.bool true), UpP.is (.bool true), upTree (twoE 2 xa xb), UpP.is (.agg #[.string ⟨#[104]⟩, .string ⟨#[47, 63, 97, 61, 98]⟩, .slice va fs.length vc]), upLen k, UpP.is (.int .i64 (k : Int)), upTree (twoE 2 xa xc), UpP.is (.agg #[.string ⟨#[104]⟩, .string ⟨#[47, 63, 97, 61, 98]⟩, .slice va fs.length vc]), upLen k, UpP.is (.int .i64 (k : Int)), UpP.is (.bool true), UpP.is (.bool true), UpP.is (.bool true), upTree (twoE 2 xa xb), UpP.is (.agg #[.string ⟨#[104]⟩, .string ⟨#[47, 63, 97, 61, 98]⟩, .slice va fs.length vc]), upLen k, UpP.is (.int .i64 (k : Int)), UpP.is (.pointer (some ⟨w.heap.size, 0, none⟩)), upTree xa, UpP.is (.agg #[.string ⟨#[104]⟩, .string ⟨#[47, 63, 97, 61, 98]⟩, .slice va fs.length vc]), upLen k, UpP.is (.int .i64 (k : Int)), UpP.is (.bool true), UpP.is (.bool true), UpP.is (.bool true), UpP.is (.bool true), UpP.is (.bool true), UpP.is (.bool true)] (by kernel_rfl) (by rfl) (by rfl) (by kernel_rfl) (by rfl) ⟨?o0, ?o1, ?o2, ?o3, ?o4, ?o5, ?o6, ?o7, ?o8, ?o9, ?o10, ?o11, ?o12, ?o13, ?o14, ?o15, ?o16, ?o17, ?o18, ?o19, ?o20, ?o21, ?o22, ?o23, ?o24, ?o25, ?o26, ?o27, ?o28, ?o29, ?o30, ?o31, ?o32, ?o33, trivial⟩ ?_
            case o0 =>
              intro a' w' hB hL hA
              refine up_yes rfl ?_
              have s11 := like_at hL 11 (by rfl) rfl
              obtain ⟨p0, p1, p2, p3, p4, p5, p6, p7, p8, p9⟩ := ten_cells (row_up28 HR11.out hB)
              go_simp
              exact ⟨_, rfl, Below.refl _ _, HT11.out.next hB⟩
            case o1 =>
              intro a' w' hB hL hA
              refine up_yes rfl ?_
              have s5 := like_at hL 5 (by rfl) rfl
              have hV := HB.out.trans (hB.mono HB.out.size)
              obtain ⟨e0', e1', e2'⟩ := row_three28 (row_up28 HR5.out hV)
              go_simp
              exact ⟨_, rfl, Below.refl _ _, rfl⟩
            case o2 =>
              intro a' w' hB hL hA
              refine up_yes rfl ?_
              obtain ⟨v0, e0, h0⟩ := up_pre hA 0 (by rfl)
              have e0 : a'.tmps[160]? = some _ := e0
              have h0 : ExAt (fun _ => True) w' (twoE 2 xa xb) v0 := h0
              obtain ⟨v1, e1, rfl⟩ := up_pre hA 1 (by rfl)
              have e1 : a'.tmps[161]? = some _ := e1
              have hV := HB.out.trans (hB.mono HB.out.size)
              go_simp
              refine (HIT.out _ _ HI1.out _ va vc w' (HG.out.next hV) h0 (HF.out.below hV) HOan.out).mono ?_
              rintro e w6 ⟨rfl, hb6⟩
              exact ⟨_, rfl, hb6, rfl⟩
            case o3 =>
              intro a' w' hB hL hA
              refine up_yes rfl ?_
              have s12 := like_at hL 12 (by rfl) rfl
              obtain ⟨p0, p1, p2, p3, p4, p5, p6, p7, p8, p9⟩ := ten_cells (row_up28 HR12.out hB)
              go_simp
              exact ⟨_, rfl, Below.refl _ _, HT12.out.next hB⟩
            case o4 =>
              intro a' w' hB hL hA
              refine up_yes rfl ?_
              have s5 := like_at hL 5 (by rfl) rfl
              have hV := HB.out.trans (hB.mono HB.out.size)
              obtain ⟨e0', e1', e2'⟩ := row_three28 (row_up28 HR5.out hV)
              go_simp
              exact ⟨_, rfl, Below.refl _ _, rfl⟩
            case o5 =>
              intro a' w' hB hL hA
              refine up_yes rfl ?_
              obtain ⟨v3, e3, h3⟩ := up_pre hA 3 (by rfl)
              have e3 : a'.tmps[163]? = some _ := e3
              have h3 : ExAt (fun _ => True) w' (twoE 2 xa xc) v3 := h3
              obtain ⟨v4, e4, rfl⟩ := up_pre hA 4 (by rfl)
              have e4 : a'.tmps[164]? = some _ := e4
              have hV := HB.out.trans (hB.mono HB.out.size)
              go_simp
              refine (HIT.out _ _ HI2.out _ va vc w' (HG.out.next hV) h3 (HF.out.below hV) HOanc.out).mono ?_
              rintro e w6 ⟨rfl, hb6⟩
              exact ⟨_, rfl, hb6, rfl⟩
            case o6 =>
              intro a' w' hB hL hA
              refine up_yes rfl ?_
              obtain ⟨v2, e2, rfl⟩ := up_pre hA 2 (by rfl)
              have e2 : a'.tmps[162]? = some _ := e2
              obtain ⟨v5, e5, rfl⟩ := up_pre hA 5 (by rfl)
              have e5 : a'.tmps[165]? = some _ := e5
              go_simp
              exact ⟨_, rfl, Below.refl _ _, rfl⟩
            case o7 =>
              intro a' w' hB hL hA
              refine up_yes rfl ?_
              obtain ⟨v6, e6, rfl⟩ := up_pre hA 6 (by rfl)
              have e6 : a'.tmps[166]? = some _ := e6
              go_simp
              exact ⟨_, rfl, Below.refl _ _, rfl⟩
            case o8 =>
              intro a' w' hB hL hA
              obtain ⟨g0, ge, rfl⟩ := up_pre hA 7 (by rfl)
              have ge : a'.tmps[167]? = some _ := ge
              refine up_if rfl (up_yield rfl ge) ?_
              have s11 := like_at hL 11 (by rfl) rfl
              obtain ⟨p0, p1, p2, p3, p4, p5, p6, p7, p8, p9⟩ := ten_cells (row_up28 HR11.out hB)
              go_simp
              exact ⟨_, rfl, Below.refl _ _, HT11.out.next hB⟩
            case o9 =>
              intro a' w' hB hL hA
              obtain ⟨g0, ge, rfl⟩ := up_pre hA 7 (by rfl)
              have ge : a'.tmps[167]? = some _ := ge
              refine up_if rfl (up_yield rfl ge) ?_
              have s5 := like_at hL 5 (by rfl) rfl
              have hV := HB.out.trans (hB.mono HB.out.size)
              obtain ⟨e0', e1', e2'⟩ := row_three28 (row_up28 HR5.out hV)
              go_simp
              exact ⟨_, rfl, Below.refl _ _, rfl⟩
            case o10 =>
              intro a' w' hB hL hA
              obtain ⟨g0, ge, rfl⟩ := up_pre hA 7 (by rfl)
              have ge : a'.tmps[167]? = some _ := ge
              refine up_if rfl (up_yield rfl ge) ?_
              obtain ⟨v8, e8, h8⟩ := up_pre hA 8 (by rfl)
              have e8 : a'.tmps[168]? = some _ := e8
              have h8 : ExAt (fun _ => True) w' (twoE 2 xa xb) v8 := h8
              obtain ⟨v9, e9, rfl⟩ := up_pre hA 9 (by rfl)
              have e9 : a'.tmps[169]? = some _ := e9
              have hV := HB.out.trans (hB.mono HB.out.size)
              go_simp
              refine (HAT.out _ _ HJ1.out _ va vc w' (HG.out.next hV) h8 (HF.out.below hV) HOan.out).mono ?_
              rintro e w6 ⟨a6, c6, rfl, hb6⟩
              exact ⟨_, rfl, hb6, ⟨a6, c6, rfl⟩⟩
            case o11 =>
              intro a' w' hB hL hA
              obtain ⟨g0, ge, rfl⟩ := up_pre hA 7 (by rfl)
              have ge : a'.tmps[167]? = some _ := ge
              refine up_if rfl (up_yield rfl ge) ?_
              obtain ⟨v10, e10, h10⟩ := up_pre hA 10 (by rfl)
              have e10 : a'.tmps[170]? = some _ := e10
              obtain ⟨a10, c10, rfl⟩ := h10
              go_simp
              exact ⟨_, rfl, Below.refl _ _, rfl⟩
            case o12 =>
              intro a' w' hB hL hA
              obtain ⟨g0, ge, rfl⟩ := up_pre hA 7 (by rfl)
              have ge : a'.tmps[167]? = some _ := ge
              refine up_if rfl (up_yield rfl ge) ?_
              have s12 := like_at hL 12 (by rfl) rfl
              obtain ⟨p0, p1, p2, p3, p4, p5, p6, p7, p8, p9⟩ := ten_cells (row_up28 HR12.out hB)
              go_simp
              exact ⟨_, rfl, Below.refl _ _, HT12.out.next hB⟩
            case o13 =>
              intro a' w' hB hL hA
              obtain ⟨g0, ge, rfl⟩ := up_pre hA 7 (by rfl)
              have ge : a'.tmps[167]? = some _ := ge
              refine up_if rfl (up_yield rfl ge) ?_
              have s5 := like_at hL 5 (by rfl) rfl
              have hV := HB.out.trans (hB.mono HB.out.size)
              obtain ⟨e0', e1', e2'⟩ := row_three28 (row_up28 HR5.out hV)
              go_simp
              exact ⟨_, rfl, Below.refl _ _, rfl⟩
            case o14 =>
              intro a' w' hB hL hA
              obtain ⟨g0, ge, rfl⟩ := up_pre hA 7 (by rfl)
              have ge : a'.tmps[167]? = some _ := ge
              refine up_if rfl (up_yield rfl ge) ?_
              obtain ⟨v12, e12, h12⟩ := up_pre hA 12 (by rfl)
              have e12 : a'.tmps[172]? = some _ := e12
              have h12 : ExAt (fun _ => True) w' (twoE 2 xa xc) v12 := h12
              obtain ⟨v13, e13, rfl⟩ := up_pre hA 13 (by rfl)
              have e13 : a'.tmps[173]? = some _ := e13
              have hV := HB.out.trans (hB.mono HB.out.size)
              go_simp
              refine (HAT.out _ _ HJ2.out _ va vc w' (HG.out.next hV) h12 (HF.out.below hV) HOanc.out).mono ?_
              rintro e w6 ⟨a6, c6, rfl, hb6⟩
              exact ⟨_, rfl, hb6, ⟨a6, c6, rfl⟩⟩
            case o15 =>
              intro a' w' hB hL hA
              obtain ⟨g0, ge, rfl⟩ := up_pre hA 7 (by rfl)
              have ge : a'.tmps[167]? = some _ := ge
              refine up_if rfl (up_yield rfl ge) ?_
              obtain ⟨v14, e14, h14⟩ := up_pre hA 14 (by rfl)
              have e14 : a'.tmps[174]? = some _ := e14
              obtain ⟨a14, c14, rfl⟩ := h14
              go_simp
              exact ⟨_, rfl, Below.refl _ _, rfl⟩
            case o16 =>
              intro a' w' hB hL hA
              obtain ⟨g0, ge, rfl⟩ := up_pre hA 7 (by rfl)
              have ge : a'.tmps[167]? = some _ := ge
              refine up_if rfl (up_yield rfl ge) ?_
              obtain ⟨v11, e11, rfl⟩ := up_pre hA 11 (by rfl)
              have e11 : a'.tmps[171]? = some _ := e11
              obtain ⟨v15, e15, rfl⟩ := up_pre hA 15 (by rfl)
              have e15 : a'.tmps[175]? = some _ := e15
              go_simp
              exact ⟨_, rfl, Below.refl _ _, rfl⟩
            case o17 =>
              intro a' w' hB hL hA
              refine up_yes rfl ?_
              obtain ⟨v7, e7, rfl⟩ := up_pre hA 7 (by rfl)
              have e7 : a'.tmps[167]? = some _ := e7
              obtain ⟨v16, e16, rfl⟩ := up_pre hA 16 (by rfl)
              have e16 : a'.tmps[176]? = some _ := e16
              go_simp
              exact ⟨_, rfl, Below.refl _ _, rfl⟩
            case o18 =>
              intro a' w' hB hL hA
              refine up_yes rfl ?_
              obtain ⟨v17, e17, rfl⟩ := up_pre hA 17 (by rfl)
              have e17 : a'.tmps[177]? = some _ := e17
              go_simp
              exact ⟨_, rfl, Below.refl _ _, rfl⟩
            case o19 =>
              intro a' w' hB hL hA
              obtain ⟨g0, ge, rfl⟩ := up_pre hA 18 (by rfl)
              have ge : a'.tmps[178]? = some _ := ge
              refine up_if rfl (up_yield rfl ge) ?_
              have s11 := like_at hL 11 (by rfl) rfl
              obtain ⟨p0, p1, p2, p3, p4, p5, p6, p7, p8, p9⟩ := ten_cells (row_up28 HR11.out hB)
              go_simp
              exact ⟨_, rfl, Below.refl _ _, HT11.out.next hB⟩
            case o20 =>
              intro a' w' hB hL hA
              obtain ⟨g0, ge, rfl⟩ := up_pre hA 18 (by rfl)
              have ge : a'.tmps[178]? = some _ := ge
              refine up_if rfl (up_yield rfl ge) ?_
              have s5 := like_at hL 5 (by rfl) rfl
              have hV := HB.out.trans (hB.mono HB.out.size)
              obtain ⟨e0', e1', e2'⟩ := row_three28 (row_up28 HR5.out hV)
              go_simp
              exact ⟨_, rfl, Below.refl _ _, rfl⟩
            case o21 =>
              intro a' w' hB hL hA
              obtain ⟨g0, ge, rfl⟩ := up_pre hA 18 (by rfl)
              have ge : a'.tmps[178]? = some _ := ge
              refine up_if rfl (up_yield rfl ge) ?_
              obtain ⟨v19, e19, h19⟩ := up_pre hA 19 (by rfl)
              have e19 : a'.tmps[179]? = some _ := e19
              have h19 : ExAt (fun _ => True) w' (twoE 2 xa xb) v19 := h19
              obtain ⟨v20, e20, rfl⟩ := up_pre hA 20 (by rfl)
              have e20 : a'.tmps[180]? = some _ := e20
              have hV := HB.out.trans (hB.mono HB.out.size)
              go_simp
              refine (HAT.out _ _ HJ1.out _ va vc w' (HG.out.next hV) h19 (HF.out.below hV) HOan.out).mono ?_
              rintro e w6 ⟨a6, c6, rfl, hb6⟩
              exact ⟨_, rfl, hb6, ⟨a6, c6, rfl⟩⟩
            case o22 =>
              intro a' w' hB hL hA
              obtain ⟨g0, ge, rfl⟩ := up_pre hA 18 (by rfl)
              have ge : a'.tmps[178]? = some _ := ge
              refine up_if rfl (up_yield rfl ge) ?_
              obtain ⟨v21, e21, h21⟩ := up_pre hA 21 (by rfl)
              have e21 : a'.tmps[181]? = some _ := e21
              obtain ⟨a21, c21, rfl⟩ := h21
              go_simp
              exact ⟨_, rfl, Below.refl _ _, rfl⟩
            case o23 =>
              intro a' w' hB hL hA
              obtain ⟨g0, ge, rfl⟩ := up_pre hA 18 (by rfl)
              have ge : a'.tmps[178]? = some _ := ge
              refine up_if rfl (up_yield rfl ge) ?_
              have s2 := like_at hL 2 (by rfl) rfl
              go_simp
              exact ⟨_, rfl, Below.refl _ _, rfl⟩
            case o24 =>
              intro a' w' hB hL hA
              obtain ⟨g0, ge, rfl⟩ := up_pre hA 18 (by rfl)
              have ge : a'.tmps[178]? = some _ := ge
              refine up_if rfl (up_yield rfl ge) ?_
              obtain ⟨v23, e23, rfl⟩ := up_pre hA 23 (by rfl)
              have e23 : a'.tmps[183]? = some _ := e23
              have hV := HB.out.trans (hB.mono HB.out.size)
              obtain ⟨p0, p1, p2, p3, p4, p5, p6, p7, p8, p9⟩ := three_a (row_up28 HN.out hV)
              go_simp
              exact ⟨_, rfl, Below.refl _ _, HX0.out.next hV⟩
            case o25 =>
              intro a' w' hB hL hA
              obtain ⟨g0, ge, rfl⟩ := up_pre hA 18 (by rfl)
              have ge : a'.tmps[178]? = some _ := ge
              refine up_if rfl (up_yield rfl ge) ?_
              have s5 := like_at hL 5 (by rfl) rfl
              have hV := HB.out.trans (hB.mono HB.out.size)
              obtain ⟨e0', e1', e2'⟩ := row_three28 (row_up28 HR5.out hV)
              go_simp
              exact ⟨_, rfl, Below.refl _ _, rfl⟩
            case o26 =>
              intro a' w' hB hL hA
              obtain ⟨g0, ge, rfl⟩ := up_pre hA 18 (by rfl)
              have ge : a'.tmps[178]? = some _ := ge
              refine up_if rfl (up_yield rfl ge) ?_
              obtain ⟨v24, e24, h24⟩ := up_pre hA 24 (by rfl)
              have e24 : a'.tmps[184]? = some _ := e24
              have h24 : ExAt (fun _ => True) w' xa v24 := h24
              obtain ⟨v25, e25, rfl⟩ := up_pre hA 25 (by rfl)
              have e25 : a'.tmps[185]? = some _ := e25
              have hV := HB.out.trans (hB.mono HB.out.size)
              go_simp
              refine (HAT.out _ _ HKA.out _ va vc w' (HG.out.next hV) h24 (HF.out.below hV) HOa.out).mono ?_
              rintro e w6 ⟨a6, c6, rfl, hb6⟩
              exact ⟨_, rfl, hb6, ⟨a6, c6, rfl⟩⟩
            case o27 =>
              intro a' w' hB hL hA
              obtain ⟨g0, ge, rfl⟩ := up_pre hA 18 (by rfl)
              have ge : a'.tmps[178]? = some _ := ge
              refine up_if rfl (up_yield rfl ge) ?_
              obtain ⟨v26, e26, h26⟩ := up_pre hA 26 (by rfl)
              have e26 : a'.tmps[186]? = some _ := e26
              obtain ⟨a26, c26, rfl⟩ := h26
              go_simp
              exact ⟨_, rfl, Below.refl _ _, rfl⟩
            case o28 =>
              intro a' w' hB hL hA
              obtain ⟨g0, ge, rfl⟩ := up_pre hA 18 (by rfl)
              have ge : a'.tmps[178]? = some _ := ge
              refine up_if rfl (up_yield rfl ge) ?_
              obtain ⟨v22, e22, rfl⟩ := up_pre hA 22 (by rfl)
              have e22 : a'.tmps[182]? = some _ := e22
              obtain ⟨v27, e27, rfl⟩ := up_pre hA 27 (by rfl)
              have e27 : a'.tmps[187]? = some _ := e27
              go_simp
              exact ⟨_, rfl, Below.refl _ _, rfl⟩
            case o29 =>
              intro a' w' hB hL hA
              refine up_yes rfl ?_
              obtain ⟨v18, e18, rfl⟩ := up_pre hA 18 (by rfl)
              have e18 : a'.tmps[178]? = some _ := e18
              obtain ⟨v28, e28, rfl⟩ := up_pre hA 28 (by rfl)
              have e28 : a'.tmps[188]? = some _ := e28
              go_simp
              exact ⟨_, rfl, Below.refl _ _, rfl⟩
            case o30 =>
              intro a' w' hB hL hA
              refine up_yes rfl ?_
              obtain ⟨v29, e29, rfl⟩ := up_pre hA 29 (by rfl)
              have e29 : a'.tmps[189]? = some _ := e29
              go_simp
              exact ⟨_, rfl, Below.refl _ _, rfl⟩
            case o31 =>
              intro a' w' hB hL hA
              obtain ⟨g0, ge, rfl⟩ := up_pre hA 30 (by rfl)
              have ge : a'.tmps[190]? = some _ := ge
              refine up_if rfl (up_yield rfl ge) ?_
              have hV := HB.out.trans (hB.mono HB.out.size)
              go_simp
              refine (law28_works w' (HG.out.next hV)).mono ?_
              rintro e w6 ⟨rfl, hb6⟩
              exact ⟨_, rfl, hb6, rfl⟩
            case o32 =>
              intro a' w' hB hL hA
              refine up_yes rfl ?_
              obtain ⟨v30, e30, rfl⟩ := up_pre hA 30 (by rfl)
              have e30 : a'.tmps[190]? = some _ := e30
              obtain ⟨v31, e31, rfl⟩ := up_pre hA 31 (by rfl)
              have e31 : a'.tmps[191]? = some _ := e31
              go_simp
              exact ⟨_, rfl, Below.refl _ _, rfl⟩
            case o33 =>
              intro a' w' hB hL hA
              refine up_yes rfl ?_
              obtain ⟨v32, e32, rfl⟩ := up_pre hA 32 (by rfl)
              have e32 : a'.tmps[192]? = some _ := e32
              go_simp
              exact ⟨_, rfl, Below.refl _ _, rfl⟩
            intro f w' hB hf
            have f33 : f 33 = _ := hf 33 _ rfl
            have HBE := Lib.hid (HB00.out.trans ((HB.out.trans (hB.mono HB.out.size)).mono HB00.out.size))
            clear hB hf
            simp only [List.take_succ_cons, List.take_zero, List.drop_succ_cons, List.drop_nil, putFn, Act.put, tailWp]
            rw [f33]
            clear f33
            go_simp
            go_wp2_with fail
            go_ret
            exact ⟨rfl, HBE.out⟩
          · skip
            have HI1 := Lib.hid (show isB (vT fs) (twoE 1 xa xb) = true by rw [isB_or, HVa.out]; rfl)
            have HI2 := Lib.hid (show isB (vT fs) (twoE 1 xa xc) = true by rw [isB_or, HVa.out]; rfl)
            have HJ1 := Lib.hid (show (askE (vT fs) (twoE 1 xa xb)).2 = k from (asked_or _ _ _ HVa.out).trans HKA.out)
            have HJ2 := Lib.hid (show (askE (vT fs) (twoE 1 xa xc)).2 = k from (asked_or _ _ _ HVa.out).trans HKA.out)
            go_upto_region 14 with fail
            refine wp_region_tail 34 [upTree (twoE 1 xa xb), UpP.is (.agg #[.string ⟨#[104]⟩, .string ⟨#[47, 63, 97, 61, 98]⟩, .slice va fs.length vc]), UpP.is (.bool true), upTree (twoE 1 xa xc), UpP.is (.agg #[.string ⟨#[104]⟩, .string ⟨#[47, 63, 97, 61, 98]⟩, .slice va fs.length vc]), UpP.is (.bool true), UpP.is (.bool true), UpP.is (.bool true), upTree (twoE 1 xa xb), UpP.is (.agg #[.string ⟨#[104]⟩, .string ⟨#[47, 63, 97, 61, 98]⟩, .slice va fs.length vc]), upLen k, UpP.is (.int .i64 (k : Int)), upTree (twoE 1 xa xc), UpP.is (.agg #[.string ⟨#[104]⟩, .string ⟨#[47, 63, 97, 61, 98]⟩, .slice va fs.length vc]), upLen k, UpP.is (.int .i64 (k : Int)), UpP.is (.bool true), UpP.is (.bool true), UpP.is (.bool true), upTree (twoE 1 xa xb), UpP.is (.agg #[.string ⟨#[104]⟩, .string ⟨#[47, 63, 97, 61, 98]⟩, .slice va fs.length vc]), upLen k, UpP.is (.int .i64 (k : Int)), UpP.is (.pointer (some ⟨w.heap.size, 0, none⟩)), upTree xa, UpP.is (.agg #[.string ⟨#[104]⟩, .string ⟨#[47, 63, 97, 61, 98]⟩, .slice va fs.length vc]), upLen k, UpP.is (.int .i64 (k : Int)), UpP.is (.bool true), UpP.is (.bool true), UpP.is (.bool true), UpP.is (.bool true), UpP.is (.bool true), UpP.is (.bool true)] (by kernel_rfl) (by rfl) (by rfl) (by kernel_rfl) (by rfl) ⟨?o0, ?o1, ?o2, ?o3, ?o4, ?o5, ?o6, ?o7, ?o8, ?o9, ?o10, ?o11, ?o12, ?o13, ?o14, ?o15, ?o16, ?o17, ?o18, ?o19, ?o20, ?o21, ?o22, ?o23, ?o24, ?o25, ?o26, ?o27, ?o28, ?o29, ?o30, ?o31, ?o32, ?o33, trivial⟩ ?_
            case o0 =>
              intro a' w' hB hL hA
              refine up_yes rfl ?_
              have s11 := like_at hL 11 (by rfl) rfl
              obtain ⟨p0, p1, p2, p3, p4, p5, p6, p7, p8, p9⟩ := ten_cells (row_up28 HR11.out hB)
              go_simp
              exact ⟨_, rfl, Below.refl _ _, HT11.out.next hB⟩
            case o1 =>
              intro a' w' hB hL hA
              refine up_yes rfl ?_
              have s5 := like_at hL 5 (by rfl) rfl
              have hV := HB.out.trans (hB.mono HB.out.size)
              obtain ⟨e0', e1', e2'⟩ := row_three28 (row_up28 HR5.out hV)
              go_simp
              exact ⟨_, rfl, Below.refl _ _, rfl⟩
            case o2 =>
              intro a' w' hB hL hA
              refine up_yes rfl ?_
              obtain ⟨v0, e0, h0⟩ := up_pre hA 0 (by rfl)
              have e0 : a'.tmps[160]? = some _ := e0
              have h0 : ExAt (fun _ => True) w' (twoE 1 xa xb) v0 := h0
              obtain ⟨v1, e1, rfl⟩ := up_pre hA 1 (by rfl)
              have e1 : a'.tmps[161]? = some _ := e1
              have hV := HB.out.trans (hB.mono HB.out.size)
              go_simp
              refine (HIT.out _ _ HI1.out _ va vc w' (HG.out.next hV) h0 (HF.out.below hV) HOor.out).mono ?_
              rintro e w6 ⟨rfl, hb6⟩
              exact ⟨_, rfl, hb6, rfl⟩
            case o3 =>
              intro a' w' hB hL hA
              refine up_yes rfl ?_
              have s12 := like_at hL 12 (by rfl) rfl
              obtain ⟨p0, p1, p2, p3, p4, p5, p6, p7, p8, p9⟩ := ten_cells (row_up28 HR12.out hB)
              go_simp
              exact ⟨_, rfl, Below.refl _ _, HT12.out.next hB⟩
            case o4 =>
              intro a' w' hB hL hA
              refine up_yes rfl ?_
              have s5 := like_at hL 5 (by rfl) rfl
              have hV := HB.out.trans (hB.mono HB.out.size)
              obtain ⟨e0', e1', e2'⟩ := row_three28 (row_up28 HR5.out hV)
              go_simp
              exact ⟨_, rfl, Below.refl _ _, rfl⟩
            case o5 =>
              intro a' w' hB hL hA
              refine up_yes rfl ?_
              obtain ⟨v3, e3, h3⟩ := up_pre hA 3 (by rfl)
              have e3 : a'.tmps[163]? = some _ := e3
              have h3 : ExAt (fun _ => True) w' (twoE 1 xa xc) v3 := h3
              obtain ⟨v4, e4, rfl⟩ := up_pre hA 4 (by rfl)
              have e4 : a'.tmps[164]? = some _ := e4
              have hV := HB.out.trans (hB.mono HB.out.size)
              go_simp
              refine (HIT.out _ _ HI2.out _ va vc w' (HG.out.next hV) h3 (HF.out.below hV) HOorc.out).mono ?_
              rintro e w6 ⟨rfl, hb6⟩
              exact ⟨_, rfl, hb6, rfl⟩
            case o6 =>
              intro a' w' hB hL hA
              refine up_yes rfl ?_
              obtain ⟨v2, e2, rfl⟩ := up_pre hA 2 (by rfl)
              have e2 : a'.tmps[162]? = some _ := e2
              obtain ⟨v5, e5, rfl⟩ := up_pre hA 5 (by rfl)
              have e5 : a'.tmps[165]? = some _ := e5
              go_simp
              exact ⟨_, rfl, Below.refl _ _, rfl⟩
            case o7 =>
              intro a' w' hB hL hA
              refine up_yes rfl ?_
              obtain ⟨v6, e6, rfl⟩ := up_pre hA 6 (by rfl)
              have e6 : a'.tmps[166]? = some _ := e6
              go_simp
              exact ⟨_, rfl, Below.refl _ _, rfl⟩
            case o8 =>
              intro a' w' hB hL hA
              obtain ⟨g0, ge, rfl⟩ := up_pre hA 7 (by rfl)
              have ge : a'.tmps[167]? = some _ := ge
              refine up_if rfl (up_yield rfl ge) ?_
              have s11 := like_at hL 11 (by rfl) rfl
              obtain ⟨p0, p1, p2, p3, p4, p5, p6, p7, p8, p9⟩ := ten_cells (row_up28 HR11.out hB)
              go_simp
              exact ⟨_, rfl, Below.refl _ _, HT11.out.next hB⟩
            case o9 =>
              intro a' w' hB hL hA
              obtain ⟨g0, ge, rfl⟩ := up_pre hA 7 (by rfl)
              have ge : a'.tmps[167]? = some _ := ge
              refine up_if rfl (up_yield rfl ge) ?_
              have s5 := like_at hL 5 (by rfl) rfl
              have hV := HB.out.trans (hB.mono HB.out.size)
              obtain ⟨e0', e1', e2'⟩ := row_three28 (row_up28 HR5.out hV)
              go_simp
              exact ⟨_, rfl, Below.refl _ _, rfl⟩
            case o10 =>
              intro a' w' hB hL hA
              obtain ⟨g0, ge, rfl⟩ := up_pre hA 7 (by rfl)
              have ge : a'.tmps[167]? = some _ := ge
              refine up_if rfl (up_yield rfl ge) ?_
              obtain ⟨v8, e8, h8⟩ := up_pre hA 8 (by rfl)
              have e8 : a'.tmps[168]? = some _ := e8
              have h8 : ExAt (fun _ => True) w' (twoE 1 xa xb) v8 := h8
              obtain ⟨v9, e9, rfl⟩ := up_pre hA 9 (by rfl)
              have e9 : a'.tmps[169]? = some _ := e9
              have hV := HB.out.trans (hB.mono HB.out.size)
              go_simp
              refine (HAT.out _ _ HJ1.out _ va vc w' (HG.out.next hV) h8 (HF.out.below hV) HOor.out).mono ?_
              rintro e w6 ⟨a6, c6, rfl, hb6⟩
              exact ⟨_, rfl, hb6, ⟨a6, c6, rfl⟩⟩
            case o11 =>
              intro a' w' hB hL hA
              obtain ⟨g0, ge, rfl⟩ := up_pre hA 7 (by rfl)
              have ge : a'.tmps[167]? = some _ := ge
              refine up_if rfl (up_yield rfl ge) ?_
              obtain ⟨v10, e10, h10⟩ := up_pre hA 10 (by rfl)
              have e10 : a'.tmps[170]? = some _ := e10
              obtain ⟨a10, c10, rfl⟩ := h10
              go_simp
              exact ⟨_, rfl, Below.refl _ _, rfl⟩
            case o12 =>
              intro a' w' hB hL hA
              obtain ⟨g0, ge, rfl⟩ := up_pre hA 7 (by rfl)
              have ge : a'.tmps[167]? = some _ := ge
              refine up_if rfl (up_yield rfl ge) ?_
              have s12 := like_at hL 12 (by rfl) rfl
              obtain ⟨p0, p1, p2, p3, p4, p5, p6, p7, p8, p9⟩ := ten_cells (row_up28 HR12.out hB)
              go_simp
              exact ⟨_, rfl, Below.refl _ _, HT12.out.next hB⟩
            case o13 =>
              intro a' w' hB hL hA
              obtain ⟨g0, ge, rfl⟩ := up_pre hA 7 (by rfl)
              have ge : a'.tmps[167]? = some _ := ge
              refine up_if rfl (up_yield rfl ge) ?_
              have s5 := like_at hL 5 (by rfl) rfl
              have hV := HB.out.trans (hB.mono HB.out.size)
              obtain ⟨e0', e1', e2'⟩ := row_three28 (row_up28 HR5.out hV)
              go_simp
              exact ⟨_, rfl, Below.refl _ _, rfl⟩
            case o14 =>
              intro a' w' hB hL hA
              obtain ⟨g0, ge, rfl⟩ := up_pre hA 7 (by rfl)
              have ge : a'.tmps[167]? = some _ := ge
              refine up_if rfl (up_yield rfl ge) ?_
              obtain ⟨v12, e12, h12⟩ := up_pre hA 12 (by rfl)
              have e12 : a'.tmps[172]? = some _ := e12
              have h12 : ExAt (fun _ => True) w' (twoE 1 xa xc) v12 := h12
              obtain ⟨v13, e13, rfl⟩ := up_pre hA 13 (by rfl)
              have e13 : a'.tmps[173]? = some _ := e13
              have hV := HB.out.trans (hB.mono HB.out.size)
              go_simp
              refine (HAT.out _ _ HJ2.out _ va vc w' (HG.out.next hV) h12 (HF.out.below hV) HOorc.out).mono ?_
              rintro e w6 ⟨a6, c6, rfl, hb6⟩
              exact ⟨_, rfl, hb6, ⟨a6, c6, rfl⟩⟩
            case o15 =>
              intro a' w' hB hL hA
              obtain ⟨g0, ge, rfl⟩ := up_pre hA 7 (by rfl)
              have ge : a'.tmps[167]? = some _ := ge
              refine up_if rfl (up_yield rfl ge) ?_
              obtain ⟨v14, e14, h14⟩ := up_pre hA 14 (by rfl)
              have e14 : a'.tmps[174]? = some _ := e14
              obtain ⟨a14, c14, rfl⟩ := h14
              go_simp
              exact ⟨_, rfl, Below.refl _ _, rfl⟩
            case o16 =>
              intro a' w' hB hL hA
              obtain ⟨g0, ge, rfl⟩ := up_pre hA 7 (by rfl)
              have ge : a'.tmps[167]? = some _ := ge
              refine up_if rfl (up_yield rfl ge) ?_
              obtain ⟨v11, e11, rfl⟩ := up_pre hA 11 (by rfl)
              have e11 : a'.tmps[171]? = some _ := e11
              obtain ⟨v15, e15, rfl⟩ := up_pre hA 15 (by rfl)
              have e15 : a'.tmps[175]? = some _ := e15
              go_simp
              exact ⟨_, rfl, Below.refl _ _, rfl⟩
            case o17 =>
              intro a' w' hB hL hA
              refine up_yes rfl ?_
              obtain ⟨v7, e7, rfl⟩ := up_pre hA 7 (by rfl)
              have e7 : a'.tmps[167]? = some _ := e7
              obtain ⟨v16, e16, rfl⟩ := up_pre hA 16 (by rfl)
              have e16 : a'.tmps[176]? = some _ := e16
              go_simp
              exact ⟨_, rfl, Below.refl _ _, rfl⟩
            case o18 =>
              intro a' w' hB hL hA
              refine up_yes rfl ?_
              obtain ⟨v17, e17, rfl⟩ := up_pre hA 17 (by rfl)
              have e17 : a'.tmps[177]? = some _ := e17
              go_simp
              exact ⟨_, rfl, Below.refl _ _, rfl⟩
            case o19 =>
              intro a' w' hB hL hA
              obtain ⟨g0, ge, rfl⟩ := up_pre hA 18 (by rfl)
              have ge : a'.tmps[178]? = some _ := ge
              refine up_if rfl (up_yield rfl ge) ?_
              have s11 := like_at hL 11 (by rfl) rfl
              obtain ⟨p0, p1, p2, p3, p4, p5, p6, p7, p8, p9⟩ := ten_cells (row_up28 HR11.out hB)
              go_simp
              exact ⟨_, rfl, Below.refl _ _, HT11.out.next hB⟩
            case o20 =>
              intro a' w' hB hL hA
              obtain ⟨g0, ge, rfl⟩ := up_pre hA 18 (by rfl)
              have ge : a'.tmps[178]? = some _ := ge
              refine up_if rfl (up_yield rfl ge) ?_
              have s5 := like_at hL 5 (by rfl) rfl
              have hV := HB.out.trans (hB.mono HB.out.size)
              obtain ⟨e0', e1', e2'⟩ := row_three28 (row_up28 HR5.out hV)
              go_simp
              exact ⟨_, rfl, Below.refl _ _, rfl⟩
            case o21 =>
              intro a' w' hB hL hA
              obtain ⟨g0, ge, rfl⟩ := up_pre hA 18 (by rfl)
              have ge : a'.tmps[178]? = some _ := ge
              refine up_if rfl (up_yield rfl ge) ?_
              obtain ⟨v19, e19, h19⟩ := up_pre hA 19 (by rfl)
              have e19 : a'.tmps[179]? = some _ := e19
              have h19 : ExAt (fun _ => True) w' (twoE 1 xa xb) v19 := h19
              obtain ⟨v20, e20, rfl⟩ := up_pre hA 20 (by rfl)
              have e20 : a'.tmps[180]? = some _ := e20
              have hV := HB.out.trans (hB.mono HB.out.size)
              go_simp
              refine (HAT.out _ _ HJ1.out _ va vc w' (HG.out.next hV) h19 (HF.out.below hV) HOor.out).mono ?_
              rintro e w6 ⟨a6, c6, rfl, hb6⟩
              exact ⟨_, rfl, hb6, ⟨a6, c6, rfl⟩⟩
            case o22 =>
              intro a' w' hB hL hA
              obtain ⟨g0, ge, rfl⟩ := up_pre hA 18 (by rfl)
              have ge : a'.tmps[178]? = some _ := ge
              refine up_if rfl (up_yield rfl ge) ?_
              obtain ⟨v21, e21, h21⟩ := up_pre hA 21 (by rfl)
              have e21 : a'.tmps[181]? = some _ := e21
              obtain ⟨a21, c21, rfl⟩ := h21
              go_simp
              exact ⟨_, rfl, Below.refl _ _, rfl⟩
            case o23 =>
              intro a' w' hB hL hA
              obtain ⟨g0, ge, rfl⟩ := up_pre hA 18 (by rfl)
              have ge : a'.tmps[178]? = some _ := ge
              refine up_if rfl (up_yield rfl ge) ?_
              have s2 := like_at hL 2 (by rfl) rfl
              go_simp
              exact ⟨_, rfl, Below.refl _ _, rfl⟩
            case o24 =>
              intro a' w' hB hL hA
              obtain ⟨g0, ge, rfl⟩ := up_pre hA 18 (by rfl)
              have ge : a'.tmps[178]? = some _ := ge
              refine up_if rfl (up_yield rfl ge) ?_
              obtain ⟨v23, e23, rfl⟩ := up_pre hA 23 (by rfl)
              have e23 : a'.tmps[183]? = some _ := e23
              have hV := HB.out.trans (hB.mono HB.out.size)
              obtain ⟨p0, p1, p2, p3, p4, p5, p6, p7, p8, p9⟩ := three_a (row_up28 HN.out hV)
              go_simp
              exact ⟨_, rfl, Below.refl _ _, HX0.out.next hV⟩
            case o25 =>
              intro a' w' hB hL hA
              obtain ⟨g0, ge, rfl⟩ := up_pre hA 18 (by rfl)
              have ge : a'.tmps[178]? = some _ := ge
              refine up_if rfl (up_yield rfl ge) ?_
              have s5 := like_at hL 5 (by rfl) rfl
              have hV := HB.out.trans (hB.mono HB.out.size)
              obtain ⟨e0', e1', e2'⟩ := row_three28 (row_up28 HR5.out hV)
              go_simp
              exact ⟨_, rfl, Below.refl _ _, rfl⟩
            case o26 =>
              intro a' w' hB hL hA
              obtain ⟨g0, ge, rfl⟩ := up_pre hA 18 (by rfl)
              have ge : a'.tmps[178]? = some _ := ge
              refine up_if rfl (up_yield rfl ge) ?_
              obtain ⟨v24, e24, h24⟩ := up_pre hA 24 (by rfl)
              have e24 : a'.tmps[184]? = some _ := e24
              have h24 : ExAt (fun _ => True) w' xa v24 := h24
              obtain ⟨v25, e25, rfl⟩ := up_pre hA 25 (by rfl)
              have e25 : a'.tmps[185]? = some _ := e25
              have hV := HB.out.trans (hB.mono HB.out.size)
              go_simp
              refine (HAT.out _ _ HKA.out _ va vc w' (HG.out.next hV) h24 (HF.out.below hV) HOa.out).mono ?_
              rintro e w6 ⟨a6, c6, rfl, hb6⟩
              exact ⟨_, rfl, hb6, ⟨a6, c6, rfl⟩⟩
            case o27 =>
              intro a' w' hB hL hA
              obtain ⟨g0, ge, rfl⟩ := up_pre hA 18 (by rfl)
              have ge : a'.tmps[178]? = some _ := ge
              refine up_if rfl (up_yield rfl ge) ?_
              obtain ⟨v26, e26, h26⟩ := up_pre hA 26 (by rfl)
              have e26 : a'.tmps[186]? = some _ := e26
              obtain ⟨a26, c26, rfl⟩ := h26
              go_simp
              exact ⟨_, rfl, Below.refl _ _, rfl⟩
            case o28 =>
              intro a' w' hB hL hA
              obtain ⟨g0, ge, rfl⟩ := up_pre hA 18 (by rfl)
              have ge : a'.tmps[178]? = some _ := ge
              refine up_if rfl (up_yield rfl ge) ?_
              obtain ⟨v22, e22, rfl⟩ := up_pre hA 22 (by rfl)
              have e22 : a'.tmps[182]? = some _ := e22
              obtain ⟨v27, e27, rfl⟩ := up_pre hA 27 (by rfl)
              have e27 : a'.tmps[187]? = some _ := e27
              go_simp
              exact ⟨_, rfl, Below.refl _ _, rfl⟩
            case o29 =>
              intro a' w' hB hL hA
              refine up_yes rfl ?_
              obtain ⟨v18, e18, rfl⟩ := up_pre hA 18 (by rfl)
              have e18 : a'.tmps[178]? = some _ := e18
              obtain ⟨v28, e28, rfl⟩ := up_pre hA 28 (by rfl)
              have e28 : a'.tmps[188]? = some _ := e28
              go_simp
              exact ⟨_, rfl, Below.refl _ _, rfl⟩
            case o30 =>
              intro a' w' hB hL hA
              refine up_yes rfl ?_
              obtain ⟨v29, e29, rfl⟩ := up_pre hA 29 (by rfl)
              have e29 : a'.tmps[189]? = some _ := e29
              go_simp
              exact ⟨_, rfl, Below.refl _ _, rfl⟩
            case o31 =>
              intro a' w' hB hL hA
              obtain ⟨g0, ge, rfl⟩ := up_pre hA 30 (by rfl)
              have ge : a'.tmps[190]? = some _ := ge
              refine up_if rfl (up_yield rfl ge) ?_
              have hV := HB.out.trans (hB.mono HB.out.size)
              go_simp
              refine (law28_works w' (HG.out.next hV)).mono ?_
              rintro e w6 ⟨rfl, hb6⟩
              exact ⟨_, rfl, hb6, rfl⟩
            case o32 =>
              intro a' w' hB hL hA
              refine up_yes rfl ?_
              obtain ⟨v30, e30, rfl⟩ := up_pre hA 30 (by rfl)
              have e30 : a'.tmps[190]? = some _ := e30
              obtain ⟨v31, e31, rfl⟩ := up_pre hA 31 (by rfl)
              have e31 : a'.tmps[191]? = some _ := e31
              go_simp
              exact ⟨_, rfl, Below.refl _ _, rfl⟩
            case o33 =>
              intro a' w' hB hL hA
              refine up_yes rfl ?_
              obtain ⟨v32, e32, rfl⟩ := up_pre hA 32 (by rfl)
              have e32 : a'.tmps[192]? = some _ := e32
              go_simp
              exact ⟨_, rfl, Below.refl _ _, rfl⟩
            intro f w' hB hf
            have f33 : f 33 = _ := hf 33 _ rfl
            have HBE := Lib.hid (HB00.out.trans ((HB.out.trans (hB.mono HB.out.size)).mono HB00.out.size))
            clear hB hf
            simp only [List.take_succ_cons, List.take_zero, List.drop_succ_cons, List.drop_nil, putFn, Act.put, tailWp]
            rw [f33]
            clear f33
            go_simp
            go_wp2_with fail
            go_ret
            exact ⟨rfl, HBE.out⟩
end Go.Proofs.YtehdeclpighdeaaGreatDoor
