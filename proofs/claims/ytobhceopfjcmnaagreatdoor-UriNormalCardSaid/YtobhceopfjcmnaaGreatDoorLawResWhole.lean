/- The law ResolveWhole: the stage's theorem. -/
import Derived.Test.YtobhceopfjcmnaaGreatDoorResAwake
import Derived.Test.YtobhceopfjcmnaaGreatDoorResWp
import Derived.Deep.RegionHeld3
namespace Go.Proofs.YtobhceopfjcmnaaGreatDoor
open Go.RowKit
set_option linter.unusedVariables false

/-- The boxes of two addresses that came in. -/
structure WB (w W : World) (a b : U) : Prop where
  below : Below w.heap.size w W
  ba : UBx W w.heap.size a
  bb : UBx W (w.heap.size + 1) b
theorem WB.next {w W W' : World} {a b : U} (h : WB w W a b) (hb : Below W.heap.size W W') : WB w W' a b := ⟨h.below.trans (hb.mono h.below.size), h.ba.next hb, h.bb.next hb⟩
theorem wb_new (w : World) (a b : U) : WB w ((w.alloc (.cells #[.string ⟨a.scheme.toArray⟩, .string ⟨a.host.toArray⟩, .int .i64 a.port, .string ⟨a.path.toArray⟩, .string ⟨a.query.toArray⟩, .bool a.hq] 23)).alloc (.cells #[.string ⟨b.scheme.toArray⟩, .string ⟨b.host.toArray⟩, .int .i64 b.port, .string ⟨b.path.toArray⟩, .string ⟨b.query.toArray⟩, .bool b.hq] 23)) a b :=
  have h := two_new w (.cells #[.string ⟨a.scheme.toArray⟩, .string ⟨a.host.toArray⟩, .int .i64 a.port, .string ⟨a.path.toArray⟩, .string ⟨a.query.toArray⟩, .bool a.hq] 23) (.cells #[.string ⟨b.scheme.toArray⟩, .string ⟨b.host.toArray⟩, .int .i64 b.port, .string ⟨b.path.toArray⟩, .string ⟨b.query.toArray⟩, .bool b.hq] 23)
  ⟨h.below, h.b1, h.b2⟩
theorem WB.box {w W : World} {a b : U} (h : WB w W a b) (x : U) : WB w (W.alloc (uObj x)) a b := h.next ((Below.refl _ _).alloc (Nat.le_refl _) _)
theorem UBx.put9 {W : World} {b c : Nat} {u x : U} (h : UBx W b u) (hne : b ≠ c) : UBx (put6w W c x) b u := (((((h.other hne).other hne).other hne).other hne).other hne).other hne
theorem UBx.set9 {W : World} {b : Nat} {u : U} (h : UBx W b u) (x : U) : UBx (put6w W b x) b x := (((((h.s0 x.scheme).s1 x.host).s2 x.port).s3 x.path).s4 x.query).s5 x.hq
theorem WB.put9 {w W : World} {a b : U} {c : Nat} (h : WB w W a b) (hc : w.heap.size + 1 < c) (x : U) : WB w (put6w W c x) a b := by
  refine ⟨?_, h.ba.put9 (by omega), h.bb.put9 (by omega)⟩
  have hn : w.heap.size ≤ c := by omega
  exact (((((h.below.setCell (p := ⟨c, 0, none⟩) hn _).setCell (p := ⟨c, 1, none⟩) hn _).setCell (p := ⟨c, 2, none⟩) hn _).setCell (p := ⟨c, 3, none⟩) hn _).setCell (p := ⟨c, 4, none⟩) hn _).setCell (p := ⟨c, 5, none⟩) hn _
/-- A third box, made behind. -/
def Third (w W : World) (a b nb : U) (t t2 : Value) : Prop := ∃ bx, t = .pointer (some ⟨bx, 0, none⟩) ∧ t2 = .int .i64 0 ∧ WB w W a b ∧ UBx W bx nb
/-- The cells of two boxes. -/
abbrev Six2 (b1 : Nat) (u1 : U) (b2 : Nat) (u2 : U) (w' : World) : Prop := w'.cell? ⟨b1, 0, none⟩ = some (.string ⟨u1.scheme.toArray⟩) ∧ w'.cell? ⟨b1, 1, none⟩ = some (.string ⟨u1.host.toArray⟩) ∧ w'.cell? ⟨b1, 2, none⟩ = some (.int .i64 u1.port) ∧ w'.cell? ⟨b1, 3, none⟩ = some (.string ⟨u1.path.toArray⟩) ∧ w'.cell? ⟨b1, 4, none⟩ = some (.string ⟨u1.query.toArray⟩) ∧ w'.cell? ⟨b1, 5, none⟩ = some (.bool u1.hq) ∧ w'.cell? ⟨b2, 0, none⟩ = some (.string ⟨u2.scheme.toArray⟩) ∧ w'.cell? ⟨b2, 1, none⟩ = some (.string ⟨u2.host.toArray⟩) ∧ w'.cell? ⟨b2, 2, none⟩ = some (.int .i64 u2.port) ∧ w'.cell? ⟨b2, 3, none⟩ = some (.string ⟨u2.path.toArray⟩) ∧ w'.cell? ⟨b2, 4, none⟩ = some (.string ⟨u2.query.toArray⟩) ∧ w'.cell? ⟨b2, 5, none⟩ = some (.bool u2.hq)
theorem six2 {W : World} {b1 b2 : Nat} {u1 u2 : U} (h1 : UBx W b1 u1) (h2 : UBx W b2 u2) : Six2 b1 u1 b2 u2 W := by
  obtain ⟨c0, c1, c2, c3, c4, c5⟩ := h1.cells
  obtain ⟨d0, d1, d2, d3, d4, d5⟩ := h2.cells
  exact ⟨c0, c1, c2, c3, c4, c5, d0, d1, d2, d3, d4, d5⟩

set_option maxRecDepth 100000 in
set_option maxHeartbeats 3000000 in
theorem law10_ResolveWhole (a b : U) (s : ByteArray) (w : World) (hg : GX w) (ha : BigU a) (hb : BigU b) :
    Calls Tryz.prog 7 #[uV a, uV b, .string s] w (Ret w (.bool true)) := by
  have HW := Lib.hid (wb_new w a b)
  have HG := Lib.hid hg
  obtain ⟨c0, c1, c2, c3, c4, c5⟩ := HW.out.ba.cells
  clear hg
  go_enter Tryz.func7, Tryz.ntmps7
  go_wp2_with fail
  generalize (w.alloc (.cells #[.string ⟨a.scheme.toArray⟩, .string ⟨a.host.toArray⟩, .int .i64 a.port, .string ⟨a.path.toArray⟩, .string ⟨a.query.toArray⟩, .bool a.hq] 23)).alloc (.cells #[.string ⟨b.scheme.toArray⟩, .string ⟨b.host.toArray⟩, .int .i64 b.port, .string ⟨b.path.toArray⟩, .string ⟨b.query.toArray⟩, .bool b.hq] 23) = W at *
  refine (law10_few a W ha).mono ?_
  rintro e w1 ⟨rfl, hb1⟩
  have HW1 := Lib.hid (HW.out.next hb1)
  clear hb1 c0 c1 c2 c3 c4 c5 HW
  obtain ⟨d0, d1, d2, d3, d4, d5⟩ := HW1.out.bb.cells
  rcases hfa : fewU a with _ | _
  · go_wp2_with fail
    refine (law10_works w1 (HG.out.next HW1.out.below)).mono ?_
    rintro e wz ⟨rfl, hbz⟩
    have HZ := Lib.hid (HW1.out.below.trans (hbz.mono HW1.out.below.size))
    clear hbz
    go_wp2_with fail
    go_ret
    exact ⟨rfl, HZ.out⟩
  · have HLA := Lib.hid (few_lim10 hfa)
    clear hfa
    go_wp2_with fail
    refine (law10_few b w1 hb).mono ?_
    rintro e w2 ⟨rfl, hb2⟩
    have HW2 := Lib.hid (HW1.out.next hb2)
    clear hb2 d0 d1 d2 d3 d4 d5 HW1
    rcases hfb : fewU b with _ | _
    · go_wp2_with fail
      refine (law10_works w2 (HG.out.next HW2.out.below)).mono ?_
      rintro e wz ⟨rfl, hbz⟩
      have HZ := Lib.hid (HW2.out.below.trans (hbz.mono HW2.out.below.size))
      clear hbz
      go_wp2_with fail
      go_ret
      exact ⟨rfl, HZ.out⟩
    · have HLB := Lib.hid (few_lim10 hfb)
      clear hfb
      by_cases hs : s.size ≤ 3000
      · have hsi : ¬ ((3000 : Int) < (s.size : Int)) := by omega
        obtain ⟨l, rfl⟩ : ∃ l : Bs, s = ⟨l.toArray⟩ := ⟨s.data.toList, rfl⟩
        have hll : l.length ≤ 3000 := by rw [← bs_size] at hs; exact hs
        obtain ⟨c0, c1, c2, c3, c4, c5⟩ := HW2.out.ba.cells
        go_wp2_with fail
        refine (uri_Check a w2 (HG.out.next HW2.out.below) HLA.out).mono ?_
        rintro e w3 ⟨rfl, hb3⟩
        have HW3 := Lib.hid (HW2.out.next hb3)
        clear hb3 c0 c1 c2 c3 c4 c5 HW2
        obtain ⟨c0, c1, c2, c3, c4, c5⟩ := HW3.out.ba.cells
        by_cases hca : checkB a = 0
        · have HE := Lib.hid (ref_empty hca)
          have HCA := Lib.hid hca
          have HOA := Lib.hid ((checkB_ok a).1 hca)
          rw [hca]
          clear hca
          go_wp2_with fail
          refine (res_Ref a [] w3 (HG.out.next HW3.out.below) HLA.out (by decide)).mono ?_
          rintro e w4 ⟨rfl, hb4⟩
          rw [HE.out]
          have HW4 := Lib.hid (HW3.out.next hb4)
          have HB9 := Lib.hid (ubx_new w4 (normB a))
          have HW5 := Lib.hid (HW4.out.box (normB a))
          have HNA := Lib.hid (rfl : normB a = normB a)
          clear hb4 c0 c1 c2 c3 c4 c5 HW3 HE
          go_upto_region 7 with fail
          have HB9 := Lib.hid (show UBx (w4.alloc (.cells #[.string ⟨(normB a).scheme.toArray⟩, .string ⟨(normB a).host.toArray⟩, .int .i64 (normB a).port, .string ⟨(normB a).path.toArray⟩, .string ⟨(normB a).query.toArray⟩, .bool (normB a).hq] 23)) w4.heap.size (normB a) from HB9.out)
          have HW5 := Lib.hid (show WB w (w4.alloc (.cells #[.string ⟨(normB a).scheme.toArray⟩, .string ⟨(normB a).host.toArray⟩, .int .i64 (normB a).port, .string ⟨(normB a).path.toArray⟩, .string ⟨(normB a).query.toArray⟩, .bool (normB a).hq] 23)) a b from HW5.out)
          generalize w4.alloc (.cells #[.string ⟨(normB a).scheme.toArray⟩, .string ⟨(normB a).host.toArray⟩, .int .i64 (normB a).port, .string ⟨(normB a).path.toArray⟩, .string ⟨(normB a).query.toArray⟩, .bool (normB a).hq] 23) = W5 at *
          generalize w4.heap.size = b9 at *
          generalize hna : normB a = na at *
          have HNA := Lib.hid hna
          clear hna
          go_cut [56] (fun t wx => t = .bool false ∧ Hid (WB w wx a b))
          case first =>
            have HSd := Lib.hid (show Six2 b9 na w.heap.size a W5.drew from six2 HB9.out HW5.out.ba)
            have HWd := Lib.hid (show WB w W5.drew a b from HW5.out.next (Below.refl _ _).drew)
            have HBd := Lib.hid (show UBx W5.drew b9 na from HB9.out)
            go_region_held3 (Six2 b9 na w.heap.size a) (first | with_reducible exact HS6.out | with_reducible exact HSd.out)
              (first
                | (go_at_call 20; refine (uri_Normal a _ (HG.out.next HWd.out.below) HLA.out).mono ?_; rintro e w6 ⟨rfl, hb6⟩; rw [HNA.out]; have HW6 := Lib.hid (HWd.out.next hb6); have HS6 := Lib.hid (six2 (HBd.out.next hb6) HW6.out.ba); clear hb6))
            go_wp2_with fail
            go_meet
            exact ⟨rfl, HW6⟩
          case rest =>
            obtain ⟨rfl, HW6⟩ := hcut
            clear HW5 HB9 HW4
            obtain ⟨d0, d1, d2, d3, d4, d5⟩ := HW6.out.bb.cells
            go_wp2_with fail
            refine (uri_Check b wc (HG.out.next HW6.out.below) HLB.out).mono ?_
            rintro e w7 ⟨rfl, hb7⟩
            have HW7 := Lib.hid (HW6.out.next hb7)
            clear hb7 d0 d1 d2 d3 d4 d5 HW6
            go_upto_if 59 with fail
            go_cut [] (fun wx => Hid (WB w wx a b))
            case first =>
              by_cases hcb : checkB b = 0
              · have HOB := Lib.hid ((checkB_ok b).1 hcb)
                have HRB := Lib.hid (ref_text (a := a) (b := b) HCA.out ((checkB_ok b).1 hcb))
                have HPB := Lib.hid (show putB b = textB b by unfold putB; rw [(checkB_ok b).1 hcb]; rfl)
                have HTL := Lib.hid (text_len ((checkB_ok b).1 hcb))
                rw [hcb]
                clear hcb
                generalize hnb : normB b = nb at *
                have HNB := Lib.hid hnb
                clear hnb
                have HSd := Lib.hid (show Six2 w.heap.size a (w.heap.size + 1) b w7.drew from six2 HW7.out.ba HW7.out.bb)
                have HWd := Lib.hid (show WB w w7.drew a b from HW7.out.next (Below.refl _ _).drew)
                have HTL2 := Lib.hid (show (textB b).length ≤ 1000000 by have := HTL.out; omega)
                have HWd0 := Lib.hid (show WB w ((w7.alloc (.cells #[.string ⟨#[]⟩, .string ⟨#[]⟩, .int .i64 0, .string ⟨#[]⟩, .string ⟨#[]⟩, .bool false] 23)).drew) a b from (HW7.out.box noU).next (Below.refl _ _).drew)
                have HS7a := Lib.hid (show Six2 w.heap.size a (w.heap.size + 1) b ((w7.alloc (.cells #[.string ⟨#[]⟩, .string ⟨#[]⟩, .int .i64 0, .string ⟨#[]⟩, .string ⟨#[]⟩, .bool false] 23)).drew) from six2 HWd0.out.ba HWd0.out.bb)
                have HBz0 := Lib.hid (show UBx ((w7.alloc (.cells #[.string ⟨#[]⟩, .string ⟨#[]⟩, .int .i64 0, .string ⟨#[]⟩, .string ⟨#[]⟩, .bool false] 23)).drew) w7.heap.size noU from ubx_new w7 noU)
                have hz7 : w.heap.size + 1 < w7.heap.size := HW7.out.bb.lt
                go_wp2_with fail
                go_upto_region 10 with fail
                go_cut [11, 12] (fun t t2 wx => Third w wx a b nb t t2)
                case first =>
                  go_region_held3 (Six2 w.heap.size a (w.heap.size + 1) b) (first | with_reducible exact HSd.out | with_reducible exact HS7a.out | with_reducible exact HS8.out | with_reducible exact HS8a.out | with_reducible exact HS9.out | with_reducible exact HSa.out | with_reducible exact HSb.out | with_reducible exact HSc.out)
                    (first
                      | (go_at_call 18; (with_reducible refine (uri_Put b w7.drew (HG.out.next HWd.out.below) HLB.out).mono ?_); rintro e w8 ⟨rfl, hb8⟩; rw [HPB.out]; have HW8 := Lib.hid (HWd.out.next hb8); have HS8 := Lib.hid (six2 HW8.out.ba HW8.out.bb); have hz8 : w.heap.size + 1 < w8.heap.size := HW8.out.bb.lt; have HW8a := Lib.hid (show WB w (w8.alloc (.cells #[.string ⟨#[]⟩, .string ⟨#[]⟩, .int .i64 0, .string ⟨#[]⟩, .string ⟨#[]⟩, .bool false] 23)) a b from HW8.out.box noU); have HS8a := Lib.hid (show Six2 w.heap.size a (w.heap.size + 1) b (w8.alloc (.cells #[.string ⟨#[]⟩, .string ⟨#[]⟩, .int .i64 0, .string ⟨#[]⟩, .string ⟨#[]⟩, .bool false] 23)) from six2 HW8a.out.ba HW8a.out.bb); have HBz1 := Lib.hid (show UBx (w8.alloc (.cells #[.string ⟨#[]⟩, .string ⟨#[]⟩, .int .i64 0, .string ⟨#[]⟩, .string ⟨#[]⟩, .bool false] 23)) w8.heap.size noU from ubx_new w8 noU); clear hb8)
                      | (go_at_call 18; (with_reducible refine (uri_Put b ((w7.alloc (.cells #[.string ⟨#[]⟩, .string ⟨#[]⟩, .int .i64 0, .string ⟨#[]⟩, .string ⟨#[]⟩, .bool false] 23)).drew) (HG.out.next HWd0.out.below) HLB.out).mono ?_); rintro e w8 ⟨rfl, hb8⟩; rw [HPB.out]; have HW8 := Lib.hid (HWd0.out.next hb8); have HS8 := Lib.hid (six2 HW8.out.ba HW8.out.bb); have HBz := Lib.hid (HBz0.out.next hb8); clear hb8)
                      | (go_at_call 32; (with_reducible refine (res_Ref a (textB b) (w8.alloc (.cells #[.string ⟨#[]⟩, .string ⟨#[]⟩, .int .i64 0, .string ⟨#[]⟩, .string ⟨#[]⟩, .bool false] 23)) (HG.out.next HW8a.out.below) HLA.out HTL2.out).mono ?_); rintro e w9 ⟨rfl, hb9⟩; rw [HRB.out]; have HW9 := Lib.hid (HW8a.out.next hb9); have HS9 := Lib.hid (six2 HW9.out.ba HW9.out.bb); have HBz := Lib.hid (HBz1.out.next hb9); have rz := HBz.out.full; obtain ⟨z0, z1, z2, z3, z4, z5⟩ := rz.c; have y0 := rz.f0; have y1 := rz.f1; have y2 := rz.f2; have y3 := rz.f3; have y4 := rz.f4; have y5 := rz.f5; clear rz; have HSc := Lib.hid (show Six2 w.heap.size a (w.heap.size + 1) b ((((((w9.setCell ⟨w8.heap.size, 0, none⟩ (.string ⟨nb.scheme.toArray⟩)).setCell ⟨w8.heap.size, 1, none⟩ (.string ⟨nb.host.toArray⟩)).setCell ⟨w8.heap.size, 2, none⟩ (.int .i64 nb.port)).setCell ⟨w8.heap.size, 3, none⟩ (.string ⟨nb.path.toArray⟩)).setCell ⟨w8.heap.size, 4, none⟩ (.string ⟨nb.query.toArray⟩)).setCell ⟨w8.heap.size, 5, none⟩ (.bool nb.hq)) from six2 (HW9.out.put9 hz8 nb).ba (HW9.out.put9 hz8 nb).bb); have HT := Lib.hid (show Third w ((((((w9.setCell ⟨w8.heap.size, 0, none⟩ (.string ⟨nb.scheme.toArray⟩)).setCell ⟨w8.heap.size, 1, none⟩ (.string ⟨nb.host.toArray⟩)).setCell ⟨w8.heap.size, 2, none⟩ (.int .i64 nb.port)).setCell ⟨w8.heap.size, 3, none⟩ (.string ⟨nb.path.toArray⟩)).setCell ⟨w8.heap.size, 4, none⟩ (.string ⟨nb.query.toArray⟩)).setCell ⟨w8.heap.size, 5, none⟩ (.bool nb.hq)) a b nb (.pointer (some ⟨w8.heap.size, 0, none⟩)) (.int .i64 0) from ⟨_, rfl, rfl, HW9.out.put9 hz8 nb, HBz.out.set9 nb⟩); clear hb9)
                      | (go_at_call 32; (with_reducible refine (res_Ref a (textB b) w8 (HG.out.next HW8.out.below) HLA.out HTL2.out).mono ?_); rintro e w9 ⟨rfl, hb9⟩; rw [HRB.out]; have HW9 := Lib.hid (HW8.out.next hb9); have HS9 := Lib.hid (six2 HW9.out.ba HW9.out.bb); have HBz := Lib.hid (HBz.out.next hb9); have rz := HBz.out.full; obtain ⟨z0, z1, z2, z3, z4, z5⟩ := rz.c; have y0 := rz.f0; have y1 := rz.f1; have y2 := rz.f2; have y3 := rz.f3; have y4 := rz.f4; have y5 := rz.f5; clear rz; have HSc := Lib.hid (show Six2 w.heap.size a (w.heap.size + 1) b ((((((w9.setCell ⟨w7.heap.size, 0, none⟩ (.string ⟨nb.scheme.toArray⟩)).setCell ⟨w7.heap.size, 1, none⟩ (.string ⟨nb.host.toArray⟩)).setCell ⟨w7.heap.size, 2, none⟩ (.int .i64 nb.port)).setCell ⟨w7.heap.size, 3, none⟩ (.string ⟨nb.path.toArray⟩)).setCell ⟨w7.heap.size, 4, none⟩ (.string ⟨nb.query.toArray⟩)).setCell ⟨w7.heap.size, 5, none⟩ (.bool nb.hq)) from six2 (HW9.out.put9 hz7 nb).ba (HW9.out.put9 hz7 nb).bb); have HT := Lib.hid (show Third w ((((((w9.setCell ⟨w7.heap.size, 0, none⟩ (.string ⟨nb.scheme.toArray⟩)).setCell ⟨w7.heap.size, 1, none⟩ (.string ⟨nb.host.toArray⟩)).setCell ⟨w7.heap.size, 2, none⟩ (.int .i64 nb.port)).setCell ⟨w7.heap.size, 3, none⟩ (.string ⟨nb.path.toArray⟩)).setCell ⟨w7.heap.size, 4, none⟩ (.string ⟨nb.query.toArray⟩)).setCell ⟨w7.heap.size, 5, none⟩ (.bool nb.hq)) a b nb (.pointer (some ⟨w7.heap.size, 0, none⟩)) (.int .i64 0) from ⟨_, rfl, rfl, HW9.out.put9 hz7 nb, HBz.out.set9 nb⟩); clear hb9)
                      | (go_at_call 32; (with_reducible refine (res_Ref a (textB b) w8 (HG.out.next HW8.out.below) HLA.out HTL2.out).mono ?_); rintro e w9 ⟨rfl, hb9⟩; rw [HRB.out]; have HW9 := Lib.hid (HW8.out.next hb9); have HS9 := Lib.hid (six2 HW9.out.ba HW9.out.bb); have HSa := Lib.hid (show Six2 w.heap.size a (w.heap.size + 1) b (w9.alloc (.cells #[.string ⟨#[]⟩, .string ⟨#[]⟩, .int .i64 0, .string ⟨#[]⟩, .string ⟨#[]⟩, .bool false] 23)) from six2 (HW9.out.box noU).ba (HW9.out.box noU).bb); have HSb := Lib.hid (show Six2 w.heap.size a (w.heap.size + 1) b (w9.alloc (.cells #[.string ⟨nb.scheme.toArray⟩, .string ⟨nb.host.toArray⟩, .int .i64 nb.port, .string ⟨nb.path.toArray⟩, .string ⟨nb.query.toArray⟩, .bool nb.hq] 23)) from six2 (HW9.out.box nb).ba (HW9.out.box nb).bb); have HT := Lib.hid (show Third w (w9.alloc (.cells #[.string ⟨nb.scheme.toArray⟩, .string ⟨nb.host.toArray⟩, .int .i64 nb.port, .string ⟨nb.path.toArray⟩, .string ⟨nb.query.toArray⟩, .bool nb.hq] 23)) a b nb (.pointer (some ⟨w9.heap.size, 0, none⟩)) (.int .i64 0) from ⟨_, rfl, rfl, HW9.out.box nb, ubx_new w9 nb⟩); clear hb9))
                  all_goals
                    go_wp2_with fail
                    go_meet
                    with_reducible exact HT.out
                case rest =>
                obtain ⟨bx, rfl, rfl, hwx, hbx⟩ := hcut
                have HWx := Lib.hid hwx
                have HBx := Lib.hid hbx
                clear hwx hbx HBz0 HS7a HWd0
                obtain ⟨Wx, rfl⟩ : ∃ W', W' = wc := ⟨_, rfl⟩
                clear HSd HWd
                have HSd := Lib.hid (show Six2 bx nb (w.heap.size + 1) b Wx.drew from six2 HBx.out HWx.out.bb)
                have HWd := Lib.hid (show WB w Wx.drew a b from HWx.out.next (Below.refl _ _).drew)
                have HBd := Lib.hid (show UBx Wx.drew bx nb from HBx.out)
                go_wp2_with fail
                go_region_held3 (Six2 bx nb (w.heap.size + 1) b) (first | with_reducible exact HS10.out | with_reducible exact HSd.out)
                  (first
                    | (go_at_call 20; refine (uri_Normal b _ (HG.out.next HWd.out.below) HLB.out).mono ?_; rintro e w10 ⟨rfl, hb10⟩; rw [HNB.out]; have HW10 := Lib.hid (HWd.out.next hb10); have HS10 := Lib.hid (six2 (HBd.out.next hb10) HW10.out.bb); clear hb10))
                go_wp2_with fail
                go_meet
                exact HW10
              · have hci : (checkB b == 0) = false := by rw [beq_eq_false_iff_ne]; exact hcb
                clear hcb
                go_wp2_with fail
                go_meet
                exact HW7
            case rest =>
              have HW8 := hcut
              clear hcut HW7
              obtain ⟨d0, d1, d2, d3, d4, d5⟩ := HW8.out.ba.cells
              go_wp2_with fail
              refine (res_Ref a l _ (HG.out.next HW8.out.below) HLA.out (by omega)).mono ?_
              rintro e w9 ⟨rfl, hb9⟩
              have HW9 := Lib.hid (HW8.out.next hb9)
              clear hb9 d0 d1 d2 d3 d4 d5
              rcases ref_cases a l with ⟨v0, hv, hok⟩ | ⟨ec, hv, he⟩
              · rw [hv]
                have hnok := norm_ok hok
                have hidem := norm_idem hok
                clear hv hok
                generalize normB v0 = v at *
                have HOK := Lib.hid hnok
                have HID := Lib.hid hidem
                have HRV := Lib.hid (show refB v [] = (v, 0) by rw [ref_empty ((checkB_ok v).2 hnok), hidem])
                have HCV := Lib.hid ((checkB_ok v).2 hnok)
                clear hnok hidem
                have HWv := Lib.hid (show WB w (w9.alloc (.cells #[.string ⟨v.scheme.toArray⟩, .string ⟨v.host.toArray⟩, .int .i64 v.port, .string ⟨v.path.toArray⟩, .string ⟨v.query.toArray⟩, .bool v.hq] 23)) a b from HW9.out.box v)
                have HBv := Lib.hid (show UBx (w9.alloc (.cells #[.string ⟨v.scheme.toArray⟩, .string ⟨v.host.toArray⟩, .int .i64 v.port, .string ⟨v.path.toArray⟩, .string ⟨v.query.toArray⟩, .bool v.hq] 23)) w9.heap.size v from ubx_new w9 v)
                obtain ⟨d0, d1, d2, d3, d4, d5⟩ := HBv.out.cells
                go_wp2_with fail
                generalize w9.alloc (.cells #[.string ⟨v.scheme.toArray⟩, .string ⟨v.host.toArray⟩, .int .i64 v.port, .string ⟨v.path.toArray⟩, .string ⟨v.query.toArray⟩, .bool v.hq] 23) = Wv at *
                generalize w9.heap.size = bv at *
                refine (res_Ref v [] Wv (HG.out.next HWv.out.below) (limU_ok HOK.out) (by decide)).mono ?_
                rintro e w11 ⟨rfl, hb11⟩
                rw [HRV.out]
                have HW11 := Lib.hid (HWv.out.next hb11)
                have HB11 := Lib.hid (HBv.out.next hb11)
                have HWy := Lib.hid (show WB w (w11.alloc (.cells #[.string ⟨v.scheme.toArray⟩, .string ⟨v.host.toArray⟩, .int .i64 v.port, .string ⟨v.path.toArray⟩, .string ⟨v.query.toArray⟩, .bool v.hq] 23)) a b from HW11.out.box v)
                have HBy := Lib.hid (show UBx (w11.alloc (.cells #[.string ⟨v.scheme.toArray⟩, .string ⟨v.host.toArray⟩, .int .i64 v.port, .string ⟨v.path.toArray⟩, .string ⟨v.query.toArray⟩, .bool v.hq] 23)) bv v from HB11.out.next ((Below.refl _ _).alloc (Nat.le_refl _) _))
                have HBz := Lib.hid (show UBx (w11.alloc (.cells #[.string ⟨v.scheme.toArray⟩, .string ⟨v.host.toArray⟩, .int .i64 v.port, .string ⟨v.path.toArray⟩, .string ⟨v.query.toArray⟩, .bool v.hq] 23)) w11.heap.size v from ubx_new w11 v)
                clear hb11 d0 d1 d2 d3 d4 d5
                go_upto_region 17 with fail
                generalize w11.alloc (.cells #[.string ⟨v.scheme.toArray⟩, .string ⟨v.host.toArray⟩, .int .i64 v.port, .string ⟨v.path.toArray⟩, .string ⟨v.query.toArray⟩, .bool v.hq] 23) = Wy at *
                generalize w11.heap.size = bz at *
                have HSd := Lib.hid (show Six2 bv v bz v Wy.drew from six2 HBy.out HBz.out)
                have HWd := Lib.hid (show WB w Wy.drew a b from HWy.out.next (Below.refl _ _).drew)
                have HBd := Lib.hid (show UBx Wy.drew bv v from HBy.out)
                have HCd := Lib.hid (show UBx Wy.drew bz v from HBz.out)
                go_region_held3 (Six2 bv v bz v) (with_reducible exact HSd.out)
                  (first
                    | (go_at_call 16; refine (uri_Check v _ (HG.out.next HWd.out.below) (limU_ok HOK.out)).mono ?_; rintro e w12 ⟨rfl, hb12⟩; rw [HCV.out]; have HWd := Lib.hid (HWd.out.next hb12); have HBd := Lib.hid (HBd.out.next hb12); have HCd := Lib.hid (HCd.out.next hb12); have HSd := Lib.hid (six2 HBd.out HCd.out); clear hb12)
                    | (go_at_call 20; refine (uri_Normal v _ (HG.out.next HWd.out.below) (limU_ok HOK.out)).mono ?_; rintro e w12 ⟨rfl, hb12⟩; rw [HID.out]; have HWd := Lib.hid (HWd.out.next hb12); have HBd := Lib.hid (HBd.out.next hb12); have HCd := Lib.hid (HCd.out.next hb12); have HSd := Lib.hid (six2 HBd.out HCd.out); clear hb12)
                    | (go_at_call 31; refine (law10_works _ (HG.out.next HWd.out.below)).mono ?_; rintro e w12 ⟨rfl, hb12⟩; have HWd := Lib.hid (HWd.out.next hb12); have HBd := Lib.hid (HBd.out.next hb12); have HCd := Lib.hid (HCd.out.next hb12); have HSd := Lib.hid (six2 HBd.out HCd.out); clear hb12))
                go_wp2_with fail
                go_ret
                exact ⟨rfl, HWd.out.below⟩
              · rw [hv]
                have HWn := Lib.hid (HW9.out.box noU)
                have HBn := Lib.hid (ubx_new w9 noU)
                obtain ⟨d0, d1, d2, d3, d4, d5⟩ := HBn.out.cells
                clear hv
                unfold noU at *
                rcases he with rfl | rfl | rfl
                all_goals
                  go_wp2_with fail
                  refine (law10_works _ (HG.out.next HWn.out.below)).mono ?_
                  rintro e wz ⟨rfl, hbz⟩
                  have HZ := Lib.hid (HWn.out.below.trans (hbz.mono HWn.out.below.size))
                  clear hbz
                  go_wp2_with fail
                  go_ret
                  exact ⟨rfl, HZ.out⟩
        · have HE := Lib.hid (ref_arg (b := a) (s := []) (by simp) hca)
          rcases check_codes hca with h3 | h3
          all_goals
            rw [h3]
            clear hca h3
            go_wp2_with fail
            refine (res_Ref a [] w3 (HG.out.next HW3.out.below) HLA.out (by decide)).mono ?_
            rintro e w4 ⟨rfl, hb4⟩
            rw [HE.out]
            have HW5 := Lib.hid ((HW3.out.next hb4).box noU)
            clear hb4 c0 c1 c2 c3 c4 c5
            go_wp2_with fail
            refine (law10_works _ (HG.out.next HW5.out.below)).mono ?_
            rintro e wz ⟨rfl, hbz⟩
            have HZ := Lib.hid (HW5.out.below.trans (hbz.mono HW5.out.below.size))
            clear hbz
            go_wp2_with fail
            go_ret
            exact ⟨rfl, HZ.out⟩
      · have hsi : (3000 : Int) < (s.size : Int) := by omega
        go_wp2_with fail
        refine (law10_works w2 (HG.out.next HW2.out.below)).mono ?_
        rintro e wz ⟨rfl, hbz⟩
        have HZ := Lib.hid (HW2.out.below.trans (hbz.mono HW2.out.below.size))
        clear hbz
        go_wp2_with fail
        go_ret
        exact ⟨rfl, HZ.out⟩
end Go.Proofs.YtobhceopfjcmnaaGreatDoor
