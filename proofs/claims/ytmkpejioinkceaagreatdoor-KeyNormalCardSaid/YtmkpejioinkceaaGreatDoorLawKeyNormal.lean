/- The law KeyNormal: two addresses have one key just if they have one normal form. -/
import Derived.Test.YtmkpejioinkceaaGreatDoorKeyAwake
import Derived.Test.YtmkpejioinkceaaGreatDoorKeyLong
import Derived.Deep.RegionHeld3
namespace Go.Proofs.YtmkpejioinkceaaGreatDoor
open Go.RowKit
set_option linter.unusedVariables false

abbrev SixK (b : Nat) (u : U) (c : Nat) (v : U) (w' : World) : Prop := SixU b u w' ∧ SixU c v w'
/-- Both addresses where they lie. -/
structure TwoU (w W : World) (a b : U) : Prop where
  below : Below w.heap.size w W
  ua : UBx W w.heap.size a
  ub : UBx W (w.heap.size + 1) b
theorem TwoU.next {w W W' : World} {a b : U} (h : TwoU w W a b) (hb : Below W.heap.size W W') : TwoU w W' a b := ⟨h.below.trans (hb.mono h.below.size), h.ua.next hb, h.ub.next hb⟩
theorem TwoU.six {w W : World} {a b : U} (h : TwoU w W a b) : SixK w.heap.size a (w.heap.size + 1) b W := ⟨h.ua.six, h.ub.six⟩
theorem TwoU.awake {w W : World} {a b : U} (h : TwoU w W a b) (hg : GX w) : Calls Tryz.prog 9 #[] W (fun e W' => e = .returned (.bool true) ∧ Hid (TwoU w W' a b)) :=
  (law17_awake W (hg.next h.below)).mono fun e W' ⟨he, hb⟩ => ⟨he, Lib.hid (h.next hb)⟩

set_option maxRecDepth 100000 in
set_option maxHeartbeats 2000000 in
theorem law17_KeyNormal_no (a b : U) (w : World) (hg : GX w) (ha : BigU a) (hb : BigU b) (hno : longU a = true ∨ (longU a = false ∧ longU b = true) ∨ (longU a = false ∧ longU b = false ∧ checkB a ≠ 0) ∨ (longU a = false ∧ longU b = false ∧ checkB a = 0 ∧ checkB b ≠ 0)) :
    Calls Tryz.prog 6 #[uV a, uV b] w (Ret w (.bool true)) := by
  have HT := two_new w (.cells #[.string ⟨a.scheme.toArray⟩, .string ⟨a.host.toArray⟩, .int .i64 a.port, .string ⟨a.path.toArray⟩, .string ⟨a.query.toArray⟩, .bool a.hq] 23) (.cells #[.string ⟨b.scheme.toArray⟩, .string ⟨b.host.toArray⟩, .int .i64 b.port, .string ⟨b.path.toArray⟩, .string ⟨b.query.toArray⟩, .bool b.hq] 23)
  have HG := Lib.hid hg
  have HA := Lib.hid ha
  have HBB := Lib.hid hb
  have HU := Lib.hid (show TwoU w _ a b from ⟨HT.below, HT.b1, HT.b2⟩)
  obtain ⟨⟨c0, c1, c2, c3, c4, c5⟩, ⟨d0, d1, d2, d3, d4, d5⟩⟩ := HU.out.six
  clear HT hg ha hb
  go_enter Tryz.func6, Tryz.ntmps6
  go_wp2_with fail
  generalize (w.alloc (.cells #[.string ⟨a.scheme.toArray⟩, .string ⟨a.host.toArray⟩, .int .i64 a.port, .string ⟨a.path.toArray⟩, .string ⟨a.query.toArray⟩, .bool a.hq] 23)).alloc (.cells #[.string ⟨b.scheme.toArray⟩, .string ⟨b.host.toArray⟩, .int .i64 b.port, .string ⟨b.path.toArray⟩, .string ⟨b.query.toArray⟩, .bool b.hq] 23) = W at *
  refine (law17_long a W HA.out).mono ?_
  rintro e w1 ⟨rfl, hb1⟩
  have HU1 := Lib.hid (HU.out.next hb1)
  clear hb1 c0 c1 c2 c3 c4 c5 d0 d1 d2 d3 d4 d5
  obtain ⟨⟨c0, c1, c2, c3, c4, c5⟩, ⟨d0, d1, d2, d3, d4, d5⟩⟩ := HU1.out.six
  rcases hno with h1 | ⟨h1, h2⟩ | ⟨h1, h2, h3⟩ | ⟨h1, h2, h3, h4⟩
  · rw [h1]
    go_wp2_with fail
    refine (HU1.out.awake HG.out).mono ?_
    rintro e w2 ⟨rfl, HU2⟩
    go_wp2_with fail
    go_ret
    exact ⟨rfl, HU2.out.below⟩
  · rw [h1]
    go_wp2_with fail
    refine (law17_long b w1 HBB.out).mono ?_
    rintro e w2 ⟨rfl, hb2⟩
    have HU2 := Lib.hid (HU1.out.next hb2)
    rw [h2]
    clear hb2 c0 c1 c2 c3 c4 c5 d0 d1 d2 d3 d4 d5
    go_wp2_with fail
    refine (HU2.out.awake HG.out).mono ?_
    rintro e w3 ⟨rfl, HU3⟩
    go_wp2_with fail
    go_ret
    exact ⟨rfl, HU3.out.below⟩
  · rw [h1]
    have HL := Lib.hid (not_long h1)
    have q3 : (checkB a == 0) = false := beq_eq_false_iff_ne.2 h3
    clear h3
    obtain ⟨ca, hca⟩ : ∃ ca, checkB a = ca := ⟨_, rfl⟩
    rw [hca] at q3
    have HCA := Lib.hid hca
    have HQ3 := Lib.hid q3
    clear hca q3
    go_wp2_with fail
    refine (law17_long b w1 HBB.out).mono ?_
    rintro e w2 ⟨rfl, hb2⟩
    have HU2 := Lib.hid (HU1.out.next hb2)
    rw [h2]
    clear hb2 c0 c1 c2 c3 c4 c5 d0 d1 d2 d3 d4 d5
    obtain ⟨⟨c0, c1, c2, c3, c4, c5⟩, ⟨d0, d1, d2, d3, d4, d5⟩⟩ := HU2.out.six
    go_wp2_with fail
    refine (uri_Check a w2 (HG.out.next HU2.out.below) HL.out).mono ?_
    rintro e w3 ⟨rfl, hb3⟩
    have HU3 := Lib.hid (HU2.out.next hb3)
    rw [HCA.out]
    have q3 := HQ3.out
    have q4 : (ca != 0) = true := by rw [bne, HQ3.out]; rfl
    clear hb3 c0 c1 c2 c3 c4 c5 d0 d1 d2 d3 d4 d5
    go_wp2_with fail
    refine (HU3.out.awake HG.out).mono ?_
    rintro e w4 ⟨rfl, HU4⟩
    go_wp2_with fail
    go_ret
    exact ⟨rfl, HU4.out.below⟩
  · rw [h1]
    have HL := Lib.hid (not_long h1)
    have HL2 := Lib.hid (not_long h2)
    have q3 : (checkB b == 0) = false := beq_eq_false_iff_ne.2 h4
    have H3 := Lib.hid h3
    clear h4 h3
    obtain ⟨ca, hca⟩ : ∃ ca, checkB b = ca := ⟨_, rfl⟩
    rw [hca] at q3
    have HCA := Lib.hid hca
    have HQ3 := Lib.hid q3
    clear hca q3
    go_wp2_with fail
    refine (law17_long b w1 HBB.out).mono ?_
    rintro e w2 ⟨rfl, hb2⟩
    have HU2 := Lib.hid (HU1.out.next hb2)
    rw [h2]
    clear hb2 c0 c1 c2 c3 c4 c5 d0 d1 d2 d3 d4 d5
    obtain ⟨⟨c0, c1, c2, c3, c4, c5⟩, ⟨d0, d1, d2, d3, d4, d5⟩⟩ := HU2.out.six
    go_wp2_with fail
    refine (uri_Check a w2 (HG.out.next HU2.out.below) HL.out).mono ?_
    rintro e w3 ⟨rfl, hb3⟩
    have HU3 := Lib.hid (HU2.out.next hb3)
    rw [H3.out]
    clear hb3 c0 c1 c2 c3 c4 c5 d0 d1 d2 d3 d4 d5
    obtain ⟨⟨c0, c1, c2, c3, c4, c5⟩, ⟨d0, d1, d2, d3, d4, d5⟩⟩ := HU3.out.six
    go_wp2_with fail
    refine (uri_Check b w3 (HG.out.next HU3.out.below) HL2.out).mono ?_
    rintro e w4 ⟨rfl, hb4⟩
    have HU4 := Lib.hid (HU3.out.next hb4)
    rw [HCA.out]
    have q3 := HQ3.out
    have q4 : (ca != 0) = true := by rw [bne, HQ3.out]; rfl
    clear hb4 c0 c1 c2 c3 c4 c5 d0 d1 d2 d3 d4 d5
    go_wp2_with fail
    refine (HU4.out.awake HG.out).mono ?_
    rintro e w5 ⟨rfl, HU5⟩
    go_wp2_with fail
    go_ret
    exact ⟨rfl, HU5.out.below⟩
theorem keyOf_get (u : U) : keyOfB [71, 69, 84] u = keyB u := by
  have h : keyOfB [71, 69, 84] u = keyB u := rfl
  exact h
theorem keyOf_head (u : U) : keyOfB [72, 69, 65, 68] u = keyB u := by
  have h : keyOfB [72, 69, 65, 68] u = keyB u := rfl
  exact h
set_option maxRecDepth 100000 in
set_option maxHeartbeats 2000000 in
theorem law17_KeyNormal_yes (a b : U) (w : World) (hg : GX w) (ha : BigU a) (hb : BigU b) (h1 : longU a = false) (h2 : longU b = false) (h3 : checkB a = 0) (h4 : checkB b = 0) :
    Calls Tryz.prog 6 #[uV a, uV b] w (Ret w (.bool true)) := by
  have HT := two_new w (.cells #[.string ⟨a.scheme.toArray⟩, .string ⟨a.host.toArray⟩, .int .i64 a.port, .string ⟨a.path.toArray⟩, .string ⟨a.query.toArray⟩, .bool a.hq] 23) (.cells #[.string ⟨b.scheme.toArray⟩, .string ⟨b.host.toArray⟩, .int .i64 b.port, .string ⟨b.path.toArray⟩, .string ⟨b.query.toArray⟩, .bool b.hq] 23)
  have HG := Lib.hid hg
  have HA := Lib.hid ha
  have HBB := Lib.hid hb
  have HU := Lib.hid (show TwoU w _ a b from ⟨HT.below, HT.b1, HT.b2⟩)
  have HL := Lib.hid (not_long h1)
  have HL2 := Lib.hid (not_long h2)
  have H1 := Lib.hid h1
  have H2 := Lib.hid h2
  have H3 := Lib.hid h3
  have H4 := Lib.hid h4
  have OA := Lib.hid ((checkB_ok a).1 h3)
  have OB := Lib.hid ((checkB_ok b).1 h4)
  have HLA := Lib.hid (lim_norm a)
  obtain ⟨⟨c0, c1, c2, c3, c4, c5⟩, ⟨d0, d1, d2, d3, d4, d5⟩⟩ := HU.out.six
  clear HT hg ha hb h1 h2 h3 h4
  go_enter Tryz.func6, Tryz.ntmps6
  go_wp2_with fail
  generalize (w.alloc (.cells #[.string ⟨a.scheme.toArray⟩, .string ⟨a.host.toArray⟩, .int .i64 a.port, .string ⟨a.path.toArray⟩, .string ⟨a.query.toArray⟩, .bool a.hq] 23)).alloc (.cells #[.string ⟨b.scheme.toArray⟩, .string ⟨b.host.toArray⟩, .int .i64 b.port, .string ⟨b.path.toArray⟩, .string ⟨b.query.toArray⟩, .bool b.hq] 23) = W at *
  refine (law17_long a W HA.out).mono ?_
  rintro e w1 ⟨rfl, hb1⟩
  have HU1 := Lib.hid (HU.out.next hb1)
  rw [H1.out]
  clear hb1 c0 c1 c2 c3 c4 c5 d0 d1 d2 d3 d4 d5
  obtain ⟨⟨c0, c1, c2, c3, c4, c5⟩, ⟨d0, d1, d2, d3, d4, d5⟩⟩ := HU1.out.six
  go_wp2_with fail
  refine (law17_long b w1 HBB.out).mono ?_
  rintro e w2 ⟨rfl, hb2⟩
  have HU2 := Lib.hid (HU1.out.next hb2)
  rw [H2.out]
  clear hb2 c0 c1 c2 c3 c4 c5 d0 d1 d2 d3 d4 d5
  obtain ⟨⟨c0, c1, c2, c3, c4, c5⟩, ⟨d0, d1, d2, d3, d4, d5⟩⟩ := HU2.out.six
  go_wp2_with fail
  refine (uri_Check a w2 (HG.out.next HU2.out.below) HL.out).mono ?_
  rintro e w3 ⟨rfl, hb3⟩
  have HU3 := Lib.hid (HU2.out.next hb3)
  rw [H3.out]
  clear hb3 c0 c1 c2 c3 c4 c5 d0 d1 d2 d3 d4 d5
  obtain ⟨⟨c0, c1, c2, c3, c4, c5⟩, ⟨d0, d1, d2, d3, d4, d5⟩⟩ := HU3.out.six
  go_wp2_with fail
  refine (uri_Check b w3 (HG.out.next HU3.out.below) HL2.out).mono ?_
  rintro e w4 ⟨rfl, hb4⟩
  have HU4 := Lib.hid (HU3.out.next hb4)
  rw [H4.out]
  clear hb4 c0 c1 c2 c3 c4 c5 d0 d1 d2 d3 d4 d5
  obtain ⟨⟨c0, c1, c2, c3, c4, c5⟩, ⟨d0, d1, d2, d3, d4, d5⟩⟩ := HU4.out.six
  go_wp2_with fail
  refine (key_Of [71, 69, 84] a w4 (HG.out.next HU4.out.below) HL.out).mono ?_
  rintro e w5 ⟨rfl, hb5⟩
  have HU5 := Lib.hid (HU4.out.next hb5)
  rw [keyOf_get]
  obtain ⟨ka, hka⟩ : ∃ ka, keyB a = ka := ⟨_, rfl⟩
  have HKA := Lib.hid hka
  have hkl := key_len a
  have hpk := key_parse OA.out
  rw [hka] at hkl hpk
  rw [hka]
  obtain ⟨na, hna⟩ : ∃ na, normB a = na := ⟨_, rfl⟩
  have HNA := Lib.hid hna
  rw [hna] at hpk HLA
  have HPK := Lib.hid hpk
  clear hb5 c0 c1 c2 c3 c4 c5 d0 d1 d2 d3 d4 d5 hka hpk hna
  go_wp2_with fail
  refine (uri_Parse ⟨ka.toArray⟩ w5 (HG.out.next HU5.out.below) (by show ka.length ≤ _; omega)).mono ?_
  rintro e w6 ⟨rfl, hb6⟩
  rw [show parseB (⟨ka.toArray⟩ : ByteArray).data.toList = (na, 0) from HPK.out]
  have HU6 := Lib.hid ((HU5.out.next hb6).next ((Below.refl _ _).alloc (Nat.le_refl _) (uObj na)))
  have HN6 := Lib.hid (ubx_new w6 na)
  clear hb6
  obtain ⟨c0, c1, c2, c3, c4, c5⟩ := HN6.out.cells
  go_wp2_with fail
  generalize w6.alloc (.cells #[.string ⟨na.scheme.toArray⟩, .string ⟨na.host.toArray⟩, .int .i64 na.port, .string ⟨na.path.toArray⟩, .string ⟨na.query.toArray⟩, .bool na.hq] 23) = W6 at *
  generalize w6.heap.size = bn at *
  refine (key_Of [72, 69, 65, 68] na W6 (HG.out.next HU6.out.below) HLA.out).mono ?_
  rintro e w7 ⟨rfl, hb7⟩
  rw [keyOf_head, show keyB na = ka by rw [← HNA.out, key_norm OA.out, HKA.out]]
  have HU7 := Lib.hid (HU6.out.next hb7)
  clear hb7 c0 c1 c2 c3 c4 c5 HN6
  obtain ⟨⟨c0, c1, c2, c3, c4, c5⟩, ⟨d0, d1, d2, d3, d4, d5⟩⟩ := HU7.out.six
  go_wp2_with fail
  refine (key_Of [72, 69, 65, 68] a w7 (HG.out.next HU7.out.below) HL.out).mono ?_
  rintro e w8 ⟨rfl, hb8⟩
  rw [keyOf_head, HKA.out]
  have HU8 := Lib.hid (HU7.out.next hb8)
  clear hb8 c0 c1 c2 c3 c4 c5 d0 d1 d2 d3 d4 d5
  have HSd := Lib.hid (show SixK w.heap.size a (w.heap.size + 1) b w8.drew from HU8.out.six)
  have HUd := Lib.hid (show TwoU w w8.drew a b from HU8.out.next ((Below.refl _ _).drew))
  obtain ⟨kb, hkb⟩ : ∃ kb, keyB b = kb := ⟨_, rfl⟩
  have HKB := Lib.hid hkb
  obtain ⟨nb, hnb⟩ : ∃ nb, normB b = nb := ⟨_, rfl⟩
  have HNB := Lib.hid hnb
  clear hkb hnb
  rcases Classical.em (na = nb) with rfl | hne
  · have hk : ka = kb := by rw [← HKA.out, ← HKB.out]; exact (key_iff OA.out OB.out).2 (by rw [HNA.out, HNB.out])
    subst hk
    go_wp2_with fail
    go_region_held3 (SixK w.heap.size a (w.heap.size + 1) b) (with_reducible exact HSd.out)
      (first
        | (go_at_call 10; (with_reducible refine (key_Of [71, 69, 84] b _ (HG.out.next HUd.out.below) HL2.out).mono ?_); rintro e wy ⟨rfl, hby⟩; rw [keyOf_get, HKB.out]; have HUd := Lib.hid (HUd.out.next hby); have HSd := Lib.hid HUd.out.six; clear hby)
        | (go_at_call 22; (with_reducible refine (uri_Normal a _ (HG.out.next HUd.out.below) HL.out).mono ?_); rintro e wy ⟨rfl, hby⟩; rw [HNA.out]; have HUd := Lib.hid (HUd.out.next hby); have HSd := Lib.hid HUd.out.six; clear hby)
        | (go_at_call 22; (with_reducible refine (uri_Normal b _ (HG.out.next HUd.out.below) HL2.out).mono ?_); rintro e wy ⟨rfl, hby⟩; rw [HNB.out]; have HUd := Lib.hid (HUd.out.next hby); have HSd := Lib.hid HUd.out.six; clear hby)
        | (go_at_call 9; (with_reducible refine (HUd.out.awake HG.out).mono ?_); rintro e wy ⟨rfl, HUd⟩; have HSd := Lib.hid HUd.out.six))
    all_goals
      go_wp2_with fail
      go_ret
      exact ⟨rfl, HUd.out.below⟩
  · have hk : ¬ ka = kb := fun e => hne (by rw [← HNA.out, ← HNB.out]; exact key_inj OA.out OB.out (by rw [HKA.out, HKB.out, e]))
    have qk : (ka == kb) = false := beq_eq_false_iff_ne.2 hk
    have HNE := Lib.hid hne
    clear hk hne
    obtain ⟨s1, n1, p1, t1, r1, g1⟩ := na
    obtain ⟨s2, n2, p2, t2, r2, g2⟩ := nb
    rcases Decidable.em (s1 = s2) with rfl | e1
    rotate_left
    · have q1 : (s1 == s2) = false := beq_eq_false_iff_ne.2 e1
      clear e1
      go_wp2_with fail
      go_region_held3 (SixK w.heap.size a (w.heap.size + 1) b) (with_reducible exact HSd.out)
        (first
          | (go_at_call 10; (with_reducible refine (key_Of [71, 69, 84] b _ (HG.out.next HUd.out.below) HL2.out).mono ?_); rintro e wy ⟨rfl, hby⟩; rw [keyOf_get, HKB.out]; have HUd := Lib.hid (HUd.out.next hby); have HSd := Lib.hid HUd.out.six; clear hby)
          | (go_at_call 22; (with_reducible refine (uri_Normal a _ (HG.out.next HUd.out.below) HL.out).mono ?_); rintro e wy ⟨rfl, hby⟩; rw [HNA.out]; have HUd := Lib.hid (HUd.out.next hby); have HSd := Lib.hid HUd.out.six; clear hby)
          | (go_at_call 22; (with_reducible refine (uri_Normal b _ (HG.out.next HUd.out.below) HL2.out).mono ?_); rintro e wy ⟨rfl, hby⟩; rw [HNB.out]; have HUd := Lib.hid (HUd.out.next hby); have HSd := Lib.hid HUd.out.six; clear hby)
          | (go_at_call 9; (with_reducible refine (HUd.out.awake HG.out).mono ?_); rintro e wy ⟨rfl, HUd⟩; have HSd := Lib.hid HUd.out.six))
      all_goals
        go_wp2_with fail
        go_ret
        exact ⟨rfl, HUd.out.below⟩
    rcases Decidable.em (n1 = n2) with rfl | e1
    rotate_left
    · have q1 : (n1 == n2) = false := beq_eq_false_iff_ne.2 e1
      clear e1
      go_wp2_with fail
      go_region_held3 (SixK w.heap.size a (w.heap.size + 1) b) (with_reducible exact HSd.out)
        (first
          | (go_at_call 10; (with_reducible refine (key_Of [71, 69, 84] b _ (HG.out.next HUd.out.below) HL2.out).mono ?_); rintro e wy ⟨rfl, hby⟩; rw [keyOf_get, HKB.out]; have HUd := Lib.hid (HUd.out.next hby); have HSd := Lib.hid HUd.out.six; clear hby)
          | (go_at_call 22; (with_reducible refine (uri_Normal a _ (HG.out.next HUd.out.below) HL.out).mono ?_); rintro e wy ⟨rfl, hby⟩; rw [HNA.out]; have HUd := Lib.hid (HUd.out.next hby); have HSd := Lib.hid HUd.out.six; clear hby)
          | (go_at_call 22; (with_reducible refine (uri_Normal b _ (HG.out.next HUd.out.below) HL2.out).mono ?_); rintro e wy ⟨rfl, hby⟩; rw [HNB.out]; have HUd := Lib.hid (HUd.out.next hby); have HSd := Lib.hid HUd.out.six; clear hby)
          | (go_at_call 9; (with_reducible refine (HUd.out.awake HG.out).mono ?_); rintro e wy ⟨rfl, HUd⟩; have HSd := Lib.hid HUd.out.six))
      all_goals
        go_wp2_with fail
        go_ret
        exact ⟨rfl, HUd.out.below⟩
    rcases Decidable.em (p1 = p2) with rfl | e1
    rotate_left
    · have q1 : (p1 == p2) = false := beq_eq_false_iff_ne.2 e1
      clear e1
      go_wp2_with fail
      go_region_held3 (SixK w.heap.size a (w.heap.size + 1) b) (with_reducible exact HSd.out)
        (first
          | (go_at_call 10; (with_reducible refine (key_Of [71, 69, 84] b _ (HG.out.next HUd.out.below) HL2.out).mono ?_); rintro e wy ⟨rfl, hby⟩; rw [keyOf_get, HKB.out]; have HUd := Lib.hid (HUd.out.next hby); have HSd := Lib.hid HUd.out.six; clear hby)
          | (go_at_call 22; (with_reducible refine (uri_Normal a _ (HG.out.next HUd.out.below) HL.out).mono ?_); rintro e wy ⟨rfl, hby⟩; rw [HNA.out]; have HUd := Lib.hid (HUd.out.next hby); have HSd := Lib.hid HUd.out.six; clear hby)
          | (go_at_call 22; (with_reducible refine (uri_Normal b _ (HG.out.next HUd.out.below) HL2.out).mono ?_); rintro e wy ⟨rfl, hby⟩; rw [HNB.out]; have HUd := Lib.hid (HUd.out.next hby); have HSd := Lib.hid HUd.out.six; clear hby)
          | (go_at_call 9; (with_reducible refine (HUd.out.awake HG.out).mono ?_); rintro e wy ⟨rfl, HUd⟩; have HSd := Lib.hid HUd.out.six))
      all_goals
        go_wp2_with fail
        go_ret
        exact ⟨rfl, HUd.out.below⟩
    rcases Decidable.em (t1 = t2) with rfl | e1
    rotate_left
    · have q1 : (t1 == t2) = false := beq_eq_false_iff_ne.2 e1
      clear e1
      go_wp2_with fail
      go_region_held3 (SixK w.heap.size a (w.heap.size + 1) b) (with_reducible exact HSd.out)
        (first
          | (go_at_call 10; (with_reducible refine (key_Of [71, 69, 84] b _ (HG.out.next HUd.out.below) HL2.out).mono ?_); rintro e wy ⟨rfl, hby⟩; rw [keyOf_get, HKB.out]; have HUd := Lib.hid (HUd.out.next hby); have HSd := Lib.hid HUd.out.six; clear hby)
          | (go_at_call 22; (with_reducible refine (uri_Normal a _ (HG.out.next HUd.out.below) HL.out).mono ?_); rintro e wy ⟨rfl, hby⟩; rw [HNA.out]; have HUd := Lib.hid (HUd.out.next hby); have HSd := Lib.hid HUd.out.six; clear hby)
          | (go_at_call 22; (with_reducible refine (uri_Normal b _ (HG.out.next HUd.out.below) HL2.out).mono ?_); rintro e wy ⟨rfl, hby⟩; rw [HNB.out]; have HUd := Lib.hid (HUd.out.next hby); have HSd := Lib.hid HUd.out.six; clear hby)
          | (go_at_call 9; (with_reducible refine (HUd.out.awake HG.out).mono ?_); rintro e wy ⟨rfl, HUd⟩; have HSd := Lib.hid HUd.out.six))
      all_goals
        go_wp2_with fail
        go_ret
        exact ⟨rfl, HUd.out.below⟩
    rcases Decidable.em (r1 = r2) with rfl | e1
    rotate_left
    · have q1 : (r1 == r2) = false := beq_eq_false_iff_ne.2 e1
      clear e1
      go_wp2_with fail
      go_region_held3 (SixK w.heap.size a (w.heap.size + 1) b) (with_reducible exact HSd.out)
        (first
          | (go_at_call 10; (with_reducible refine (key_Of [71, 69, 84] b _ (HG.out.next HUd.out.below) HL2.out).mono ?_); rintro e wy ⟨rfl, hby⟩; rw [keyOf_get, HKB.out]; have HUd := Lib.hid (HUd.out.next hby); have HSd := Lib.hid HUd.out.six; clear hby)
          | (go_at_call 22; (with_reducible refine (uri_Normal a _ (HG.out.next HUd.out.below) HL.out).mono ?_); rintro e wy ⟨rfl, hby⟩; rw [HNA.out]; have HUd := Lib.hid (HUd.out.next hby); have HSd := Lib.hid HUd.out.six; clear hby)
          | (go_at_call 22; (with_reducible refine (uri_Normal b _ (HG.out.next HUd.out.below) HL2.out).mono ?_); rintro e wy ⟨rfl, hby⟩; rw [HNB.out]; have HUd := Lib.hid (HUd.out.next hby); have HSd := Lib.hid HUd.out.six; clear hby)
          | (go_at_call 9; (with_reducible refine (HUd.out.awake HG.out).mono ?_); rintro e wy ⟨rfl, HUd⟩; have HSd := Lib.hid HUd.out.six))
      all_goals
        go_wp2_with fail
        go_ret
        exact ⟨rfl, HUd.out.below⟩
    rcases Decidable.em (g1 = g2) with rfl | e1
    rotate_left
    · have q1 : (g1 == g2) = false := beq_eq_false_iff_ne.2 e1
      clear e1
      go_wp2_with fail
      go_region_held3 (SixK w.heap.size a (w.heap.size + 1) b) (with_reducible exact HSd.out)
        (first
          | (go_at_call 10; (with_reducible refine (key_Of [71, 69, 84] b _ (HG.out.next HUd.out.below) HL2.out).mono ?_); rintro e wy ⟨rfl, hby⟩; rw [keyOf_get, HKB.out]; have HUd := Lib.hid (HUd.out.next hby); have HSd := Lib.hid HUd.out.six; clear hby)
          | (go_at_call 22; (with_reducible refine (uri_Normal a _ (HG.out.next HUd.out.below) HL.out).mono ?_); rintro e wy ⟨rfl, hby⟩; rw [HNA.out]; have HUd := Lib.hid (HUd.out.next hby); have HSd := Lib.hid HUd.out.six; clear hby)
          | (go_at_call 22; (with_reducible refine (uri_Normal b _ (HG.out.next HUd.out.below) HL2.out).mono ?_); rintro e wy ⟨rfl, hby⟩; rw [HNB.out]; have HUd := Lib.hid (HUd.out.next hby); have HSd := Lib.hid HUd.out.six; clear hby)
          | (go_at_call 9; (with_reducible refine (HUd.out.awake HG.out).mono ?_); rintro e wy ⟨rfl, HUd⟩; have HSd := Lib.hid HUd.out.six))
      all_goals
        go_wp2_with fail
        go_ret
        exact ⟨rfl, HUd.out.below⟩
    exact absurd rfl HNE.out
theorem law17_KeyNormal (a b : U) (w : World) (hg : GX w) (ha : BigU a) (hb : BigU b) :
    Calls Tryz.prog 6 #[uV a, uV b] w (Ret w (.bool true)) := by
  cases h1 : longU a
  · cases h2 : longU b
    · rcases Decidable.em (checkB a = 0) with h3 | h3
      · rcases Decidable.em (checkB b = 0) with h4 | h4
        · exact law17_KeyNormal_yes a b w hg ha hb h1 h2 h3 h4
        · exact law17_KeyNormal_no a b w hg ha hb (.inr (.inr (.inr ⟨h1, h2, h3, h4⟩)))
      · exact law17_KeyNormal_no a b w hg ha hb (.inr (.inr (.inl ⟨h1, h2, h3⟩)))
    · exact law17_KeyNormal_no a b w hg ha hb (.inr (.inl ⟨h1, h2⟩))
  · exact law17_KeyNormal_no a b w hg ha hb (.inl h1)
end Go.Proofs.YtmkpejioinkceaaGreatDoor
