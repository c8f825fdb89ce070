/- The walk of Normal: the normal form. -/
import Derived.Test.YtmkpejioinkceaaGreatDoorUriAll
import Derived.Test.YtmkpejioinkceaaGreatDoorUriUndo
import Derived.Test.YtmkpejioinkceaaGreatDoorText1
import Derived.Deep.RegionHeld3
namespace Go.Proofs.YtmkpejioinkceaaGreatDoor
open Go.RowKit
set_option linter.unusedVariables false

/-- What holds while a normal form is made: the URI's own box holds what is known, the result's box is as it began. -/
structure NA (w W : World) (u : U) : Prop where
  below : Below w.heap.size w W
  box : UBx W w.heap.size u
  res : UBx W (w.heap.size + 1) noU
theorem NA.next {w W W' : World} {u : U} (h : NA w W u) (hb : Below W.heap.size W W') : NA w W' u := ⟨h.below.trans (hb.mono h.below.size), h.box.next hb, h.res.next hb⟩
theorem NA.put {w W : World} {u u' : U} (h : NA w W u) (j : Nat) (v : Value) (hr : UBx (W.setCell ⟨w.heap.size, j, none⟩ v) w.heap.size u') : NA w (W.setCell ⟨w.heap.size, j, none⟩ v) u' :=
  ⟨h.below.setCell (p := ⟨w.heap.size, j, none⟩) (Nat.le_refl _) v, hr, h.res.other (by omega)⟩
theorem NA.s1 {w W : World} {u : U} (h : NA w W u) (x : Bs) : NA w (W.setCell ⟨w.heap.size, 1, none⟩ (.string ⟨x.toArray⟩)) { u with host := x } := h.put 1 _ (h.box.s1 x)
theorem NA.s2 {w W : World} {u : U} (h : NA w W u) (x : Int) : NA w (W.setCell ⟨w.heap.size, 2, none⟩ (.int .i64 x)) { u with port := x } := h.put 2 _ (h.box.s2 x)
theorem NA.s3 {w W : World} {u : U} (h : NA w W u) (x : Bs) : NA w (W.setCell ⟨w.heap.size, 3, none⟩ (.string ⟨x.toArray⟩)) { u with path := x } := h.put 3 _ (h.box.s3 x)
theorem NA.s4 {w W : World} {u : U} (h : NA w W u) (x : Bs) : NA w (W.setCell ⟨w.heap.size, 4, none⟩ (.string ⟨x.toArray⟩)) { u with query := x } := h.put 4 _ (h.box.s4 x)
theorem na_new (w : World) (u : U) : NA w ((w.alloc (.cells #[.string ⟨u.scheme.toArray⟩, .string ⟨u.host.toArray⟩, .int .i64 u.port, .string ⟨u.path.toArray⟩, .string ⟨u.query.toArray⟩, .bool u.hq] 23)).alloc (.cells #[.string ⟨#[]⟩, .string ⟨#[]⟩, .int .i64 0, .string ⟨#[]⟩, .string ⟨#[]⟩, .bool false] 23)) u :=
  have h := two_new w (.cells #[.string ⟨u.scheme.toArray⟩, .string ⟨u.host.toArray⟩, .int .i64 u.port, .string ⟨u.path.toArray⟩, .string ⟨u.query.toArray⟩, .bool u.hq] 23) (.cells #[.string ⟨#[]⟩, .string ⟨#[]⟩, .int .i64 0, .string ⟨#[]⟩, .string ⟨#[]⟩, .bool false] 23)
  ⟨h.below, h.b1, h.b2⟩
/-- All six cells, and that they may be stored into. -/
abbrev SixF (b : Nat) (u : U) (w' : World) : Prop := w'.cell? ⟨b, 0, none⟩ = some (.string ⟨u.scheme.toArray⟩) ∧ w'.cell? ⟨b, 1, none⟩ = some (.string ⟨u.host.toArray⟩) ∧ w'.cell? ⟨b, 2, none⟩ = some (.int .i64 u.port) ∧ w'.cell? ⟨b, 3, none⟩ = some (.string ⟨u.path.toArray⟩) ∧ w'.cell? ⟨b, 4, none⟩ = some (.string ⟨u.query.toArray⟩) ∧ w'.cell? ⟨b, 5, none⟩ = some (.bool u.hq)
theorem UBx.sixF {W : World} {b : Nat} {u : U} (h : UBx W b u) : SixF b u W := by
  obtain ⟨c0, c1, c2, c3, c4, c5⟩ := h.cells
  exact ⟨c0, c1, c2, c3, c4, c5⟩
theorem UBx.c34 {W : World} {b : Nat} {u : U} (h : UBx W b u) : W.cell? ⟨b, 3, none⟩ = some (.string ⟨u.path.toArray⟩) ∧ W.cell? ⟨b, 4, none⟩ = some (.string ⟨u.query.toArray⟩) := ⟨h.cells.c3, h.cells.c4⟩
/-- Is the port the scheme's own? -/
def portB0 (sc : Bs) (po : Int) : Bool := sc == http && po == 80 || sc == https && po == 443
theorem port0_http {po : Int} (h : ¬ po = 80) : portB0 http po = false := by
  unfold portB0
  rw [show (po == 80) = false from by rw [beq_eq_false_iff_ne]; exact h, show (http == https) = false from by decide]
  simp
theorem port0_https {po : Int} (h : ¬ po = 443) : portB0 https po = false := by
  unfold portB0
  rw [show (po == 443) = false from by rw [beq_eq_false_iff_ne]; exact h, show (https == http) = false from by decide]
  simp
theorem norm_no {u : U} (h : ¬ checkB u = 0) : normB u = noU := by
  unfold normB
  cases ho : okB u
  · rfl
  · exact (h ((checkB_ok u).2 ho)).elim
theorem check_codes {u : U} (h : ¬ checkB u = 0) : checkB u = 3 ∨ checkB u = 4 := by
  unfold checkB at h ⊢
  cases hf : formB u
  · exact .inr rfl
  · rw [hf] at h
    cases hd : decide ((textB u).length ≤ maxURI)
    · exact .inl rfl
    · rw [hd] at h; exact (h rfl).elim

set_option maxRecDepth 100000 in
set_option maxHeartbeats 1000000 in
theorem uri_Normal (u : U) (w : World) (hg : GX w) (hl : LimU u) : Calls Tryz.prog 22 #[uV u] w (Ret w (uV (normB u))) := by
  have HN := Lib.hid (na_new w u)
  have HG := Lib.hid hg
  have HL := Lib.hid hl
  clear hg hl
  obtain ⟨c0, c1, c2, c3, c4, c5⟩ := HN.out.box.cells
  go_enter Tryz.func22, Tryz.ntmps22
  go_wp2_with fail
  generalize (w.alloc (.cells #[.string ⟨u.scheme.toArray⟩, .string ⟨u.host.toArray⟩, .int .i64 u.port, .string ⟨u.path.toArray⟩, .string ⟨u.query.toArray⟩, .bool u.hq] 23)).alloc (.cells #[.string ⟨#[]⟩, .string ⟨#[]⟩, .int .i64 0, .string ⟨#[]⟩, .string ⟨#[]⟩, .bool false] 23) = W at *
  refine (uri_Check u W (HG.out.next HN.out.below) HL.out).mono ?_
  rintro e w1 ⟨rfl, hb1⟩
  have HN1 := Lib.hid (HN.out.next hb1)
  clear hb1 c0 c1 c2 c3 c4 c5 HN
  by_cases hc : checkB u = 0
  · have HO := Lib.hid ((checkB_ok u).1 hc)
    have hform := HO.out
    unfold okB at hform
    rw [Bool.and_eq_true, form_iff] at hform
    have f := hform.1
    obtain ⟨pr, hpe, hpm⟩ := f.path
    have HWP := Lib.hid (show wellB u.path = true by rw [hpe]; exact madeB_mono (fun _ _ => rfl) hpm)
    have HWQ := Lib.hid (show wellB u.query = true from madeB_mono (fun _ _ => rfl) f.made)
    have hsch := f.scheme
    have HB := Lib.hid (normB_ok HO.out)
    have l1 := HL.out.path
    have l2 := HL.out.query
    have l3 := HL.out.host
    have HUP := Lib.hid (undo_len (p := fun _ => true) HWP.out)
    rw [hc]
    clear hc hform f hpe hpm
    obtain ⟨sc, ho, po, pa, qu, hq⟩ := u
    simp only at hsch l1 l2 l3
    obtain ⟨c0, c1, c2, c3, c4, c5⟩ := HN1.out.box.cells
    simp only at c0 c1 c2 c3 c4 c5
    go_wp2_with fail
    refine (text_Lower ⟨ho.toArray⟩ w1 (by show ho.length ≤ _; omega)).mono ?_
    rintro e w2 ⟨rfl, hb2⟩
    have HN2 := Lib.hid (HN1.out.next hb2)
    clear hb2 c0 c1 c2 c3 c4 c5 HN1
    rw [show (⟨ho.toArray⟩ : ByteArray).data.toList = ho from rfl]
    have rb := HN2.out.box.full
    have f1 := rb.f1
    have d1 := rb.c.c1
    simp only at d1
    have HN3 := Lib.hid (HN2.out.s1 (lower ho))
    simp only at HN3
    obtain ⟨c0, c1, c2, c3, c4, c5⟩ := HN3.out.box.cells
    simp only at c0 c1 c2 c3 c4 c5
    have f2 := HN3.out.box.full.f2
    clear rb
    have q1 : (⟨pa.toArray⟩ : ByteArray).size ≤ 1000000 := by show pa.length ≤ _; omega
    have q2 : (⟨qu.toArray⟩ : ByteArray).size ≤ 1000000 := by show qu.length ≤ _; omega
    have q3 : (undoB pa).length ≤ 100000 := by have := HUP.out; omega
    have q1 := Lib.hid q1
    have q2 := Lib.hid q2
    have q3 := Lib.hid q3
    go_upto_region 4 with fail
    go_cut [28] (fun t wx => t = .bool (portB0 sc po) ∧ Hid (NA w wx ⟨sc, lower ho, po, pa, qu, hq⟩))
    case first =>
      rcases hsch with rfl | rfl
      · by_cases hp : po = 80
        · subst hp
          unfold http at *
          go_wp2_with fail
          go_meet
          exact ⟨rfl, HN3⟩
        · have p1 : (po == 80) = false := by rw [beq_eq_false_iff_ne]; exact hp
          have HPb := Lib.hid (port0_http hp)
          clear hp
          unfold http at *
          go_wp2_with fail
          go_meet
          exact ⟨by rw [HPb.out], HN3⟩
      · by_cases hp : po = 443
        · subst hp
          unfold https at *
          go_wp2_with fail
          go_meet
          exact ⟨rfl, HN3⟩
        · have p1 : (po == 443) = false := by rw [beq_eq_false_iff_ne]; exact hp
          have HPb := Lib.hid (port0_https hp)
          clear hp
          unfold https at *
          go_wp2_with fail
          go_meet
          exact ⟨by rw [HPb.out], HN3⟩
    case rest =>
      obtain ⟨rfl, HNa⟩ := hcut
      clear c0 c1 c2 c3 c4 c5 f1 f2 d1 HN2 HN3 hsch
      have HNP := Lib.hid (show normPort ⟨sc, ho, po, pa, qu, hq⟩ = bif portB0 sc po then 0 else po from rfl)
      have c2 := HNa.out.box.cells.c2
      have f2 := HNa.out.box.full.f2
      simp only at c2
      generalize lower ho = lh at *
      generalize portB0 sc po = pb at *
      generalize normPort ⟨sc, ho, po, pa, qu, hq⟩ = np at *
      go_upto_if 28 with fail
      go_cut [] (fun wx => Hid (NA w wx ⟨sc, lh, np, pa, qu, hq⟩))
      case first =>
        cases pb
        · have HNb := Lib.hid (show NA w _ ⟨sc, lh, np, pa, qu, hq⟩ by rw [HNP.out]; exact HNa.out)
          go_wp2_with fail
          go_meet
          exact HNb
        · have HNb := Lib.hid (show NA w _ ⟨sc, lh, np, pa, qu, hq⟩ by rw [HNP.out]; exact HNa.out.s2 0)
          go_wp2_with fail
          go_meet
          exact HNb
      case rest =>
        have HN4 := hcut
        clear hcut c2 f2 HNa HNP
        have HNd := Lib.hid (HN4.out.next (Below.refl _ _).drew)
        obtain ⟨c3, c4⟩ := HNd.out.box.c34
        simp only at c3 c4
        clear HN4
        go_upto_region 6 with fail
        go_cut [] (fun wx => Hid (NA w wx ⟨sc, lh, np, dotsB (undoB pa), undoB qu, hq⟩))
        case first =>
          go_region_with
            (first
              | (go_at_call 46; (with_reducible refine (uri_undo ⟨pa.toArray⟩ _ HWP.out q1.out).mono ?_); rintro e w5 ⟨rfl, hb5⟩; have HN5 := Lib.hid (HNd.out.next hb5); obtain ⟨c3, c4⟩ := HN5.out.box.c34; clear hb5; rw [show (⟨pa.toArray⟩ : ByteArray).data.toList = pa from rfl])
              | (go_at_call 45; refine (uri_Dots (undoB pa) _ (HG.out.next HN5.out.below).good q3.out).mono ?_; rintro e w6 ⟨rfl, hb6⟩; have HN6 := Lib.hid (HN5.out.next hb6); obtain ⟨c3, c4⟩ := HN6.out.box.c34; clear hb6)
              | (go_at_call 46; (with_reducible refine (uri_undo ⟨qu.toArray⟩ _ HWQ.out q2.out).mono ?_); rintro e w7 ⟨rfl, hb7⟩; have HN7 := Lib.hid (HN6.out.next hb7); obtain ⟨c3, c4⟩ := HN7.out.box.c34; have f3 := HN7.out.box.full.f3; have f4 := HN7.out.box.full.f4; clear hb7; rw [show (⟨qu.toArray⟩ : ByteArray).data.toList = qu from rfl]))
          all_goals
            have HN8 := HN7.out.s3 (dotsB (undoB pa))
            have HN9 := Lib.hid (show NA w _ ⟨sc, lh, np, dotsB (undoB pa), undoB qu, hq⟩ from HN8.s4 (undoB qu))
            clear HN8
            go_wp2_with fail
            go_meet
            exact HN9
        case rest =>
          have HN9 := hcut
          clear hcut c3 c4 HNd
          have HB9 := Lib.hid (show normB ⟨sc, ho, po, pa, qu, hq⟩ = ⟨sc, lh, np, dotsB (undoB pa), undoB qu, hq⟩ from HB.out)
          clear HB
          generalize dotsB (undoB pa) = dp at *
          generalize undoB qu = dq at *
          have HQ := Lib.hid (put6 ⟨sc, lh, np, dp, dq, hq⟩ HN9.out.below (Nat.le_succ _) HN9.out.res)
          obtain ⟨c0, c1, c2, c3, c4, c5⟩ := HN9.out.box.cells
          simp only at c0 c1 c2 c3 c4 c5
          have rb := HN9.out.res.full
          obtain ⟨r0, r1, r2, r3, r4, r5⟩ := rb.c
          have g0 := rb.f0
          have g1 := rb.f1
          have g2 := rb.f2
          have g3 := rb.f3
          have g4 := rb.f4
          have g5 := rb.f5
          clear rb
          go_wp2_with fail
          clear r0 r1 r2 r3 r4 r5 g0 g1 g2 g3 g4 g5 c0 c1 c2 c3 c4 c5
          obtain ⟨k0, k1, k2, k3, k4, k5⟩ := HQ.out.1.cells
          unfold put6w at k0 k1 k2 k3 k4 k5
          simp only at k0 k1 k2 k3 k4 k5
          refine bodyPost_ret (v := uV ⟨sc, lh, np, dp, dq, hq⟩) ?_ rfl ⟨by rw [HB9.out], HQ.out.2⟩
          simp [results, Tryz.f22, go_sem, k0, k1, k2, k3, k4, k5]
  · have HE := Lib.hid (norm_no hc)
    have HQ := Lib.hid (put6 noU HN1.out.below (Nat.le_succ _) HN1.out.res)
    have rb := HN1.out.res.full
    obtain ⟨r0, r1, r2, r3, r4, r5⟩ := rb.c
    have g0 := rb.f0
    have g1 := rb.f1
    have g2 := rb.f2
    have g3 := rb.f3
    have g4 := rb.f4
    have g5 := rb.f5
    clear rb
    rcases check_codes hc with h3 | h3
    all_goals
      rw [h3]
      clear hc h3
      go_wp2_with fail
      clear r0 r1 r2 r3 r4 r5 g0 g1 g2 g3 g4 g5
      obtain ⟨k0, k1, k2, k3, k4, k5⟩ := HQ.out.1.cells
      unfold put6w at k0 k1 k2 k3 k4 k5
      simp only [noU] at k0 k1 k2 k3 k4 k5
      refine bodyPost_ret (v := uV noU) ?_ rfl ⟨by rw [HE.out], HQ.out.2⟩
      simp [results, Tryz.f22, go_sem, k0, k1, k2, k3, k4, k5, noU]
end Go.Proofs.YtmkpejioinkceaaGreatDoor
