/- The walk of Parse. The block of an address's box. -/
import Derived.Test.YtmkpejioinkceaaGreatDoorUriBox
import Derived.Outline
import Derived.Deep.DeepCutAuto
import Derived.Deep.CutBlock
import Derived.Test.YtmkpejioinkceaaGreatDoorUriDotsW
import Derived.Test.YtmkpejioinkceaaGreatDoorUriCheckW
namespace Go.Proofs.YtmkpejioinkceaaGreatDoor
open Go.RowKit
set_option linter.unusedVariables false

/-- A text parted at its first slash. -/
theorem split_at (r : Bs) : (r.contains 47 = false → lead (· != 47) r = r.length) ∧
    (⟨r.toArray⟩ : ByteArray).extract 0 (lead (· != 47) r) = ⟨(r.takeWhile (· != 47)).toArray⟩ ∧ (⟨r.toArray⟩ : ByteArray).extract (lead (· != 47) r) r.length = ⟨(r.dropWhile (· != 47)).toArray⟩ ∧ lead (· != 47) r ≤ r.length := by
  refine ⟨?_, bs_ext (by rw [ext_data, ← take_lead]; simp), bs_ext (by rw [ext_data, ← drop_lead]; exact List.take_of_length_le (by simp)), lead_le _ _⟩
  intro h
  have h1 := upto_all 47 r h
  unfold upto at h1
  unfold lead; rw [h1]
theorem split_path (r : Bs) : (r.contains 47 = false → r.dropWhile (· != 47) = []) ∧ (r.contains 47 = true → r.dropWhile (· != 47) ≠ []) := by
  constructor
  · intro h
    have h1 := upto_all 47 r h
    unfold upto at h1
    have hl : lead (· != 47) r = r.length := by unfold lead; rw [h1]
    rw [← drop_lead, hl, List.drop_length]
  · intro h e
    have := lead_lt 47 r h
    rw [← drop_lead] at e
    have := congrArg List.length e
    rw [List.length_drop] at this
    simp at this; omega

set_option maxRecDepth 100000 in
set_option maxHeartbeats 4000000 in
theorem uri_Parse (s : ByteArray) (w : World) (hg : GX w) (hs : s.size ≤ 100000000) :
    Calls Tryz.prog 21 #[.string s] w (Ret w (parseV (parseB s.data.toList))) := by
  have HG := Lib.hid hg
  clear hg
  by_cases hl : s.size ≤ 1024
  · have hli : (s.size : Int) ≤ 1024 := by omega
    have HP := Lib.hid (pa_new w)
    have HE := Lib.hid (parse_short (s := s.data.toList) (by rw [bs_size]; exact hl))
    go_enter Tryz.func21, Tryz.ntmps21
    go_wp2_with fail
    generalize (w.alloc (.cells #[.string ⟨#[]⟩, .string ⟨#[]⟩, .int .i64 0, .string ⟨#[]⟩, .string ⟨#[]⟩, .bool false] 23)).alloc (.cells #[.string ⟨#[]⟩, .string ⟨#[]⟩, .int .i64 0, .string ⟨#[]⟩, .string ⟨#[]⟩, .bool false] 23) = W0 at *
    refine (lib_Cut s ⟨#[58, 47, 47]⟩ W0 (HG.out.next HP.out.below).good (by omega)).mono ?_
    rintro e w1 ⟨rfl, hb1⟩
    have HP1 := Lib.hid (HP.out.next hb1)
    have hraw : rawB s.data.toList = ⟨(Lib.cut s.data.toList sep3).1, (upto 63 (Lib.cut s.data.toList sep3).2.1).takeWhile (· != 47), 0, if (upto 63 (Lib.cut s.data.toList sep3).2.1).dropWhile (· != 47) = [] then [47] else (upto 63 (Lib.cut s.data.toList sep3).2.1).dropWhile (· != 47), past 63 (Lib.cut s.data.toList sep3).2.1, (Lib.cut s.data.toList sep3).2.1.contains 63⟩ := rfl
    have hct : (⟨#[58, 47, 47]⟩ : ByteArray).data.toList = sep3 := rfl
    rw [hct]
    have hcl : (Lib.cut s.data.toList sep3).1.length ≤ 1024 ∧ (Lib.cut s.data.toList sep3).2.1.length ≤ 1024 := cut_len _ _ (by rw [bs_size]; exact hl)
    generalize Lib.cut s.data.toList sep3 = ct at *
    obtain ⟨sc, t, fd⟩ := ct
    simp only at hraw hcl
    have HR := Lib.hid hraw
    clear hraw hct hb1 HP
    obtain ⟨hcl1, hcl2⟩ := hcl
    have b1 := HP1.out.box.full
    obtain ⟨c0, c1, c2, c3, c4, c5⟩ := b1.c
    have f0 := b1.f0
    clear b1 c1 c2 c3 c4 c5
    go_wp2_with fail
    have HP2 := Lib.hid (HP1.out.s0 sc)
    generalize w1.setCell ⟨w.heap.size + 1, 0, none⟩ (.string ⟨sc.toArray⟩) = W2 at *
    clear c0 f0 HP1
    refine (lib_Cut1 ⟨t.toArray⟩ 63 W2 (HG.out.next HP2.out.below).good (by show t.length < _; omega)).mono ?_
    rintro e w3 ⟨rfl, hb3⟩
    have HP3 := Lib.hid (HP2.out.next hb3)
    rw [show (⟨t.toArray⟩ : ByteArray).data.toList = t from rfl, show hasB 63 t = t.contains 63 from rfl]
    have hul := upto_len 63 t
    have hpl := past_len 63 t
    generalize upto 63 t = r at *
    generalize past 63 t = q at *
    generalize t.contains 63 = hq at *
    clear hb3 HP2
    have b1 := HP3.out.box.full
    obtain ⟨c0, c1, c2, c3, c4, c5⟩ := b1.c
    have f4 := b1.f4
    have f5 := b1.f5
    clear b1 c0 c1 c2 c3
    go_wp2_with fail
    have HP4 := Lib.hid ((HP3.out.s4 q).s5 hq)
    generalize (w3.setCell ⟨w.heap.size + 1, 4, none⟩ (.string ⟨q.toArray⟩)).setCell ⟨w.heap.size + 1, 5, none⟩ (.bool hq) = W4 at *
    clear c4 c5 f4 f5 HP3
    refine (lib_IndexByte ⟨r.toArray⟩ 47 W4).mono ?_
    rintro e w5 ⟨rfl, rfl⟩
    rw [show (⟨r.toArray⟩ : ByteArray).data.toList = r from rfl]
    have HX := Lib.hid (split_at r)
    have HX2 := Lib.hid (split_path r)
    generalize hh : r.takeWhile (· != 47) = h at *
    generalize hp : r.dropWhile (· != 47) = P at *
    have hhl : h.length ≤ 1024 := by
      have := lead_le (· != 47) r
      unfold lead at this
      rw [hh] at this; omega
    have hPl : P.length ≤ 1024 := by have := dropWhile_len (· != 47) r; rw [hp] at this; omega
    clear hh hp
    have b1 := HP4.out.box.full
    obtain ⟨c0, c1, c2, c3, c4, c5⟩ := b1.c
    have f1 := b1.f1
    have f3 := b1.f3
    clear b1 c0 c2 c4 c5
    obtain ⟨path, hpath⟩ : ∃ path, (if P = [] then [47] else P) = path := ⟨_, rfl⟩
    have hpathl : path.length ≤ 1024 := by
      rw [← hpath]
      by_cases e : P = []
      · rw [if_pos e]; decide
      · rw [if_neg e]; exact hPl
    rw [hpath] at HR
    generalize hL : lead (· != 47) r = L at *
    clear hL
    obtain ⟨av, hav⟩ : ∃ av : Int, (if r.contains 47 = true then (L : Int) else -1) = av := ⟨_, rfl⟩
    rw [hav]
    have HAV := Lib.hid (show (av < 0 ∧ L = r.length) ∨ av = (L : Int) by
      cases hr : r.contains 47
      · rw [hr] at hav
        exact .inl ⟨by rw [← hav]; simp, HX.out.1 hr⟩
      · rw [hr, if_pos rfl] at hav
        exact .inr hav.symm)
    clear hav
    go_upto_if 35 with fail
    go_cut [6] (fun s6 wx => W4 = wx ∧ s6 = .int .i64 (L : Int))
    case first =>
      rcases HAV.out with ⟨z1, hLr⟩ | rfl
      · go_wp2_with fail
        go_meet
        exact ⟨rfl, by rw [hLr]⟩
      · have z1 : ¬ ((L : Int) < 0) := by omega
        have z2 : (0 : Int) ≤ (L : Int) := by omega
        go_wp2_with fail
        go_meet
        exact ⟨rfl, rfl⟩
    case rest =>
      obtain ⟨rfl, rfl⟩ := hcut
      obtain ⟨e1, e2, e3⟩ := HX.out.2
      have z1 : (0 : Int) ≤ (L : Int) := by omega
      have z2 : (L : Int) ≤ (r.length : Int) := by omega
      go_wp2_with fail
      go_region
      go_upto_if 48 with fail
      go_cut [] (fun wx => Hid (PA w wx ⟨sc, h, 0, path, q, hq⟩))
      case first =>
        by_cases hP : P = []
        · subst hP
          obtain rfl : [47] = path := hpath
          have HP6 := Lib.hid ((((HP4.out.s1 h).s3 []).s3 [47]).next (Below.refl _ _).drew)
          go_wp2_with fail
          go_meet
          exact HP6
        · obtain rfl : P = path := by rw [← hpath, if_neg hP]
          have hPe : P.isEmpty = false := by cases P with | nil => exact (hP rfl).elim | cons a b => rfl
          have HP6 := Lib.hid (((HP4.out.s1 h).s3 P).next (Below.refl _ _).drew)
          have hPe2 : ¬ (P.isEmpty = true) := by rw [hPe]; simp
          go_wp2_with fail
          go_meet
          exact HP6
      case rest =>
        have HP6 := hcut
        clear hcut e1 e2 e3 z1 z2 c1 c3 f1 f3 HP4 HX HX2 HAV
        have c1 := HP6.out.box.cells.c1
        simp only at c1
        go_wp2_with fail
        clear c1
        refine (lib_Cut1 ⟨h.toArray⟩ 58 _ (HG.out.next HP6.out.below).good (by show h.length < _; omega)).mono ?_
        rintro e w7 ⟨rfl, hb7⟩
        have HP7 := Lib.hid (HP6.out.next hb7)
        rw [show (⟨h.toArray⟩ : ByteArray).data.toList = h from rfl, show hasB 58 h = h.contains 58 from rfl]
        have hul7 := upto_len 58 h
        have hpl7 := past_len 58 h
        clear hb7 HP6
        rcases h58 : h.contains 58 with _ | _
        · have HE7 := Lib.hid (show parseB s.data.toList = if checkB ⟨sc, h, 0, path, q, hq⟩ = 0 then (⟨sc, h, 0, path, q, hq⟩, 0) else (noU, checkB ⟨sc, h, 0, path, q, hq⟩) by rw [HE.out, HR.out]; exact parseT_none h58)
          clear h58
          have b1 := HP7.out.box.full
          obtain ⟨c0, c1, c2, c3, c4, c5⟩ := b1.c
          clear b1
          simp only at c0 c1 c2 c3 c4 c5
          go_wp2_with fail
          refine (uri_Check ⟨sc, h, 0, path, q, hq⟩ _ (HG.out.next HP7.out.below) ⟨by show sc.length ≤ _; omega, by show h.length ≤ _; omega, by show path.length ≤ _; omega, by show q.length ≤ _; omega⟩).mono ?_
          rintro e w9 ⟨rfl, hb9⟩
          have HP9 := Lib.hid (HP7.out.next hb9)
          clear hb9 c0 c1 c2 c3 c4 c5
          by_cases hc : checkB ⟨sc, h, 0, path, q, hq⟩ = 0
          · rw [hc]
            have HE9 := Lib.hid (show parseB s.data.toList = (⟨sc, h, 0, path, q, hq⟩, 0) by rw [HE7.out, if_pos hc])
            have HQ := Lib.hid (put6 ⟨sc, h, 0, path, q, hq⟩ HP9.out.below (Nat.le_refl _) HP9.out.res)
            have rb := HP9.out.res.full
            obtain ⟨r0, r1, r2, r3, r4, r5⟩ := rb.c
            have g0 := rb.f0
            have g1 := rb.f1
            have g2 := rb.f2
            have g3 := rb.f3
            have g4 := rb.f4
            have g5 := rb.f5
            obtain ⟨c0, c1, c2, c3, c4, c5⟩ := HP9.out.box.cells
            simp only at c0 c1 c2 c3 c4 c5
            clear rb hc
            go_wp2_with fail
            clear r0 r1 r2 r3 r4 r5 g0 g1 g2 g3 g4 g5 c0 c1 c2 c3 c4 c5
            obtain ⟨k0, k1, k2, k3, k4, k5⟩ := HQ.out.1.cells
            unfold put6w at k0 k1 k2 k3 k4 k5
            simp only at k0 k1 k2 k3 k4 k5
            refine bodyPost_ret (v := parseV (⟨sc, h, 0, path, q, hq⟩, 0)) ?_ rfl ⟨by rw [HE9.out], HQ.out.2⟩
            simp [results, Tryz.f21, go_sem, k0, k1, k2, k3, k4, k5]
          · have HE9 := Lib.hid (show parseB s.data.toList = (noU, checkB ⟨sc, h, 0, path, q, hq⟩) by rw [HE7.out, if_neg hc])
            generalize checkB ⟨sc, h, 0, path, q, hq⟩ = er at *
            have HQ := Lib.hid (put6 noU HP9.out.below (Nat.le_refl _) HP9.out.res)
            have rb := HP9.out.res.full
            obtain ⟨r0, r1, r2, r3, r4, r5⟩ := rb.c
            have g0 := rb.f0
            have g1 := rb.f1
            have g2 := rb.f2
            have g3 := rb.f3
            have g4 := rb.f4
            have g5 := rb.f5
            clear rb
            go_wp2_with fail
            clear r0 r1 r2 r3 r4 r5 g0 g1 g2 g3 g4 g5
            obtain ⟨k0, k1, k2, k3, k4, k5⟩ := HQ.out.1.cells
            unfold put6w at k0 k1 k2 k3 k4 k5
            simp only [noU] at k0 k1 k2 k3 k4 k5
            refine bodyPost_ret (v := parseV (noU, er)) ?_ rfl ⟨by rw [HE9.out], HQ.out.2⟩
            simp [results, Tryz.f21, go_sem, k0, k1, k2, k3, k4, k5, noU]
        · have HT := Lib.hid (show parseB s.data.toList = parseT ⟨sc, h, 0, path, q, hq⟩ by rw [HE.out, HR.out])
          have H58 := Lib.hid h58
          clear h58
          generalize hho : upto 58 h = ho at *
          generalize hpo : past 58 h = po at *
          have HPo := Lib.hid hpo
          have HHo := Lib.hid hho
          clear hpo hho
          go_wp2_with fail
          rcases hat : Lib.atoiAll po with v | _ | _
          · have HAt := Lib.hid hat
            have hvb := atoi_bnd hat
            obtain ⟨hv1, hv2⟩ := hvb
            refine (lib_Atoi_ok ⟨po.toArray⟩ v w7 hat (by show po.length ≤ _; omega)).mono ?_
            rintro e w8 ⟨rfl, hb8⟩
            have HP8 := Lib.hid (HP7.out.next hb8)
            clear hb8 HP7 hat
            go_wp2_with fail
            refine (lib_ItoaZ v w8 (HG.out.next HP8.out.below) hv1 hv2).mono ?_
            rintro e w9 ⟨rfl, hb9⟩
            have HP9' := Lib.hid (HP8.out.next hb9)
            clear hb9 HP8
            by_cases hit : Lib.itoa v = po
            · rw [hit]
              have HIt := Lib.hid hit
              clear hit
              by_cases hv : v < 1
              · have HE7 := Lib.hid (show parseB s.data.toList = (noU, 4) by rw [HT.out]; exact parseT_bad H58.out (by show portB (past 58 h) = 0; rw [HPo.out]; exact port_no (fun v' h' => by rw [HAt.out] at h'; injection h' with h'; exact .inr (by omega))))
                have HQ := Lib.hid (put6 noU HP9'.out.below (Nat.le_refl _) HP9'.out.res)
                have rb := HP9'.out.res.full
                obtain ⟨r0, r1, r2, r3, r4, r5⟩ := rb.c
                have g0 := rb.f0
                have g1 := rb.f1
                have g2 := rb.f2
                have g3 := rb.f3
                have g4 := rb.f4
                have g5 := rb.f5
                clear rb
                go_wp2_with fail
                clear r0 r1 r2 r3 r4 r5 g0 g1 g2 g3 g4 g5
                obtain ⟨k0, k1, k2, k3, k4, k5⟩ := HQ.out.1.cells
                unfold put6w at k0 k1 k2 k3 k4 k5
                simp only [noU] at k0 k1 k2 k3 k4 k5
                refine bodyPost_ret (v := parseV (noU, 4)) ?_ rfl ⟨by rw [HE7.out], HQ.out.2⟩
                simp [results, Tryz.f21, go_sem, k0, k1, k2, k3, k4, k5, noU]
              · have hv' : (1 : Int) ≤ v := by omega
                have HE7 := Lib.hid (show parseB s.data.toList = if checkB ⟨sc, ho, v, path, q, hq⟩ = 0 then (⟨sc, ho, v, path, q, hq⟩, 0) else (noU, checkB ⟨sc, ho, v, path, q, hq⟩) by rw [HT.out, ← HHo.out]; exact parseT_port H58.out (by rw [HPo.out]; exact HAt.out) (by rw [HPo.out]; exact HIt.out) hv')
                have b1 := HP9'.out.box.full
                obtain ⟨c0, c1, c2, c3, c4, c5⟩ := b1.c
                have f1 := b1.f1
                have f2 := b1.f2
                have b6 := ((HP9'.out.s1 ho).s2 v).box.cells
                obtain ⟨d0, d1, d2, d3, d4, d5⟩ := b6
                clear b1
                simp only at c0 c1 c2 c3 c4 c5 d0 d1 d2 d3 d4 d5
                clear c0 c3 c4 c5 d1 d2
                have HPa := Lib.hid ((HP9'.out.s1 ho).s2 v)
                go_wp2_with fail
                clear d0 d3 d4 d5 c1 c2 f1 f2
                generalize (w9.setCell ⟨w.heap.size + 1, 1, none⟩ (.string ⟨ho.toArray⟩)).setCell ⟨w.heap.size + 1, 2, none⟩ (.int .i64 v) = W10 at *
                refine (uri_Check ⟨sc, ho, v, path, q, hq⟩ W10 (HG.out.next HPa.out.below) ⟨by show sc.length ≤ _; omega, by show ho.length ≤ _; omega, by show path.length ≤ _; omega, by show q.length ≤ _; omega⟩).mono ?_
                rintro e w11 ⟨rfl, hb11⟩
                have HP9 := Lib.hid (HPa.out.next hb11)
                clear hb11
                by_cases hc : checkB ⟨sc, ho, v, path, q, hq⟩ = 0
                · rw [hc]
                  have HE9 := Lib.hid (show parseB s.data.toList = (⟨sc, ho, v, path, q, hq⟩, 0) by rw [HE7.out, if_pos hc])
                  have HQ := Lib.hid (put6 ⟨sc, ho, v, path, q, hq⟩ HP9.out.below (Nat.le_refl _) HP9.out.res)
                  have rb := HP9.out.res.full
                  obtain ⟨r0, r1, r2, r3, r4, r5⟩ := rb.c
                  have g0 := rb.f0
                  have g1 := rb.f1
                  have g2 := rb.f2
                  have g3 := rb.f3
                  have g4 := rb.f4
                  have g5 := rb.f5
                  obtain ⟨c0, c1, c2, c3, c4, c5⟩ := HP9.out.box.cells
                  simp only at c0 c1 c2 c3 c4 c5
                  clear rb hc
                  go_wp2_with fail
                  clear r0 r1 r2 r3 r4 r5 g0 g1 g2 g3 g4 g5 c0 c1 c2 c3 c4 c5
                  obtain ⟨k0, k1, k2, k3, k4, k5⟩ := HQ.out.1.cells
                  unfold put6w at k0 k1 k2 k3 k4 k5
                  simp only at k0 k1 k2 k3 k4 k5
                  refine bodyPost_ret (v := parseV (⟨sc, ho, v, path, q, hq⟩, 0)) ?_ rfl ⟨by rw [HE9.out], HQ.out.2⟩
                  simp [results, Tryz.f21, go_sem, k0, k1, k2, k3, k4, k5]
                · have HE9 := Lib.hid (show parseB s.data.toList = (noU, checkB ⟨sc, ho, v, path, q, hq⟩) by rw [HE7.out, if_neg hc])
                  generalize checkB ⟨sc, ho, v, path, q, hq⟩ = er at *
                  have HQ := Lib.hid (put6 noU HP9.out.below (Nat.le_refl _) HP9.out.res)
                  have rb := HP9.out.res.full
                  obtain ⟨r0, r1, r2, r3, r4, r5⟩ := rb.c
                  have g0 := rb.f0
                  have g1 := rb.f1
                  have g2 := rb.f2
                  have g3 := rb.f3
                  have g4 := rb.f4
                  have g5 := rb.f5
                  clear rb
                  go_wp2_with fail
                  clear r0 r1 r2 r3 r4 r5 g0 g1 g2 g3 g4 g5
                  obtain ⟨k0, k1, k2, k3, k4, k5⟩ := HQ.out.1.cells
                  unfold put6w at k0 k1 k2 k3 k4 k5
                  simp only [noU] at k0 k1 k2 k3 k4 k5
                  refine bodyPost_ret (v := parseV (noU, er)) ?_ rfl ⟨by rw [HE9.out], HQ.out.2⟩
                  simp [results, Tryz.f21, go_sem, k0, k1, k2, k3, k4, k5, noU]
            · have HE7 := Lib.hid (show parseB s.data.toList = (noU, 4) by rw [HT.out]; exact parseT_bad H58.out (by show portB (past 58 h) = 0; rw [HPo.out]; exact port_no (fun v' h' => by rw [HAt.out] at h'; injection h' with h'; exact .inl (by rw [← h']; exact hit))))
              have hitb : (Lib.itoa v == po) = false := by rw [beq_eq_false_iff_ne]; exact hit
              have HQ := Lib.hid (put6 noU HP9'.out.below (Nat.le_refl _) HP9'.out.res)
              have rb := HP9'.out.res.full
              obtain ⟨r0, r1, r2, r3, r4, r5⟩ := rb.c
              have g0 := rb.f0
              have g1 := rb.f1
              have g2 := rb.f2
              have g3 := rb.f3
              have g4 := rb.f4
              have g5 := rb.f5
              clear rb
              go_wp2_with fail
              clear r0 r1 r2 r3 r4 r5 g0 g1 g2 g3 g4 g5
              obtain ⟨k0, k1, k2, k3, k4, k5⟩ := HQ.out.1.cells
              unfold put6w at k0 k1 k2 k3 k4 k5
              simp only [noU] at k0 k1 k2 k3 k4 k5
              refine bodyPost_ret (v := parseV (noU, 4)) ?_ rfl ⟨by rw [HE7.out], HQ.out.2⟩
              simp [results, Tryz.f21, go_sem, k0, k1, k2, k3, k4, k5, noU]
          · refine (lib_Atoi_syn ⟨po.toArray⟩ w7 (HG.out.next HP7.out.below) hat (by show po.length ≤ _; omega)).mono ?_
            rintro e w8 ⟨v8, rfl, hb8⟩
            have HP8 := Lib.hid (HP7.out.next hb8)
            have HE7 := Lib.hid (show parseB s.data.toList = (noU, 4) by rw [HT.out]; exact parseT_bad H58.out (by show portB (past 58 h) = 0; rw [HPo.out]; exact port_no (fun v' h' => by rw [hat] at h'; cases h')))
            clear hb8 HP7 hat
            have HQ := Lib.hid (put6 noU HP8.out.below (Nat.le_refl _) HP8.out.res)
            have rb := HP8.out.res.full
            obtain ⟨r0, r1, r2, r3, r4, r5⟩ := rb.c
            have g0 := rb.f0
            have g1 := rb.f1
            have g2 := rb.f2
            have g3 := rb.f3
            have g4 := rb.f4
            have g5 := rb.f5
            clear rb
            go_wp2_with fail
            clear r0 r1 r2 r3 r4 r5 g0 g1 g2 g3 g4 g5
            obtain ⟨k0, k1, k2, k3, k4, k5⟩ := HQ.out.1.cells
            unfold put6w at k0 k1 k2 k3 k4 k5
            simp only [noU] at k0 k1 k2 k3 k4 k5
            refine bodyPost_ret (v := parseV (noU, 4)) ?_ rfl ⟨by rw [HE7.out], HQ.out.2⟩
            simp [results, Tryz.f21, go_sem, k0, k1, k2, k3, k4, k5, noU]
          · refine (lib_Atoi_rng ⟨po.toArray⟩ w7 (HG.out.next HP7.out.below) hat (by show po.length ≤ _; omega)).mono ?_
            rintro e w8 ⟨v8, n8, rfl, hb8⟩
            have HP8 := Lib.hid (HP7.out.next hb8)
            have HE7 := Lib.hid (show parseB s.data.toList = (noU, 4) by rw [HT.out]; exact parseT_bad H58.out (by show portB (past 58 h) = 0; rw [HPo.out]; exact port_no (fun v' h' => by rw [hat] at h'; cases h')))
            clear hb8 HP7 hat
            have HQ := Lib.hid (put6 noU HP8.out.below (Nat.le_refl _) HP8.out.res)
            have rb := HP8.out.res.full
            obtain ⟨r0, r1, r2, r3, r4, r5⟩ := rb.c
            have g0 := rb.f0
            have g1 := rb.f1
            have g2 := rb.f2
            have g3 := rb.f3
            have g4 := rb.f4
            have g5 := rb.f5
            clear rb
            go_wp2_with fail
            clear r0 r1 r2 r3 r4 r5 g0 g1 g2 g3 g4 g5
            obtain ⟨k0, k1, k2, k3, k4, k5⟩ := HQ.out.1.cells
            unfold put6w at k0 k1 k2 k3 k4 k5
            simp only [noU] at k0 k1 k2 k3 k4 k5
            refine bodyPost_ret (v := parseV (noU, 4)) ?_ rfl ⟨by rw [HE7.out], HQ.out.2⟩
            simp [results, Tryz.f21, go_sem, k0, k1, k2, k3, k4, k5, noU]
  · have hli : (1024 : Int) < (s.size : Int) := by omega
    have HE := Lib.hid (parse_long (s := s.data.toList) (by rw [bs_size]; omega))
    have HU0 := Lib.hid (show UBx (w.alloc (.cells #[.string ⟨#[]⟩, .string ⟨#[]⟩, .int .i64 0, .string ⟨#[]⟩, .string ⟨#[]⟩, .bool false] 23)) w.heap.size noU from heap_alloc_new w _)
    have HW0 := Lib.hid ((Below.refl w.heap.size w).alloc (Nat.le_refl _) (.cells #[.string ⟨#[]⟩, .string ⟨#[]⟩, .int .i64 0, .string ⟨#[]⟩, .string ⟨#[]⟩, .bool false] 23))
    go_enter Tryz.func21, Tryz.ntmps21
    go_wp2_with fail
    obtain ⟨k0, k1, k2, k3, k4, k5⟩ := HU0.out.cells
    simp only [noU] at k0 k1 k2 k3 k4 k5
    refine bodyPost_ret (v := parseV (noU, 3)) ?_ rfl ⟨by rw [HE.out], HW0.out⟩
    simp [results, Tryz.f21, go_sem, k0, k1, k2, k3, k4, k5, noU]
end Go.Proofs.YtmkpejioinkceaaGreatDoor

namespace Go.Proofs.YtmkpejioinkceaaGreatDoor
open Go.RowKit
set_option linter.unusedVariables false

/-- The block of a URI's box. -/
abbrev uObj (u : U) : Obj := .cells #[.string ⟨u.scheme.toArray⟩, .string ⟨u.host.toArray⟩, .int .i64 u.port, .string ⟨u.path.toArray⟩, .string ⟨u.query.toArray⟩, .bool u.hq] 23
theorem text_len {u : U} (h : okB u = true) : (textB u).length ≤ 1024 := by
  unfold okB at h
  rw [Bool.and_eq_true, decide_eq_true_eq] at h
  exact h.2

end Go.Proofs.YtmkpejioinkceaaGreatDoor
