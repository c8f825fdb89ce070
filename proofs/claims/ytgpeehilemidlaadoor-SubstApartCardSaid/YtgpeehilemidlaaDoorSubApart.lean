/- The law that uses do not overlap, and what stands between them stays. -/
import Derived.Test.YtgpeehilemidlaaDoorSubLaw
import Derived.Test.YtgpeehilemidlaaDoorSubFew
namespace Go.Proofs.YtgpeehilemidlaaDoor
open Go.RowKit
set_option linter.unusedVariables false
attribute [local go_sem ↓] Go.wp_at_zero Go.wp_at_succ

theorem req_cells {W : World} {b : Nat} {m t bd : ByteArray} {mn : Int} {v : Value} (h : W.heap[b]? = some (.cells #[.string m, .string t, .int .i64 mn, v, .string bd] 24)) :
    W.cell? ⟨b, 0, none⟩ = some (.string m) ∧ W.cell? ⟨b, 1, none⟩ = some (.string t) ∧ W.cell? ⟨b, 2, none⟩ = some (.int .i64 mn) ∧ W.cell? ⟨b, 3, none⟩ = some v ∧ W.cell? ⟨b, 4, none⟩ = some (.string bd) :=
  ⟨cell_of_row _ _ 0 _ _ _ h, cell_of_row _ _ 1 _ _ _ h, cell_of_row _ _ 2 _ _ _ h, cell_of_row _ _ 3 _ _ _ h, cell_of_row _ _ 4 _ _ _ h⟩
theorem USeen.next {w w' : World} {a : Option Addr} {b : Nat} {us : List Use} (h : USeen w a b w.heap.size us) (hb : Below w.heap.size w w') : ∀ (j : Nat) (u : Use), us[j]? = some u → ∃ g, a = some ⟨g, 0, none⟩ ∧
  w'.cell? ⟨g, j * 7, none⟩ = some (.int .i64 u.src) ∧ w'.cell? ⟨g, j * 7 + 1, none⟩ = some (.int .i64 u.to) ∧ w'.cell? ⟨g, j * 7 + 2, none⟩ = some (.string ⟨u.name.toArray⟩) ∧ w'.cell? ⟨g, j * 7 + 3, none⟩ = some (.string ⟨u.key.toArray⟩) ∧ w'.cell? ⟨g, j * 7 + 4, none⟩ = some (.string ⟨u.dft.toArray⟩) ∧ w'.cell? ⟨g, j * 7 + 5, none⟩ = some (.bool u.hk) ∧ w'.cell? ⟨g, j * 7 + 6, none⟩ = some (.bool u.hd) := by
  intro j u hu
  obtain ⟨g, h1, _, hg, c0, c1, c2, c3, c4, c5, c6⟩ := h j u hu
  have q := (bcell hb).1
  exact ⟨g, h1, (q _ _ hg).trans c0, (q _ _ hg).trans c1, (q _ _ hg).trans c2, (q _ _ hg).trans c3, (q _ _ hg).trans c4, (q _ _ hg).trans c5, (q _ _ hg).trans c6⟩

set_option maxRecDepth 100000 in
set_option maxHeartbeats 2000000 in
theorem law_SubstApart (s m t bd : ByteArray) (mn : Int) (a : Option Addr) (n c : Nat) (fs : List Fld) (w : World) (hg : Good w) (hF : FieldsAt w (.slice a n c) fs) (hs : ∀ f ∈ fs, f.1.length ≤ 140737488355328 ∧ f.2.length ≤ 140737488355328) (hlen : fs.length ≤ 140737488355328) (ht : t.size ≤ 140737488355328) (hss : s.size ≤ 140737488355328) :
    Calls Tryd.prog 7 #[.string s, .agg #[.string m, .string t, .int .i64 mn, .slice a n c, .string bd]] w (Ret w (.bool true)) := by
  have hb := (Below.refl w.heap.size w).alloc (Nat.le_refl _) (.cells #[.string m, .string t, .int .i64 mn, .slice a n c, .string bd] 24)
  have n1 := heap_alloc_new w (.cells #[.string m, .string t, .int .i64 mn, .slice a n c, .string bd] 24)
  have HF := Lib.hid (hF.below hb)
  have HN := Lib.hid n1
  have HB := Lib.hid hb
  have HG := Lib.hid (hg.next hb)
  have Hs := Lib.hid hs
  have hg0 := Lib.hid hg
  clear hF hb n1 hs hg
  have c0 := (req_cells HN.out).1
  obtain ⟨c1, c2, c3, c4⟩ := (req_cells HN.out).2
  by_cases hl : s.size ≤ 3000
  · have hli : (s.size : Int) ≤ 3000 := by omega
    go_enter Tryd.func7, Tryd.ntmps7
    go_wp2_with fail
    generalize w.alloc (.cells #[.string m, .string t, .int .i64 mn, .slice a n c, .string bd] 24) = W at *
    have hlt : w.heap.size < W.heap.size := (Array.getElem?_eq_some_iff.1 HN.out).1
    refine (law26_small m t bd mn a n c fs W HF.out Hs.out hlen ht).mono ?_
    rintro e w1 ⟨rfl, hb1⟩
    have HF1 := Lib.hid (HF.out.below hb1)
    have HN1 := Lib.hid ((hb1.block _ hlt).trans HN.out)
    have HB1 := Lib.hid (HB.out.trans (hb1.mono HB.out.size))
    have HG1 := Lib.hid (HG.out.next hb1)
    clear hb1 c0 c1 c2 c3 c4 HF HN HB HG Hs
    rcases hsm : ssmall t.data.toList fs with _ | _
    · go_wp2_with fail
      refine (law_works w1 HG1.out).mono ?_
      rintro e w2 ⟨rfl, hb2⟩
      go_wp2
      go_ret
      exact ⟨rfl, HB1.out.trans (hb2.mono HB1.out.size)⟩
    · have hs2 : sfew fs = true ∧ t.size ≤ 1000 := by
        unfold ssmall at hsm
        rw [Bool.and_eq_true] at hsm
        have := of_decide_eq_true hsm.2
        rw [bs_size] at this
        exact ⟨hsm.1, this⟩
      obtain ⟨hs40, hlim⟩ := sfew_lim hs2.1
      have ht1 : t.size ≤ 100000 := by have := hs2.2; omega
      clear hs2 hsm
      obtain ⟨c0, c1, c2, c3, c4⟩ := req_cells HN1.out
      go_wp2_with fail
      refine (vars_Of m t bd ⟨#[104]⟩ mn a n c fs w1 HF1.out (by omega)).mono ?_
      rintro e w2 ⟨a', c', rfl, hown, hb2⟩
      have hz1 := HB1.out.size
      have hz2 := hb2.size
      have HB2 := Lib.hid (HB1.out.trans (hb2.mono HB1.out.size))
      have HO2 := Lib.hid hown
      clear hown hb2 c0 c1 c2 c3 c4 HF1 HN1 HB1 HG1
      have n3 : VBox (w2.alloc (.cells #[.string ⟨#[104]⟩, .string t, .slice a' fs.length c'] 31)) w2.heap.size ⟨#[104]⟩ t (.slice a' fs.length c') := heap_alloc_new w2 _
      have b3 := (Below.refl w2.heap.size w2).alloc (Nat.le_refl _) (.cells #[.string ⟨#[104]⟩, .string t, .slice a' fs.length c'] 31)
      have HO3 := Lib.hid (HO2.out.below b3)
      have HN3 := Lib.hid n3
      have HB3 := Lib.hid (HB2.out.trans (b3.mono HB2.out.size))
      have hz3 := b3.size
      clear n3 b3 HO2 HB2
      go_wp2_with fail
      generalize w2.alloc (.cells #[.string ⟨#[104]⟩, .string t, .slice a' fs.length c'] 31) = W3 at *
      have hvb : w2.heap.size < W3.heap.size := blk_lt HN3.out
      generalize w2.heap.size = vb at *
      refine (sub_Uses s W3 (hg0.out.next HB3.out) (by omega)).mono ?_
      rintro e w4 ⟨v, rfl, hown, hb4⟩
      obtain ⟨ua, uc, rfl⟩ := own_shape hown
      have HU4 := Lib.hid (useen_of hown (b := w.heap.size) (by omega))
      have HO4 := Lib.hid (HO3.out.below hb4)
      have HN4 := Lib.hid (show VBox w4 vb ⟨#[104]⟩ t (.slice a' fs.length c') from (hb4.block vb hvb).trans HN3.out)
      have HB4 := Lib.hid (HB3.out.trans (hb4.mono HB3.out.size))
      have hz4 := hb4.size
      obtain ⟨c0, c1, c2⟩ := vbox_cells HN4.out
      clear hown hb4 HO3 HN3 HB3
      go_wp2_with fail
      refine (sub_Apply s ⟨#[104]⟩ t a' fs.length c' fs w4 (hg0.out.next HB4.out) HO4.out.at hlim ht1 (by omega)).mono ?_
      rintro e w5 ⟨rfl, hb5⟩
      have HU5 := Lib.hid (HU4.out.next hb5)
      have HO5 := Lib.hid (HO4.out.below hb5)
      have HN5 := Lib.hid (show VBox w5 vb ⟨#[104]⟩ t (.slice a' fs.length c') from (hb5.block vb (by omega)).trans HN4.out)
      have HB5 := Lib.hid (HB4.out.trans (hb5.mono HB4.out.size))
      have hz5 := hb5.size
      clear hb5 HU4 HO4 HN4 HB4 c0 c1 c2
      obtain ⟨r, hr⟩ : ∃ r, vapply (⟨#[104]⟩ : ByteArray).data.toList t.data.toList fs s.data.toList = r := ⟨_, rfl⟩
      rw [hr]
      have HR := Lib.hid (show vapply [104] t.data.toList fs s.data.toList = r from hr)
      clear hr
      obtain ⟨rt, re⟩ := r
      rw [show applyV (rt, re) = .tuple #[.string ⟨rt.toArray⟩, .int .i64 re] from rfl]
      have HCh := Lib.hid (show Chain s.data.toList 0 (vuses s.data.toList) from chain_uses _ _ _)
      have hmany := uses_many s.data.toList
      rw [bs_size] at hmany
      have HTx := Lib.hid (show asm s.data.toList (fun u => (vval [104] t.data.toList fs u).1) 0 (vuses s.data.toList) = vtext [104] t.data.toList fs s.data.toList from rfl)
      generalize hus : vuses s.data.toList = us at *
      have HUs := Lib.hid hus
      clear hus
      generalize htx : vtext [104] t.data.toList fs s.data.toList = tx at *
      have HX := Lib.hid htx
      clear htx
      go_wp2_with fail
      go_loopw [9, 10, 11] (fun wt at' ix wr => ∃ (k p : Nat) (l : Bs), wt = .string ⟨l.toArray⟩ ∧ at' = .int .i64 p ∧ ix = .int .i64 k ∧ k ≤ us.length ∧ p ≤ s.size ∧ l.length ≤ k * 100005000 ∧ Hid (Chain s.data.toList p (us.drop k)) ∧ Hid (l ++ asm s.data.toList (fun u => (vval [104] t.data.toList fs u).1) p (us.drop k) = tx) ∧ Hid (Below w5.heap.size w5 wr)) (fun _ _ ix _ => us.length - (intOf ix).toNat)
      case atStart => exact ⟨0, 0, [], rfl, rfl, rfl, Nat.zero_le _, Nat.zero_le _, Nat.zero_le _, HCh, HTx, Lib.hid (Below.refl _ _)⟩
      case round =>
        clear HCh HTx
        obtain ⟨k, p, l, rfl, rfl, rfl, hk, hp, hll, HC, HA, HBr⟩ := hrel
        have hzr := HBr.out.size
        by_cases hlt : k < us.length
        · obtain ⟨u, hu⟩ : ∃ u, us[k]? = some u := ⟨us[k], List.getElem?_eq_getElem hlt⟩
          obtain ⟨g, rfl, e0, e1, e2, e3, e4, e5, e6⟩ := HU5.out k u hu
          have hg5 := cell_lt e0
          have q := (bcell HBr.out).1
          have c0 := (q _ _ hg5).trans e0
          have c1 := (q _ _ hg5).trans e1
          have c2 := (q _ _ hg5).trans e2
          have c3 := (q _ _ hg5).trans e3
          have c4 := (q _ _ hg5).trans e4
          have c5 := (q _ _ hg5).trans e5
          have c6 := (q _ _ hg5).trans e6
          clear q e0 e1 e2 e3 e4 e5 e6
          have hC := HC.out
          have hdr : us.drop k = u :: us.drop (k + 1) := by
            obtain ⟨h1, h2⟩ := List.getElem?_eq_some_iff.1 hu
            rw [List.drop_eq_getElem_cons h1, h2]
          rw [hdr] at hC
          have hf1 := hC.1.ge
          have hf3 := hC.1.le
          have hf2 := hC.1.ends.1
          have h41 := hC.1.ends.2
          rw [bs_size] at hf3
          have hto1 : u.to - 1 < s.size := by omega
          have h41b : (s[u.to - 1]'hto1).toNat = 41 := by
            have := bs_get s (u.to - 1) hto1
            rw [h41] at this
            rw [← Option.some.inj this]; rfl
          have H41 := Lib.hid (show ((s[u.to - 1]'hto1).toNat : Int) = 41 by omega)
          have hkey := hC.1.key
          have HBg := Lib.hid hC.1.begins
          have HKn := Lib.hid hC.1.known
          have hdft : u.dft.length ≤ 3000 := by have := hC.1.dft; rw [bs_size] at this; omega
          have HC2 := Lib.hid hC.2
          have hA := HA.out
          rw [hdr] at hA
          have HA2 := Lib.hid (show l ++ (((s.data.toList.drop p).take (u.src - p)) ++ (vval [104] t.data.toList fs u).1 ++ asm s.data.toList (fun u => (vval [104] t.data.toList fs u).1) u.to (us.drop (k + 1))) = tx from hA)
          clear hC hdr hu hA HA HC h41 h41b
          have i1 : (p : Int) ≤ (u.src : Int) := by omega
          have i2 : (u.src : Int) + 4 ≤ (u.to : Int) := by omega
          have i3 : (u.to : Int) ≤ (s.size : Int) := by omega
          have i4 : (u.src : Int) ≤ (s.size : Int) := by omega
          go_wp2_with fail
          have n6 : UBox (wr.alloc (.cells #[.int .i64 u.src, .int .i64 u.to, .string ⟨u.name.toArray⟩, .string ⟨u.key.toArray⟩, .string ⟨u.dft.toArray⟩, .bool u.hk, .bool u.hd] 52)) wr.heap.size u := heap_alloc_new wr _
          have b6 := (Below.refl wr.heap.size wr).alloc (Nat.le_refl _) (.cells #[.int .i64 u.src, .int .i64 u.to, .string ⟨u.name.toArray⟩, .string ⟨u.key.toArray⟩, .string ⟨u.dft.toArray⟩, .bool u.hk, .bool u.hd] 52)
          have HB6 := Lib.hid (HBr.out.trans (b6.mono hzr))
          have HN6 := Lib.hid n6
          clear n6 b6 c0 c1 c2 c3 c4 c5 c6
          generalize wr.alloc (.cells #[.int .i64 u.src, .int .i64 u.to, .string ⟨u.name.toArray⟩, .string ⟨u.key.toArray⟩, .string ⟨u.dft.toArray⟩, .bool u.hk, .bool u.hd] 52) = W6 at *
          generalize wr.heap.size = v6 at *
          rw [exl_drop']
          refine (lib_HasPrefix ⟨(s.data.toList.drop u.src).toArray⟩ ⟨#[36, 40]⟩ W6).mono ?_
          rintro e w7 ⟨rfl, rfl⟩
          rw [show Lib.hasPrefix (⟨(s.data.toList.drop u.src).toArray⟩ : ByteArray).data.toList (⟨#[36, 40]⟩ : ByteArray).data.toList = true from HBg.out]
          obtain ⟨⟨c0, c1, c2, c3, c4, c5, c6⟩, f0, f1, f2, f3, f4, f5, f6⟩ := ubox_cells HN6.out
          clear f0 f1 f2 f3 f4 f5 f6
          have hx41 := H41.out
          have hto2 : ((u.to : Int) - 1).toNat = u.to - 1 := by omega
          go_wp2_with fail
          refine (vars_Known ⟨u.name.toArray⟩ W6).mono ?_
          rintro e w7 ⟨rfl, hb7⟩
          rw [show vknown (⟨u.name.toArray⟩ : ByteArray).data.toList = true from HKn.out]
          have HB7 := Lib.hid (HB6.out.trans (hb7.mono HB6.out.size))
          have HN7 := Lib.hid (HN6.out.next hb7)
          clear hx41 hto2 hb7 c0 c1 c2 c3 c4 c5 c6 HB6 HN6
          obtain ⟨⟨c0, c1, c2, c3, c4, c5, c6⟩, f0, f1, f2, f3, f4, f5, f6⟩ := ubox_cells HN7.out
          clear f0 f1 f2 f3 f4 f5 f6
          obtain ⟨v0, v1, v2⟩ := vbox_cells (show VBox w7 vb ⟨#[104]⟩ t (.slice a' fs.length c') from (HB7.out.block vb (by omega)).trans HN5.out)
          go_wp2_with fail
          have hO7 := (HO5.out.below HB7.out).at
          refine (sub_Value u ⟨#[104]⟩ t a' fs.length c' fs w7 (hg0.out.next (HB5.out.trans (HB7.out.mono HB5.out.size))) hO7 hlim ht1 (by omega)).mono ?_
          rintro e w8 ⟨rfl, hb8⟩
          have HB8 := Lib.hid (HB7.out.trans (hb8.mono HB7.out.size))
          have HN8 := Lib.hid (HN7.out.next hb8)
          have hwhat := vval_what (h := [104]) (t := t.data.toList) (fs := fs) u
          have hvl := vval_len (h := [104]) (t := t.data.toList) (fs := fs) u hlim (by show 1 ≤ _; omega) (by rw [bs_size]; exact ht1) (by omega)
          rw [show vval (⟨#[104]⟩ : ByteArray).data.toList t.data.toList fs u = vval [104] t.data.toList fs u from rfl]
          clear hb8 hO7 HB7 HN7 c0 c1 c2 c3 c4 c5 c6 v0 v1 v2
          obtain ⟨⟨c0, c1, c2, c3, c4, c5, c6⟩, f0, f1, f2, f3, f4, f5, f6⟩ := ubox_cells HN8.out
          clear f0 f1 f2 f3 f4 f5 f6
          generalize vval [104] t.data.toList fs u = y at *
          obtain ⟨x, is⟩ := y
          have HW := Lib.hid hwhat
          clear hwhat
          have HA8 := Lib.hid (show (l ++ (s.data.toList.drop p).take (u.src - p) ++ x) ++ asm s.data.toList (fun u => (vval [104] t.data.toList fs u).1) u.to (us.drop (k + 1)) = tx by rw [← HA2.out]; simp)
          have hl3 : (l ++ (s.data.toList.drop p).take (u.src - p) ++ x).length ≤ (k + 1) * 100005000 := by
            have hvl' : x.length ≤ 100002000 := hvl
            rw [List.length_append, List.length_append, List.length_take, List.length_drop, bs_size]; omega
          have hcat : (⟨l.toArray⟩ : ByteArray) ++ s.extract p u.src ++ ⟨x.toArray⟩ = ⟨(l ++ (s.data.toList.drop p).take (u.src - p) ++ x).toArray⟩ := by
            apply ByteArray.ext; apply Array.ext'
            rw [ByteArray.data_append, ByteArray.data_append, Array.toList_append, Array.toList_append, ext_data]
          have HCat := Lib.hid hcat
          have hvx : x.length ≤ 100002000 := hvl
          clear hcat hvl HA2
          rcases is with _ | _
          · have hx : x = [] := HW.out.1 rfl
            have hd : u.hd = false := by
              cases h : u.hd
              · rfl
              · exact absurd (HW.out.2 h) Bool.false_ne_true
            clear HW
            subst hx
            rw [hd] at c6
            go_wp2_with fail
            go_roundw
            case rel => exact ⟨k + 1, u.to, l ++ (s.data.toList.drop p).take (u.src - p) ++ [], by rw [← HCat.out], rfl, by go_num, by omega, hf3, hl3, HC2, HA8, HB8⟩
            case measure => (simp [intOf] <;> omega)
          · clear HW
            rcases hd : u.hd with _ | _
            all_goals
              rw [hd] at c6
              go_wp2_with fail
              go_roundw
              case rel => exact ⟨k + 1, u.to, l ++ (s.data.toList.drop p).take (u.src - p) ++ x, by rw [← HCat.out], rfl, by go_num, by omega, hf3, hl3, HC2, HA8, HB8⟩
              case measure => (simp [intOf] <;> omega)
        · have hk2 : k = us.length := by omega
          have hA := HA.out
          rw [hk2, List.drop_eq_nil_of_le (Nat.le_refl _)] at hA
          have hA2 : l ++ s.data.toList.drop p = tx := hA
          have hcat : (⟨l.toArray⟩ : ByteArray) ++ s.extract p s.size = ⟨tx.toArray⟩ := by rw [exl_drop', ← hA2]; exact bs2 _ _
          have htl : tx.length ≤ 400000000000 := by
            have : k * 100005000 ≤ 3000 * 100005000 := Nat.mul_le_mul_right _ (by omega)
            rw [← hA2, List.length_append, List.length_drop, bs_size]; omega
          have i1 : (p : Int) ≤ (s.size : Int) := by omega
          have HB9 := Lib.hid (HB5.out.trans (HBr.out.mono HB5.out.size))
          clear hA hA2 HA HC HBr
          rcases Nat.lt_or_ge maxOut tx.length with hmx | hmx
          · have HE := Lib.hid (apply_long (h := [104]) (t := t.data.toList) (fs := fs) (s := s.data.toList) (by rw [HX.out]; exact hmx))
            have hre := HR.out
            rw [HE.out] at hre
            obtain ⟨rfl, rfl⟩ := Prod.mk.inj hre
            have hmi : (262144 : Int) < (tx.length : Int) := by unfold maxOut at hmx; omega
            clear hre HE hmx
            go_wp2_with fail
            refine (law_works wr (hg0.out.next HB9.out)).mono ?_
            rintro e w8 ⟨rfl, hb8⟩
            have HB10 := Lib.hid (HB9.out.trans (hb8.mono HB9.out.size))
            clear hb8
            go_wp2
            go_ret
            exact ⟨rfl, HB10.out⟩
          · have HE := Lib.hid (apply_ok (h := [104]) (t := t.data.toList) (fs := fs) (s := s.data.toList) (by rw [HX.out]; exact hmx))
            have hre := HR.out
            rw [HE.out, HX.out] at hre
            obtain ⟨rfl, rfl⟩ := Prod.mk.inj hre
            have hmi : (tx.length : Int) ≤ 262144 := by unfold maxOut at hmx; omega
            clear hre HE hmx
            by_cases h0 : us = []
            · have htx : tx = s.data.toList := by
                have h1 := HUs.out
                rw [h0] at h1
                rw [← HX.out]
                unfold vtext
                rw [h1]; rfl
              have hi0 : ¬ (0 : Int) < (us.length : Int) := by rw [h0]; decide
              have hts : tx = s.toList := by rw [htx, Lib.toList_data]
              go_wp2_with fail
              refine (law_works wr (hg0.out.next HB9.out)).mono ?_
              rintro e w8 ⟨rfl, hb8⟩
              have HB10 := Lib.hid (HB9.out.trans (hb8.mono HB9.out.size))
              clear hb8
              go_wp2
              go_ret
              exact ⟨rfl, HB10.out⟩
            · have hi0 : (0 : Int) < (us.length : Int) := by have := List.length_pos_iff.2 h0; omega
              have hi1 : 0 < us.length := by omega
              go_wp2_with fail
              refine (law_works wr (hg0.out.next HB9.out)).mono ?_
              rintro e w8 ⟨rfl, hb8⟩
              have HB10 := Lib.hid (HB9.out.trans (hb8.mono HB9.out.size))
              clear hb8
              go_wp2
              go_ret
              exact ⟨rfl, HB10.out⟩
  · have hli : (3000 : Int) < (s.size : Int) := by omega
    go_enter Tryd.func7, Tryd.ntmps7
    go_wp2_with fail
    generalize w.alloc (.cells #[.string m, .string t, .int .i64 mn, .slice a n c, .string bd] 24) = W at *
    clear c0 c1 c2 c3 c4
    refine (law_works W HG.out).mono ?_
    rintro e w2 ⟨rfl, hb2⟩
    go_wp2
    go_ret
    exact ⟨rfl, HB.out.trans (hb2.mono HB.out.size)⟩
end Go.Proofs.YtgpeehilemidlaaDoor
