/- The law that what a text becomes is as the document says. -/
import Derived.Test.YtgpeehilemidlaaGreatDoorRefApply
import Derived.Test.YtgpeehilemidlaaGreatDoorSubFew
namespace Go.Proofs.YtgpeehilemidlaaGreatDoor
open Go.RowKit
set_option linter.unusedVariables false
attribute [local go_sem ↓] Go.wp_at_zero Go.wp_at_succ

theorem req_cells {W : World} {b : Nat} {m t bd : ByteArray} {mn : Int} {v : Value} (h : W.heap[b]? = some (.cells #[.string m, .string t, .int .i64 mn, v, .string bd] 38)) :
    W.cell? ⟨b, 0, none⟩ = some (.string m) ∧ W.cell? ⟨b, 1, none⟩ = some (.string t) ∧ W.cell? ⟨b, 2, none⟩ = some (.int .i64 mn) ∧ W.cell? ⟨b, 3, none⟩ = some v ∧ W.cell? ⟨b, 4, none⟩ = some (.string bd) :=
  ⟨cell_of_row _ _ 0 _ _ _ h, cell_of_row _ _ 1 _ _ _ h, cell_of_row _ _ 2 _ _ _ h, cell_of_row _ _ 3 _ _ _ h, cell_of_row _ _ 4 _ _ _ h⟩
theorem rvbox_cells {W : World} {b : Nat} {m t bd h : ByteArray} {mn : Int} {v : Value} (x : RVBox W b m t mn v bd h) :
    W.cell? ⟨b, 0, none⟩ = some (.string m) ∧ W.cell? ⟨b, 1, none⟩ = some (.string t) ∧ W.cell? ⟨b, 2, none⟩ = some (.int .i64 mn) ∧ W.cell? ⟨b, 3, none⟩ = some v ∧ W.cell? ⟨b, 4, none⟩ = some (.string bd) ∧ W.cell? ⟨b, 5, none⟩ = some (.string h) :=
  ⟨cell_of_row _ _ 0 _ _ _ x, cell_of_row _ _ 1 _ _ _ x, cell_of_row _ _ 2 _ _ _ x, cell_of_row _ _ 3 _ _ _ x, cell_of_row _ _ 4 _ _ _ x, cell_of_row _ _ 5 _ _ _ x⟩
/-- The ten cells that the program's Value is asked with. -/
abbrev SVl (w' : World) (g k b : Nat) (u : Use) (h t : ByteArray) (v : Value) : Prop :=
  w'.cell? ⟨g, k * 7, none⟩ = some (.int .i64 u.src) ∧ w'.cell? ⟨g, k * 7 + 1, none⟩ = some (.int .i64 u.to) ∧ w'.cell? ⟨g, k * 7 + 2, none⟩ = some (.string ⟨u.name.toArray⟩) ∧ w'.cell? ⟨g, k * 7 + 3, none⟩ = some (.string ⟨u.key.toArray⟩) ∧ w'.cell? ⟨g, k * 7 + 4, none⟩ = some (.string ⟨u.dft.toArray⟩) ∧ w'.cell? ⟨g, k * 7 + 5, none⟩ = some (.bool u.hk) ∧ w'.cell? ⟨g, k * 7 + 6, none⟩ = some (.bool u.hd) ∧
  w'.cell? ⟨b, 0, none⟩ = some (.string h) ∧ w'.cell? ⟨b, 1, none⟩ = some (.string t) ∧ w'.cell? ⟨b, 2, none⟩ = some v
theorem SVl.next {w w' : World} {g k b : Nat} {u : Use} {h t : ByteArray} {v : Value} (x : SVl w g k b u h t v) (hb : Below w.heap.size w w') : SVl w' g k b u h t v := by
  obtain ⟨c0, c1, c2, c3, c4, c5, c6, d0, d1, d2⟩ := x
  have q := (bcell hb).1
  exact ⟨(q _ _ (cell_lt c0)).trans c0, (q _ _ (cell_lt c1)).trans c1, (q _ _ (cell_lt c2)).trans c2, (q _ _ (cell_lt c3)).trans c3, (q _ _ (cell_lt c4)).trans c4, (q _ _ (cell_lt c5)).trans c5, (q _ _ (cell_lt c6)).trans c6,
    (q _ _ (cell_lt d0)).trans d0, (q _ _ (cell_lt d1)).trans d1, (q _ _ (cell_lt d2)).trans d2⟩

theorem small_of {t : ByteArray} {fs : List Fld} (hsm : ssmall t.data.toList fs = true) : sfew fs = true ∧ t.size ≤ 1000 := by
  unfold ssmall at hsm
  rw [Bool.and_eq_true] at hsm
  have := of_decide_eq_true hsm.2
  rw [bs_size] at this
  exact ⟨hsm.1, this⟩
theorem apply_any (p : Bs × Int) : applyV p = .tuple #[.string ⟨p.1.toArray⟩, .int .i64 p.2] := rfl

set_option maxRecDepth 100000 in
set_option maxHeartbeats 2000000 in
theorem law_SubstMakes (s m t bd host : ByteArray) (mn : Int) (a : Option Addr) (n c : Nat) (fs : List Fld) (w : World) (hg : Good w) (hF : FieldsAt w (.slice a n c) fs) (hs : ∀ f ∈ fs, f.1.length ≤ 140737488355328 ∧ f.2.length ≤ 140737488355328) (hlen : fs.length ≤ 140737488355328) (ht : t.size ≤ 140737488355328) (hss : s.size ≤ 140737488355328) (hho : host.size ≤ 140737488355328) :
    Calls Tryz.prog 4 #[.string s, .agg #[.string m, .string t, .int .i64 mn, .slice a n c, .string bd], .string host] w (Ret w (.bool true)) := by
  have hb := (Below.refl w.heap.size w).alloc (Nat.le_refl _) (.cells #[.string m, .string t, .int .i64 mn, .slice a n c, .string bd] 38)
  have n1 := heap_alloc_new w (.cells #[.string m, .string t, .int .i64 mn, .slice a n c, .string bd] 38)
  have HF0 := Lib.hid hF
  have HF := Lib.hid (hF.below hb)
  have HN := Lib.hid n1
  have HB := Lib.hid hb
  have HG := Lib.hid (hg.next hb)
  have Hs := Lib.hid hs
  have hg0 := Lib.hid hg
  clear hF hb n1 hs hg
  have c0 := (req_cells HN.out).1
  obtain ⟨c1, c2, c3, c4⟩ := (req_cells HN.out).2
  by_cases hl : s.size ≤ 3000
  · have hli : (s.size : Int) ≤ 3000 := by omega
    go_enter Tryz.func4, Tryz.ntmps4
    go_wp2_with fail
    generalize w.alloc (.cells #[.string m, .string t, .int .i64 mn, .slice a n c, .string bd] 38) = W at *
    have hlt : w.heap.size < W.heap.size := (Array.getElem?_eq_some_iff.1 HN.out).1
    refine (law26_small m t bd mn a n c fs W HF.out Hs.out hlen ht).mono ?_
    rintro e w1 ⟨rfl, hb1⟩
    have HF1 := Lib.hid (HF.out.below hb1)
    have HN1 := Lib.hid ((hb1.block _ hlt).trans HN.out)
    have HB1 := Lib.hid (HB.out.trans (hb1.mono HB.out.size))
    have HG1 := Lib.hid (HG.out.next hb1)
    clear hb1 c0 c1 c2 c3 c4 HF HN HB HG Hs
    rcases hsm : ssmall t.data.toList fs with _ | _
    · go_wp2_with fail
      refine (law_works w1 HG1.out).mono ?_
      rintro e w2 ⟨rfl, hb2⟩
      go_wp2
      go_ret
      exact ⟨rfl, HB1.out.trans (hb2.mono HB1.out.size)⟩
    · have hs2 := small_of hsm
      obtain ⟨hs40, hlim⟩ := sfew_lim hs2.1
      have ht1 : t.size ≤ 100000 := by have := hs2.2; omega
      clear hs2 hsm
      by_cases hh : host.size ≤ 300
      · have hhi : (host.size : Int) ≤ 300 := by omega
        obtain ⟨c0, c1, c2, c3, c4⟩ := req_cells HN1.out
        go_wp2_with fail
        refine (vars_Of m t bd host mn a n c fs w1 HF1.out (by omega)).mono ?_
        rintro e w2 ⟨a', c', rfl, hown, hb2⟩
        have hz1 := HB1.out.size
        have hz2 := hb2.size
        have HB2 := Lib.hid (HB1.out.trans (hb2.mono HB1.out.size))
        have HN2 := Lib.hid ((hb2.block _ (blk_lt HN1.out)).trans HN1.out)
        have HO2 := Lib.hid hown
        clear hown hb2 c0 c1 c2 c3 c4 HF1 HN1 HB1 HG1
        have n3 : VBox (w2.alloc (.cells #[.string host, .string t, .slice a' fs.length c'] 41)) w2.heap.size host t (.slice a' fs.length c') := heap_alloc_new w2 _
        have b3 := (Below.refl w2.heap.size w2).alloc (Nat.le_refl _) (.cells #[.string host, .string t, .slice a' fs.length c'] 41)
        have HO3 := Lib.hid (HO2.out.below b3).at
        have HN3 := Lib.hid n3
        have HR3 := Lib.hid ((b3.block _ (blk_lt HN2.out)).trans HN2.out)
        have HB3 := Lib.hid (HB2.out.trans (b3.mono HB2.out.size))
        have hz3 := b3.size
        clear n3 b3 HO2 HB2 HN2
        obtain ⟨c0, c1, c2, c3, c4⟩ := req_cells HR3.out
        go_wp2_with fail
        generalize w2.alloc (.cells #[.string host, .string t, .slice a' fs.length c'] 41) = W3 at *
        have hvb : w2.heap.size < W3.heap.size := blk_lt HN3.out
        generalize w2.heap.size = vb at *
        refine (ref25_Of m t bd host mn a n c W3).mono ?_
        rintro e w4 ⟨rfl, hb4⟩
        have n5 : RVBox (w4.alloc (.cells #[.string m, .string t, .int .i64 mn, .slice a n c, .string bd, .string host] 44)) w4.heap.size m t mn (.slice a n c) bd host := heap_alloc_new w4 _
        have b5 := hb4.trans (((Below.refl w4.heap.size w4).alloc (Nat.le_refl _) (.cells #[.string m, .string t, .int .i64 mn, .slice a n c, .string bd, .string host] 44)).mono hb4.size)
        have hz4 := hb4.size
        have HO5 := Lib.hid (HO3.out.below b5)
        have HN5 := Lib.hid (show VBox _ vb host t (.slice a' fs.length c') from (b5.block vb hvb).trans HN3.out)
        have HV5 := Lib.hid n5
        have HB5 := Lib.hid (HB3.out.trans (b5.mono HB3.out.size))
        clear n5 b5 hb4 HO3 HN3 HR3 HB3 c0 c1 c2 c3 c4
        obtain ⟨v0, v1, v2⟩ := vbox_cells HN5.out
        go_wp2_with fail
        generalize w4.alloc (.cells #[.string m, .string t, .int .i64 mn, .slice a n c, .string bd, .string host] 44) = W5 at *
        have hrb : w4.heap.size < W5.heap.size := blk_lt HV5.out
        generalize w4.heap.size = rb at *
        refine (sub_Apply s host t a' fs.length c' fs W5 (hg0.out.next HB5.out) HO5.out hlim ht1 (by omega)).mono ?_
        rintro e w6 ⟨rfl, hb6⟩
        have HO6 := Lib.hid (HO5.out.below hb6)
        have HN6 := Lib.hid (show VBox w6 vb host t (.slice a' fs.length c') from (hb6.block vb (by omega)).trans HN5.out)
        have HV6 := Lib.hid (show RVBox w6 rb m t mn (.slice a n c) bd host from (hb6.block rb hrb).trans HV5.out)
        have HB6 := Lib.hid (HB5.out.trans (hb6.mono HB5.out.size))
        have hz6 := hb6.size
        clear hb6 HO5 HN5 HV5 HB5 v0 v1 v2
        obtain ⟨r0, r1, r2, r3, r4, r5⟩ := rvbox_cells HV6.out
        have hF6 := HF0.out.below HB6.out
        rw [apply_any]
        go_wp2_with fail
        refine (ref26_Apply s m t bd host mn a n c fs w6 hF6 hlim ht1 (by omega) (by omega)).mono ?_
        rintro e w7 ⟨rfl, hb7⟩
        have HO7 := Lib.hid (HO6.out.below hb7)
        have HN7 := Lib.hid (show VBox w7 vb host t (.slice a' fs.length c') from (hb7.block vb (by omega)).trans HN6.out)
        have HV7 := Lib.hid (show RVBox w7 rb m t mn (.slice a n c) bd host from (hb7.block rb (by omega)).trans HV6.out)
        have HB7 := Lib.hid (HB6.out.trans (hb7.mono HB6.out.size))
        have hz7 := hb7.size
        clear hb7 hF6 HO6 HN6 HV6 HB6 r0 r1 r2 r3 r4 r5
        rw [apply_any]
        generalize vapply host.data.toList t.data.toList fs s.data.toList = r at *
        go_wp2_with fail
        refine (sub_Uses s w7 (hg0.out.next HB7.out) (by omega)).mono ?_
        rintro e w8 ⟨v, rfl, hown, hb8⟩
        obtain ⟨ua, uc, rfl⟩ := own_shape hown
        have HU8 := Lib.hid (ulie_of hown)
        have HO8 := Lib.hid (HO7.out.below hb8)
        have HN8 := Lib.hid (show VBox w8 vb host t (.slice a' fs.length c') from (hb8.block vb (by omega)).trans HN7.out)
        have HV8 := Lib.hid (show RVBox w8 rb m t mn (.slice a n c) bd host from (hb8.block rb (by omega)).trans HV7.out)
        have HB8 := Lib.hid (HB7.out.trans (hb8.mono HB7.out.size))
        have hz8 := hb8.size
        have hmany := uses_many s.data.toList
        rw [bs_size] at hmany
        have HCh := Lib.hid (chain_uses s.data.toList (s.data.toList.length + 1) 0)
        have HCh' := Lib.hid (show Chain s.data.toList 0 (vuses s.data.toList) from HCh.out)
        clear hown hb8 HO7 HN7 HV7 HB7 HCh
        generalize vuses s.data.toList = us at *
        go_wp2_with fail
        go_loopw [14] (fun ix wr => ∃ k : Nat, k ≤ us.length ∧ ix = .int .i64 k ∧ Hid (Below w8.heap.size w8 wr)) (fun ix _ => us.length - (intOf ix).toNat)
        case atStart => exact ⟨0, Nat.zero_le _, rfl, Lib.hid (Below.refl _ _)⟩
        case round =>
          obtain ⟨k, hk, rfl, HBr⟩ := hrel
          have hzr := HBr.out.size
          by_cases hkl : k < us.length
          · obtain ⟨u, hu⟩ : ∃ u, us[k]? = some u := ⟨us[k], List.getElem?_eq_getElem hkl⟩
            obtain ⟨j, hfd, _⟩ := chain_at HCh'.out hu
            have hkey := hfd.key
            obtain ⟨g, rfl, e0, e1, e2, e3, e4, e5, e6⟩ := HU8.out k u hu
            obtain ⟨v0, v1, v2⟩ := vbox_cells HN8.out
            have HS1 := Lib.hid (show SVl wr g k vb u host t (.slice a' fs.length c') from SVl.next (w := w8) ⟨e0, e1, e2, e3, e4, e5, e6, v0, v1, v2⟩ HBr.out)
            obtain ⟨r0, r1, r2, r3, r4, r5⟩ := rvbox_cells HV8.out
            have HS2 := Lib.hid (show SAp w8 g k rb u m t mn (.slice a n c) bd host from ⟨e0, e1, e2, e3, e4, e5, e6, r0, r1, r2, r3, r4, r5⟩)
            clear e0 e1 e2 e3 e4 e5 e6 v0 v1 v2 r0 r1 r2 r3 r4 r5 hfd hu
            have i0 : (0 : Int) ≤ (k : Int) := by omega
            have i1 : (k : Int) < (us.length : Int) := by omega
            have HS1d := Lib.hid (HS1.out.next (Below.refl _ _).drew)
            have HOd := Lib.hid ((HO8.out.below HBr.out).below (Below.refl _ _).drew)
            have HGd := Lib.hid ((hg0.out.next (HB8.out.trans (HBr.out.mono HB8.out.size))).next (Below.refl _ _).drew)
            go_wp2_with fail
            go_region_held3 (fun w' => w'.cell? ⟨g, k * 7, none⟩ = some (.int .i64 u.src) ∧ w'.cell? ⟨g, k * 7 + 1, none⟩ = some (.int .i64 u.to) ∧ w'.cell? ⟨g, k * 7 + 2, none⟩ = some (.string ⟨u.name.toArray⟩) ∧ w'.cell? ⟨g, k * 7 + 3, none⟩ = some (.string ⟨u.key.toArray⟩) ∧ w'.cell? ⟨g, k * 7 + 4, none⟩ = some (.string ⟨u.dft.toArray⟩) ∧ w'.cell? ⟨g, k * 7 + 5, none⟩ = some (.bool u.hk) ∧ w'.cell? ⟨g, k * 7 + 6, none⟩ = some (.bool u.hd) ∧
                w'.cell? ⟨vb, 0, none⟩ = some (.string host) ∧ w'.cell? ⟨vb, 1, none⟩ = some (.string t) ∧ w'.cell? ⟨vb, 2, none⟩ = some (.slice a' fs.length c')) (first | with_reducible exact HS1e.out | with_reducible exact HS1d.out)
              ((go_at_call 17; refine (sub_Value u host t a' fs.length c' fs _ HGd.out HOd.out hlim ht1 (by omega)).mono ?_; rintro e w9 ⟨rfl, hb9⟩; have HS1e := Lib.hid (HS1d.out.next hb9)))
            have HBr9 := Lib.hid (HBr.out.trans ((below_ofdrew hb9).mono HBr.out.size))
            have hz9 := HBr9.out.size
            have HS2d := Lib.hid ((HS2.out.next HBr9.out).next (Below.refl _ _).drew)
            have HFd := Lib.hid ((HF0.out.below (HB8.out.trans (HBr9.out.mono HB8.out.size))).below (Below.refl _ _).drew)
            clear hb9 HS1 HS1d HS1e HOd HGd HS2
            go_wp2_with fail
            go_region_held3 (fun w' => w'.cell? ⟨g, k * 7, none⟩ = some (.int .i64 u.src) ∧ w'.cell? ⟨g, k * 7 + 1, none⟩ = some (.int .i64 u.to) ∧ w'.cell? ⟨g, k * 7 + 2, none⟩ = some (.string ⟨u.name.toArray⟩) ∧ w'.cell? ⟨g, k * 7 + 3, none⟩ = some (.string ⟨u.key.toArray⟩) ∧ w'.cell? ⟨g, k * 7 + 4, none⟩ = some (.string ⟨u.dft.toArray⟩) ∧ w'.cell? ⟨g, k * 7 + 5, none⟩ = some (.bool u.hk) ∧ w'.cell? ⟨g, k * 7 + 6, none⟩ = some (.bool u.hd) ∧
                w'.cell? ⟨rb, 0, none⟩ = some (.string m) ∧ w'.cell? ⟨rb, 1, none⟩ = some (.string t) ∧ w'.cell? ⟨rb, 2, none⟩ = some (.int .i64 mn) ∧ w'.cell? ⟨rb, 3, none⟩ = some (.slice a n c) ∧ w'.cell? ⟨rb, 4, none⟩ = some (.string bd) ∧ w'.cell? ⟨rb, 5, none⟩ = some (.string host)) (first | with_reducible exact HS2e.out | with_reducible exact HS2d.out)
              ((go_at_call 18; refine (ref26_Value u m t bd host mn a n c fs _ HFd.out hlim ht1 (by omega)).mono ?_; rintro e w10 ⟨rfl, hb10⟩; have HS2e := Lib.hid (HS2d.out.next hb10)))
            have HBr10 := Lib.hid (HBr9.out.trans ((below_ofdrew hb10).mono HBr9.out.size))
            clear hb10 HS2d HS2e HFd HBr9
            generalize vval host.data.toList t.data.toList fs u = y at *
            go_wp2_with fail
            go_roundw
            case rel => exact ⟨k + 1, by omega, by go_num, HBr10⟩
            case measure => (simp [intOf] <;> omega)
          · have i1 : (us.length : Int) ≤ (k : Int) := by omega
            have HB9 := Lib.hid (HB8.out.trans (HBr.out.mono HB8.out.size))
            go_wp2_with fail
            refine (law_works wr (hg0.out.next HB9.out)).mono ?_
            rintro e w9 ⟨rfl, hb9⟩
            have HB10 := Lib.hid (HB9.out.trans (hb9.mono HB9.out.size))
            clear hb9
            go_wp2
            go_ret
            exact ⟨rfl, HB10.out⟩
      · have hhi : (300 : Int) < (host.size : Int) := by omega
        go_wp2_with fail
        refine (law_works w1 HG1.out).mono ?_
        rintro e w2 ⟨rfl, hb2⟩
        go_wp2
        go_ret
        exact ⟨rfl, HB1.out.trans (hb2.mono HB1.out.size)⟩
  · have hli : (3000 : Int) < (s.size : Int) := by omega
    go_enter Tryz.func4, Tryz.ntmps4
    go_wp2_with fail
    generalize w.alloc (.cells #[.string m, .string t, .int .i64 mn, .slice a n c, .string bd] 38) = W at *
    clear c0 c1 c2 c3 c4
    refine (law_works W HG.out).mono ?_
    rintro e w2 ⟨rfl, hb2⟩
    go_wp2
    go_ret
    exact ⟨rfl, HB.out.trans (hb2.mono HB.out.size)⟩
end Go.Proofs.YtgpeehilemidlaaGreatDoor
