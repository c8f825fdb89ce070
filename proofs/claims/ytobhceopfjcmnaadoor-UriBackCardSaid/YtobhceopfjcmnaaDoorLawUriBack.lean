/- The law UriBack. -/
import Derived.Test.YtobhceopfjcmnaaDoorUriAwake
import Derived.Test.YtobhceopfjcmnaaDoorLawLong
import Derived.Test.YtobhceopfjcmnaaDoorUriT
import Derived.Deep.RegionHeld3
namespace Go.Proofs.YtobhceopfjcmnaaDoor
open Go.RowKit
set_option linter.unusedVariables false

/-- The box's six cells. -/
abbrev SixU (b : Nat) (u : U) (w' : World) : Prop := w'.cell? ⟨b, 0, none⟩ = some (.string ⟨u.scheme.toArray⟩) ∧ w'.cell? ⟨b, 1, none⟩ = some (.string ⟨u.host.toArray⟩) ∧ w'.cell? ⟨b, 2, none⟩ = some (.int .i64 u.port) ∧ w'.cell? ⟨b, 3, none⟩ = some (.string ⟨u.path.toArray⟩) ∧ w'.cell? ⟨b, 4, none⟩ = some (.string ⟨u.query.toArray⟩) ∧ w'.cell? ⟨b, 5, none⟩ = some (.bool u.hq)
theorem UBx.six {W : World} {b : Nat} {u : U} (h : UBx W b u) : SixU b u W := by
  obtain ⟨c0, c1, c2, c3, c4, c5⟩ := h.cells
  exact ⟨c0, c1, c2, c3, c4, c5⟩
theorem not_long {u : U} (h : longU u = false) : LimU u := by
  unfold longU at h
  have := of_decide_eq_false h
  exact ⟨by omega, by omega, by omega, by omega⟩

theorem check_else {u : U} (h : ¬ checkB u = 0) : checkB u = 3 ∨ checkB u = 4 := by
  unfold checkB at h ⊢
  cases hf : formB u
  · exact .inr rfl
  · rw [hf] at h
    cases hd : decide ((textB u).length ≤ maxURI)
    · exact .inl rfl
    · rw [hd] at h; exact (h rfl).elim
theorem parse_code {s : Bs} {v : U} {c : Int} (h : parseB s = (v, c)) : c = 0 ∨ (v = noU ∧ (c = 3 ∨ c = 4)) := by
  unfold parseB at h
  cases hl : decide (s.length ≤ maxURI)
  · rw [hl] at h; injection h with h1 h2; exact .inr ⟨h1.symm, .inl h2.symm⟩
  · rw [hl, cond_true] at h
    cases hp : portedB (rawB s) with
    | none => rw [hp] at h; injection h with h1 h2; exact .inr ⟨h1.symm, .inr h2.symm⟩
    | some u =>
      rw [hp] at h
      change (if checkB u = 0 then (u, 0) else (noU, checkB u)) = (v, c) at h
      by_cases hk : checkB u = 0
      · rw [if_pos hk] at h; injection h with _ h2; exact .inl h2.symm
      · rw [if_neg hk] at h; injection h with h1 h2; rw [← h2]; exact .inr ⟨h1.symm, check_else hk⟩
/-- The law's end behind the first test. -/
abbrev PathAt (b : Nat) (x : Bs) (w' : World) : Prop := w'.cell? ⟨b, 3, none⟩ = some (.string ⟨x.toArray⟩)
theorem text_ne {l a b v : Bs} (h1 : l = a ++ b) (h2 : v = a ++ 47 :: b) : (v == l) = false := by
  rw [beq_eq_false_iff_ne]
  intro e
  have := congrArg List.length e
  rw [h1, h2] at this
  simp at this
/-- Where the text is cut, and what comes of it. -/
structure CutAt (l a b v : Bs) (k : Nat) : Prop where
  le : k ≤ l.length
  e1 : (⟨l.toArray⟩ : ByteArray).extract 0 k = ⟨a.toArray⟩
  e2 : (⟨l.toArray⟩ : ByteArray).extract k l.length = ⟨b.toArray⟩
  e3 : l.length ≤ 3000 → ∃ ab : Bs, (∀ W, (Op.stringOp .add ⟨a.toArray⟩ ⟨#[47]⟩).run Tryd.prog W = .ok (.string ⟨ab.toArray⟩) W) ∧ (∀ W, (Op.stringOp .add ⟨ab.toArray⟩ ⟨b.toArray⟩).run Tryd.prog W = .ok (.string ⟨v.toArray⟩) W)
theorem cut_mk {l a b v : Bs} {k : Nat} (h1 : l = a ++ b) (h2 : v = a ++ 47 :: b) (hk : k = a.length) : CutAt l a b v k := by
  subst h1 h2 hk
  refine ⟨by simp, bs_ext (by rw [ext_data]; simp), bs_ext (by rw [ext_data]; simp), fun hl => ⟨a ++ [47], fun W => ?_, fun W => ?_⟩⟩
  · have := run_string_add_sum (P := Tryd.prog) W ⟨a.toArray⟩ ⟨([47] : Bs).toArray⟩ (by show a.length + 1 ≤ _; simp at hl; omega)
    rw [cat_bs] at this; exact this
  · have := run_string_add_sum (P := Tryd.prog) W ⟨(a ++ [47]).toArray⟩ ⟨b.toArray⟩ (by show (a ++ [47]).length + b.length ≤ _; simp at hl ⊢; omega)
    rw [cat_bs] at this; simpa using this
theorem cut_end {l a b v : Bs} (h : CutAt l a b v l.length) : b = [] := by
  have := congrArg ByteArray.size h.e2
  rw [ByteArray.size_extract] at this
  have h2 : (⟨b.toArray⟩ : ByteArray).size = b.length := rfl
  rw [h2] at this
  exact List.eq_nil_of_length_eq_zero (by omega)
set_option maxRecDepth 100000 in
set_option maxHeartbeats 2000000 in
theorem law09_UriBack (u : U) (s : ByteArray) (w : World) (hg : GX w) (hu : BigU u) :
    Calls Tryd.prog 5 #[uV u, .string s] w (Ret w (.bool true)) := by
  have HB := Lib.hid (ubx_new w u)
  have HW := Lib.hid ((Below.refl w.heap.size w).alloc (Nat.le_refl _) (uObj u))
  have HG := Lib.hid hg
  have hsix := HB.out.six
  obtain ⟨c0, c1, c2, c3, c4, c5⟩ := hsix
  clear hg
  go_enter Tryd.func5, Tryd.ntmps5
  go_wp2_with fail
  generalize w.alloc (.cells #[.string ⟨u.scheme.toArray⟩, .string ⟨u.host.toArray⟩, .int .i64 u.port, .string ⟨u.path.toArray⟩, .string ⟨u.query.toArray⟩, .bool u.hq] 24) = W at *
  refine (law09_long u W hu).mono ?_
  rintro e w1 ⟨rfl, hb1⟩
  have HB1 := Lib.hid (HB.out.next hb1)
  have HW1 := Lib.hid (HW.out.trans (hb1.mono HW.out.size))
  clear hb1 c0 c1 c2 c3 c4 c5
  obtain ⟨c0, c1, c2, c3, c4, c5⟩ := HB1.out.six
  rcases hl : longU u with _ | _
  · have HL := Lib.hid (not_long hl)
    by_cases hs : s.size ≤ 3000
    · have hsi : ¬ ((3000 : Int) < (s.size : Int)) := by omega
      have HS1d := Lib.hid (show SixU w.heap.size u w1.drew from HB1.out.six)
      have HBd := Lib.hid (show UBx w1.drew w.heap.size u from HB1.out)
      have HWd := Lib.hid (show Below w.heap.size w w1.drew from HW1.out.drew)
      go_upto_if 26 with fail
      go_cut [26] (fun t wx => t = .bool false ∧ Hid (Below w.heap.size w wx))
      case first =>
        by_cases hc : checkB u = 0
        · have HO := Lib.hid ((checkB_ok u).1 hc)
          have HT := Lib.hid (show putB u = textB u by unfold putB; rw [HO.out]; rfl)
          have HC := Lib.hid hc
          clear hc
          go_wp2_with fail
          clear c0 c1 c2 c3 c4 c5
          go_region_held3 (SixU w.heap.size u) (first | with_reducible exact HS4.out | with_reducible exact HS3.out | with_reducible exact HS2.out | with_reducible exact HS1d.out)
            (first
              | (go_at_call 12; refine (uri_Check u _ (HG.out.next HWd.out) HL.out).mono ?_; rintro e w2 ⟨rfl, hb2⟩; rw [HC.out]; have HB2 := Lib.hid (HBd.out.next hb2); have HW2 := Lib.hid (HWd.out.trans (hb2.mono HWd.out.size)); have HS2 := Lib.hid HB2.out.six; clear hb2)
              | (go_at_call 14; refine (uri_Put u _ (HG.out.next HW2.out) HL.out).mono ?_; rintro e w3 ⟨rfl, hb3⟩; rw [HT.out]; have HB3 := Lib.hid (HB2.out.next hb3); have HW3 := Lib.hid (HW2.out.trans (hb3.mono HW2.out.size)); have HS3 := Lib.hid HB3.out.six; clear hb3)
              | (go_at_call 13; refine (law09_is u _ (HG.out.next HW3.out) HO.out).mono ?_; rintro e w4 ⟨rfl, hb4⟩; have HB4 := Lib.hid (HB3.out.next hb4); have HW4 := Lib.hid (HW3.out.trans (hb4.mono HW3.out.size)); have HS4 := Lib.hid HB4.out.six; clear hb4))
          go_wp2_with fail
          go_meet
          exact ⟨rfl, HW4⟩
        · rcases check_else hc with h3 | h3
          · have HC := Lib.hid h3
            clear hc h3
            go_wp2_with fail
            go_region_with (first | (go_at_call 12; refine (uri_Check u _ (HG.out.next HWd.out) HL.out).mono ?_; rintro e w2 ⟨rfl, hb2⟩; rw [HC.out]; have HB2 := Lib.hid (HBd.out.next hb2); have HW2 := Lib.hid (HWd.out.trans (hb2.mono HWd.out.size)); obtain ⟨c0, c1, c2, c3, c4, c5⟩ := HB2.out.six; clear hb2))
            all_goals
              go_wp2_with fail
              go_meet
              exact ⟨rfl, HW2⟩
          · have HC := Lib.hid h3
            clear hc h3
            go_wp2_with fail
            go_region_with (first | (go_at_call 12; refine (uri_Check u _ (HG.out.next HWd.out) HL.out).mono ?_; rintro e w2 ⟨rfl, hb2⟩; rw [HC.out]; have HB2 := Lib.hid (HBd.out.next hb2); have HW2 := Lib.hid (HWd.out.trans (hb2.mono HWd.out.size)); obtain ⟨c0, c1, c2, c3, c4, c5⟩ := HB2.out.six; clear hb2))
            all_goals
              go_wp2_with fail
              go_meet
              exact ⟨rfl, HW2⟩
      case rest =>
        obtain ⟨rfl, HWx⟩ := hcut
        obtain ⟨l, rfl⟩ : ∃ l : Bs, s = ⟨l.toArray⟩ := ⟨s.data.toList, rfl⟩
        have hll : l.length ≤ 3000 := by rw [← bs_size] at hs; exact hs
        obtain ⟨v, c, hp⟩ : ∃ v c, parseB l = (v, c) := ⟨_, _, rfl⟩
        have HP := Lib.hid hp
        clear hp
        go_wp2_with fail
        refine (uri_Parse ⟨l.toArray⟩ _ (HG.out.next HWx.out) (by omega)).mono ?_
        rintro e w5 ⟨rfl, hb5⟩
        rw [show parseB (⟨l.toArray⟩ : ByteArray).data.toList = (v, c) from HP.out]
        have HB5 := Lib.hid (ubx_new w5 v)
        have HW5 := Lib.hid ((HWx.out.trans (hb5.mono HWx.out.size)).alloc (by have h1 := HWx.out.size; have h2 := hb5.size; omega) (uObj v))
        have hz5 : w.heap.size ≤ w5.heap.size := by have h1 := HWx.out.size; have h2 := hb5.size; omega
        clear hb5
        rcases parse_code HP.out with rfl | ⟨rfl, hc⟩
        · have HBk := Lib.hid (parse_back HP.out)
          obtain ⟨d0, d1, d2, d3, d4, d5⟩ := HB5.out.six
          have HOk := Lib.hid HBk.out.ok
          have HTx := Lib.hid (show putB v = textB v by unfold putB; rw [HOk.out]; rfl)
          go_wp2_with fail
          generalize w5.alloc (.cells #[.string ⟨v.scheme.toArray⟩, .string ⟨v.host.toArray⟩, .int .i64 v.port, .string ⟨v.path.toArray⟩, .string ⟨v.query.toArray⟩, .bool v.hq] 24) = W5 at *
          refine (uri_Put v W5 (HG.out.next HW5.out) (limU_ok HOk.out)).mono ?_
          rintro e w6 ⟨rfl, hb6⟩
          rw [HTx.out]
          have HB6 := Lib.hid (HB5.out.next hb6)
          have HW6 := Lib.hid (HW5.out.trans (hb6.mono HW5.out.size))
          clear hb6 d0 d1 d2 d3 d4 d5
          obtain ⟨d0, d1, d2, d3, d4, d5⟩ := HB6.out.six
          rcases HBk.out.eq with rfl | ⟨hpath, a, b, hl1, hl2, hl3⟩
          · have HCk := Lib.hid ((checkB_ok v).2 HOk.out)
            go_wp2_with fail
            refine (uri_Check v w6 (HG.out.next HW6.out) (limU_ok HOk.out)).mono ?_
            rintro e w7 ⟨rfl, hb7⟩
            rw [HCk.out]
            have HW7 := Lib.hid (HW6.out.trans (hb7.mono HW6.out.size))
            clear hb7
            go_wp2_with fail
            refine (law09_awake w7 (HG.out.next HW7.out)).mono ?_
            rintro e w8 ⟨rfl, hb8⟩
            have HW8 := Lib.hid (HW7.out.trans (hb8.mono HW7.out.size))
            clear hb8
            go_wp2_with fail
            go_ret
            exact ⟨rfl, HW8.out⟩
          · have hne := text_ne hl1 hl2
            have HL1 := Lib.hid hl1
            have HL2 := Lib.hid hl2
            have HL3 := Lib.hid hl3
            clear hl1 hl2 hl3
            have HBd6 := Lib.hid (show PathAt w5.heap.size [47] w6.drew from by have := d3; rw [hpath] at this; exact this)
            have HWd6 := Lib.hid (show Below w.heap.size w w6.drew from HW6.out.drew)
            clear d0 d1 d2 d3 d4 d5 hpath
            go_wp2_with fail
            refine (lib_IndexByte ⟨l.toArray⟩ 63 w6).mono ?_
            rintro e w7 ⟨rfl, rfl⟩
            rw [show (⟨l.toArray⟩ : ByteArray).data.toList = l from rfl]
            obtain ⟨k, hk, hat⟩ : ∃ k : Nat, CutAt l a b (textB v) k ∧ ((l.contains 63 = true ∧ k = lead (· != 63) l) ∨ (l.contains 63 = false ∧ k = l.length)) := by
              cases hq : l.contains 63
              · refine ⟨l.length, cut_mk HL1.out HL2.out ?_, .inr ⟨rfl, rfl⟩⟩
                rw [← HL3.out, upto_all 63 l hq]
              · refine ⟨lead (· != 63) l, cut_mk HL1.out HL2.out ?_, .inl ⟨rfl, rfl⟩⟩
                rw [← HL3.out, ← take_upto, List.length_take]
                have := lead_le (· != 63) l
                omega
            have hce := fun e : k = l.length => cut_end (by rw [e] at hk; exact hk)
            obtain ⟨k1, k2, k3, k4⟩ := hk
            obtain ⟨ab, k4, k5⟩ := k4 hll
            generalize textB v = tv at *
            rcases hat with ⟨hq, hk⟩ | ⟨hq, hk⟩
            · rw [hq, if_pos rfl, ← hk]
              have z1 : (0 : Int) ≤ (k : Int) := by omega
              have z2 : (k : Int) ≤ (l.length : Int) := by omega
              have z3 : ¬ ((k : Int) < 0) := by omega
              clear hq hk hce
              go_wp2_with fail
              go_region_held3 (fun w' => w'.cell? ⟨w5.heap.size, 3, none⟩ = some (.string ⟨#[47]⟩)) (first | with_reducible exact HBd8.out | with_reducible exact HBd6.out)
                (first | (go_at_call 6; refine (law09_awake _ (HG.out.next HWd6.out)).mono ?_; rintro e w8 ⟨rfl, hb8⟩; have HW8 := Lib.hid (HWd6.out.trans (hb8.mono HWd6.out.size)); have HBd8 := Lib.hid (((bcell hb8).1 _ 3 (cell_lt HBd6.out)).trans HBd6.out); clear hb8))
              go_wp2_with fail
              go_ret
              exact ⟨rfl, HW8.out⟩
            · rw [hq, if_neg (by decide)]
              subst hk
              obtain rfl := hce rfl
              have k6 : ∀ W, (Op.stringOp .add ⟨ab.toArray⟩ ⟨#[]⟩).run Tryd.prog W = .ok (.string ⟨tv.toArray⟩) W := k5
              have k7 : ∀ W, (Op.stringOp .add ⟨ab.toArray⟩ ByteArray.empty).run Tryd.prog W = .ok (.string ⟨tv.toArray⟩) W := k5
              clear hq hce
              go_wp2_with fail
              go_region_held3 (fun w' => w'.cell? ⟨w5.heap.size, 3, none⟩ = some (.string ⟨#[47]⟩)) (first | with_reducible exact HBd8.out | with_reducible exact HBd6.out)
                (first | (go_at_call 6; refine (law09_awake _ (HG.out.next HWd6.out)).mono ?_; rintro e w8 ⟨rfl, hb8⟩; have HW8 := Lib.hid (HWd6.out.trans (hb8.mono HWd6.out.size)); have HBd8 := Lib.hid (((bcell hb8).1 _ 3 (cell_lt HBd6.out)).trans HBd6.out); clear hb8))
              go_wp2_with fail
              go_ret
              exact ⟨rfl, HW8.out⟩
        · rcases hc with rfl | rfl
          all_goals
            obtain ⟨d0, d1, d2, d3, d4, d5⟩ := HB5.out.six
            unfold noU at *
            go_wp2_with fail
            refine (law09_awake _ (HG.out.next HW5.out)).mono ?_
            rintro e w6 ⟨rfl, hb6⟩
            have HW6 := Lib.hid (HW5.out.trans (hb6.mono HW5.out.size))
            clear hb6
            go_wp2_with fail
            go_ret
            exact ⟨rfl, HW6.out⟩
    · have hsi : (3000 : Int) < (s.size : Int) := by omega
      go_wp2_with fail
      refine (law09_awake w1 (HG.out.next HW1.out)).mono ?_
      rintro e w2 ⟨rfl, hb2⟩
      have HW2 := Lib.hid (HW1.out.trans (hb2.mono HW1.out.size))
      clear hb2
      go_wp2_with fail
      go_ret
      exact ⟨rfl, HW2.out⟩
  · go_wp2_with fail
    refine (law09_awake w1 (HG.out.next HW1.out)).mono ?_
    rintro e w2 ⟨rfl, hb2⟩
    have HW2 := Lib.hid (HW1.out.trans (hb2.mono HW1.out.size))
    clear hb2
    go_wp2_with fail
    go_ret
    exact ⟨rfl, HW2.out⟩
end Go.Proofs.YtobhceopfjcmnaaDoor
