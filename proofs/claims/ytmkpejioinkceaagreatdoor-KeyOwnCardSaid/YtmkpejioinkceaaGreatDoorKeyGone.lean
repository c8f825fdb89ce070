/- The walk of key.Gone. -/
import Derived.Test.YtmkpejioinkceaaGreatDoorKeyLawP
import Derived.Test.YtmkpejioinkceaaGreatDoorVals
import Derived.Test.YtmkpejioinkceaaGreatDoorRes
namespace Go.Proofs.YtmkpejioinkceaaGreatDoor
open Go.RowKit Go.WideMaps Go.Maps
set_option linter.unusedVariables false

abbrev repObj (st : Int) (m : ByteArray) (mn : Int) (a : Option Addr) (n c : Nat) (bd : ByteArray) : Obj := .cells #[.int .i64 st, .string m, .int .i64 mn, .slice a n c, .string bd] 31
theorem goneOk_no {u : U} {st : Int} (h : goneOk u st = false) : checkB u ≠ 0 ∨ (checkB u = 0 ∧ st < 200) ∨ (checkB u = 0 ∧ ¬ st < 200 ∧ 399 < st) := by
  unfold goneOk at h
  by_cases hc : checkB u = 0
  · rw [hc] at h
    have h : decide (200 ≤ st ∧ st ≤ 399) = false := h
    rw [decide_eq_false_iff_not] at h
    by_cases h1 : st < 200
    · exact .inr (.inl ⟨hc, h1⟩)
    · exact .inr (.inr ⟨hc, h1, by omega⟩)
  · exact .inl hc
theorem goneOk_yes {u : U} {st : Int} (h : goneOk u st = true) : checkB u = 0 ∧ ¬ st < 200 ∧ ¬ 399 < st := by
  unfold goneOk at h
  rw [Bool.and_eq_true, beq_iff_eq, decide_eq_true_eq] at h
  exact ⟨h.1, by omega, by omega⟩

set_option maxRecDepth 100000 in
theorem key_Gone_no (u : U) (st mn : Int) (m bd : ByteArray) (a : Option Addr) (n c : Nat) (w : World) (hg : GX w) (hl : LimU u) (hno : goneOk u st = false) :
    Calls Tryz.prog 16 #[uV u, .agg #[.int .i64 st, .string m, .int .i64 mn, .slice a n c, .string bd]] w (RetStrs w []) := by
  have HG := Lib.hid hg
  have HL := Lib.hid hl
  have HT := two_new w (.cells #[.string ⟨u.scheme.toArray⟩, .string ⟨u.host.toArray⟩, .int .i64 u.port, .string ⟨u.path.toArray⟩, .string ⟨u.query.toArray⟩, .bool u.hq] 23) (.cells #[.int .i64 st, .string m, .int .i64 mn, .slice a n c, .string bd] 31)
  have HB := Lib.hid (show UBx _ w.heap.size u from HT.b1)
  have HR := Lib.hid HT.b2
  have HW := Lib.hid HT.below
  clear HT hg hl
  obtain ⟨c0, c1, c2, c3, c4, c5⟩ := HB.out.cells
  go_enter Tryz.func16, Tryz.ntmps16
  go_wp2_with fail
  generalize (w.alloc (.cells #[.string ⟨u.scheme.toArray⟩, .string ⟨u.host.toArray⟩, .int .i64 u.port, .string ⟨u.path.toArray⟩, .string ⟨u.query.toArray⟩, .bool u.hq] 23)).alloc (.cells #[.int .i64 st, .string m, .int .i64 mn, .slice a n c, .string bd] 31) = W at *
  refine (uri_Check u W (HG.out.next HW.out) HL.out).mono ?_
  rintro e w1 ⟨rfl, hb1⟩
  have HW1 := Lib.hid (HW.out.trans (hb1.mono HW.out.size))
  have r0 := cell_of_row w1 _ 0 _ _ _ ((hb1.block _ (lt_of_at HR.out)).trans HR.out)
  clear hb1 c0 c1 c2 c3 c4 c5
  rcases goneOk_no hno with h1 | ⟨h1, h2⟩ | ⟨h1, h2, h3⟩
  · have hx : (checkB u == 0) = false := beq_eq_false_iff_ne.2 h1
    generalize checkB u = k at *
    go_wp2_with fail
    go_ret
    exact ⟨_, rfl, World.ownsRow_nil _ _ _ _, HW1.out⟩
  · rw [h1]
    go_wp2_with fail
    go_ret
    exact ⟨_, rfl, World.ownsRow_nil _ _ _ _, HW1.out⟩
  · rw [h1]
    go_wp2_with fail
    go_ret
    exact ⟨_, rfl, World.ownsRow_nil _ _ _ _, HW1.out⟩

set_option maxRecDepth 100000 in
set_option maxHeartbeats 2000000 in
theorem key_Gone_yes (u : U) (st mn : Int) (m bd : ByteArray) (a : Option Addr) (n c : Nat) (fs : List Fld) (w : World) (hg : GX w) (hl : LimU u) (hF : FieldsAt w (.slice a n c) fs) (hlim : Lim fs) (hok : goneOk u st = true) :
    Calls Tryz.prog 16 #[uV u, .agg #[.int .i64 st, .string m, .int .i64 mn, .slice a n c, .string bd]] w (RetStrs w (goneB u st fs)) := by
  have hmm := @run_makeMap Tryz.prog
  have hmf : ∀ (fn : Fn) (first cap : Array Value) (w : World), (Instr.makeFunc fn first cap).run Tryz.prog w = .ok (.func fn first cap) w := fun _ _ _ _ => rfl
  have HG := Lib.hid hg
  have HL := Lib.hid hl
  have HM := Lib.hid hlim
  have HF := Lib.hid hF
  have HEnd := Lib.hid (outS_end (fs := fs) hok)
  obtain ⟨k1, k2, k3⟩ := goneOk_yes hok
  have HT := two_new w (.cells #[.string ⟨u.scheme.toArray⟩, .string ⟨u.host.toArray⟩, .int .i64 u.port, .string ⟨u.path.toArray⟩, .string ⟨u.query.toArray⟩, .bool u.hq] 23) (.cells #[.int .i64 st, .string m, .int .i64 mn, .slice a n c, .string bd] 31)
  have HB := Lib.hid (show UBx _ w.heap.size u from HT.b1)
  have HR := Lib.hid HT.b2
  have HW := Lib.hid HT.below
  clear HT hg hl hlim hF
  obtain ⟨c0, c1, c2, c3, c4, c5⟩ := HB.out.cells
  go_enter Tryz.func16, Tryz.ntmps16
  go_wp2_with fail
  generalize (w.alloc (.cells #[.string ⟨u.scheme.toArray⟩, .string ⟨u.host.toArray⟩, .int .i64 u.port, .string ⟨u.path.toArray⟩, .string ⟨u.query.toArray⟩, .bool u.hq] 23)).alloc (.cells #[.int .i64 st, .string m, .int .i64 mn, .slice a n c, .string bd] 31) = W at *
  refine (uri_Check u W (HG.out.next HW.out) HL.out).mono ?_
  rintro e w1 ⟨rfl, hb1⟩
  have HW1 := Lib.hid (HW.out.trans (hb1.mono HW.out.size))
  have HR1 := Lib.hid ((hb1.block _ (lt_of_at HR.out)).trans HR.out)
  have HB1 := Lib.hid (HB.out.next hb1)
  have r0 := cell_of_row w1 _ 0 _ _ _ HR1.out
  clear hb1 c0 c1 c2 c3 c4 c5
  rw [k1]
  obtain ⟨c0, c1, c2, c3, c4, c5⟩ := HB1.out.cells
  have HO4 := Lib.hid (ord4_start (w := w) (W := w1) (bu := w.heap.size) (Nat.le_refl _) HB1.out.lt)
  have HI4 := Lib.hid (GI.start HW1.out HB1.out HR1.out)
  go_upto_region 6 with fail
  generalize ((w1.alloc (.map #[] 0)).alloc (.cells #[.map (some w1.heap.size)] 51)).alloc (.cells #[.slice none 0 0] 34) = W4 at *
  generalize w1.heap.size = mb at *
  clear c0 c1 c2 c3 c4 c5 hmm hmf HR HB HW k1 r0
  obtain ⟨c0, c1, c2, c3, c4, c5⟩ := HI4.out.box.cells
  go_wp2_with fail
  refine (key_add w W4 u u _ _ _ _ _ ([], []) HG.out HI4.out HO4.out HL.out HL.out (Nat.zero_le _) (Nat.zero_le _)).mono ?_
  rintro e w5 ⟨rfl, hi5⟩
  have HI5 := Lib.hid (show GI w (w5.alloc (.cells #[.string ⟨#[108, 111, 99, 97, 116, 105, 111, 110]⟩, .string ⟨#[99, 111, 110, 116, 101, 110, 116, 45, 108, 111, 99, 97, 116, 105, 111, 110]⟩] 9)) u w.heap.size mb (mb + 1) (mb + 1 + 1) _ (outS u fs 0) from hi5.out.keep ((Below.refl _ _).alloc (Nat.le_refl _) _) (Nat.le_refl _) (heap_alloc_new w5 names2))
  clear c0 c1 c2 c3 c4 c5 hi5 HI4
  go_wp2_with fail
  generalize w5.alloc (.cells #[.string ⟨#[108, 111, 99, 97, 116, 105, 111, 110]⟩, .string ⟨#[99, 111, 110, 116, 101, 110, 116, 45, 108, 111, 99, 97, 116, 105, 111, 110]⟩] 9) = W5 at *
  generalize w5.heap.size = b7 at *
  go_loopw [34] (fun i wr => ∃ k : Nat, k ≤ 2 ∧ i = .int .i64 k ∧ Hid (GI w wr u w.heap.size mb (mb + 1) (mb + 1 + 1) [(b7, names2), (w.heap.size + 1, repObj st m mn a n c bd)] (outS u fs k))) (fun i _ => 2 - (intOf i).toNat)
  case atStart => exact ⟨0, Nat.zero_le _, rfl, HI5⟩
  case round =>
    obtain ⟨k, hk, rfl, HI⟩ := hrel
    clear HI5
    by_cases hlt : k < 2
    · obtain ⟨nm, hn1, hn2, hn3⟩ := outS_name u fs k hlt
      have HN := Lib.hid hn3
      have g7 := HI.out.name hn2
      have hr := HI.out.rep
      have r3 := cell_of_row wr _ 3 _ _ _ hr
      have i0 : (0 : Int) ≤ (k : Int) := by omega
      have i1 : (k : Int) < 2 := by omega
      clear hn2 hn3 hr
      go_wp2_with fail
      refine (fields_Values fs (.slice a n c) ⟨nm.toArray⟩ wr (HF.out.below HI.out.below) HM.out (by show nm.length ≤ _; omega)).mono ?_
      rintro e w2 ⟨lv, rfl, hown2, hb2⟩
      obtain ⟨la, lc, rfl⟩ := own_shape hown2
      obtain ⟨K', hk1, hk2⟩ := HI.out.keepRow hb2 hown2
      have HK1 := Lib.hid hk1
      have HK2 := Lib.hid hk2
      have hls : (values fs nm).length ≤ 1000 := Nat.le_trans (values_len fs nm) HM.out.many
      have HLS := Lib.hid hls
      obtain ⟨q1, q2⟩ := outS_len u HM.out.many k
      have HQ1 := Lib.hid q1
      have HQ2 := Lib.hid q2
      have HV := Lib.hid (fun (j : Nat) (v : Bs) (h : (values fs nm)[j]? = some v) => value_lim HM.out h)
      clear hown2 hb2 hk1 hk2 q1 q2 hls g7 r3
      change _ at HN
      generalize outS u fs k = S at *
      rw [show values fs (⟨nm.toArray⟩ : ByteArray).data.toList = values fs nm from rfl] at HK2 ⊢
      generalize values fs nm = ls at *
      go_wp2_with fail
      go_loopw [43] (fun i wr => ∃ j : Nat, j ≤ ls.length ∧ i = .int .i64 j ∧ Hid (GI w wr u w.heap.size mb (mb + 1) (mb + 1 + 1) K' (inS u S ls j))) (fun i _ => ls.length - (intOf i).toNat)
      case atStart => exact ⟨0, Nat.zero_le _, rfl, HK1⟩
      case round =>
        obtain ⟨j, hj, rfl, HJ⟩ := hrel
        by_cases hjl : j < ls.length
        · obtain ⟨v, hv⟩ : ∃ v, ls[j]? = some v := ⟨ls[j], List.getElem?_eq_getElem hjl⟩
          obtain ⟨-, lb, lo, rfl, hlc, hlb, hcell⟩ := strs_at (HK2.out _ _ HJ.out).1 hv
          have HVJ := Lib.hid hv
          have hvl := HV.out j v hv
          have j0 : (0 : Int) ≤ (j : Int) := by omega
          have j1 : (j : Int) < (ls.length : Int) := by omega
          have j2 : ls.length ≤ 1000 := HLS.out
          obtain ⟨c0, c1, c2, c3, c4, c5⟩ := HJ.out.box.cells
          clear hv
          go_wp2_with fail
          refine (res_Ref u v wr (HG.out.next HJ.out.below) HL.out (by omega)).mono ?_
          rintro e w3 ⟨rfl, hb3⟩
          obtain ⟨⟨x, ec⟩, hxe⟩ : ∃ p, refB u v = p := ⟨_, rfl⟩
          have HX := Lib.hid hxe
          rw [hxe]
          have HJ3 := Lib.hid (show GI w (w3.alloc (.cells #[.string ⟨x.scheme.toArray⟩, .string ⟨x.host.toArray⟩, .int .i64 x.port, .string ⟨x.path.toArray⟩, .string ⟨x.query.toArray⟩, .bool x.hq] 23)) u w.heap.size mb (mb + 1) (mb + 1 + 1) K' (inS u S ls j) from (HJ.out.next hb3).next ((Below.refl _ _).alloc (Nat.le_refl _) _))
          have HXB := Lib.hid (show UBx (w3.alloc (.cells #[.string ⟨x.scheme.toArray⟩, .string ⟨x.host.toArray⟩, .int .i64 x.port, .string ⟨x.path.toArray⟩, .string ⟨x.query.toArray⟩, .bool x.hq] 23)) w3.heap.size x from ubx_new w3 x)
          clear hxe hb3 c0 c1 c2 c3 c4 c5 hcell
          by_cases hec : ec = 0
          · subst hec
            obtain ⟨q1, q2⟩ := inS_len u HQ1.out HQ2.out HLS.out j
            have HXL := Lib.hid (show LimU x by have := refd_lim (u := u) (v := v) (by rw [HX.out]); rw [HX.out] at this; exact this)
            have HST := Lib.hid (inS_yes (u := u) (S := S) HVJ.out (by rw [HX.out]))
            obtain ⟨c0, c1, c2, c3, c4, c5⟩ := HXB.out.cells
            go_wp2_with fail
            refine (key_add w _ u x _ _ _ _ K' (inS u S ls j) HG.out HJ3.out HO4.out HL.out HXL.out (by omega) (by omega)).mono ?_
            rintro e w4 ⟨rfl, hi4⟩
            rw [HX.out] at HST
            have HJ4 := Lib.hid (show GI w w4 u w.heap.size mb (mb + 1) (mb + 1 + 1) K' (inS u S ls (j + 1)) by rw [HST.out]; exact hi4.out)
            clear hi4 c0 c1 c2 c3 c4 c5 q1 q2
            go_wp2_with fail
            go_roundw
            case rel => exact ⟨j + 1, by omega, by go_num, HJ4⟩
            case measure => (simp [intOf] <;> omega)
          · have q0 : (ec == 0) = false := beq_eq_false_iff_ne.2 hec
            have HST := Lib.hid (inS_no (u := u) (S := S) HVJ.out (by rw [HX.out]; exact hec))
            have HJ4 := Lib.hid (show GI w (w3.alloc (.cells #[.string ⟨x.scheme.toArray⟩, .string ⟨x.host.toArray⟩, .int .i64 x.port, .string ⟨x.path.toArray⟩, .string ⟨x.query.toArray⟩, .bool x.hq] 23)) u w.heap.size mb (mb + 1) (mb + 1 + 1) K' (inS u S ls (j + 1)) by rw [HST.out]; exact HJ3.out)
            clear hec
            go_wp2_with fail
            go_roundw
            case rel => exact ⟨j + 1, by omega, by go_num, HJ4⟩
            case measure => (simp [intOf] <;> omega)
        · have hjl : j = ls.length := by omega
          have j1 : (ls.length : Int) ≤ (j : Int) := by omega
          have HIN := Lib.hid (show GI w wr u w.heap.size mb (mb + 1) (mb + 1 + 1) [(b7, names2), (w.heap.size + 1, repObj st m mn a n c bd)] (outS u fs (k + 1)) by
            have h := (HK2.out _ _ HJ.out).2
            rw [inS_end (by omega), HN.out] at h; exact h)
          clear hjl
          go_wp2_with fail
          go_roundw
          case rel => exact ⟨k + 1, by omega, by go_num, HIN⟩
          case measure => (simp [intOf] <;> omega)
    · have hk2 : k = 2 := by omega
      subst hk2
      obtain ⟨v, l1, l2, -⟩ := HI.out.lst
      have HL2 := Lib.hid l2
      have l6 := l1.cell
      clear l1 l2
      go_wp2_with fail
      go_ret
      refine ⟨v, rfl, ?_, HI.out.below⟩
      rw [HEnd.out]
      exact own_base HL2.out (by have := HO4.out.a; have := HO4.out.b; omega)
theorem key_Gone (u : U) (st mn : Int) (m bd : ByteArray) (a : Option Addr) (n c : Nat) (fs : List Fld) (w : World) (hg : GX w) (hl : LimU u) (hF : FieldsAt w (.slice a n c) fs) (hlim : Lim fs) :
    Calls Tryz.prog 16 #[uV u, .agg #[.int .i64 st, .string m, .int .i64 mn, .slice a n c, .string bd]] w (RetStrs w (goneB u st fs)) := by
  cases hok : goneOk u st
  · rw [gone_no hok]; exact key_Gone_no u st mn m bd a n c w hg hl hok
  · exact key_Gone_yes u st mn m bd a n c fs w hg hl hF hlim hok
end Go.Proofs.YtmkpejioinkceaaGreatDoor
