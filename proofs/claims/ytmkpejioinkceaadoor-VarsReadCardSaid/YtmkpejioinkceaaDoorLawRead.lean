/- The law VarsRead. -/
import Derived.Test.YtmkpejioinkceaaDoorReadWay
import Derived.Deep.RegionHeld3
import Derived.Deep.DeepCutAuto
namespace Go.Proofs.YtmkpejioinkceaaDoor
open Go.RowKit
set_option linter.unusedVariables false

theorem cat3 (a b : ByteArray) : ((⟨#[120]⟩ : ByteArray) ++ a ++ ⟨#[61]⟩ ++ b).data.toList = 120 :: a.data.toList ++ 61 :: b.data.toList := by
  simp [ByteArray.data_append]
theorem vget_ck {h t : Bs} {fs : List Fld} {key : Bs} (hk : vkey key = true) : vget h t fs nCookie key true = optP (vcookie fs key) := by
  unfold vget
  show (bif vkey key then optP (vcookie fs key) else _) = _
  rw [hk]; rfl
theorem nm_cookie {name : Bs} (h : vsrc name = cookieName) : name = nCookie := by
  rcases bare_cases name with rfl | rfl | rfl | rfl | rfl | rfl | ho
  · revert h; decide
  · revert h; decide
  · revert h; decide
  · rfl
  · revert h; decide
  · revert h; decide
  · rw [vsrc_other ho] at h; exact absurd h (by decide)
theorem vsrc_len (name : Bs) : (vsrc name).length ≤ 100 := by
  rcases bare_cases name with rfl | rfl | rfl | rfl | rfl | rfl | h
  · decide
  · decide
  · decide
  · decide
  · decide
  · decide
  · rw [vsrc_other h]; exact Nat.zero_le _
theorem src3_1 {w W : World} {m1 t1 bd1 m2 t2 bd2 host name key : ByteArray} {mn1 mn2 : Int} {a2 : Option Addr} {n1 n2 c1 c2 fb fo k : Nat} {has : Bool} {fs1 fs2 : List Fld} {f : Fld} (h : VS w W m1 t1 bd1 m2 t2 bd2 host name key mn1 mn2 (some ⟨fb, fo, none⟩) a2 n1 n2 c1 c2 has fs1 fs2) (hf : fs1[k]? = some f) :
    W.cell? ⟨fb, fo + k * 2, none⟩ = some (.string ⟨f.1.toArray⟩) ∧ W.cell? ⟨fb, fo + k * 2 + 1, none⟩ = some (.string ⟨f.2.toArray⟩) ∧ W.cell? ⟨w.heap.size, 3, none⟩ = some (.slice (some ⟨fb, fo, none⟩) n1 c1) := by
  obtain ⟨b, o, e, _, _, h1, h2⟩ := field_at h.f1 hf
  cases e
  exact ⟨h1, h2, cell_of_row _ _ 3 _ _ _ h.r1⟩
theorem src3_2 {w W : World} {m1 t1 bd1 m2 t2 bd2 host name key : ByteArray} {mn1 mn2 : Int} {a1 : Option Addr} {n1 n2 c1 c2 fb fo k : Nat} {has : Bool} {fs1 fs2 : List Fld} {f : Fld} (h : VS w W m1 t1 bd1 m2 t2 bd2 host name key mn1 mn2 a1 (some ⟨fb, fo, none⟩) n1 n2 c1 c2 has fs1 fs2) (hf : fs2[k]? = some f) :
    W.cell? ⟨fb, fo + k * 2, none⟩ = some (.string ⟨f.1.toArray⟩) ∧ W.cell? ⟨fb, fo + k * 2 + 1, none⟩ = some (.string ⟨f.2.toArray⟩) ∧ W.cell? ⟨w.heap.size + 1, 3, none⟩ = some (.slice (some ⟨fb, fo, none⟩) n2 c2) := by
  obtain ⟨b, o, e, _, _, h1, h2⟩ := field_at h.f2 hf
  cases e
  exact ⟨h1, h2, cell_of_row _ _ 3 _ _ _ h.r2⟩
def mtest (want : Bool) (nm : Bs) : Option Fld → Bool
  | some f => same f.1 nm == want
  | none => false
theorem mone_test {want : Bool} {nm : Bs} {x : Option Fld} (h : mtest want nm x = false) : mone want nm x = [] := by
  cases x with
  | none => rfl
  | some f => show (bif same f.1 nm == want then [f] else []) = []; rw [show (same f.1 nm == want) = false from h]; rfl
theorem mone_hit {want : Bool} {nm : Bs} {x : Option Fld} (h : mtest want nm x = true) : ∃ f, x = some f ∧ mone want nm x = [f] := by
  cases x with
  | none => cases h
  | some f => exact ⟨f, rfl, by show (bif same f.1 nm == want then [f] else []) = [f]; rw [show (same f.1 nm == want) = true from h]; rfl⟩

set_option maxRecDepth 100000 in
set_option maxHeartbeats 4000000 in
theorem law_VarsRead_no (m1 t1 bd1 m2 t2 bd2 host name key : ByteArray) (mn1 mn2 : Int) (a1 a2 : Option Addr) (n1 n2 c1 c2 : Nat) (has : Bool) (fs1 fs2 : List Fld) (w : World) (hg : Good w) (hF1 : FieldsAt w (.slice a1 n1 c1) fs1) (hF2 : FieldsAt w (.slice a2 n2 c2) fs2) (hs1 : ∀ f ∈ fs1, f.1.length ≤ 140737488355328 ∧ f.2.length ≤ 140737488355328) (hs2 : ∀ f ∈ fs2, f.1.length ≤ 140737488355328 ∧ f.2.length ≤ 140737488355328) (hl1 : fs1.length ≤ 140737488355328) (hl2 : fs2.length ≤ 140737488355328) (hno : vfew t1.data.toList fs1 = false ∨ (vfew t1.data.toList fs1 = true ∧ vfew t2.data.toList fs2 = false) ∨ (vfew t1.data.toList fs1 = true ∧ vfew t2.data.toList fs2 = true ∧ 2000 < key.size)) :
    Calls Tryd.prog 3 #[.agg #[.string m1, .string t1, .int .i64 mn1, .slice a1 n1 c1, .string bd1], .agg #[.string m2, .string t2, .int .i64 mn2, .slice a2 n2 c2, .string bd2], .agg #[.string host, .string name, .string key, .bool has]] w (Ret w (.bool true)) := by
  have HG := Lib.hid hg
  have HT := three_new w (reqObj m1 t1 mn1 (.slice a1 n1 c1) bd1) (reqObj m2 t2 mn2 (.slice a2 n2 c2) bd2) (askObj host name key has)
  have HV := Lib.hid (show VS w _ m1 t1 bd1 m2 t2 bd2 host name key mn1 mn2 a1 a2 n1 n2 c1 c2 has fs1 fs2 from ⟨HT.below, HT.b1, HT.b2, HT.b3, hF1.below HT.below, hF2.below HT.below⟩)
  have HF1 := Lib.hid hF1
  have HF2 := Lib.hid hF2
  have HS1 := Lib.hid hs1
  have HS2 := Lib.hid hs2
  have HL1 := Lib.hid hl1
  have HL2 := Lib.hid hl2
  clear hg HT hF1 hF2 hs1 hs2 hl1 hl2
  obtain ⟨p0, p1, p2, p3, p4⟩ := req5 HV.out.r1
  go_enter Tryd.func3, Tryd.ntmps3
  go_wp2_with fail
  generalize ((w.alloc (.cells #[.string m1, .string t1, .int .i64 mn1, .slice a1 n1 c1, .string bd1] 24)).alloc (.cells #[.string m2, .string t2, .int .i64 mn2, .slice a2 n2 c2, .string bd2] 24)).alloc (.cells #[.string host, .string name, .string key, .bool has] 26) = W at *
  refine (law_few m1 t1 bd1 mn1 a1 n1 c1 fs1 W HV.out.f1 HS1.out HL1.out).mono ?_
  rintro e w1 ⟨rfl, hb1⟩
  have HV1 := Lib.hid (HV.out.next hb1)
  clear hb1 p0 p1 p2 p3 p4
  rcases hno with h | ⟨h, h2⟩ | ⟨h, h2, h3⟩
  · rw [h]
    go_wp2_with fail
    refine (law_awake w1 (HG.out.next HV1.out.below)).mono ?_
    rintro e w9 ⟨rfl, hb9⟩
    have HV9 := Lib.hid (HV1.out.next hb9)
    clear hb9
    go_wp2_with fail
    go_ret
    exact ⟨rfl, HV9.out.below⟩
  · rw [h]
    obtain ⟨p0, p1, p2, p3, p4⟩ := req5 HV1.out.r2
    go_wp2_with fail
    refine (law_few m2 t2 bd2 mn2 a2 n2 c2 fs2 w1 HV1.out.f2 HS2.out HL2.out).mono ?_
    rintro e w2 ⟨rfl, hb2⟩
    have HV2 := Lib.hid (HV1.out.next hb2)
    clear hb2 p0 p1 p2 p3 p4
    rw [h2]
    go_wp2_with fail
    refine (law_awake w2 (HG.out.next HV2.out.below)).mono ?_
    rintro e w9 ⟨rfl, hb9⟩
    have HV9 := Lib.hid (HV2.out.next hb9)
    clear hb9
    go_wp2_with fail
    go_ret
    exact ⟨rfl, HV9.out.below⟩
  · rw [h]
    obtain ⟨p0, p1, p2, p3, p4⟩ := req5 HV1.out.r2
    go_wp2_with fail
    refine (law_few m2 t2 bd2 mn2 a2 n2 c2 fs2 w1 HV1.out.f2 HS2.out HL2.out).mono ?_
    rintro e w2 ⟨rfl, hb2⟩
    have HV2 := Lib.hid (HV1.out.next hb2)
    clear hb2 p0 p1 p2 p3 p4
    rw [h2]
    have hki : (2000 : Int) < (key.size : Int) := by omega
    obtain ⟨q0, q1, q2, q3⟩ := ask4 HV2.out.q
    go_wp2_with fail
    refine (law_awake w2 (HG.out.next HV2.out.below)).mono ?_
    rintro e w9 ⟨rfl, hb9⟩
    have HV9 := Lib.hid (HV2.out.next hb9)
    clear hb9
    go_wp2_with fail
    go_ret
    exact ⟨rfl, HV9.out.below⟩

set_option maxRecDepth 100000 in
set_option maxHeartbeats 4000000 in
theorem law_VarsRead_yes (m1 t1 bd1 m2 t2 bd2 host name key : ByteArray) (mn1 mn2 : Int) (a1 a2 : Option Addr) (n1 n2 c1 c2 : Nat) (has : Bool) (fs1 fs2 : List Fld) (w : World) (hg : Good w) (hF1 : FieldsAt w (.slice a1 n1 c1) fs1) (hF2 : FieldsAt w (.slice a2 n2 c2) fs2) (hs1 : ∀ f ∈ fs1, f.1.length ≤ 140737488355328 ∧ f.2.length ≤ 140737488355328) (hs2 : ∀ f ∈ fs2, f.1.length ≤ 140737488355328 ∧ f.2.length ≤ 140737488355328) (hl1 : fs1.length ≤ 140737488355328) (hl2 : fs2.length ≤ 140737488355328) (h1 : vfew t1.data.toList fs1 = true) (h2 : vfew t2.data.toList fs2 = true) (h3 : key.size ≤ 2000) :
    Calls Tryd.prog 3 #[.agg #[.string m1, .string t1, .int .i64 mn1, .slice a1 n1 c1, .string bd1], .agg #[.string m2, .string t2, .int .i64 mn2, .slice a2 n2 c2, .string bd2], .agg #[.string host, .string name, .string key, .bool has]] w (Ret w (.bool true)) := by
  have HG := Lib.hid hg
  have HT := three_new w (reqObj m1 t1 mn1 (.slice a1 n1 c1) bd1) (reqObj m2 t2 mn2 (.slice a2 n2 c2) bd2) (askObj host name key has)
  have HV := Lib.hid (show VS w _ m1 t1 bd1 m2 t2 bd2 host name key mn1 mn2 a1 a2 n1 n2 c1 c2 has fs1 fs2 from ⟨HT.below, HT.b1, HT.b2, HT.b3, hF1.below HT.below, hF2.below HT.below⟩)
  have HF1 := Lib.hid hF1
  have HF2 := Lib.hid hF2
  have HS1 := Lib.hid hs1
  have HS2 := Lib.hid hs2
  have HL1 := Lib.hid hl1
  have HL2 := Lib.hid hl2
  clear hg HT hF1 hF2 hs1 hs2 hl1 hl2
  obtain ⟨p0, p1, p2, p3, p4⟩ := req5 HV.out.r1
  go_enter Tryd.func3, Tryd.ntmps3
  go_wp2_with fail
  generalize ((w.alloc (.cells #[.string m1, .string t1, .int .i64 mn1, .slice a1 n1 c1, .string bd1] 24)).alloc (.cells #[.string m2, .string t2, .int .i64 mn2, .slice a2 n2 c2, .string bd2] 24)).alloc (.cells #[.string host, .string name, .string key, .bool has] 26) = W at *
  refine (law_few m1 t1 bd1 mn1 a1 n1 c1 fs1 W HV.out.f1 HS1.out HL1.out).mono ?_
  rintro e w1 ⟨rfl, hb1⟩
  have HV1 := Lib.hid (HV.out.next hb1)
  clear hb1 p0 p1 p2 p3 p4
  rw [h1]
  have HW1 := Lib.hid h1
  have HW2 := Lib.hid h2
  obtain ⟨p0, p1, p2, p3, p4⟩ := req5 HV1.out.r2
  clear h1
  go_wp2_with fail
  refine (law_few m2 t2 bd2 mn2 a2 n2 c2 fs2 w1 HV1.out.f2 HS2.out HL2.out).mono ?_
  rintro e w2 ⟨rfl, hb2⟩
  have HV2 := Lib.hid (HV1.out.next hb2)
  clear hb2 p0 p1 p2 p3 p4
  rw [h2]
  clear h2
  have hki : (key.size : Int) ≤ 2000 := by omega
  obtain ⟨q0, q1, q2, q3⟩ := ask4 HV2.out.q
  go_wp2_with fail
  refine (law_field host name key has w2 (by omega)).mono ?_
  rintro e w3 ⟨rfl, hb3⟩
  have HV3 := Lib.hid (HV2.out.next hb3)
  clear hb3 q0 q1 q2 q3
  obtain ⟨nm, hnm⟩ : ∃ nm, vsrc name.data.toList = nm := ⟨_, rfl⟩
  rw [hnm]
  have HNM := Lib.hid hnm
  have hnl := vsrc_len name.data.toList
  rw [hnm] at hnl
  clear hnm
  obtain ⟨p0, p1, p2, p3, p4⟩ := req5 HV3.out.r1
  obtain ⟨u0, u1, u2, u3, u4⟩ := req5 HV3.out.r2
  have HR5 := Lib.hid (show VR w (w3.alloc (.cells #[.string m2, .string t1, .int .i64 mn2, .slice none 0 0, .string bd2] 24)) m1 t1 bd1 m2 t2 bd2 host name key mn1 mn2 a1 a2 n1 n2 c1 c2 has fs1 fs2 w3.heap.size [] (.slice none 0 0) from ⟨HV3.out.next ((Below.refl _ _).alloc (Nat.le_refl _) _), heap_alloc_new w3 _, fown_nil _ _, (Array.getElem?_eq_some_iff.1 HV3.out.q).1, HF1.out, HF2.out⟩)
  go_wp2_with fail
  generalize w3.alloc (.cells #[.string m2, .string t1, .int .i64 mn2, .slice none 0 0, .string bd2] 24) = W5 at *
  generalize w3.heap.size = bb at *
  clear p0 p1 p2 p3 p4 u0 u1 u2 u3 u4
  have hn1 := fields_n HF1.out
  have hn2 := fields_n HF2.out
  subst hn1
  subst hn2
  obtain ⟨f1, f2, f3⟩ := few_lim HW1.out
  obtain ⟨g1, g2, g3⟩ := few_lim HW2.out
  have HF3 := Lib.hid f3
  have HG3 := Lib.hid g3
  clear f3 g3
  go_loopw [9] (fun i wr => ∃ (k : Nat) (bv : Value), k ≤ fs1.length + fs2.length ∧ i = .int .i64 k ∧ Hid (VR w wr m1 t1 bd1 m2 t2 bd2 host name key mn1 mn2 a1 a2 fs1.length fs2.length c1 c2 has fs1 fs2 bb (merge fs1 fs2 nm k) bv)) (fun i _ => fs1.length + fs2.length - (intOf i).toNat)
  case atStart => exact ⟨0, _, Nat.zero_le _, rfl, HR5⟩
  case round =>
    obtain ⟨k, bv, hk, rfl, HR⟩ := hrel
    clear HR5
    obtain ⟨-, -, -, p3, -⟩ := req5 HR.out.vs.r1
    obtain ⟨-, -, -, u3, -⟩ := req5 HR.out.vs.r2
    by_cases hc : k < fs1.length ∨ k < fs2.length
    · go_upto_region 6 with fail
      go_cut [49] (fun t wx => t = .bool true ∧ wx = wr)
      case first =>
        by_cases hc1 : k < fs1.length
        · have i1 : (k : Int) < (fs1.length : Int) := by omega
          go_wp2_with fail
          go_meet
          exact ⟨rfl, rfl⟩
        · have i1 : (fs1.length : Int) ≤ (k : Int) := by omega
          have i2 : (k : Int) < (fs2.length : Int) := by omega
          go_wp2_with fail
          go_meet
          exact ⟨rfl, rfl⟩
      case rest =>
        obtain ⟨rfl, rfl⟩ := hcut
        have hgl := merge_len fs1 fs2 nm k
        obtain ⟨gs, hgs⟩ : ∃ gs, merge fs1 fs2 nm k = gs := ⟨_, rfl⟩
        rw [hgs] at HR hgl
        have HGS := Lib.hid (show merge fs1 fs2 nm (k + 1) = gs ++ mone false nm fs2[k]? ++ mone true nm fs1[k]? by rw [← hgs]; rfl)
        clear hgs
        have hgl1 : gs.length ≤ 200 := by omega
        go_upto_region 8 with fail
        go_cut [67] (fun t wx => t = .bool (mtest false nm fs2[k]?) ∧ Hid (VR w wx m1 t1 bd1 m2 t2 bd2 host name key mn1 mn2 a1 a2 fs1.length fs2.length c1 c2 has fs1 fs2 bb gs bv))
        case first =>
          obtain ⟨-, -, -, p3, -⟩ := req5 HR.out.vs.r2
          by_cases hc1 : k < fs2.length
          · obtain ⟨f, hf⟩ : ∃ f, fs2[k]? = some f := ⟨fs2[k], List.getElem?_eq_getElem hc1⟩
            obtain ⟨fb, fo, rfl, hfb, hfc, e0, e1⟩ := field_at HR.out.vs.f2 hf
            have HFf := Lib.hid hf
            have hfl := HG3.out f (List.mem_of_getElem? hf)
            have i0 : (0 : Int) ≤ (k : Int) := by omega
            have i1 : (k : Int) < (fs2.length : Int) := by omega
            clear hf
            go_wp2_with fail
            refine (text_Same ⟨f.1.toArray⟩ ⟨nm.toArray⟩ _ (by show f.1.length ≤ _; omega) (by show nm.length ≤ _; omega)).mono ?_
            rintro e w6 ⟨rfl, hb6⟩
            have HX6 := Lib.hid (HR.out.next hb6)
            rw [show same (⟨f.1.toArray⟩ : ByteArray).data.toList (⟨nm.toArray⟩ : ByteArray).data.toList = same f.1 nm from rfl]
            clear hb6 p3 e0 e1
            obtain ⟨sb, hsb⟩ : ∃ sb, same f.1 nm = sb := ⟨_, rfl⟩
            have HSB := Lib.hid (show mtest false nm fs2[k]? = (sb == false) by rw [HFf.out]; show (same f.1 nm == false) = _; rw [hsb])
            rw [hsb]
            clear hsb
            cases sb
            · go_wp2_with fail
              go_meet
              exact ⟨by rw [HSB.out]; rfl, HX6⟩
            · go_wp2_with fail
              go_meet
              exact ⟨by rw [HSB.out]; rfl, HX6⟩
          · have HFf := Lib.hid (show fs2[k]? = none from List.getElem?_eq_none (by omega))
            have i1 : (fs2.length : Int) ≤ (k : Int) := by omega
            go_wp2_with fail
            go_meet
            exact ⟨by rw [HFf.out]; rfl, HR⟩
        case rest =>
        obtain ⟨rfl, HY2⟩ := hcut
        go_upto_if 67 with fail
        go_cut [68] (fun _ wx => ∃ bv', Hid (VR w wx m1 t1 bd1 m2 t2 bd2 host name key mn1 mn2 a1 a2 fs1.length fs2.length c1 c2 has fs1 fs2 bb (gs ++ mone false nm fs2[k]?) bv'))
        case first =>
          cases hm : mtest false nm fs2[k]?
          · have HM0 := Lib.hid (mone_test hm)
            clear hm
            go_wp2_with fail
            go_meet
            exact ⟨bv, by rw [HM0.out, List.append_nil]; exact HY2⟩
          · obtain ⟨f, hf, hmo⟩ := mone_hit hm
            obtain ⟨fb, fo, rfl, hfb, hfc, -, -⟩ := field_at HY2.out.vs.f2 hf
            have hc1 : k < fs2.length := (List.getElem?_eq_some_iff.1 hf).1
            have HFf := Lib.hid hf
            have HMO := Lib.hid hmo
            have i0 : (0 : Int) ≤ (k : Int) := by omega
            have i1 : (k : Int) < (fs2.length : Int) := by omega
            obtain ⟨ba, bc, hbv⟩ := own_shape HY2.out.own
            subst hbv
            clear hm hf hmo
            have HSd := Lib.hid (show (fun w' => w'.cell? ⟨fb, fo + k * 2, none⟩ = some (.string ⟨f.1.toArray⟩) ∧ w'.cell? ⟨fb, fo + k * 2 + 1, none⟩ = some (.string ⟨f.2.toArray⟩) ∧ w'.cell? ⟨w.heap.size + 1, 3, none⟩ = some (.slice (some ⟨fb, fo, none⟩) fs2.length c2)) wc.drew from src3_2 (k := k) (HY2.out.vs.next ((Below.refl _ _).drew)) HFf.out)
            have HGd := Lib.hid (show VR w (wc.alloc (.cells #[.string ⟨f.1.toArray⟩, .string ⟨f.2.toArray⟩] 32)).drew m1 t1 bd1 m2 t2 bd2 host name key mn1 mn2 a1 (some ⟨fb, fo, none⟩) fs1.length fs2.length c1 c2 has fs1 fs2 bb gs (.slice ba (gs).length bc) from HY2.out.next (((Below.refl _ _).alloc (Nat.le_refl _) _).drew))
            have HSa := Lib.hid (show (fun w' => w'.cell? ⟨fb, fo + k * 2, none⟩ = some (.string ⟨f.1.toArray⟩) ∧ w'.cell? ⟨fb, fo + k * 2 + 1, none⟩ = some (.string ⟨f.2.toArray⟩) ∧ w'.cell? ⟨w.heap.size + 1, 3, none⟩ = some (.slice (some ⟨fb, fo, none⟩) fs2.length c2)) (wc.alloc (.cells #[.string ⟨f.1.toArray⟩, .string ⟨f.2.toArray⟩] 32)).drew from src3_2 (k := k) HGd.out.vs HFf.out)
            have HBd := Lib.hid (show (wc.alloc (.cells #[.string ⟨f.1.toArray⟩, .string ⟨f.2.toArray⟩] 32)).drew.heap[wc.heap.size]? = some (.cells #[.string ⟨f.1.toArray⟩, .string ⟨f.2.toArray⟩] 32) from heap_alloc_new wc _)
            have HBS := Lib.hid (show bb + 1 ≤ (wc.alloc (.cells #[.string ⟨f.1.toArray⟩, .string ⟨f.2.toArray⟩] 32)).drew.heap.size from Nat.le_trans (Array.getElem?_eq_some_iff.1 HY2.out.b).1 (by show _ ≤ (wc.alloc _).heap.size; rw [World.size_alloc]; omega))
            have e1 : wc.drew.cell? ⟨bb, 3, none⟩ = some (.slice ba (gs).length bc) := cell_of_row wc _ 3 _ _ _ HY2.out.b
            have e2 : (wc.alloc (.cells #[.string ⟨f.1.toArray⟩, .string ⟨f.2.toArray⟩] 32)).drew.cell? ⟨bb, 3, none⟩ = some (.slice ba (gs).length bc) := cell_of_row _ _ 3 _ _ _ HGd.out.b
            go_wp2_with fail
            obtain ⟨z1, z2, z3⟩ := HSd.out
            obtain ⟨z4, z5, z6⟩ := HSa.out
            go_region_law
              ((refine step_fapp (by rfl) _ _ (by rfl) _ (gs) (f.1, f.2) _ wc.heap.size (by rfl) (by rfl) HBd.out HGd.out.own (by omega) HBS.out ?_; intro g cap w7 hown7 hg7; obtain ⟨d3, f3, hvs7, hZ⟩ := VR.app HGd.out hg7 hown7; have HZ := Lib.hid hZ; clear hZ hown7 hg7 hvs7))
            all_goals
              go_wp2_with fail
              go_meet
              exact ⟨_, by rw [HMO.out]; exact HZ⟩
        case rest =>
        obtain ⟨bv2, HR2⟩ := hcut
        have hgl2 : (gs ++ mone false nm fs2[k]?).length ≤ 300 := by
          have : (mone false nm fs2[k]?).length ≤ 1 := by
            cases h9 : mtest false nm fs2[k]?
            · rw [mone_test h9]; exact Nat.zero_le _
            · obtain ⟨f, _, h8⟩ := mone_hit h9; rw [h8]; exact Nat.le_refl _
          rw [List.length_append]; omega
        obtain ⟨gs2, hgs2⟩ : ∃ gs2, gs ++ mone false nm fs2[k]? = gs2 := ⟨_, rfl⟩
        rw [hgs2] at HR2 hgl2 HGS
        clear hgs2
        go_upto_region 10 with fail
        go_cut [92] (fun t wx => t = .bool (mtest true nm fs1[k]?) ∧ Hid (VR w wx m1 t1 bd1 m2 t2 bd2 host name key mn1 mn2 a1 a2 fs1.length fs2.length c1 c2 has fs1 fs2 bb gs2 bv2))
        case first =>
          obtain ⟨-, -, -, p3, -⟩ := req5 HR2.out.vs.r1
          by_cases hc1 : k < fs1.length
          · obtain ⟨f, hf⟩ : ∃ f, fs1[k]? = some f := ⟨fs1[k], List.getElem?_eq_getElem hc1⟩
            obtain ⟨fb, fo, rfl, hfb, hfc, e0, e1⟩ := field_at HR2.out.vs.f1 hf
            have HFf := Lib.hid hf
            have hfl := HF3.out f (List.mem_of_getElem? hf)
            have i0 : (0 : Int) ≤ (k : Int) := by omega
            have i1 : (k : Int) < (fs1.length : Int) := by omega
            clear hf
            go_wp2_with fail
            refine (text_Same ⟨f.1.toArray⟩ ⟨nm.toArray⟩ _ (by show f.1.length ≤ _; omega) (by show nm.length ≤ _; omega)).mono ?_
            rintro e w6 ⟨rfl, hb6⟩
            have HX6 := Lib.hid (HR2.out.next hb6)
            rw [show same (⟨f.1.toArray⟩ : ByteArray).data.toList (⟨nm.toArray⟩ : ByteArray).data.toList = same f.1 nm from rfl]
            clear hb6 p3 e0 e1
            obtain ⟨sb, hsb⟩ : ∃ sb, same f.1 nm = sb := ⟨_, rfl⟩
            have HSB := Lib.hid (show mtest true nm fs1[k]? = (sb == true) by rw [HFf.out]; show (same f.1 nm == true) = _; rw [hsb])
            rw [hsb]
            clear hsb
            cases sb
            · go_wp2_with fail
              go_meet
              exact ⟨by rw [HSB.out]; rfl, HX6⟩
            · go_wp2_with fail
              go_meet
              exact ⟨by rw [HSB.out]; rfl, HX6⟩
          · have HFf := Lib.hid (show fs1[k]? = none from List.getElem?_eq_none (by omega))
            have i1 : (fs1.length : Int) ≤ (k : Int) := by omega
            go_wp2_with fail
            go_meet
            exact ⟨by rw [HFf.out]; rfl, HR2⟩
        case rest =>
        obtain ⟨rfl, HY1⟩ := hcut
        cases hm : mtest true nm fs1[k]?
        · have HM0 := Lib.hid (mone_test hm)
          clear hm
          go_wp2_with fail
          have HE := Lib.hid (show VR w wc m1 t1 bd1 m2 t2 bd2 host name key mn1 mn2 a1 a2 fs1.length fs2.length c1 c2 has fs1 fs2 bb (merge fs1 fs2 nm (k + 1)) bv2 by rw [HGS.out, HM0.out, List.append_nil]; exact HY1.out)
          go_roundw
          case rel => exact ⟨k + 1, _, by omega, by go_num, HE⟩
          case measure => (simp [intOf] <;> omega)
        · obtain ⟨f, hf, hmo⟩ := mone_hit hm
          obtain ⟨fb, fo, rfl, hfb, hfc, -, -⟩ := field_at HY1.out.vs.f1 hf
          have hc1 : k < fs1.length := (List.getElem?_eq_some_iff.1 hf).1
          have HFf := Lib.hid hf
          have HMO := Lib.hid hmo
          have i0 : (0 : Int) ≤ (k : Int) := by omega
          have i1 : (k : Int) < (fs1.length : Int) := by omega
          obtain ⟨ba, bc, hbv⟩ := own_shape HY1.out.own
          subst hbv
          clear hm hf hmo
          have HSd := Lib.hid (show (fun w' => w'.cell? ⟨fb, fo + k * 2, none⟩ = some (.string ⟨f.1.toArray⟩) ∧ w'.cell? ⟨fb, fo + k * 2 + 1, none⟩ = some (.string ⟨f.2.toArray⟩) ∧ w'.cell? ⟨w.heap.size, 3, none⟩ = some (.slice (some ⟨fb, fo, none⟩) fs1.length c1)) wc.drew from src3_1 (k := k) (HY1.out.vs.next ((Below.refl _ _).drew)) HFf.out)
          have HGd := Lib.hid (show VR w (wc.alloc (.cells #[.string ⟨f.1.toArray⟩, .string ⟨f.2.toArray⟩] 32)).drew m1 t1 bd1 m2 t2 bd2 host name key mn1 mn2 (some ⟨fb, fo, none⟩) a2 fs1.length fs2.length c1 c2 has fs1 fs2 bb gs2 (.slice ba (gs2).length bc) from HY1.out.next (((Below.refl _ _).alloc (Nat.le_refl _) _).drew))
          have HSa := Lib.hid (show (fun w' => w'.cell? ⟨fb, fo + k * 2, none⟩ = some (.string ⟨f.1.toArray⟩) ∧ w'.cell? ⟨fb, fo + k * 2 + 1, none⟩ = some (.string ⟨f.2.toArray⟩) ∧ w'.cell? ⟨w.heap.size, 3, none⟩ = some (.slice (some ⟨fb, fo, none⟩) fs1.length c1)) (wc.alloc (.cells #[.string ⟨f.1.toArray⟩, .string ⟨f.2.toArray⟩] 32)).drew from src3_1 (k := k) HGd.out.vs HFf.out)
          have HBd := Lib.hid (show (wc.alloc (.cells #[.string ⟨f.1.toArray⟩, .string ⟨f.2.toArray⟩] 32)).drew.heap[wc.heap.size]? = some (.cells #[.string ⟨f.1.toArray⟩, .string ⟨f.2.toArray⟩] 32) from heap_alloc_new wc _)
          have HBS := Lib.hid (show bb + 1 ≤ (wc.alloc (.cells #[.string ⟨f.1.toArray⟩, .string ⟨f.2.toArray⟩] 32)).drew.heap.size from Nat.le_trans (Array.getElem?_eq_some_iff.1 HY1.out.b).1 (by show _ ≤ (wc.alloc _).heap.size; rw [World.size_alloc]; omega))
          have e1 : wc.drew.cell? ⟨bb, 3, none⟩ = some (.slice ba (gs2).length bc) := cell_of_row wc _ 3 _ _ _ HY1.out.b
          have e2 : (wc.alloc (.cells #[.string ⟨f.1.toArray⟩, .string ⟨f.2.toArray⟩] 32)).drew.cell? ⟨bb, 3, none⟩ = some (.slice ba (gs2).length bc) := cell_of_row _ _ 3 _ _ _ HGd.out.b
          go_wp2_with fail
          obtain ⟨z1, z2, z3⟩ := HSd.out
          obtain ⟨z4, z5, z6⟩ := HSa.out
          go_region_law
            ((refine step_fapp (by rfl) _ _ (by rfl) _ (gs2) (f.1, f.2) _ wc.heap.size (by rfl) (by rfl) HBd.out HGd.out.own (by omega) HBS.out ?_; intro g cap w7 hown7 hg7; obtain ⟨d3, f3, hvs7, hZ⟩ := VR.app HGd.out hg7 hown7; have HZ := Lib.hid hZ; clear hZ hown7 hg7 hvs7))
          all_goals
            go_wp2_with fail
            rw [HMO.out] at HGS
            go_roundw
            case rel => exact ⟨k + 1, _, by omega, by go_num, by rw [HGS.out]; exact HZ⟩
            case measure => (simp [intOf] <;> omega)
    · have hc1 : fs1.length ≤ k := by omega
      have i1 : (fs1.length : Int) ≤ (k : Int) := by omega
      have i2 : (fs2.length : Int) ≤ (k : Int) := by omega
      rw [bs_size] at f2 g2
      have hml := merge_len fs1 fs2 nm k
      have HLim1 := Lib.hid (show Lim fs1 from ⟨by omega, fun f hf => by have := HF3.out f hf; omega⟩)
      have HLimB := Lib.hid (show Lim (merge fs1 fs2 nm k) from ⟨by omega, merge_each (P := fun f => f.1.length + f.2.length ≤ 100000) (fun f hf => by have := HF3.out f hf; omega) (fun f hf => by have := HG3.out f hf; omega) nm k⟩)
      have HVal := Lib.hid (show values fs1 nm = values (merge fs1 fs2 nm k) nm from (values_merge_end fs1 fs2 nm k hc1).symm)
      have HEq := Lib.hid (show ∀ hs, vget host.data.toList t1.data.toList fs1 name.data.toList key.data.toList hs = vget host.data.toList t1.data.toList (merge fs1 fs2 nm k) name.data.toList key.data.toList hs from fun hs => vget_congr _ _ _ _ _ _ _ (by rw [HNM.out]; exact HVal.out))
      generalize merge fs1 fs2 nm k = gs at *
      obtain ⟨ba, bc, hbv⟩ := own_shape HR.out.own
      subst hbv
      obtain ⟨p0, p1, p2, -, p4⟩ := req5 HR.out.vs.r1
      obtain ⟨x0, x1, x2, x3, x4⟩ := req5 HR.out.b
      obtain ⟨q0, q1, q2, q3⟩ := ask4 HR.out.vs.q
      go_wp2_with fail
      refine (law_same_eq m1 t1 bd1 m2 t1 bd2 host name key mn1 mn2 a1 ba fs1.length _ c1 _ has fs1 gs wr (HG.out.next HR.out.vs.below) HR.out.vs.f1 HR.out.own.at HLim1.out HLimB.out (by omega) (by omega) (by omega) (HEq.out has)).mono ?_
      rintro e w6 ⟨rfl, hb6⟩
      have HR6 := Lib.hid (HR.out.next hb6)
      clear hb6 p0 p1 p2 p3 p4 u3 x0 x1 x2 x3 x4 q0 q1 q2 q3
      obtain ⟨q0, q1, q2, q3⟩ := ask4 HR6.out.vs.q
      rcases Decidable.em (nm = cookieName) with hck | hck
      rotate_left
      · have z1 : (nm == [99, 111, 111, 107, 105, 101]) = false := beq_eq_false_iff_ne.2 hck
        have z2 : (nm != [99, 111, 111, 107, 105, 101]) = true := by rw [bne, z1]; rfl
        clear hck
        go_wp2_with fail
        refine (law_awake w6 (HG.out.next HR6.out.vs.below)).mono ?_
        rintro e w7 ⟨rfl, hb7⟩
        have HR7 := Lib.hid (HR6.out.next hb7)
        clear hb7
        go_wp2_with fail
        go_ret
        exact ⟨rfl, HR7.out.vs.below⟩
      have HNC := Lib.hid (show name.data.toList = nCookie from nm_cookie (HNM.out.trans hck))
      have hlit : nm = [99, 111, 111, 107, 105, 101] := hck
      clear hck
      subst hlit
      cases has
      · go_wp2_with fail
        refine (law_awake w6 (HG.out.next HR6.out.vs.below)).mono ?_
        rintro e w7 ⟨rfl, hb7⟩
        have HR7 := Lib.hid (HR6.out.next hb7)
        clear hb7
        go_wp2_with fail
        go_ret
        exact ⟨rfl, HR7.out.vs.below⟩
      go_wp2_with fail
      refine (vars_Key key w6 (by omega)).mono ?_
      rintro e w7 ⟨rfl, hb7⟩
      have HR7 := Lib.hid (HR6.out.next hb7)
      clear hb7 q0 q1 q2 q3
      cases hvk : vkey key.data.toList
      · clear hvk
        go_wp2_with fail
        refine (law_awake w7 (HG.out.next HR7.out.vs.below)).mono ?_
        rintro e w8 ⟨rfl, hb8⟩
        have HR8 := Lib.hid (HR7.out.next hb8)
        clear hb8
        go_wp2_with fail
        go_ret
        exact ⟨rfl, HR8.out.vs.below⟩
      have HVK := Lib.hid hvk
      clear hvk
      obtain ⟨-, x1, -, -, -⟩ := req5 HR7.out.vs.r2
      obtain ⟨-, -, -, y3, -⟩ := req5 HR7.out.b
      obtain ⟨-, -, q2, -⟩ := ask4 HR7.out.vs.q
      have HRa := Lib.hid (show VR w (w7.alloc (.cells #[.string ⟨#[67, 111, 111, 107, 105, 101]⟩, .string (⟨#[120]⟩ ++ key ++ ⟨#[61]⟩ ++ t2), .string ⟨#[67, 111, 111, 107, 105, 101]⟩, .string key] 32)) m1 t1 bd1 m2 t2 bd2 host name key mn1 mn2 a1 a2 fs1.length fs2.length c1 c2 true fs1 fs2 bb gs (.slice ba gs.length bc) from HR7.out.next ((Below.refl _ _).alloc (Nat.le_refl _) _))
      have HBS := Lib.hid (show bb + 1 ≤ (w7.alloc (.cells #[.string ⟨#[67, 111, 111, 107, 105, 101]⟩, .string (⟨#[120]⟩ ++ key ++ ⟨#[61]⟩ ++ t2), .string ⟨#[67, 111, 111, 107, 105, 101]⟩, .string key] 32)).heap.size from Nat.le_trans (Array.getElem?_eq_some_iff.1 HR7.out.b).1 (by rw [World.size_alloc]; omega))
      have hgl7 : gs.length ≤ 1000 := HLimB.out.many
      have hks : (key.size : Int) ≤ 2000 := by omega
      go_wp2_with (at_builtin; refine wpList_fapp2 rfl _ _ rfl _ gs ([67, 111, 111, 107, 105, 101], ((⟨#[120]⟩ : ByteArray) ++ key ++ ⟨#[61]⟩ ++ t2).data.toList) ([67, 111, 111, 107, 105, 101], key.data.toList) (bb + 1) w7.heap.size rfl rfl (heap_alloc_new w7 _) HRa.out.own (by omega) HBS.out ?_; intro g cap w8 hown8 hg8; obtain ⟨d3, f3, hvs8, hZ⟩ := VR.app HRa.out hg8 hown8; have HZ := Lib.hid hZ; clear hZ hown8 hg8 hvs8)
      obtain ⟨gs2, hgs2⟩ : ∃ gs2, gs ++ [(([67, 111, 111, 107, 105, 101], ((⟨#[120]⟩ : ByteArray) ++ key ++ ⟨#[61]⟩ ++ t2).data.toList) : Fld), ([67, 111, 111, 107, 105, 101], key.data.toList)] = gs2 := ⟨_, rfl⟩
      rw [hgs2] at HZ
      have HCK := Lib.hid (show ((vcookie fs1 key.data.toList).isSome = true ∨ t2.data.toList.contains 59 = false) → vcookie gs2 key.data.toList = vcookie fs1 key.data.toList from fun ho => by
        rw [← hgs2, cat3]; exact vcookie_more HVal.out.symm (by decide) HVK.out ho)
      have HLimC := Lib.hid (show Lim gs2 from ⟨by rw [← hgs2, List.length_append]; show gs.length + 2 ≤ _; omega, fun f hf => by
        rw [← hgs2, List.mem_append] at hf
        rcases hf with hf | hf
        · exact HLimB.out.each f hf
        · rw [cat3] at hf
          simp only [List.mem_cons, List.not_mem_nil, or_false] at hf
          have e1 : key.data.toList.length ≤ 2000 := by rw [bs_size]; exact h3
          have e2 : t2.data.toList.length ≤ 2000 := by rw [bs_size]; exact g2
          rcases hf with rfl | rfl
          · simp only [List.length_cons, List.length_append, List.length_nil]; omega
          · simp only [List.length_cons, List.length_nil]; omega⟩)
      have HG1 := Lib.hid (show vget host.data.toList t1.data.toList fs1 name.data.toList key.data.toList true = optP (vcookie fs1 key.data.toList) by rw [HNC.out]; exact vget_ck HVK.out)
      have HG2 := Lib.hid (show vget host.data.toList t1.data.toList gs2 name.data.toList key.data.toList true = optP (vcookie gs2 key.data.toList) by rw [HNC.out]; exact vget_ck HVK.out)
      clear hgs2
      generalize w8.setCell ⟨bb, 3, none⟩ (.slice (some ⟨g, 0, none⟩) (gs.length + 2) cap) = W8 at *
      obtain ⟨oc, hoc⟩ : ∃ oc, vcookie fs1 key.data.toList = oc := ⟨_, rfl⟩
      rw [hoc] at HCK HG1
      have HOC := Lib.hid hoc
      clear hoc d3 f3 x1 y3 q2 HV HV1 HV2 HV3 HR HR6 HR7 HRa HEq HVal
      have HSd := Lib.hid (show VR w W8.drew m1 t1 bd1 m2 t2 bd2 host name key mn1 mn2 a1 a2 fs1.length fs2.length c1 c2 true fs1 fs2 bb gs2 _ from HZ.out.next ((Below.refl _ _).drew))
      have HN := Lib.hid (nine9 HSd.out.vs.r1 HSd.out.vs.q)
      go_wp2_with fail
      go_region_held3 (Nine9 w.heap.size m1 t1 bd1 mn1 (.slice a1 fs1.length c1) (w.heap.size + 1 + 1) host name key true) (first | with_reducible exact HN.out)
        (first
          | (go_at_call 10; (with_reducible refine (vars_Of m1 t1 bd1 host mn1 a1 fs1.length c1 fs1 _ HSd.out.vs.f1 HLim1.out.many).mono ?_); rintro e w10 ⟨a5, c5, rfl, hown5, hb5⟩; have HSd := Lib.hid (HSd.out.next hb5); have HN := Lib.hid (nine9 HSd.out.vs.r1 HSd.out.vs.q); have HO5 := Lib.hid hown5.at; clear hown5 hb5)
          | (go_at_call 11; (with_reducible refine (vars_Get host t1 name key a5 fs1.length c5 fs1 true w10 (HG.out.next HSd.out.vs.below) HO5.out HLim1.out (by omega) (by omega)).mono ?_); rintro e w11 ⟨rfl, hb6⟩; rw [HG1.out]; have HSd := Lib.hid (HSd.out.next hb6); have HN := Lib.hid (nine9 HSd.out.vs.r1 HSd.out.vs.q); clear hb6))
      clear HO5
      have HSame := Lib.hid (show optP oc = optP (vcookie gs2 key.data.toList) → vget host.data.toList t1.data.toList fs1 name.data.toList key.data.toList true = vget host.data.toList t1.data.toList gs2 name.data.toList key.data.toList true from fun h9 => by rw [HG1.out, HG2.out]; exact h9)
      obtain ⟨p0, p1, p2, p3, p4⟩ := req5 HSd.out.vs.r1
      obtain ⟨x0, x1, x2, x3, x4⟩ := req5 HSd.out.b
      obtain ⟨-, u1, -, -, -⟩ := req5 HSd.out.vs.r2
      obtain ⟨q0, q1, q2, q3⟩ := ask4 HSd.out.vs.q
      cases oc with
      | some v9 =>
        rw [show optP (some v9) = (v9, true) from rfl]
        go_wp2_with fail
        refine (law_same_eq m1 t1 bd1 m2 t1 bd2 host name key mn1 mn2 a1 _ fs1.length _ c1 _ true fs1 gs2 w11 (HG.out.next HSd.out.vs.below) HSd.out.vs.f1 HSd.out.own.at HLim1.out HLimC.out (by omega) (by omega) (by omega) (HSame.out (by rw [HCK.out (.inl rfl)]))).mono ?_
        rintro e w12 ⟨rfl, hb12⟩
        have HSe := Lib.hid (HSd.out.next hb12)
        clear hb12 p0 p1 p2 p3 p4 x0 x1 x2 x3 x4 u1 q0 q1 q2 q3
        go_wp2_with fail
        refine (law_awake w12 (HG.out.next HSe.out.vs.below)).mono ?_
        rintro e w13 ⟨rfl, hb13⟩
        have HSf := Lib.hid (HSe.out.next hb13)
        clear hb13
        go_wp2_with fail
        go_ret
        exact ⟨rfl, HSf.out.vs.below⟩
      | none =>
        rw [show optP (none : Option Bs) = ([], false) from rfl]
        go_wp2_with fail
        refine (lib_Contains t2 ⟨#[59]⟩ w11 (HG.out.next HSd.out.vs.below) (by omega)).mono ?_
        rintro e w12 ⟨rfl, rfl⟩
        rw [show Lib.contains t2.data.toList (⟨#[59]⟩ : ByteArray).data.toList = t2.data.toList.contains 59 from has_byte _ _]
        cases hct : t2.data.toList.contains 59
        · have HCT := Lib.hid hct
          clear hct
          go_wp2_with fail
          refine (law_same_eq m1 t1 bd1 m2 t1 bd2 host name key mn1 mn2 a1 _ fs1.length _ c1 _ true fs1 gs2 w11 (HG.out.next HSd.out.vs.below) HSd.out.vs.f1 HSd.out.own.at HLim1.out HLimC.out (by omega) (by omega) (by omega) (HSame.out (by rw [HCK.out (.inr HCT.out)]))).mono ?_
          rintro e w12 ⟨rfl, hb12⟩
          have HSe := Lib.hid (HSd.out.next hb12)
          clear hb12 p0 p1 p2 p3 p4 x0 x1 x2 x3 x4 u1 q0 q1 q2 q3
          go_wp2_with fail
          refine (law_awake w12 (HG.out.next HSe.out.vs.below)).mono ?_
          rintro e w13 ⟨rfl, hb13⟩
          have HSf := Lib.hid (HSe.out.next hb13)
          clear hb13
          go_wp2_with fail
          go_ret
          exact ⟨rfl, HSf.out.vs.below⟩
        · clear hct
          go_wp2_with fail
          refine (law_awake w11 (HG.out.next HSd.out.vs.below)).mono ?_
          rintro e w13 ⟨rfl, hb13⟩
          have HSf := Lib.hid (HSd.out.next hb13)
          clear hb13
          go_wp2_with fail
          go_ret
          exact ⟨rfl, HSf.out.vs.below⟩
theorem law_VarsRead (m1 t1 bd1 m2 t2 bd2 host name key : ByteArray) (mn1 mn2 : Int) (a1 a2 : Option Addr) (n1 n2 c1 c2 : Nat) (has : Bool) (fs1 fs2 : List Fld) (w : World) (hg : Good w) (hF1 : FieldsAt w (.slice a1 n1 c1) fs1) (hF2 : FieldsAt w (.slice a2 n2 c2) fs2) (hs1 : ∀ f ∈ fs1, f.1.length ≤ 140737488355328 ∧ f.2.length ≤ 140737488355328) (hs2 : ∀ f ∈ fs2, f.1.length ≤ 140737488355328 ∧ f.2.length ≤ 140737488355328) (hl1 : fs1.length ≤ 140737488355328) (hl2 : fs2.length ≤ 140737488355328) :
    Calls Tryd.prog 3 #[.agg #[.string m1, .string t1, .int .i64 mn1, .slice a1 n1 c1, .string bd1], .agg #[.string m2, .string t2, .int .i64 mn2, .slice a2 n2 c2, .string bd2], .agg #[.string host, .string name, .string key, .bool has]] w (Ret w (.bool true)) := by
  cases h1 : vfew t1.data.toList fs1
  · exact law_VarsRead_no m1 t1 bd1 m2 t2 bd2 host name key mn1 mn2 a1 a2 n1 n2 c1 c2 has fs1 fs2 w hg hF1 hF2 hs1 hs2 hl1 hl2 (.inl h1)
  · cases h2 : vfew t2.data.toList fs2
    · exact law_VarsRead_no m1 t1 bd1 m2 t2 bd2 host name key mn1 mn2 a1 a2 n1 n2 c1 c2 has fs1 fs2 w hg hF1 hF2 hs1 hs2 hl1 hl2 (.inr (.inl ⟨h1, h2⟩))
    · by_cases h3 : key.size ≤ 2000
      · exact law_VarsRead_yes m1 t1 bd1 m2 t2 bd2 host name key mn1 mn2 a1 a2 n1 n2 c1 c2 has fs1 fs2 w hg hF1 hF2 hs1 hs2 hl1 hl2 h1 h2 h3
      · exact law_VarsRead_no m1 t1 bd1 m2 t2 bd2 host name key mn1 mn2 a1 a2 n1 n2 c1 c2 has fs1 fs2 w hg hF1 hF2 hs1 hs2 hl1 hl2 (.inr (.inr ⟨h1, h2, by omega⟩))
end Go.Proofs.YtmkpejioinkceaaDoor
