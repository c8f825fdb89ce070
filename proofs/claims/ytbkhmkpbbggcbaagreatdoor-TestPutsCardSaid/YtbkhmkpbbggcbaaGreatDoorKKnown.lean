/- The walk of Known. -/
import Derived.Test.YtbkhmkpbbggcbaaGreatDoorKSubPlain
import Derived.Test.YtbkhmkpbbggcbaaGreatDoorKLook
namespace Go.Proofs.YtbkhmkpbbggcbaaGreatDoor
open Go.Lib
set_option linter.unusedVariables false
def Suf (a b : Bs) : Prop := ∃ pre, b = pre ++ a
theorem Suf.refl (a : Bs) : Suf a a := ⟨[], rfl⟩
theorem Suf.trans {a b c : Bs} (h1 : Suf a b) (h2 : Suf b c) : Suf a c := by
  obtain ⟨p, rfl⟩ := h1
  obtain ⟨q, rfl⟩ := h2
  exact ⟨q ++ p, by simp⟩
theorem pfx_one {r : Bs} {c : UInt8} (h : hasPrefix r [c] = true) : r = c :: trimPrefix r [c] := by
  unfold trimPrefix
  rw [if_pos h]
  unfold hasPrefix at h
  cases r with
  | nil => simp at h
  | cons x r =>
    simp at h
    subst h; rfl
theorem dftAt_dft {r d r3 : Bs} {hd : Bool} (h : dftAt r = some (d, hd, r3)) : d.length ≤ r.length := by
  unfold dftAt at h
  cases h1 : hasPrefix r [124]
  · rw [h1] at h; cases h; exact Nat.zero_le _
  · rw [h1] at h
    have h3 := tpfx_len h1
    simp only [cond_true] at h
    unfold dftIn at h
    cases h2 : hasPrefix (trimPrefix r [124]) [39]
    · rw [h2] at h
      simp only [cond_false] at h
      cases h4 : ((trimPrefix r [124]).takeWhile keyc).isEmpty
      · rw [h4] at h
        simp only [cond_false, Option.some.injEq, Prod.mk.injEq] at h
        rw [← h.1]
        have := lead_le keyc (trimPrefix r [124])
        unfold lead at this; omega
      · rw [h4] at h; cases h
    · rw [h2] at h
      have h5 := tpfx_len h2
      simp only [cond_true] at h
      cases h4 : (trimPrefix (trimPrefix r [124]) [39]).contains 39
      · rw [h4] at h; cases h
      · rw [h4] at h
        simp only [cond_true, Option.some.injEq, Prod.mk.injEq] at h
        rw [← h.1]
        have := upto_len 39 (trimPrefix (trimPrefix r [124]) [39]); omega
theorem useAt_dft {r : Bs} {p : Parts} (h : useAt r = some p) : p.dft.length ≤ r.length := by
  unfold useAt at h
  cases h1 : vknown (r.takeWhile letc)
  · rw [h1] at h; cases h
  · rw [h1] at h
    simp only [cond_true] at h
    cases h2 : keyAt (r.dropWhile letc) with
    | none => rw [h2] at h; cases h
    | some q =>
      obtain ⟨k, hk, r2⟩ := q
      rw [h2] at h
      have l1 := keyAt_len h2
      have l0 := dropWhile_len letc r
      change otherAt (r.takeWhile letc) k hk r2 = some p at h
      unfold otherAt at h
      cases h3 : dftAt r2 with
      | none => rw [h3] at h; cases h
      | some q =>
        obtain ⟨d, hd, r3⟩ := q
        rw [h3] at h
        have l2 := dftAt_dft h3
        change endAt (r.takeWhile letc) k d hk hd r3 = some p at h
        unfold endAt at h
        cases h4 : hasPrefix r3 [41]
        · rw [h4] at h; cases h
        · rw [h4] at h
          simp only [cond_true, Option.some.injEq] at h
          subst h
          show d.length ≤ r.length; omega
theorem Found.dft {s : Bs} {i : Nat} {u : Use} (h : Found s i u) : u.dft.length ≤ s.length := by
  obtain ⟨p, hp, he⟩ := h.parts
  have h1 := useAt_dft hp
  rw [List.length_drop] at h1
  have : u.dft = p.dft := by rw [he]; rfl
  rw [this]; omega
end Go.Proofs.YtbkhmkpbbggcbaaGreatDoor
namespace Go.Proofs.YtbkhmkpbbggcbaaGreatDoor
open Go.RowKit
set_option linter.unusedVariables false
set_option maxRecDepth 100000 in
theorem vars_Known (name : ByteArray) (w : World) : Calls Tryz.prog 74 #[.string name] w (Ret w (.bool (vknown name.data.toList))) := by
  rcases name_cases name.data.toList with hn | hn | hn | hn | hn | hn | hn
  · obtain rfl := name_lit hn
    have HV := Lib.hid (show vknown (⟨nHost.toArray⟩ : ByteArray).data.toList = true from rfl)
    clear hn
    go_enter Tryz.func74, Tryz.ntmps74
    go_wp2_with fail
    refine (vars_rules _).mono ?_
    rintro e w1 ⟨b, p1, p2, p3, rfl, hR, hb1⟩
    have hl := look2_0 hR
    go_wp2
    go_ret
    rw [HV.out]
    exact ⟨rfl, hb1.alloc hb1.size _⟩
  · obtain rfl := name_lit hn
    have HV := Lib.hid (show vknown (⟨nReferer.toArray⟩ : ByteArray).data.toList = true from rfl)
    clear hn
    go_enter Tryz.func74, Tryz.ntmps74
    go_wp2_with fail
    refine (vars_rules _).mono ?_
    rintro e w1 ⟨b, p1, p2, p3, rfl, hR, hb1⟩
    have hl := look2_1 hR
    go_wp2
    go_ret
    rw [HV.out]
    exact ⟨rfl, hb1.alloc hb1.size _⟩
  · obtain rfl := name_lit hn
    have HV := Lib.hid (show vknown (⟨nAgent.toArray⟩ : ByteArray).data.toList = true from rfl)
    clear hn
    go_enter Tryz.func74, Tryz.ntmps74
    go_wp2_with fail
    refine (vars_rules _).mono ?_
    rintro e w1 ⟨b, p1, p2, p3, rfl, hR, hb1⟩
    have hl := look2_2 hR
    go_wp2
    go_ret
    rw [HV.out]
    exact ⟨rfl, hb1.alloc hb1.size _⟩
  · obtain rfl := name_lit hn
    have HV := Lib.hid (show vknown (⟨nCookie.toArray⟩ : ByteArray).data.toList = true from rfl)
    clear hn
    go_enter Tryz.func74, Tryz.ntmps74
    go_wp2_with fail
    refine (vars_rules _).mono ?_
    rintro e w1 ⟨b, p1, p2, p3, rfl, hR, hb1⟩
    have hl := look2_3 hR
    go_wp2
    go_ret
    rw [HV.out]
    exact ⟨rfl, hb1.alloc hb1.size _⟩
  · obtain rfl := name_lit hn
    have HV := Lib.hid (show vknown (⟨nQuery.toArray⟩ : ByteArray).data.toList = true from rfl)
    clear hn
    go_enter Tryz.func74, Tryz.ntmps74
    go_wp2_with fail
    refine (vars_rules _).mono ?_
    rintro e w1 ⟨b, p1, p2, p3, rfl, hR, hb1⟩
    have hl := look2_4 hR
    go_wp2
    go_ret
    rw [HV.out]
    exact ⟨rfl, hb1.alloc hb1.size _⟩
  · obtain rfl := name_lit hn
    have HV := Lib.hid (show vknown (⟨nLang.toArray⟩ : ByteArray).data.toList = true from rfl)
    clear hn
    go_enter Tryz.func74, Tryz.ntmps74
    go_wp2_with fail
    refine (vars_rules _).mono ?_
    rintro e w1 ⟨b, p1, p2, p3, rfl, hR, hb1⟩
    have hl := look2_5 hR
    go_wp2
    go_ret
    rw [HV.out]
    exact ⟨rfl, hb1.alloc hb1.size _⟩
  · have HV := Lib.hid hn
    clear hn
    go_enter Tryz.func74, Tryz.ntmps74
    go_wp2_with fail
    refine (vars_rules _).mono ?_
    rintro e w1 ⟨b, p1, p2, p3, rfl, hR, hb1⟩
    have hl := look2_6 hR HV.out
    go_wp2
    go_ret
    rw [HV.out]
    exact ⟨rfl, hb1.alloc hb1.size _⟩
end Go.Proofs.YtbkhmkpbbggcbaaGreatDoor
