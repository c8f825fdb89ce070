/- Uses begin and end as they must; how long values may be: the plain law. -/
import Derived.Test.YtehdeclpighdeaaGreatDoorKSubPlain
import Derived.Test.YtehdeclpighdeaaGreatDoorKVarsGet2
namespace Go.Proofs.YtehdeclpighdeaaGreatDoor
open Go.Lib
set_option linter.unusedVariables false
def Suf (a b : Bs) : Prop := ∃ pre, b = pre ++ a
theorem Suf.refl (a : Bs) : Suf a a := ⟨[], rfl⟩
theorem Suf.trans {a b c : Bs} (h1 : Suf a b) (h2 : Suf b c) : Suf a c := by
  obtain ⟨p, rfl⟩ := h1
  obtain ⟨q, rfl⟩ := h2
  exact ⟨q ++ p, by simp⟩
theorem dftAt_dft {r d r3 : Bs} {hd : Bool} (h : dftAt r = some (d, hd, r3)) : d.length ≤ r.length := by
  unfold dftAt at h
  cases h1 : hasPrefix r [124]
  · rw [h1] at h; cases h; exact Nat.zero_le _
  · rw [h1] at h
    have h3 := tpfx_len h1
    simp only [cond_true] at h
    unfold dftIn at h
    cases h2 : hasPrefix (trimPrefix r [124]) [39]
    · rw [h2] at h
      simp only [cond_false] at h
      cases h4 : ((trimPrefix r [124]).takeWhile keyc).isEmpty
      · rw [h4] at h
        simp only [cond_false, Option.some.injEq, Prod.mk.injEq] at h
        rw [← h.1]
        have := lead_le keyc (trimPrefix r [124])
        unfold lead at this; omega
      · rw [h4] at h; cases h
    · rw [h2] at h
      have h5 := tpfx_len h2
      simp only [cond_true] at h
      cases h4 : (trimPrefix (trimPrefix r [124]) [39]).contains 39
      · rw [h4] at h; cases h
      · rw [h4] at h
        simp only [cond_true, Option.some.injEq, Prod.mk.injEq] at h
        rw [← h.1]
        have := upto_len 39 (trimPrefix (trimPrefix r [124]) [39]); omega
theorem useAt_dft {r : Bs} {p : Parts} (h : useAt r = some p) : p.dft.length ≤ r.length := by
  unfold useAt at h
  cases h1 : vknown (r.takeWhile letc)
  · rw [h1] at h; cases h
  · rw [h1] at h
    simp only [cond_true] at h
    cases h2 : keyAt (r.dropWhile letc) with
    | none => rw [h2] at h; cases h
    | some q =>
      obtain ⟨k, hk, r2⟩ := q
      rw [h2] at h
      have l1 := keyAt_len h2
      have l0 := dropWhile_len letc r
      change otherAt (r.takeWhile letc) k hk r2 = some p at h
      unfold otherAt at h
      cases h3 : dftAt r2 with
      | none => rw [h3] at h; cases h
      | some q =>
        obtain ⟨d, hd, r3⟩ := q
        rw [h3] at h
        have l2 := dftAt_dft h3
        change endAt (r.takeWhile letc) k d hk hd r3 = some p at h
        unfold endAt at h
        cases h4 : hasPrefix r3 [41]
        · rw [h4] at h; cases h
        · rw [h4] at h
          simp only [cond_true, Option.some.injEq] at h
          subst h
          show d.length ≤ r.length; omega
theorem Found.dft {s : Bs} {i : Nat} {u : Use} (h : Found s i u) : u.dft.length ≤ s.length := by
  obtain ⟨p, hp, he⟩ := h.parts
  have h1 := useAt_dft hp
  rw [List.length_drop] at h1
  have : u.dft = p.dft := by rw [he]; rfl
  rw [this]; omega
theorem vagent_len (s key : Bs) (n : Nat) (hn : 10 ≤ n) (hs : s.length ≤ n) : (vagent s key).1.length ≤ n := by
  unfold vagent
  cases key == kBrowser
  · cases key == kVersion
    · cases key == kOs
      · exact Nat.zero_le _
      · show (vos s).length ≤ n
        unfold vos
        cases Lib.contains s tWindows <;> cases Lib.contains s tMac <;> cases (Lib.contains s tX11 || Lib.contains s tLinux) <;> simp <;> omega
    · show ((s.drop (verAt s)).takeWhile vd).length ≤ n
      have h1 := lead_le vd (s.drop (verAt s))
      unfold lead at h1
      rw [List.length_drop] at h1; omega
  · show (vbrowser s).length ≤ n
    unfold vbrowser
    cases Lib.contains s tMsie <;> cases Lib.hasPrefix s tMozilla <;> simp <;> omega
theorem ck_len {key p v : Bs} (h : ckOf key p = some v) : v.length ≤ p.length := by
  unfold ckOf at h
  split at h
  · obtain rfl := Option.some.inj h
    exact Nat.le_trans (past_len _ _) (trim_len p)
  · cases h
theorem qu_len {key p v : Bs} (h : quOf key p = some v) : v.length ≤ p.length := by
  unfold quOf at h
  split at h
  · obtain rfl := Option.some.inj h
    exact past_len _ _
  · cases h
theorem fsome_len {f : Bs → Option Bs} {l : List Bs} {n : Nat} (hf : ∀ p v, f p = some v → v.length ≤ p.length) (hl : ∀ p ∈ l, p.length ≤ n) : (optP (l.findSome? f)).1.length ≤ n := by
  cases h : l.findSome? f with
  | none => exact Nat.zero_le _
  | some v =>
    obtain ⟨p, hp, hv⟩ := List.exists_of_findSome?_eq_some h
    exact Nat.le_trans (hf p v hv) (hl p hp)
theorem fget_le {fs : List Fld} (hlim : Lim fs) (name : Bs) : (fget fs name).1.length ≤ 100002000 := join_len (hlim.values name) [44, 32] (by decide)
theorem vget_len {h t : Bs} {fs : List Fld} (name key : Bs) (has : Bool) (hlim : Lim fs) (hh : h.length ≤ 100002000) (ht : t.length ≤ 100000) : (vget h t fs name key has).1.length ≤ 100002000 := by
  have hck : (vcookies fs).1.length ≤ 100002000 := join_len (hlim.values cookieName) [59, 32] (by decide)
  rcases name_cases name with rfl | rfl | rfl | rfl | rfl | rfl | hn
  · cases has
    · exact hh
    · unfold vget; cases vkey key <;> exact Nat.zero_le _
  · cases has
    · exact fget_le hlim _
    · unfold vget; cases vkey key <;> exact Nat.zero_le _
  · cases has
    · exact fget_le hlim _
    · show (bif vkey key then vua fs key else ([], false)).1.length ≤ _
      cases vkey key
      · exact Nat.zero_le _
      · show (vua fs key).1.length ≤ _
        unfold vua
        cases (fget fs agentName).2
        · exact Nat.zero_le _
        · exact vagent_len _ _ _ (by omega) (fget_le hlim _)
  · cases has
    · exact hck
    · show (bif vkey key then optP (vcookie fs key) else ([], false)).1.length ≤ _
      cases vkey key
      · exact Nat.zero_le _
      · exact fsome_len (fun p v h => ck_len h) (fun p hp => Nat.le_trans (pieces_each 59 _ _ (Nat.le_refl _) p hp) hck)
  · cases has
    · show (optP (vquery t)).1.length ≤ _
      unfold vquery
      split
      · have := past_len 63 t; show (past 63 t).length ≤ _; omega
      · exact Nat.zero_le _
    · show (bif vkey key then optP (bif t.contains 63 then vasked t key else none) else ([], false)).1.length ≤ _
      cases vkey key
      · exact Nat.zero_le _
      · cases t.contains 63
        · exact Nat.zero_le _
        · refine fsome_len (fun p v h => qu_len h) (fun p hp => ?_)
          have h1 := pieces_each 38 _ _ (Nat.le_refl _) p hp
          have h2 := past_len 63 t
          omega
  · cases has
    · exact fget_le hlim _
    · show (bif vkey key then (langV (vlang fs key), vlang fs key) else ([], false)).1.length ≤ _
      cases vkey key
      · exact Nat.zero_le _
      · show (langV (vlang fs key)).length ≤ _
        cases vlang fs key <;> simp [langV]
  · rw [vget_none hn]; exact Nat.zero_le _
theorem vval_len {h t : Bs} {fs : List Fld} (u : Use) (hlim : Lim fs) (hh : h.length ≤ 100002000) (ht : t.length ≤ 100000) (hd : u.dft.length ≤ 100002000) : (vval h t fs u).1.length ≤ 100002000 := by
  unfold vval
  cases (vget h t fs u.name u.key u.hk).2
  · cases u.hd
    · exact Nat.zero_le _
    · exact hd
  · exact vget_len _ _ _ hlim hh ht
end Go.Proofs.YtehdeclpighdeaaGreatDoor
