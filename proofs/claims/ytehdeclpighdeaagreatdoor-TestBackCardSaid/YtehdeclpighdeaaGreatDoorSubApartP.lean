/- Uses begin and end as they must; how long values may be: the plain law. -/
import Derived.Test.YtehdeclpighdeaaGreatDoorSubPlain
import Derived.Test.YtehdeclpighdeaaGreatDoorVarsGet2
namespace Go.Proofs.YtehdeclpighdeaaGreatDoor
open Go.Lib
set_option linter.unusedVariables false

/-- One text ends another. -/
def Suf (a b : Bs) : Prop := ∃ pre, b = pre ++ a
theorem Suf.refl (a : Bs) : Suf a a := ⟨[], rfl⟩
theorem Suf.trans {a b c : Bs} (h1 : Suf a b) (h2 : Suf b c) : Suf a c := by
  obtain ⟨p, rfl⟩ := h1
  obtain ⟨q, rfl⟩ := h2
  exact ⟨q ++ p, by simp⟩
theorem suf_drop (l : Bs) (n : Nat) : Suf (l.drop n) l := ⟨l.take n, (List.take_append_drop n l).symm⟩
theorem suf_dropWhile (l : Bs) (p : UInt8 → Bool) : Suf (l.dropWhile p) l := ⟨l.takeWhile p, List.takeWhile_append_dropWhile.symm⟩
theorem suf_past (c : UInt8) (l : Bs) : Suf (past c l) l := (suf_drop _ 1).trans (suf_dropWhile l _)
theorem suf_tpfx (l p : Bs) : Suf (trimPrefix l p) l := by
  unfold trimPrefix
  by_cases h : hasPrefix l p = true
  · rw [if_pos h]; exact suf_drop _ _
  · rw [if_neg h]; exact Suf.refl _
theorem keyAt_suf {r k r2 : Bs} {hk : Bool} (h : keyAt r = some (k, hk, r2)) : Suf r2 r := by
  unfold keyAt at h
  cases h1 : hasPrefix r [123]
  · rw [h1] at h; cases h; exact Suf.refl _
  · rw [h1] at h
    simp only [cond_true] at h
    cases h2 : ((trimPrefix r [123]).contains 125 && vkey (upto 125 (trimPrefix r [123])))
    · rw [h2] at h; cases h
    · rw [h2] at h
      simp only [cond_true, Option.some.injEq, Prod.mk.injEq] at h
      rw [← h.2.2]
      exact (suf_past _ _).trans (suf_tpfx _ _)
theorem dftAt_suf {r d r3 : Bs} {hd : Bool} (h : dftAt r = some (d, hd, r3)) : Suf r3 r := by
  unfold dftAt at h
  cases h1 : hasPrefix r [124]
  · rw [h1] at h; cases h; exact Suf.refl _
  · rw [h1] at h
    simp only [cond_true] at h
    unfold dftIn at h
    refine Suf.trans ?_ (suf_tpfx r [124])
    cases h2 : hasPrefix (trimPrefix r [124]) [39]
    · rw [h2] at h
      simp only [cond_false] at h
      cases h4 : ((trimPrefix r [124]).takeWhile keyc).isEmpty
      · rw [h4] at h
        simp only [cond_false, Option.some.injEq, Prod.mk.injEq] at h
        rw [← h.2.2]; exact suf_dropWhile _ _
      · rw [h4] at h; cases h
    · rw [h2] at h
      simp only [cond_true] at h
      cases h4 : (trimPrefix (trimPrefix r [124]) [39]).contains 39
      · rw [h4] at h; cases h
      · rw [h4] at h
        simp only [cond_true, Option.some.injEq, Prod.mk.injEq] at h
        rw [← h.2.2]; exact (suf_past _ _).trans (suf_tpfx _ _)
theorem pfx_one {r : Bs} {c : UInt8} (h : hasPrefix r [c] = true) : r = c :: trimPrefix r [c] := by
  unfold trimPrefix
  rw [if_pos h]
  unfold hasPrefix at h
  cases r with
  | nil => simp at h
  | cons x r =>
    simp at h
    subst h; rfl
theorem useAt_end {r : Bs} {p : Parts} (h : useAt r = some p) : ∃ pre, r = pre ++ 41 :: p.rest ∧ 1 ≤ pre.length := by
  unfold useAt at h
  cases h1 : vknown (r.takeWhile letc)
  · rw [h1] at h; cases h
  · rw [h1] at h
    simp only [cond_true] at h
    cases h2 : keyAt (r.dropWhile letc) with
    | none => rw [h2] at h; cases h
    | some q =>
      obtain ⟨k, hk, r2⟩ := q
      rw [h2] at h
      have s1 := keyAt_suf h2
      change otherAt (r.takeWhile letc) k hk r2 = some p at h
      unfold otherAt at h
      cases h3 : dftAt r2 with
      | none => rw [h3] at h; cases h
      | some q =>
        obtain ⟨d, hd, r3⟩ := q
        rw [h3] at h
        have s2 := dftAt_suf h3
        change endAt (r.takeWhile letc) k d hk hd r3 = some p at h
        unfold endAt at h
        cases h4 : hasPrefix r3 [41]
        · rw [h4] at h; cases h
        · rw [h4] at h
          simp only [cond_true, Option.some.injEq] at h
          subst h
          obtain ⟨pre, hpre⟩ := s2.trans s1
          rw [pfx_one h4] at hpre
          refine ⟨r.takeWhile letc ++ pre, ?_, ?_⟩
          · rw [List.append_assoc]
            show r = r.takeWhile letc ++ (pre ++ 41 :: trimPrefix r3 [41])
            rw [← hpre, List.takeWhile_append_dropWhile]
          · cases ht : r.takeWhile letc with
            | nil => exfalso; rw [ht] at h1; revert h1; decide
            | cons a b => simp
/-- A use has four bytes at least, and ends with a bracket. -/
theorem Found.ends {s : Bs} {i : Nat} {u : Use} (h : Found s i u) : u.src + 4 ≤ u.to ∧ s[u.to - 1]? = some 41 := by
  obtain ⟨p, hp, he⟩ := h.parts
  obtain ⟨pre, hpre, h1⟩ := useAt_end hp
  have hle := h.le
  have hto : u.to = s.length - p.rest.length := by rw [he]; rfl
  have hl := congrArg List.length hpre
  rw [List.length_drop, List.length_append, List.length_cons] at hl
  have hlt := h.lt
  constructor
  · omega
  · have : (s.drop (u.src + 2))[u.to - 1 - (u.src + 2)]? = some 41 := by
      rw [hpre, List.getElem?_append_right (by omega), show u.to - 1 - (u.src + 2) - pre.length = 0 by omega]; rfl
    rw [List.getElem?_drop] at this
    rw [← this]; congr 1; omega

theorem dftAt_dft {r d r3 : Bs} {hd : Bool} (h : dftAt r = some (d, hd, r3)) : d.length ≤ r.length := by
  unfold dftAt at h
  cases h1 : hasPrefix r [124]
  · rw [h1] at h; cases h; exact Nat.zero_le _
  · rw [h1] at h
    have h3 := tpfx_len h1
    simp only [cond_true] at h
    unfold dftIn at h
    cases h2 : hasPrefix (trimPrefix r [124]) [39]
    · rw [h2] at h
      simp only [cond_false] at h
      cases h4 : ((trimPrefix r [124]).takeWhile keyc).isEmpty
      · rw [h4] at h
        simp only [cond_false, Option.some.injEq, Prod.mk.injEq] at h
        rw [← h.1]
        have := lead_le keyc (trimPrefix r [124])
        unfold lead at this; omega
      · rw [h4] at h; cases h
    · rw [h2] at h
      have h5 := tpfx_len h2
      simp only [cond_true] at h
      cases h4 : (trimPrefix (trimPrefix r [124]) [39]).contains 39
      · rw [h4] at h; cases h
      · rw [h4] at h
        simp only [cond_true, Option.some.injEq, Prod.mk.injEq] at h
        rw [← h.1]
        have := upto_len 39 (trimPrefix (trimPrefix r [124]) [39]); omega
theorem useAt_dft {r : Bs} {p : Parts} (h : useAt r = some p) : p.dft.length ≤ r.length := by
  unfold useAt at h
  cases h1 : vknown (r.takeWhile letc)
  · rw [h1] at h; cases h
  · rw [h1] at h
    simp only [cond_true] at h
    cases h2 : keyAt (r.dropWhile letc) with
    | none => rw [h2] at h; cases h
    | some q =>
      obtain ⟨k, hk, r2⟩ := q
      rw [h2] at h
      have l1 := keyAt_len h2
      have l0 := dropWhile_len letc r
      change otherAt (r.takeWhile letc) k hk r2 = some p at h
      unfold otherAt at h
      cases h3 : dftAt r2 with
      | none => rw [h3] at h; cases h
      | some q =>
        obtain ⟨d, hd, r3⟩ := q
        rw [h3] at h
        have l2 := dftAt_dft h3
        change endAt (r.takeWhile letc) k d hk hd r3 = some p at h
        unfold endAt at h
        cases h4 : hasPrefix r3 [41]
        · rw [h4] at h; cases h
        · rw [h4] at h
          simp only [cond_true, Option.some.injEq] at h
          subst h
          show d.length ≤ r.length; omega
theorem Found.dft {s : Bs} {i : Nat} {u : Use} (h : Found s i u) : u.dft.length ≤ s.length := by
  obtain ⟨p, hp, he⟩ := h.parts
  have h1 := useAt_dft hp
  rw [List.length_drop] at h1
  have : u.dft = p.dft := by rw [he]; rfl
  rw [this]; omega
theorem vagent_len (s key : Bs) (n : Nat) (hn : 10 ≤ n) (hs : s.length ≤ n) : (vagent s key).1.length ≤ n := by
  unfold vagent
  cases key == kBrowser
  · cases key == kVersion
    · cases key == kOs
      · exact Nat.zero_le _
      · show (vos s).length ≤ n
        unfold vos
        cases Lib.contains s tWindows <;> cases Lib.contains s tMac <;> cases (Lib.contains s tX11 || Lib.contains s tLinux) <;> simp <;> omega
    · show ((s.drop (verAt s)).takeWhile vd).length ≤ n
      have h1 := lead_le vd (s.drop (verAt s))
      unfold lead at h1
      rw [List.length_drop] at h1; omega
  · show (vbrowser s).length ≤ n
    unfold vbrowser
    cases Lib.contains s tMsie <;> cases Lib.hasPrefix s tMozilla <;> simp <;> omega
theorem ck_len {key p v : Bs} (h : ckOf key p = some v) : v.length ≤ p.length := by
  unfold ckOf at h
  split at h
  · obtain rfl := Option.some.inj h
    exact Nat.le_trans (past_len _ _) (trim_len p)
  · cases h
theorem qu_len {key p v : Bs} (h : quOf key p = some v) : v.length ≤ p.length := by
  unfold quOf at h
  split at h
  · obtain rfl := Option.some.inj h
    exact past_len _ _
  · cases h
theorem fsome_len {f : Bs → Option Bs} {l : List Bs} {n : Nat} (hf : ∀ p v, f p = some v → v.length ≤ p.length) (hl : ∀ p ∈ l, p.length ≤ n) : (optP (l.findSome? f)).1.length ≤ n := by
  cases h : l.findSome? f with
  | none => exact Nat.zero_le _
  | some v =>
    obtain ⟨p, hp, hv⟩ := List.exists_of_findSome?_eq_some h
    exact Nat.le_trans (hf p v hv) (hl p hp)
theorem fget_le {fs : List Fld} (hlim : Lim fs) (name : Bs) : (fget fs name).1.length ≤ 100002000 := join_len (hlim.values name) [44, 32] (by decide)
theorem vget_len {h t : Bs} {fs : List Fld} (name key : Bs) (has : Bool) (hlim : Lim fs) (hh : h.length ≤ 100002000) (ht : t.length ≤ 100000) : (vget h t fs name key has).1.length ≤ 100002000 := by
  have hck : (vcookies fs).1.length ≤ 100002000 := join_len (hlim.values cookieName) [59, 32] (by decide)
  rcases name_cases name with rfl | rfl | rfl | rfl | rfl | rfl | hn
  · cases has
    · exact hh
    · unfold vget; cases vkey key <;> exact Nat.zero_le _
  · cases has
    · exact fget_le hlim _
    · unfold vget; cases vkey key <;> exact Nat.zero_le _
  · cases has
    · exact fget_le hlim _
    · show (bif vkey key then vua fs key else ([], false)).1.length ≤ _
      cases vkey key
      · exact Nat.zero_le _
      · show (vua fs key).1.length ≤ _
        unfold vua
        cases (fget fs agentName).2
        · exact Nat.zero_le _
        · exact vagent_len _ _ _ (by omega) (fget_le hlim _)
  · cases has
    · exact hck
    · show (bif vkey key then optP (vcookie fs key) else ([], false)).1.length ≤ _
      cases vkey key
      · exact Nat.zero_le _
      · exact fsome_len (fun p v h => ck_len h) (fun p hp => Nat.le_trans (pieces_each 59 _ _ (Nat.le_refl _) p hp) hck)
  · cases has
    · show (optP (vquery t)).1.length ≤ _
      unfold vquery
      split
      · have := past_len 63 t; show (past 63 t).length ≤ _; omega
      · exact Nat.zero_le _
    · show (bif vkey key then optP (bif t.contains 63 then vasked t key else none) else ([], false)).1.length ≤ _
      cases vkey key
      · exact Nat.zero_le _
      · cases t.contains 63
        · exact Nat.zero_le _
        · refine fsome_len (fun p v h => qu_len h) (fun p hp => ?_)
          have h1 := pieces_each 38 _ _ (Nat.le_refl _) p hp
          have h2 := past_len 63 t
          omega
  · cases has
    · exact fget_le hlim _
    · show (bif vkey key then (langV (vlang fs key), vlang fs key) else ([], false)).1.length ≤ _
      cases vkey key
      · exact Nat.zero_le _
      · show (langV (vlang fs key)).length ≤ _
        cases vlang fs key <;> simp [langV]
  · rw [vget_none hn]; exact Nat.zero_le _
theorem vval_len {h t : Bs} {fs : List Fld} (u : Use) (hlim : Lim fs) (hh : h.length ≤ 100002000) (ht : t.length ≤ 100000) (hd : u.dft.length ≤ 100002000) : (vval h t fs u).1.length ≤ 100002000 := by
  unfold vval
  cases (vget h t fs u.name u.key u.hk).2
  · cases u.hd
    · exact Nat.zero_le _
    · exact hd
  · exact vget_len _ _ _ hlim hh ht
theorem vval_what {h t : Bs} {fs : List Fld} (u : Use) : ((vval h t fs u).2 = false → (vval h t fs u).1 = []) ∧ (u.hd = true → (vval h t fs u).2 = true) := by
  unfold vval
  cases h1 : (vget h t fs u.name u.key u.hk).2
  · cases u.hd
    · exact ⟨fun _ => rfl, fun h => by cases h⟩
    · exact ⟨fun h => (by cases h), fun _ => rfl⟩
  · exact ⟨fun h => (by simp only [cond_true] at h; rw [h1] at h; cases h), fun _ => h1⟩
theorem upto_le (c : UInt8) (l : Bs) : (upto c l).length ≤ l.length := upto_len c l
/-- Few fields: of so many bytes together. -/
def fewL (left : Int) : List Fld → Bool
  | [] => true
  | f :: r => bif decide ((f.1.length : Int) > left) || decide ((f.2.length : Int) > left - f.1.length) then false else fewL (left - f.1.length - f.2.length) r
def sfew (fs : List Fld) : Bool := decide (fs.length ≤ 40) && fewL 4000 fs
theorem fewL_each : ∀ (fs : List Fld) (left : Int), left ≤ 4000 → fewL left fs = true → ∀ f ∈ fs, f.1.length + f.2.length ≤ 4000
  | [], _, _, _, f, hf => by cases hf
  | g :: r, left, hl, h, f, hf => by
    unfold fewL at h
    cases hc : (decide ((g.1.length : Int) > left) || decide ((g.2.length : Int) > left - g.1.length))
    · rw [hc] at h
      rw [Bool.or_eq_false_iff] at hc
      have h1 := of_decide_eq_false hc.1
      have h2 := of_decide_eq_false hc.2
      rcases List.mem_cons.1 hf with rfl | hf
      · omega
      · exact fewL_each r _ (by omega) h f hf
    · rw [hc] at h; cases h
theorem sfew_lim {fs : List Fld} (h : sfew fs = true) : fs.length ≤ 40 ∧ Lim fs := by
  unfold sfew at h
  rw [Bool.and_eq_true] at h
  have h1 := of_decide_eq_true h.1
  exact ⟨h1, ⟨by omega, fun f hf => by have := fewL_each fs 4000 (by omega) h.2 f hf; omega⟩⟩
theorem fewL_bad {left : Int} {f : Fld} {r : List Fld} (h : (f.1.length : Int) > left ∨ (f.2.length : Int) > left - f.1.length) : fewL left (f :: r) = false := by
  unfold fewL
  have : (decide ((f.1.length : Int) > left) || decide ((f.2.length : Int) > left - f.1.length)) = true := by
    rcases h with h | h <;> simp [h]
  rw [this]; rfl
theorem fewL_good {left : Int} {f : Fld} {r : List Fld} (h1 : ¬ (f.1.length : Int) > left) (h2 : ¬ (f.2.length : Int) > left - f.1.length) : fewL left (f :: r) = fewL (left - f.1.length - f.2.length) r := by
  conv => lhs; unfold fewL
  rw [decide_eq_false h1, decide_eq_false h2]; rfl
end Go.Proofs.YtehdeclpighdeaaGreatDoor
