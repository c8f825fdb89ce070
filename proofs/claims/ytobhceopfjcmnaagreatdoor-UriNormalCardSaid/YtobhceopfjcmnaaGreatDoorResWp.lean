/- What references mean: the plain law of the stage's theorem. -/
import Derived.Test.YtobhceopfjcmnaaGreatDoorRes
namespace Go.Proofs.YtobhceopfjcmnaaGreatDoor
open Go.Lib

theorem ref_empty {a : U} (ha : checkB a = 0) : refB a [] = (normB a, 0) := by
  rw [ref_ok (by simp) ha]
  show refC a [] = _
  rw [refC_in rfl rfl, within_none rfl rfl, checked_ok ha]
theorem dig_free {s : Bs} (h : s.all dig = true) : s.contains 35 = false := all_free (p := dig) (by decide) h
theorem text_free {b : U} (hb : okB b = true) : (textB b).contains 35 = false := by
  have hf := hb
  unfold okB at hf
  rw [Bool.and_eq_true, form_iff] at hf
  obtain ⟨r, hpe, hpm⟩ := hf.1.path
  have hport := hf.1.port
  have h1 : b.scheme.contains 35 = false := by rcases hf.1.scheme with h | h <;> rw [h] <;> decide
  have h2 : b.host.contains 35 = false := all_free (p := hostc) (by decide) hf.1.host
  have h3 : b.path.contains 35 = false := by rw [hpe]; exact madeB_free (p := pathc) (by decide) (by decide) (by decide) hpm
  have h4 : b.query.contains 35 = false := madeB_free (p := queryc) (by decide) (by decide) (by decide) hf.1.made
  have h5 : (numB b.port.toNat).contains 35 = false := dig_free (numK_digits 6 b.port.toNat (by omega))
  rw [text_parts, has_app, has_app, has_app, has_app, has_app, h1, h2, h3]
  have e1 : ((bif b.port == 0 then [] else [58] ++ numB b.port.toNat : Bs)).contains 35 = false := by
    cases b.port == 0
    · rw [cond_false, has_app, h5]; rfl
    · rfl
  have e2 : ((bif b.hq then [63] ++ b.query else [] : Bs)).contains 35 = false := by
    cases b.hq
    · rfl
    · rw [cond_true, has_app, h4]; rfl
  rw [e1, e2]; rfl
theorem ref_text {a b : U} (ha : checkB a = 0) (hb : okB b = true) : refB a (textB b) = (normB b, 0) := by
  have hf := hb
  unfold okB at hf
  rw [Bool.and_eq_true, form_iff, decide_eq_true_eq] at hf
  have hl : (textB b).length ≤ 1024 := hf.2
  rw [ref_ok (by omega) ha, upto_all 35 _ (text_free hb)]
  have hsc : b.scheme.contains 58 = false := by rcases hf.1.scheme with h | h <;> rw [h] <;> decide
  obtain ⟨tl, htl⟩ : ∃ tl, textB b = b.scheme ++ 58 :: 47 :: 47 :: tl := by
    rw [text_parts]; exact ⟨_, by simp; rfl⟩
  have hu : upto 58 (textB b) = b.scheme := by rw [htl]; exact upto_app hsc
  have hp : past 58 (textB b) = 47 :: 47 :: tl := by rw [htl]; exact past_app hsc
  have hc : (textB b).contains 58 = true := by rw [htl, has_app]; simp
  have hn : nameOk b.scheme = true := by rcases hf.1.scheme with h | h <;> rw [h] <;> decide
  have hlow : lower b.scheme = b.scheme := by rcases hf.1.scheme with h | h <;> rw [h] <;> decide
  have hs : schB (textB b) = true := by unfold schB; rw [hc, hu, hn]; rfl
  rw [refC_sch hs (by rw [hu, hlow]; exact hf.1.scheme) (by rw [hp]; rfl), hu, hp, hlow, ← htl]
  exact whole_ok (parse_text hb)
theorem whole_cases (t : Bs) : (∃ v, wholeB t = (normB v, 0) ∧ okB v = true) ∨ (∃ e, wholeB t = (noU, e) ∧ (e = 2 ∨ e = 3 ∨ e = 4)) := by
  rcases h : parseB t with ⟨v, c⟩
  rcases parse_code h with rfl | ⟨rfl, rfl | rfl⟩
  · exact .inl ⟨v, whole_ok h, (parse_back h).ok⟩
  · exact .inr ⟨3, whole_no h (by decide), .inr (.inl rfl)⟩
  · exact .inr ⟨4, whole_no h (by decide), .inr (.inr rfl)⟩
theorem checked_cases (u : U) : (∃ v, checkedB u = (normB v, 0) ∧ okB v = true) ∨ (∃ e, checkedB u = (noU, e) ∧ (e = 2 ∨ e = 3 ∨ e = 4)) := by
  by_cases h : checkB u = 0
  · exact .inl ⟨u, checked_ok h, (checkB_ok u).1 h⟩
  · refine .inr ⟨checkB u, checked_no h, ?_⟩
    rcases check_codes h with h | h <;> rw [h]
    · exact .inr (.inl rfl)
    · exact .inr (.inr rfl)
theorem ref_cases (a : U) (s : Bs) : (∃ v, refB a s = (normB v, 0) ∧ okB v = true) ∨ (∃ e, refB a s = (noU, e) ∧ (e = 2 ∨ e = 3 ∨ e = 4)) := by
  by_cases h1 : 1024 < s.length
  · exact .inr ⟨3, ref_long h1, .inr (.inl rfl)⟩
  · by_cases h2 : checkB a = 0
    · rw [ref_ok h1 h2]
      generalize upto 35 s = r
      cases h3 : schB r
      · cases h4 : hasPrefix r twoSl
        · rw [refC_in h3 h4]; exact checked_cases _
        · rw [refC_two h3 h4]; exact whole_cases _
      · by_cases h4 : (lower (upto 58 r) = http ∨ lower (upto 58 r) = https) ∧ hasPrefix (past 58 r) twoSl = true
        · rw [refC_sch h3 h4.1 h4.2]; exact whole_cases _
        · exact .inr ⟨4, refC_bad h3 h4, .inr (.inr rfl)⟩
    · exact .inr ⟨2, ref_arg h1 h2, .inl rfl⟩
end Go.Proofs.YtobhceopfjcmnaaGreatDoor
