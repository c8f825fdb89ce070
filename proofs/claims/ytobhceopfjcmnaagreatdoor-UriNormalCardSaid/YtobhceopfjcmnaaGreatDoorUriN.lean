/- The normal form of a URI: it may be, is its own, and is not longer. -/
import Derived.Test.YtobhceopfjcmnaaGreatDoorUriQ
namespace Go.Proofs.YtobhceopfjcmnaaGreatDoor
open Go.Lib

/-! Digits of escapes -/
theorem hexv_lt {a : UInt8} (h : hexc a = true) : hexv a < 16 := by
  unfold hexc at h
  have := of_decide_eq_true h
  unfold hexv
  split <;> (try split) <;> omega
theorem upc_nat (a : UInt8) : (upc a).toNat = if 97 ≤ a.toNat ∧ a.toNat ≤ 122 then a.toNat - 32 else a.toNat := by
  unfold upc
  by_cases h : 97 ≤ a.toNat ∧ a.toNat ≤ 122
  · rw [if_pos h, if_pos h, UInt8.toNat_sub_of_le _ _ (by rw [UInt8.le_iff_toNat_le]; show 32 ≤ _; omega)]; rfl
  · rw [if_neg h, if_neg h]
theorem upc_hex {a : UInt8} (h : hexc a = true) : hexc (upc a) = true ∧ hexv (upc a) = hexv a ∧ upc (upc a) = upc a := by
  unfold hexc at h
  have h1 := of_decide_eq_true h
  have hn := upc_nat a
  refine ⟨?_, ?_, ?_⟩
  · unfold hexc
    apply decide_eq_true
    split at hn <;> omega
  · unfold hexv
    split at hn <;> (repeat' split) <;> omega
  · have hn2 := upc_nat (upc a)
    rw [u8eq]
    split at hn <;> split at hn2 <;> omega
theorem esc_nat {a b : UInt8} (ha : hexc a = true) (hb : hexc b = true) : (UInt8.ofNat (16 * hexv a + hexv b)).toNat = 16 * hexv a + hexv b := by
  have := hexv_lt ha
  have := hexv_lt hb
  rw [UInt8.toNat_ofNat_of_lt' (by show _ < 256; omega)]
theorem plain_ne {c : UInt8} (h : plainc c = true) : c ≠ 37 ∧ c ≠ 47 := by
  unfold plainc at h
  have := of_decide_eq_true h
  constructor
  · rintro rfl; revert this; decide
  · rintro rfl; revert this; decide
theorem hex_ne {c : UInt8} (h : hexc c = true) : c ≠ 47 := by rintro rfl; revert h; decide
theorem unesc_cases (a b : UInt8) : (∃ x, plainc x = true ∧ unesc a b = [x]) ∨ (plainc (UInt8.ofNat (16 * hexv a + hexv b)) = false ∧ unesc a b = [37, upc a, upc b]) := by
  unfold unesc
  cases h : plainc (UInt8.ofNat (16 * hexv a + hexv b))
  · exact .inr ⟨rfl, by rw [if_neg (by simp)]⟩
  · exact .inl ⟨_, h, by rw [if_pos rfl]⟩

/-! Escapes undone -/
theorem undo_made {p : UInt8 → Bool} (hp : ∀ c, plainc c = true → p c = true) {s : Bs} (h : madeB p s = true) : madeB p (undoB s) = true := by
  refine madeInd (M := fun s => madeB p (undoB s) = true) h rfl ?_ ?_
  · intro c r hc hpc _ ih; rw [undoB_byte hc, madeB_byte hc, hpc, ih]; rfl
  · intro a b r ha hb _ ih
    rw [undoB_esc (by rw [ha, hb]; rfl)]
    rcases unesc_cases a b with ⟨x, hx, e⟩ | ⟨_, e⟩
    · rw [e, List.cons_append, List.nil_append, madeB_byte (plain_ne hx).1, hp x hx, ih]; rfl
    · rw [e]
      show madeB p (37 :: upc a :: upc b :: undoB r) = true
      rw [madeB_esc, (upc_hex ha).1, (upc_hex hb).1, ih]; rfl
theorem undo_idem {p : UInt8 → Bool} {s : Bs} (h : madeB p s = true) : undoB (undoB s) = undoB s := by
  refine madeInd (M := fun s => undoB (undoB s) = undoB s) h rfl ?_ ?_
  · intro c r hc hpc _ ih; rw [undoB_byte hc, undoB_byte hc, ih]
  · intro a b r ha hb _ ih
    rw [undoB_esc (by rw [ha, hb]; rfl)]
    rcases unesc_cases a b with ⟨x, hx, e⟩ | ⟨hn, e⟩
    · rw [e, List.cons_append, List.nil_append, undoB_byte (plain_ne hx).1, ih]
    · rw [e]
      show undoB (37 :: upc a :: upc b :: undoB r) = _
      obtain ⟨a1, a2, a3⟩ := upc_hex ha
      obtain ⟨b1, b2, b3⟩ := upc_hex hb
      rw [undoB_esc (by rw [a1, b1]; rfl), ih]
      have : unesc (upc a) (upc b) = [37, upc a, upc b] := by
        unfold unesc
        rw [a2, b2, hn, a3, b3]; rfl
      rw [this]
theorem undo_len {p : UInt8 → Bool} {s : Bs} (h : madeB p s = true) : (undoB s).length ≤ s.length := by
  refine madeInd (M := fun s => (undoB s).length ≤ s.length) h (Nat.le_refl _) ?_ ?_
  · intro c r hc hpc _ ih; rw [undoB_byte hc]; simpa using ih
  · intro a b r ha hb _ ih
    rw [undoB_esc (by rw [ha, hb]; rfl)]
    rcases unesc_cases a b with ⟨x, hx, e⟩ | ⟨hn, e⟩
    · rw [e]; simp; omega
    · rw [e]; simp; omega
theorem pieces_byte {c x : UInt8} (h : x ≠ c) {l q : Bs} {qs : List Bs} (hp : pieces c l = q :: qs) : pieces c (x :: l) = (x :: q) :: qs := by
  rw [pieces_cons, if_neg (by simpa using h), hp]; rfl
theorem pieces_sep (c : UInt8) (l : Bs) : pieces c (c :: l) = [] :: pieces c l := by rw [pieces_cons, if_pos (beq_self_eq_true c)]
theorem pieces_ex (c : UInt8) (l : Bs) : ∃ q qs, pieces c l = q :: qs := by
  cases h : pieces c l with
  | nil => exact (pieces_ne c l h).elim
  | cons q qs => exact ⟨q, qs, rfl⟩
theorem pieces_undo {p : UInt8 → Bool} {s : Bs} (h : madeB p s = true) : pieces 47 (undoB s) = (pieces 47 s).map undoB := by
  refine madeInd (M := fun s => pieces 47 (undoB s) = (pieces 47 s).map undoB) h rfl ?_ ?_
  · intro c r hc hpc _ ih
    rw [undoB_byte hc]
    by_cases h47 : c = 47
    · subst h47
      rw [pieces_sep, pieces_sep, ih]; rfl
    · obtain ⟨q, qs, e⟩ := pieces_ex 47 r
      rw [e] at ih
      rw [pieces_byte h47 e, pieces_byte h47 ih]
      simp only [List.map_cons]
      rw [undoB_byte hc]
  · intro a b r ha hb _ ih
    obtain ⟨q, qs, e⟩ := pieces_ex 47 r
    rw [e] at ih
    rw [undoB_esc (by rw [ha, hb]; rfl), pieces_byte (show (37 : UInt8) ≠ 47 by decide) (pieces_byte (hex_ne ha) (pieces_byte (hex_ne hb) e))]
    simp only [List.map_cons]
    rw [undoB_esc (by rw [ha, hb]; rfl)]
    rcases unesc_cases a b with ⟨x, hx, e1⟩ | ⟨hn, e1⟩
    · rw [e1]
      exact pieces_byte (plain_ne hx).2 ih
    · rw [e1]
      exact pieces_byte (show (37 : UInt8) ≠ 47 by decide) (pieces_byte (hex_ne (upc_hex ha).1) (pieces_byte (hex_ne (upc_hex hb).1) ih))
theorem made_pieces {p : UInt8 → Bool} {s : Bs} (h : madeB p s = true) : ∀ q ∈ pieces 47 s, madeB p q = true := by
  refine madeInd (M := fun s => ∀ q ∈ pieces 47 s, madeB p q = true) h ?_ ?_ ?_
  · intro q hq
    have : q = [] := by simpa [pieces] using hq
    subst this; rfl
  · intro c r hc hpc _ ih q hq
    by_cases h47 : c = 47
    · subst h47
      rw [pieces_sep] at hq
      rcases List.mem_cons.1 hq with rfl | hq
      · rfl
      · exact ih q hq
    · obtain ⟨q0, qs, e⟩ := pieces_ex 47 r
      rw [pieces_byte h47 e] at hq
      rcases List.mem_cons.1 hq with rfl | hq
      · rw [madeB_byte hc, hpc, ih q0 (by rw [e]; simp)]; rfl
      · exact ih q (by rw [e]; exact List.mem_cons_of_mem _ hq)
  · intro a b r ha hb _ ih q hq
    obtain ⟨q0, qs, e⟩ := pieces_ex 47 r
    rw [pieces_byte (show (37 : UInt8) ≠ 47 by decide) (pieces_byte (hex_ne ha) (pieces_byte (hex_ne hb) e))] at hq
    rcases List.mem_cons.1 hq with rfl | hq
    · rw [madeB_esc, ha, hb, ih q0 (by rw [e]; simp)]; rfl
    · exact ih q (by rw [e]; exact List.mem_cons_of_mem _ hq)
theorem made_cat {p : UInt8 → Bool} (hp : p 47 = true) : ∀ l : List Bs, (∀ q ∈ l, madeB p q = true) → madeB p (catB l) = true
  | [], _ => rfl
  | q :: l, h => by
    rw [catB_cons, List.cons_append, madeB_byte (by decide), hp, madeB_app (h q (by simp)), made_cat hp l (fun q hq => h q (List.mem_cons_of_mem _ hq))]; rfl
theorem undo_app {p : UInt8 → Bool} {s t : Bs} (hs : madeB p s = true) : undoB (s ++ t) = undoB s ++ undoB t := by
  refine madeInd (M := fun s => undoB (s ++ t) = undoB s ++ undoB t) hs rfl ?_ ?_
  · intro c r hc hpc _ ih; rw [List.cons_append, undoB_byte hc, undoB_byte hc, ih]; rfl
  · intro a b r ha hb _ ih
    rw [List.cons_append, List.cons_append, List.cons_append, undoB_esc (by rw [ha, hb]; rfl), undoB_esc (by rw [ha, hb]; rfl), ih, List.append_assoc]
theorem undo_cat {p : UInt8 → Bool} : ∀ l : List Bs, (∀ q ∈ l, madeB p q = true ∧ undoB q = q) → undoB (catB l) = catB l
  | [], _ => rfl
  | q :: l, h => by
    obtain ⟨h1, h2⟩ := h q (by simp)
    rw [catB_cons, List.cons_append, undoB_byte (by decide), undo_app h1, h2, undo_cat l (fun q hq => h q (List.mem_cons_of_mem _ hq))]

/-! Dots -/
/-- The pieces of a path without dots. -/
def dotEnd (l : List Bs) : List Bs := bif isDot (l.getLast?.getD []) then dotKept l ++ [[]] else dotKept l
theorem dots_end (s : Bs) : dotsB (47 :: s) = catB (dotEnd (pieces 47 s)) := by
  unfold dotsB dotEnd
  rw [show hasPrefix (47 :: s) [47] = true from by rw [hasPrefix_cons, hasPrefix_nil], cond_true]
  show catB (dotKept (pieces 47 s)) ++ (bif isDot ((pieces 47 s).getLast?.getD []) then [47] else []) = _
  cases isDot ((pieces 47 s).getLast?.getD [])
  · simp
  · rw [cond_true, cond_true, catB_snoc]
theorem kept_in : ∀ (l kept : List Bs), ∀ p ∈ l.foldl dotStep kept, p ∈ kept ∨ p ∈ l ∧ isDot p = false
  | [], kept, p, hp => .inl hp
  | a :: l, kept, p, hp => by
    rw [List.foldl_cons] at hp
    rcases kept_in l _ p hp with h | ⟨h, h'⟩
    · unfold dotStep at h
      by_cases h1 : a = dot1
      · rw [if_pos h1] at h; exact .inl h
      · by_cases h2 : a = dot2
        · rw [if_neg h1, if_pos h2] at h; exact .inl ((List.dropLast_sublist _).subset h)
        · rw [if_neg h1, if_neg h2] at h
          rcases List.mem_append.1 h with h | h
          · exact .inl h
          · obtain rfl : p = a := by simpa using h
            exact .inr ⟨by simp, isDot_no h1 h2⟩
    · exact .inr ⟨List.mem_cons_of_mem _ h, h'⟩
theorem end_in (l : List Bs) : ∀ p ∈ dotEnd l, p = [] ∨ p ∈ l ∧ isDot p = false := by
  intro p hp
  unfold dotEnd at hp
  cases h : isDot (l.getLast?.getD [])
  · rw [h] at hp
    rcases kept_in l [] p hp with h | h
    · cases h
    · exact .inr h
  · rw [h] at hp
    rcases List.mem_append.1 hp with hp | hp
    · rcases kept_in l [] p hp with h | h
      · cases h
      · exact .inr h
    · exact .inl (by simpa using hp)
theorem step_push {kept : List Bs} {x : Bs} (h : isDot x = false) : dotStep kept x = kept ++ [x] := by
  unfold dotStep
  rw [if_neg (fun e => by rw [e] at h; cases h), if_neg (fun e => by rw [e] at h; cases h)]
theorem end_ne {l : List Bs} (hl : l ≠ []) : dotEnd l ≠ [] := by
  unfold dotEnd
  cases h : isDot (l.getLast?.getD [])
  · rw [cond_false]
    have e := (List.dropLast_concat_getLast hl).symm
    have hg : l.getLast?.getD [] = l.getLast hl := by rw [List.getLast?_eq_some_getLast hl]; rfl
    rw [hg] at h
    unfold dotKept
    rw [e, List.foldl_append]
    show dotStep _ _ ≠ []
    rw [step_push h]; simp
  · rw [cond_true]; simp
theorem free_foldl : ∀ (l kept : List Bs), (∀ p ∈ l, isDot p = false) → l.foldl dotStep kept = kept ++ l
  | [], kept, _ => by simp
  | a :: l, kept, h => by
    rw [List.foldl_cons, step_push (h a (by simp)), free_foldl l _ (fun p hp => h p (List.mem_cons_of_mem _ hp))]; simp
/-- Pieces put together are these pieces. -/
theorem pieces_catB : ∀ (l : List Bs), l ≠ [] → (∀ p ∈ l, p.contains 47 = false) → ∃ r, catB l = 47 :: r ∧ pieces 47 r = l
  | [], h, _ => (h rfl).elim
  | [p], _, h => ⟨p, by rw [catB_cons, catB_nil, List.append_nil], by rw [pieces_cut, h p (by simp)]; rfl⟩
  | p :: q :: l, _, h => by
    obtain ⟨r, e, hr⟩ := pieces_catB (q :: l) (by simp) (fun x hx => h x (List.mem_cons_of_mem _ hx))
    refine ⟨p ++ 47 :: r, by rw [catB_cons, e]; rfl, ?_⟩
    have hp := h p (by simp)
    rw [pieces_cut, if_pos (by rw [has_app, has_cons]; simp), upto_app hp, past_app hp, hr]
theorem end_dots {s : Bs} : dotsB (dotsB (47 :: s)) = dotsB (47 :: s) := by
  rw [dots_end]
  have hfree : ∀ p ∈ dotEnd (pieces 47 s), p.contains 47 = false := by
    intro p hp
    rcases end_in _ p hp with rfl | ⟨h, _⟩
    · rfl
    · exact pieces_free 47 s p h
  have hno : ∀ p ∈ dotEnd (pieces 47 s), isDot p = false := by
    intro p hp
    rcases end_in _ p hp with rfl | ⟨_, h⟩
    · rfl
    · exact h
  have hne := end_ne (pieces_ne 47 s)
  generalize dotEnd (pieces 47 s) = K at *
  obtain ⟨r, e, hr⟩ := pieces_catB K hne hfree
  rw [e, dots_end, hr, ← e]
  congr 1
  unfold dotEnd dotKept
  rw [free_foldl K [] hno]
  have hg : K.getLast?.getD [] = K.getLast hne := by rw [List.getLast?_eq_some_getLast hne]; rfl
  rw [hg, hno _ (List.getLast_mem hne)]; simp
theorem cat_dropLast (l : List Bs) : (catB l.dropLast).length ≤ (catB l).length := by
  by_cases h : l = []
  · subst h; exact Nat.le_refl _
  · conv => rhs; rw [← List.dropLast_concat_getLast h, catB_snoc]
    simp
theorem kept_len : ∀ (l kept : List Bs), (catB (l.foldl dotStep kept)).length ≤ (catB kept).length + (catB l).length
  | [], kept => by simp
  | a :: l, kept => by
    rw [List.foldl_cons]
    have ih := kept_len l (dotStep kept a)
    have hs : (catB (dotStep kept a)).length ≤ (catB kept).length + (1 + a.length) := by
      unfold dotStep
      by_cases h1 : a = dot1
      · rw [if_pos h1]; omega
      · by_cases h2 : a = dot2
        · rw [if_neg h1, if_pos h2]; have := cat_dropLast kept; omega
        · rw [if_neg h1, if_neg h2, catB_snoc]; simp; omega
    rw [catB_cons]; simp; omega
theorem end_len (l : List Bs) (hl : l ≠ []) : (catB (dotEnd l)).length ≤ (catB l).length := by
  unfold dotEnd
  cases h : isDot (l.getLast?.getD [])
  · have := kept_len l []
    rw [cond_false]; unfold dotKept; simpa [catB_nil] using this
  · rw [cond_true, catB_snoc]
    have e := (List.dropLast_concat_getLast hl).symm
    have hg : l.getLast?.getD [] = l.getLast hl := by rw [List.getLast?_eq_some_getLast hl]; rfl
    rw [hg] at h
    generalize l.getLast hl = x at *
    generalize l.dropLast = l' at *
    subst e
    have hk := kept_len l' []
    have hs : (catB (dotStep (l'.foldl dotStep []) x)).length ≤ (catB (l'.foldl dotStep [])).length := by
      unfold dotStep
      rcases (isDot_iff x).1 h with rfl | rfl
      · rw [if_pos rfl]; exact Nat.le_refl _
      · rw [if_neg dot12, if_pos rfl]; exact cat_dropLast _
    unfold dotKept
    rw [List.foldl_append, catB_snoc]
    show (catB (dotStep (l'.foldl dotStep []) x) ++ [47]).length ≤ _
    have hx : 1 ≤ x.length := by rcases (isDot_iff x).1 h with rfl | rfl <;> decide
    rw [catB_nil] at hk
    simp at hk ⊢; omega

/-! The normal form -/
theorem plain_path (c : UInt8) (h : plainc c = true) : pathc c = true := by unfold pathc; rw [h]; rfl
theorem plain_query (c : UInt8) (h : plainc c = true) : queryc c = true := by unfold queryc; rw [plain_path c h]; rfl
/-- What is so of a path in its normal form. -/
structure NPath (s t : Bs) : Prop where
  ok : pathOk t = true
  undo : undoB t = t
  dots : dotsB t = t
  len : t.length ≤ s.length
theorem norm_path {s r : Bs} (e : s = 47 :: r) (h : madeB pathc (47 :: r) = true) : NPath s (dotsB (undoB s)) := by
  subst e
  have hr : madeB pathc r = true := by rw [madeB_byte (by decide), Bool.and_eq_true] at h; exact h.2
  have hu : undoB (47 :: r) = 47 :: undoB r := undoB_byte (by decide)
  rw [hu, dots_end]
  have hm := undo_made plain_path hr
  have hpm := made_pieces hm
  have hpu : ∀ q ∈ pieces 47 (undoB r), undoB q = q := by
    have e1 := pieces_undo hm
    rw [undo_idem hr] at e1
    intro q hq
    obtain ⟨i, hi, rfl⟩ := List.mem_iff_getElem.1 hq
    have := congrArg (fun l => l[i]?) e1
    simp only [List.getElem?_map, List.getElem?_eq_getElem hi, Option.map_some, Option.some.injEq] at this
    exact this.symm
  have hall : ∀ q ∈ dotEnd (pieces 47 (undoB r)), madeB pathc q = true ∧ undoB q = q := by
    intro q hq
    rcases end_in _ q hq with rfl | ⟨h, _⟩
    · exact ⟨rfl, rfl⟩
    · exact ⟨hpm q h, hpu q h⟩
  refine ⟨?_, undo_cat _ hall, ?_, ?_⟩
  · unfold pathOk
    rw [made_cat (by decide) _ (fun q hq => (hall q hq).1), Bool.and_true]
    cases hK : dotEnd (pieces 47 (undoB r)) with
    | nil => exact (end_ne (pieces_ne 47 _) hK).elim
    | cons a b => rw [catB_cons, List.cons_append, hasPrefix_cons, hasPrefix_nil]
  · rw [← dots_end]; exact end_dots
  · have h1 := end_len _ (pieces_ne 47 (undoB r))
    rw [pieces_cat] at h1
    have h2 := undo_len hr
    simp at h1 ⊢; omega
theorem lowc_host {c : UInt8} (h : hostc c = true) : hostc (lowc c) = true := by
  unfold hostc at h ⊢
  have h1 := of_decide_eq_true h
  apply decide_eq_true
  by_cases hu : 65 ≤ c.toNat ∧ c.toNat ≤ 90
  · have := lowc_up c (by omega) (by omega); omega
  · have := lowc_other c (by omega); rw [this]; omega
theorem lowc_idem (c : UInt8) : lowc (lowc c) = lowc c := by
  by_cases hu : 65 ≤ c.toNat ∧ c.toNat ≤ 90
  · have := lowc_up c (by omega) (by omega)
    exact lowc_other _ (by omega)
  · have := lowc_other c (by omega); rw [this, this]
theorem lower_idem (l : Bs) : lower (lower l) = lower l := by unfold lower; rw [List.map_map]; congr 1; funext c; exact lowc_idem c
/-- A port that is not the scheme's own. -/
def normPort (u : U) : Int := bif u.scheme == http && u.port == 80 || u.scheme == https && u.port == 443 then 0 else u.port
theorem normB_ok {u : U} (h : okB u = true) : normB u = ⟨u.scheme, lower u.host, normPort u, dotsB (undoB u.path), undoB u.query, u.hq⟩ := by unfold normB; rw [h]; rfl
theorem normPort_cases (u : U) : normPort u = 0 ∨ normPort u = u.port := by
  unfold normPort
  cases (u.scheme == http && u.port == 80 || u.scheme == https && u.port == 443)
  · exact .inr rfl
  · exact .inl rfl
theorem norm_form {u : U} (h : okB u = true) : Form (normB u) ∧ (textB (normB u)).length ≤ (textB u).length := by
  have h' := h
  unfold okB at h
  rw [Bool.and_eq_true, form_iff] at h
  obtain ⟨f, _⟩ := h
  obtain ⟨r, e, hm⟩ := f.path
  have np := norm_path e hm
  rw [normB_ok h']
  refine ⟨⟨f.scheme, by show 1 ≤ (lower u.host).length ∧ _; rw [lower_length]; exact f.hlen, ?_, ?_, pathOk_cons np.ok, ?_, undo_made plain_query f.made⟩, ?_⟩
  · show (lower u.host).all hostc = true
    unfold lower
    rw [List.all_eq_true]
    intro c hc
    obtain ⟨x, hx, rfl⟩ := List.mem_map.1 hc
    exact lowc_host (List.all_eq_true.1 f.host x hx)
  · show 0 ≤ normPort u ∧ normPort u ≤ 65535
    have := f.port
    rcases normPort_cases u with h | h <;> rw [h] <;> omega
  · show u.hq = true ∨ undoB u.query = []
    rcases f.query with h | h
    · exact .inl h
    · exact .inr (by rw [h]; rfl)
  · have l1 : (lower u.host).length = u.host.length := lower_length _
    have l2 := np.len
    have l3 := undo_len f.made
    have l4 : (bif normPort u == 0 then ([] : Bs) else [58] ++ numB (normPort u).toNat).length ≤ (bif u.port == 0 then ([] : Bs) else [58] ++ numB u.port.toNat).length := by
      rcases normPort_cases u with h | h
      · rw [h]; exact Nat.zero_le _
      · rw [h]; exact Nat.le_refl _
    have l5 : (bif u.hq then [63] ++ undoB u.query else ([] : Bs)).length ≤ (bif u.hq then [63] ++ u.query else ([] : Bs)).length := by
      cases u.hq
      · exact Nat.le_refl _
      · simpa using l3
    unfold textB
    simp only [List.length_append]
    omega
theorem norm_ok {u : U} (h : okB u = true) : okB (normB u) = true := by
  obtain ⟨h1, h2⟩ := norm_form h
  unfold okB at h ⊢
  rw [Bool.and_eq_true, decide_eq_true_eq] at h
  rw [(form_iff _).2 h1, decide_eq_true (Nat.le_trans h2 h.2)]; rfl
theorem norm_idem {u : U} (h : okB u = true) : normB (normB u) = normB u := by
  have hf := h
  unfold okB at hf
  rw [Bool.and_eq_true, form_iff] at hf
  obtain ⟨r, e, hm⟩ := hf.1.path
  have np := norm_path e hm
  rw [normB_ok (norm_ok h), normB_ok h]
  show U.mk u.scheme (lower (lower u.host)) (normPort _) (dotsB (undoB (dotsB (undoB u.path)))) (undoB (undoB u.query)) u.hq = _
  rw [lower_idem, np.undo, np.dots, undo_idem hf.1.made]
  congr 1
  unfold normPort
  show (bif u.scheme == http && (bif _ then 0 else u.port) == 80 || u.scheme == https && (bif _ then 0 else u.port) == 443 then 0 else (bif _ then 0 else u.port)) = _
  cases hc : (u.scheme == http && u.port == 80 || u.scheme == https && u.port == 443)
  · simp only [cond_false]; rw [hc]; rfl
  · simp only [cond_true]
    cases (u.scheme == http && (0 : Int) == 80 || u.scheme == https && (0 : Int) == 443) <;> rfl
end Go.Proofs.YtobhceopfjcmnaaGreatDoor
