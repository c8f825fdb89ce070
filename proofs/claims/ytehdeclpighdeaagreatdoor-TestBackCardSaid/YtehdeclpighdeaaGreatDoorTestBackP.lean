/- What a rule of the tests finds stays, if blanks and a bracket stand around the text: the places are moved alone. Plain. The text of a tree: plain. What is parsed of it is that tree, unless it is nested too deep. What was parsed is a tree that has a text. What is parsed of a tree's text is that tree, unless it is nested too deep; what was parsed is a tree that has a text. Plain. -/
import Derived.Test.YtehdeclpighdeaaGreatDoorTestP
namespace Go.Proofs.YtehdeclpighdeaaGreatDoor
open Go.Lib

/-! Prefixes, and scans of a text behind which more stands. -/
theorem pfx1 (c x : UInt8) (r : Bs) : hasPrefix (x :: r) [c] = (c == x) := by simp [hasPrefix, List.isPrefixOf]
theorem pfx_nil (c : UInt8) : hasPrefix [] [c] = false := rfl
theorem pfx_two (c d x y : UInt8) (r : Bs) : hasPrefix (x :: y :: r) [c, d] = (c == x && d == y) := by simp [hasPrefix, List.isPrefixOf]
theorem pfx_app {r p : Bs} (h : hasPrefix r p = true) (q : Bs) : hasPrefix (r ++ q) p = true := by
  unfold hasPrefix at h ⊢
  exact List.isPrefixOf_iff_prefix.2 ((List.isPrefixOf_iff_prefix.1 h).trans (List.prefix_append r q))
theorem pfx1_app {r : Bs} (c : UInt8) (h : r ≠ []) (q : Bs) : hasPrefix (r ++ q) [c] = hasPrefix r [c] := by
  cases r with
  | nil => exact absurd rfl h
  | cons x r => rw [List.cons_append, pfx1, pfx1]
theorem tpfx_app {r p : Bs} (h : hasPrefix r p = true) (q : Bs) : trimPrefix (r ++ q) p = trimPrefix r p ++ q := by
  unfold trimPrefix
  rw [if_pos h, if_pos (pfx_app h q), List.drop_append_of_le_length (pfx_len h)]
theorem scan_app (p : UInt8 → Bool) (q : Bs) : ∀ l : Bs, l.dropWhile p ≠ [] → (l ++ q).takeWhile p = l.takeWhile p ∧ (l ++ q).dropWhile p = l.dropWhile p ++ q
  | [], h => absurd rfl h
  | x :: l, h => by
    rw [List.cons_append, List.takeWhile_cons, List.takeWhile_cons, List.dropWhile_cons, List.dropWhile_cons]
    cases hx : p x
    · exact ⟨rfl, rfl⟩
    · rw [List.dropWhile_cons, if_pos hx] at h
      obtain ⟨h1, h2⟩ := scan_app p q l h
      simp only [if_true]
      exact ⟨by rw [h1], h2⟩
theorem take_app (p : UInt8 → Bool) {q : Bs} (hq : ∀ c r, q = c :: r → p c = false) : ∀ l : Bs, (l ++ q).takeWhile p = l.takeWhile p
  | [] => by
    cases q with
    | nil => rfl
    | cons c r => rw [List.nil_append, List.takeWhile_cons, hq c r rfl]; rfl
  | x :: l => by
    rw [List.cons_append, List.takeWhile_cons, List.takeWhile_cons, take_app p hq l]
theorem has_drop {c : UInt8} {l : Bs} (h : l.contains c = true) : l.dropWhile (· != c) ≠ [] := by
  intro e
  have h1 := lead_lt c l h
  have h2 := congrArg List.length e
  rw [← drop_lead, List.length_drop, List.length_nil] at h2
  omega
theorem upApp {c : UInt8} {l : Bs} (h : l.contains c = true) (q : Bs) : upto c (l ++ q) = upto c l := (scan_app _ q l (has_drop h)).1
theorem pastApp {c : UInt8} {l : Bs} (h : l.contains c = true) (q : Bs) : past c (l ++ q) = past c l ++ q := by
  unfold past
  rw [(scan_app _ q l (has_drop h)).2, List.drop_append_of_le_length]
  have := has_drop h
  cases hd : l.dropWhile (· != c) with
  | nil => exact absurd hd this
  | cons a r => simp
theorem hasApp {c : UInt8} {l : Bs} (h : l.contains c = true) (q : Bs) : (l ++ q).contains c = true := by
  rw [List.contains_eq_mem, decide_eq_true_eq] at h ⊢
  exact List.mem_append_left q h

/-! A use, behind which more stands. -/
theorem keyAt_app {r k r2 : Bs} {hk : Bool} (h0 : r ≠ []) (h : keyAt r = some (k, hk, r2)) (q : Bs) : keyAt (r ++ q) = some (k, hk, r2 ++ q) := by
  unfold keyAt at h ⊢
  rw [pfx1_app 123 h0]
  cases h1 : hasPrefix r [123]
  · rw [h1] at h; cases h; rfl
  · rw [h1] at h
    rw [tpfx_app h1]
    simp only [cond_true] at h ⊢
    cases h2 : (trimPrefix r [123]).contains 125
    · rw [h2] at h; cases h
    · rw [hasApp h2, upApp h2, pastApp h2]
      rw [h2] at h
      cases h3 : vkey (upto 125 (trimPrefix r [123]))
      · rw [h3] at h; cases h
      · rw [h3] at h
        simp only [Bool.and_self, cond_true, Option.some.injEq, Prod.mk.injEq] at h ⊢
        exact ⟨h.1, h.2.1, by rw [h.2.2]⟩
theorem dftAt_app {r d r3 : Bs} {hd : Bool} (h0 : r ≠ []) (h : dftAt r = some (d, hd, r3)) (h3 : r3 ≠ []) (q : Bs) : dftAt (r ++ q) = some (d, hd, r3 ++ q) := by
  unfold dftAt at h ⊢
  rw [pfx1_app 124 h0]
  cases h1 : hasPrefix r [124]
  · rw [h1] at h; cases h; rfl
  · rw [h1] at h
    rw [tpfx_app h1]
    simp only [cond_true] at h ⊢
    generalize trimPrefix r [124] = v at h ⊢
    have hv : v ≠ [] := by
      intro e; subst e; cases h
    unfold dftIn at h ⊢
    rw [pfx1_app 39 hv]
    cases h2 : hasPrefix v [39]
    · rw [h2] at h
      simp only [cond_false] at h ⊢
      cases h4 : (v.takeWhile keyc).isEmpty
      · rw [h4] at h
        simp only [cond_false, Option.some.injEq, Prod.mk.injEq] at h
        have hn : v.dropWhile keyc ≠ [] := by rw [h.2.2]; exact h3
        obtain ⟨e1, e2⟩ := scan_app keyc q v hn
        rw [e1, e2, h4]
        simp only [cond_false, Option.some.injEq, Prod.mk.injEq]
        exact ⟨h.1, h.2.1, by rw [h.2.2]⟩
      · rw [h4] at h; cases h
    · rw [h2] at h
      simp only [cond_true] at h ⊢
      rw [tpfx_app h2]
      cases h4 : (trimPrefix v [39]).contains 39
      · rw [h4] at h; cases h
      · rw [h4] at h
        rw [hasApp h4, upApp h4, pastApp h4]
        simp only [cond_true, Option.some.injEq, Prod.mk.injEq] at h ⊢
        exact ⟨h.1, h.2.1, by rw [h.2.2]⟩
theorem endAt_ne {nm k d r : Bs} {hk hd : Bool} {p : Parts} (h : endAt nm k d hk hd r = some p) : r ≠ [] := by
  intro e; subst e; cases h
theorem endAt_app {nm k d r : Bs} {hk hd : Bool} {p : Parts} (h : endAt nm k d hk hd r = some p) (q : Bs) : endAt nm k d hk hd (r ++ q) = some { p with rest := p.rest ++ q } := by
  have h0 := endAt_ne h
  unfold endAt at h ⊢
  rw [pfx1_app 41 h0]
  cases h1 : hasPrefix r [41]
  · rw [h1] at h; cases h
  · rw [h1] at h
    rw [tpfx_app h1]
    simp only [cond_true, Option.some.injEq] at h ⊢
    subst h; rfl
theorem useAt_app {r : Bs} {p : Parts} (h : useAt r = some p) (q : Bs) : useAt (r ++ q) = some { p with rest := p.rest ++ q } := by
  unfold useAt at h
  cases h1 : vknown (r.takeWhile letc)
  · rw [h1] at h; cases h
  · rw [h1] at h
    simp only [cond_true] at h
    cases h2 : keyAt (r.dropWhile letc) with
    | none => rw [h2] at h; cases h
    | some v =>
      obtain ⟨k, hk, r2⟩ := v
      rw [h2] at h
      change otherAt (r.takeWhile letc) k hk r2 = some p at h
      unfold otherAt at h
      cases h3 : dftAt r2 with
      | none => rw [h3] at h; cases h
      | some v =>
        obtain ⟨d, hd, r3⟩ := v
        rw [h3] at h
        change endAt (r.takeWhile letc) k d hk hd r3 = some p at h
        have n3 := endAt_ne h
        have n2 : r2 ≠ [] := by intro e; subst e; cases h3; exact n3 rfl
        have n1 : r.dropWhile letc ≠ [] := by intro e; rw [e] at h2; cases h2; exact n2 rfl
        obtain ⟨e1, e2⟩ := scan_app letc q r n1
        unfold useAt
        rw [e1, e2, h1, keyAt_app n1 h2 q]
        show otherAt (r.takeWhile letc) k hk (r2 ++ q) = _
        unfold otherAt
        rw [dftAt_app n2 h3 n3 q]
        exact endAt_app h q
theorem partsAt_app {s : Bs} {p : Parts} (h : partsAt s = some p) (q : Bs) : partsAt (s ++ q) = some { p with rest := p.rest ++ q } := by
  obtain ⟨_, hb, _, hu⟩ := partsAt_len h
  have h2 : begins (s ++ q) = true := pfx_app hb q
  rw [partsAt_yes h2, show List.drop 2 (s ++ q) = List.drop 2 s ++ q from List.drop_append_of_le_length (pfx_len hb)]
  exact useAt_app hu q

/-! A text that stands in another one. -/
/-- What may stand behind a text: blanks, and a bracket behind them. -/
structure TailQ (q : Bs) : Prop where
  head : ∀ c r, q = c :: r → blk c = true ∨ c = 41
  past : ∀ c r, q.dropWhile blk = c :: r → c = 41
/-- A text s stands in another one, from a place on. -/
structure In (s s' : Bs) (d : Nat) (q : Bs) : Prop where
  eq : s'.drop d = s ++ q
  le : d ≤ s'.length
  tail : TailQ q
section
variable {s s' q : Bs} {d : Nat}
theorem In.len (h : In s s' d q) : s'.length = d + s.length + q.length := by
  have := congrArg List.length h.eq
  rw [List.length_drop, List.length_append] at this
  have := h.le; omega
theorem In.drop (h : In s s' d q) {i : Nat} (hi : i ≤ s.length) : s'.drop (i + d) = s.drop i ++ q := by
  rw [Nat.add_comm, ← List.drop_drop, h.eq, List.drop_append_of_le_length hi]
theorem rs_in (h : In s s' d q) {i : Nat} (hi : i ≤ s.length) (hr : rs s i ≠ []) : rs s' (i + d) = rs s i ++ q ∧ pa s' (i + d) = pa s i + d := by
  have e : rs s' (i + d) = rs s i ++ q := by
    unfold rs
    rw [h.drop hi]
    exact (scan_app blk q (s.drop i) hr).2
  refine ⟨e, ?_⟩
  have h1 := rs_len s hi
  have h2 := h.len
  have h3 := pa_le s i
  show s'.length - (rs s' (i + d)).length = _
  rw [e, List.length_append]; omega
theorem rs_out (h : In s s' d q) {i : Nat} (hi : i ≤ s.length) (hr : rs s i = []) : rs s' (i + d) = q.dropWhile blk := by
  have hall := (dropWhile_nil_iff blk (s.drop i)).1 hr
  unfold rs
  rw [h.drop hi]
  generalize s.drop i = l at hall
  induction l with
  | nil => rfl
  | cons c r ih =>
    rw [List.all_cons, Bool.and_eq_true] at hall
    rw [List.cons_append, List.dropWhile_cons, if_pos hall.1]
    exact ih hall.2
/-- No sign but the bracket stands behind. -/
theorem pfx_in (h : In s s' d q) {i : Nat} (hi : i ≤ s.length) {c : UInt8} (hc : c ≠ 41) : hasPrefix (rs s' (i + d)) [c] = hasPrefix (rs s i) [c] := by
  rcases Decidable.em (rs s i = []) with hr | hr
  · rw [rs_out h hi hr, hr]
    cases hq : q.dropWhile blk with
    | nil => rfl
    | cons x r =>
      have := h.tail.past x r hq
      subst this
      rw [pfx1, pfx_nil]
      exact beq_eq_false_iff_ne.2 hc
  · rw [(rs_in h hi hr).1, pfx1_app c hr]
theorem pfx2_in (h : In s s' d q) {r : Bs} (hr : r ≠ []) (a : UInt8) : hasPrefix (r ++ q) [a, 61] = hasPrefix r [a, 61] := by
  cases r with
  | nil => exact absurd rfl hr
  | cons x r =>
    cases r with
    | nil =>
      have e : hasPrefix [x] [a, 61] = false := by simp [hasPrefix, List.isPrefixOf]
      rw [e]
      cases q with
      | nil => exact e
      | cons c q =>
        have : c ≠ 61 := by
          rcases h.tail.head c q rfl with hb | rfl
          · intro e; subst e; cases hb
          · decide
        rw [List.singleton_append, pfx_two]
        have : (61 == c) = false := beq_eq_false_iff_ne.2 (Ne.symm this)
        rw [this, Bool.and_false]
    | cons y r => rw [List.cons_append, List.cons_append, pfx_two, pfx_two]
theorem sign_in (h : In s s' d q) {i : Nat} (hi : i ≤ s.length) : signAt (rs s' (i + d)) = signAt (rs s i) := by
  rcases Decidable.em (rs s i = []) with hr | hr
  · rw [rs_out h hi hr, hr]
    cases hq : q.dropWhile blk with
    | nil => rfl
    | cons x r =>
      have := h.tail.past x r hq
      subst this
      unfold signAt
      have e1 : ∀ a, a ≠ 41 → hasPrefix (41 :: r) [a, 61] = false := fun a ha => by
        cases r with
        | nil => simp [hasPrefix, List.isPrefixOf]
        | cons y r =>
          rw [pfx_two]
          have : (a == 41) = false := beq_eq_false_iff_ne.2 ha
          rw [this, Bool.false_and]
      rw [e1 61 (by decide), e1 33 (by decide), e1 60 (by decide), e1 62 (by decide), pfx1, pfx1]
      rfl
  · rw [(rs_in h hi hr).1]
    unfold signAt
    rw [pfx2_in h hr, pfx2_in h hr, pfx2_in h hr, pfx2_in h hr, pfx1_app 60 hr, pfx1_app 62 hr]
theorem TailQ.dig (h : TailQ q) : ∀ c r, q = c :: r → dig c = false := by
  intro c r e
  rcases h.head c r e with hb | rfl
  · unfold blk at hb
    rw [decide_eq_true_eq] at hb
    unfold YtehdeclpighdeaaGreatDoor.dig
    exact decide_eq_false (by omega)
  · decide
end

/-- What was found is found there; or it is nested too deep there. -/
def Moved (low : Prop) (d : Nat) : Got → Got → Prop
  | .good x t, .good x' t' => sameE x x' = true ∧ t' = t + d
  | .good _ _, .wrong _ e => low ∧ e = 3
  | .wrong _ _, _ => True
def MovedF (low : Prop) (s : Bs) (d : Nat) (f f' : Nat → Got) : Prop := ∀ i, i ≤ s.length → Moved low d (f i) (f' (i + d))
def MovedO (low : Prop) (s : Bs) (d : Nat) (o o' : Option (Nat → Got)) : Prop := ∀ f, o = some f → (o' = none ∧ low) ∨ ∃ f', o' = some f' ∧ MovedF low s d f f'
theorem sameTwo (k : Int) (x y x' y' : Ex) (h : sameE x x' = true) (h2 : sameE y y' = true) : sameE (twoE k x y) (twoE k x' y') = true := by
  unfold twoE sameE sameL sameL sameL
  rw [h, h2, useSame_refl]; simp
theorem same_one (k : Int) (x x' : Ex) (h : sameE x x' = true) : sameE (oneE k x) (oneE k x') = true := by
  unfold oneE sameE sameL sameL
  rw [h, useSame_refl]; simp
theorem same_var (n i n' i' : Nat) (p : Parts) (r : Bs) : sameE (varE (useIE n i p)) (varE (useIE n' i' { p with rest := r })) = true := by
  unfold varE sameE sameL useIE useSame
  simp
section
variable {s s' q : Bs} {d : Nat} {low : Prop}
theorem op_moved (h : In s s' d q) {o o' : Option (Nat → Got)} (ho : MovedO low s d o o') (hf : FitsO s o) : MovedF low s d (opG o s) (opG o' s') := by
  intro i hi
  unfold opG
  cases hr : rs s i with
  | nil => exact trivial
  | cons c r =>
    obtain ⟨e1, e2⟩ := rs_in h hi (by rw [hr]; exact List.cons_ne_nil _ _)
    have hn := rs_lt hi hr
    have hlen := h.len
    rw [e1, e2, hr, List.cons_append]
    show Moved low d (bif c == 40 then _ else _) (bif c == 40 then _ else _)
    cases c == 40
    · rw [cond_false, cond_false]
      cases c == 39
      · rw [cond_false, cond_false]
        cases hdg : dig c
        · rw [cond_false, cond_false]
          unfold varG
          cases hp : partsAt (c :: r) with
          | none => exact trivial
          | some p =>
            rw [← List.cons_append, partsAt_app hp]
            refine ⟨same_var _ _ _ _ _ _, ?_⟩
            obtain ⟨h1, _⟩ := partsAt_len hp
            simp only [List.length_cons] at h1
            show s'.length - (p.rest ++ q).length = s.length - p.rest.length + d
            rw [List.length_append]; omega
        · rw [cond_true, cond_true, ← List.cons_append, take_app dig h.tail.dig]
          unfold numG
          cases decide (((c :: r).takeWhile dig).length ≤ 18)
          · exact trivial
          · exact ⟨sameE_refl _, by omega⟩
      · rw [cond_true, cond_true]
        unfold quG
        cases hq : r.contains 39
        · exact trivial
        · rw [hasApp hq, upApp hq]
          exact ⟨sameE_refl _, by omega⟩
    · rw [cond_true, cond_true]
      unfold brG
      cases o with
      | none => exact trivial
      | some f =>
        rcases ho f rfl with ⟨rfl, hl⟩ | ⟨f', rfl, hm⟩
        · show Moved low d (match f (pa s i + 1) with | .wrong p e => .wrong p e | .good x t => bif hasPrefix (rs s t) [41] then .good x (pa s t + 1) else .wrong (pa s t) 15) (.wrong (pa s i + d) 3)
          cases f (pa s i + 1) with
          | wrong p e => exact trivial
          | good x t =>
            show Moved low d (bif hasPrefix (rs s t) [41] then .good x (pa s t + 1) else .wrong (pa s t) 15) (.wrong (pa s i + d) 3)
            cases hasPrefix (rs s t) [41]
            · exact trivial
            · exact ⟨hl, rfl⟩
        · have hm := hm (pa s i + 1) (by omega)
          have hff := hf f rfl (pa s i + 1) (by omega)
          show Moved low d (match f (pa s i + 1) with | .wrong p e => .wrong p e | .good x t => bif hasPrefix (rs s t) [41] then .good x (pa s t + 1) else .wrong (pa s t) 15) (match f' (pa s i + d + 1) with | .wrong p e => .wrong p e | .good x t => bif hasPrefix (rs s' t) [41] then .good x (pa s' t + 1) else .wrong (pa s' t) 15)
          rw [show pa s i + d + 1 = pa s i + 1 + d from by omega]
          cases hx : f (pa s i + 1) with
          | wrong p e => exact trivial
          | good x t =>
            rw [hx] at hm hff
            have hff : pa s i + 1 < t ∧ t ≤ s.length := hff
            show Moved low d (bif hasPrefix (rs s t) [41] then .good x (pa s t + 1) else .wrong (pa s t) 15) _
            cases hp : hasPrefix (rs s t) [41]
            · exact trivial
            · have hne : rs s t ≠ [] := by intro e; rw [e] at hp; cases hp
              obtain ⟨e3, e4⟩ := rs_in h hff.2 hne
              cases hx' : f' (pa s i + 1 + d) with
              | wrong p e => rw [hx'] at hm; exact hm
              | good x' t' =>
                rw [hx'] at hm
                obtain ⟨hs, rfl⟩ := hm
                show Moved low d _ (bif hasPrefix (rs s' (t + d)) [41] then .good x' (pa s' (t + d) + 1) else .wrong (pa s' (t + d)) 15)
                rw [e3, pfx1_app 41 hne, hp, e4]
                exact ⟨hs, by omega⟩
theorem cmp_moved (h : In s s' d q) {o o' : Option (Nat → Got)} (ho : MovedO low s d o o') (hf : FitsO s o) : MovedF low s d (cmpG o s) (cmpG o' s') := by
  intro i hi
  have h1 := op_moved h ho hf i hi
  have h2 := op_fits hf i hi
  unfold cmpG
  cases hx : opG o s i with
  | wrong p e => exact trivial
  | good x t =>
    rw [hx] at h1 h2
    have h2 : i < t ∧ t ≤ s.length := h2
    show Moved low d (cmpOn o s x t) _
    have hg : ∀ p e, opG o' s' (i + d) = .wrong p e → Moved low d (cmpOn o s x t) (.wrong p e) := by
      intro p e hw
      rw [hw] at h1
      have h1 : low ∧ e = 3 := h1
      cases cmpOn o s x t with
      | wrong p e => exact trivial
      | good y t => exact h1
    cases hx' : opG o' s' (i + d) with
    | wrong p e => exact hg p e hx'
    | good x' t' =>
      rw [hx'] at h1
      obtain ⟨hs, rfl⟩ := h1
      show Moved low d _ (cmpOn o' s' x' (t + d))
      unfold cmpOn
      rw [sign_in h h2.2]
      cases hsg : signAt (rs s t) with
      | none => exact ⟨hs, rfl⟩
      | some kn =>
        obtain ⟨k, n⟩ := kn
        obtain ⟨l1, l2, _, _⟩ := sign_len hsg
        have hne : rs s t ≠ [] := by intro e; rw [e] at l1; simp at l1; omega
        obtain ⟨_, e4⟩ := rs_in h h2.2 hne
        have l3 := rs_len s h2.2
        have h7 := op_moved h ho hf (pa s t + n) (by omega)
        show Moved low d (match opG o s (pa s t + n) with | .wrong p e => .wrong p e | .good y t2 => .good (twoE (4 + k) x y) t2) (match opG o' s' (pa s' (t + d) + n) with | .wrong p e => .wrong p e | .good y t2 => .good (twoE (4 + k) x' y) t2)
        rw [e4, show pa s t + d + n = pa s t + n + d from by omega]
        cases hy : opG o s (pa s t + n) with
        | wrong p e => exact trivial
        | good y t2 =>
          rw [hy] at h7
          cases hy' : opG o' s' (pa s t + n + d) with
          | wrong p e => rw [hy'] at h7; exact h7
          | good y' t2' => rw [hy'] at h7; exact ⟨sameTwo _ _ _ _ _ hs h7.1, h7.2⟩
theorem not_moved (h : In s s' d q) {o o' v v' : Option (Nat → Got)} (ho : MovedO low s d o o') (hf : FitsO s o) (hv : MovedO low s d v v') : MovedF low s d (notG o v s) (notG o' v' s') := by
  intro i hi
  unfold notG
  rw [pfx_in h hi (by decide)]
  cases hp : hasPrefix (rs s i) [33]
  · exact cmp_moved h ho hf i hi
  · have hne : rs s i ≠ [] := by intro e; rw [e] at hp; cases hp
    obtain ⟨_, e4⟩ := rs_in h hi hne
    have hl := pfx_lt hi hp
    simp only [List.length_singleton] at hl
    rw [cond_true, cond_true, e4]
    cases v with
    | none => exact trivial
    | some f =>
      rcases hv f rfl with ⟨rfl, hlow⟩ | ⟨f', rfl, hm⟩
      · show Moved low d (match f (pa s i + 1) with | .wrong p e => .wrong p e | .good x t => .good (oneE 3 x) t) (.wrong (pa s i + d) 3)
        cases f (pa s i + 1) with
        | wrong p e => exact trivial
        | good x t => exact ⟨hlow, rfl⟩
      · have hm := hm (pa s i + 1) (by omega)
        show Moved low d (match f (pa s i + 1) with | .wrong p e => .wrong p e | .good x t => .good (oneE 3 x) t) (match f' (pa s i + d + 1) with | .wrong p e => .wrong p e | .good x t => .good (oneE 3 x) t)
        rw [show pa s i + d + 1 = pa s i + 1 + d from by omega]
        cases hx : f (pa s i + 1) with
        | wrong p e => exact trivial
        | good x t =>
          rw [hx] at hm
          cases hx' : f' (pa s i + 1 + d) with
          | wrong p e => rw [hx'] at hm; exact hm
          | good x' t' => rw [hx'] at hm; exact ⟨same_one _ _ _ hm.1, hm.2⟩
theorem rowOn_moved (h : In s s' d q) {one one' : Nat → Got} (ho : MovedF low s d one one') (hf : FitsF s one) (kind : Int) {sign : UInt8} (hs : sign ≠ 41) : ∀ (n n' : Nat) (x x' : Ex) (t : Nat), sameE x x' = true → t ≤ s.length → s.length < t + n → n ≤ n' → Moved low d (rowOn one kind sign s n x t) (rowOn one' kind sign s' n' x' (t + d))
  | 0, _, _, _, t, _, h1, h2, _ => by omega
  | n + 1, 0, _, _, _, _, _, _, h3 => by omega
  | n + 1, n' + 1, x, x', t, h0, h1, h2, h3 => by
    unfold rowOn
    rw [pfx_in h h1 hs]
    cases hp : hasPrefix (rs s t) [sign]
    · exact ⟨h0, rfl⟩
    · have hne : rs s t ≠ [] := by intro e; rw [e] at hp; cases hp
      obtain ⟨_, e4⟩ := rs_in h h1 hne
      have hl := pfx_lt h1 hp
      simp only [List.length_singleton] at hl
      have hg := pa_ge s h1
      have hm := ho (pa s t + 1) (by omega)
      have hff := hf (pa s t + 1) (by omega)
      rw [cond_true, cond_true, e4, show pa s t + d + 1 = pa s t + 1 + d from by omega]
      cases hy : one (pa s t + 1) with
      | wrong p e => exact trivial
      | good y t2 =>
        rw [hy] at hm hff
        have hff : pa s t + 1 < t2 ∧ t2 ≤ s.length := hff
        cases hy' : one' (pa s t + 1 + d) with
        | wrong p e =>
          rw [hy'] at hm
          have hm : low ∧ e = 3 := hm
          show Moved low d (rowOn one kind sign s n (twoE kind x y) t2) (.wrong p e)
          cases rowOn one kind sign s n (twoE kind x y) t2 with
          | wrong p e => exact trivial
          | good y t => exact hm
        | good y' t2' =>
          rw [hy'] at hm
          obtain ⟨hsm, rfl⟩ := hm
          exact rowOn_moved h ho hf kind hs n n' _ _ t2 (sameTwo _ _ _ _ _ h0 hsm) hff.2 (by omega) (by omega)
theorem row_moved (h : In s s' d q) {one one' : Nat → Got} (ho : MovedF low s d one one') (hf : FitsF s one) (kind : Int) {sign : UInt8} (hs : sign ≠ 41) : MovedF low s d (rowG one kind sign s) (rowG one' kind sign s') := by
  intro i hi
  have h1 := ho i hi
  have h2 := hf i hi
  have hl := h.len
  unfold rowG
  cases hx : one i with
  | wrong p e => exact trivial
  | good x t =>
    rw [hx] at h1 h2
    have h2 : i < t ∧ t ≤ s.length := h2
    cases hx' : one' (i + d) with
    | wrong p e =>
      rw [hx'] at h1
      have h1 : low ∧ e = 3 := h1
      show Moved low d (rowOn one kind sign s (s.length + 1) x t) (.wrong p e)
      cases rowOn one kind sign s (s.length + 1) x t with
      | wrong p e => exact trivial
      | good y t => exact h1
    | good x' t' =>
      rw [hx'] at h1
      obtain ⟨hsm, rfl⟩ := h1
      exact rowOn_moved h ho hf kind hs _ _ _ _ t hsm h2.2 (by omega) (by omega)
theorem or_moved (h : In s s' d q) {o o' v v' : Option (Nat → Got)} (ho : MovedO low s d o o') (hv : MovedO low s d v v') (hf : FitsO s o) (hfv : FitsO s v) : MovedF low s d (orG o v s) (orG o' v' s') :=
  row_moved h (row_moved h (not_moved h ho hf hv) (not_fits hf hfv) 2 (by decide)) (row_fits (not_fits hf hfv) 2 38) 1 (by decide)
end
theorem lev_moved {s s' q : Bs} {d : Nat} (h : In s s' d q) : ∀ k k', k' ≤ k → MovedF (k' < k) s d (orK s k) (orK s' k') ∧ MovedF (k' < k) s d (notK s k) (notK s' k')
  | 0, 0, _ => by
    have h0 : ∀ low, MovedO low s d none none := fun _ f e => by cases e
    have hf : FitsO s none := fun f e => by cases e
    exact ⟨or_moved h (h0 _) (h0 _) hf hf, not_moved h (h0 _) hf (h0 _)⟩
  | 0, _ + 1, hk => by omega
  | k + 1, 0, _ => by
    have h0 : ∀ f : Nat → Got, MovedO (0 < k + 1) s d (some f) none := fun f g e => .inl ⟨rfl, by omega⟩
    have hf1 := fitsO_some (lev_fits s k).1
    have hf2 := fitsO_some (lev_fits s k).2
    exact ⟨or_moved h (h0 _) (h0 _) hf1 hf2, not_moved h (h0 _) hf1 (h0 _)⟩
  | k + 1, k' + 1, hk => by
    obtain ⟨h1, h2⟩ := lev_moved h k k' (by omega)
    have e : (k' + 1 < k + 1) = (k' < k) := by rw [Nat.add_lt_add_iff_right]
    rw [e]
    have m1 : MovedO (k' < k) s d (some (orK s k)) (some (orK s' k')) := fun f e => by cases e; exact .inr ⟨_, rfl, h1⟩
    have m2 : MovedO (k' < k) s d (some (notK s k)) (some (notK s' k')) := fun f e => by cases e; exact .inr ⟨_, rfl, h2⟩
    have hf1 := fitsO_some (lev_fits s k).1
    have hf2 := fitsO_some (lev_fits s k).2
    exact ⟨or_moved h m1 m2 hf1 hf2, not_moved h m1 hf1 m2⟩

/-! Blanks ahead. -/
theorem pa_rs {s : Bs} {i j : Nat} (h : rs s i = rs s j) : pa s i = pa s j := by unfold pa; rw [h]
theorem row_start {one : Nat → Got} {i j : Nat} (h : one i = one j) (kind : Int) (sign : UInt8) (s : Bs) : rowG one kind sign s i = rowG one kind sign s j := by unfold rowG; rw [h]
theorem not_start {s : Bs} {i j : Nat} (h : rs s i = rs s j) (o v : Option (Nat → Got)) : notG o v s i = notG o v s j := by
  have e : cmpG o s i = cmpG o s j := by unfold cmpG opG; rw [h, pa_rs h]
  unfold notG
  rw [h, pa_rs h, e]
theorem or_start {s : Bs} {i j : Nat} (h : rs s i = rs s j) (k : Nat) : orK s k i = orK s k j := by
  rw [orK_eq]
  refine row_start ?_ 1 124 s
  unfold andK
  refine row_start ?_ 2 38 s
  rw [notK_eq]; exact not_start h _ _
theorem testB_good {s : Bs} (h : (testB s).2.2 = 0) : ∃ x t, orK s 16 0 = .good x t ∧ t ≤ s.length ∧ rs s t = [] ∧ testB s = (x, 0, 0) := by
  have hf := (lev_fits s 16).1 0 (Nat.zero_le _)
  unfold testB at h ⊢
  cases ho : orK s 16 0 with
  | wrong p e =>
    rw [ho] at h hf
    have h : e = 0 := h
    have hf : p ≤ s.length ∧ (e = 3 ∨ e = 15) := hf
    omega
  | good x t =>
    rw [ho] at h hf
    have hf : 0 < t ∧ t ≤ s.length := hf
    change (bif decide (pa s t = s.length) then (x, 0, 0) else (noEx, pa s t, 15) : Ex × Nat × Int).2.2 = 0 at h
    refine ⟨x, t, rfl, hf.2, ?_, ?_⟩
    · cases hd : decide (pa s t = s.length)
      · rw [hd] at h; cases h
      · rw [decide_eq_true_eq] at hd
        have := rs_len s hf.2
        exact List.length_eq_zero_iff.1 (by omega)
    · show (bif decide (pa s t = s.length) then (x, 0, 0) else (noEx, pa s t, 15) : Ex × Nat × Int) = _
      cases hd : decide (pa s t = s.length)
      · rw [hd] at h; cases h
      · rfl
theorem testB_of {s : Bs} {x : Ex} {t : Nat} (h : orK s 16 0 = .good x t) (hr : rs s t = []) : testB s = (x, 0, 0) := by
  unfold testB
  rw [h]
  show (bif decide (pa s t = s.length) then (x, 0, 0) else (noEx, pa s t, 15) : Ex × Nat × Int) = _
  rw [decide_eq_true (show pa s t = s.length by unfold pa; rw [hr]; rfl)]; rfl
theorem dw_blanks {p : UInt8 → Bool} : ∀ {l : Bs}, l.all p = true → ∀ r, (l ++ r).dropWhile p = r.dropWhile p
  | [], _, _ => rfl
  | c :: l, h, r => by
    rw [List.all_cons, Bool.and_eq_true] at h
    rw [List.cons_append, List.dropWhile_cons, if_pos h.1]; exact dw_blanks h.2 r
/-- Blanks at both ends make no difference to a tree. -/
theorem blanks_around {s gap : Bs} (hg : gap.all blk = true) (h : (testB s).2.2 = 0) : ∃ y, testB (gap ++ s ++ gap) = (y, 0, 0) ∧ sameE (testB s).1 y = true := by
  obtain ⟨x, t, h1, h2, h3, h4⟩ := testB_good h
  have hd : gap.dropWhile blk = [] := (dropWhile_nil_iff blk gap).2 hg
  have hI : In s (gap ++ s ++ gap) gap.length gap := by
    refine ⟨by rw [List.append_assoc, List.drop_left], by simp only [List.length_append]; omega, ⟨fun c r e => .inl ?_, fun c r e => by rw [hd] at e; cases e⟩⟩
    subst e
    rw [List.all_cons, Bool.and_eq_true] at hg; exact hg.1
  have hm := (lev_moved hI 16 16 (Nat.le_refl _)).1 0 (Nat.zero_le _)
  have hst : orK (gap ++ s ++ gap) 16 0 = orK (gap ++ s ++ gap) 16 (0 + gap.length) := by
    refine or_start ?_ 16
    unfold rs
    rw [List.drop_zero, Nat.zero_add, List.append_assoc, List.drop_left, dw_blanks hg]
  rw [h1] at hm
  cases ho : orK (gap ++ s ++ gap) 16 (0 + gap.length) with
  | wrong p e =>
    rw [ho] at hm
    have hm : (16 < 16) ∧ e = 3 := hm
    omega
  | good y t' =>
    rw [ho] at hm
    obtain ⟨hs, rfl⟩ := hm
    refine ⟨y, testB_of (hst.trans ho) ?_, by rw [h4]; exact hs⟩
    rw [rs_out hI h2 h3]; exact hd
/-- Brackets around a condition make no difference to its tree, unless it is nested too deep then. -/
theorem brackets_around {s gap : Bs} (hg : gap.all blk = true) (h : (testB s).2.2 = 0) : (∃ y, testB (gap ++ [40] ++ s ++ gap ++ [41]) = (y, 0, 0) ∧ sameE (testB s).1 y = true) ∨ ∃ p, testB (gap ++ [40] ++ s ++ gap ++ [41]) = (noEx, p, 3) := by
  obtain ⟨x, t, h1, h2, h3, h4⟩ := testB_good h
  have hw : gap ++ [40] ++ s ++ gap ++ [41] = (gap ++ [40]) ++ (s ++ (gap ++ [41])) := by simp [List.append_assoc]
  rw [hw]
  obtain ⟨S, hS⟩ : ∃ S, (gap ++ [40]) ++ (s ++ (gap ++ [41])) = S := ⟨_, rfl⟩
  rw [hS]
  have hSl : S.length = gap.length + 1 + s.length + gap.length + 1 := by rw [← hS]; simp only [List.length_append, List.length_singleton]; omega
  have hd : (gap ++ [41]).dropWhile blk = [41] := by rw [dw_blanks hg]; rfl
  have hI : In s S (gap.length + 1) (gap ++ [41]) := by
    refine ⟨?_, by omega, ⟨fun c r e => ?_, fun c r e => by rw [hd] at e; cases e; rfl⟩⟩
    · rw [← hS, List.drop_left' (by simp)]
    · cases gap with
      | nil => cases e; exact .inr rfl
      | cons a g =>
        rw [List.cons_append] at e
        cases e
        rw [List.all_cons, Bool.and_eq_true] at hg; exact .inl hg.1
  have hm := (lev_moved hI 16 15 (by omega)).1 0 (Nat.zero_le _)
  have hrs : rs S 0 = 40 :: (s ++ (gap ++ [41])) := by
    unfold rs
    rw [List.drop_zero, ← hS, List.append_assoc, dw_blanks hg]; rfl
  have hpa : pa S 0 = gap.length := by
    unfold pa
    rw [hrs, hSl]
    simp only [List.length_cons, List.length_append, List.length_nil]; omega
  rw [h1] at hm
  have hop : opG (some (orK S 15)) S 0 = brG (some (orK S 15)) S gap.length := by
    unfold opG
    rw [hrs, hpa]; rfl
  rw [show 0 + (gap.length + 1) = gap.length + 1 from by omega] at hm
  cases ho : orK S 15 (gap.length + 1) with
  | wrong p e =>
    rw [ho] at hm
    have hm : (15 < 16) ∧ e = 3 := hm
    obtain ⟨_, rfl⟩ := hm
    right
    have hb : brG (some (orK S 15)) S gap.length = .wrong p 3 := by
      show (match orK S 15 (gap.length + 1) with | .wrong p e => .wrong p e | .good x t => bif hasPrefix (rs S t) [41] then .good x (pa S t + 1) else .wrong (pa S t) 15 : Got) = _
      rw [ho]
    have hc : cmpG (some (orK S 15)) S 0 = .wrong p 3 := by unfold cmpG; rw [hop, hb]
    have hn : notK S 16 0 = .wrong p 3 := by
      rw [notK_eq]
      unfold notG
      rw [hrs, pfx1]
      exact hc
    have ha : andK S 16 0 = .wrong p 3 := by unfold andK rowG; rw [hn]
    have hor : orK S 16 0 = .wrong p 3 := by rw [orK_eq]; unfold rowG; rw [ha]
    exact ⟨p, by unfold testB; rw [hor]⟩
  | good y t' =>
    rw [ho] at hm
    obtain ⟨hs, rfl⟩ := hm
    left
    have hr := rs_out hI h2 h3
    rw [hd] at hr
    have hpt : pa S (t + (gap.length + 1)) + 1 = S.length := by
      unfold pa
      rw [hr, List.length_singleton, hSl]; omega
    have hb : brG (some (orK S 15)) S gap.length = .good y S.length := by
      show (match orK S 15 (gap.length + 1) with | .wrong p e => .wrong p e | .good x t => bif hasPrefix (rs S t) [41] then .good x (pa S t + 1) else .wrong (pa S t) 15 : Got) = _
      rw [ho]
      show (bif hasPrefix (rs S (t + (gap.length + 1))) [41] then .good y (pa S (t + (gap.length + 1)) + 1) else .wrong (pa S (t + (gap.length + 1))) 15 : Got) = _
      rw [hr, hpt]; rfl
    have hend : rs S S.length = [] := by unfold rs; rw [List.drop_length]; rfl
    have hc : cmpG (some (orK S 15)) S 0 = .good y S.length := by
      unfold cmpG
      rw [hop, hb]
      show cmpOn _ S y S.length = _
      unfold cmpOn
      rw [hend]; rfl
    have hn : notK S 16 0 = .good y S.length := by
      rw [notK_eq]
      unfold notG
      rw [hrs, pfx1]
      exact hc
    have hro : ∀ (one : Nat → Got) (k : Int) (g : UInt8) (n : Nat), rowOn one k g S n y S.length = .good y S.length := fun one k g n => by
      cases n with
      | zero => rfl
      | succ n => unfold rowOn; rw [hend, pfx_nil]; rfl
    have ha : andK S 16 0 = .good y S.length := by unfold andK rowG; rw [hn]; exact hro _ _ _ _
    have hor : orK S 16 0 = .good y S.length := by rw [orK_eq]; unfold rowG; rw [ha]; exact hro _ _ _ _
    exact ⟨y, testB_of hor hend, by rw [h4]; exact hs⟩
end Go.Proofs.YtehdeclpighdeaaGreatDoor

namespace Go.Proofs.YtehdeclpighdeaaGreatDoor
open Go.Lib

/-- A use's text. -/
def usedB (u : UseI) : Bs :=
  let s0 := [36, 40] ++ u.name
  let s1 := bif u.hk then s0 ++ (([123] ++ u.key) ++ [125]) else s0
  let s2 := bif u.hd then s1 ++ (([124, 39] ++ u.dft) ++ [39]) else s1
  s2 ++ [41]
def alikeU (v : Use) (u : UseI) : Bool := v.name == u.name && v.key == u.key && v.dft == u.dft && v.hk == u.hk && v.hd == u.hd
/-- A use that stands in its own text. -/
def useOk (u : UseI) : Bool := match vfind (usedB u) 0 with
  | none => false
  | some v => decide (v.src = 0) && decide (v.to = (usedB u).length) && alikeU v u
def numOk (t : Bs) : Bool := !t.isEmpty && decide (t.length ≤ 18) && t.all dig
/-- A tree's node, but for its kids. -/
def mayN (k : Int) (t : Bs) (u : UseI) (n : Nat) : Bool :=
  if k = 3 then decide (n = 1) && t.isEmpty && useEq u noUseI
  else if k = 10 then !hasB 39 t && (decide (n = 0) && useEq u noUseI)
  else if k = 11 then numOk t && (decide (n = 0) && useEq u noUseI)
  else if k = 12 then useOk u && (decide (n = 0) && t.isEmpty)
  else decide (1 ≤ k ∧ k ≤ 12) && (decide (n = 2) && t.isEmpty && useEq u noUseI)
def kidT (m : Int) (k : Int) (s : Bs) : Bs := bif decide (m ≤ k ∧ k ≤ 12) then s else ([40] ++ s) ++ [41]
def twoT (sg : Bs) (m1 m2 : Int) : List (Int × Bs × Bool) → Bs × Bool
  | [(k1, a, i1), (k2, b, i2)] => ((((kidT m1 k1 a ++ [32]) ++ sg) ++ [32]) ++ kidT m2 k2 b, i1 && i2)
  | _ => ([], false)
def oneT : List (Int × Bs × Bool) → Bs × Bool
  | [(k1, a, i1)] => ([33] ++ kidT 3 k1 a, i1)
  | _ => ([], false)
def signB (n : Nat) : Bs := match n with | 0 => [61, 61] | 1 => [33, 61] | 2 => [60] | 3 => [60, 61] | 4 => [62] | _ => [62, 61]
def nodeT (k : Int) (t : Bs) (u : UseI) (L : List (Int × Bs × Bool)) : Bs × Bool :=
  if k = 1 then twoT [124] 1 2 L else if k = 2 then twoT [38] 2 3 L else if k = 3 then oneT L
  else if k = 10 then (([39] ++ t) ++ [39], true) else if k = 11 then (t, true) else if k = 12 then (usedB u, true)
  else twoT (signB (k - 4).toNat) 10 10 L
mutual
/-- A tree's text, and whether it is one. -/
def textE : Ex → Bs × Bool
  | .mk k t u l => bif mayN k t u l.length then nodeT k t u (textL l) else ([], false)
def textL : List Ex → List (Int × Bs × Bool)
  | [] => []
  | x :: r => (x.kind, textE x) :: textL r
end
mutual
def mayE : Ex → Bool
  | .mk k t u l => mayN k t u l.length && mayL l
def mayL : List Ex → Bool
  | [] => true
  | x :: r => mayE x && mayL r
end
mutual
def weightE : Ex → Nat
  | .mk _ t u l => 1 + t.length + u.name.length + u.key.length + u.dft.length + weightL l
def weightL : List Ex → Nat
  | [] => 0
  | x :: r => weightE x + weightL r
end
/-- What Put answers. -/
def putE (x : Ex) : Bs × Int := bif mayE x then (bif decide ((testB (textE x).1).2.2 = 0) then ((textE x).1, 0) else ([], (testB (textE x).1).2.2)) else ([], 15)

/-! Shapes of nodes that may be. -/
theorem may_kinds {k : Int} {t : Bs} {u : UseI} {n : Nat} (h : mayN k t u n = true) :
    (k = 3 ∧ n = 1 ∧ t = [] ∧ useEq u noUseI = true) ∨ (k = 10 ∧ n = 0 ∧ hasB 39 t = false ∧ useEq u noUseI = true) ∨ (k = 11 ∧ n = 0 ∧ numOk t = true ∧ useEq u noUseI = true) ∨ (k = 12 ∧ n = 0 ∧ t = [] ∧ useOk u = true) ∨ ((k = 1 ∨ k = 2 ∨ (4 ≤ k ∧ k ≤ 9)) ∧ n = 2 ∧ t = [] ∧ useEq u noUseI = true) := by
  unfold mayN at h
  by_cases h3 : k = 3
  · rw [if_pos h3] at h
    simp only [Bool.and_eq_true, decide_eq_true_eq, List.isEmpty_iff] at h
    exact .inl ⟨h3, h.1.1, h.1.2, h.2⟩
  · rw [if_neg h3] at h
    by_cases h10 : k = 10
    · rw [if_pos h10] at h
      simp only [Bool.and_eq_true, decide_eq_true_eq, Bool.not_eq_true'] at h
      exact .inr (.inl ⟨h10, h.2.1, h.1, h.2.2⟩)
    · rw [if_neg h10] at h
      by_cases h11 : k = 11
      · rw [if_pos h11] at h
        simp only [Bool.and_eq_true, decide_eq_true_eq] at h
        exact .inr (.inr (.inl ⟨h11, h.2.1, h.1, h.2.2⟩))
      · rw [if_neg h11] at h
        by_cases h12 : k = 12
        · rw [if_pos h12] at h
          simp only [Bool.and_eq_true, decide_eq_true_eq, List.isEmpty_iff] at h
          exact .inr (.inr (.inr (.inl ⟨h12, h.2.1, h.2.2, h.1⟩)))
        · rw [if_neg h12] at h
          simp only [Bool.and_eq_true, decide_eq_true_eq, List.isEmpty_iff] at h
          exact .inr (.inr (.inr (.inr ⟨by omega, h.2.1.1, h.2.1.2, h.2.2⟩)))
theorem may_kind {x : Ex} (h : mayE x = true) : 1 ≤ x.kind ∧ x.kind ≤ 12 := by
  obtain ⟨k, t, u, l⟩ := x
  unfold mayE at h
  rw [Bool.and_eq_true] at h
  show 1 ≤ k ∧ k ≤ 12
  rcases may_kinds h.1 with h | h | h | h | h <;> omega
theorem may_mem : ∀ {l : List Ex} {x : Ex}, mayL l = true → x ∈ l → mayE x = true
  | [], _, _, h => by cases h
  | y :: r, x, h, hx => by
    unfold mayL at h
    rw [Bool.and_eq_true] at h
    rcases List.mem_cons.1 hx with e | hx
    · rw [e]; exact h.1
    · exact may_mem h.2 hx
theorem len_one {l : List Ex} (h : l.length = 1) : ∃ a, l = [a] := List.length_eq_one_iff.1 h
theorem len_two {l : List Ex} (h : l.length = 2) : ∃ a b, l = [a, b] := by
  match l, h with
  | [a, b], _ => exact ⟨a, b, rfl⟩
theorem textL_nil : textL [] = [] := by rw [textL]
theorem textL_one (a : Ex) : textL [a] = [(a.kind, textE a)] := by rw [textL, textL]
theorem textL_two (a b : Ex) : textL [a, b] = [(a.kind, textE a), (b.kind, textE b)] := by rw [textL, textL, textL]
theorem mayL_nil : mayL [] = true := by rw [mayL]
theorem mayL_one (a : Ex) : mayL [a] = mayE a := by rw [mayL, mayL, Bool.and_true]
theorem mayL_two (a b : Ex) : mayL [a, b] = (mayE a && mayE b) := by rw [mayL, mayL, mayL, Bool.and_true]
theorem nodeT_1 (t : Bs) (u : UseI) (L) : nodeT 1 t u L = twoT [124] 1 2 L := rfl
theorem nodeT_2 (t : Bs) (u : UseI) (L) : nodeT 2 t u L = twoT [38] 2 3 L := rfl
theorem nodeT_3 (t : Bs) (u : UseI) (L) : nodeT 3 t u L = oneT L := rfl
theorem nodeT_10 (t : Bs) (u : UseI) (L) : nodeT 10 t u L = (([39] ++ t) ++ [39], true) := rfl
theorem nodeT_11 (t : Bs) (u : UseI) (L) : nodeT 11 t u L = (t, true) := rfl
theorem nodeT_12 (t : Bs) (u : UseI) (L) : nodeT 12 t u L = (usedB u, true) := rfl
theorem nodeT_cmp {k : Int} (h : 4 ≤ k) (h9 : k ≤ 9) (t : Bs) (u : UseI) (L) : nodeT k t u L = twoT (signB (k - 4).toNat) 10 10 L := by
  unfold nodeT
  rw [if_neg (by omega), if_neg (by omega), if_neg (by omega), if_neg (by omega), if_neg (by omega), if_neg (by omega)]
theorem two_two (sg : Bs) (m1 m2 : Int) (a b : Ex) : twoT sg m1 m2 (textL [a, b]) = ((((kidT m1 a.kind (textE a).1 ++ [32]) ++ sg) ++ [32]) ++ kidT m2 b.kind (textE b).1, (textE a).2 && (textE b).2) := by
  rw [textL_two]; rfl
theorem textE_mk (k : Int) (t : Bs) (u : UseI) (l : List Ex) : textE (.mk k t u l) = bif mayN k t u l.length then nodeT k t u (textL l) else ([], false) := by rw [textE]
theorem mayE_mk (k : Int) (t : Bs) (u : UseI) (l : List Ex) : mayE (.mk k t u l) = (mayN k t u l.length && mayL l) := by rw [mayE]
/-- Whether it is one: each node may be. -/
theorem text_may (x : Ex) : (textE x).2 = mayE x := by
  refine Ex.ind (P := fun x => (textE x).2 = mayE x) (fun k t u l ih => ?_) x
  rw [textE_mk, mayE_mk]
  cases hm : mayN k t u l.length
  · rfl
  · rw [cond_true, Bool.true_and]
    rcases may_kinds hm with ⟨rfl, hn, _⟩ | ⟨rfl, hn, _⟩ | ⟨rfl, hn, _⟩ | ⟨rfl, hn, _⟩ | ⟨hk, hn, _⟩
    · obtain ⟨a, rfl⟩ := len_one hn
      rw [nodeT_3, textL_one, mayL_one]
      exact ih a (by simp)
    · rw [List.length_eq_zero_iff.1 hn, mayL_nil]; rfl
    · rw [List.length_eq_zero_iff.1 hn, mayL_nil]; rfl
    · rw [List.length_eq_zero_iff.1 hn, mayL_nil]; rfl
    · obtain ⟨a, b, rfl⟩ := len_two hn
      have e : ∀ sg m1 m2, (twoT sg m1 m2 (textL [a, b])).2 = mayL [a, b] := fun sg m1 m2 => by
        rw [two_two, mayL_two, ← ih a (by simp), ← ih b (by simp)]
      rcases hk with rfl | rfl | ⟨h4, h9⟩
      · exact e _ _ _
      · exact e _ _ _
      · rw [nodeT_cmp h4 h9]; exact e _ _ _
theorem used_len (u : UseI) : (usedB u).length ≤ 8 + u.name.length + u.key.length + u.dft.length := by
  unfold usedB
  cases u.hk <;> cases u.hd <;> simp only [cond_true, cond_false, List.length_append, List.length_cons, List.length_nil] <;> omega
theorem kid_len (m k : Int) (s : Bs) : (kidT m k s).length ≤ s.length + 2 := by
  unfold kidT
  cases decide (m ≤ k ∧ k ≤ 12) <;> simp only [cond_true, cond_false, List.length_append, List.length_cons, List.length_nil] <;> omega
theorem signB_len (n : Nat) : (signB n).length ≤ 2 := by unfold signB; split <;> decide
/-- A text is no longer than twenty times the tree's weight. -/
theorem textE_len (x : Ex) : (textE x).1.length ≤ 20 * weightE x := by
  refine Ex.ind (P := fun x => (textE x).1.length ≤ 20 * weightE x) (fun k t u l ih => ?_) x
  rw [textE_mk, weightE]
  cases hm : mayN k t u l.length
  · exact Nat.zero_le _
  · rw [cond_true]
    rcases may_kinds hm with ⟨rfl, hn, _⟩ | ⟨rfl, hn, _⟩ | ⟨rfl, hn, _⟩ | ⟨rfl, hn, _⟩ | ⟨hk, hn, _⟩
    · obtain ⟨a, rfl⟩ := len_one hn
      have := ih a (by simp)
      have h2 := kid_len 3 a.kind (textE a).1
      rw [nodeT_3, textL_one]
      show ([33] ++ kidT 3 a.kind (textE a).1).length ≤ _
      simp only [weightL, List.length_append, List.length_singleton]; omega
    · rw [nodeT_10]; simp only [List.length_append, List.length_singleton]; omega
    · rw [nodeT_11]; show t.length ≤ _; omega
    · rw [nodeT_12]; have := used_len u; show (usedB u).length ≤ _; omega
    · obtain ⟨a, b, rfl⟩ := len_two hn
      have e : ∀ sg m1 m2, sg.length ≤ 2 → (twoT sg m1 m2 (textL [a, b])).1.length ≤ 20 * (1 + t.length + u.name.length + u.key.length + u.dft.length + weightL [a, b]) := fun sg m1 m2 hs => by
        have h1 := ih a (by simp)
        have h2 := ih b (by simp)
        have h3 := kid_len m1 a.kind (textE a).1
        have h4 := kid_len m2 b.kind (textE b).1
        rw [two_two]
        simp only [weightL, List.length_append, List.length_singleton]; omega
      rcases hk with rfl | rfl | ⟨h4, h9⟩
      · exact e _ _ _ (by decide)
      · exact e _ _ _ (by decide)
      · rw [nodeT_cmp h4 h9]; exact e _ _ _ (signB_len _)

/-! A use's own text. -/
theorem span_all {p : UInt8 → Bool} {q : Bs} (hq : ∀ c r, q = c :: r → p c = false) : ∀ {l : Bs}, l.all p = true → (l ++ q).takeWhile p = l ∧ (l ++ q).dropWhile p = q
  | [], _ => by
    cases q with
    | nil => exact ⟨rfl, rfl⟩
    | cons c r => rw [List.nil_append, List.takeWhile_cons, List.dropWhile_cons, hq c r rfl]; exact ⟨rfl, rfl⟩
  | x :: l, h => by
    rw [List.all_cons, Bool.and_eq_true] at h
    obtain ⟨h1, h2⟩ := span_all hq h.2
    rw [List.cons_append, List.takeWhile_cons, List.dropWhile_cons, if_pos h.1, if_pos h.1]
    exact ⟨by rw [h1], h2⟩
theorem all_take (p : UInt8 → Bool) : ∀ l : Bs, (l.takeWhile p).all p = true
  | [] => rfl
  | x :: l => by
    rw [List.takeWhile_cons]
    cases h : p x
    · rfl
    · rw [if_pos rfl, List.all_cons, h, all_take p l]; rfl
theorem hasB_upto (c : UInt8) (l : Bs) : hasB c (upto c l) = false := by
  have h := all_take (· != c) l
  unfold hasB
  rw [List.contains_eq_mem, decide_eq_false_iff_not]
  intro hm
  have := List.all_eq_true.1 h c hm
  simp at this
theorem upto_of {c : UInt8} {l : Bs} (h : hasB c l = false) (q : Bs) : upto c (l ++ c :: q) = l ∧ past c (l ++ c :: q) = q ∧ (l ++ c :: q).contains c = true := by
  have hall : l.all (· != c) = true := by
    rw [List.all_eq_true]
    intro x hx
    unfold hasB at h
    rw [List.contains_eq_mem, decide_eq_false_iff_not] at h
    simp only [bne_iff_ne, ne_eq]
    intro e; subst e; exact h hx
  obtain ⟨h1, h2⟩ := span_all (p := (· != c)) (q := c :: q) (fun a r e => by cases e; simp) hall
  refine ⟨h1, ?_, ?_⟩
  · unfold past; rw [h2]; rfl
  · rw [List.contains_eq_mem, decide_eq_true_eq]; simp
theorem keyc_39 {l : Bs} (h : l.all keyc = true) : hasB 39 l = false := by
  unfold hasB
  rw [List.contains_eq_mem, decide_eq_false_iff_not]
  intro hm
  have := List.all_eq_true.1 h 39 hm
  exact absurd this (by decide)
theorem upto_past_len {c : UInt8} {l : Bs} (h : l.contains c = true) : (upto c l).length + (past c l).length + 1 = l.length := by
  have h1 := lead_lt c l h
  rw [← drop_past, List.length_drop]
  show lead (· != c) l + _ + 1 = _
  omega
/-- What is known of a use's parts. -/
structure PartsOk (r : Bs) (p : Parts) : Prop where
  name : p.name.all letc = true
  known : vknown p.name = true
  key : (p.hk = true ∧ vkey p.key = true ∧ hasB 125 p.key = false) ∨ (p.hk = false ∧ p.key = [])
  dft : (p.hd = true ∧ hasB 39 p.dft = false) ∨ (p.hd = false ∧ p.dft = [])
  len : p.name.length + p.key.length + p.dft.length + p.rest.length + 1 ≤ r.length
theorem keyAt_ok {r k r2 : Bs} {hk : Bool} (h : keyAt r = some (k, hk, r2)) : ((hk = true ∧ vkey k = true ∧ hasB 125 k = false) ∨ (hk = false ∧ k = [])) ∧ k.length + r2.length ≤ r.length := by
  unfold keyAt at h
  cases h1 : hasPrefix r [123]
  · rw [h1] at h; cases h; exact ⟨.inr ⟨rfl, rfl⟩, by simp⟩
  · rw [h1] at h
    have h3 := tpfx_len h1
    simp only [cond_true] at h
    cases h2 : (trimPrefix r [123]).contains 125
    · rw [h2] at h; cases h
    · rw [h2] at h
      cases h4 : vkey (upto 125 (trimPrefix r [123]))
      · rw [h4] at h; cases h
      · rw [h4] at h
        simp only [Bool.and_self, cond_true, Option.some.injEq, Prod.mk.injEq] at h
        obtain ⟨rfl, rfl, rfl⟩ := h
        have h5 := upto_past_len h2
        exact ⟨.inl ⟨rfl, h4, hasB_upto _ _⟩, by omega⟩
theorem dftAt_ok {r d r3 : Bs} {hd : Bool} (h : dftAt r = some (d, hd, r3)) : ((hd = true ∧ hasB 39 d = false) ∨ (hd = false ∧ d = [])) ∧ d.length + r3.length ≤ r.length := by
  unfold dftAt at h
  cases h1 : hasPrefix r [124]
  · rw [h1] at h; cases h; exact ⟨.inr ⟨rfl, rfl⟩, by simp⟩
  · rw [h1] at h
    have h3 := tpfx_len h1
    simp only [cond_true] at h
    unfold dftIn at h
    cases h2 : hasPrefix (trimPrefix r [124]) [39]
    · rw [h2] at h
      simp only [cond_false] at h
      cases h4 : ((trimPrefix r [124]).takeWhile keyc).isEmpty
      · rw [h4] at h
        simp only [cond_false, Option.some.injEq, Prod.mk.injEq] at h
        obtain ⟨rfl, rfl, rfl⟩ := h
        refine ⟨.inl ⟨rfl, keyc_39 (all_take _ _)⟩, ?_⟩
        rw [← drop_lead, ← take_lead, List.length_drop, List.length_take]; omega
      · rw [h4] at h; cases h
    · rw [h2] at h
      have h5 := tpfx_len h2
      simp only [cond_true] at h
      cases h4 : (trimPrefix (trimPrefix r [124]) [39]).contains 39
      · rw [h4] at h; cases h
      · rw [h4] at h
        simp only [cond_true, Option.some.injEq, Prod.mk.injEq] at h
        obtain ⟨rfl, rfl, rfl⟩ := h
        have h6 := upto_past_len h4
        exact ⟨.inl ⟨rfl, hasB_upto _ _⟩, by omega⟩
theorem useAt_ok {r : Bs} {p : Parts} (h : useAt r = some p) : PartsOk r p := by
  unfold useAt at h
  cases h1 : vknown (r.takeWhile letc)
  · rw [h1] at h; cases h
  · rw [h1] at h
    simp only [cond_true] at h
    cases h2 : keyAt (r.dropWhile letc) with
    | none => rw [h2] at h; cases h
    | some v =>
      obtain ⟨k, hk, r2⟩ := v
      rw [h2] at h
      obtain ⟨a1, a2⟩ := keyAt_ok h2
      change otherAt (r.takeWhile letc) k hk r2 = some p at h
      unfold otherAt at h
      cases h3 : dftAt r2 with
      | none => rw [h3] at h; cases h
      | some v =>
        obtain ⟨d, hd, r3⟩ := v
        rw [h3] at h
        obtain ⟨b1, b2⟩ := dftAt_ok h3
        change endAt (r.takeWhile letc) k d hk hd r3 = some p at h
        unfold endAt at h
        cases h4 : hasPrefix r3 [41]
        · rw [h4] at h; cases h
        · rw [h4] at h
          simp only [cond_true, Option.some.injEq] at h
          subst h
          have h5 := tpfx_len h4
          simp only [List.length_singleton] at h5
          have h6 : (r.takeWhile letc).length + (r.dropWhile letc).length = r.length := by
            rw [← List.length_append, List.takeWhile_append_dropWhile]
          exact ⟨all_take _ _, h1, a1, b1, by show (r.takeWhile letc).length + k.length + d.length + (trimPrefix r3 [41]).length + 1 ≤ _; omega⟩
theorem tpfx_one (c : UInt8) (r : Bs) : trimPrefix (c :: r) [c] = r := by
  unfold trimPrefix
  rw [if_pos (by rw [pfx1]; simp)]; rfl
theorem useAt_used {p : Parts} {r : Bs} (h : PartsOk r p) (q : Bs) : useAt ((p.name ++ ((bif p.hk then ([123] ++ p.key) ++ [125] else []) ++ (bif p.hd then ([124, 39] ++ p.dft) ++ [39] else []))) ++ 41 :: q) = some { p with rest := q } := by
  obtain ⟨nm, k, d, hk, hd, rest⟩ := p
  obtain ⟨h1, h2, h3, h4, _⟩ := h
  simp only at h1 h2 h3 h4 ⊢
  have hdf : ∀ r, r = (bif hd then ([124, 39] ++ d) ++ [39] else []) ++ 41 :: q → otherAt nm k hk r = some ⟨nm, k, d, hk, hd, q⟩ ∧ ∃ c r', r = c :: r' ∧ c ≠ 123 ∧ letc c = false := by
    intro r hr
    rcases h4 with ⟨rfl, h39⟩ | ⟨rfl, rfl⟩
    · have e : r = 124 :: 39 :: (d ++ 39 :: 41 :: q) := by rw [hr]; simp
      subst e
      refine ⟨?_, 124, _, rfl, by decide, by decide⟩
      obtain ⟨u1, u2, u3⟩ := upto_of h39 (41 :: q)
      unfold otherAt dftAt
      rw [pfx1, tpfx_one]
      show (match dftIn (39 :: (d ++ 39 :: 41 :: q)) with | none => none | some (d, hd, r3) => endAt nm k d hk hd r3) = _
      unfold dftIn
      rw [pfx1, tpfx_one]
      show (match (bif (d ++ 39 :: 41 :: q).contains 39 then some (upto 39 (d ++ 39 :: 41 :: q), true, past 39 (d ++ 39 :: 41 :: q)) else none : Option (Bs × Bool × Bs)) with | none => none | some (d, hd, r3) => endAt nm k d hk hd r3) = _
      rw [u1, u2, u3]
      show endAt nm k d hk true (41 :: q) = _
      unfold endAt
      rw [pfx1, tpfx_one]; rfl
    · have e : r = 41 :: q := by rw [hr]; rfl
      subst e
      refine ⟨?_, 41, _, rfl, by decide, by decide⟩
      unfold otherAt dftAt
      rw [pfx1]
      show endAt nm k [] hk false (41 :: q) = _
      unfold endAt
      rw [pfx1, tpfx_one]; rfl
  obtain ⟨R, hR⟩ : ∃ R, (bif hd then ([124, 39] ++ d) ++ [39] else []) ++ 41 :: q = R := ⟨_, rfl⟩
  obtain ⟨g1, c, r', g2, g3, g4⟩ := hdf R hR.symm
  rw [List.append_assoc, List.append_assoc, hR]
  have hky : ∀ r, r = (bif hk then ([123] ++ k) ++ [125] else []) ++ R → (match keyAt r with | none => none | some (k, hk, r2) => otherAt nm k hk r2) = some ⟨nm, k, d, hk, hd, q⟩ ∧ ∃ c r', r = c :: r' ∧ letc c = false := by
    intro r hr
    rcases h3 with ⟨rfl, hv, h125⟩ | ⟨rfl, rfl⟩
    · have e : r = 123 :: (k ++ 125 :: R) := by rw [hr]; simp
      subst e
      refine ⟨?_, 123, _, rfl, by decide⟩
      obtain ⟨u1, u2, u3⟩ := upto_of h125 R
      unfold keyAt
      rw [pfx1, tpfx_one, u1, u2, u3, hv]
      exact g1
    · have e : r = R := by rw [hr]; rfl
      subst e
      refine ⟨?_, c, r', g2, g4⟩
      unfold keyAt
      rw [g2, pfx1, show ((123 : UInt8) == c) = false from beq_eq_false_iff_ne.2 (Ne.symm g3), ← g2]
      exact g1
  obtain ⟨K, hK⟩ : ∃ K, (bif hk then ([123] ++ k) ++ [125] else []) ++ R = K := ⟨_, rfl⟩
  obtain ⟨f1, c2, r2, f2, f3⟩ := hky K hK.symm
  rw [hK]
  obtain ⟨e1, e2⟩ := span_all (p := letc) (q := K) (fun a b e => by rw [f2] at e; cases e; exact f3) h1
  unfold useAt
  rw [e1, e2, h2]
  exact f1
theorem usedB_eq (u : UseI) : usedB u = 36 :: 40 :: ((u.name ++ ((bif u.hk then ([123] ++ u.key) ++ [125] else []) ++ (bif u.hd then ([124, 39] ++ u.dft) ++ [39] else []))) ++ [41]) := by
  unfold usedB
  cases u.hk <;> cases u.hd <;> simp
/-- What was found stands in its own text. -/
theorem partsAt_used {r : Bs} {p : Parts} (h : partsAt r = some p) (n i : Nat) : partsAt (usedB (useIE n i p)) = some { p with rest := [] } := by
  obtain ⟨_, _, _, hu⟩ := partsAt_len h
  have h2 := useAt_used (useAt_ok hu) []
  have e : usedB (useIE n i p) = 36 :: 40 :: ((p.name ++ ((bif p.hk then ([123] ++ p.key) ++ [125] else []) ++ (bif p.hd then ([124, 39] ++ p.dft) ++ [39] else []))) ++ [41]) := usedB_eq _
  rw [e, partsAt_yes (by unfold begins; rw [pfx_two]; rfl)]
  exact h2
theorem useOk_of {u : UseI} {p : Parts} (h : partsAt (usedB u) = some p) (h0 : p.rest = []) (h1 : p.name = u.name ∧ p.key = u.key ∧ p.dft = u.dft ∧ p.hk = u.hk ∧ p.hd = u.hd) : useOk u = true := by
  unfold useOk
  rw [vfind_at (s := usedB u) (i := 0) (p := p) (by rw [List.drop_zero]; exact h)]
  show (decide (0 = 0) && decide ((usedB u).length - p.rest.length = (usedB u).length) && (p.name == u.name && p.key == u.key && p.dft == u.dft && p.hk == u.hk && p.hd == u.hd)) = true
  rw [h0, h1.1, h1.2.1, h1.2.2.1, h1.2.2.2.1, h1.2.2.2.2]
  simp
theorem useOk_parsed {r : Bs} {p : Parts} (h : partsAt r = some p) (n i : Nat) : useOk (useIE n i p) = true :=
  useOk_of (partsAt_used h n i) rfl ⟨rfl, rfl, rfl, rfl, rfl⟩
theorem useOk_parts {u : UseI} (h : useOk u = true) : ∃ p, partsAt (usedB u) = some p ∧ p.rest = [] ∧ p.name = u.name ∧ p.key = u.key ∧ p.dft = u.dft ∧ p.hk = u.hk ∧ p.hd = u.hd := by
  unfold useOk at h
  cases hv : vfind (usedB u) 0 with
  | none => rw [hv] at h; cases h
  | some v =>
    rw [hv] at h
    change (decide (v.src = 0) && decide (v.to = (usedB u).length) && alikeU v u) = true at h
    unfold alikeU at h
    simp only [Bool.and_eq_true, decide_eq_true_eq, beq_iff_eq] at h
    obtain ⟨⟨h1, h2⟩, ⟨⟨⟨h3, h4⟩, h5⟩, h6⟩, h7⟩ := h
    have f := Found.of hv
    obtain ⟨p, hp, e⟩ := f.parts
    have hb := f.begins
    rw [h1] at hp e hb
    rw [List.drop_zero] at hb
    have hpa : partsAt (usedB u) = some p := by rw [partsAt_yes hb]; exact hp
    obtain ⟨hl, _⟩ := partsAt_len hpa
    rw [e] at h2 h3 h4 h5 h6 h7
    have h2 : (usedB u).length - p.rest.length = (usedB u).length := h2
    exact ⟨p, hpa, List.length_eq_zero_iff.1 (by omega), h3, h4, h5, h6, h7⟩
end Go.Proofs.YtehdeclpighdeaaGreatDoor

namespace Go.Proofs.YtehdeclpighdeaaGreatDoor
open Go.Lib

/-- A tree like this one was found, or it is nested too deep. -/
def HitX (x : Ex) (g : Got) (t : Nat) : Prop := (∃ y, g = .good y t ∧ sameE x y = true) ∨ ∃ p, g = .wrong p 3
/-- What may stand behind a text. -/
def StopO (rest : Bs) : Prop := ∀ c r, rest = c :: r → c = 32 ∨ c = 41
def NS (rest : Bs) : Prop := signAt (rest.dropWhile blk) = none
def NoSg (c : UInt8) (rest : Bs) : Prop := hasPrefix (rest.dropWhile blk) [c] = false
/-- A row that goes on behind a tree like this one. -/
def RowS (one : Nat → Got) (kind : Int) (sign : UInt8) (s : Bs) (i : Nat) (x : Ex) (t : Nat) : Prop :=
  (∃ n y, s.length < t + n ∧ rowG one kind sign s i = rowOn one kind sign s n y t ∧ sameE x y = true) ∨ ∃ p, rowG one kind sign s i = .wrong p 3
theorem StopO.dig {rest : Bs} (h : StopO rest) : ∀ c r, rest = c :: r → dig c = false := fun c r e => by rcases h c r e with rfl | rfl <;> decide
theorem rs_of {s : Bs} {i : Nat} {c : UInt8} {r : Bs} (hi : i ≤ s.length) (h : s.drop i = c :: r) (hb : blk c = false) : rs s i = c :: r ∧ pa s i = i := by
  have e : rs s i = c :: r := by unfold rs; rw [h, List.dropWhile_cons, hb]; rfl
  refine ⟨e, ?_⟩
  have h1 := rs_len s hi
  have h2 := pa_le s i
  have h3 := congrArg List.length h
  rw [e] at h1
  rw [List.length_drop] at h3
  omega
theorem drop_le {s q : Bs} {i : Nat} (h : s.drop i = q) (hi : i ≤ s.length) : s.length = i + q.length := by
  have := congrArg List.length h
  rw [List.length_drop] at this; omega
theorem drop_app {s a q : Bs} {i : Nat} (h : s.drop i = a ++ q) : s.drop (i + a.length) = q := by
  rw [← List.drop_drop, h, List.drop_left]

/-! From an operand to a row. -/
theorem row_of_one {one : Nat → Got} {s : Bs} {i t : Nat} {x : Ex} (h : HitX x (one i) t) (kind : Int) (sign : UInt8) : RowS one kind sign s i x t := by
  rcases h with ⟨y, e, hs⟩ | ⟨p, e⟩
  · exact .inl ⟨s.length + 1, y, by omega, by unfold rowG; rw [e], hs⟩
  · exact .inr ⟨p, by unfold rowG; rw [e]⟩
theorem rowOn_stop {one : Nat → Got} {kind : Int} {sign : UInt8} {s : Bs} {y : Ex} {t : Nat} (h : hasPrefix (rs s t) [sign] = false) : ∀ n, rowOn one kind sign s n y t = .good y t
  | 0 => rfl
  | n + 1 => by unfold rowOn; rw [h]; rfl
theorem hit_of_row {one : Nat → Got} {kind : Int} {sign : UInt8} {s : Bs} {i t : Nat} {x : Ex} {rest : Bs} (h : RowS one kind sign s i x t) (hr : s.drop t = rest) (hn : NoSg sign rest) : HitX x (rowG one kind sign s i) t := by
  rcases h with ⟨n, y, _, e, hs⟩ | ⟨p, e⟩
  · refine .inl ⟨y, ?_, hs⟩
    rw [e]
    exact rowOn_stop (by unfold rs; rw [hr]; exact hn) n
  · exact .inr ⟨p, e⟩
theorem cmp_of_op {s : Bs} {k i t : Nat} {x : Ex} {rest : Bs} (h : HitX x (opK s k i) t) (hr : s.drop t = rest) (hn : NS rest) : HitX x (cmpK s k i) t := by
  unfold cmpK cmpG
  rcases h with ⟨y, e, hs⟩ | ⟨p, e⟩
  · have e : opG (dOrK s k) s i = .good y t := e
    rw [e]
    show HitX x (cmpOn (dOrK s k) s y t) t
    unfold cmpOn
    have : signAt (rs s t) = none := by unfold rs; rw [hr]; exact hn
    rw [this]
    exact .inl ⟨y, rfl, hs⟩
  · have e : opG (dOrK s k) s i = .wrong p 3 := e
    rw [e]; exact .inr ⟨p, rfl⟩
theorem not_of_cmp {s : Bs} {k i : Nat} {c : UInt8} {r : Bs} (hr : rs s i = c :: r) (hc : c ≠ 33) : notK s k i = cmpK s k i := by
  rw [notK_eq]
  unfold notG
  rw [hr, pfx1, show ((33 : UInt8) == c) = false from beq_eq_false_iff_ne.2 (Ne.symm hc)]; rfl
/-- Two of a row, one behind the other. -/
theorem row_two {one : Nat → Got} {s : Bs} {i t t2 : Nat} {a b : Ex} {kind : Int} {sign : UInt8} {u : UseI} {q : Bs} (hb : blk sign = false) (h : RowS one kind sign s i a t) (ht : t ≤ s.length) (hd : s.drop t = 32 :: sign :: 32 :: q) (h2 : HitX b (one (t + 2)) t2) (hlt : t < t2) (hu : useEq u noUseI = true) : RowS one kind sign s i (.mk kind [] u [a, b]) t2 := by
  rcases h with ⟨n, y, hn, e, hs⟩ | ⟨p, e⟩
  · cases n with
    | zero => omega
    | succ n =>
      have hrs : rs s t = sign :: 32 :: q := by
        unfold rs
        rw [hd, List.dropWhile_cons]
        show (if blk 32 = true then _ else _) = _
        rw [if_pos (by decide), List.dropWhile_cons, hb]; rfl
      have hpa : pa s t = t + 1 := by
        have h1 := rs_len s ht
        have h2 := pa_le s t
        have h3 := drop_le hd ht
        rw [hrs] at h1
        simp only [List.length_cons] at h1 h3
        omega
      have e2 : rowOn one kind sign s (n + 1) y t = match one (t + 2) with | .wrong p e => .wrong p e | .good z t2 => rowOn one kind sign s n (twoE kind y z) t2 := by
        conv => lhs; unfold rowOn
        rw [hrs, pfx1, hpa, show (sign == sign) = true from by simp]; rfl
      rcases h2 with ⟨z, e3, hs2⟩ | ⟨p, e3⟩
      · refine .inl ⟨n, twoE kind y z, by omega, by rw [e, e2, e3], ?_⟩
        unfold twoE
        rw [sameE, sameL, sameL, sameL, hs, hs2]
        unfold useEq at hu
        rw [Bool.and_eq_true] at hu
        rw [hu.2]; simp
      · exact .inr ⟨p, by rw [e, e2, e3]⟩
  · exact .inr ⟨p, e⟩
theorem row_pre {one : Nat → Got} {kind : Int} {sign : UInt8} {s : Bs} {i j : Nat} (h : one i = one j) : rowG one kind sign s i = rowG one kind sign s j := by unfold rowG; rw [h]
theorem notK_start {s : Bs} {i j : Nat} (h : rs s i = rs s j) (k : Nat) : notK s k i = notK s k j := by rw [notK_eq]; exact not_start h _ _
theorem andK_start {s : Bs} {i j : Nat} (h : rs s i = rs s j) (k : Nat) : andK s k i = andK s k j := row_pre (notK_start h k)
theorem opK_start {s : Bs} {i j : Nat} (h : rs s i = rs s j) (k : Nat) : opK s k i = opK s k j := by unfold opK opG; rw [h, pa_rs h]
theorem rs_skip {s q : Bs} {i : Nat} (h : s.drop i = 32 :: q) : rs s i = rs s (i + 1) := by
  unfold rs
  rw [← List.drop_drop, h, List.dropWhile_cons, if_pos (by decide)]; rfl

/-- All that is known of a tree's text in a text. -/
structure Lev (x : Ex) (s : Bs) (k i t : Nat) (rest : Bs) : Prop where
  op : 10 ≤ x.kind → HitX x (opK s k i) t
  not : 3 ≤ x.kind → NS rest → HitX x (notK s k i) t
  and : 2 ≤ x.kind → NS rest → RowS (notK s k) 2 38 s i x t
  or : NS rest → NoSg 38 rest → RowS (andK s k) 1 124 s i x t
/-- What an operand is, all is. -/
theorem lev_of_op {x : Ex} {s : Bs} {k i t : Nat} {rest : Bs} {c : UInt8} {r : Bs} (h : HitX x (opK s k i) t) (hr : s.drop t = rest) (hrs : rs s i = c :: r) (hc : c ≠ 33) : Lev x s k i t rest := by
  have hn : NS rest → HitX x (notK s k i) t := fun h1 => by rw [not_of_cmp hrs hc]; exact cmp_of_op h hr h1
  have ha : NS rest → RowS (notK s k) 2 38 s i x t := fun h1 => row_of_one (hn h1) 2 38
  exact ⟨fun _ => h, fun _ => hn, fun _ => ha, fun h1 h2 => row_of_one (hit_of_row (ha h1) hr h2) 1 124⟩
theorem lev_of_not {x : Ex} {s : Bs} {k i t : Nat} {rest : Bs} (h9 : x.kind < 10) (h : NS rest → HitX x (notK s k i) t) (hr : s.drop t = rest) : Lev x s k i t rest := by
  have ha : NS rest → RowS (notK s k) 2 38 s i x t := fun h1 => row_of_one (h h1) 2 38
  exact ⟨fun h => by omega, fun _ => h, fun _ => ha, fun h1 h2 => row_of_one (hit_of_row (ha h1) hr h2) 1 124⟩
theorem lev_of_and {x : Ex} {s : Bs} {k i t : Nat} {rest : Bs} (h9 : x.kind < 3) (ha : NS rest → RowS (notK s k) 2 38 s i x t) (hr : s.drop t = rest) : Lev x s k i t rest :=
  ⟨fun h => by omega, fun h => by omega, fun _ => ha, fun h1 h2 => row_of_one (hit_of_row (ha h1) hr h2) 1 124⟩
theorem lev_of_or {x : Ex} {s : Bs} {k i t : Nat} {rest : Bs} (h9 : x.kind < 2) (ho : NS rest → NoSg 38 rest → RowS (andK s k) 1 124 s i x t) : Lev x s k i t rest :=
  ⟨fun h => by omega, fun h => by omega, fun h => by omega, ho⟩
/-- What is to be shown of a tree: it is found where its text stands. -/
def Found1 (x : Ex) : Prop := ∀ (s : Bs) (k i : Nat) (rest : Bs), i ≤ s.length → s.drop i = (textE x).1 ++ rest → StopO rest → Lev x s k i (i + (textE x).1.length) rest
/-- A text's head. -/
def HeadOk (l : Bs) : Prop := ∃ c r, l = c :: r ∧ blk c = false
theorem HeadOk.app {a : Bs} (h : HeadOk a) (b : Bs) : HeadOk (a ++ b) := by
  obtain ⟨c, r, rfl, hb⟩ := h
  exact ⟨c, r ++ b, rfl, hb⟩
theorem HeadOk.kid {a : Bs} (h : HeadOk a) (m k : Int) : HeadOk (kidT m k a) := by
  unfold kidT
  cases decide (m ≤ k ∧ k ≤ 12)
  · exact ⟨40, _, rfl, by decide⟩
  · exact h
theorem dig_facts {c : UInt8} (h : dig c = true) : blk c = false ∧ c ≠ 33 ∧ (c == 40) = false ∧ (c == 39) = false := by
  unfold dig at h
  rw [decide_eq_true_eq] at h
  refine ⟨by unfold blk; exact decide_eq_false (by omega), ?_, ?_, ?_⟩
  · intro e; subst e; revert h; decide
  · exact beq_eq_false_iff_ne.2 (by intro e; subst e; revert h; decide)
  · exact beq_eq_false_iff_ne.2 (by intro e; subst e; revert h; decide)
theorem numOk_cons {t : Bs} (h : numOk t = true) : ∃ c r, t = c :: r ∧ dig c = true ∧ t.length ≤ 18 ∧ t.all dig = true := by
  unfold numOk at h
  simp only [Bool.and_eq_true, decide_eq_true_eq, Bool.not_eq_true'] at h
  cases t with
  | nil => cases h.1.1
  | cons c r =>
    refine ⟨c, r, rfl, ?_, h.1.2, h.2⟩
    have := h.2
    rw [List.all_cons, Bool.and_eq_true] at this
    exact this.1
theorem text_node {k : Int} {t : Bs} {u : UseI} {l : List Ex} (h : mayE (.mk k t u l) = true) : textE (.mk k t u l) = nodeT k t u (textL l) ∧ mayN k t u l.length = true ∧ mayL l = true := by
  rw [mayE_mk, Bool.and_eq_true] at h
  refine ⟨?_, h⟩
  rw [textE_mk, h.1]; rfl
theorem two_text {k : Int} {u : UseI} {sg : Bs} {m1 m2 : Int} {a b : Ex} (hn : nodeT k [] u (textL [a, b]) = twoT sg m1 m2 (textL [a, b])) (he : textE (.mk k [] u [a, b]) = nodeT k [] u (textL [a, b])) : (textE (.mk k [] u [a, b])).1 = kidT m1 a.kind (textE a).1 ++ (32 :: (sg ++ (32 :: kidT m2 b.kind (textE b).1))) := by
  rw [he, hn, two_two]; simp [List.append_assoc]
theorem text_head (x : Ex) : mayE x = true → HeadOk (textE x).1 := by
  refine Ex.ind (P := fun x => mayE x = true → HeadOk (textE x).1) (fun k t u l ih h => ?_) x
  obtain ⟨he, hm, hl⟩ := text_node h
  rcases may_kinds hm with ⟨rfl, hn, _⟩ | ⟨rfl, hn, _⟩ | ⟨rfl, hn, ht, _⟩ | ⟨rfl, hn, _⟩ | ⟨hk, hn, rfl, _⟩
  · obtain ⟨a, rfl⟩ := len_one hn
    rw [he, nodeT_3, textL_one]; exact ⟨33, _, rfl, by decide⟩
  · rw [he, nodeT_10]; exact ⟨39, _, rfl, by decide⟩
  · rw [he, nodeT_11]
    obtain ⟨c, r, rfl, hd, _⟩ := numOk_cons ht
    exact ⟨c, r, rfl, (dig_facts hd).1⟩
  · rw [he, nodeT_12]
    show HeadOk (usedB u)
    rw [usedB_eq]; exact ⟨36, _, rfl, by decide⟩
  · obtain ⟨a, b, rfl⟩ := len_two hn
    have ha := ih a (by simp) (may_mem hl (by simp))
    rcases hk with rfl | rfl | ⟨h4, h9⟩
    · rw [two_text (nodeT_1 _ _ _) he]; exact (ha.kid _ _).app _
    · rw [two_text (nodeT_2 _ _ _) he]; exact (ha.kid _ _).app _
    · rw [two_text (nodeT_cmp h4 h9 _ _ _) he]; exact (ha.kid _ _).app _
theorem stop_nil : StopO [] := fun c r e => by cases e
theorem stop_32 (q : Bs) : StopO (32 :: q) := fun c r e => by cases e; exact .inl rfl
theorem stop_41 (q : Bs) : StopO (41 :: q) := fun c r e => by cases e; exact .inr rfl
theorem pfx2_no {a c : UInt8} (h : a ≠ c) (r : Bs) : hasPrefix (c :: r) [a, 61] = false := by
  cases r with
  | nil => simp [hasPrefix, List.isPrefixOf]
  | cons y r => rw [pfx_two, show (a == c) = false from beq_eq_false_iff_ne.2 h, Bool.false_and]
theorem sign_no {c : UInt8} {r : Bs} (h : c ≠ 61 ∧ c ≠ 33 ∧ c ≠ 60 ∧ c ≠ 62) : signAt (c :: r) = none := by
  unfold signAt
  rw [pfx2_no (Ne.symm h.1), pfx2_no (Ne.symm h.2.1), pfx2_no (Ne.symm h.2.2.1), pfx2_no (Ne.symm h.2.2.2), pfx1, pfx1, show ((60 : UInt8) == c) = false from beq_eq_false_iff_ne.2 (Ne.symm h.2.2.1), show ((62 : UInt8) == c) = false from beq_eq_false_iff_ne.2 (Ne.symm h.2.2.2)]; rfl
theorem ns_41 (q : Bs) : NS (41 :: q) := sign_no (by decide)
theorem na_41 {c : UInt8} (h : c ≠ 41) (q : Bs) : NoSg c (41 :: q) := by
  show hasPrefix (41 :: q) [c] = false
  rw [pfx1]; exact beq_eq_false_iff_ne.2 h
theorem ns_nil : NS [] := rfl
theorem na_nil (c : UInt8) : NoSg c [] := rfl
/-- In brackets it is an operand. -/
theorem bracketed {x : Ex} (hx : Found1 x) {s : Bs} {k i : Nat} {rest : Bs} (hi : i ≤ s.length) (hd : s.drop i = ([40] ++ (textE x).1) ++ [41] ++ rest) : HitX x (opK s k i) (i + ((textE x).1.length + 2)) := by
  have hd2 : s.drop i = 40 :: ((textE x).1 ++ 41 :: rest) := by rw [hd]; simp
  obtain ⟨h1, h2⟩ := rs_of hi hd2 (by decide)
  have e : opK s k i = brG (dOrK s k) s i := by
    unfold opK opG
    rw [h1, h2]; rfl
  rw [e]
  cases k with
  | zero => exact .inr ⟨i, rfl⟩
  | succ k =>
    have hlen := drop_le hd2 hi
    simp only [List.length_cons, List.length_append] at hlen
    have hd3 : s.drop (i + 1) = (textE x).1 ++ 41 :: rest := by rw [← List.drop_drop, hd2]; rfl
    have hL := hx s k (i + 1) (41 :: rest) (by omega) hd3 (stop_41 _)
    have hd4 := drop_app hd3
    have hh := hit_of_row (hL.or (ns_41 _) (na_41 (by decide) _)) hd4 (na_41 (by decide) _)
    rw [← orK_eq] at hh
    show HitX x (match orK s k (i + 1) with | .wrong p e => .wrong p e | .good x t => bif hasPrefix (rs s t) [41] then .good x (pa s t + 1) else .wrong (pa s t) 15) _
    rcases hh with ⟨y, e3, hs⟩ | ⟨p, e3⟩
    · rw [e3]
      obtain ⟨h5, h6⟩ := rs_of (by omega) hd4 (by decide)
      show HitX x (bif hasPrefix (rs s (i + 1 + (textE x).1.length)) [41] then .good y (pa s (i + 1 + (textE x).1.length) + 1) else .wrong (pa s (i + 1 + (textE x).1.length)) 15) _
      rw [h5, h6, pfx1]
      exact .inl ⟨y, by simp only [beq_self_eq_true, cond_true, Got.good.injEq, true_and]; omega, hs⟩
    · rw [e3]; exact .inr ⟨p, rfl⟩
/-- A kid, in brackets or not. -/
theorem kid_found {x : Ex} (hx : Found1 x) (hk : mayE x = true) (m : Int) {s : Bs} {k i : Nat} {rest : Bs} (hi : i ≤ s.length) (hd : s.drop i = kidT m x.kind (textE x).1 ++ rest) (hst : StopO rest) :
    (m ≤ x.kind ∧ Lev x s k i (i + (kidT m x.kind (textE x).1).length) rest) ∨ (HitX x (opK s k i) (i + (kidT m x.kind (textE x).1).length) ∧ Lev x s k i (i + (kidT m x.kind (textE x).1).length) rest) := by
  have h12 := (may_kind hk).2
  unfold kidT at hd ⊢
  by_cases hm : m ≤ x.kind
  · rw [decide_eq_true ⟨hm, h12⟩] at hd ⊢
    exact .inl ⟨hm, hx s k i rest hi hd hst⟩
  · rw [decide_eq_false (fun h => hm h.1)] at hd ⊢
    have hb := bracketed hx (k := k) hi hd
    have e : i + (bif false then (textE x).1 else ([40] ++ (textE x).1) ++ [41]).length = i + ((textE x).1.length + 2) := by
      simp only [cond_false, List.length_append, List.length_singleton]; omega
    rw [e]
    refine .inr ⟨hb, ?_⟩
    have hd2 : s.drop i = 40 :: ((textE x).1 ++ 41 :: rest) := by rw [hd]; simp
    obtain ⟨h1, _⟩ := rs_of hi hd2 (by decide)
    refine lev_of_op hb ?_ h1 (by decide)
    rw [← e]
    exact drop_app hd
theorem kid_op {x : Ex} (hx : Found1 x) (hk : mayE x = true) {s : Bs} {k i : Nat} {rest : Bs} (hi : i ≤ s.length) (hd : s.drop i = kidT 10 x.kind (textE x).1 ++ rest) (hst : StopO rest) : HitX x (opK s k i) (i + (kidT 10 x.kind (textE x).1).length) := by
  rcases kid_found hx hk 10 (k := k) hi hd hst with ⟨h, L⟩ | ⟨h, _⟩
  · exact L.op h
  · exact h
theorem kid_not {x : Ex} (hx : Found1 x) (hk : mayE x = true) {s : Bs} {k i : Nat} {rest : Bs} (hi : i ≤ s.length) (hd : s.drop i = kidT 3 x.kind (textE x).1 ++ rest) (hst : StopO rest) (hn : NS rest) : HitX x (notK s k i) (i + (kidT 3 x.kind (textE x).1).length) := by
  have hd0 := hd
  unfold kidT at hd0
  rcases kid_found hx hk 3 (k := k) hi hd hst with ⟨h, L⟩ | ⟨h, L⟩
  · exact L.not h hn
  · by_cases hm : 3 ≤ x.kind
    · exact L.not hm hn
    · rw [decide_eq_false (fun h => hm h.1)] at hd0
      have hd2 : s.drop i = 40 :: ((textE x).1 ++ 41 :: rest) := by rw [hd0]; simp
      obtain ⟨h1, _⟩ := rs_of hi hd2 (by decide)
      rw [not_of_cmp h1 (by decide)]
      exact cmp_of_op h (drop_app hd) hn
theorem kid_and {x : Ex} (hx : Found1 x) (hk : mayE x = true) {s : Bs} {k i : Nat} {rest : Bs} (hi : i ≤ s.length) (hd : s.drop i = kidT 2 x.kind (textE x).1 ++ rest) (hst : StopO rest) (hn : NS rest) : RowS (notK s k) 2 38 s i x (i + (kidT 2 x.kind (textE x).1).length) := by
  have hd0 := hd
  unfold kidT at hd0
  rcases kid_found hx hk 2 (k := k) hi hd hst with ⟨h, L⟩ | ⟨h, L⟩
  · exact L.and h hn
  · by_cases hm : 2 ≤ x.kind
    · exact L.and hm hn
    · rw [decide_eq_false (fun h => hm h.1)] at hd0
      have hd2 : s.drop i = 40 :: ((textE x).1 ++ 41 :: rest) := by rw [hd0]; simp
      obtain ⟨h1, _⟩ := rs_of hi hd2 (by decide)
      refine row_of_one ?_ 2 38
      rw [not_of_cmp h1 (by decide)]
      exact cmp_of_op h (drop_app hd) hn
theorem kid_or {x : Ex} (hx : Found1 x) (hk : mayE x = true) {s : Bs} {k i : Nat} {rest : Bs} (hi : i ≤ s.length) (hd : s.drop i = kidT 1 x.kind (textE x).1 ++ rest) (hst : StopO rest) (hn : NS rest) (ha : NoSg 38 rest) : RowS (andK s k) 1 124 s i x (i + (kidT 1 x.kind (textE x).1).length) := by
  rcases kid_found hx hk 1 (k := k) hi hd hst with ⟨_, L⟩ | ⟨_, L⟩ <;> exact L.or hn ha
theorem kid_pos {x : Ex} (hk : mayE x = true) (m : Int) : HeadOk (kidT m x.kind (textE x).1) := (text_head x hk).kid m x.kind
theorem sign_at (n : Nat) (hn : n ≤ 5) (q : Bs) : signAt (signB n ++ 32 :: q) = some (n, (signB n).length) ∧ ∃ c r, signB n = c :: r ∧ blk c = false := by
  match n, hn with
  | 0, _ => exact ⟨rfl, _, _, rfl, by decide⟩
  | 1, _ => exact ⟨rfl, _, _, rfl, by decide⟩
  | 2, _ => exact ⟨rfl, _, _, rfl, by decide⟩
  | 3, _ => exact ⟨rfl, _, _, rfl, by decide⟩
  | 4, _ => exact ⟨rfl, _, _, rfl, by decide⟩
  | 5, _ => exact ⟨rfl, _, _, rfl, by decide⟩
theorem use_same {u : UseI} (h : useEq u noUseI = true) : useSame u noUseI = true := by unfold useEq at h; rw [Bool.and_eq_true] at h; exact h.2
/-- Where a tree's text stands, that tree is found. -/
theorem found_text (x : Ex) : mayE x = true → Found1 x := by
  refine Ex.ind (P := fun x => mayE x = true → Found1 x) (fun k t u l ih h => ?_) x
  obtain ⟨he, hm, hl⟩ := text_node h
  intro s K i rest hi hd hst
  have hend := drop_app hd
  rcases may_kinds hm with ⟨rfl, hn, rfl, hu⟩ | ⟨rfl, hn, ht, hu⟩ | ⟨rfl, hn, ht, hu⟩ | ⟨rfl, hn, rfl, hu⟩ | ⟨hk, hn, rfl, hu⟩
  · obtain ⟨a, rfl⟩ := len_one hn
    have hma := may_mem hl (show a ∈ [a] by simp)
    have te : (textE (.mk 3 [] u [a])).1 = 33 :: kidT 3 a.kind (textE a).1 := by rw [he, nodeT_3, textL_one]; rfl
    rw [te] at hd hend ⊢
    obtain ⟨h1, h2⟩ := rs_of hi hd (by decide)
    refine lev_of_not (show (3 : Int) < 10 by decide) (fun hns => ?_) hend
    have hlen := drop_le hd hi
    simp only [List.length_append, List.length_cons] at hlen
    have hd2 : s.drop (i + 1) = kidT 3 a.kind (textE a).1 ++ rest := by rw [← List.drop_drop, hd]; rfl
    rw [notK_eq]
    unfold notG
    rw [h1, h2, pfx1]
    cases K with
    | zero => exact .inr ⟨i, rfl⟩
    | succ K =>
      have hk := kid_not (ih a (by simp) hma) hma (k := K) (by omega) hd2 hst hns
      show HitX _ (match notK s K (i + 1) with | .wrong p e => .wrong p e | .good x t => .good (oneE 3 x) t) _
      rcases hk with ⟨y, e, hs⟩ | ⟨p, e⟩
      · rw [e]
        refine .inl ⟨oneE 3 y, ?_, ?_⟩
        · simp only [Got.good.injEq, true_and, List.length_cons]; omega
        · unfold oneE
          rw [sameE, sameL, sameL, hs, use_same hu]; simp
      · rw [e]; exact .inr ⟨p, rfl⟩
  · obtain rfl := List.length_eq_zero_iff.1 hn
    have te : (textE (.mk 10 t u [])).1 = 39 :: (t ++ [39]) := by rw [he, nodeT_10]; simp
    rw [te] at hd hend ⊢
    have hd1 : s.drop i = 39 :: (t ++ 39 :: rest) := by rw [hd]; simp
    obtain ⟨h1, h2⟩ := rs_of hi hd1 (by decide)
    refine lev_of_op ?_ hend h1 (by decide)
    obtain ⟨u1, u2, u3⟩ := upto_of ht rest
    have e : opK s K i = quG s i (t ++ 39 :: rest) := by unfold opK opG; rw [h1, h2]; rfl
    rw [e]
    unfold quG
    rw [u1, u3]
    refine .inl ⟨wordE 10 t, ?_, ?_⟩
    · simp only [cond_true, Got.good.injEq, true_and, List.length_append, List.length_cons, List.length_nil]; omega
    · unfold wordE
      rw [sameE, sameL, use_same hu]; simp
  · obtain rfl := List.length_eq_zero_iff.1 hn
    have te : (textE (.mk 11 t u [])).1 = t := by rw [he, nodeT_11]
    rw [te] at hd hend ⊢
    obtain ⟨c, r, rfl, hdg, h18, hall⟩ := numOk_cons ht
    obtain ⟨f1, f2, f3, f4⟩ := dig_facts hdg
    obtain ⟨h1, h2⟩ := rs_of hi hd f1
    refine lev_of_op ?_ hend h1 f2
    have hsp := (span_all hst.dig hall).1
    have e : opK s K i = numG i ((c :: r ++ rest).takeWhile dig) := by
      unfold opK opG
      rw [h1, h2]
      show (bif c == 40 then _ else bif c == 39 then _ else bif dig c then _ else _) = _
      rw [f3, f4, hdg]; rfl
    rw [e, hsp]
    unfold numG
    rw [decide_eq_true h18]
    refine .inl ⟨wordE 11 (c :: r), rfl, ?_⟩
    unfold wordE
    rw [sameE, sameL, use_same hu]; simp
  · obtain rfl := List.length_eq_zero_iff.1 hn
    have te : (textE (.mk 12 [] u [])).1 = usedB u := by rw [he, nodeT_12]
    rw [te] at hd hend ⊢
    obtain ⟨p, hp, hp0, hp1⟩ := useOk_parts hu
    have hpa := partsAt_app hp rest
    obtain ⟨U, hU⟩ : ∃ U, usedB u = 36 :: U := ⟨_, usedB_eq u⟩
    have hlen := drop_le hd hi
    rw [List.length_append] at hlen
    have hd1 : s.drop i = 36 :: (U ++ rest) := by rw [hd, hU]; rfl
    obtain ⟨h1, h2⟩ := rs_of hi hd1 (by decide)
    refine lev_of_op ?_ hend h1 (by decide)
    have e : opK s K i = varG s i (usedB u ++ rest) := by
      unfold opK opG
      rw [h1, h2, hU]; rfl
    rw [e]
    unfold varG
    rw [hpa]
    refine .inl ⟨varE (useIE s.length i { p with rest := p.rest ++ rest }), ?_, ?_⟩
    · show Got.good _ (s.length - (p.rest ++ rest).length) = _
      rw [hp0, List.nil_append, show s.length - rest.length = i + (usedB u).length from by omega]
    · unfold varE
      rw [sameE, sameL]
      obtain ⟨e1, e2, e3, e4, e5⟩ := hp1
      unfold useIE useSame
      simp [e1, e2, e3, e4, e5]
  · obtain ⟨a, b, rfl⟩ := len_two hn
    have hma := may_mem hl (show a ∈ [a, b] by simp)
    have hmb := may_mem hl (show b ∈ [a, b] by simp)
    have ia := ih a (by simp) hma
    have ib := ih b (by simp) hmb
    have rowcase : ∀ (kind m1 m2 : Int) (sign : UInt8) (one : Nat → Got), blk sign = false → (textE (.mk k [] u [a, b])).1 = kidT m1 a.kind (textE a).1 ++ (32 :: ([sign] ++ (32 :: kidT m2 b.kind (textE b).1))) → kind = k →
        (∀ i rest, i ≤ s.length → s.drop i = kidT m1 a.kind (textE a).1 ++ 32 :: sign :: rest → RowS one kind sign s i a (i + (kidT m1 a.kind (textE a).1).length)) →
        (∀ i, i ≤ s.length → s.drop i = kidT m2 b.kind (textE b).1 ++ rest → HitX b (one i) (i + (kidT m2 b.kind (textE b).1).length)) → (∀ i j, rs s i = rs s j → one i = one j) →
        RowS one kind sign s i (.mk k [] u [a, b]) (i + (textE (.mk k [] u [a, b])).1.length) := by
      intro kind m1 m2 sign one hb te hkk hA hB hst
      subst hkk
      have hl1 : (textE (.mk kind [] u [a, b])).1.length = (kidT m1 a.kind (textE a).1).length + (kidT m2 b.kind (textE b).1).length + 3 := by rw [te]; simp only [List.length_append, List.length_cons, List.length_nil]; omega
      have hd1 : s.drop i = kidT m1 a.kind (textE a).1 ++ 32 :: sign :: (32 :: (kidT m2 b.kind (textE b).1 ++ rest)) := by rw [hd, te]; simp
      have hd2 := drop_app hd1
      have hlen := drop_le hd hi
      rw [List.length_append, hl1] at hlen
      have hd3 : s.drop (i + (kidT m1 a.kind (textE a).1).length + 2) = 32 :: (kidT m2 b.kind (textE b).1 ++ rest) := by rw [← List.drop_drop, hd2]; rfl
      have hd4 : s.drop (i + (kidT m1 a.kind (textE a).1).length + 2 + 1) = kidT m2 b.kind (textE b).1 ++ rest := by rw [← List.drop_drop, hd3]; rfl
      have h2 := hB _ (by omega) hd4
      rw [← hst _ _ (rs_skip hd3)] at h2
      have := row_two (u := u) hb (hA i _ hi hd1) (by omega) hd2 h2 (by omega) hu
      rw [show i + (textE (.mk kind [] u [a, b])).1.length = i + (kidT m1 a.kind (textE a).1).length + 2 + 1 + (kidT m2 b.kind (textE b).1).length from by omega]
      exact this
    rcases hk with rfl | rfl | ⟨h4, h9⟩
    · refine lev_of_or (show (1 : Int) < 2 by decide) (fun hns hna => ?_)
      refine rowcase 1 1 2 124 (andK s K) (by decide) (two_text (nodeT_1 _ _ _) he) rfl (fun i rest hi hd => kid_or ia hma hi hd (stop_32 _) (sign_no (c := 124) (by decide)) ?_) (fun i hi hd => ?_) (fun i j h => andK_start h K)
      · show hasPrefix (124 :: rest) [38] = false
        rw [pfx1]; rfl
      · exact hit_of_row (kid_and ib hmb hi hd hst hns) (drop_app hd) hna
    · refine lev_of_and (show (2 : Int) < 3 by decide) (fun hns => ?_) hend
      exact rowcase 2 2 3 38 (notK s K) (by decide) (two_text (nodeT_2 _ _ _) he) rfl (fun i rest hi hd => kid_and ia hma hi hd (stop_32 _) (sign_no (c := 38) (by decide))) (fun i hi hd => kid_not ib hmb hi hd hst hns) (fun i j h => notK_start h K)
    · refine lev_of_not (show k < 10 by omega) (fun hns => ?_) hend
      obtain ⟨n, hn5, rfl⟩ : ∃ n : Nat, n ≤ 5 ∧ k = 4 + (n : Int) := ⟨(k - 4).toNat, by omega, by omega⟩
      have te := two_text (nodeT_cmp h4 h9 _ _ _) he
      rw [show (4 + (n : Int) - 4).toNat = n from by omega] at te
      rw [te] at hd hend ⊢
      obtain ⟨hsg, sc, sr, hsc, hsb⟩ := sign_at n hn5 (kidT 10 b.kind (textE b).1 ++ rest)
      have hd1 : s.drop i = kidT 10 a.kind (textE a).1 ++ (32 :: (signB n ++ 32 :: (kidT 10 b.kind (textE b).1 ++ rest))) := by rw [hd]; simp
      have hd2 := drop_app hd1
      have hlen := drop_le hd hi
      simp only [List.length_append, List.length_cons] at hlen
      have hA := kid_op ia hma (k := K) hi hd1 (stop_32 _)
      have hrs : rs s (i + (kidT 10 a.kind (textE a).1).length) = signB n ++ 32 :: (kidT 10 b.kind (textE b).1 ++ rest) := by
        unfold rs
        rw [hd2, hsc, List.dropWhile_cons, if_pos (by decide), List.cons_append, List.dropWhile_cons, hsb]; rfl
      have hpa : pa s (i + (kidT 10 a.kind (textE a).1).length) = i + (kidT 10 a.kind (textE a).1).length + 1 := by
        have h1 := rs_len s (i := i + (kidT 10 a.kind (textE a).1).length) (by omega)
        have h2 := pa_le s (i + (kidT 10 a.kind (textE a).1).length)
        rw [hrs] at h1
        simp only [List.length_append, List.length_cons] at h1
        omega
      have hd3 : s.drop (i + (kidT 10 a.kind (textE a).1).length + 1 + (signB n).length) = 32 :: (kidT 10 b.kind (textE b).1 ++ rest) := by
        refine drop_app (a := signB n) ?_
        rw [← List.drop_drop, hd2]; rfl
      have hd4 : s.drop (i + (kidT 10 a.kind (textE a).1).length + 1 + (signB n).length + 1) = kidT 10 b.kind (textE b).1 ++ rest := by rw [← List.drop_drop, hd3]; rfl
      have hB := kid_op ib hmb (k := K) (by omega) hd4 hst
      rw [← opK_start (rs_skip hd3)] at hB
      obtain ⟨hc, hr, hce, hcb⟩ := kid_pos hma 10
      have hcmp : HitX (.mk (4 + (n : Int)) [] u [a, b]) (cmpK s K i) (i + (kidT 10 a.kind (textE a).1 ++ (32 :: (signB n ++ (32 :: kidT 10 b.kind (textE b).1)))).length) := by
        unfold cmpK cmpG
        rcases hA with ⟨y, e, hs⟩ | ⟨p, e⟩
        · have e : opG (dOrK s K) s i = .good y (i + (kidT 10 a.kind (textE a).1).length) := e
          rw [e]
          show HitX _ (cmpOn (dOrK s K) s y (i + (kidT 10 a.kind (textE a).1).length)) _
          unfold cmpOn
          rw [hrs, hsg, hpa]
          show HitX _ (match opG (dOrK s K) s (i + (kidT 10 a.kind (textE a).1).length + 1 + (signB n).length) with | .wrong p e => .wrong p e | .good z t2 => .good (twoE (4 + (n : Int)) y z) t2) _
          rcases hB with ⟨z, e2, hs2⟩ | ⟨p, e2⟩
          · have e2 : opG (dOrK s K) s (i + (kidT 10 a.kind (textE a).1).length + 1 + (signB n).length) = .good z (i + (kidT 10 a.kind (textE a).1).length + 1 + (signB n).length + 1 + (kidT 10 b.kind (textE b).1).length) := e2
            rw [e2]
            refine .inl ⟨twoE (4 + (n : Int)) y z, ?_, ?_⟩
            · simp only [Got.good.injEq, true_and, List.length_append, List.length_cons]; omega
            · unfold twoE
              rw [sameE, sameL, sameL, sameL, hs, hs2, use_same hu]; simp
          · have e2 : opG (dOrK s K) s (i + (kidT 10 a.kind (textE a).1).length + 1 + (signB n).length) = .wrong p 3 := e2
            rw [e2]; exact .inr ⟨p, rfl⟩
        · have e : opG (dOrK s K) s i = .wrong p 3 := e
          rw [e]; exact .inr ⟨p, rfl⟩
      -- the head is no '!'
      have h33 : hc ≠ 33 := by
        have hkk : kidT 10 a.kind (textE a).1 = hc :: hr := hce
        unfold kidT at hkk
        by_cases h10 : 10 ≤ a.kind ∧ a.kind ≤ 12
        · rw [decide_eq_true h10, cond_true] at hkk
          obtain ⟨ka, ta, ua, la⟩ := a
          obtain ⟨hea, hma1, _⟩ := text_node hma
          have h10 : 10 ≤ ka ∧ ka ≤ 12 := h10
          rw [hea] at hkk
          rcases may_kinds hma1 with h | ⟨rfl, _⟩ | ⟨rfl, _, hta, _⟩ | ⟨rfl, _⟩ | h
          · omega
          · rw [nodeT_10] at hkk; simp at hkk; rw [← hkk.1]; decide
          · rw [nodeT_11] at hkk
            obtain ⟨c, r, rfl, hdg, _⟩ := numOk_cons hta
            have hkk : c :: r = hc :: hr := hkk
            cases hkk
            exact (dig_facts hdg).2.1
          · rw [nodeT_12] at hkk
            have hkk : usedB ua = hc :: hr := hkk
            rw [usedB_eq] at hkk
            cases hkk; decide
          · omega
        · rw [decide_eq_false h10, cond_false] at hkk
          simp at hkk; rw [← hkk.1]; decide
      have hrsi : rs s i = hc :: (hr ++ (32 :: (signB n ++ 32 :: (kidT 10 b.kind (textE b).1 ++ rest)))) := by
        rw [hce] at hd1
        exact (rs_of hi hd1 hcb).1
      rw [not_of_cmp hrsi h33]
      exact hcmp
/-- What is parsed of a tree's text is that tree, unless it is nested too deep. -/
theorem back_text {x : Ex} (h : mayE x = true) : (∃ y, testB (textE x).1 = (y, 0, 0) ∧ sameE x y = true) ∨ ∃ p, testB (textE x).1 = (noEx, p, 3) := by
  have hL := found_text x h (textE x).1 16 0 [] (Nat.zero_le _) (by simp) stop_nil
  have hd : (textE x).1.drop (0 + (textE x).1.length) = [] := by simp
  have hh := hit_of_row (hL.or ns_nil (na_nil _)) hd (na_nil _)
  rw [← orK_eq] at hh
  rcases hh with ⟨y, e, hs⟩ | ⟨p, e⟩
  · refine .inl ⟨y, testB_of e ?_, hs⟩
    unfold rs; rw [hd]; rfl
  · exact .inr ⟨p, by unfold testB; rw [e]⟩

/-! What was parsed has a text, and is not great. -/
def OkG (i : Nat) : Got → Prop
  | .good x t => weightE x + 2 * i ≤ 2 * t ∧ mayE x = true
  | .wrong _ _ => True
def OkF (s : Bs) (f : Nat → Got) : Prop := ∀ i, i ≤ s.length → OkG i (f i)
def OkO (s : Bs) (f : Option (Nat → Got)) : Prop := ∀ g, f = some g → OkF s g
theorem may_leaf10 {t : Bs} (h : hasB 39 t = false) : mayE (wordE 10 t) = true := by
  unfold wordE mayE mayN mayL
  rw [if_neg (by decide), if_pos rfl, h, useEq_refl]; rfl
theorem may_leaf11 {t : Bs} (h : numOk t = true) : mayE (wordE 11 t) = true := by
  unfold wordE mayE mayN mayL
  rw [if_neg (by decide), if_neg (by decide), if_pos rfl, h, useEq_refl]; rfl
theorem may_leaf12 {u : UseI} (h : useOk u = true) : mayE (varE u) = true := by
  unfold varE mayE mayN mayL
  rw [if_neg (by decide), if_neg (by decide), if_neg (by decide), if_pos rfl, h]; rfl
theorem may_one3 {x : Ex} (h : mayE x = true) : mayE (oneE 3 x) = true := by
  unfold oneE
  rw [mayE, mayL_one, h]
  unfold mayN
  rw [if_pos rfl, useEq_refl]; rfl
theorem may_two {k : Int} {x y : Ex} (hk : k = 1 ∨ k = 2 ∨ (4 ≤ k ∧ k ≤ 9)) (h : mayE x = true) (h2 : mayE y = true) : mayE (twoE k x y) = true := by
  unfold twoE
  rw [mayE, mayL_two, h, h2]
  unfold mayN
  rw [if_neg (by omega), if_neg (by omega), if_neg (by omega), if_neg (by omega), useEq_refl, decide_eq_true (show 1 ≤ k ∧ k ≤ 12 by omega)]; rfl
theorem weight_word (k : Int) (t : Bs) : weightE (wordE k t) = 1 + t.length := by
  unfold wordE weightE weightL noUseI; simp
theorem weight_two (k : Int) (x y : Ex) : weightE (twoE k x y) = 1 + weightE x + weightE y := by
  unfold twoE
  rw [weightE, weightL, weightL, weightL]; simp [noUseI]; omega
theorem weight_one (k : Int) (x : Ex) : weightE (oneE k x) = 1 + weightE x := by
  unfold oneE
  rw [weightE, weightL, weightL]; simp [noUseI]
theorem op_ok {s : Bs} {d : Option (Nat → Got)} (hd : OkO s d) (hf : FitsO s d) : OkF s (opG d s) := by
  intro i hi
  have hg := pa_ge s hi
  have hl := pa_le s i
  unfold opG
  cases hr : rs s i with
  | nil => trivial
  | cons c r =>
    have hn := rs_lt hi hr
    show OkG i (bif c == 40 then _ else _)
    cases c == 40
    · rw [cond_false]
      cases c == 39
      · rw [cond_false]
        cases hdg : dig c
        · rw [cond_false]
          unfold varG
          cases hp : partsAt (c :: r) with
          | none => trivial
          | some p =>
            obtain ⟨h1, _, _, h2⟩ := partsAt_len hp
            have h3 := (useAt_ok h2).len
            simp only [List.length_cons] at h1
            rw [List.length_drop, List.length_cons] at h3
            refine ⟨?_, may_leaf12 (useOk_parsed hp _ _)⟩
            have : weightE (varE (useIE s.length (pa s i) p)) = 1 + p.name.length + p.key.length + p.dft.length := by
              unfold varE weightE weightL useIE; simp
            rw [this]; omega
        · rw [cond_true]
          unfold numG
          have h2 : 1 ≤ ((c :: r).takeWhile dig).length := by rw [List.takeWhile_cons, if_pos hdg]; simp
          by_cases h18 : ((c :: r).takeWhile dig).length ≤ 18
          · rw [decide_eq_true h18]
            refine ⟨by rw [weight_word]; omega, may_leaf11 ?_⟩
            unfold numOk
            rw [decide_eq_true h18, all_take, List.takeWhile_cons, if_pos hdg]; rfl
          · rw [decide_eq_false h18]; trivial
      · rw [cond_true]
        unfold quG
        cases hq : r.contains 39
        · trivial
        · exact ⟨by rw [weight_word]; omega, may_leaf10 (hasB_upto _ _)⟩
    · rw [cond_true]
      unfold brG
      cases d with
      | none => trivial
      | some f =>
        have hx1 := hd f rfl (pa s i + 1) (by omega)
        have hx2 := hf f rfl (pa s i + 1) (by omega)
        show OkG i (match f (pa s i + 1) with | .wrong p e => .wrong p e | .good x t => bif hasPrefix (rs s t) [41] then .good x (pa s t + 1) else .wrong (pa s t) 15)
        cases hx : f (pa s i + 1) with
        | wrong p e => trivial
        | good x t =>
          rw [hx] at hx1 hx2
          have hx2 : pa s i + 1 < t ∧ t ≤ s.length := hx2
          have hx1 : weightE x + 2 * (pa s i + 1) ≤ 2 * t ∧ mayE x = true := hx1
          have h3 := pa_ge s hx2.2
          show OkG i (bif hasPrefix (rs s t) [41] then .good x (pa s t + 1) else .wrong (pa s t) 15)
          cases hasPrefix (rs s t) [41]
          · trivial
          · exact ⟨by omega, hx1.2⟩
theorem cmp_ok {s : Bs} {d : Option (Nat → Got)} (hd : OkO s d) (hf : FitsO s d) : OkF s (cmpG d s) := by
  intro i hi
  have h1 := op_ok hd hf i hi
  have h2 := op_fits hf i hi
  unfold cmpG
  cases ho : opG d s i with
  | wrong p e => trivial
  | good x t =>
    rw [ho] at h1 h2
    have h2 : i < t ∧ t ≤ s.length := h2
    have h1 : weightE x + 2 * i ≤ 2 * t ∧ mayE x = true := h1
    show OkG i (cmpOn d s x t)
    unfold cmpOn
    cases hs : signAt (rs s t) with
    | none => exact h1
    | some kn =>
      obtain ⟨k, n⟩ := kn
      obtain ⟨l1, l2, _, l4⟩ := sign_len hs
      have h4 := rs_len s h2.2
      have h5 := pa_ge s h2.2
      have h6 := pa_le s t
      have h7 := op_ok hd hf (pa s t + n) (by omega)
      show OkG i (match opG d s (pa s t + n) with | .wrong p e => .wrong p e | .good y t2 => .good (twoE (4 + k) x y) t2)
      cases ho2 : opG d s (pa s t + n) with
      | wrong p e => trivial
      | good y t2 =>
        rw [ho2] at h7
        have h7 : weightE y + 2 * (pa s t + n) ≤ 2 * t2 ∧ mayE y = true := h7
        exact ⟨by rw [weight_two]; omega, may_two (by omega) h1.2 h7.2⟩
theorem not_ok {s : Bs} {d1 d2 : Option (Nat → Got)} (h1 : OkO s d1) (hf : FitsO s d1) (h2 : OkO s d2) : OkF s (notG d1 d2 s) := by
  intro i hi
  unfold notG
  cases hp : hasPrefix (rs s i) [33]
  · exact cmp_ok h1 hf i hi
  · have h3 := pfx_lt hi hp
    have h4 := pa_ge s hi
    simp only [List.length_singleton] at h3
    rw [cond_true]
    cases d2 with
    | none => trivial
    | some f =>
      have hx1 := h2 f rfl (pa s i + 1) (by omega)
      show OkG i (match f (pa s i + 1) with | .wrong p e => .wrong p e | .good x t => .good (oneE 3 x) t)
      cases hx : f (pa s i + 1) with
      | wrong p e => trivial
      | good x t =>
        rw [hx] at hx1
        have hx1 : weightE x + 2 * (pa s i + 1) ≤ 2 * t ∧ mayE x = true := hx1
        exact ⟨by rw [weight_one]; omega, may_one3 hx1.2⟩
theorem rowOn_ok {s : Bs} {one : Nat → Got} (h : OkF s one) (hf : FitsF s one) {kind : Int} (hk : kind = 1 ∨ kind = 2 ∨ (4 ≤ kind ∧ kind ≤ 9)) (sign : UInt8) (i : Nat) : ∀ (n : Nat) (x : Ex) (t : Nat), weightE x + 2 * i ≤ 2 * t → mayE x = true → t ≤ s.length → OkG i (rowOn one kind sign s n x t)
  | 0, _, _, h1, h2, _ => ⟨h1, h2⟩
  | n + 1, x, t, h1, h2, h3 => by
    unfold rowOn
    cases hp : hasPrefix (rs s t) [sign]
    · exact ⟨h1, h2⟩
    · have h4 := pfx_lt h3 hp
      have h5 := pa_ge s h3
      simp only [List.length_singleton] at h4
      have h6 := h (pa s t + 1) (by omega)
      have h7 := hf (pa s t + 1) (by omega)
      rw [cond_true]
      cases ho : one (pa s t + 1) with
      | wrong p e => trivial
      | good y t2 =>
        rw [ho] at h6 h7
        have h6 : weightE y + 2 * (pa s t + 1) ≤ 2 * t2 ∧ mayE y = true := h6
        have h7 : pa s t + 1 < t2 ∧ t2 ≤ s.length := h7
        exact rowOn_ok h hf hk sign i n _ t2 (by rw [weight_two]; omega) (may_two hk h2 h6.2) h7.2
theorem row_ok {s : Bs} {one : Nat → Got} (h : OkF s one) (hf : FitsF s one) {kind : Int} (hk : kind = 1 ∨ kind = 2 ∨ (4 ≤ kind ∧ kind ≤ 9)) (sign : UInt8) : OkF s (rowG one kind sign s) := by
  intro i hi
  have h1 := h i hi
  have h2 := hf i hi
  unfold rowG
  cases ho : one i with
  | wrong p e => trivial
  | good x t =>
    rw [ho] at h1 h2
    have h2 : i < t ∧ t ≤ s.length := h2
    exact rowOn_ok h hf hk sign i _ x t h1.1 h1.2 h2.2
theorem lev_ok (s : Bs) : ∀ k, OkF s (orK s k) ∧ OkF s (notK s k)
  | 0 => by
    have h0 : OkO s none := fun g h => by cases h
    have f0 : FitsO s none := fun g h => by cases h
    have hn : OkF s (notK s 0) := not_ok h0 f0 h0
    exact ⟨row_ok (row_ok hn (lev_fits s 0).2 (.inr (.inl rfl)) 38) (and_fits s 0) (.inl rfl) 124, hn⟩
  | k + 1 => by
    obtain ⟨h1, h2⟩ := lev_ok s k
    have hn : OkF s (notK s (k + 1)) := not_ok (d1 := some (orK s k)) (d2 := some (notK s k)) (fun g e => by cases e; exact h1) (fitsO_some (lev_fits s k).1) (fun g e => by cases e; exact h2)
    exact ⟨row_ok (row_ok hn (lev_fits s (k + 1)).2 (.inr (.inl rfl)) 38) (and_fits s (k + 1)) (.inl rfl) 124, hn⟩
/-- What was parsed may be, and its text is not long. -/
theorem parsed_ok {s : Bs} (h : (testB s).2.2 = 0) : mayE (testB s).1 = true ∧ weightE (testB s).1 ≤ 2 * s.length := by
  obtain ⟨x, t, h1, h2, _, h4⟩ := testB_good h
  have := (lev_ok s 16).1 0 (Nat.zero_le _)
  rw [h1] at this
  have this : weightE x + 2 * 0 ≤ 2 * t ∧ mayE x = true := this
  rw [h4]
  exact ⟨this.2, by show weightE x ≤ _; omega⟩
theorem weight_may_pos (x : Ex) : 1 ≤ weightE x := by obtain ⟨k, t, u, l⟩ := x; rw [weightE]; omega
/-- What Put answers of a tree is parsed as that tree. -/
theorem put_back {x : Ex} (h : (putE x).2 = 0) : ∃ y, testB (putE x).1 = (y, 0, 0) ∧ sameE x y = true := by
  unfold putE at h ⊢
  cases hm : mayE x
  · rw [hm] at h; cases h
  · rw [hm] at h
    rw [cond_true] at h ⊢
    rcases back_text hm with ⟨y, e, hs⟩ | ⟨p, e⟩
    · rw [e]; exact ⟨y, e, hs⟩
    · rw [e] at h; cases h
theorem put_wrong (x : Ex) : (putE x).2 = 0 ∨ ((putE x).1 = [] ∧ ((putE x).2 = 15 ∨ (putE x).2 = 3)) := by
  unfold putE
  cases hm : mayE x
  · exact .inr ⟨rfl, .inl rfl⟩
  · rw [cond_true]
    rcases back_text hm with ⟨y, e, hs⟩ | ⟨p, e⟩
    · rw [e]; exact .inl rfl
    · rw [e]; exact .inr ⟨rfl, .inr rfl⟩
theorem put_parsed {x : Ex} (h : mayE x = true) : (putE x).2 = 0 ∨ (putE x).2 = 3 := by
  unfold putE
  rw [h, cond_true]
  rcases back_text h with ⟨y, e, hs⟩ | ⟨p, e⟩
  · rw [e]; exact .inl rfl
  · rw [e]; exact .inr rfl
end Go.Proofs.YtehdeclpighdeaaGreatDoor
