/- What a rule of the tests finds stays, if blanks and a bracket stand around the text: the places are moved alone. Plain. -/
import Derived.Test.YtehdeclpighdeaaGreatDoorTestP
namespace Go.Proofs.YtehdeclpighdeaaGreatDoor
open Go.Lib

/-! Prefixes, and scans of a text behind which more stands. -/
theorem pfx1 (c x : UInt8) (r : Bs) : hasPrefix (x :: r) [c] = (c == x) := by simp [hasPrefix, List.isPrefixOf]
theorem pfx_nil (c : UInt8) : hasPrefix [] [c] = false := rfl
theorem pfx_two (c d x y : UInt8) (r : Bs) : hasPrefix (x :: y :: r) [c, d] = (c == x && d == y) := by simp [hasPrefix, List.isPrefixOf]
theorem pfx_app {r p : Bs} (h : hasPrefix r p = true) (q : Bs) : hasPrefix (r ++ q) p = true := by
  unfold hasPrefix at h ⊢
  exact List.isPrefixOf_iff_prefix.2 ((List.isPrefixOf_iff_prefix.1 h).trans (List.prefix_append r q))
theorem pfx1_app {r : Bs} (c : UInt8) (h : r ≠ []) (q : Bs) : hasPrefix (r ++ q) [c] = hasPrefix r [c] := by
  cases r with
  | nil => exact absurd rfl h
  | cons x r => rw [List.cons_append, pfx1, pfx1]
theorem tpfx_app {r p : Bs} (h : hasPrefix r p = true) (q : Bs) : trimPrefix (r ++ q) p = trimPrefix r p ++ q := by
  unfold trimPrefix
  rw [if_pos h, if_pos (pfx_app h q), List.drop_append_of_le_length (pfx_len h)]
theorem scan_app (p : UInt8 → Bool) (q : Bs) : ∀ l : Bs, l.dropWhile p ≠ [] → (l ++ q).takeWhile p = l.takeWhile p ∧ (l ++ q).dropWhile p = l.dropWhile p ++ q
  | [], h => absurd rfl h
  | x :: l, h => by
    rw [List.cons_append, List.takeWhile_cons, List.takeWhile_cons, List.dropWhile_cons, List.dropWhile_cons]
    cases hx : p x
    · exact ⟨rfl, rfl⟩
    · rw [List.dropWhile_cons, if_pos hx] at h
      obtain ⟨h1, h2⟩ := scan_app p q l h
      simp only [if_true]
      exact ⟨by rw [h1], h2⟩
theorem take_app (p : UInt8 → Bool) {q : Bs} (hq : ∀ c r, q = c :: r → p c = false) : ∀ l : Bs, (l ++ q).takeWhile p = l.takeWhile p
  | [] => by
    cases q with
    | nil => rfl
    | cons c r => rw [List.nil_append, List.takeWhile_cons, hq c r rfl]; rfl
  | x :: l => by
    rw [List.cons_append, List.takeWhile_cons, List.takeWhile_cons, take_app p hq l]
theorem has_drop {c : UInt8} {l : Bs} (h : l.contains c = true) : l.dropWhile (· != c) ≠ [] := by
  intro e
  have h1 := lead_lt c l h
  have h2 := congrArg List.length e
  rw [← drop_lead, List.length_drop, List.length_nil] at h2
  omega
theorem upApp {c : UInt8} {l : Bs} (h : l.contains c = true) (q : Bs) : upto c (l ++ q) = upto c l := (scan_app _ q l (has_drop h)).1
theorem pastApp {c : UInt8} {l : Bs} (h : l.contains c = true) (q : Bs) : past c (l ++ q) = past c l ++ q := by
  unfold past
  rw [(scan_app _ q l (has_drop h)).2, List.drop_append_of_le_length]
  have := has_drop h
  cases hd : l.dropWhile (· != c) with
  | nil => exact absurd hd this
  | cons a r => simp
theorem hasApp {c : UInt8} {l : Bs} (h : l.contains c = true) (q : Bs) : (l ++ q).contains c = true := by
  rw [List.contains_eq_mem, decide_eq_true_eq] at h ⊢
  exact List.mem_append_left q h

/-! A use, behind which more stands. -/
theorem keyAt_app {r k r2 : Bs} {hk : Bool} (h0 : r ≠ []) (h : keyAt r = some (k, hk, r2)) (q : Bs) : keyAt (r ++ q) = some (k, hk, r2 ++ q) := by
  unfold keyAt at h ⊢
  rw [pfx1_app 123 h0]
  cases h1 : hasPrefix r [123]
  · rw [h1] at h; cases h; rfl
  · rw [h1] at h
    rw [tpfx_app h1]
    simp only [cond_true] at h ⊢
    cases h2 : (trimPrefix r [123]).contains 125
    · rw [h2] at h; cases h
    · rw [hasApp h2, upApp h2, pastApp h2]
      rw [h2] at h
      cases h3 : vkey (upto 125 (trimPrefix r [123]))
      · rw [h3] at h; cases h
      · rw [h3] at h
        simp only [Bool.and_self, cond_true, Option.some.injEq, Prod.mk.injEq] at h ⊢
        exact ⟨h.1, h.2.1, by rw [h.2.2]⟩
theorem dftAt_app {r d r3 : Bs} {hd : Bool} (h0 : r ≠ []) (h : dftAt r = some (d, hd, r3)) (h3 : r3 ≠ []) (q : Bs) : dftAt (r ++ q) = some (d, hd, r3 ++ q) := by
  unfold dftAt at h ⊢
  rw [pfx1_app 124 h0]
  cases h1 : hasPrefix r [124]
  · rw [h1] at h; cases h; rfl
  · rw [h1] at h
    rw [tpfx_app h1]
    simp only [cond_true] at h ⊢
    generalize trimPrefix r [124] = v at h ⊢
    have hv : v ≠ [] := by
      intro e; subst e; cases h
    unfold dftIn at h ⊢
    rw [pfx1_app 39 hv]
    cases h2 : hasPrefix v [39]
    · rw [h2] at h
      simp only [cond_false] at h ⊢
      cases h4 : (v.takeWhile keyc).isEmpty
      · rw [h4] at h
        simp only [cond_false, Option.some.injEq, Prod.mk.injEq] at h
        have hn : v.dropWhile keyc ≠ [] := by rw [h.2.2]; exact h3
        obtain ⟨e1, e2⟩ := scan_app keyc q v hn
        rw [e1, e2, h4]
        simp only [cond_false, Option.some.injEq, Prod.mk.injEq]
        exact ⟨h.1, h.2.1, by rw [h.2.2]⟩
      · rw [h4] at h; cases h
    · rw [h2] at h
      simp only [cond_true] at h ⊢
      rw [tpfx_app h2]
      cases h4 : (trimPrefix v [39]).contains 39
      · rw [h4] at h; cases h
      · rw [h4] at h
        rw [hasApp h4, upApp h4, pastApp h4]
        simp only [cond_true, Option.some.injEq, Prod.mk.injEq] at h ⊢
        exact ⟨h.1, h.2.1, by rw [h.2.2]⟩
theorem endAt_ne {nm k d r : Bs} {hk hd : Bool} {p : Parts} (h : endAt nm k d hk hd r = some p) : r ≠ [] := by
  intro e; subst e; cases h
theorem endAt_app {nm k d r : Bs} {hk hd : Bool} {p : Parts} (h : endAt nm k d hk hd r = some p) (q : Bs) : endAt nm k d hk hd (r ++ q) = some { p with rest := p.rest ++ q } := by
  have h0 := endAt_ne h
  unfold endAt at h ⊢
  rw [pfx1_app 41 h0]
  cases h1 : hasPrefix r [41]
  · rw [h1] at h; cases h
  · rw [h1] at h
    rw [tpfx_app h1]
    simp only [cond_true, Option.some.injEq] at h ⊢
    subst h; rfl
theorem useAt_app {r : Bs} {p : Parts} (h : useAt r = some p) (q : Bs) : useAt (r ++ q) = some { p with rest := p.rest ++ q } := by
  unfold useAt at h
  cases h1 : vknown (r.takeWhile letc)
  · rw [h1] at h; cases h
  · rw [h1] at h
    simp only [cond_true] at h
    cases h2 : keyAt (r.dropWhile letc) with
    | none => rw [h2] at h; cases h
    | some v =>
      obtain ⟨k, hk, r2⟩ := v
      rw [h2] at h
      change otherAt (r.takeWhile letc) k hk r2 = some p at h
      unfold otherAt at h
      cases h3 : dftAt r2 with
      | none => rw [h3] at h; cases h
      | some v =>
        obtain ⟨d, hd, r3⟩ := v
        rw [h3] at h
        change endAt (r.takeWhile letc) k d hk hd r3 = some p at h
        have n3 := endAt_ne h
        have n2 : r2 ≠ [] := by intro e; subst e; cases h3; exact n3 rfl
        have n1 : r.dropWhile letc ≠ [] := by intro e; rw [e] at h2; cases h2; exact n2 rfl
        obtain ⟨e1, e2⟩ := scan_app letc q r n1
        unfold useAt
        rw [e1, e2, h1, keyAt_app n1 h2 q]
        show otherAt (r.takeWhile letc) k hk (r2 ++ q) = _
        unfold otherAt
        rw [dftAt_app n2 h3 n3 q]
        exact endAt_app h q
theorem partsAt_app {s : Bs} {p : Parts} (h : partsAt s = some p) (q : Bs) : partsAt (s ++ q) = some { p with rest := p.rest ++ q } := by
  obtain ⟨_, hb, _, hu⟩ := partsAt_len h
  have h2 : begins (s ++ q) = true := pfx_app hb q
  rw [partsAt_yes h2, show List.drop 2 (s ++ q) = List.drop 2 s ++ q from List.drop_append_of_le_length (pfx_len hb)]
  exact useAt_app hu q

/-! A text that stands in another one. -/
/-- What may stand behind a text: blanks, and a bracket behind them. -/
structure TailQ (q : Bs) : Prop where
  head : ∀ c r, q = c :: r → blk c = true ∨ c = 41
  past : ∀ c r, q.dropWhile blk = c :: r → c = 41
/-- A text s stands in another one, from a place on. -/
structure In (s s' : Bs) (d : Nat) (q : Bs) : Prop where
  eq : s'.drop d = s ++ q
  le : d ≤ s'.length
  tail : TailQ q
section
variable {s s' q : Bs} {d : Nat}
theorem In.len (h : In s s' d q) : s'.length = d + s.length + q.length := by
  have := congrArg List.length h.eq
  rw [List.length_drop, List.length_append] at this
  have := h.le; omega
theorem In.drop (h : In s s' d q) {i : Nat} (hi : i ≤ s.length) : s'.drop (i + d) = s.drop i ++ q := by
  rw [Nat.add_comm, ← List.drop_drop, h.eq, List.drop_append_of_le_length hi]
theorem rs_in (h : In s s' d q) {i : Nat} (hi : i ≤ s.length) (hr : rs s i ≠ []) : rs s' (i + d) = rs s i ++ q ∧ pa s' (i + d) = pa s i + d := by
  have e : rs s' (i + d) = rs s i ++ q := by
    unfold rs
    rw [h.drop hi]
    exact (scan_app blk q (s.drop i) hr).2
  refine ⟨e, ?_⟩
  have h1 := rs_len s hi
  have h2 := h.len
  have h3 := pa_le s i
  show s'.length - (rs s' (i + d)).length = _
  rw [e, List.length_append]; omega
theorem rs_out (h : In s s' d q) {i : Nat} (hi : i ≤ s.length) (hr : rs s i = []) : rs s' (i + d) = q.dropWhile blk := by
  have hall := (dropWhile_nil_iff blk (s.drop i)).1 hr
  unfold rs
  rw [h.drop hi]
  generalize s.drop i = l at hall
  induction l with
  | nil => rfl
  | cons c r ih =>
    rw [List.all_cons, Bool.and_eq_true] at hall
    rw [List.cons_append, List.dropWhile_cons, if_pos hall.1]
    exact ih hall.2
/-- No sign but the bracket stands behind. -/
theorem pfx_in (h : In s s' d q) {i : Nat} (hi : i ≤ s.length) {c : UInt8} (hc : c ≠ 41) : hasPrefix (rs s' (i + d)) [c] = hasPrefix (rs s i) [c] := by
  rcases Decidable.em (rs s i = []) with hr | hr
  · rw [rs_out h hi hr, hr]
    cases hq : q.dropWhile blk with
    | nil => rfl
    | cons x r =>
      have := h.tail.past x r hq
      subst this
      rw [pfx1, pfx_nil]
      exact beq_eq_false_iff_ne.2 hc
  · rw [(rs_in h hi hr).1, pfx1_app c hr]
theorem pfx2_in (h : In s s' d q) {r : Bs} (hr : r ≠ []) (a : UInt8) : hasPrefix (r ++ q) [a, 61] = hasPrefix r [a, 61] := by
  cases r with
  | nil => exact absurd rfl hr
  | cons x r =>
    cases r with
    | nil =>
      have e : hasPrefix [x] [a, 61] = false := by simp [hasPrefix, List.isPrefixOf]
      rw [e]
      cases q with
      | nil => exact e
      | cons c q =>
        have : c ≠ 61 := by
          rcases h.tail.head c q rfl with hb | rfl
          · intro e; subst e; cases hb
          · decide
        rw [List.singleton_append, pfx_two]
        have : (61 == c) = false := beq_eq_false_iff_ne.2 (Ne.symm this)
        rw [this, Bool.and_false]
    | cons y r => rw [List.cons_append, List.cons_append, pfx_two, pfx_two]
theorem sign_in (h : In s s' d q) {i : Nat} (hi : i ≤ s.length) : signAt (rs s' (i + d)) = signAt (rs s i) := by
  rcases Decidable.em (rs s i = []) with hr | hr
  · rw [rs_out h hi hr, hr]
    cases hq : q.dropWhile blk with
    | nil => rfl
    | cons x r =>
      have := h.tail.past x r hq
      subst this
      unfold signAt
      have e1 : ∀ a, a ≠ 41 → hasPrefix (41 :: r) [a, 61] = false := fun a ha => by
        cases r with
        | nil => simp [hasPrefix, List.isPrefixOf]
        | cons y r =>
          rw [pfx_two]
          have : (a == 41) = false := beq_eq_false_iff_ne.2 ha
          rw [this, Bool.false_and]
      rw [e1 61 (by decide), e1 33 (by decide), e1 60 (by decide), e1 62 (by decide), pfx1, pfx1]
      rfl
  · rw [(rs_in h hi hr).1]
    unfold signAt
    rw [pfx2_in h hr, pfx2_in h hr, pfx2_in h hr, pfx2_in h hr, pfx1_app 60 hr, pfx1_app 62 hr]
theorem TailQ.dig (h : TailQ q) : ∀ c r, q = c :: r → dig c = false := by
  intro c r e
  rcases h.head c r e with hb | rfl
  · unfold blk at hb
    rw [decide_eq_true_eq] at hb
    unfold YtehdeclpighdeaaGreatDoor.dig
    exact decide_eq_false (by omega)
  · decide
end

/-- What was found is found there; or it is nested too deep there. -/
def Moved (low : Prop) (d : Nat) : Got → Got → Prop
  | .good x t, .good x' t' => sameE x x' = true ∧ t' = t + d
  | .good _ _, .wrong _ e => low ∧ e = 3
  | .wrong _ _, _ => True
def MovedF (low : Prop) (s : Bs) (d : Nat) (f f' : Nat → Got) : Prop := ∀ i, i ≤ s.length → Moved low d (f i) (f' (i + d))
def MovedO (low : Prop) (s : Bs) (d : Nat) (o o' : Option (Nat → Got)) : Prop := ∀ f, o = some f → (o' = none ∧ low) ∨ ∃ f', o' = some f' ∧ MovedF low s d f f'
theorem sameTwo (k : Int) (x y x' y' : Ex) (h : sameE x x' = true) (h2 : sameE y y' = true) : sameE (twoE k x y) (twoE k x' y') = true := by
  unfold twoE sameE sameL sameL sameL
  rw [h, h2, useSame_refl]; simp
theorem same_one (k : Int) (x x' : Ex) (h : sameE x x' = true) : sameE (oneE k x) (oneE k x') = true := by
  unfold oneE sameE sameL sameL
  rw [h, useSame_refl]; simp
theorem same_var (n i n' i' : Nat) (p : Parts) (r : Bs) : sameE (varE (useIE n i p)) (varE (useIE n' i' { p with rest := r })) = true := by
  unfold varE sameE sameL useIE useSame
  simp
section
variable {s s' q : Bs} {d : Nat} {low : Prop}
theorem op_moved (h : In s s' d q) {o o' : Option (Nat → Got)} (ho : MovedO low s d o o') (hf : FitsO s o) : MovedF low s d (opG o s) (opG o' s') := by
  intro i hi
  unfold opG
  cases hr : rs s i with
  | nil => exact trivial
  | cons c r =>
    obtain ⟨e1, e2⟩ := rs_in h hi (by rw [hr]; exact List.cons_ne_nil _ _)
    have hn := rs_lt hi hr
    have hlen := h.len
    rw [e1, e2, hr, List.cons_append]
    show Moved low d (bif c == 40 then _ else _) (bif c == 40 then _ else _)
    cases c == 40
    · rw [cond_false, cond_false]
      cases c == 39
      · rw [cond_false, cond_false]
        cases hdg : dig c
        · rw [cond_false, cond_false]
          unfold varG
          cases hp : partsAt (c :: r) with
          | none => exact trivial
          | some p =>
            rw [← List.cons_append, partsAt_app hp]
            refine ⟨same_var _ _ _ _ _ _, ?_⟩
            obtain ⟨h1, _⟩ := partsAt_len hp
            simp only [List.length_cons] at h1
            show s'.length - (p.rest ++ q).length = s.length - p.rest.length + d
            rw [List.length_append]; omega
        · rw [cond_true, cond_true, ← List.cons_append, take_app dig h.tail.dig]
          unfold numG
          cases decide (((c :: r).takeWhile dig).length ≤ 18)
          · exact trivial
          · exact ⟨sameE_refl _, by omega⟩
      · rw [cond_true, cond_true]
        unfold quG
        cases hq : r.contains 39
        · exact trivial
        · rw [hasApp hq, upApp hq]
          exact ⟨sameE_refl _, by omega⟩
    · rw [cond_true, cond_true]
      unfold brG
      cases o with
      | none => exact trivial
      | some f =>
        rcases ho f rfl with ⟨rfl, hl⟩ | ⟨f', rfl, hm⟩
        · show Moved low d (match f (pa s i + 1) with | .wrong p e => .wrong p e | .good x t => bif hasPrefix (rs s t) [41] then .good x (pa s t + 1) else .wrong (pa s t) 15) (.wrong (pa s i + d) 3)
          cases f (pa s i + 1) with
          | wrong p e => exact trivial
          | good x t =>
            show Moved low d (bif hasPrefix (rs s t) [41] then .good x (pa s t + 1) else .wrong (pa s t) 15) (.wrong (pa s i + d) 3)
            cases hasPrefix (rs s t) [41]
            · exact trivial
            · exact ⟨hl, rfl⟩
        · have hm := hm (pa s i + 1) (by omega)
          have hff := hf f rfl (pa s i + 1) (by omega)
          show Moved low d (match f (pa s i + 1) with | .wrong p e => .wrong p e | .good x t => bif hasPrefix (rs s t) [41] then .good x (pa s t + 1) else .wrong (pa s t) 15) (match f' (pa s i + d + 1) with | .wrong p e => .wrong p e | .good x t => bif hasPrefix (rs s' t) [41] then .good x (pa s' t + 1) else .wrong (pa s' t) 15)
          rw [show pa s i + d + 1 = pa s i + 1 + d from by omega]
          cases hx : f (pa s i + 1) with
          | wrong p e => exact trivial
          | good x t =>
            rw [hx] at hm hff
            have hff : pa s i + 1 < t ∧ t ≤ s.length := hff
            show Moved low d (bif hasPrefix (rs s t) [41] then .good x (pa s t + 1) else .wrong (pa s t) 15) _
            cases hp : hasPrefix (rs s t) [41]
            · exact trivial
            · have hne : rs s t ≠ [] := by intro e; rw [e] at hp; cases hp
              obtain ⟨e3, e4⟩ := rs_in h hff.2 hne
              cases hx' : f' (pa s i + 1 + d) with
              | wrong p e => rw [hx'] at hm; exact hm
              | good x' t' =>
                rw [hx'] at hm
                obtain ⟨hs, rfl⟩ := hm
                show Moved low d _ (bif hasPrefix (rs s' (t + d)) [41] then .good x' (pa s' (t + d) + 1) else .wrong (pa s' (t + d)) 15)
                rw [e3, pfx1_app 41 hne, hp, e4]
                exact ⟨hs, by omega⟩
theorem cmp_moved (h : In s s' d q) {o o' : Option (Nat → Got)} (ho : MovedO low s d o o') (hf : FitsO s o) : MovedF low s d (cmpG o s) (cmpG o' s') := by
  intro i hi
  have h1 := op_moved h ho hf i hi
  have h2 := op_fits hf i hi
  unfold cmpG
  cases hx : opG o s i with
  | wrong p e => exact trivial
  | good x t =>
    rw [hx] at h1 h2
    have h2 : i < t ∧ t ≤ s.length := h2
    show Moved low d (cmpOn o s x t) _
    have hg : ∀ p e, opG o' s' (i + d) = .wrong p e → Moved low d (cmpOn o s x t) (.wrong p e) := by
      intro p e hw
      rw [hw] at h1
      have h1 : low ∧ e = 3 := h1
      cases cmpOn o s x t with
      | wrong p e => exact trivial
      | good y t => exact h1
    cases hx' : opG o' s' (i + d) with
    | wrong p e => exact hg p e hx'
    | good x' t' =>
      rw [hx'] at h1
      obtain ⟨hs, rfl⟩ := h1
      show Moved low d _ (cmpOn o' s' x' (t + d))
      unfold cmpOn
      rw [sign_in h h2.2]
      cases hsg : signAt (rs s t) with
      | none => exact ⟨hs, rfl⟩
      | some kn =>
        obtain ⟨k, n⟩ := kn
        obtain ⟨l1, l2, _, _⟩ := sign_len hsg
        have hne : rs s t ≠ [] := by intro e; rw [e] at l1; simp at l1; omega
        obtain ⟨_, e4⟩ := rs_in h h2.2 hne
        have l3 := rs_len s h2.2
        have h7 := op_moved h ho hf (pa s t + n) (by omega)
        show Moved low d (match opG o s (pa s t + n) with | .wrong p e => .wrong p e | .good y t2 => .good (twoE (4 + k) x y) t2) (match opG o' s' (pa s' (t + d) + n) with | .wrong p e => .wrong p e | .good y t2 => .good (twoE (4 + k) x' y) t2)
        rw [e4, show pa s t + d + n = pa s t + n + d from by omega]
        cases hy : opG o s (pa s t + n) with
        | wrong p e => exact trivial
        | good y t2 =>
          rw [hy] at h7
          cases hy' : opG o' s' (pa s t + n + d) with
          | wrong p e => rw [hy'] at h7; exact h7
          | good y' t2' => rw [hy'] at h7; exact ⟨sameTwo _ _ _ _ _ hs h7.1, h7.2⟩
theorem not_moved (h : In s s' d q) {o o' v v' : Option (Nat → Got)} (ho : MovedO low s d o o') (hf : FitsO s o) (hv : MovedO low s d v v') : MovedF low s d (notG o v s) (notG o' v' s') := by
  intro i hi
  unfold notG
  rw [pfx_in h hi (by decide)]
  cases hp : hasPrefix (rs s i) [33]
  · exact cmp_moved h ho hf i hi
  · have hne : rs s i ≠ [] := by intro e; rw [e] at hp; cases hp
    obtain ⟨_, e4⟩ := rs_in h hi hne
    have hl := pfx_lt hi hp
    simp only [List.length_singleton] at hl
    rw [cond_true, cond_true, e4]
    cases v with
    | none => exact trivial
    | some f =>
      rcases hv f rfl with ⟨rfl, hlow⟩ | ⟨f', rfl, hm⟩
      · show Moved low d (match f (pa s i + 1) with | .wrong p e => .wrong p e | .good x t => .good (oneE 3 x) t) (.wrong (pa s i + d) 3)
        cases f (pa s i + 1) with
        | wrong p e => exact trivial
        | good x t => exact ⟨hlow, rfl⟩
      · have hm := hm (pa s i + 1) (by omega)
        show Moved low d (match f (pa s i + 1) with | .wrong p e => .wrong p e | .good x t => .good (oneE 3 x) t) (match f' (pa s i + d + 1) with | .wrong p e => .wrong p e | .good x t => .good (oneE 3 x) t)
        rw [show pa s i + d + 1 = pa s i + 1 + d from by omega]
        cases hx : f (pa s i + 1) with
        | wrong p e => exact trivial
        | good x t =>
          rw [hx] at hm
          cases hx' : f' (pa s i + 1 + d) with
          | wrong p e => rw [hx'] at hm; exact hm
          | good x' t' => rw [hx'] at hm; exact ⟨same_one _ _ _ hm.1, hm.2⟩
theorem rowOn_moved (h : In s s' d q) {one one' : Nat → Got} (ho : MovedF low s d one one') (hf : FitsF s one) (kind : Int) {sign : UInt8} (hs : sign ≠ 41) : ∀ (n n' : Nat) (x x' : Ex) (t : Nat), sameE x x' = true → t ≤ s.length → s.length < t + n → n ≤ n' → Moved low d (rowOn one kind sign s n x t) (rowOn one' kind sign s' n' x' (t + d))
  | 0, _, _, _, t, _, h1, h2, _ => by omega
  | n + 1, 0, _, _, _, _, _, _, h3 => by omega
  | n + 1, n' + 1, x, x', t, h0, h1, h2, h3 => by
    unfold rowOn
    rw [pfx_in h h1 hs]
    cases hp : hasPrefix (rs s t) [sign]
    · exact ⟨h0, rfl⟩
    · have hne : rs s t ≠ [] := by intro e; rw [e] at hp; cases hp
      obtain ⟨_, e4⟩ := rs_in h h1 hne
      have hl := pfx_lt h1 hp
      simp only [List.length_singleton] at hl
      have hg := pa_ge s h1
      have hm := ho (pa s t + 1) (by omega)
      have hff := hf (pa s t + 1) (by omega)
      rw [cond_true, cond_true, e4, show pa s t + d + 1 = pa s t + 1 + d from by omega]
      cases hy : one (pa s t + 1) with
      | wrong p e => exact trivial
      | good y t2 =>
        rw [hy] at hm hff
        have hff : pa s t + 1 < t2 ∧ t2 ≤ s.length := hff
        cases hy' : one' (pa s t + 1 + d) with
        | wrong p e =>
          rw [hy'] at hm
          have hm : low ∧ e = 3 := hm
          show Moved low d (rowOn one kind sign s n (twoE kind x y) t2) (.wrong p e)
          cases rowOn one kind sign s n (twoE kind x y) t2 with
          | wrong p e => exact trivial
          | good y t => exact hm
        | good y' t2' =>
          rw [hy'] at hm
          obtain ⟨hsm, rfl⟩ := hm
          exact rowOn_moved h ho hf kind hs n n' _ _ t2 (sameTwo _ _ _ _ _ h0 hsm) hff.2 (by omega) (by omega)
theorem row_moved (h : In s s' d q) {one one' : Nat → Got} (ho : MovedF low s d one one') (hf : FitsF s one) (kind : Int) {sign : UInt8} (hs : sign ≠ 41) : MovedF low s d (rowG one kind sign s) (rowG one' kind sign s') := by
  intro i hi
  have h1 := ho i hi
  have h2 := hf i hi
  have hl := h.len
  unfold rowG
  cases hx : one i with
  | wrong p e => exact trivial
  | good x t =>
    rw [hx] at h1 h2
    have h2 : i < t ∧ t ≤ s.length := h2
    cases hx' : one' (i + d) with
    | wrong p e =>
      rw [hx'] at h1
      have h1 : low ∧ e = 3 := h1
      show Moved low d (rowOn one kind sign s (s.length + 1) x t) (.wrong p e)
      cases rowOn one kind sign s (s.length + 1) x t with
      | wrong p e => exact trivial
      | good y t => exact h1
    | good x' t' =>
      rw [hx'] at h1
      obtain ⟨hsm, rfl⟩ := h1
      exact rowOn_moved h ho hf kind hs _ _ _ _ t hsm h2.2 (by omega) (by omega)
theorem or_moved (h : In s s' d q) {o o' v v' : Option (Nat → Got)} (ho : MovedO low s d o o') (hv : MovedO low s d v v') (hf : FitsO s o) (hfv : FitsO s v) : MovedF low s d (orG o v s) (orG o' v' s') :=
  row_moved h (row_moved h (not_moved h ho hf hv) (not_fits hf hfv) 2 (by decide)) (row_fits (not_fits hf hfv) 2 38) 1 (by decide)
end
theorem lev_moved {s s' q : Bs} {d : Nat} (h : In s s' d q) : ∀ k k', k' ≤ k → MovedF (k' < k) s d (orK s k) (orK s' k') ∧ MovedF (k' < k) s d (notK s k) (notK s' k')
  | 0, 0, _ => by
    have h0 : ∀ low, MovedO low s d none none := fun _ f e => by cases e
    have hf : FitsO s none := fun f e => by cases e
    exact ⟨or_moved h (h0 _) (h0 _) hf hf, not_moved h (h0 _) hf (h0 _)⟩
  | 0, _ + 1, hk => by omega
  | k + 1, 0, _ => by
    have h0 : ∀ f : Nat → Got, MovedO (0 < k + 1) s d (some f) none := fun f g e => .inl ⟨rfl, by omega⟩
    have hf1 := fitsO_some (lev_fits s k).1
    have hf2 := fitsO_some (lev_fits s k).2
    exact ⟨or_moved h (h0 _) (h0 _) hf1 hf2, not_moved h (h0 _) hf1 (h0 _)⟩
  | k + 1, k' + 1, hk => by
    obtain ⟨h1, h2⟩ := lev_moved h k k' (by omega)
    have e : (k' + 1 < k + 1) = (k' < k) := by rw [Nat.add_lt_add_iff_right]
    rw [e]
    have m1 : MovedO (k' < k) s d (some (orK s k)) (some (orK s' k')) := fun f e => by cases e; exact .inr ⟨_, rfl, h1⟩
    have m2 : MovedO (k' < k) s d (some (notK s k)) (some (notK s' k')) := fun f e => by cases e; exact .inr ⟨_, rfl, h2⟩
    have hf1 := fitsO_some (lev_fits s k).1
    have hf2 := fitsO_some (lev_fits s k).2
    exact ⟨or_moved h m1 m2 hf1 hf2, not_moved h m1 hf1 m2⟩

/-! Blanks ahead. -/
theorem pa_rs {s : Bs} {i j : Nat} (h : rs s i = rs s j) : pa s i = pa s j := by unfold pa; rw [h]
theorem row_start {one : Nat → Got} {i j : Nat} (h : one i = one j) (kind : Int) (sign : UInt8) (s : Bs) : rowG one kind sign s i = rowG one kind sign s j := by unfold rowG; rw [h]
theorem not_start {s : Bs} {i j : Nat} (h : rs s i = rs s j) (o v : Option (Nat → Got)) : notG o v s i = notG o v s j := by
  have e : cmpG o s i = cmpG o s j := by unfold cmpG opG; rw [h, pa_rs h]
  unfold notG
  rw [h, pa_rs h, e]
theorem or_start {s : Bs} {i j : Nat} (h : rs s i = rs s j) (k : Nat) : orK s k i = orK s k j := by
  rw [orK_eq]
  refine row_start ?_ 1 124 s
  unfold andK
  refine row_start ?_ 2 38 s
  rw [notK_eq]; exact not_start h _ _
theorem testB_good {s : Bs} (h : (testB s).2.2 = 0) : ∃ x t, orK s 16 0 = .good x t ∧ t ≤ s.length ∧ rs s t = [] ∧ testB s = (x, 0, 0) := by
  have hf := (lev_fits s 16).1 0 (Nat.zero_le _)
  unfold testB at h ⊢
  cases ho : orK s 16 0 with
  | wrong p e =>
    rw [ho] at h hf
    have h : e = 0 := h
    have hf : p ≤ s.length ∧ (e = 3 ∨ e = 15) := hf
    omega
  | good x t =>
    rw [ho] at h hf
    have hf : 0 < t ∧ t ≤ s.length := hf
    change (bif decide (pa s t = s.length) then (x, 0, 0) else (noEx, pa s t, 15) : Ex × Nat × Int).2.2 = 0 at h
    refine ⟨x, t, rfl, hf.2, ?_, ?_⟩
    · cases hd : decide (pa s t = s.length)
      · rw [hd] at h; cases h
      · rw [decide_eq_true_eq] at hd
        have := rs_len s hf.2
        exact List.length_eq_zero_iff.1 (by omega)
    · show (bif decide (pa s t = s.length) then (x, 0, 0) else (noEx, pa s t, 15) : Ex × Nat × Int) = _
      cases hd : decide (pa s t = s.length)
      · rw [hd] at h; cases h
      · rfl
theorem testB_of {s : Bs} {x : Ex} {t : Nat} (h : orK s 16 0 = .good x t) (hr : rs s t = []) : testB s = (x, 0, 0) := by
  unfold testB
  rw [h]
  show (bif decide (pa s t = s.length) then (x, 0, 0) else (noEx, pa s t, 15) : Ex × Nat × Int) = _
  rw [decide_eq_true (show pa s t = s.length by unfold pa; rw [hr]; rfl)]; rfl
theorem dw_blanks {p : UInt8 → Bool} : ∀ {l : Bs}, l.all p = true → ∀ r, (l ++ r).dropWhile p = r.dropWhile p
  | [], _, _ => rfl
  | c :: l, h, r => by
    rw [List.all_cons, Bool.and_eq_true] at h
    rw [List.cons_append, List.dropWhile_cons, if_pos h.1]; exact dw_blanks h.2 r
/-- Blanks at both ends make no difference to a tree. -/
theorem blanks_around {s gap : Bs} (hg : gap.all blk = true) (h : (testB s).2.2 = 0) : ∃ y, testB (gap ++ s ++ gap) = (y, 0, 0) ∧ sameE (testB s).1 y = true := by
  obtain ⟨x, t, h1, h2, h3, h4⟩ := testB_good h
  have hd : gap.dropWhile blk = [] := (dropWhile_nil_iff blk gap).2 hg
  have hI : In s (gap ++ s ++ gap) gap.length gap := by
    refine ⟨by rw [List.append_assoc, List.drop_left], by simp only [List.length_append]; omega, ⟨fun c r e => .inl ?_, fun c r e => by rw [hd] at e; cases e⟩⟩
    subst e
    rw [List.all_cons, Bool.and_eq_true] at hg; exact hg.1
  have hm := (lev_moved hI 16 16 (Nat.le_refl _)).1 0 (Nat.zero_le _)
  have hst : orK (gap ++ s ++ gap) 16 0 = orK (gap ++ s ++ gap) 16 (0 + gap.length) := by
    refine or_start ?_ 16
    unfold rs
    rw [List.drop_zero, Nat.zero_add, List.append_assoc, List.drop_left, dw_blanks hg]
  rw [h1] at hm
  cases ho : orK (gap ++ s ++ gap) 16 (0 + gap.length) with
  | wrong p e =>
    rw [ho] at hm
    have hm : (16 < 16) ∧ e = 3 := hm
    omega
  | good y t' =>
    rw [ho] at hm
    obtain ⟨hs, rfl⟩ := hm
    refine ⟨y, testB_of (hst.trans ho) ?_, by rw [h4]; exact hs⟩
    rw [rs_out hI h2 h3]; exact hd
/-- Brackets around a condition make no difference to its tree, unless it is nested too deep then. -/
theorem brackets_around {s gap : Bs} (hg : gap.all blk = true) (h : (testB s).2.2 = 0) : (∃ y, testB (gap ++ [40] ++ s ++ gap ++ [41]) = (y, 0, 0) ∧ sameE (testB s).1 y = true) ∨ ∃ p, testB (gap ++ [40] ++ s ++ gap ++ [41]) = (noEx, p, 3) := by
  obtain ⟨x, t, h1, h2, h3, h4⟩ := testB_good h
  have hw : gap ++ [40] ++ s ++ gap ++ [41] = (gap ++ [40]) ++ (s ++ (gap ++ [41])) := by simp [List.append_assoc]
  rw [hw]
  obtain ⟨S, hS⟩ : ∃ S, (gap ++ [40]) ++ (s ++ (gap ++ [41])) = S := ⟨_, rfl⟩
  rw [hS]
  have hSl : S.length = gap.length + 1 + s.length + gap.length + 1 := by rw [← hS]; simp only [List.length_append, List.length_singleton]; omega
  have hd : (gap ++ [41]).dropWhile blk = [41] := by rw [dw_blanks hg]; rfl
  have hI : In s S (gap.length + 1) (gap ++ [41]) := by
    refine ⟨?_, by omega, ⟨fun c r e => ?_, fun c r e => by rw [hd] at e; cases e; rfl⟩⟩
    · rw [← hS, List.drop_left' (by simp)]
    · cases gap with
      | nil => cases e; exact .inr rfl
      | cons a g =>
        rw [List.cons_append] at e
        cases e
        rw [List.all_cons, Bool.and_eq_true] at hg; exact .inl hg.1
  have hm := (lev_moved hI 16 15 (by omega)).1 0 (Nat.zero_le _)
  have hrs : rs S 0 = 40 :: (s ++ (gap ++ [41])) := by
    unfold rs
    rw [List.drop_zero, ← hS, List.append_assoc, dw_blanks hg]; rfl
  have hpa : pa S 0 = gap.length := by
    unfold pa
    rw [hrs, hSl]
    simp only [List.length_cons, List.length_append, List.length_nil]; omega
  rw [h1] at hm
  have hop : opG (some (orK S 15)) S 0 = brG (some (orK S 15)) S gap.length := by
    unfold opG
    rw [hrs, hpa]; rfl
  rw [show 0 + (gap.length + 1) = gap.length + 1 from by omega] at hm
  cases ho : orK S 15 (gap.length + 1) with
  | wrong p e =>
    rw [ho] at hm
    have hm : (15 < 16) ∧ e = 3 := hm
    obtain ⟨_, rfl⟩ := hm
    right
    have hb : brG (some (orK S 15)) S gap.length = .wrong p 3 := by
      show (match orK S 15 (gap.length + 1) with | .wrong p e => .wrong p e | .good x t => bif hasPrefix (rs S t) [41] then .good x (pa S t + 1) else .wrong (pa S t) 15 : Got) = _
      rw [ho]
    have hc : cmpG (some (orK S 15)) S 0 = .wrong p 3 := by unfold cmpG; rw [hop, hb]
    have hn : notK S 16 0 = .wrong p 3 := by
      rw [notK_eq]
      unfold notG
      rw [hrs, pfx1]
      exact hc
    have ha : andK S 16 0 = .wrong p 3 := by unfold andK rowG; rw [hn]
    have hor : orK S 16 0 = .wrong p 3 := by rw [orK_eq]; unfold rowG; rw [ha]
    exact ⟨p, by unfold testB; rw [hor]⟩
  | good y t' =>
    rw [ho] at hm
    obtain ⟨hs, rfl⟩ := hm
    left
    have hr := rs_out hI h2 h3
    rw [hd] at hr
    have hpt : pa S (t + (gap.length + 1)) + 1 = S.length := by
      unfold pa
      rw [hr, List.length_singleton, hSl]; omega
    have hb : brG (some (orK S 15)) S gap.length = .good y S.length := by
      show (match orK S 15 (gap.length + 1) with | .wrong p e => .wrong p e | .good x t => bif hasPrefix (rs S t) [41] then .good x (pa S t + 1) else .wrong (pa S t) 15 : Got) = _
      rw [ho]
      show (bif hasPrefix (rs S (t + (gap.length + 1))) [41] then .good y (pa S (t + (gap.length + 1)) + 1) else .wrong (pa S (t + (gap.length + 1))) 15 : Got) = _
      rw [hr, hpt]; rfl
    have hend : rs S S.length = [] := by unfold rs; rw [List.drop_length]; rfl
    have hc : cmpG (some (orK S 15)) S 0 = .good y S.length := by
      unfold cmpG
      rw [hop, hb]
      show cmpOn _ S y S.length = _
      unfold cmpOn
      rw [hend]; rfl
    have hn : notK S 16 0 = .good y S.length := by
      rw [notK_eq]
      unfold notG
      rw [hrs, pfx1]
      exact hc
    have hro : ∀ (one : Nat → Got) (k : Int) (g : UInt8) (n : Nat), rowOn one k g S n y S.length = .good y S.length := fun one k g n => by
      cases n with
      | zero => rfl
      | succ n => unfold rowOn; rw [hend, pfx_nil]; rfl
    have ha : andK S 16 0 = .good y S.length := by unfold andK rowG; rw [hn]; exact hro _ _ _ _
    have hor : orK S 16 0 = .good y S.length := by rw [orK_eq]; unfold rowG; rw [ha]; exact hro _ _ _ _
    exact ⟨y, testB_of hor hend, by rw [h4]; exact hs⟩
end Go.Proofs.YtehdeclpighdeaaGreatDoor
