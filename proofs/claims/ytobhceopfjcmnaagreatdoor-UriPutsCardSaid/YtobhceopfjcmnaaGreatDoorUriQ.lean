/- What a text is made of, piece by piece; the text of a URI is parsed as it. -/
import Derived.Test.YtobhceopfjcmnaaGreatDoorDotsP
namespace Go.Proofs.YtobhceopfjcmnaaGreatDoor
open Go.Lib

/-- A text that is made well is gone through piece by piece. -/
theorem made_ind {p : UInt8 → Bool} {M : Bs → Prop} (h0 : M []) (h1 : ∀ c r, c ≠ 37 → p c = true → madeB p r = true → M r → M (c :: r))
    (h2 : ∀ a b r, hexc a = true → hexc b = true → madeB p r = true → M r → M (37 :: a :: b :: r)) : ∀ (n : Nat) (s : Bs), s.length ≤ n → madeB p s = true → M s
  | _, [], _, _ => h0
  | n + 1, c :: r, hn, h => by
    have hr : r.length ≤ n := by simpa using hn
    by_cases hc : c = 37
    · subst hc
      match r, hr, h with
      | [], _, h => cases h
      | [_], _, h => cases h
      | a :: b :: r', hr, h =>
        rw [madeB_esc, Bool.and_eq_true, Bool.and_eq_true] at h
        exact h2 a b r' h.1.1 h.1.2 h.2 (made_ind h0 h1 h2 n r' (by simp at hr; omega) h.2)
    · rw [madeB_byte hc, Bool.and_eq_true] at h
      exact h1 c r hc h.1 h.2 (made_ind h0 h1 h2 n r hr h.2)
theorem madeInd {p : UInt8 → Bool} {M : Bs → Prop} {s : Bs} (h : madeB p s = true) (h0 : M []) (h1 : ∀ c r, c ≠ 37 → p c = true → madeB p r = true → M r → M (c :: r))
    (h2 : ∀ a b r, hexc a = true → hexc b = true → madeB p r = true → M r → M (37 :: a :: b :: r)) : M s := made_ind h0 h1 h2 s.length s (Nat.le_refl _) h

theorem madeB_mono {p q : UInt8 → Bool} (h : ∀ c, p c = true → q c = true) {s : Bs} (hs : madeB p s = true) : madeB q s = true := by
  refine madeInd (M := fun s => madeB q s = true) hs rfl ?_ ?_
  · intro c r hc hp _ ih; rw [madeB_byte hc, h c hp, ih]; rfl
  · intro a b r ha hb _ ih; rw [madeB_esc, ha, hb, ih]; rfl
theorem madeB_app {p : UInt8 → Bool} {s t : Bs} (hs : madeB p s = true) : madeB p (s ++ t) = madeB p t := by
  refine madeInd (M := fun s => madeB p (s ++ t) = madeB p t) hs rfl ?_ ?_
  · intro c r hc hp _ ih; rw [List.cons_append, madeB_byte hc, hp, ih]; rfl
  · intro a b r ha hb _ ih; rw [List.cons_append, List.cons_append, List.cons_append, madeB_esc, ha, hb, ih]; rfl
/-- A byte that is neither of the kind nor of escapes is not there. -/
theorem madeB_free {p : UInt8 → Bool} {x : UInt8} (hp : p x = false) (hx : x ≠ 37) (hh : hexc x = false) {s : Bs} (hs : madeB p s = true) : s.contains x = false := by
  refine madeInd (M := fun s => s.contains x = false) hs rfl ?_ ?_
  · intro c r hc hpc _ ih
    rw [has_cons, ih, Bool.or_false, beq_eq_false_iff_ne]
    rintro rfl; rw [hp] at hpc; cases hpc
  · intro a b r ha hb _ ih
    rw [has_cons, has_cons, has_cons, ih, Bool.or_false]
    have h1 : (a == x) = false := by rw [beq_eq_false_iff_ne]; rintro rfl; rw [hh] at ha; cases ha
    have h2 : (b == x) = false := by rw [beq_eq_false_iff_ne]; rintro rfl; rw [hh] at hb; cases hb
    have h3 : ((37 : UInt8) == x) = false := by rw [beq_eq_false_iff_ne]; exact fun e => hx e.symm
    rw [h1, h2, h3]; rfl
theorem made_len {p : UInt8 → Bool} {c : UInt8} {r : Bs} (h : madeB p (c :: r) = true) (hc : c = 37) : 2 ≤ r.length ∧ ∃ a b r', r = a :: b :: r' ∧ hexc a = true ∧ hexc b = true ∧ madeB p r' = true := by
  subst hc
  match r, h with
  | [], h => cases h
  | [_], h => cases h
  | a :: b :: r', h =>
    rw [madeB_esc, Bool.and_eq_true, Bool.and_eq_true] at h
    exact ⟨by simp, a, b, r', rfl, h.1.1, h.1.2, h.2⟩

/-! cut at a byte, and takeWhile, of texts put together -/
theorem upto_app {c : UInt8} {a b : Bs} (h : a.contains c = false) : upto c (a ++ c :: b) = a := by
  unfold upto
  induction a with
  | nil => simp
  | cons x r ih =>
    rw [has_cons, Bool.or_eq_false_iff] at h
    have hx : (x != c) = true := by have := h.1; simp at this; simpa using this
    rw [List.cons_append, List.takeWhile_cons_of_pos (p := fun x => x != c) hx, ih h.2]
theorem past_app {c : UInt8} {a b : Bs} (h : a.contains c = false) : past c (a ++ c :: b) = b := by
  unfold past
  induction a with
  | nil => simp
  | cons x r ih =>
    rw [has_cons, Bool.or_eq_false_iff] at h
    have hx : (x != c) = true := by have := h.1; simp at this; simpa using this
    rw [List.cons_append, List.dropWhile_cons_of_pos (p := fun x => x != c) hx, ih h.2]
theorem has_app (c : UInt8) (a b : Bs) : (a ++ b).contains c = (a.contains c || b.contains c) := by
  induction a with
  | nil => simp
  | cons x r ih => rw [List.cons_append, has_cons, has_cons, ih, Bool.or_assoc]
theorem all_free {p : UInt8 → Bool} {x : UInt8} (hp : p x = false) {s : Bs} (h : s.all p = true) : s.contains x = false := by
  cases hc : s.contains x
  · rfl
  · have := List.all_eq_true.1 h x (List.contains_iff_mem.1 hc)
    rw [hp] at this; cases this
theorem takeW_app {c : UInt8} {a b : Bs} (h : a.contains c = false) : (a ++ c :: b).takeWhile (· != c) = a := upto_app h
theorem dropW_app {c : UInt8} {a b : Bs} (h : a.contains c = false) : (a ++ c :: b).dropWhile (· != c) = c :: b := by
  induction a with
  | nil => simp
  | cons x r ih =>
    rw [has_cons, Bool.or_eq_false_iff] at h
    have hx : (x != c) = true := by have := h.1; simp at this; simpa using this
    rw [List.cons_append, List.dropWhile_cons_of_pos (p := fun x => x != c) hx, ih h.2]

/-! Numerals -/
def digv (n : Int) (c : UInt8) : Int := 10 * n + ((c.toNat : Int) - 48)
theorem numK_fold : ∀ (k n : Nat), n < 10 ^ k → 0 < k → (numK k n).foldl digv 0 = n
  | 0, n, _, h => by omega
  | k + 1, n, h, _ => by
    unfold numK
    by_cases h1 : n < 10
    · rw [if_pos h1]
      show digv 0 _ = _
      unfold digv
      rw [UInt8.toNat_ofNat_of_lt' (by show 48 + n < 256; omega)]; omega
    · rw [if_neg h1, List.foldl_append]
      have h2 : n / 10 < 10 ^ k := by rw [Nat.pow_succ] at h; omega
      have h3 : 0 < k := by
        rcases Nat.eq_zero_or_pos k with rfl | h
        · simp at h2; omega
        · exact h
      rw [numK_fold k (n / 10) h2 h3]
      show digv _ _ = _
      unfold digv
      rw [UInt8.toNat_ofNat_of_lt' (by show 48 + n % 10 < 256; omega)]; omega
theorem numK_digits : ∀ (k n : Nat), n < 10 ^ k → (numK k n).all dig = true
  | 0, n, _ => rfl
  | k + 1, n, h => by
    unfold numK
    have hd : ∀ m, m < 10 → dig (UInt8.ofNat (48 + m)) = true := by
      intro m hm; unfold dig; rw [UInt8.toNat_ofNat_of_lt' (by show 48 + m < 256; omega)]; exact decide_eq_true (by omega)
    by_cases h1 : n < 10
    · rw [if_pos h1, List.all_cons, hd n h1]; rfl
    · rw [if_neg h1, List.all_append, numK_digits k (n / 10) (by rw [Nat.pow_succ] at h; omega), List.all_cons, hd _ (by omega)]; rfl
theorem numK_head : ∀ (k n : Nat), n < 10 ^ k → 0 < n → ∃ c r, numK k n = c :: r ∧ c ≠ 48
  | 0, n, h, h0 => by simp at h; omega
  | k + 1, n, h, h0 => by
    unfold numK
    by_cases h1 : n < 10
    · rw [if_pos h1]
      refine ⟨_, _, rfl, fun e => ?_⟩
      have := congrArg UInt8.toNat e
      rw [UInt8.toNat_ofNat_of_lt' (by show 48 + n < 256; omega)] at this
      simp at this; omega
    · rw [if_neg h1]
      obtain ⟨c, r, he, hc⟩ := numK_head k (n / 10) (by rw [Nat.pow_succ] at h; omega) (by omega)
      exact ⟨c, r ++ [UInt8.ofNat (48 + n % 10)], by rw [he]; rfl, hc⟩
theorem numK_len : ∀ (k j n : Nat), n < 10 ^ j → 0 < j → (numK k n).length ≤ j
  | 0, j, n, _, _ => Nat.zero_le _
  | k + 1, j, n, h, h0 => by
    unfold numK
    by_cases h1 : n < 10
    · rw [if_pos h1]; simp; omega
    · rw [if_neg h1]
      match j, h0 with
      | j + 1, _ =>
        have h2 : n / 10 < 10 ^ j := by rw [Nat.pow_succ] at h; omega
        have h3 : 0 < j := by
          rcases Nat.eq_zero_or_pos j with rfl | h
          · simp at h2; omega
          · exact h
        have := numK_len k j (n / 10) h2 h3
        simp; omega
theorem numK_pos (k n : Nat) : 1 ≤ (numK (k + 1) n).length := by
  unfold numK
  by_cases h1 : n < 10
  · rw [if_pos h1]; simp
  · rw [if_neg h1]; simp
theorem portB_num (n : Nat) (h1 : 1 ≤ n) (h2 : n ≤ 65535) : portB (numB n) = n := by
  have hd := numK_digits 6 n (by omega)
  have hl := numK_len 6 5 n (by omega) (by omega)
  have hp := numK_pos 5 n
  obtain ⟨c, r, he, hc⟩ := numK_head 6 n (by omega) (by omega)
  have hf := numK_fold 6 n (by omega) (by omega)
  unfold portB portB.atoi5 numB
  rw [hd, decide_eq_true (show 1 ≤ (numK 6 n).length ∧ (numK 6 n).length ≤ 5 from ⟨hp, hl⟩)]
  have hh : ((numK 6 n).head? == some 48) = false := by rw [he, List.head?_cons, beq_eq_false_iff_ne]; intro e; exact hc (Option.some.inj e)
  rw [hh]
  exact hf

/-! The text of a URI is parsed as it -/
theorem hasPrefix_cons (a : UInt8) (s p : Bs) : hasPrefix (a :: s) (a :: p) = hasPrefix s p := by
  unfold hasPrefix; rw [List.isPrefixOf_cons_cons, beq_self_eq_true, Bool.true_and]
theorem hasPrefix_nil (s : Bs) : hasPrefix s [] = true := by unfold hasPrefix; cases s <;> rfl
theorem hasPrefix_app (p s : Bs) : hasPrefix (p ++ s) p = true := by
  induction p with
  | nil => exact hasPrefix_nil _
  | cons a r ih => rw [List.cons_append, hasPrefix_cons, ih]
theorem pathOk_cons {s : Bs} (h : pathOk s = true) : ∃ r, s = 47 :: r ∧ madeB pathc (47 :: r) = true := by
  unfold pathOk at h
  rw [Bool.and_eq_true] at h
  cases s with
  | nil => exact absurd h.1 (by decide)
  | cons c r =>
    have h1 := h.1
    unfold hasPrefix at h1
    rw [List.isPrefixOf_cons_cons, Bool.and_eq_true, beq_iff_eq] at h1
    obtain rfl := h1.1
    exact ⟨r, rfl, h.2⟩
/-- What formB says. -/
structure Form (u : U) : Prop where
  scheme : u.scheme = http ∨ u.scheme = https
  hlen : 1 ≤ u.host.length ∧ u.host.length ≤ 253
  host : u.host.all hostc = true
  port : 0 ≤ u.port ∧ u.port ≤ 65535
  path : ∃ r, u.path = 47 :: r ∧ madeB pathc (47 :: r) = true
  query : u.hq = true ∨ u.query = []
  made : madeB queryc u.query = true
theorem form_iff (u : U) : formB u = true ↔ Form u := by
  unfold formB hostOk
  simp only [Bool.and_eq_true, Bool.or_eq_true, beq_iff_eq, decide_eq_true_eq]
  constructor
  · rintro ⟨⟨⟨⟨⟨h1, h2, h3⟩, h4⟩, h5⟩, h6⟩, h7⟩
    exact ⟨h1, h2, h3, h4, pathOk_cons h5, h6, h7⟩
  · rintro ⟨h1, h2, h3, h4, ⟨r, h5, h5'⟩, h6, h7⟩
    refine ⟨⟨⟨⟨⟨h1, h2, h3⟩, h4⟩, ?_⟩, h6⟩, h7⟩
    unfold pathOk
    rw [h5, h5', show hasPrefix (47 :: r) [47] = true from by rw [hasPrefix_cons, hasPrefix_nil]]; rfl
/-- What stands behind the scheme. -/
def behind (u : U) : Bs := u.host ++ (bif u.port == 0 then [] else [58] ++ numB u.port.toNat) ++ u.path ++ (bif u.hq then [63] ++ u.query else [])
theorem text_eq (u : U) : textB u = u.scheme ++ (sep3 ++ behind u) := by unfold textB behind sep3; simp
theorem idx_http (s : Bs) : index (http ++ (sep3 ++ s)) sep3 = 4 := by
  show index (104 :: 116 :: 116 :: 112 :: 58 :: 47 :: 47 :: s) [58, 47, 47] = 4
  have e : hasPrefix (58 :: 47 :: 47 :: s) [58, 47, 47] = true := hasPrefix_app [58, 47, 47] s
  simp [index]
theorem idx_https (s : Bs) : index (https ++ (sep3 ++ s)) sep3 = 5 := by
  show index (104 :: 116 :: 116 :: 112 :: 115 :: 58 :: 47 :: 47 :: s) [58, 47, 47] = 5
  have e : hasPrefix (58 :: 47 :: 47 :: s) [58, 47, 47] = true := hasPrefix_app [58, 47, 47] s
  simp [index]
theorem cut_scheme {c : Bs} (h : c = http ∨ c = https) (s : Bs) : cut (c ++ (sep3 ++ s)) sep3 = (c, s, true) := by
  unfold cut
  rcases h with rfl | rfl
  · rw [idx_http, if_pos (by decide)]; rfl
  · rw [idx_https, if_pos (by decide)]; rfl
theorem host_free {u : U} (h : Form u) {x : UInt8} (hx : hostc x = false) : u.host.contains x = false := all_free hx h.host
theorem num_free (k n : Nat) (hn : n < 10 ^ k) {x : UInt8} (hx : dig x = false) : (numK k n).contains x = false := all_free hx (numK_digits k n hn)
theorem authority_free {u : U} (h : Form u) {x : UInt8} (h1 : hostc x = false) (h2 : dig x = false) (h3 : x ≠ 58) : (u.host ++ (bif u.port == 0 then [] else [58] ++ numB u.port.toNat)).contains x = false := by
  rw [has_app, host_free h h1, Bool.false_or]
  cases u.port == 0
  · show ([58] ++ numK 6 u.port.toNat).contains x = false
    rw [has_app, num_free 6 _ (by have := h.port; omega) h2]
    simp; exact fun e => h3 e
  · rfl
theorem path_free {u : U} (h : Form u) {x : UInt8} (h1 : pathc x = false) (h2 : x ≠ 37) (h3 : hexc x = false) : u.path.contains x = false := by
  obtain ⟨r, e, hm⟩ := h.path
  rw [e]; exact madeB_free h1 h2 h3 hm
/-- Behind the scheme: what stands before the question mark and behind it. -/
theorem behind_cut {u : U} (h : Form u) : upto 63 (behind u) = u.host ++ (bif u.port == 0 then [] else [58] ++ numB u.port.toNat) ++ u.path ∧ past 63 (behind u) = u.query ∧ (behind u).contains 63 = u.hq := by
  have hf : (u.host ++ (bif u.port == 0 then [] else [58] ++ numB u.port.toNat) ++ u.path).contains 63 = false := by
    rw [has_app, authority_free h (by decide) (by decide) (by decide), path_free h (by decide) (by decide) (by decide)]; rfl
  unfold behind
  cases hq : u.hq
  · have hqe : u.query = [] := by
      rcases h.query with h | h
      · rw [hq] at h; cases h
      · exact h
    show upto 63 (_ ++ []) = _ ∧ past 63 (_ ++ []) = _ ∧ (_ ++ []).contains 63 = _
    rw [List.append_nil]
    exact ⟨upto_all 63 _ hf, by rw [past_all 63 _ hf, hqe], hf⟩
  · show upto 63 (_ ++ 63 :: u.query) = _ ∧ past 63 (_ ++ 63 :: u.query) = _ ∧ (_ ++ 63 :: u.query).contains 63 = _
    refine ⟨upto_app hf, past_app hf, ?_⟩
    rw [has_app, has_cons]; simp
theorem raw_text {u : U} (h : Form u) : rawB (textB u) = ⟨u.scheme, u.host ++ (bif u.port == 0 then [] else [58] ++ numB u.port.toNat), 0, u.path, u.query, u.hq⟩ := by
  obtain ⟨h1, h2, h3⟩ := behind_cut h
  obtain ⟨r, e, hm⟩ := h.path
  unfold rawB
  rw [text_eq, cut_scheme h.scheme]
  show (U.mk u.scheme ((upto 63 (behind u)).takeWhile (· != 47)) 0 (if (upto 63 (behind u)).dropWhile (· != 47) = [] then [47] else (upto 63 (behind u)).dropWhile (· != 47)) (past 63 (behind u)) ((behind u).contains 63)) = _
  rw [h1, h2, h3]
  have hf := authority_free (u := u) h (x := 47) (by decide) (by decide) (by decide)
  rw [e, takeW_app hf, dropW_app hf, if_neg (by simp)]
theorem ported_text {u : U} (h : Form u) : portedB ⟨u.scheme, u.host ++ (bif u.port == 0 then [] else [58] ++ numB u.port.toNat), 0, u.path, u.query, u.hq⟩ = some u := by
  obtain ⟨hp0, hp1⟩ := h.port
  have hf : u.host.contains 58 = false := host_free h (by decide)
  unfold portedB
  show (bif (u.host ++ (bif u.port == 0 then [] else [58] ++ numB u.port.toNat)).contains 58 then (if portB (past 58 (u.host ++ (bif u.port == 0 then [] else [58] ++ numB u.port.toNat))) = 0 then none else some (U.mk u.scheme (upto 58 (u.host ++ (bif u.port == 0 then [] else [58] ++ numB u.port.toNat))) (portB (past 58 (u.host ++ (bif u.port == 0 then [] else [58] ++ numB u.port.toNat)))) u.path u.query u.hq)) else some (U.mk u.scheme (u.host ++ (bif u.port == 0 then [] else [58] ++ numB u.port.toNat)) 0 u.path u.query u.hq)) = some u
  by_cases hp : u.port = 0
  · have e : (u.port == 0) = true := by rw [hp]; rfl
    rw [e]
    show (bif (u.host ++ []).contains 58 then _ else some (U.mk u.scheme (u.host ++ []) 0 u.path u.query u.hq)) = some u
    rw [List.append_nil, hf, ← hp]
    rfl
  · have e : (u.port == 0) = false := by rw [beq_eq_false_iff_ne]; exact hp
    rw [e]
    show (bif (u.host ++ 58 :: numB u.port.toNat).contains 58 then (if portB (past 58 (u.host ++ 58 :: numB u.port.toNat)) = 0 then none else some (U.mk u.scheme (upto 58 (u.host ++ 58 :: numB u.port.toNat)) (portB (past 58 (u.host ++ 58 :: numB u.port.toNat))) u.path u.query u.hq)) else _) = some u
    have hc : (u.host ++ 58 :: numB u.port.toNat).contains 58 = true := by rw [has_app, has_cons]; simp
    rw [hc, past_app hf, upto_app hf, portB_num u.port.toNat (by omega) (by omega), cond_true, if_neg (by omega), Int.toNat_of_nonneg hp0]
theorem parse_text {u : U} (h : okB u = true) : parseB (textB u) = (u, 0) := by
  have h0 := h
  unfold okB at h
  rw [Bool.and_eq_true, form_iff] at h
  unfold parseB
  rw [h.2, cond_true, raw_text h.1, ported_text h.1]
  show (if checkB u = 0 then (u, 0) else (noU, checkB u)) = _
  rw [if_pos ((checkB_ok u).2 h0)]
end Go.Proofs.YtobhceopfjcmnaaGreatDoor
