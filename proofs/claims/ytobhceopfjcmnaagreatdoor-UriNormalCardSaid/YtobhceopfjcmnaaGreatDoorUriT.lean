/- A text with its escapes' digits in other sizes, and plain bytes as escapes: undone it is as it was. -/
import Derived.Test.YtobhceopfjcmnaaGreatDoorUriN
namespace Go.Proofs.YtobhceopfjcmnaaGreatDoor
open Go.Lib

/-- The number that stands for a place. -/
def howAt (how : Bs) (i : Nat) : Nat := ((how[i % how.length]?).getD 0).toNat
def hexDigits : Bs := [48, 49, 50, 51, 52, 53, 54, 55, 56, 57, 97, 98, 99, 100, 101, 102, 48, 49, 50, 51, 52, 53, 54, 55, 56, 57, 65, 66, 67, 68, 69, 70]
def hexD (i : Nat) : UInt8 := (hexDigits[i]?).getD 0
/-- May a byte be turned into an escape? -/
def turnc (c : UInt8) : Bool := decide ((97 ≤ c.toNat ∧ c.toNat ≤ 122 ∨ 48 ≤ c.toNat ∧ c.toNat ≤ 57) ∨ c.toNat = 126 ∨ c.toNat = 46)
/-- Is there no escape's mark one or two places before? -/
def clear2 (s : Bs) (i : Nat) : Bool := (decide (i < 2) || (s[i - 1]? != some 37 && s[i - 2]? != some 37)) && (decide (i < 1) || s[i - 1]? != some 37)
def escOf (c : UInt8) (h : Nat) : Bs := [37, hexD (c.toNat / 16 + 16 * (h / 4 % 2)), hexD (c.toNat % 16 + 16 * (h / 8 % 2))]
/-- One step at a place: what comes out, and how many bytes are taken. -/
def twStep (s how : Bs) (i : Nat) (c : UInt8) : Bs × Nat :=
  bif c == 37 && decide (i + 2 < s.length) && howAt how i % 2 == 1 then (37 :: lower ((s.drop (i + 1)).take 2), 3)
  else bif turnc c && howAt how i % 4 == 3 && clear2 s i then (escOf c (howAt how i), 1)
  else ([c], 1)
/-- The text from a place on. -/
def twR (s how : Bs) : Nat → Nat → Bs
  | 0, _ => []
  | k + 1, i => match s[i]? with | none => [] | some c => (twStep s how i c).1 ++ twR s how k (i + (twStep s how i c).2)
def twistB (s how : Bs) : Bs := twR s how s.length 0

theorem turn_plain {c : UInt8} (h : turnc c = true) : plainc c = true := by
  unfold turnc at h; unfold plainc
  have := of_decide_eq_true h
  exact decide_eq_true (by omega)
theorem hexD_spec : ∀ (v x : Nat), v < 16 → x < 2 → hexc (hexD (v + 16 * x)) = true ∧ hexv (hexD (v + 16 * x)) = v := by
  have h : (List.range 16).all (fun v => (List.range 2).all fun x => hexc (hexD (v + 16 * x)) && hexv (hexD (v + 16 * x)) == v) = true := by decide +kernel
  intro v x hv hx
  have h1 := List.all_eq_true.1 h v (List.mem_range.2 hv)
  have h2 := List.all_eq_true.1 h1 x (List.mem_range.2 hx)
  rw [Bool.and_eq_true, beq_iff_eq] at h2
  exact h2
theorem esc_turn {c : UInt8} (h : plainc c = true) (n : Nat) : ∃ a b, escOf c n = [37, a, b] ∧ hexc a = true ∧ hexc b = true ∧ unesc a b = [c] := by
  have hc := c.toNat_lt
  obtain ⟨a1, a2⟩ := hexD_spec (c.toNat / 16) (n / 4 % 2) (by omega) (by omega)
  obtain ⟨b1, b2⟩ := hexD_spec (c.toNat % 16) (n / 8 % 2) (by omega) (by omega)
  refine ⟨_, _, rfl, a1, b1, ?_⟩
  have e : UInt8.ofNat (16 * (c.toNat / 16) + c.toNat % 16) = c := by rw [u8eq, UInt8.toNat_ofNat_of_lt' (by show _ < 256; omega)]; omega
  unfold unesc
  rw [a2, b2, e, h]; rfl
theorem lowc_nat (a : UInt8) : (lowc a).toNat = if 65 ≤ a.toNat ∧ a.toNat ≤ 90 then a.toNat + 32 else a.toNat := by
  by_cases hu : 65 ≤ a.toNat ∧ a.toNat ≤ 90
  · rw [if_pos hu]; have := lowc_up a (by omega) (by omega); omega
  · rw [if_neg hu]; rw [lowc_other a (by omega)]
theorem lowc_hex {a : UInt8} (h : hexc a = true) : hexc (lowc a) = true ∧ hexv (lowc a) = hexv a ∧ upc (lowc a) = upc a := by
  unfold hexc at h
  have h1 := of_decide_eq_true h
  have hn := lowc_nat a
  refine ⟨?_, ?_, ?_⟩
  · unfold hexc
    apply decide_eq_true
    split at hn <;> omega
  · unfold hexv
    split at hn <;> (repeat' split) <;> omega
  · have hn2 := upc_nat (lowc a)
    have hn3 := upc_nat a
    rw [u8eq]
    split at hn <;> split at hn2 <;> split at hn3 <;> omega
theorem unesc_lower {a b : UInt8} (ha : hexc a = true) (hb : hexc b = true) : unesc (lowc a) (lowc b) = unesc a b := by
  obtain ⟨a1, a2, a3⟩ := lowc_hex ha
  obtain ⟨b1, b2, b3⟩ := lowc_hex hb
  unfold unesc; rw [a2, b2, a3, b3]

theorem ne37 {a : UInt8} (h : hexc a = true) : (some a != some (37 : UInt8)) = true := by
  have : a ≠ 37 := by rintro rfl; revert h; decide
  simpa using this
/-- What is so of the text from a place on that is no midst of an escape. -/
structure TwOk (p : UInt8 → Bool) (r out : Bs) : Prop where
  made : madeB p out = true
  undo : undoB out = undoB r
theorem clear_byte {s : Bs} {i : Nat} {c d : UInt8} {r : Bs} (hs : s.drop i = c :: r) (hc : clear2 s i = true) (hne : c ≠ 37) : clear2 s (i + 1) = true := by
  have hi : s[i]? = some c := by rw [← List.head?_drop, hs]; rfl
  unfold clear2 at hc ⊢
  rw [Bool.and_eq_true] at hc
  have h1 : (s[i + 1 - 1]? != some 37) = true := by rw [Nat.add_sub_cancel, hi]; simpa using hne
  rw [h1, Bool.or_true, Bool.and_true]
  by_cases h0 : i = 0
  · subst h0; rfl
  · have h2 : (s[i + 1 - 2]? != some 37) = true := by
      rw [show i + 1 - 2 = i - 1 by omega]
      have := hc.2
      rw [decide_eq_false (by omega), Bool.false_or] at this; exact this
    rw [h2]; simp
theorem tw_ok {p : UInt8 → Bool} (hp : ∀ c, plainc c = true → p c = true) (s how : Bs) : ∀ (k i : Nat), s.length ≤ i + k → madeB p (s.drop i) = true → clear2 s i = true → TwOk p (s.drop i) (twR s how k i) := by
  intro k
  induction k using Nat.strongRecOn with
  | _ k ih =>
    intro i hk hm hc
    cases hs : s.drop i with
    | nil =>
      have hn : s[i]? = none := by rw [← List.head?_drop, hs]; rfl
      have : twR s how k i = [] := by
        cases k with
        | zero => rfl
        | succ k => unfold twR; rw [hn]
      rw [this]; exact ⟨rfl, rfl⟩
    | cons c r =>
      have hi : s[i]? = some c := by rw [← List.head?_drop, hs]; rfl
      have hlt : i < s.length := (List.getElem?_eq_some_iff.1 hi).1
      cases k with
      | zero => omega
      | succ k =>
        have hr : s.drop (i + 1) = r := by rw [← List.drop_drop, hs]; rfl
        have e : twR s how (k + 1) i = (twStep s how i c).1 ++ twR s how k (i + (twStep s how i c).2) := by
          conv => lhs; unfold twR
          rw [hi]
        rw [hs] at hm
        by_cases h37 : c = 37
        · obtain ⟨hrl, a, b, r', hre, ha, hb, hm'⟩ := made_len hm h37
          subst h37
          subst hre
          have hr3 : s.drop (i + 3) = r' := by rw [show i + 3 = (i + 1) + 2 by omega, ← List.drop_drop, hr]; rfl
          have hlen : i + 2 < s.length := by
            have := congrArg List.length hr
            rw [List.length_drop] at this; simp at this; omega
          have ha' : s[i + 1]? = some a := by rw [← List.head?_drop, hr]; rfl
          have hb' : s[i + 2]? = some b := by rw [show i + 2 = (i + 1) + 1 by omega, ← List.getElem?_drop, hr]; rfl
          have hc3 : clear2 s (i + 3) = true := by
            unfold clear2
            rw [show i + 3 - 1 = i + 2 by omega, show i + 3 - 2 = i + 1 by omega, ha', hb']
            have n1 : (some a != some (37 : UInt8)) = true := ne37 ha
            have n2 : (some b != some (37 : UInt8)) = true := ne37 hb
            rw [n1, n2]; simp
          have t37 : turnc 37 = false := by decide
          cases hh : (howAt how i % 2 == 1)
          · -- as it stands: three steps
            have st0 : twStep s how i 37 = ([37], 1) := by unfold twStep; rw [hh, t37]; simp
            have c1 : clear2 s (i + 1) = false := by
              unfold clear2; rw [Nat.add_sub_cancel, hi]; simp
            have c2 : clear2 s (i + 2) = false := by
              unfold clear2; rw [show i + 2 - 2 = i by omega, hi, decide_eq_false (show ¬ i + 2 < 2 by omega)]; simp
            have na : (a == 37) = false := by rw [beq_eq_false_iff_ne]; rintro rfl; revert ha; decide
            have nb : (b == 37) = false := by rw [beq_eq_false_iff_ne]; rintro rfl; revert hb; decide
            have st1 : twStep s how (i + 1) a = ([a], 1) := by unfold twStep; rw [na, c1]; simp
            have st2 : twStep s how (i + 2) b = ([b], 1) := by unfold twStep; rw [nb, c2]; simp
            rw [st0] at e
            match k, hk with
            | 0, hk => omega
            | 1, hk => omega
            | k + 2, hk =>
              have e1 : twR s how (k + 1 + 1) (i + 1) = [a] ++ twR s how (k + 1) (i + 2) := by
                conv => lhs; unfold twR
                rw [ha']; show (twStep s how (i + 1) a).1 ++ twR s how (k + 1) (i + 1 + (twStep s how (i + 1) a).2) = _
                rw [st1]; rfl
              have e2 : twR s how (k + 1) (i + 2) = [b] ++ twR s how k (i + 3) := by
                conv => lhs; unfold twR
                rw [hb']; show (twStep s how (i + 2) b).1 ++ twR s how k (i + 2 + (twStep s how (i + 2) b).2) = _
                rw [st2]; rfl
              have x := ih k (by omega) (i + 3) (by omega) (by rw [hr3]; exact hm') hc3
              rw [hr3] at x
              have e3 : twR s how (k + 2 + 1) i = 37 :: a :: b :: twR s how k (i + 3) := by
                rw [e]; show [37] ++ twR s how (k + 1 + 1) (i + 1) = _
                rw [e1, e2]; rfl
              rw [e3]
              refine ⟨by rw [madeB_esc, ha, hb, x.made]; rfl, ?_⟩
              rw [undoB_esc (by rw [ha, hb]; rfl), undoB_esc (by rw [ha, hb]; rfl), x.undo]
          · have st0 : twStep s how i 37 = ([37, lowc a, lowc b], 3) := by
              unfold twStep
              rw [hh, decide_eq_true hlen, hr]; rfl
            rw [st0] at e
            have x := ih k (by omega) (i + 3) (by omega) (by rw [hr3]; exact hm') hc3
            rw [hr3] at x
            obtain ⟨a1, _, _⟩ := lowc_hex ha
            obtain ⟨b1, _, _⟩ := lowc_hex hb
            rw [e]
            show TwOk p (37 :: a :: b :: r') (37 :: lowc a :: lowc b :: twR s how k (i + 3))
            refine ⟨by rw [madeB_esc, a1, b1, x.made]; rfl, ?_⟩
            rw [undoB_esc (by rw [a1, b1]; rfl), undoB_esc (by rw [ha, hb]; rfl), x.undo, unesc_lower ha hb]
        · rw [madeB_byte h37, Bool.and_eq_true] at hm
          have n37 : (c == 37) = false := by rw [beq_eq_false_iff_ne]; exact h37
          have x := ih k (by omega) (i + 1) (by omega) (by rw [hr]; exact hm.2) (clear_byte (d := 0) hs hc h37)
          rw [hr] at x
          cases ht : (turnc c && howAt how i % 4 == 3 && clear2 s i)
          · have st0 : twStep s how i c = ([c], 1) := by unfold twStep; rw [n37, ht]; rfl
            rw [st0] at e
            rw [e]
            show TwOk p (c :: r) (c :: twR s how k (i + 1))
            exact ⟨by rw [madeB_byte h37, hm.1, x.made]; rfl, by rw [undoB_byte h37, undoB_byte h37, x.undo]⟩
          · have st0 : twStep s how i c = (escOf c (howAt how i), 1) := by unfold twStep; rw [n37, ht]; rfl
            rw [st0] at e
            rw [Bool.and_eq_true, Bool.and_eq_true] at ht
            obtain ⟨a, b, he, ha, hb, hu⟩ := esc_turn (turn_plain ht.1.1) (howAt how i)
            rw [e]
            show TwOk p (c :: r) (escOf c (howAt how i) ++ twR s how k (i + 1))
            rw [he]
            show TwOk p (c :: r) (37 :: a :: b :: twR s how k (i + 1))
            refine ⟨by rw [madeB_esc, ha, hb, x.made]; rfl, ?_⟩
            rw [undoB_esc (by rw [ha, hb]; rfl), undoB_byte h37, x.undo, hu]; rfl
theorem twist_ok {p : UInt8 → Bool} (hp : ∀ c, plainc c = true → p c = true) {s : Bs} (how : Bs) (h : madeB p s = true) : TwOk p s (twistB s how) := by
  have := tw_ok hp s how s.length 0 (by omega) h rfl
  exact this
/-- The first byte of a path stays. -/
theorem twist_head {r how : Bs} : ∃ t, twistB (47 :: r) how = 47 :: t := by
  unfold twistB
  have st0 : twStep (47 :: r) how 0 47 = ([47], 1) := by
    unfold twStep
    rw [show ((47 : UInt8) == 37) = false from rfl, show turnc 47 = false from by decide]; rfl
  refine ⟨twR (47 :: r) how r.length 1, ?_⟩
  show twR (47 :: r) how (r.length + 1) 0 = _
  conv => lhs; unfold twR
  show (twStep (47 :: r) how 0 47).1 ++ twR (47 :: r) how r.length (0 + (twStep (47 :: r) how 0 47).2) = _
  rw [st0]; rfl

/-! A URI turned so has the same normal form -/
def upper (l : Bs) : Bs := l.map upc
def turned (n : U) (how : Bs) : U := ⟨n.scheme, upper n.host, n.port, twistB n.path how, twistB n.query how, n.hq⟩
theorem lowc_upc {c : UInt8} : lowc (upc c) = lowc c := by
  have h1 := upc_nat c
  have h2 := lowc_nat (upc c)
  have h3 := lowc_nat c
  rw [u8eq]
  split at h1 <;> split at h2 <;> split at h3 <;> omega
theorem lower_upper (l : Bs) : lower (upper l) = lower l := by unfold lower upper; rw [List.map_map]; congr 1; funext c; exact lowc_upc
theorem upc_host {c : UInt8} (h : hostc c = true) : hostc (upc c) = true := by
  unfold hostc at h ⊢
  have h1 := of_decide_eq_true h
  have h2 := upc_nat c
  apply decide_eq_true
  split at h2 <;> omega
theorem turned_form {n : U} (h : Form n) (how : Bs) : Form (turned n how) := by
  obtain ⟨r, e, hm⟩ := h.path
  have x := twist_ok plain_path how hm
  obtain ⟨t, ht⟩ := twist_head (r := r) (how := how)
  refine ⟨h.scheme, ?_, ?_, h.port, ?_, ?_, ?_⟩
  · show 1 ≤ (upper n.host).length ∧ (upper n.host).length ≤ 253
    rw [show (upper n.host).length = n.host.length from by simp [upper]]; exact h.hlen
  · show (upper n.host).all hostc = true
    unfold upper
    rw [List.all_eq_true]
    intro c hc
    obtain ⟨x, hx, rfl⟩ := List.mem_map.1 hc
    exact upc_host (List.all_eq_true.1 h.host x hx)
  · refine ⟨t, ?_, ?_⟩
    · show twistB n.path how = _
      rw [e]; exact ht
    · rw [← ht]; exact x.made
  · show n.hq = true ∨ twistB n.query how = []
    rcases h.query with h | h
    · exact .inl h
    · exact .inr (by rw [h]; rfl)
  · exact (twist_ok plain_query how h.made).made
theorem turned_norm {u : U} (h : okB u = true) (how : Bs) (ht : okB (turned (normB u) how) = true) : normB (turned (normB u) how) = normB u := by
  have hn := norm_ok h
  have hf := hn
  unfold okB at hf
  rw [Bool.and_eq_true, form_iff] at hf
  obtain ⟨r, e, hm⟩ := hf.1.path
  have h1 := (twist_ok plain_path how hm).undo
  rw [← e] at h1
  have h2 := (twist_ok plain_query how hf.1.made).undo
  have hi := norm_idem h
  rw [normB_ok hn] at hi
  rw [normB_ok ht]
  show U.mk (normB u).scheme (lower (upper (normB u).host)) (normPort (turned (normB u) how)) (dotsB (undoB (twistB (normB u).path how))) (undoB (twistB (normB u).query how)) (normB u).hq = _
  rw [lower_upper, h1, h2]
  exact hi
end Go.Proofs.YtobhceopfjcmnaaGreatDoor
