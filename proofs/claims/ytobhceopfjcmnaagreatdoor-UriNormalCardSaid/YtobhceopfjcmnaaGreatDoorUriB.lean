/- What is parsed has the text that it was parsed of, but for the path that was none. -/
import Derived.Test.YtobhceopfjcmnaaGreatDoorUriQ
namespace Go.Proofs.YtobhceopfjcmnaaGreatDoor
open Go.Lib

theorem num_fold_nat : ∀ (l : Bs) (n : Nat), l.all dig = true → l.foldl digv (n : Int) = ((l.foldl (fun m c => 10 * m + (c.toNat - 48)) n : Nat) : Int)
  | [], n, _ => rfl
  | c :: l, n, h => by
    rw [List.all_cons, Bool.and_eq_true] at h
    have hc := of_decide_eq_true h.1
    rw [List.foldl_cons, List.foldl_cons, ← num_fold_nat l _ h.2]
    congr 1
    unfold digv; omega
def foldN (l : Bs) : Nat := l.foldl (fun m c => 10 * m + (c.toNat - 48)) 0
theorem foldN_snoc (l : Bs) (c : UInt8) : foldN (l ++ [c]) = 10 * foldN l + (c.toNat - 48) := by unfold foldN; rw [List.foldl_append]; rfl
theorem foldN_pos : ∀ (r : Bs) (c : UInt8), dig c = true → c ≠ 48 → 1 ≤ foldN (c :: r) := by
  intro r c hd hc
  have h1 : ∀ (l : Bs) (n : Nat), 1 ≤ n → 1 ≤ l.foldl (fun m c => 10 * m + (c.toNat - 48)) n := by
    intro l
    induction l with
    | nil => intro n h; exact h
    | cons a l ih => intro n h; rw [List.foldl_cons]; exact ih _ (by omega)
  have hn : 48 ≤ c.toNat ∧ c.toNat ≤ 57 := of_decide_eq_true hd
  have h2 : c.toNat ≠ 48 := fun e => hc (by rw [u8eq]; exact e)
  refine h1 r _ ?_
  show 1 ≤ 10 * 0 + (c.toNat - 48)
  omega
theorem numK_of : ∀ (k : Nat) (l : Bs), l.all dig = true → l ≠ [] → (∀ c r, l = c :: r → c ≠ 48 ∨ r = []) → l.length ≤ k → numK k (foldN l) = l
  | 0, l, _, h, _, hk => by cases l with | nil => exact (h rfl).elim | cons a b => simp at hk
  | k + 1, l, hd, h, hz, hk => by
    have e := (List.dropLast_concat_getLast h).symm
    generalize l.getLast h = d at *
    generalize hl' : l.dropLast = l' at *
    subst e
    rw [List.all_append, Bool.and_eq_true] at hd
    have hdd : dig d = true := by have := hd.2; rw [List.all_cons, Bool.and_eq_true] at this; exact this.1
    have hdn := of_decide_eq_true hdd
    have hrec : UInt8.ofNat (48 + (d.toNat - 48)) = d := by rw [u8eq, UInt8.toNat_ofNat_of_lt' (by show _ < 256; omega)]; omega
    rw [foldN_snoc]
    by_cases hn : l' = []
    · subst hn
      unfold numK
      have : 10 * foldN [] + (d.toNat - 48) = d.toNat - 48 := by unfold foldN; simp
      rw [this, if_pos (by omega), hrec]; rfl
    · have hp : 1 ≤ foldN l' := by
        cases hc : l' with
        | nil => exact (hn hc).elim
        | cons c r =>
          rw [hc] at hd hz
          have hcd := hd.1
          rw [List.all_cons, Bool.and_eq_true] at hcd
          rcases hz c (r ++ [d]) rfl with h | h
          · exact foldN_pos r c hcd.1 h
          · simp at h
      unfold numK
      rw [if_neg (by omega), show (10 * foldN l' + (d.toNat - 48)) / 10 = foldN l' by omega, show (10 * foldN l' + (d.toNat - 48)) % 10 = d.toNat - 48 by omega, hrec]
      rw [numK_of k l' hd.1 hn (fun c r e => by
        rcases hz c (r ++ [d]) (by rw [e]; rfl) with h | h
        · exact .inl h
        · simp at h) (by simp at hk; omega)]
theorem portB_back {s : Bs} (h : portB s ≠ 0) : numB (portB s).toNat = s ∧ 1 ≤ portB s := by
  unfold portB portB.atoi5 at h ⊢
  cases hc : (decide (1 ≤ s.length ∧ s.length ≤ 5) && s.all dig && !(s.head? == some 48))
  · rw [hc] at h; exact (h rfl).elim
  · rw [Bool.and_eq_true, Bool.and_eq_true, decide_eq_true_eq] at hc
    obtain ⟨⟨⟨h1, h2⟩, h3⟩, h4⟩ := hc
    simp only [cond_true]
    have e : s.foldl (fun n c => 10 * n + ((c.toNat : Int) - 48)) 0 = ((foldN s : Nat) : Int) := num_fold_nat s 0 h3
    rw [e]
    have hne : s ≠ [] := by rintro rfl; simp at h1
    have hz : ∀ c r, s = c :: r → c ≠ 48 := by
      rintro c r rfl rfl
      simp at h4
    refine ⟨?_, ?_⟩
    · rw [Int.toNat_natCast]
      exact numK_of 6 s h3 hne (fun c r e => .inl (hz c r e)) (by omega)
    · cases s with
      | nil => exact (hne rfl).elim
      | cons c r =>
        rw [List.all_cons, Bool.and_eq_true] at h3
        have := foldN_pos r c h3.1 (hz c r rfl)
        omega
theorem cut_back {s : Bs} (h : contains s sep3 = true) : s = (cut s sep3).1 ++ (sep3 ++ (cut s sep3).2.1) := by
  rw [cut_has s sep3 h]
  rcases index_spec s sep3 with ⟨e, _⟩ | ⟨i, e, hi, ho, _⟩
  · unfold contains at h; rw [e] at h; cases h
  · rw [e]
    show s = s.take i ++ (sep3 ++ s.drop (i + 3))
    unfold occAt at ho
    obtain ⟨t, ht⟩ := List.isPrefixOf_iff_prefix.1 ho
    have h2 : s.drop (i + 3) = t := by rw [← List.drop_drop, ← ht]; rfl
    rw [h2, ht, List.take_append_drop]
theorem lead_at {c : UInt8} {s : Bs} (h : s.contains c = true) : s[lead (· != c) s]? = some c := by
  have hl := lead_lt c s h
  rw [List.getElem?_eq_getElem hl]
  cases hx : (s[lead (· != c) s] == c)
  · have hst := lead_step (· != c) s _ s[lead (· != c) s] (Nat.le_refl _) (List.getElem?_eq_getElem hl) (by simpa using hx)
    omega
  · rw [beq_iff_eq] at hx; rw [hx]
theorem upto_past {c : UInt8} {s : Bs} (h : s.contains c = true) : s = upto c s ++ c :: past c s := by
  have hl := lead_lt c s h
  have e := lead_at h
  rw [List.getElem?_eq_getElem hl, Option.some.injEq] at e
  conv => lhs; rw [← List.take_append_drop (lead (· != c) s) s]
  rw [take_upto, List.drop_eq_getElem_cons hl, drop_past, e]
theorem upto_free (c : UInt8) (s : Bs) : (upto c s).contains c = false := by
  unfold upto
  cases h : (s.takeWhile (· != c)).contains c
  · rfl
  · have := List.all_eq_true.1 (List.all_takeWhile (p := fun x => x != c) (l := s)) c (List.contains_iff_mem.1 h)
    simp at this
/-- A text that is parsed: it is put together of the URI's parts, the path perhaps none. -/
structure Back (s : Bs) (v : U) : Prop where
  ok : okB v = true
  eq : s = textB v ∨ (v.path = [47] ∧ ∃ a b, s = a ++ b ∧ textB v = a ++ 47 :: b ∧ upto 63 s = a)
theorem parse_back {s : Bs} {v : U} (h : parseB s = (v, 0)) : Back s v := by
  unfold parseB at h
  cases hl : decide (s.length ≤ maxURI)
  · rw [hl] at h; cases h
  · rw [hl, cond_true] at h
    cases hp : portedB (rawB s) with
    | none => rw [hp] at h; cases h
    | some u =>
      rw [hp] at h
      change (if checkB u = 0 then (u, 0) else (noU, checkB u)) = (v, 0) at h
      by_cases hc : checkB u = 0
      · rw [if_pos hc] at h
        obtain rfl : u = v := by injection h
        have hok := (checkB_ok u).1 hc
        have hf := hok
        unfold okB at hf
        rw [Bool.and_eq_true, form_iff] at hf
        refine ⟨hok, ?_⟩
        have f := hf.1
        -- the parts of the text behind the scheme
        generalize ht : (cut s sep3).2.1 = t at *
        have hraw : rawB s = ⟨(cut s sep3).1, (upto 63 t).takeWhile (· != 47), 0, if (upto 63 t).dropWhile (· != 47) = [] then [47] else (upto 63 t).dropWhile (· != 47), past 63 t, t.contains 63⟩ := by rw [← ht]; rfl
        rw [hraw] at hp
        have hr : upto 63 t = (upto 63 t).takeWhile (· != 47) ++ (upto 63 t).dropWhile (· != 47) := (List.takeWhile_append_dropWhile (p := fun x => x != 47) (l := upto 63 t)).symm
        have hfree := upto_free 63 t
        have htt : t = upto 63 t ++ (bif t.contains 63 then [63] ++ past 63 t else []) := by
          cases hq : t.contains 63
          · rw [cond_false, List.append_nil, upto_all 63 t hq]
          · exact upto_past hq
        have hhf : ((upto 63 t).takeWhile (· != 47)).contains 63 = false := by
          cases h63 : ((upto 63 t).takeWhile (· != 47)).contains 63
          · rfl
          · have := (List.takeWhile_sublist (fun x => x != 47)).subset (List.contains_iff_mem.1 h63)
            rw [← List.contains_iff_mem, hfree] at this; cases this
        generalize hh : (upto 63 t).takeWhile (· != 47) = H at *
        generalize hpp : (upto 63 t).dropWhile (· != 47) = Pq at *
        -- the host and the port
        have hport : H = u.host ++ (bif u.port == 0 then [] else [58] ++ numB u.port.toNat) ∧ u.scheme = (cut s sep3).1 ∧ u.path = (if Pq = [] then [47] else Pq) ∧ u.query = past 63 t ∧ u.hq = t.contains 63 := by
          unfold portedB at hp
          cases h58 : H.contains 58
          · change (bif H.contains 58 then _ else _) = some u at hp
            rw [h58, cond_false, Option.some.injEq] at hp
            subst hp
            exact ⟨by simp, rfl, rfl, rfl, rfl⟩
          · change (bif H.contains 58 then (if portB (past 58 H) = 0 then none else some (U.mk (cut s sep3).1 (upto 58 H) (portB (past 58 H)) (if Pq = [] then [47] else Pq) (past 63 t) (t.contains 63))) else _) = some u at hp
            rw [h58, cond_true] at hp
            by_cases h0 : portB (past 58 H) = 0
            · rw [if_pos h0] at hp; cases hp
            · rw [if_neg h0, Option.some.injEq] at hp
              subst hp
              obtain ⟨b1, b2⟩ := portB_back h0
              refine ⟨?_, rfl, rfl, rfl, rfl⟩
              show H = upto 58 H ++ (bif portB (past 58 H) == 0 then [] else [58] ++ numB (portB (past 58 H)).toNat)
              rw [b1, show (portB (past 58 H) == 0) = false from by rw [beq_eq_false_iff_ne]; exact h0]
              exact upto_past h58
        obtain ⟨e1, e2, e3, e4, e5⟩ := hport
        have hs : contains s sep3 = true := by
          cases hcs : contains s sep3
          · rw [cut_hasnt s sep3 hcs] at ht
            have ht' : t = [] := ht.symm
            subst ht'
            have hH : H = [] := by rw [← hh]; rfl
            rw [hH] at e1
            have := f.hlen.1
            have h2 := congrArg List.length e1
            simp at h2; omega
          · rfl
        have hsb := cut_back hs
        rw [ht] at hsb
        have htx : textB u = (cut s sep3).1 ++ (sep3 ++ (H ++ ((if Pq = [] then [47] else Pq) ++ (bif t.contains 63 then [63] ++ past 63 t else [])))) := by
          rw [text_eq]; unfold behind
          rw [e1, e2, e3, e4, e5]; simp
        rw [hr] at htt
        by_cases hPq : Pq = []
        · right
          rw [if_pos hPq] at htx e3
          refine ⟨e3, (cut s sep3).1 ++ (sep3 ++ H), (bif t.contains 63 then [63] ++ past 63 t else []), ?_, ?_, ?_⟩
          · conv => lhs; rw [hsb, htt, hPq]
            simp
          · rw [htx]; simp
          · have hno : ((cut s sep3).1 ++ (sep3 ++ H)).contains 63 = false := by
              rw [has_app, has_app, hhf, ← e2]
              rcases f.scheme with h | h <;> rw [h] <;> rfl
            have hS : s = ((cut s sep3).1 ++ (sep3 ++ H)) ++ (bif t.contains 63 then [63] ++ past 63 t else []) := by
              conv => lhs; rw [hsb, htt, hPq]
              simp
            generalize (cut s sep3).1 ++ (sep3 ++ H) = A at *
            rw [hS]
            cases t.contains 63
            · rw [cond_false, List.append_nil, upto_all 63 A hno]
            · exact upto_app hno
        · left
          rw [if_neg hPq] at htx
          rw [htx]
          conv => lhs; rw [hsb, htt]
          simp
      · rw [if_neg hc] at h
        injection h with _ h; exact (hc h).elim
end Go.Proofs.YtobhceopfjcmnaaGreatDoor
