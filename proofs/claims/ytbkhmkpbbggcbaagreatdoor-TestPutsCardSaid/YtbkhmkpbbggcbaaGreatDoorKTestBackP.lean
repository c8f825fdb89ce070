/- What a rule of the tests finds stays, if blanks and a bracket stand around the text: the places are moved alone. Plain. The text of a tree: plain. What is parsed of it is that tree, unless it is nested too deep. What was parsed is a tree that has a text. What is parsed of a tree's text is that tree, unless it is nested too deep; what was parsed is a tree that has a text. Plain. -/
import Derived.Test.YtbkhmkpbbggcbaaGreatDoorKTestP
namespace Go.Proofs.YtbkhmkpbbggcbaaGreatDoor
open Go.Lib
structure TailQ (q : Bs) : Prop where
  head : ∀ c r, q = c :: r → blk c = true ∨ c = 41
  past : ∀ c r, q.dropWhile blk = c :: r → c = 41
structure In (s s' : Bs) (d : Nat) (q : Bs) : Prop where
  eq : s'.drop d = s ++ q
  le : d ≤ s'.length
  tail : TailQ q
section
variable {s s' q : Bs} {d : Nat}
theorem In.len (h : In s s' d q) : s'.length = d + s.length + q.length := by
  have := congrArg List.length h.eq
  rw [List.length_drop, List.length_append] at this
  have := h.le; omega
theorem In.drop (h : In s s' d q) {i : Nat} (hi : i ≤ s.length) : s'.drop (i + d) = s.drop i ++ q := by
  rw [Nat.add_comm, ← List.drop_drop, h.eq, List.drop_append_of_le_length hi]
theorem TailQ.dig (h : TailQ q) : ∀ c r, q = c :: r → dig c = false := by
  intro c r e
  rcases h.head c r e with hb | rfl
  · unfold blk at hb
    rw [decide_eq_true_eq] at hb
    unfold YtbkhmkpbbggcbaaGreatDoor.dig
    exact decide_eq_false (by omega)
  · decide
end
section
variable {s s' q : Bs} {d : Nat} {low : Prop}
end
end Go.Proofs.YtbkhmkpbbggcbaaGreatDoor
namespace Go.Proofs.YtbkhmkpbbggcbaaGreatDoor
open Go.Lib
def usedB (u : UseI) : Bs :=
  let s0 := [36, 40] ++ u.name
  let s1 := bif u.hk then s0 ++ (([123] ++ u.key) ++ [125]) else s0
  let s2 := bif u.hd then s1 ++ (([124, 39] ++ u.dft) ++ [39]) else s1
  s2 ++ [41]
def alikeU (v : Use) (u : UseI) : Bool := v.name == u.name && v.key == u.key && v.dft == u.dft && v.hk == u.hk && v.hd == u.hd
def useOk (u : UseI) : Bool := match vfind (usedB u) 0 with
  | none => false
  | some v => decide (v.src = 0) && decide (v.to = (usedB u).length) && alikeU v u
def numOk (t : Bs) : Bool := !t.isEmpty && decide (t.length ≤ 18) && t.all dig
def mayN (k : Int) (t : Bs) (u : UseI) (n : Nat) : Bool :=
  if k = 3 then decide (n = 1) && t.isEmpty && useEq u noUseI
  else if k = 10 then !hasB 39 t && (decide (n = 0) && useEq u noUseI)
  else if k = 11 then numOk t && (decide (n = 0) && useEq u noUseI)
  else if k = 12 then useOk u && (decide (n = 0) && t.isEmpty)
  else decide (1 ≤ k ∧ k ≤ 12) && (decide (n = 2) && t.isEmpty && useEq u noUseI)
def kidT (m : Int) (k : Int) (s : Bs) : Bs := bif decide (m ≤ k ∧ k ≤ 12) then s else ([40] ++ s) ++ [41]
def twoT (sg : Bs) (m1 m2 : Int) : List (Int × Bs × Bool) → Bs × Bool
  | [(k1, a, i1), (k2, b, i2)] => ((((kidT m1 k1 a ++ [32]) ++ sg) ++ [32]) ++ kidT m2 k2 b, i1 && i2)
  | _ => ([], false)
def oneT : List (Int × Bs × Bool) → Bs × Bool
  | [(k1, a, i1)] => ([33] ++ kidT 3 k1 a, i1)
  | _ => ([], false)
def signB (n : Nat) : Bs := match n with | 0 => [61, 61] | 1 => [33, 61] | 2 => [60] | 3 => [60, 61] | 4 => [62] | _ => [62, 61]
def nodeT (k : Int) (t : Bs) (u : UseI) (L : List (Int × Bs × Bool)) : Bs × Bool :=
  if k = 1 then twoT [124] 1 2 L else if k = 2 then twoT [38] 2 3 L else if k = 3 then oneT L
  else if k = 10 then (([39] ++ t) ++ [39], true) else if k = 11 then (t, true) else if k = 12 then (usedB u, true)
  else twoT (signB (k - 4).toNat) 10 10 L
mutual
def textE : Ex → Bs × Bool
  | .mk k t u l => bif mayN k t u l.length then nodeT k t u (textL l) else ([], false)
def textL : List Ex → List (Int × Bs × Bool)
  | [] => []
  | x :: r => (x.kind, textE x) :: textL r
end
mutual
def mayE : Ex → Bool
  | .mk k t u l => mayN k t u l.length && mayL l
def mayL : List Ex → Bool
  | [] => true
  | x :: r => mayE x && mayL r
end
mutual
def weightE : Ex → Nat
  | .mk _ t u l => 1 + t.length + u.name.length + u.key.length + u.dft.length + weightL l
def weightL : List Ex → Nat
  | [] => 0
  | x :: r => weightE x + weightL r
end
def putE (x : Ex) : Bs × Int := bif mayE x then (bif decide ((testB (textE x).1).2.2 = 0) then ((textE x).1, 0) else ([], (testB (textE x).1).2.2)) else ([], 15)
theorem may_kinds {k : Int} {t : Bs} {u : UseI} {n : Nat} (h : mayN k t u n = true) :
    (k = 3 ∧ n = 1 ∧ t = [] ∧ useEq u noUseI = true) ∨ (k = 10 ∧ n = 0 ∧ hasB 39 t = false ∧ useEq u noUseI = true) ∨ (k = 11 ∧ n = 0 ∧ numOk t = true ∧ useEq u noUseI = true) ∨ (k = 12 ∧ n = 0 ∧ t = [] ∧ useOk u = true) ∨ ((k = 1 ∨ k = 2 ∨ (4 ≤ k ∧ k ≤ 9)) ∧ n = 2 ∧ t = [] ∧ useEq u noUseI = true) := by
  unfold mayN at h
  by_cases h3 : k = 3
  · rw [if_pos h3] at h
    simp only [Bool.and_eq_true, decide_eq_true_eq, List.isEmpty_iff] at h
    exact .inl ⟨h3, h.1.1, h.1.2, h.2⟩
  · rw [if_neg h3] at h
    by_cases h10 : k = 10
    · rw [if_pos h10] at h
      simp only [Bool.and_eq_true, decide_eq_true_eq, Bool.not_eq_true'] at h
      exact .inr (.inl ⟨h10, h.2.1, h.1, h.2.2⟩)
    · rw [if_neg h10] at h
      by_cases h11 : k = 11
      · rw [if_pos h11] at h
        simp only [Bool.and_eq_true, decide_eq_true_eq] at h
        exact .inr (.inr (.inl ⟨h11, h.2.1, h.1, h.2.2⟩))
      · rw [if_neg h11] at h
        by_cases h12 : k = 12
        · rw [if_pos h12] at h
          simp only [Bool.and_eq_true, decide_eq_true_eq, List.isEmpty_iff] at h
          exact .inr (.inr (.inr (.inl ⟨h12, h.2.1, h.2.2, h.1⟩)))
        · rw [if_neg h12] at h
          simp only [Bool.and_eq_true, decide_eq_true_eq, List.isEmpty_iff] at h
          exact .inr (.inr (.inr (.inr ⟨by omega, h.2.1.1, h.2.1.2, h.2.2⟩)))
theorem may_kind {x : Ex} (h : mayE x = true) : 1 ≤ x.kind ∧ x.kind ≤ 12 := by
  obtain ⟨k, t, u, l⟩ := x
  unfold mayE at h
  rw [Bool.and_eq_true] at h
  show 1 ≤ k ∧ k ≤ 12
  rcases may_kinds h.1 with h | h | h | h | h <;> omega
theorem may_mem : ∀ {l : List Ex} {x : Ex}, mayL l = true → x ∈ l → mayE x = true
  | [], _, _, h => by cases h
  | y :: r, x, h, hx => by
    unfold mayL at h
    rw [Bool.and_eq_true] at h
    rcases List.mem_cons.1 hx with e | hx
    · rw [e]; exact h.1
    · exact may_mem h.2 hx
theorem len_one {l : List Ex} (h : l.length = 1) : ∃ a, l = [a] := List.length_eq_one_iff.1 h
theorem len_two {l : List Ex} (h : l.length = 2) : ∃ a b, l = [a, b] := by
  match l, h with
  | [a, b], _ => exact ⟨a, b, rfl⟩
theorem textL_one (a : Ex) : textL [a] = [(a.kind, textE a)] := by rw [textL, textL]
theorem textL_two (a b : Ex) : textL [a, b] = [(a.kind, textE a), (b.kind, textE b)] := by rw [textL, textL, textL]
theorem mayL_nil : mayL [] = true := by rw [mayL]
theorem mayL_one (a : Ex) : mayL [a] = mayE a := by rw [mayL, mayL, Bool.and_true]
theorem mayL_two (a b : Ex) : mayL [a, b] = (mayE a && mayE b) := by rw [mayL, mayL, mayL, Bool.and_true]
theorem nodeT_1 (t : Bs) (u : UseI) (L) : nodeT 1 t u L = twoT [124] 1 2 L := rfl
theorem nodeT_2 (t : Bs) (u : UseI) (L) : nodeT 2 t u L = twoT [38] 2 3 L := rfl
theorem nodeT_3 (t : Bs) (u : UseI) (L) : nodeT 3 t u L = oneT L := rfl
theorem nodeT_10 (t : Bs) (u : UseI) (L) : nodeT 10 t u L = (([39] ++ t) ++ [39], true) := rfl
theorem nodeT_11 (t : Bs) (u : UseI) (L) : nodeT 11 t u L = (t, true) := rfl
theorem nodeT_12 (t : Bs) (u : UseI) (L) : nodeT 12 t u L = (usedB u, true) := rfl
theorem nodeT_cmp {k : Int} (h : 4 ≤ k) (h9 : k ≤ 9) (t : Bs) (u : UseI) (L) : nodeT k t u L = twoT (signB (k - 4).toNat) 10 10 L := by
  unfold nodeT
  rw [if_neg (by omega), if_neg (by omega), if_neg (by omega), if_neg (by omega), if_neg (by omega), if_neg (by omega)]
theorem two_two (sg : Bs) (m1 m2 : Int) (a b : Ex) : twoT sg m1 m2 (textL [a, b]) = ((((kidT m1 a.kind (textE a).1 ++ [32]) ++ sg) ++ [32]) ++ kidT m2 b.kind (textE b).1, (textE a).2 && (textE b).2) := by
  rw [textL_two]; rfl
theorem textE_mk (k : Int) (t : Bs) (u : UseI) (l : List Ex) : textE (.mk k t u l) = bif mayN k t u l.length then nodeT k t u (textL l) else ([], false) := by rw [textE]
theorem mayE_mk (k : Int) (t : Bs) (u : UseI) (l : List Ex) : mayE (.mk k t u l) = (mayN k t u l.length && mayL l) := by rw [mayE]
theorem text_may (x : Ex) : (textE x).2 = mayE x := by
  refine Ex.ind (P := fun x => (textE x).2 = mayE x) (fun k t u l ih => ?_) x
  rw [textE_mk, mayE_mk]
  cases hm : mayN k t u l.length
  · rfl
  · rw [cond_true, Bool.true_and]
    rcases may_kinds hm with ⟨rfl, hn, _⟩ | ⟨rfl, hn, _⟩ | ⟨rfl, hn, _⟩ | ⟨rfl, hn, _⟩ | ⟨hk, hn, _⟩
    · obtain ⟨a, rfl⟩ := len_one hn
      rw [nodeT_3, textL_one, mayL_one]
      exact ih a (by simp)
    · rw [List.length_eq_zero_iff.1 hn, mayL_nil]; rfl
    · rw [List.length_eq_zero_iff.1 hn, mayL_nil]; rfl
    · rw [List.length_eq_zero_iff.1 hn, mayL_nil]; rfl
    · obtain ⟨a, b, rfl⟩ := len_two hn
      have e : ∀ sg m1 m2, (twoT sg m1 m2 (textL [a, b])).2 = mayL [a, b] := fun sg m1 m2 => by
        rw [two_two, mayL_two, ← ih a (by simp), ← ih b (by simp)]
      rcases hk with rfl | rfl | ⟨h4, h9⟩
      · exact e _ _ _
      · exact e _ _ _
      · rw [nodeT_cmp h4 h9]; exact e _ _ _
theorem used_len (u : UseI) : (usedB u).length ≤ 8 + u.name.length + u.key.length + u.dft.length := by
  unfold usedB
  cases u.hk <;> cases u.hd <;> simp only [cond_true, cond_false, List.length_append, List.length_cons, List.length_nil] <;> omega
theorem kid_len (m k : Int) (s : Bs) : (kidT m k s).length ≤ s.length + 2 := by
  unfold kidT
  cases decide (m ≤ k ∧ k ≤ 12) <;> simp only [cond_true, cond_false, List.length_append, List.length_cons, List.length_nil] <;> omega
theorem signB_len (n : Nat) : (signB n).length ≤ 2 := by unfold signB; split <;> decide
theorem textE_len (x : Ex) : (textE x).1.length ≤ 20 * weightE x := by
  refine Ex.ind (P := fun x => (textE x).1.length ≤ 20 * weightE x) (fun k t u l ih => ?_) x
  rw [textE_mk, weightE]
  cases hm : mayN k t u l.length
  · exact Nat.zero_le _
  · rw [cond_true]
    rcases may_kinds hm with ⟨rfl, hn, _⟩ | ⟨rfl, hn, _⟩ | ⟨rfl, hn, _⟩ | ⟨rfl, hn, _⟩ | ⟨hk, hn, _⟩
    · obtain ⟨a, rfl⟩ := len_one hn
      have := ih a (by simp)
      have h2 := kid_len 3 a.kind (textE a).1
      rw [nodeT_3, textL_one]
      show ([33] ++ kidT 3 a.kind (textE a).1).length ≤ _
      simp only [weightL, List.length_append, List.length_singleton]; omega
    · rw [nodeT_10]; simp only [List.length_append, List.length_singleton]; omega
    · rw [nodeT_11]; show t.length ≤ _; omega
    · rw [nodeT_12]; have := used_len u; show (usedB u).length ≤ _; omega
    · obtain ⟨a, b, rfl⟩ := len_two hn
      have e : ∀ sg m1 m2, sg.length ≤ 2 → (twoT sg m1 m2 (textL [a, b])).1.length ≤ 20 * (1 + t.length + u.name.length + u.key.length + u.dft.length + weightL [a, b]) := fun sg m1 m2 hs => by
        have h1 := ih a (by simp)
        have h2 := ih b (by simp)
        have h3 := kid_len m1 a.kind (textE a).1
        have h4 := kid_len m2 b.kind (textE b).1
        rw [two_two]
        simp only [weightL, List.length_append, List.length_singleton]; omega
      rcases hk with rfl | rfl | ⟨h4, h9⟩
      · exact e _ _ _ (by decide)
      · exact e _ _ _ (by decide)
      · rw [nodeT_cmp h4 h9]; exact e _ _ _ (signB_len _)
structure PartsOk (r : Bs) (p : Parts) : Prop where
  name : p.name.all letc = true
  known : vknown p.name = true
  key : (p.hk = true ∧ vkey p.key = true ∧ hasB 125 p.key = false) ∨ (p.hk = false ∧ p.key = [])
  dft : (p.hd = true ∧ hasB 39 p.dft = false) ∨ (p.hd = false ∧ p.dft = [])
  len : p.name.length + p.key.length + p.dft.length + p.rest.length + 1 ≤ r.length
end Go.Proofs.YtbkhmkpbbggcbaaGreatDoor
namespace Go.Proofs.YtbkhmkpbbggcbaaGreatDoor
open Go.Lib
def HitX (x : Ex) (g : Got) (t : Nat) : Prop := (∃ y, g = .good y t ∧ sameE x y = true) ∨ ∃ p, g = .wrong p 3
def StopO (rest : Bs) : Prop := ∀ c r, rest = c :: r → c = 32 ∨ c = 41
def NS (rest : Bs) : Prop := signAt (rest.dropWhile blk) = none
def NoSg (c : UInt8) (rest : Bs) : Prop := hasPrefix (rest.dropWhile blk) [c] = false
def RowS (one : Nat → Got) (kind : Int) (sign : UInt8) (s : Bs) (i : Nat) (x : Ex) (t : Nat) : Prop :=
  (∃ n y, s.length < t + n ∧ rowG one kind sign s i = rowOn one kind sign s n y t ∧ sameE x y = true) ∨ ∃ p, rowG one kind sign s i = .wrong p 3
theorem StopO.dig {rest : Bs} (h : StopO rest) : ∀ c r, rest = c :: r → dig c = false := fun c r e => by rcases h c r e with rfl | rfl <;> decide
structure Lev (x : Ex) (s : Bs) (k i t : Nat) (rest : Bs) : Prop where
  op : 10 ≤ x.kind → HitX x (opK s k i) t
  not : 3 ≤ x.kind → NS rest → HitX x (notK s k i) t
  and : 2 ≤ x.kind → NS rest → RowS (notK s k) 2 38 s i x t
  or : NS rest → NoSg 38 rest → RowS (andK s k) 1 124 s i x t
theorem text_node {k : Int} {t : Bs} {u : UseI} {l : List Ex} (h : mayE (.mk k t u l) = true) : textE (.mk k t u l) = nodeT k t u (textL l) ∧ mayN k t u l.length = true ∧ mayL l = true := by
  rw [mayE_mk, Bool.and_eq_true] at h
  refine ⟨?_, h⟩
  rw [textE_mk, h.1]; rfl
end Go.Proofs.YtbkhmkpbbggcbaaGreatDoor
