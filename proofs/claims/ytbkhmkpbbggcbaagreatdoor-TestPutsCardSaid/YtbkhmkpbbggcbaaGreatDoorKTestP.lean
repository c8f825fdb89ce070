/- The tests' trees and their parser: plain. Trees: which are alike, which have the same places, how great they are: plain. Trees whose nodes have few kids: what is parsed is one. Plain. -/
import Derived.Test.YtbkhmkpbbggcbaaGreatDoorKSubPlain
namespace Go.Proofs.YtbkhmkpbbggcbaaGreatDoor
open Go.Lib
structure UseI where
  src : Int
  till : Int
  name : Bs
  key : Bs
  dft : Bs
  hk : Bool
  hd : Bool
def noUseI : UseI := ⟨0, 0, [], [], [], false, false⟩
inductive Ex where
  | mk (kind : Int) (text : Bs) (use : UseI) (kids : List Ex)
def Ex.kind : Ex → Int | .mk k _ _ _ => k
def Ex.text : Ex → Bs | .mk _ t _ _ => t
def Ex.use : Ex → UseI | .mk _ _ u _ => u
def Ex.kids : Ex → List Ex | .mk _ _ _ l => l
def noEx : Ex := .mk 0 [] noUseI []
def oneE (k : Int) (x : Ex) : Ex := .mk k [] noUseI [x]
def twoE (k : Int) (x y : Ex) : Ex := .mk k [] noUseI [x, y]
def wordE (k : Int) (t : Bs) : Ex := .mk k t noUseI []
def useIE (n i : Nat) (p : Parts) : UseI := ⟨(i : Int), ((n - p.rest.length : Nat) : Int), p.name, p.key, p.dft, p.hk, p.hd⟩
def varE (u : UseI) : Ex := .mk 12 [] u []
inductive Got where
  | good (x : Ex) (till : Nat)
  | wrong (place : Nat) (e : Int)
def blk (c : UInt8) : Bool := decide (c.toNat = 32 ∨ c.toNat = 9 ∨ c.toNat = 10 ∨ c.toNat = 13)
def blkSet : Bs := [32, 9, 10, 13]
theorem blkSet_eq : (fun c => blkSet.contains c) = blk := set_eq _ _ (by decide +kernel)
def digSet : Bs := [48, 49, 50, 51, 52, 53, 54, 55, 56, 57]
theorem digSet_eq : (fun c => digSet.contains c) = dig := set_eq _ _ (by decide +kernel)
def rs (s : Bs) (i : Nat) : Bs := (s.drop i).dropWhile blk
def pa (s : Bs) (i : Nat) : Nat := s.length - (rs s i).length
theorem pa_lead (s : Bs) {i : Nat} (h : i ≤ s.length) : pa s i = i + lead blk (s.drop i) := by
  unfold pa rs
  rw [← drop_lead, List.length_drop, List.length_drop]
  have := lead_le blk (s.drop i)
  rw [List.length_drop] at this; omega
theorem drop_pa (s : Bs) {i : Nat} (h : i ≤ s.length) : s.drop (pa s i) = rs s i := by
  rw [pa_lead s h, ← List.drop_drop, drop_lead]; rfl
theorem pa_le (s : Bs) (i : Nat) : pa s i ≤ s.length := Nat.sub_le _ _
theorem pa_ge (s : Bs) {i : Nat} (h : i ≤ s.length) : i ≤ pa s i := by rw [pa_lead s h]; exact Nat.le_add_right _ _
theorem rs_head {s : Bs} {i : Nat} {c : UInt8} {r : Bs} (h : rs s i = c :: r) : blk c = false := by
  unfold rs at h
  have := List.dropWhile_cons_of_pos (p := blk) (a := c) (l := r)
  cases hb : blk c
  · rfl
  · exfalso
    have h2 : ((s.drop i).dropWhile blk).dropWhile blk = (s.drop i).dropWhile blk := by
      generalize s.drop i = l
      induction l with
      | nil => rfl
      | cons x l ih =>
        rw [List.dropWhile_cons]
        split
        · exact ih
        · rename_i hx; rw [List.dropWhile_cons, if_neg hx]
    rw [h, List.dropWhile_cons, if_pos hb] at h2
    have := congrArg List.length h2
    have h3 := dropWhile_len blk r
    simp only [List.length_cons] at this; omega
theorem rs_pa (s : Bs) {i : Nat} (h : i ≤ s.length) : rs s (pa s i) = rs s i := by
  conv => lhs; unfold rs
  rw [drop_pa s h]
  cases hr : rs s i with
  | nil => rfl
  | cons c r => rw [List.dropWhile_cons, rs_head hr]; rfl
theorem pa_pa (s : Bs) {i : Nat} (h : i ≤ s.length) : pa s (pa s i) = pa s i := by
  show s.length - (rs s (pa s i)).length = _; rw [rs_pa s h]; rfl
theorem rs_len (s : Bs) {i : Nat} (h : i ≤ s.length) : (rs s i).length = s.length - pa s i := by
  rw [← drop_pa s h, List.length_drop]
def brG (deep : Option (Nat → Got)) (s : Bs) (i : Nat) : Got :=
  match deep with
  | none => .wrong i 3
  | some f => match f (i + 1) with
    | .wrong p e => .wrong p e
    | .good x t => bif hasPrefix (rs s t) [41] then .good x (pa s t + 1) else .wrong (pa s t) 15
def quG (s : Bs) (i : Nat) (r : Bs) : Got := bif r.contains 39 then .good (wordE 10 (upto 39 r)) (i + 1 + (upto 39 r).length + 1) else .wrong s.length 15
def numG (i : Nat) (d : Bs) : Got := bif decide (d.length ≤ 18) then .good (wordE 11 d) (i + d.length) else .wrong (i + 18) 15
def varG (s : Bs) (i : Nat) (r : Bs) : Got := match partsAt r with | some p => .good (varE (useIE s.length i p)) (s.length - p.rest.length) | none => .wrong i 15
def opAt (deep : Option (Nat → Got)) (s : Bs) (i : Nat) : Bs → Got
  | [] => .wrong i 15
  | c :: r => bif c == 40 then brG deep s i else bif c == 39 then quG s i r else bif dig c then numG i ((c :: r).takeWhile dig) else varG s i (c :: r)
def opG (deep : Option (Nat → Got)) (s : Bs) (i : Nat) : Got := opAt deep s (pa s i) (rs s i)
def signAt (r : Bs) : Option (Nat × Nat) :=
  bif hasPrefix r [61, 61] then some (0, 2) else bif hasPrefix r [33, 61] then some (1, 2) else bif hasPrefix r [60, 61] then some (3, 2) else bif hasPrefix r [60] then some (2, 1) else bif hasPrefix r [62, 61] then some (5, 2) else bif hasPrefix r [62] then some (4, 1) else none
def cmpOn (deep : Option (Nat → Got)) (s : Bs) (x : Ex) (t : Nat) : Got :=
  match signAt (rs s t) with
  | none => .good x t
  | some (k, n) => match opG deep s (pa s t + n) with
    | .wrong p e => .wrong p e
    | .good y t2 => .good (twoE (4 + k) x y) t2
def cmpG (deep : Option (Nat → Got)) (s : Bs) (i : Nat) : Got :=
  match opG deep s i with
  | .wrong p e => .wrong p e
  | .good x t => cmpOn deep s x t
def notG (dOr dNot : Option (Nat → Got)) (s : Bs) (i : Nat) : Got :=
  bif hasPrefix (rs s i) [33] then match dNot with
    | none => .wrong (pa s i) 3
    | some f => match f (pa s i + 1) with
      | .wrong p e => .wrong p e
      | .good x t => .good (oneE 3 x) t
  else cmpG dOr s i
def rowOn (one : Nat → Got) (kind : Int) (sign : UInt8) (s : Bs) : Nat → Ex → Nat → Got
  | 0, x, t => .good x t
  | n + 1, x, t => bif hasPrefix (rs s t) [sign] then match one (pa s t + 1) with
      | .wrong p e => .wrong p e
      | .good y t2 => rowOn one kind sign s n (twoE kind x y) t2
    else .good x t
def rowG (one : Nat → Got) (kind : Int) (sign : UInt8) (s : Bs) (i : Nat) : Got :=
  match one i with
  | .wrong p e => .wrong p e
  | .good x t => rowOn one kind sign s (s.length + 1) x t
def orG (dOr dNot : Option (Nat → Got)) (s : Bs) (i : Nat) : Got := rowG (rowG (notG dOr dNot s) 2 38 s) 1 124 s i
def levG (s : Bs) : Nat → (Nat → Got) × (Nat → Got)
  | 0 => (orG none none s, notG none none s)
  | k + 1 => (orG (some (levG s k).1) (some (levG s k).2) s, notG (some (levG s k).1) (some (levG s k).2) s)
def orK (s : Bs) (k : Nat) : Nat → Got := (levG s k).1
def notK (s : Bs) (k : Nat) : Nat → Got := (levG s k).2
def dOrK (s : Bs) : Nat → Option (Nat → Got)
  | 0 => none
  | k + 1 => some (orK s k)
def dNotK (s : Bs) : Nat → Option (Nat → Got)
  | 0 => none
  | k + 1 => some (notK s k)
def andK (s : Bs) (k : Nat) : Nat → Got := rowG (notK s k) 2 38 s
theorem notK_eq (s : Bs) (k : Nat) : notK s k = notG (dOrK s k) (dNotK s k) s := by cases k <;> rfl
theorem orK_eq (s : Bs) (k : Nat) : orK s k = rowG (andK s k) 1 124 s := by
  have : orK s k = orG (dOrK s k) (dNotK s k) s := by cases k <;> rfl
  rw [this]; unfold andK; rw [notK_eq]; rfl
def cmpK (s : Bs) (k : Nat) : Nat → Got := cmpG (dOrK s k) s
def opK (s : Bs) (k : Nat) : Nat → Got := opG (dOrK s k) s
def testB (s : Bs) : Ex × Nat × Int :=
  match orK s 16 0 with
  | .wrong p e => (noEx, p, e)
  | .good x t => bif decide (pa s t = s.length) then (x, 0, 0) else (noEx, pa s t, 15)
def Fits (s : Bs) (i : Nat) : Got → Prop
  | .good _ t => i < t ∧ t ≤ s.length
  | .wrong p e => p ≤ s.length ∧ (e = 3 ∨ e = 15)
def FitsF (s : Bs) (f : Nat → Got) : Prop := ∀ i, i ≤ s.length → Fits s i (f i)
def FitsO (s : Bs) (f : Option (Nat → Got)) : Prop := ∀ g, f = some g → FitsF s g
theorem rs_lt {s : Bs} {i : Nat} (hi : i ≤ s.length) {c : UInt8} {r : Bs} (h : rs s i = c :: r) : pa s i + 1 + r.length = s.length := by
  have h1 := rs_len s hi
  have h2 := pa_le s i
  rw [h, List.length_cons] at h1; omega
theorem pfx_lt {s : Bs} {i : Nat} (hi : i ≤ s.length) {p : Bs} (h : hasPrefix (rs s i) p = true) : pa s i + p.length ≤ s.length := by
  have h1 := rs_len s hi
  have h2 := pa_le s i
  have := pfx_len h; omega
theorem upto_lt {c : UInt8} {r : Bs} (h : r.contains c = true) : (upto c r).length < r.length := by
  rw [← take_upto, List.length_take]
  have := lead_lt c r h; omega
theorem op_fits {s : Bs} {d : Option (Nat → Got)} (hd : FitsO s d) : FitsF s (opG d s) := by
  intro i hi
  have hg := pa_ge s hi
  have hl := pa_le s i
  unfold opG
  cases hr : rs s i with
  | nil => exact ⟨hl, .inr rfl⟩
  | cons c r =>
    have hn := rs_lt hi hr
    show Fits s i (bif c == 40 then _ else _)
    cases c == 40
    · rw [cond_false]
      cases c == 39
      · rw [cond_false]
        cases hdg : dig c
        · rw [cond_false]
          unfold varG
          cases hp : partsAt (c :: r) with
          | none => exact ⟨hl, .inr rfl⟩
          | some p =>
            obtain ⟨h1, _⟩ := partsAt_len hp
            simp only [List.length_cons] at h1
            show i < s.length - p.rest.length ∧ _
            omega
        · rw [cond_true]
          unfold numG
          have h1 : ((c :: r).takeWhile dig).length ≤ (c :: r).length := by rw [← take_lead, List.length_take]; omega
          have h2 : 1 ≤ ((c :: r).takeWhile dig).length := by rw [List.takeWhile_cons, if_pos hdg]; simp
          simp only [List.length_cons] at h1
          by_cases h18 : ((c :: r).takeWhile dig).length ≤ 18
          · rw [decide_eq_true h18]
            show i < pa s i + _ ∧ _; omega
          · rw [decide_eq_false h18]
            exact ⟨by omega, .inr rfl⟩
      · rw [cond_true]
        unfold quG
        cases hq : r.contains 39
        · exact ⟨Nat.le_refl _, .inr rfl⟩
        · have := upto_lt hq
          show i < pa s i + 1 + (upto 39 r).length + 1 ∧ _
          omega
    · rw [cond_true]
      unfold brG
      cases d with
      | none => exact ⟨hl, .inl rfl⟩
      | some f =>
        have hf := hd f rfl (pa s i + 1) (by omega)
        show Fits s i (match f (pa s i + 1) with | .wrong p e => .wrong p e | .good x t => bif hasPrefix (rs s t) [41] then .good x (pa s t + 1) else .wrong (pa s t) 15)
        cases hx : f (pa s i + 1) with
        | wrong p e => rw [hx] at hf; exact hf
        | good x t =>
          rw [hx] at hf
          have h1 : pa s i + 1 < t ∧ t ≤ s.length := hf
          show Fits s i (bif hasPrefix (rs s t) [41] then .good x (pa s t + 1) else .wrong (pa s t) 15)
          cases hp : hasPrefix (rs s t) [41]
          · exact ⟨pa_le s t, .inr rfl⟩
          · have h2 := pfx_lt h1.2 hp
            have h3 := pa_ge s h1.2
            simp only [List.length_singleton] at h2
            exact ⟨by omega, h2⟩
theorem sign_len {r : Bs} {k n : Nat} (h : signAt r = some (k, n)) : n ≤ r.length ∧ 1 ≤ n ∧ n ≤ 2 ∧ k ≤ 5 := by
  unfold signAt at h
  cases h1 : hasPrefix r [61, 61]
  · cases h2 : hasPrefix r [33, 61]
    · cases h3 : hasPrefix r [60, 61]
      · cases h4 : hasPrefix r [60]
        · cases h5 : hasPrefix r [62, 61]
          · cases h6 : hasPrefix r [62]
            · rw [h1, h2, h3, h4, h5, h6] at h; cases h
            · rw [h1, h2, h3, h4, h5, h6] at h; cases h; have := pfx_len h6; simp at this; omega
          · rw [h1, h2, h3, h4, h5] at h; cases h; have := pfx_len h5; simp at this; omega
        · rw [h1, h2, h3, h4] at h; cases h; have := pfx_len h4; simp at this; omega
      · rw [h1, h2, h3] at h; cases h; have := pfx_len h3; simp at this; omega
    · rw [h1, h2] at h; cases h; have := pfx_len h2; simp at this; omega
  · rw [h1] at h; cases h; have := pfx_len h1; simp at this; omega
theorem cmp_fits {s : Bs} {d : Option (Nat → Got)} (hd : FitsO s d) : FitsF s (cmpG d s) := by
  intro i hi
  have h1 := op_fits hd i hi
  unfold cmpG
  cases ho : opG d s i with
  | wrong p e => rw [ho] at h1; exact h1
  | good x t =>
    rw [ho] at h1
    have h1 : i < t ∧ t ≤ s.length := h1
    show Fits s i (cmpOn d s x t)
    unfold cmpOn
    cases hs : signAt (rs s t) with
    | none => exact h1
    | some kn =>
      obtain ⟨k, n⟩ := kn
      obtain ⟨h2, h3, _, _⟩ := sign_len hs
      have h4 := rs_len s h1.2
      have h5 := pa_ge s h1.2
      have h6 := pa_le s t
      have h7 := op_fits hd (pa s t + n) (by omega)
      show Fits s i (match opG d s (pa s t + n) with | .wrong p e => .wrong p e | .good y t2 => .good (twoE (4 + k) x y) t2)
      cases ho2 : opG d s (pa s t + n) with
      | wrong p e => rw [ho2] at h7; exact h7
      | good y t2 =>
        rw [ho2] at h7
        have h7 : pa s t + n < t2 ∧ t2 ≤ s.length := h7
        exact ⟨by omega, h7.2⟩
theorem not_fits {s : Bs} {d1 d2 : Option (Nat → Got)} (h1 : FitsO s d1) (h2 : FitsO s d2) : FitsF s (notG d1 d2 s) := by
  intro i hi
  unfold notG
  cases hp : hasPrefix (rs s i) [33]
  · exact cmp_fits h1 i hi
  · have h3 := pfx_lt hi hp
    have h4 := pa_ge s hi
    have h5 := pa_le s i
    simp only [List.length_singleton] at h3
    rw [cond_true]
    cases d2 with
    | none => exact ⟨h5, .inl rfl⟩
    | some f =>
      have hf := h2 f rfl (pa s i + 1) (by omega)
      show Fits s i (match f (pa s i + 1) with | .wrong p e => .wrong p e | .good x t => .good (oneE 3 x) t)
      cases hx : f (pa s i + 1) with
      | wrong p e => rw [hx] at hf; exact hf
      | good x t =>
        rw [hx] at hf
        have h6 : pa s i + 1 < t ∧ t ≤ s.length := hf
        exact ⟨by omega, h6.2⟩
theorem rowOn_fits {s : Bs} {one : Nat → Got} (h : FitsF s one) (kind : Int) (sign : UInt8) (i : Nat) : ∀ (n : Nat) (x : Ex) (t : Nat), i < t → t ≤ s.length → Fits s i (rowOn one kind sign s n x t)
  | 0, _, _, h1, h2 => ⟨h1, h2⟩
  | n + 1, x, t, h1, h2 => by
    unfold rowOn
    cases hp : hasPrefix (rs s t) [sign]
    · exact ⟨h1, h2⟩
    · have h3 := pfx_lt h2 hp
      have h4 := pa_ge s h2
      simp only [List.length_singleton] at h3
      have h5 := h (pa s t + 1) (by omega)
      rw [cond_true]
      cases ho : one (pa s t + 1) with
      | wrong p e => rw [ho] at h5; exact h5
      | good y t2 =>
        rw [ho] at h5
        have h5 : pa s t + 1 < t2 ∧ t2 ≤ s.length := h5
        exact rowOn_fits h kind sign i n _ t2 (by omega) h5.2
theorem row_fits {s : Bs} {one : Nat → Got} (h : FitsF s one) (kind : Int) (sign : UInt8) : FitsF s (rowG one kind sign s) := by
  intro i hi
  have h1 := h i hi
  unfold rowG
  cases ho : one i with
  | wrong p e => rw [ho] at h1; exact h1
  | good x t =>
    rw [ho] at h1
    have h1 : i < t ∧ t ≤ s.length := h1
    exact rowOn_fits h kind sign i _ x t h1.1 h1.2
theorem fitsO_some {s : Bs} {f : Nat → Got} (h : FitsF s f) : FitsO s (some f) := by intro g e; cases e; exact h
theorem lev_fits (s : Bs) : ∀ k, FitsF s (orK s k) ∧ FitsF s (notK s k)
  | 0 => by
    have h0 : FitsO s none := fun g h => by cases h
    have hn : FitsF s (notK s 0) := not_fits h0 h0
    exact ⟨row_fits (row_fits hn 2 38) 1 124, hn⟩
  | k + 1 => by
    obtain ⟨h1, h2⟩ := lev_fits s k
    have hn : FitsF s (notK s (k + 1)) := not_fits (fitsO_some h1) (fitsO_some h2)
    exact ⟨row_fits (row_fits hn 2 38) 1 124, hn⟩
theorem dOr_fits (s : Bs) (k : Nat) : FitsO s (dOrK s k) := by
  cases k with
  | zero => intro g h; cases h
  | succ k => intro g h; cases h; exact (lev_fits s k).1
theorem and_fits (s : Bs) (k : Nat) : FitsF s (andK s k) := row_fits (lev_fits s k).2 2 38
end Go.Proofs.YtbkhmkpbbggcbaaGreatDoor
namespace Go.Proofs.YtbkhmkpbbggcbaaGreatDoor
open Go.Lib
mutual
theorem Ex.ind {P : Ex → Prop} (h : ∀ k t u l, (∀ x, x ∈ l → P x) → P (.mk k t u l)) : ∀ x, P x
  | .mk k t u l => h k t u l (Ex.indL h l)
theorem Ex.indL {P : Ex → Prop} (h : ∀ k t u l, (∀ x, x ∈ l → P x) → P (.mk k t u l)) : ∀ (l : List Ex) (x : Ex), x ∈ l → P x
  | [], x, hx => by cases hx
  | y :: r, x, hx => by
    rcases List.mem_cons.1 hx with e | hx
    · rw [e]; exact Ex.ind h y
    · exact Ex.indL h r x hx
end
def useSame (a b : UseI) : Bool := a.name == b.name && a.key == b.key && a.dft == b.dft && a.hk == b.hk && a.hd == b.hd
def useEq (a b : UseI) : Bool := decide (a.src = b.src) && decide (a.till = b.till) && useSame a b
mutual
def sameE : Ex → Ex → Bool
  | .mk k t u l, .mk k2 t2 u2 l2 => decide (k = k2) && t == t2 && useSame u u2 && sameL l l2
def sameL : List Ex → List Ex → Bool
  | [], [] => true
  | x :: r, y :: r2 => sameE x y && sameL r r2
  | [], _ :: _ => false
  | _ :: _, [] => false
end
theorem useSame_refl (u : UseI) : useSame u u = true := by simp [useSame]
mutual
theorem sameE_refl : ∀ x, sameE x x = true
  | .mk k t u l => by unfold sameE; rw [useSame_refl, sameL_refl l]; simp
theorem sameL_refl : ∀ l, sameL l l = true
  | [] => rfl
  | x :: r => by unfold sameL; rw [sameE_refl x, sameL_refl r]; rfl
end
theorem sameL_len : ∀ {l l2 : List Ex}, sameL l l2 = true → l.length = l2.length
  | [], [], _ => rfl
  | x :: r, y :: r2, h => by
    unfold sameL at h; rw [Bool.and_eq_true] at h
    rw [List.length_cons, List.length_cons, sameL_len h.2]
  | [], _ :: _, h => by unfold sameL at h; cases h
  | _ :: _, [], h => by unfold sameL at h; cases h
theorem sameL_ne {l l2 : List Ex} (h : l.length ≠ l2.length) : sameL l l2 = false := by
  cases hs : sameL l l2
  · rfl
  · exact absurd (sameL_len hs) h
theorem sameL_step {l l2 : List Ex} {i : Nat} {x y : Ex} (hx : l[i]? = some x) (hy : l2[i]? = some y) : sameL (l.drop i) (l2.drop i) = (sameE x y && sameL (l.drop (i + 1)) (l2.drop (i + 1))) := by
  obtain ⟨h1, rfl⟩ := List.getElem?_eq_some_iff.1 hx
  obtain ⟨h2, rfl⟩ := List.getElem?_eq_some_iff.1 hy
  rw [List.drop_eq_getElem_cons h1, List.drop_eq_getElem_cons h2, sameL]
theorem sameL_end {l l2 : List Ex} (h : l.length = l2.length) : sameL (l.drop l.length) (l2.drop l.length) = true := by rw [List.drop_length, h, List.drop_length]; rfl
def ownSize (t : Bs) (u : UseI) : Int := 1 + (t.length : Int) + (u.name.length : Int) + (u.key.length : Int) + (u.dft.length : Int)
mutual
def sizeE : Ex → Int → Int
  | .mk _ t u l, left => sizeL l (left - ownSize t u)
def sizeL : List Ex → Int → Int
  | [], left => left
  | x :: r, left => bif decide (0 < left) then sizeL r (sizeE x left) else left
end
end Go.Proofs.YtbkhmkpbbggcbaaGreatDoor
namespace Go.Proofs.YtbkhmkpbbggcbaaGreatDoor
open Go.Lib
mutual
def narrowE : Ex → Prop
  | .mk _ _ _ l => l.length ≤ 1000000 ∧ narrowL l
def narrowL : List Ex → Prop
  | [] => True
  | x :: r => narrowE x ∧ narrowL r
end
theorem narrow_mem : ∀ {l : List Ex} {x : Ex}, narrowL l → x ∈ l → narrowE x
  | [], _, _, h => by cases h
  | y :: r, x, h, hx => by
    unfold narrowL at h
    rcases List.mem_cons.1 hx with e | hx
    · rw [e]; exact h.1
    · exact narrow_mem h.2 hx
theorem narrow_leaf (k : Int) (t : Bs) (u : UseI) : narrowE (.mk k t u []) := by unfold narrowE; exact ⟨Nat.zero_le _, by unfold narrowL; trivial⟩
theorem narrow_one {k : Int} {x : Ex} (h : narrowE x) : narrowE (oneE k x) := by
  unfold oneE narrowE; exact ⟨by simp, by unfold narrowL; exact ⟨h, by unfold narrowL; trivial⟩⟩
theorem narrow_two {k : Int} {x y : Ex} (h : narrowE x) (h2 : narrowE y) : narrowE (twoE k x y) := by
  unfold twoE narrowE; exact ⟨by simp, by unfold narrowL; exact ⟨h, by unfold narrowL; exact ⟨h2, by unfold narrowL; trivial⟩⟩⟩
def NarrowG : Got → Prop
  | .good x _ => narrowE x
  | .wrong _ _ => True
def NarrowF (f : Nat → Got) : Prop := ∀ i, NarrowG (f i)
def NarrowO (f : Option (Nat → Got)) : Prop := ∀ g, f = some g → NarrowF g
theorem op_narrow {s : Bs} {d : Option (Nat → Got)} (hd : NarrowO d) : NarrowF (opG d s) := by
  intro i
  unfold opG
  cases rs s i with
  | nil => trivial
  | cons c r =>
    show NarrowG (bif c == 40 then _ else _)
    cases c == 40
    · rw [cond_false]
      cases c == 39
      · rw [cond_false]
        cases dig c
        · rw [cond_false]
          unfold varG
          cases partsAt (c :: r) with
          | none => trivial
          | some p => exact narrow_leaf 12 [] (useIE s.length (pa s i) p)
        · rw [cond_true]
          unfold numG
          cases decide (((c :: r).takeWhile dig).length ≤ 18)
          · trivial
          · exact narrow_leaf 11 ((c :: r).takeWhile dig) noUseI
      · rw [cond_true]
        unfold quG
        cases r.contains 39
        · trivial
        · exact narrow_leaf 10 (upto 39 r) noUseI
    · rw [cond_true]
      unfold brG
      cases d with
      | none => trivial
      | some f =>
        have hf := hd f rfl (pa s i + 1)
        show NarrowG (match f (pa s i + 1) with | .wrong p e => .wrong p e | .good x t => bif hasPrefix (rs s t) [41] then .good x (pa s t + 1) else .wrong (pa s t) 15)
        cases hx : f (pa s i + 1) with
        | wrong p e => trivial
        | good x t =>
          rw [hx] at hf
          show NarrowG (bif hasPrefix (rs s t) [41] then .good x (pa s t + 1) else .wrong (pa s t) 15)
          cases hasPrefix (rs s t) [41]
          · trivial
          · exact hf
theorem cmp_narrow {s : Bs} {d : Option (Nat → Got)} (hd : NarrowO d) : NarrowF (cmpG d s) := by
  intro i
  have h1 := op_narrow (s := s) hd i
  unfold cmpG
  cases ho : opG d s i with
  | wrong p e => trivial
  | good x t =>
    rw [ho] at h1
    show NarrowG (cmpOn d s x t)
    unfold cmpOn
    cases signAt (rs s t) with
    | none => exact h1
    | some kn =>
      obtain ⟨k, n⟩ := kn
      have h7 := op_narrow (s := s) hd (pa s t + n)
      show NarrowG (match opG d s (pa s t + n) with | .wrong p e => .wrong p e | .good y t2 => .good (twoE (4 + k) x y) t2)
      cases ho2 : opG d s (pa s t + n) with
      | wrong p e => trivial
      | good y t2 => rw [ho2] at h7; exact narrow_two (k := 4 + k) h1 h7
theorem not_narrow {s : Bs} {d1 d2 : Option (Nat → Got)} (h1 : NarrowO d1) (h2 : NarrowO d2) : NarrowF (notG d1 d2 s) := by
  intro i
  unfold notG
  cases hasPrefix (rs s i) [33]
  · exact cmp_narrow h1 i
  · rw [cond_true]
    cases d2 with
    | none => trivial
    | some f =>
      have hf := h2 f rfl (pa s i + 1)
      show NarrowG (match f (pa s i + 1) with | .wrong p e => .wrong p e | .good x t => .good (oneE 3 x) t)
      cases hx : f (pa s i + 1) with
      | wrong p e => trivial
      | good x t => rw [hx] at hf; exact narrow_one (k := 3) hf
theorem rowOn_narrow {s : Bs} {one : Nat → Got} (h : NarrowF one) (kind : Int) (sign : UInt8) : ∀ (n : Nat) (x : Ex) (t : Nat), narrowE x → NarrowG (rowOn one kind sign s n x t)
  | 0, _, _, h1 => h1
  | n + 1, x, t, h1 => by
    unfold rowOn
    cases hasPrefix (rs s t) [sign]
    · exact h1
    · have h5 := h (pa s t + 1)
      rw [cond_true]
      cases ho : one (pa s t + 1) with
      | wrong p e => trivial
      | good y t2 => rw [ho] at h5; exact rowOn_narrow h kind sign n _ t2 (narrow_two h1 h5)
theorem row_narrow {s : Bs} {one : Nat → Got} (h : NarrowF one) (kind : Int) (sign : UInt8) : NarrowF (rowG one kind sign s) := by
  intro i
  have h1 := h i
  unfold rowG
  cases ho : one i with
  | wrong p e => trivial
  | good x t => rw [ho] at h1; exact rowOn_narrow h kind sign _ x t h1
theorem lev_narrow (s : Bs) : ∀ k, NarrowF (orK s k) ∧ NarrowF (notK s k)
  | 0 => by
    have h0 : NarrowO none := fun g h => by cases h
    have hn : NarrowF (notK s 0) := not_narrow h0 h0
    exact ⟨row_narrow (row_narrow hn 2 38) 1 124, hn⟩
  | k + 1 => by
    obtain ⟨h1, h2⟩ := lev_narrow s k
    have hn : NarrowF (notK s (k + 1)) := not_narrow (d1 := some (orK s k)) (d2 := some (notK s k)) (fun g e => by cases e; exact h1) (fun g e => by cases e; exact h2)
    exact ⟨row_narrow (row_narrow hn 2 38) 1 124, hn⟩
theorem testB_cases (s : Bs) : (∃ q e, orK s 16 0 = .wrong q e ∧ testB s = (noEx, q, e)) ∨ (∃ x t, orK s 16 0 = .good x t ∧ (testB s = (x, 0, 0) ∨ testB s = (noEx, pa s t, 15))) := by
  unfold testB
  cases ho : orK s 16 0 with
  | wrong p e => exact .inl ⟨p, e, rfl, rfl⟩
  | good x t =>
    refine .inr ⟨x, t, rfl, ?_⟩
    show (bif decide (pa s t = s.length) then (x, 0, 0) else (noEx, pa s t, 15) : Ex × Nat × Int) = _ ∨ (bif decide (pa s t = s.length) then (x, 0, 0) else (noEx, pa s t, 15) : Ex × Nat × Int) = _
    cases decide (pa s t = s.length)
    · exact .inr rfl
    · exact .inl rfl
theorem testB_narrow (s : Bs) : narrowE (testB s).1 := by
  have h := (lev_narrow s 16).1 0
  rcases testB_cases s with ⟨q, e, h1, h2⟩ | ⟨x, t, h1, h2 | h2⟩
  · rw [h2]; exact narrow_leaf 0 [] noUseI
  · rw [h1] at h; rw [h2]; exact h
  · rw [h2]; exact narrow_leaf 0 [] noUseI
end Go.Proofs.YtbkhmkpbbggcbaaGreatDoor
