/- A statement whose order is open: each operation is shown once, by itself, in any world above the first one; what is told of its value holds in all worlds above. -/
import Derived.Test.YtbkhmkpbbggcbaaGreatDoorKTestW2
namespace Go.Proofs.YtbkhmkpbbggcbaaGreatDoor
open Go.RowKit
set_option linter.unusedVariables false
structure UpP where
  p : Value → World → Prop
  up : ∀ v w w', Below w.heap.size w w' → p v w → p v w'
def UpP.is (v0 : Value) : UpP := ⟨fun v _ => v = v0, fun _ _ _ _ h => h⟩
def UpP.any : UpP := ⟨fun _ _ => True, fun _ _ _ _ h => h⟩
def SlotIs (o : Oper) (a : Act) (v : Value) : Prop := match o.dst with | some d => a.tmps[d]? = some v | none => True
def AtUp (L : List Oper) (Φ : List UpP) (a : Act) (w : World) (i : Nat) : Prop :=
  match L[i]?, Φ[i]? with
  | some o, some p => ∃ v, SlotIs o a v ∧ p.p v w
  | _, _ => True
structure LikeA (L : List Oper) (a0 a : Act) : Prop where
  size : a.tmps.size = a0.tmps.size
  defers : a.defers = a0.defers
  other : ∀ d, (∀ o ∈ L, o.dst ≠ some d) → a.tmps[d]? = a0.tmps[d]?
def UpOp (P : Program) (L : List Oper) (Φ : List UpP) (a0 : Act) (W : World) (Q : Exit → Act → World → Prop) (o : Oper) (p : UpP) : Prop :=
  ∀ a w, Below W.heap.size W w → LikeA L a0 a → (∀ e ∈ o.after.toList, Region.binds .any e = true → AtUp L Φ a w e.on) →
    if Region.wanted o (yielded L.toArray a.tmps) = true then Oper.wp P o a w (fun a' w' => ∃ v, a' = a.put o.dst v ∧ Below w.heap.size w w' ∧ p.p v w') Q else p.p undef w
def UpAll (P : Program) (L : List Oper) (Φ : List UpP) (a0 : Act) (W : World) (Q : Exit → Act → World → Prop) : List Oper → List UpP → Prop
  | [], [] => True
  | o :: l, p :: ps => UpOp P L Φ a0 W Q o p ∧ UpAll P L Φ a0 W Q l ps
  | _, _ => False
def dstB (n : Nat) : List Oper → Bool
  | [] => true
  | o :: l => (match o.dst with | none => true | some d => decide (d < n) && l.all fun o' => o'.dst != some d) && dstB n l
def backB : Nat → List Oper → Bool
  | _, [] => true
  | k, o :: l => (o.after.toList.all fun e => !Region.binds .any e || decide (e.on < k)) && backB (k + 1) l
def putAll : List Oper → List Value → Act → Act
  | o :: l, v :: vs, a => putAll l vs (a.put o.dst v)
  | _, _, a => a
def AllUp : List UpP → List Value → World → Prop
  | [], [], _ => True
  | p :: ps, v :: vs, w => p.p v w ∧ AllUp ps vs w
  | _, _, _ => False
def falses : List Bool → Nat
  | [] => 0
  | b :: r => (bif b then 0 else 1) + falses r
section
variable {P : Program} {L : List Oper} {Φ : List UpP} {a0 : Act} {W : World} {Q : Exit → Act → World → Prop}
theorem falses_set : ∀ (l : List Bool) (i : Nat), l[i]? = some false → falses (l.set i true) + 1 = falses l
  | [], _, h => by simp at h
  | b :: r, 0, h => by simp at h; subst h; simp [falses]; omega
  | b :: r, i + 1, h => by
    have := falses_set r i (by simpa using h)
    simp only [List.set_cons_succ, falses]; omega
theorem falses_none : ∀ {l : List Bool}, falses l = 0 → ∀ i, i < l.length → l[i]? = some true
  | [], _, i, h => by simp at h
  | b :: r, h, i, hi => by
    simp only [falses] at h
    cases b
    · simp at h
    · cases i with
      | zero => rfl
      | succ i => simpa using falses_none (l := r) (by simp at h; exact h) i (by simpa using hi)
theorem falses_rep : ∀ n, falses (List.replicate n false) = n
  | 0 => rfl
  | n + 1 => by rw [List.replicate_succ, falses, falses_rep n]; simp; omega
theorem upAll_get : ∀ {l : List Oper} {ps : List UpP} {i : Nat} {o : Oper}, UpAll P L Φ a0 W Q l ps → l[i]? = some o → ∃ p, ps[i]? = some p ∧ UpOp P L Φ a0 W Q o p
  | [], _, _, _, _, h => by simp at h
  | o :: l, [], _, _, h, _ => by cases h
  | o :: l, p :: ps, 0, o', h, ho => by simp at ho; subst ho; exact ⟨p, rfl, h.1⟩
  | o :: l, p :: ps, i + 1, o', h, ho => by
    obtain ⟨q, h1, h2⟩ := upAll_get h.2 (show l[i]? = some o' by simpa using ho)
    exact ⟨q, by simpa using h1, h2⟩
theorem upAll_len : ∀ {l : List Oper} {ps : List UpP}, UpAll P L Φ a0 W Q l ps → ps.length = l.length
  | [], [], _ => rfl
  | [], _ :: _, h => by cases h
  | _ :: _, [], h => by cases h
  | o :: l, p :: ps, h => by rw [List.length_cons, List.length_cons, upAll_len h.2]
theorem dst_apart {n : Nat} : ∀ {l : List Oper}, dstB n l = true → ∀ {i j : Nat} {o o' : Oper} {d : Nat}, l[i]? = some o → l[j]? = some o' → o.dst = some d → o'.dst = some d → i = j
  | [], _, _, _, _, _, _, h, _, _, _ => by simp at h
  | o0 :: l, hB, i, j, o, o', d, h1, h2, h3, h4 => by
    unfold dstB at hB
    rw [Bool.and_eq_true] at hB
    have key : ∀ {o1 : Oper} {k : Nat}, o0.dst = some d → l[k]? = some o1 → o1.dst = some d → False := fun {o1 k} h5 h6 h7 => by
      have h8 := hB.1
      rw [h5] at h8
      simp only [Bool.and_eq_true, List.all_eq_true] at h8
      have := h8.2 o1 (List.mem_of_getElem? h6)
      rw [h7] at this
      simp at this
    cases i with
    | zero =>
      simp at h1; subst h1
      cases j with
      | zero => rfl
      | succ j => exact (key h3 (by simpa using h2) h4).elim
    | succ i =>
      cases j with
      | zero => simp at h2; subst h2; exact (key h4 (by simpa using h1) h3).elim
      | succ j => exact congrArg (· + 1) (dst_apart hB.2 (by simpa using h1) (by simpa using h2) h3 h4)
theorem dst_lt {n : Nat} : ∀ {l : List Oper}, dstB n l = true → ∀ {i : Nat} {o : Oper} {d : Nat}, l[i]? = some o → o.dst = some d → d < n
  | [], _, _, _, _, h, _ => by simp at h
  | o0 :: l, hB, i, o, d, h1, h3 => by
    unfold dstB at hB
    rw [Bool.and_eq_true] at hB
    cases i with
    | zero =>
      simp at h1; subst h1
      have h8 := hB.1
      rw [h3] at h8
      simp only [Bool.and_eq_true, decide_eq_true_eq] at h8
      exact h8.1
    | succ i => exact dst_lt hB.2 (by simpa using h1) h3
theorem back_spec : ∀ {l : List Oper} {k : Nat}, backB k l = true → ∀ {i : Nat} {o : Oper}, l[i]? = some o → ∀ e ∈ o.after.toList, Region.binds .any e = true → e.on < k + i
  | [], _, _, _, _, h, _, _, _ => by simp at h
  | o0 :: l, k, hB, i, o, h, e, he, hb => by
    unfold backB at hB
    rw [Bool.and_eq_true, List.all_eq_true] at hB
    cases i with
    | zero =>
      simp at h; subst h
      have := hB.1 e he
      rw [hb] at this
      simpa using this
    | succ i =>
      have := back_spec hB.2 (show l[i]? = some o by simpa using h) e he hb
      omega
theorem put_slot {a : Act} {dst : Option Tmp} {v : Value} {d : Nat} (h : dst ≠ some d) : (a.put dst v).tmps[d]? = a.tmps[d]? := by
  cases dst with
  | none => rfl
  | some d2 =>
    show (a.tmps.setIfInBounds d2 v)[d]? = _
    rw [Array.getElem?_setIfInBounds_ne (by intro e; exact h (by rw [e]))]
theorem put_self {a : Act} {v : Value} {d : Nat} (h : d < a.tmps.size) : (a.put (some d) v).tmps[d]? = some v := by
  show (a.tmps.setIfInBounds d v)[d]? = _
  rw [Array.getElem?_setIfInBounds_self_of_lt h]
theorem put_size (a : Act) (dst : Option Tmp) (v : Value) : (a.put dst v).tmps.size = a.tmps.size := by
  cases dst with
  | none => rfl
  | some d => show (a.tmps.setIfInBounds d v).size = _; simp
theorem put_defers (a : Act) (dst : Option Tmp) (v : Value) : (a.put dst v).defers = a.defers := by cases dst <;> rfl
theorem LikeA.put {a : Act} (h : LikeA L a0 a) {o : Oper} (ho : o ∈ L) (v : Value) : LikeA L a0 (a.put o.dst v) :=
  ⟨(put_size _ _ _).trans h.size, (put_defers _ _ _).trans h.defers, fun d hd => (put_slot (hd o ho)).trans (h.other d hd)⟩
theorem up_any (hb : backB 0 L = true) (hd : dstB a0.tmps.size L = true) (hU : UpAll P L Φ a0 W Q L Φ)
    (hE : ∀ a w, Below W.heap.size W w → LikeA L a0 a → (∀ i, i < L.length → AtUp L Φ a w i) → Q .normal a w) :
    ∀ (fuel : Nat) (listed : Array Bool) (a : Act) (w : World), listed.size = L.length → falses listed.toList ≤ fuel → Below W.heap.size W w → LikeA L a0 a → (∀ i, listed[i]? = some true → AtUp L Φ a w i) → wpAny P .any L.toArray Q fuel listed a w := by
  have hall : ∀ (listed : Array Bool), listed.size = L.length → Region.ready .any L.toArray listed = [] → ∀ i, i < L.length → listed[i]? = some true := by
    intro listed hs hr i
    induction i using Nat.strongRecOn with
    | ind i ih =>
      intro hi
      have hli : i < listed.size := by omega
      cases hv : listed[i] with
      | true => rw [Array.getElem?_eq_getElem hli, hv]
      | false =>
        exfalso
        have hm : i ∈ Region.ready .any L.toArray listed := by
          refine mem_ready.2 ⟨?_, L[i], by simp [hi], fun e he hbn => ?_⟩
          · rw [Array.getD_eq_getD_getElem?, Array.getElem?_eq_getElem hli, hv]; rfl
          · have hlt := back_spec hb (i := i) (o := L[i]) (List.getElem?_eq_getElem hi) e (by simpa using he) hbn
            have := ih e.on (by omega) (by omega)
            rw [Array.getD_eq_getD_getElem?, this]; rfl
        rw [hr] at hm; cases hm
  intro fuel
  induction fuel with
  | zero =>
    intro listed a w hs hf hB hL hA
    have h0 : ∀ i, i < L.length → listed[i]? = some true := fun i hi => by
      have := falses_none (l := listed.toList) (by omega) i (by simpa [hs] using hi)
      simpa using this
    refine ⟨?_, hE a w hB hL fun i hi => hA i (h0 i hi)⟩
    cases hr : Region.ready .any L.toArray listed with
    | nil => rfl
    | cons i r =>
      exfalso
      obtain ⟨h1, o, ho, _⟩ := mem_ready.1 (show i ∈ Region.ready .any L.toArray listed by rw [hr]; simp)
      have hi : i < L.length := by have := (Array.getElem?_eq_some_iff.1 ho).1; simpa using this
      rw [Array.getD_eq_getD_getElem?, h0 i hi] at h1; cases h1
  | succ fuel ih =>
    intro listed a w hs hf hB hL hA
    refine ⟨fun hr => hE a w hB hL fun i hi => hA i (hall listed hs hr i hi), fun i hi => ?_⟩
    obtain ⟨h1, o, ho, hw⟩ := mem_ready.1 hi
    have hiL : i < L.length := by have := (Array.getElem?_eq_some_iff.1 ho).1; simpa using this
    have hoL : L[i]? = some o := by simpa using ho
    have hli : i < listed.size := by omega
    have hfl : listed[i]? = some false := by
      rw [Array.getD_eq_getD_getElem?, Array.getElem?_eq_getElem hli] at h1
      rw [Array.getElem?_eq_getElem hli]
      simpa using h1
    obtain ⟨p, hp, hop⟩ := upAll_get hU hoL
    have hpre : ∀ e ∈ o.after.toList, Region.binds .any e = true → AtUp L Φ a w e.on := fun e he hbn => by
      have := hw e (by simpa using he) hbn
      refine hA e.on ?_
      rw [Array.getD_eq_getD_getElem?] at this
      cases hv : listed[e.on]? with
      | none => rw [hv] at this; cases this
      | some b => rw [hv] at this; simp at this; rw [this]
    have hstep := hop a w hB hL hpre
    have hgo : ∀ v w', Below w.heap.size w w' → p.p v w' → wpAny P .any L.toArray Q fuel (listed.setIfInBounds i true) (a.put o.dst v) w' := fun v w' hbw hpv => by
      refine ih _ _ _ (by simpa using hs) ?_ (hB.trans (hbw.mono hB.size)) (hL.put (List.mem_of_getElem? hoL) v) fun j hj => ?_
      · have := falses_set listed.toList i (by simpa using hfl)
        rw [Array.toList_setIfInBounds]; omega
      · by_cases hij : j = i
        · subst hij
          unfold AtUp
          rw [hoL, hp]
          refine ⟨v, ?_, hpv⟩
          unfold SlotIs
          cases hdst : o.dst with
          | none => trivial
          | some d => exact put_self (by have := dst_lt hd hoL hdst; have := hL.size; omega)
        · rw [Array.getElem?_setIfInBounds_ne (Ne.symm hij)] at hj
          have hold := hA j hj
          unfold AtUp at hold ⊢
          cases hoj : L[j]? with
          | none => trivial
          | some oj =>
            cases hpj : Φ[j]? with
            | none => trivial
            | some pj =>
              rw [hoj, hpj] at hold
              obtain ⟨v', h5, h6⟩ := hold
              refine ⟨v', ?_, pj.up v' w w' hbw h6⟩
              unfold SlotIs at h5 ⊢
              cases hdj : oj.dst with
              | none => trivial
              | some d =>
                rw [hdj] at h5
                exact (put_slot (fun e => hij (dst_apart hd hoj hoL hdj e))).trans h5
    unfold wpOp
    simp only [ho]
    by_cases hwt : Region.wanted o (yielded L.toArray a.tmps) = true
    · rw [if_pos hwt] at hstep ⊢
      exact .inl (Oper.wp_mono (fun a' w' ⟨v, e, hbw, hpv⟩ => by subst e; exact hgo v w' hbw hpv) hstep)
    · rw [if_neg hwt] at hstep ⊢
      exact hgo undef w (Below.refl _ _) hstep
theorem putAll_out {d : Nat} : ∀ {l : List Oper} {vs : List Value} {a : Act}, (∀ o ∈ l, o.dst ≠ some d) → (putAll l vs a).tmps[d]? = a.tmps[d]?
  | [], _, _, _ => by unfold putAll; rfl
  | o :: l, [], _, _ => by unfold putAll; rfl
  | o :: l, v :: vs, a, h => by
    unfold putAll
    rw [putAll_out (fun o' ho' => h o' (by simp [ho'])), put_slot (h o (by simp))]
theorem putAll_defers : ∀ (l : List Oper) (vs : List Value) (a : Act), (putAll l vs a).defers = a.defers
  | [], _, _ => by unfold putAll; rfl
  | o :: l, [], _ => by unfold putAll; rfl
  | o :: l, v :: vs, a => by unfold putAll; rw [putAll_defers, put_defers]
theorem putAll_in {n d : Nat} : ∀ {l : List Oper} {vs : List Value} {a : Act} {i : Nat} {o : Oper} {v : Value}, dstB n l = true → n ≤ a.tmps.size → l[i]? = some o → o.dst = some d → vs[i]? = some v → (putAll l vs a).tmps[d]? = some v
  | [], _, _, _, _, _, _, _, h, _, _ => by simp at h
  | o0 :: l, [], _, _, _, _, _, _, _, _, h => by simp at h
  | o0 :: l, v0 :: vs, a, 0, o, v, hB, hn, h1, h2, h3 => by
    simp at h1 h3; subst h1; subst h3
    unfold putAll
    have hB2 := hB
    unfold dstB at hB2
    rw [Bool.and_eq_true, h2] at hB2
    simp only [Bool.and_eq_true, List.all_eq_true, decide_eq_true_eq] at hB2
    rw [putAll_out (fun o' ho' e => by have := hB2.1.2 o' ho'; rw [e] at this; simp at this), h2, put_self (by have := dst_lt hB (show (o0 :: l)[0]? = some o0 from rfl) h2; omega)]
  | o0 :: l, v0 :: vs, a, i + 1, o, v, hB, hn, h1, h2, h3 => by
    unfold putAll
    unfold dstB at hB
    rw [Bool.and_eq_true] at hB
    exact putAll_in hB.2 (by rw [put_size]; exact hn) (by simpa using h1) h2 (by simpa using h3)
theorem vals_of {p : Nat → Value → Prop} : ∀ n : Nat, (∀ i, i < n → ∃ x, p i x) → ∃ l : List Value, l.length = n ∧ ∀ i x, l[i]? = some x → p i x
  | 0, _ => ⟨[], rfl, fun i x h => by simp at h⟩
  | n + 1, h => by
    obtain ⟨l, hl, hp⟩ := vals_of n fun i hi => h i (by omega)
    obtain ⟨x, hx⟩ := h n (by omega)
    refine ⟨l ++ [x], by simp [hl], fun i y hy => ?_⟩
    by_cases hi : i < n
    · rw [List.getElem?_append_left (by omega)] at hy; exact hp i y hy
    · have : i = n := by have := (List.getElem?_eq_some_iff.1 hy).1; simp at this; omega
      subst this
      rw [List.getElem?_append_right (by omega), hl] at hy
      simp at hy; subst hy; exact hx
theorem allUp_of : ∀ {ps : List UpP} {vs : List Value} {w : World}, vs.length = ps.length → (∀ (i : Nat) (p : UpP) (v : Value), ps[i]? = some p → vs[i]? = some v → p.p v w) → AllUp ps vs w
  | [], [], _, _, _ => trivial
  | [], _ :: _, _, h, _ => by simp at h
  | _ :: _, [], _, h, _ => by simp at h
  | p :: ps, v :: vs, w, hl, h => ⟨h 0 p v rfl rfl, allUp_of (by simpa using hl) fun i p' v' h1 h2 => h (i + 1) p' v' (by simpa using h1) (by simpa using h2)⟩
theorem up_end {a : Act} {w : World} (hlen : Φ.length = L.length) (hd : dstB a0.tmps.size L = true) (hL : LikeA L a0 a) (h : ∀ i, i < L.length → AtUp L Φ a w i) : ∃ vs, AllUp Φ vs w ∧ a = putAll L vs a0 := by
  obtain ⟨vs, hv, hp⟩ := vals_of (p := fun i v => ∀ o p, L[i]? = some o → Φ[i]? = some p → SlotIs o a v ∧ p.p v w) L.length fun i hi => by
    have := h i hi
    unfold AtUp at this
    rw [List.getElem?_eq_getElem hi, List.getElem?_eq_getElem (show i < Φ.length by omega)] at this
    obtain ⟨v, h1, h2⟩ := this
    refine ⟨v, fun o p ho hp => ?_⟩
    rw [List.getElem?_eq_getElem hi] at ho
    rw [List.getElem?_eq_getElem (show i < Φ.length by omega)] at hp
    cases ho; cases hp
    exact ⟨h1, h2⟩
  refine ⟨vs, allUp_of (by omega) fun i p v h1 h2 => ?_, ?_⟩
  · have hi : i < L.length := by have := (List.getElem?_eq_some_iff.1 h1).1; omega
    exact (hp i v h2 _ p (List.getElem?_eq_getElem hi) h1).2
  · have ht : a.tmps = (putAll L vs a0).tmps := by
      refine Array.ext_getElem? fun d => ?_
      by_cases hex : ∃ (i : Nat) (o : Oper), L[i]? = some o ∧ o.dst = some d
      · obtain ⟨i, o, h1, h2⟩ := hex
        have hi : i < L.length := (List.getElem?_eq_some_iff.1 h1).1
        have hvi : vs[i]? = some (vs[i]'(by omega)) := List.getElem?_eq_getElem _
        have h3 := (hp i _ hvi o (Φ[i]'(by omega)) h1 (List.getElem?_eq_getElem _)).1
        unfold SlotIs at h3
        rw [h2] at h3
        rw [putAll_in hd (Nat.le_refl _) h1 h2 hvi]; exact h3
      · have hout : ∀ o ∈ L, o.dst ≠ some d := fun o ho e => by
          obtain ⟨i, hi⟩ := List.mem_iff_getElem?.1 ho
          exact hex ⟨i, o, hi, e⟩
        rw [putAll_out hout]; exact hL.other d hout
    have hdf : a.defers = (putAll L vs a0).defers := by rw [putAll_defers]; exact hL.defers
    cases a
    simp only at ht hdf
    rw [ht, hdf]
theorem wp_region_up {id : Nat} {a : Act} {w : World} (Φ : List UpP) (hm : P.follows .mixedOrders = true) (hb : backB 0 L = true) (hd : dstB a.tmps.size L = true) (hU : UpAll P L Φ a w Q L Φ)
    (hE : ∀ vs w', Below w.heap.size w w' → AllUp Φ vs w' → Q .normal (putAll L vs a) w') : (Code.region id L.toArray true).wp P Q a w := by
  refine wp_region_any hm ?_
  refine up_any hb hd hU (fun a' w' hB hL hA => ?_) _ _ _ _ (by simp) (by rw [Array.toList_replicate, falses_rep]; simp) (Below.refl w.heap.size w).drew ⟨rfl, rfl, fun _ _ => rfl⟩ (fun i hi => ?_)
  · obtain ⟨vs, h1, rfl⟩ := up_end (upAll_len hU) hd hL hA
    exact hE vs w' hB h1
  · rw [Array.getElem?_replicate] at hi
    split at hi <;> cases hi
end
end Go.Proofs.YtbkhmkpbbggcbaaGreatDoor
namespace Go.Proofs.YtbkhmkpbbggcbaaGreatDoor
open Go.RowKit
theorem up_pre {L : List Oper} {Φ : List UpP} {a : Act} {w : World} {o : Oper} (h : ∀ e ∈ o.after.toList, Region.binds .any e = true → AtUp L Φ a w e.on) (k : Nat) (hk : (o.after.toList.any fun e => Region.binds .any e && e.on == k) = true) : AtUp L Φ a w k := by
  obtain ⟨e, he, h2⟩ := List.any_eq_true.1 hk
  rw [Bool.and_eq_true, beq_iff_eq] at h2
  rw [← h2.2]
  exact h e he h2.1
theorem like_at {L : List Oper} {a0 a : Act} (h : LikeA L a0 a) (d : Nat) {v : Value} (hd : (L.all fun o => o.dst != some d) = true) (hv : a0.tmps[d]? = some v) : a.tmps[d]? = some v := by
  rw [← hv]
  refine h.other d fun o ho e => ?_
  have := List.all_eq_true.1 hd o ho
  rw [e] at this; simp at this
end Go.Proofs.YtbkhmkpbbggcbaaGreatDoor
