/- A statement whose order is open, its last operations behind all others, one behind the other: those ahead are shown once, by themselves. -/
import Derived.Test.YtbkhmkpbbggcbaaGreatDoorKRegUp
namespace Go.Proofs.YtbkhmkpbbggcbaaGreatDoor
open Go.RowKit
set_option linter.unusedVariables false
def afterT (L : List Oper) : Nat → Nat → Nat → Bool
  | 0, _, _ => false
  | f + 1, j, i => match L[j]? with
    | some o => (o.after.toList.any fun e => Region.binds .any e && e.on == i) || (o.after.toList.any fun e => Region.binds .any e && afterT L f e.on i)
    | none => false
def tailB (n : Nat) (L : List Oper) : Bool := ((List.range L.length).drop n).all fun j => (List.range j).all fun i => afterT L L.length j i
def ClosedL (L : List Oper) (listed : Array Bool) : Prop := ∀ (j : Nat) (o : Oper) (e : Edge), listed[j]? = some true → L[j]? = some o → e ∈ o.after.toList → Region.binds .any e = true → listed[e.on]? = some true
def tailWp (P : Program) (ops : Array Oper) (Q : Exit → Act → World → Prop) : List Oper → Act → World → Prop
  | [], a, w => Q .normal a w
  | o :: l, a, w => if Region.wanted o (yielded ops a.tmps) = true then Oper.wp P o a w (fun a' w' => tailWp P ops Q l a' w') Q else tailWp P ops Q l (a.put o.dst undef) w
def putFn (f : Nat → Value) : List Oper → Nat → Act → Act
  | [], _, a => a
  | o :: l, i, a => putFn f l (i + 1) (a.put o.dst (f i))
theorem putAll_fn (f : Nat → Value) : ∀ (L : List Oper) (vs : List Value) (i : Nat) (a : Act), vs.length = L.length → (∀ j v, vs[j]? = some v → f (i + j) = v) → putAll L vs a = putFn f L i a
  | [], [], _, _, _, _ => by unfold putAll putFn; rfl
  | [], _ :: _, _, _, h, _ => by simp at h
  | _ :: _, [], _, _, h, _ => by simp at h
  | o :: L, v :: vs, i, a, h, hf => by
    unfold putAll putFn
    have h0 := hf 0 v rfl
    rw [Nat.add_zero] at h0
    rw [h0]
    exact putAll_fn f L vs (i + 1) _ (by simpa using h) fun j v' hj => by
      have := hf (j + 1) v' (by simpa using hj)
      rw [← this]; congr 1; omega
section
variable {P : Program} {L : List Oper} {Φ : List UpP} {a0 : Act} {W : World} {Q : Exit → Act → World → Prop} {n : Nat}
theorem reach_step {f j i : Nat} (h : afterT L (f + 1) j i = true) : ∃ o, L[j]? = some o ∧ ∃ e ∈ o.after.toList, Region.binds .any e = true ∧ (e.on = i ∨ afterT L f e.on i = true) := by
  unfold afterT at h
  cases ho : L[j]? with
  | none => rw [ho] at h; cases h
  | some o =>
    rw [ho] at h
    refine ⟨o, rfl, ?_⟩
    rcases Bool.or_eq_true_iff.1 h with h | h
    · obtain ⟨e, he, h2⟩ := List.any_eq_true.1 h
      rw [Bool.and_eq_true, beq_iff_eq] at h2
      exact ⟨e, he, h2.1, .inl h2.2⟩
    · obtain ⟨e, he, h2⟩ := List.any_eq_true.1 h
      rw [Bool.and_eq_true] at h2
      exact ⟨e, he, h2.1, .inr h2.2⟩
theorem reach_listed {listed : Array Bool} (hC : ClosedL L listed) : ∀ (f j i : Nat), listed[j]? = some true → afterT L f j i = true → listed[i]? = some true
  | 0, _, _, _, h => by unfold afterT at h; cases h
  | f + 1, j, i, hj, h => by
    obtain ⟨o, ho, e, he, hbn, h2⟩ := reach_step h
    have h3 := hC j o e hj ho he hbn
    rcases h2 with rfl | h2
    · exact h3
    · exact reach_listed hC f e.on i h3 h2
theorem tail_after (ht : tailB n L = true) {i j : Nat} (hn : n ≤ j) (hij : i < j) (hj : j < L.length) : afterT L L.length j i = true := by
  unfold tailB at ht
  have hm : j ∈ (List.range L.length).drop n := by
    rw [List.mem_iff_getElem?]
    exact ⟨j - n, by rw [List.getElem?_drop, List.getElem?_range (by omega)]; congr 1; omega⟩
  exact List.all_eq_true.1 (List.all_eq_true.1 ht j hm) i (List.mem_range.2 hij)
theorem listed_of {listed : Array Bool} {k : Nat} (h : listed.getD k false = true) : listed[k]? = some true := by
  rw [Array.getD_eq_getD_getElem?] at h
  cases hv : listed[k]? with
  | none => rw [hv] at h; cases h
  | some b => rw [hv] at h; simp at h; rw [h]
theorem closed_set {listed : Array Bool} (hC : ClosedL L listed) {i : Nat} (hr : i ∈ Region.ready .any L.toArray listed) : ClosedL L (listed.setIfInBounds i true) := by
  intro j o e hj ho he hbn
  have hup : ∀ k : Nat, listed[k]? = some true → (listed.setIfInBounds i true)[k]? = some true := fun k hk => by
    by_cases hki : k = i
    · subst hki
      rw [Array.getElem?_setIfInBounds_self_of_lt (Array.getElem?_eq_some_iff.1 hk).1]
    · rw [Array.getElem?_setIfInBounds_ne (Ne.symm hki)]; exact hk
  by_cases hji : j = i
  · subst hji
    obtain ⟨_, o', ho', hw⟩ := mem_ready.1 hr
    have : o' = o := by
      have h1 : L[j]? = some o' := by simpa using ho'
      rw [ho] at h1; exact (Option.some.inj h1).symm
    subst this
    exact hup _ (listed_of (hw e (by simpa using he) hbn))
  · rw [Array.getElem?_setIfInBounds_ne (Ne.symm hji)] at hj
    exact hup _ (hC j o e hj ho he hbn)
theorem closed_lt (hb : backB 0 L = true) {listed : Array Bool} {k : Nat} (h : ∀ i, i < L.length → listed[i]? = some (decide (i < k))) : ClosedL L listed := by
  intro j o e hj ho he hbn
  have hjl := (List.getElem?_eq_some_iff.1 ho).1
  have hlt := back_spec hb (i := j) (o := o) ho e he hbn
  rw [h j hjl] at hj
  have : j < k := by simpa using hj
  rw [h e.on (by omega), decide_eq_true (by omega)]
theorem ready_all (hb : backB 0 L = true) {listed : Array Bool} (hs : listed.size = L.length) {k : Nat} (hk : k < L.length) (h1 : listed[k]? = some false) (h2 : ∀ i, i < k → listed[i]? = some true) : k ∈ Region.ready .any L.toArray listed := by
  refine mem_ready.2 ⟨?_, L[k], by simp [hk], fun e he hbn => ?_⟩
  · rw [Array.getD_eq_getD_getElem?, h1]; rfl
  · have hlt := back_spec hb (i := k) (o := L[k]) (List.getElem?_eq_getElem hk) e (by simpa using he) hbn
    rw [Array.getD_eq_getD_getElem?, h2 e.on (by omega)]; rfl
theorem ready_tail (ht : tailB n L = true) {listed : Array Bool} (hC : ClosedL L listed) {k : Nat} (hn : n ≤ k) (h : k ∈ Region.ready .any L.toArray listed) : ∀ i, i < k → listed[i]? = some true := by
  intro i hi
  obtain ⟨_, o, ho, hw⟩ := mem_ready.1 h
  have hk : k < L.length := by have := (Array.getElem?_eq_some_iff.1 ho).1; simpa using this
  obtain ⟨f, hf⟩ : ∃ f, L.length = f + 1 := ⟨L.length - 1, by omega⟩
  have ha := tail_after ht hn hi hk
  rw [hf] at ha
  obtain ⟨o', ho', e, he, hbn, h2⟩ := reach_step ha
  have hoe : o' = o := by
    have : L[k]? = some o := by simpa using ho
    rw [ho'] at this; exact Option.some.inj this
  subst hoe
  have h3 := listed_of (hw e (by simpa using he) hbn)
  rcases h2 with rfl | h2
  · exact h3
  · exact reach_listed hC f e.on i h3 h2
theorem tail_any (hb : backB 0 L = true) (ht : tailB n L = true) : ∀ (T : List Oper) (k fuel : Nat) (listed : Array Bool) (a : Act) (w : World), L.drop k = T → n ≤ k → k + T.length = L.length → listed.size = L.length → (∀ i, i < L.length → listed[i]? = some (decide (i < k))) → T.length ≤ fuel → tailWp P L.toArray Q T a w → wpAny P .any L.toArray Q fuel listed a w
  | [], k, fuel, listed, a, w, hT, hn, hl, hs, hlist, hf, h => by
    have hr : Region.ready .any L.toArray listed = [] := by
      cases hr : Region.ready .any L.toArray listed with
      | nil => rfl
      | cons i r =>
        exfalso
        obtain ⟨h1, o, ho, _⟩ := mem_ready.1 (show i ∈ Region.ready .any L.toArray listed by rw [hr]; simp)
        have hi : i < L.length := by have := (Array.getElem?_eq_some_iff.1 ho).1; simpa using this
        rw [Array.getD_eq_getD_getElem?, hlist i hi] at h1
        simp only [List.length_nil, Nat.add_zero] at hl
        simp [show i < k by omega] at h1
    unfold tailWp at h
    cases fuel with
    | zero => exact ⟨hr, h⟩
    | succ fuel => exact ⟨fun _ => h, fun i hi => (by rw [hr] at hi; cases hi)⟩
  | o :: T, k, fuel, listed, a, w, hT, hn, hl, hs, hlist, hf, h => by
    have hk : k < L.length := by simp only [List.length_cons] at hl; omega
    obtain ⟨fuel, rfl⟩ : ∃ f, fuel = f + 1 := ⟨fuel - 1, by simp only [List.length_cons] at hf; omega⟩
    have hkr := ready_all hb hs hk (by rw [hlist k hk]; simp) fun i hi => by rw [hlist i (by omega)]; simp [hi]
    have hko : L[k]? = some o := by
      have := List.getElem?_drop (xs := L) (i := k) (j := 0)
      rw [hT] at this
      simpa using this.symm
    refine ⟨fun hr => (by rw [hr] at hkr; cases hkr), fun i hi => ?_⟩
    have hik : i = k := by
      obtain ⟨h1, o', ho', _⟩ := mem_ready.1 hi
      have hi2 : i < L.length := by have := (Array.getElem?_eq_some_iff.1 ho').1; simpa using this
      rw [Array.getD_eq_getD_getElem?, hlist i hi2] at h1
      have h3 : k ≤ i := by simpa using h1
      by_cases h4 : i = k
      · exact h4
      · have h5 := ready_tail ht (closed_lt hb hlist) (by omega) hi k (by omega)
        rw [hlist k hk] at h5
        simp at h5
    subst hik
    have hgo : ∀ a' w', tailWp P L.toArray Q T a' w' → wpAny P .any L.toArray Q fuel (listed.setIfInBounds i true) a' w' := fun a' w' h' => by
      refine tail_any hb ht T (i + 1) fuel _ a' w' ?_ (by omega) (by simp only [List.length_cons] at hl; omega) (by simpa using hs) (fun j hj => ?_) (by simp only [List.length_cons] at hf; omega) h'
      · rw [← List.drop_drop, hT]; rfl
      · by_cases hij : j = i
        · subst hij
          rw [Array.getElem?_setIfInBounds_self_of_lt (by omega)]; simp
        · rw [Array.getElem?_setIfInBounds_ne (Ne.symm hij), hlist j hj]
          congr 1
          by_cases h6 : j < i
          · rw [decide_eq_true h6, decide_eq_true (by omega)]
          · rw [decide_eq_false h6, decide_eq_false (by omega)]
    unfold tailWp at h
    unfold wpOp
    simp only [show L.toArray[i]? = some o by simpa using hko]
    by_cases hwt : Region.wanted o (yielded L.toArray a.tmps) = true
    · rw [if_pos hwt] at h ⊢
      exact .inl (Oper.wp_mono (fun a' w' h' => hgo a' w' h') h)
    · rw [if_neg hwt] at h ⊢
      exact hgo _ _ h
theorem LikeA.wide {a : Act} (h : LikeA (L.take n) a0 a) : LikeA L a0 a := ⟨h.size, h.defers, fun d hd => h.other d fun o ho => hd o (List.mem_of_mem_take ho)⟩
theorem up_any2 (hb : backB 0 L = true) (hd : dstB a0.tmps.size L = true) (ht : tailB n L = true) (hn : n ≤ L.length) (hU : UpAll P L Φ a0 W Q (L.take n) Φ)
    (hE : ∀ a w, Below W.heap.size W w → LikeA (L.take n) a0 a → (∀ i, i < n → AtUp L Φ a w i) → tailWp P L.toArray Q (L.drop n) a w) :
    ∀ (fuel : Nat) (listed : Array Bool) (a : Act) (w : World), listed.size = L.length → falses listed.toList ≤ fuel → (∀ i, n ≤ i → i < L.length → listed[i]? = some false) → ClosedL L listed → Below W.heap.size W w → LikeA (L.take n) a0 a → (∀ i, listed[i]? = some true → AtUp L Φ a w i) → wpAny P .any L.toArray Q fuel listed a w := by
  have hfal : ∀ (l : List Bool) (m : Nat), (∀ i, m ≤ i → i < l.length → l[i]? = some false) → l.length - m ≤ falses l := by
    intro l
    induction l with
    | nil => intro m _; simp
    | cons b r ih =>
      intro m h
      cases m with
      | zero =>
        have h0 := h 0 (Nat.le_refl _) (by simp)
        simp at h0; subst h0
        have := ih 0 (fun i _ hi => by simpa using h (i + 1) (by omega) (by simpa using hi))
        simp only [falses, cond_false, List.length_cons]; omega
      | succ m =>
        have := ih m (fun i hm hi => by simpa using h (i + 1) (by omega) (by simpa using hi))
        simp only [falses, List.length_cons]; omega
  intro fuel
  induction fuel with
  | zero =>
    intro listed a w hs hf hno hC hB hL hA
    have h0 : ∀ i, i < L.length → listed[i]? = some true := fun i hi => by
      have := falses_none (l := listed.toList) (by omega) i (by simpa [hs] using hi)
      simpa using this
    have hnL : n = L.length := by
      by_cases h : n = L.length
      · exact h
      · have := hno n (Nat.le_refl _) (by omega)
        rw [h0 n (by omega)] at this; cases this
    refine tail_any hb ht (L.drop n) n 0 listed a w rfl (Nat.le_refl _) (by rw [List.length_drop]; omega) hs (fun i hi => ?_) (by rw [List.length_drop]; omega) (hE a w hB hL fun i hi => hA i (h0 i (by omega)))
    rw [h0 i hi, decide_eq_true (by omega)]
  | succ fuel ih =>
    intro listed a w hs hf hno hC hB hL hA
    by_cases hall : ∀ i, i < n → listed[i]? = some true
    · refine tail_any hb ht (L.drop n) n (fuel + 1) listed a w rfl (Nat.le_refl _) (by rw [List.length_drop]; omega) hs (fun i hi => ?_) ?_ (hE a w hB hL fun i hi => hA i (hall i hi))
      · by_cases hin : i < n
        · rw [hall i hin, decide_eq_true hin]
        · rw [hno i (by omega) hi, decide_eq_false hin]
      · have := hfal listed.toList n (fun i h1 h2 => by simpa using hno i h1 (by simpa [hs] using h2))
        rw [List.length_drop]
        have h3 : listed.toList.length = L.length := by simpa using hs
        omega
    · refine ⟨fun hr => ?_, fun i hi => ?_⟩
      · exfalso
        refine hall fun i => ?_
        induction i using Nat.strongRecOn with
        | ind i ihi =>
          intro hin
          have hli : i < listed.size := by omega
          cases hv : listed[i] with
          | true => rw [Array.getElem?_eq_getElem hli, hv]
          | false =>
            have := ready_all hb hs (k := i) (by omega) (by rw [Array.getElem?_eq_getElem hli, hv]) fun j hj => ihi j hj (by omega)
            rw [hr] at this; cases this
      · have hin : i < n := by
          by_cases h : i < n
          · exact h
          · exact (hall fun j hj => ready_tail ht hC (by omega) hi j (by omega)).elim
        obtain ⟨h1, o, ho, hw⟩ := mem_ready.1 hi
        have hiL : i < L.length := by omega
        have hoL : L[i]? = some o := by simpa using ho
        have hoT : (L.take n)[i]? = some o := by rw [List.getElem?_take_of_lt hin]; exact hoL
        have hli : i < listed.size := by omega
        have hfl : listed[i]? = some false := by
          rw [Array.getD_eq_getD_getElem?, Array.getElem?_eq_getElem hli] at h1
          rw [Array.getElem?_eq_getElem hli]
          simpa using h1
        obtain ⟨p, hp, hop⟩ := upAll_get hU hoT
        have hpre : ∀ e ∈ o.after.toList, Region.binds .any e = true → AtUp L Φ a w e.on := fun e he hbn => by
          have := hw e (by simpa using he) hbn
          refine hA e.on ?_
          rw [Array.getD_eq_getD_getElem?] at this
          cases hv : listed[e.on]? with
          | none => rw [hv] at this; cases this
          | some b => rw [hv] at this; simp at this; rw [this]
        have hstep := hop a w hB hL.wide hpre
        have hgo : ∀ v w', Below w.heap.size w w' → p.p v w' → wpAny P .any L.toArray Q fuel (listed.setIfInBounds i true) (a.put o.dst v) w' := fun v w' hbw hpv => by
          refine ih _ _ _ (by simpa using hs) ?_ (fun j h7 h8 => ?_) (closed_set hC hi) (hB.trans (hbw.mono hB.size)) (hL.put (List.mem_of_getElem? hoT) v) fun j hj => ?_
          · have := falses_set listed.toList i (by simpa using hfl)
            rw [Array.toList_setIfInBounds]; omega
          · rw [Array.getElem?_setIfInBounds_ne (by omega)]; exact hno j h7 h8
          · by_cases hij : j = i
            · subst hij
              unfold AtUp
              rw [hoL, hp]
              refine ⟨v, ?_, hpv⟩
              unfold SlotIs
              cases hdst : o.dst with
              | none => trivial
              | some d => exact put_self (by have := dst_lt hd hoL hdst; have := hL.size; omega)
            · rw [Array.getElem?_setIfInBounds_ne (Ne.symm hij)] at hj
              have hold := hA j hj
              unfold AtUp at hold ⊢
              cases hoj : L[j]? with
              | none => trivial
              | some oj =>
                cases hpj : Φ[j]? with
                | none => trivial
                | some pj =>
                  rw [hoj, hpj] at hold
                  obtain ⟨v', h5, h6⟩ := hold
                  refine ⟨v', ?_, pj.up v' w w' hbw h6⟩
                  unfold SlotIs at h5 ⊢
                  cases hdj : oj.dst with
                  | none => trivial
                  | some d =>
                    rw [hdj] at h5
                    exact (put_slot (fun e => hij (dst_apart hd hoj hoL hdj e))).trans h5
        unfold wpOp
        simp only [ho]
        by_cases hwt : Region.wanted o (yielded L.toArray a.tmps) = true
        · rw [if_pos hwt] at hstep ⊢
          exact .inl (Oper.wp_mono (fun a' w' ⟨v, e, hbw, hpv⟩ => by subst e; exact hgo v w' hbw hpv) hstep)
        · rw [if_neg hwt] at hstep ⊢
          exact hgo undef w (Below.refl _ _) hstep
theorem dst_take : ∀ {m : Nat} {L : List Oper} (n : Nat), dstB m L = true → dstB m (L.take n) = true
  | m, [], n, h => by simpa using h
  | m, o :: l, 0, h => rfl
  | m, o :: l, n + 1, h => by
    rw [List.take_succ_cons]
    unfold dstB at h ⊢
    rw [Bool.and_eq_true] at h ⊢
    refine ⟨?_, dst_take n h.2⟩
    have h1 := h.1
    cases hd : o.dst with
    | none => rfl
    | some d =>
      rw [hd] at h1
      simp only [Bool.and_eq_true, List.all_eq_true] at h1 ⊢
      exact ⟨h1.1, fun x hx => h1.2 x (List.mem_of_mem_take hx)⟩
theorem wp_region_tail {id : Nat} {a : Act} {w : World} (n : Nat) (Φ : List UpP) (hm : P.follows .mixedOrders = true) (hb : backB 0 L = true) (hd : dstB a.tmps.size L = true) (ht : tailB n L = true) (hn : Nat.ble n L.length = true) (hU : UpAll P L Φ a w Q (L.take n) Φ)
    (hE : ∀ (f : Nat → Value) w', Below w.heap.size w w' → (∀ (i : Nat) (p : UpP), Φ[i]? = some p → p.p (f i) w') → tailWp P L.toArray Q (L.drop n) (putFn f (L.take n) 0 a) w') : (Code.region id L.toArray true).wp P Q a w := by
  have hn := Nat.le_of_ble_eq_true hn
  have hlt : (L.take n).length = n := by rw [List.length_take]; omega
  refine wp_region_any hm ?_
  refine up_any2 hb hd ht hn hU (fun a' w' hB hL hA => ?_) _ _ _ _ (by simp) (by rw [Array.toList_replicate, falses_rep]; simp) (fun i _ hi => by rw [Array.getElem?_replicate, if_pos (by simpa using hi)]) (fun j o e hj _ _ _ => by rw [Array.getElem?_replicate] at hj; split at hj <;> cases hj) (Below.refl w.heap.size w).drew ⟨rfl, rfl, fun _ _ => rfl⟩ (fun i hi => ?_)
  · have hA2 : ∀ i, i < (L.take n).length → AtUp (L.take n) Φ a' w' i := fun i hi => by
      have := hA i (by omega)
      unfold AtUp at this ⊢
      rw [List.getElem?_take_of_lt (by omega)]
      exact this
    obtain ⟨vs, h1, rfl⟩ := up_end (upAll_len hU) (dst_take n hd) hL hA2
    have hlen : vs.length = (L.take n).length := by
      have key : ∀ {ps : List UpP} {vs : List Value}, AllUp ps vs w' → vs.length = ps.length := by
        intro ps
        induction ps with
        | nil => intro vs h; cases vs with | nil => rfl | cons => exact h.elim
        | cons p ps ih => intro vs h; cases vs with | nil => exact h.elim | cons v vs => rw [List.length_cons, List.length_cons, ih h.2]
      rw [key h1, upAll_len hU]
    have key2 : ∀ {ps : List UpP} {vs : List Value}, AllUp ps vs w' → ∀ (i : Nat) (p : UpP), ps[i]? = some p → p.p (vs.getD i undef) w' := by
      intro ps
      induction ps with
      | nil => intro vs h i p hp; simp at hp
      | cons q ps ih =>
        intro vs h i p hp
        cases vs with
        | nil => exact h.elim
        | cons v vs =>
          cases i with
          | zero => simp at hp; subst hp; exact h.1
          | succ i => have := ih h.2 i p (by simpa using hp); simpa using this
    have := hE (fun i => vs.getD i undef) w' hB (key2 h1)
    rw [← putAll_fn (fun i => vs.getD i undef) (L.take n) vs 0 a hlen (fun j v hj => by simp [List.getD_eq_getElem?_getD, hj])] at this
    exact this
  · rw [Array.getElem?_replicate] at hi
    split at hi <;> cases hi
end
end Go.Proofs.YtbkhmkpbbggcbaaGreatDoor
