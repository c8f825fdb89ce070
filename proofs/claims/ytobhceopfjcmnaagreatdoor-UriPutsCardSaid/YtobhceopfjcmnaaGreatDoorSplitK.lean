/- A range over strings.SplitSeq whose rounds may write into blocks that were laid since it began. -/
import Derived.Test.YtobhceopfjcmnaaGreatDoorSplitSeq
namespace Go.Proofs.YtobhceopfjcmnaaGreatDoor
open Go.RowKit Go.Shelf
attribute [local go_sem] Oper.semAt_some
set_option linter.unusedVariables false

/-- The world B is A, but for block bs, the two that the loop keeps, and new ones. -/
structure StaysK (n bs : Nat) (A B : World) : Prop where
  os : B.os = A.os
  tape : B.tape = A.tape
  output : B.output = A.output
  size : A.heap.size ≤ B.heap.size
  block : ∀ k, k < A.heap.size → k ≠ bs → k ≠ n → k ≠ n + 1 → B.heap[k]? = A.heap[k]?
theorem staysK_setCell (n bs : Nat) (A : World) (v : Value) : StaysK n bs A (A.setCell ⟨bs, 0, none⟩ v) :=
  ⟨rfl, rfl, rfl, by rw [setCell_size]; exact Nat.le_refl _, fun k _ hn _ _ => Below.heap_setCell A ⟨bs, 0, none⟩ v k hn⟩
theorem staysK_putObj (n bs : Nat) (A : World) (o : Obj) : StaysK n bs A (A.putObj (n + 1) o) :=
  ⟨rfl, rfl, rfl, by simp, fun k _ _ _ h => World.putObj_heap_other (by omega)⟩

theorem range_splitK {N : Nat} {g : Operand} {ps : Array Tmp} {assign body : Code} {Q : Exit → Act → World → Prop} {a : Act} {w : World} (c : UInt8) (s : Bs) (bs bsep bsv : Nat)
    (h1 : bs ≠ bsep) (h2 : bs ≠ bsv) (hMax : bs ≠ 1)
    (hg : a.eval g = .func (.func 147) #[] #[.pointer (some ⟨bsep, 0, none⟩), .pointer (some ⟨bs, 0, none⟩), .pointer (some ⟨bsv, 0, none⟩)])
    (hps : ps.size = 1) (hit : Iter w bs bsep bsv s c) (hgood : Good w) (hs : s.length < 4294967281)
    (S : Nat → Prop) (hS : ∀ k, S k → (k < w.heap.size ∧ k ≠ bs ∧ k ≠ bsep ∧ k ≠ bsv ∧ k ≠ 1) ∨ w.heap.size + 1 < k)
    (I Ix : List Bs → World → Prop) (hI : ∀ pre A B, I pre A → StaysK w.heap.size bs A B → I pre B) (hIx : ∀ pre A B, Ix pre A → StaysK w.heap.size bs A B → Ix pre B)
    (h0 : I [] w) (a₁ : Bs → Act)
    (hassign : ∀ (l : Nat) (x : Bs) (W : World) (K : Act → World → Prop), K (a₁ x) W →
      assign.wpIn (Fence.wide.inRound l) (N - 1 - 1) Tryz.prog (Exit.then K (fun _ _ _ => False)) { tmps := (ps.zip #[.string ⟨x.toArray⟩]).foldl (fun t (p, v) => t.setIfInBounds p v) a.tmps, defers := [] } W)
    (hbody : ∀ (l : Nat) (pre : List Bs) (x : Bs) (W : World), I pre W → w.heap.size + 1 < W.heap.size → Good W → pre ++ [x] <+: pieces c s →
      body.wpIn (Fence.wide.inRound l) (N - 1 - 1) Tryz.prog (bodyPostS S I Ix (pre ++ [x]) W) (a₁ x) W)
    (hdone : ∀ (D : Nat) (W : World), w.heap.size ≤ D → I (pieces c s) W → W.heap[D]? = some (.deferred (some [])) → Q .normal { a with defers := { target := .collected D, args := #[] } :: a.defers } W)
    (hstop : ∀ (D : Nat) (pre : List Bs) (W : World), w.heap.size ≤ D → pre <+: pieces c s → Ix pre W → W.heap[D]? = some (.deferred (some [])) → Code.ret.wpIn Fence.wide N Tryz.prog Q { a with defers := { target := .collected D, args := #[] } :: a.defers } W) :
    (Code.rangeFunc g ps assign body).wpIn Fence.wide N Tryz.prog Q a w := by
  refine wpIn_rangeFunc ?_
  intro fn hfn
  obtain ⟨rec, hrec⟩ : ∃ rec : LoopState → Option Code → Loop, rec = fun st pe => { state := st, pending := pe, fn, tmps := a.tmps, params := ps, assign, body, defers := w.heap.size } := ⟨_, rfl⟩
  obtain ⟨W1, hW1⟩ : ∃ W1, (w.alloc (.deferred (some []))).alloc (.loop (rec .ready none)) = W1 := ⟨_, rfl⟩
  have hbelow : Below w.heap.size w W1 := by rw [← hW1]; exact ((Below.refl _ w).alloc (Nat.le_refl _) _).alloc (by simp) _
  have hL1 : W1.heap[w.heap.size + 1]? = some (.loop (rec .ready none)) := by
    rw [← hW1]; have := World.alloc_heap_new (w.alloc (.deferred (some []))) (.loop (rec .ready none)); rwa [World.size_alloc] at this
  have hK1 : W1.heap[w.heap.size]? = some (.deferred (some [])) := by
    rw [← hW1]; exact (Below.heap_alloc _ _ _ (by simp)).trans (World.alloc_heap_new w _)
  have hlbs := box_lt hit.rest
  have hlsep := box_lt hit.sep
  have hlsv := box_lt hit.save
  have hlm := hgood.lt
  have hI1 : I [] W1 := hI [] w W1 h0 ⟨hbelow.os, hbelow.tape, hbelow.output, hbelow.size, fun k hk _ _ _ => hbelow.block k hk⟩
  have hit1 : Iter W1 bs bsep bsv s c := ⟨(hbelow.block _ hlbs).trans hit.rest, (hbelow.block _ hlsep).trans hit.sep, (hbelow.block _ hlsv).trans hit.save⟩
  refine ⟨w.heap.size + 1, [{ target := .collected w.heap.size, args := #[] }], W1, { target := .fn (.func 147) #[.pointer (some ⟨bsep, 0, none⟩), .pointer (some ⟨bs, 0, none⟩), .pointer (some ⟨bsv, 0, none⟩)], args := #[.func (.yield (w.heap.size + 1)) #[] #[]] }, W1, 147,
    #[.func (.yield (w.heap.size + 1)) #[] #[], .pointer (some ⟨bsep, 0, none⟩), .pointer (some ⟨bs, 0, none⟩), .pointer (some ⟨bsv, 0, none⟩)], W1, ?_, ?_, ?_, ?_, (fun e => by cases e), ?_⟩
  · rw [← hW1, hrec]; exact run_enterLoop_outer _ _ _ _ _
  · simp only [resolve, hg]
    simp [go_sem]
  · intro f' _; exact trivial
  · simp [invoke, go_sem]
  · refine (split_iter (N - 1) (w.heap.size + 1) bs bsep bsv c s
      (fun pre W => I pre W ∧ W.heap[w.heap.size + 1]? = some (.loop (rec .ready none)) ∧ W.heap[w.heap.size]? = some (.deferred (some [])))
      (fun pre W => Ix pre W ∧ W.heap[w.heap.size + 1]? = some (.loop (rec .done (some .ret))) ∧ W.heap[w.heap.size]? = some (.deferred (some [])))
      W1 h1 h2 hMax
      (fun pre A v hJ => ⟨hI pre A _ hJ.1 (staysK_setCell _ _ _ _), (Below.heap_setCell A ⟨bs, 0, none⟩ v _ (by show w.heap.size + 1 ≠ bs; omega)).trans hJ.2.1, (Below.heap_setCell A ⟨bs, 0, none⟩ v _ (by show w.heap.size ≠ bs; omega)).trans hJ.2.2⟩)
      ?_ ⟨hI1, hL1, hK1⟩ hit1 (good_of_block hgood (hbelow.block _ hlm)) hs).mono ?_
    · rintro pre x W ⟨hi, hl, hk⟩ hgW hpre
      have hlt : w.heap.size + 1 < W.heap.size := box_lt hl
      have hy := run_yield (P := Tryz.prog) (args := #[.string ⟨x.toArray⟩]) hl (by rw [hrec]; exact hps.symm)
      rw [hrec] at hy
      refine ⟨fn, _, assign, body, hy, roundIn_of_wpIn hfn (hassign _ x W _ ⟨_, run_beginRound hl (by rw [hrec]), ?_⟩)⟩
      clear hy
      have hst := staysK_putObj w.heap.size bs W (.loop { rec .ready none with state := .busy })
      have hl2 : (W.putObj (w.heap.size + 1) (.loop { rec .ready none with state := .busy })).heap[w.heap.size + 1]? = some (.loop { rec .ready none with state := .busy }) := World.putObj_heap_same hlt
      have hk2 : (W.putObj (w.heap.size + 1) (.loop { rec .ready none with state := .busy })).heap[w.heap.size]? = some (.deferred (some [])) := (World.putObj_heap_other (by omega)).trans hk
      refine wpIn_mono (hbody _ pre x _ (hI _ _ _ hi hst) (by simpa using hlt) (good_of_block hgW (hst.block _ (by omega) (Ne.symm hMax) (by omega) (by omega))) hpre) ?_
      have hsz2 : (W.putObj (w.heap.size + 1) (.loop { rec .ready none with state := .busy })).heap.size = W.heap.size := by simp
      have hb2 : ∀ k, k < w.heap.size → (W.putObj (w.heap.size + 1) (.loop { rec .ready none with state := .busy })).heap[k]? = W.heap[k]? := fun k hk => World.putObj_heap_other (by omega)
      generalize W.putObj (w.heap.size + 1) (.loop { rec .ready none with state := .busy }) = W2 at *
      have fin : ∀ (jump : Option Code) (W3 : World), Keep S W2 W3 →
          (Instr.endRound (w.heap.size + 1) jump).run Tryz.prog W3 = .ok (.bool jump.isNone) (W3.putObj (w.heap.size + 1) (.loop (rec (if jump.isNone then .ready else .done) jump))) ∧
          (W3.putObj (w.heap.size + 1) (.loop (rec (if jump.isNone then .ready else .done) jump))).heap[w.heap.size + 1]? = some (.loop (rec (if jump.isNone then .ready else .done) jump)) ∧
          (W3.putObj (w.heap.size + 1) (.loop (rec (if jump.isNone then .ready else .done) jump))).heap[w.heap.size]? = some (.deferred (some [])) := fun jump W3 hk3 => by
        have hnS1 : ¬ S (w.heap.size + 1) := fun h => by have := hS _ h; omega
        have hnS0 : ¬ S w.heap.size := fun h => by have := hS _ h; omega
        have hl3 := (hk3.block (w.heap.size + 1) (by omega) hnS1).trans hl2
        have hk4 := (hk3.block w.heap.size (by omega) hnS0).trans hk2
        have := run_endRound (P := Tryz.prog) jump hl3
        rw [hrec] at this ⊢
        exact ⟨this, World.putObj_heap_same (box_lt hl3), (World.putObj_heap_other (by omega)).trans hk4⟩
      have kept : ∀ (jump : Option Code) (W3 : World) (k : Nat), Keep S W2 W3 → k < w.heap.size → ¬ S k → (W3.putObj (w.heap.size + 1) (.loop (rec (if jump.isNone then .ready else .done) jump))).heap[k]? = W.heap[k]? := fun jump W3 k hk3 hk hn =>
        (World.putObj_heap_other (by omega)).trans ((hk3.block k (by omega) hn).trans (hb2 k hk))
      rintro e a3 W3 hp
      cases e with
      | normal =>
        obtain ⟨hk3, hi3⟩ := hp
        obtain ⟨hr, hl4, hk4⟩ := fin none W3 hk3
        exact ⟨_, _, hr, .inl ⟨rfl, ⟨hI _ _ _ hi3 (staysK_putObj _ _ _ _), hl4, hk4⟩,
          ⟨kept none W3 bs hk3 hlbs (fun h => by have := hS _ h; omega), kept none W3 bsep hk3 hlsep (fun h => by have := hS _ h; omega), kept none W3 bsv hk3 hlsv (fun h => by have := hS _ h; omega)⟩,
          good_of_block hgW (kept none W3 _ hk3 hlm (fun h => by have := hS _ h; omega))⟩⟩
      | ret =>
        obtain ⟨hk3, hi3⟩ := hp
        obtain ⟨hr, hl4, hk4⟩ := fin (some .ret) W3 hk3
        exact ⟨_, _, hr, .inr ⟨rfl, hIx _ _ _ hi3 (staysK_putObj _ _ _ _), hl4, hk4⟩⟩
      | exit id => exact hp.elim
      | goto t => exact hp.elim
      | panic ch => exact hp.elim
      | outgrown => exact hp.elim
    · rintro e W2 ⟨⟨v, rfl⟩, (⟨hi, hl, hk⟩ | ⟨pre, hpre, hi, hl, hk⟩)⟩
      · exact ⟨none, _, by have := run_endLoop (P := Tryz.prog) hl (by rw [hrec]; simp); rw [hrec] at this; exact this, hdone _ _ (Nat.le_refl _) (hI _ _ _ hi (staysK_putObj _ _ _ _)) ((World.putObj_heap_other (by omega)).trans hk)⟩
      · exact ⟨some .ret, _, by have := run_endLoop (P := Tryz.prog) hl (by rw [hrec]; simp); rw [hrec] at this; exact this, hstop _ pre _ (Nat.le_refl _) hpre (hIx _ _ _ hi (staysK_putObj _ _ _ _)) ((World.putObj_heap_other (by omega)).trans hk)⟩
end Go.Proofs.YtobhceopfjcmnaaGreatDoor
