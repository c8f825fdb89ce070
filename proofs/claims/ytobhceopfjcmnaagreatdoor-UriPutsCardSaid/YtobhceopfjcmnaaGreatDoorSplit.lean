/- strings.SplitSeq at a byte: its iterator, and a range over it. -/
import Derived.Test.YtobhceopfjcmnaaGreatDoorLib1
import Derived.Test.YtobhceopfjcmnaaGreatDoorPlain
import Derived.RangeFuncNested
import Derived.RangeFuncBound
import Derived.RangeFuncCalls
import Derived.RangeFuncLeaves
import Derived.Shelf.Abstract
import Derived.Shelf.RegionOpen
import Derived.OwnWalkIn
import Derived.TacticsInMore
import Derived.LoopNIn
import Derived.LoopIn
namespace Go.Proofs.YtobhceopfjcmnaaGreatDoor
open Go.RowKit Go.Shelf
attribute [local go_sem] Oper.semAt_some
set_option linter.unusedVariables false

/-- The iterator's three boxes: what is left of the text, the byte, and nought. -/
structure Iter (w : World) (bs bsep bsv : Nat) (r : Bs) (c : UInt8) : Prop where
  rest : w.heap[bs]? = some (.cells #[.string ⟨r.toArray⟩] 9)
  sep : w.heap[bsep]? = some (.cells #[.string ⟨#[c]⟩] 9)
  save : w.heap[bsv]? = some (.cells #[.int .i64 0] 3)

theorem box_cell {w : World} {b : Nat} {v : Value} {t : TypeId} (h : w.heap[b]? = some (.cells #[v] t)) : w.cell? ⟨b, 0, none⟩ = some v ∧ w.frozen? ⟨b, 0, none⟩ = false := by
  constructor
  · unfold World.cell?
    rw [show w.heap[(⟨b, 0, none⟩ : Addr).block]? = _ from h]; rfl
  · unfold World.frozen?
    rw [show w.heap[(⟨b, 0, none⟩ : Addr).block]? = _ from h]; simp
theorem box_lt {w : World} {b : Nat} {o : Obj} (h : w.heap[b]? = some o) : b < w.heap.size := (Array.getElem?_eq_some_iff.1 h).1
theorem box_set {w : World} {b : Nat} {v u : Value} {t : TypeId} (h : w.heap[b]? = some (.cells #[v] t)) : (w.setCell ⟨b, 0, none⟩ u).heap[b]? = some (.cells #[u] t) := by
  have := Lib.heap_setCell_same (i := 0) h u
  simpa using this

/-- How long the text in a box is. -/
def boxLen (w : World) (b : Nat) : Nat :=
  match w.cell? ⟨b, 0, none⟩ with
  | some (.string s) => s.size
  | _ => 0
theorem boxLen_of {w : World} {b : Nat} {r : Bs} {t : TypeId} (h : w.heap[b]? = some (.cells #[.string ⟨r.toArray⟩] t)) : boxLen w b = r.length := by
  unfold boxLen; rw [(box_cell h).1]; rfl

theorem pieces_yes (c : UInt8) (r : Bs) (h : r.contains c = true) : pieces c r = upto c r :: pieces c (past c r) := by rw [pieces_cut, if_pos h]
theorem pieces_not (c : UInt8) (r : Bs) (h : r.contains c = false) : pieces c r = [r] := by rw [pieces_cut, h]; rfl

theorem call_wide {P : Program} {M N : Nat} {f : FuncId} {args : Array Value} {w : World} {R : Ending → World → Prop} (h : Calls P f args w R) :
    Fence.wide.fn f ∧ (Fence.wide.depth.isSome = true → 1 ≤ M) ∧ CallsIn Fence.wide N P f args w R := ⟨trivial, (fun e => by cases e), callsIn_wide.2 h⟩
theorem call_round {P : Program} {M N l : Nat} {f : FuncId} {args : Array Value} {w : World} {R : Ending → World → Prop} (h : Calls P f args w R) :
    (Fence.wide.inRound l).fn f ∧ ((Fence.wide.inRound l).depth.isSome = true → 1 ≤ M) ∧ CallsIn (Fence.wide.inRound l) N P f args w R := ⟨trivial, (fun e => by cases e), CallsIn.inRound l (callsIn_wide.2 h)⟩

theorem idx_yes (r : Bs) (c : UInt8) (w : World) (hg : Good w) (hs : r.length < 4294967281) (h : r.contains c = true) :
    Calls Tryz.prog 131 #[.string ⟨r.toArray⟩, .string ⟨#[c]⟩] w fun e w' => e = .returned (.int .i64 (lead (· != c) r : Nat)) ∧ w = w' := by
  refine (lib_Index ⟨r.toArray⟩ ⟨#[c]⟩ w hg (by show r.toArray.size < _; simpa using hs)).mono ?_
  rintro e w' ⟨rfl, rfl⟩
  exact ⟨ret_int (index_yes c r h), rfl⟩
theorem idx_no (r : Bs) (c : UInt8) (w : World) (hg : Good w) (hs : r.length < 4294967281) (h : r.contains c = false) :
    Calls Tryz.prog 131 #[.string ⟨r.toArray⟩, .string ⟨#[c]⟩] w fun e w' => e = .returned (.int .i64 (-1)) ∧ w = w' := by
  refine (lib_Index ⟨r.toArray⟩ ⟨#[c]⟩ w hg (by show r.toArray.size < _; simpa using hs)).mono ?_
  rintro e w' ⟨rfl, rfl⟩
  exact ⟨ret_int (index_no c r h), rfl⟩
theorem ext_take (r : Bs) (c : UInt8) : (⟨r.toArray⟩ : ByteArray).extract 0 (lead (· != c) r) = ⟨(upto c r).toArray⟩ := bs_ext (by rw [Lib.extract_data, ← take_upto]; simp)
theorem ext_rest (r : Bs) (c : UInt8) (n : Nat) (hn : r.length ≤ n) : (⟨r.toArray⟩ : ByteArray).extract (lead (· != c) r + 1) n = ⟨(past c r).toArray⟩ := bs_ext (ext_past r c n hn)

set_option maxRecDepth 100000 in
set_option maxHeartbeats 800000 in
theorem split_iter (N l bs bsep bsv : Nat) (c : UInt8) (s : Bs) (J Jx : List Bs → World → Prop) (W : World) (h1 : bs ≠ bsep) (h2 : bs ≠ bsv) (hMax : bs ≠ 1)
    (hJs : ∀ pre A v, J pre A → J pre (A.setCell ⟨bs, 0, none⟩ v))
    (hY : ∀ pre x W1, J pre W1 → Good W1 → pre ++ [x] <+: pieces c s → YieldAt Fence.wide (N - 1) Tryz.prog l #[.string ⟨x.toArray⟩] W1 fun e W' =>
      (e = .returned (.bool true) ∧ J (pre ++ [x]) W' ∧ (W'.heap[bs]? = W1.heap[bs]? ∧ W'.heap[bsep]? = W1.heap[bsep]? ∧ W'.heap[bsv]? = W1.heap[bsv]?) ∧ Good W') ∨ (e = .returned (.bool false) ∧ Jx (pre ++ [x]) W'))
    (h0 : J [] W) (hi : Iter W bs bsep bsv s c) (hg : Good W) (hs : s.length < 4294967281) :
    CallsIn Fence.wide N Tryz.prog 147 #[.func (.yield l) #[] #[], .pointer (some ⟨bsep, 0, none⟩), .pointer (some ⟨bs, 0, none⟩), .pointer (some ⟨bsv, 0, none⟩)] W fun e W' =>
      (∃ v, e = .returned v) ∧ (J (pieces c s) W' ∨ ∃ pre, pre <+: pieces c s ∧ Jx pre W') := by
  refine callsIn_of_wp Tryz.func147 rfl trivial ?_ rfl
  simp only [Tryz.ntmps147, List.size_toArray, List.length_cons, List.length_nil, Nat.reduceAdd, Nat.reduceSub, Array.replicate_succ, Array.replicate_zero, List.push_toArray, List.append_toArray, List.nil_append, List.cons_append]
  obtain ⟨hc1, hf1⟩ := box_cell hi.rest
  obtain ⟨hc2, hf2⟩ := box_cell hi.sep
  obtain ⟨hc3, hf3⟩ := box_cell hi.save
  gi_wp2
  clear hc1 hf1 hc2 hf2 hc3 hf3
  gi_loopw [7] (fun _ wr => ∃ (pre : List Bs) (r : Bs), J pre wr ∧ Good wr ∧ Iter wr bs bsep bsv r c ∧ Hid (pre ++ pieces c r = pieces c s) ∧ r.length ≤ s.length) (fun _ wr => boxLen wr bs)
  case atStart => exact ⟨[], s, h0, hg, hi, Lib.hid rfl, Nat.le_refl _⟩
  case round =>
    obtain ⟨pre, r, hJ, hgr, hir, hpr, hrl⟩ := hrel
    obtain ⟨hc1, hf1⟩ := box_cell hir.rest
    obtain ⟨hc2, hf2⟩ := box_cell hir.sep
    obtain ⟨hc3, hf3⟩ := box_cell hir.save
    have hbl := boxLen_of hir.rest
    have Hbl := Lib.hid hbl
    clear hbl
    rcases hc : r.contains c with _ | _
    · have Hp := Lib.hid (pieces_not c r hc)
      have hpref : pre ++ [r] <+: pieces c s := by rw [← hpr.out, Hp.out]; exact ⟨[], by simp⟩
      obtain ⟨fn, tmps, assign, body, hy, hR⟩ := hY pre r wr hJ hgr hpref
      clear hpref
      gi_wp2_with fail
      refine call_wide ((idx_no r c _ hgr (by omega) hc).mono ?_)
      rintro e w1 ⟨rfl, rfl⟩
      clear hc
      gi_wp2_with fail
      refine ⟨(fun e => by cases e), hR.mono ?_⟩
      rintro e W3 (⟨rfl, hJ3, _, _⟩ | ⟨rfl, hJx3⟩)
      · gi_wp2
        go_end0
        refine ⟨⟨_, rfl⟩, .inl ?_⟩
        rw [← hpr.out, Hp.out]; exact hJ3
      · gi_wp2
        go_end0
        refine ⟨⟨_, rfl⟩, .inr ⟨_, ?_, hJx3⟩⟩
        rw [← hpr.out, Hp.out]; exact List.prefix_refl _
    · have Hp := Lib.hid (pieces_yes c r hc)
      have hle := lead_lt c r hc
      have hpref : pre ++ [upto c r] <+: pieces c s := by rw [← hpr.out, Hp.out]; exact ⟨pieces c (past c r), by simp⟩
      obtain ⟨fn, tmps, assign, body, hy, hR⟩ := hY pre (upto c r) wr hJ hgr hpref
      clear hpref
      have he1 := ext_take r c
      have he2 := ext_rest r c r.length (Nat.le_refl _)
      gi_wp2_with fail
      refine call_wide ((idx_yes r c _ hgr (by omega) hc).mono ?_)
      rintro e w1 ⟨rfl, rfl⟩
      clear hc
      gi_wp2_with fail
      refine ⟨(fun e => by cases e), hR.mono ?_⟩
      rintro e W3 (⟨rfl, hJ3, ⟨hk1, hk2, hk3⟩, hg3⟩ | ⟨rfl, hJx3⟩)
      · have hi3 : Iter W3 bs bsep bsv r c := ⟨hk1.trans hir.rest, hk2.trans hir.sep, hk3.trans hir.save⟩
        clear hk1 hk2 hk3 hc1 hf1 hc2 hf2 hc3 hf3
        obtain ⟨hc1, hf1⟩ := box_cell hi3.rest
        obtain ⟨hc2, hf2⟩ := box_cell hi3.sep
        have hi4 : Iter (W3.setCell ⟨bs, 0, none⟩ (.string ⟨(past c r).toArray⟩)) bs bsep bsv (past c r) c :=
          ⟨box_set hi3.rest, (Below.heap_setCell W3 ⟨bs, 0, none⟩ _ bsep (Ne.symm h1)).trans hi3.sep, (Below.heap_setCell W3 ⟨bs, 0, none⟩ _ bsv (Ne.symm h2)).trans hi3.save⟩
        have hg4 : Good (W3.setCell ⟨bs, 0, none⟩ (.string ⟨(past c r).toArray⟩)) := by
          obtain ⟨m, hm⟩ := hg3
          refine ⟨m, ?_⟩
          unfold World.cell? at hm ⊢
          rw [Below.heap_setCell W3 ⟨bs, 0, none⟩ _ _ (show (⟨1, 0, none⟩ : Addr).block ≠ bs from Ne.symm hMax)]; exact hm
        have hlen := past_lt c r (by
          rw [List.contains_iff_mem]
          have := List.getElem_mem hle
          rcases hcc : r.contains c with _ | _
          · have := upto_all c r hcc
            have h3 := congrArg List.length this
            unfold upto at h3
            rw [← take_lead, List.length_take] at h3
            omega
          · exact List.contains_iff_mem.1 hcc)
        have HL := Lib.hid (boxLen_of hi4.rest)
        gi_wp2
        go_roundw
        case rel => exact ⟨pre ++ [upto c r], past c r, hJs _ _ _ hJ3, hg4, hi4, Lib.hid (by rw [← hpr.out, Hp.out]; simp), by omega⟩
        case measure => rw [HL.out, Hbl.out]; exact hlen
      · gi_wp2
        refine bodyPost_ret (results_none rfl _ _ _) rfl ?_
        refine ⟨⟨_, rfl⟩, .inr ⟨_, ?_, hJx3⟩⟩
        rw [← hpr.out, Hp.out]; exact ⟨pieces c (past c r), by simp⟩
end Go.Proofs.YtobhceopfjcmnaaGreatDoor

/- A range over strings.SplitSeq at a byte, in a function that is no round of another. -/
namespace Go.Proofs.YtobhceopfjcmnaaGreatDoor
open Go.RowKit Go.Shelf
set_option linter.unusedVariables false

/-- The world B is A, but for block bs and what lies at n or beyond. -/
structure Stays (n bs : Nat) (A B : World) : Prop where
  os : B.os = A.os
  tape : B.tape = A.tape
  output : B.output = A.output
  size : A.heap.size ≤ B.heap.size
  block : ∀ k, k < n → k ≠ bs → B.heap[k]? = A.heap[k]?

/-- The world B is A, but for the blocks of S and new ones. -/
structure Keep (S : Nat → Prop) (A B : World) : Prop where
  os : B.os = A.os
  tape : B.tape = A.tape
  output : B.output = A.output
  size : A.heap.size ≤ B.heap.size
  block : ∀ k, k < A.heap.size → ¬ S k → B.heap[k]? = A.heap[k]?

theorem Keep.of_below {S : Nat → Prop} {A B : World} (h : Below A.heap.size A B) : Keep S A B := ⟨h.os, h.tape, h.output, h.size, fun k hk _ => h.block k hk⟩
theorem Keep.trans {S : Nat → Prop} {A B C : World} (h : Keep S A B) (k : Keep S B C) : Keep S A C :=
  ⟨k.os.trans h.os, k.tape.trans h.tape, k.output.trans h.output, Nat.le_trans h.size k.size, fun i hi hn => (k.block i (Nat.lt_of_lt_of_le hi h.size) hn).trans (h.block i hi hn)⟩
theorem setCell_size (A : World) (p : Addr) (v : Value) : (A.setCell p v).heap.size = A.heap.size := by simp [World.setCell]
theorem Keep.setCell {S : Nat → Prop} {A B : World} (h : Keep S A B) {b i : Nat} (hb : S b) (v : Value) : Keep S A (B.setCell ⟨b, i, none⟩ v) :=
  ⟨h.os, h.tape, h.output, by rw [setCell_size]; exact h.size, fun k hk hn => (Below.heap_setCell B ⟨b, i, none⟩ v k (fun e => hn (e ▸ hb))).trans (h.block k hk hn)⟩

theorem stays_putObj (n bs l : Nat) (A : World) (o : Obj) (hl : n ≤ l) : Stays n bs A (A.putObj l o) :=
  ⟨rfl, rfl, rfl, by simp, fun k hk _ => World.putObj_heap_other (by omega)⟩
theorem stays_setCell (n bs : Nat) (A : World) (v : Value) : Stays n bs A (A.setCell ⟨bs, 0, none⟩ v) :=
  ⟨rfl, rfl, rfl, by rw [setCell_size]; exact Nat.le_refl _, fun k _ hn => Below.heap_setCell A ⟨bs, 0, none⟩ v k hn⟩
theorem good_of_block {A B : World} (h : Good A) (hb : B.heap[1]? = A.heap[1]?) : Good B := by
  obtain ⟨m, hm⟩ := h
  exact ⟨m, (World.cell?_of_block (a := ⟨1, 0, none⟩) hb).trans hm⟩

/-- How the body of a round may be left: it goes on, or returns. -/
def bodyPostS (S : Nat → Prop) (I Ix : List Bs → World → Prop) (xs : List Bs) (W : World) : Exit → Act → World → Prop
  | .normal, _, W' => Keep S W W' ∧ I xs W'
  | .ret, _, W' => Keep S W W' ∧ Ix xs W'
  | _, _, _ => False

theorem range_split {N : Nat} {g : Operand} {ps : Array Tmp} {assign body : Code} {Q : Exit → Act → World → Prop} {a : Act} {w : World} (c : UInt8) (s : Bs) (bs bsep bsv : Nat)
    (h1 : bs ≠ bsep) (h2 : bs ≠ bsv) (hMax : bs ≠ 1)
    (hg : a.eval g = .func (.func 147) #[] #[.pointer (some ⟨bsep, 0, none⟩), .pointer (some ⟨bs, 0, none⟩), .pointer (some ⟨bsv, 0, none⟩)])
    (hps : ps.size = 1) (hit : Iter w bs bsep bsv s c) (hgood : Good w) (hs : s.length < 4294967281)
    (S : Nat → Prop) (hS : ∀ k, S k → k < w.heap.size ∧ k ≠ bs ∧ k ≠ bsep ∧ k ≠ bsv ∧ k ≠ 1)
    (I Ix : List Bs → World → Prop) (hI : ∀ pre A B, I pre A → Stays w.heap.size bs A B → I pre B) (hIx : ∀ pre A B, Ix pre A → Stays w.heap.size bs A B → Ix pre B)
    (h0 : I [] w) (a₁ : Bs → Act)
    (hassign : ∀ (l : Nat) (x : Bs) (W : World) (K : Act → World → Prop), K (a₁ x) W →
      assign.wpIn (Fence.wide.inRound l) (N - 1 - 1) Tryz.prog (Exit.then K (fun _ _ _ => False)) { tmps := (ps.zip #[.string ⟨x.toArray⟩]).foldl (fun t (p, v) => t.setIfInBounds p v) a.tmps, defers := [] } W)
    (hbody : ∀ (l : Nat) (pre : List Bs) (x : Bs) (W : World), I pre W → Good W → pre ++ [x] <+: pieces c s →
      body.wpIn (Fence.wide.inRound l) (N - 1 - 1) Tryz.prog (bodyPostS S I Ix (pre ++ [x]) W) (a₁ x) W)
    (hdone : ∀ (D : Nat) (W : World), w.heap.size ≤ D → I (pieces c s) W → W.heap[D]? = some (.deferred (some [])) → Q .normal { a with defers := { target := .collected D, args := #[] } :: a.defers } W)
    (hstop : ∀ (D : Nat) (pre : List Bs) (W : World), w.heap.size ≤ D → pre <+: pieces c s → Ix pre W → W.heap[D]? = some (.deferred (some [])) → Code.ret.wpIn Fence.wide N Tryz.prog Q { a with defers := { target := .collected D, args := #[] } :: a.defers } W) :
    (Code.rangeFunc g ps assign body).wpIn Fence.wide N Tryz.prog Q a w := by
  refine wpIn_rangeFunc ?_
  intro fn hfn
  obtain ⟨rec, hrec⟩ : ∃ rec : LoopState → Option Code → Loop, rec = fun st pe => { state := st, pending := pe, fn, tmps := a.tmps, params := ps, assign, body, defers := w.heap.size } := ⟨_, rfl⟩
  obtain ⟨W1, hW1⟩ : ∃ W1, (w.alloc (.deferred (some []))).alloc (.loop (rec .ready none)) = W1 := ⟨_, rfl⟩
  have hbelow : Below w.heap.size w W1 := by rw [← hW1]; exact ((Below.refl _ w).alloc (Nat.le_refl _) _).alloc (by simp) _
  have hL1 : W1.heap[w.heap.size + 1]? = some (.loop (rec .ready none)) := by
    rw [← hW1]; have := World.alloc_heap_new (w.alloc (.deferred (some []))) (.loop (rec .ready none)); rwa [World.size_alloc] at this
  have hK1 : W1.heap[w.heap.size]? = some (.deferred (some [])) := by
    rw [← hW1]; exact (Below.heap_alloc _ _ _ (by simp)).trans (World.alloc_heap_new w _)
  have hlbs := box_lt hit.rest
  have hlsep := box_lt hit.sep
  have hlsv := box_lt hit.save
  have hlm := hgood.lt
  have hI1 : I [] W1 := hI [] w W1 h0 ⟨hbelow.os, hbelow.tape, hbelow.output, hbelow.size, fun k hk _ => hbelow.block k hk⟩
  have hit1 : Iter W1 bs bsep bsv s c := ⟨(hbelow.block _ hlbs).trans hit.rest, (hbelow.block _ hlsep).trans hit.sep, (hbelow.block _ hlsv).trans hit.save⟩
  refine ⟨w.heap.size + 1, [{ target := .collected w.heap.size, args := #[] }], W1, { target := .fn (.func 147) #[.pointer (some ⟨bsep, 0, none⟩), .pointer (some ⟨bs, 0, none⟩), .pointer (some ⟨bsv, 0, none⟩)], args := #[.func (.yield (w.heap.size + 1)) #[] #[]] }, W1, 147,
    #[.func (.yield (w.heap.size + 1)) #[] #[], .pointer (some ⟨bsep, 0, none⟩), .pointer (some ⟨bs, 0, none⟩), .pointer (some ⟨bsv, 0, none⟩)], W1, ?_, ?_, ?_, ?_, (fun e => by cases e), ?_⟩
  · rw [← hW1, hrec]; exact run_enterLoop_outer _ _ _ _ _
  · simp only [resolve, hg]
    simp [go_sem]
  · intro f' _; exact trivial
  · simp [invoke, go_sem]
  · refine (split_iter (N - 1) (w.heap.size + 1) bs bsep bsv c s
      (fun pre W => I pre W ∧ W.heap[w.heap.size + 1]? = some (.loop (rec .ready none)) ∧ W.heap[w.heap.size]? = some (.deferred (some [])))
      (fun pre W => Ix pre W ∧ W.heap[w.heap.size + 1]? = some (.loop (rec .done (some .ret))) ∧ W.heap[w.heap.size]? = some (.deferred (some [])))
      W1 h1 h2 hMax
      (fun pre A v hJ => ⟨hI pre A _ hJ.1 (stays_setCell _ _ _ _), (Below.heap_setCell A ⟨bs, 0, none⟩ v _ (by show w.heap.size + 1 ≠ bs; omega)).trans hJ.2.1, (Below.heap_setCell A ⟨bs, 0, none⟩ v _ (by show w.heap.size ≠ bs; omega)).trans hJ.2.2⟩)
      ?_ ⟨hI1, hL1, hK1⟩ hit1 (good_of_block hgood (hbelow.block _ hlm)) hs).mono ?_
    · rintro pre x W ⟨hi, hl, hk⟩ hgW hpre
      have hlt : w.heap.size + 1 < W.heap.size := box_lt hl
      have hy := run_yield (P := Tryz.prog) (args := #[.string ⟨x.toArray⟩]) hl (by rw [hrec]; exact hps.symm)
      rw [hrec] at hy
      refine ⟨fn, _, assign, body, hy, roundIn_of_wpIn hfn (hassign _ x W _ ⟨_, run_beginRound hl (by rw [hrec]), ?_⟩)⟩
      clear hy
      have hst := stays_putObj w.heap.size bs (w.heap.size + 1) W (.loop { rec .ready none with state := .busy }) (by omega)
      have hl2 : (W.putObj (w.heap.size + 1) (.loop { rec .ready none with state := .busy })).heap[w.heap.size + 1]? = some (.loop { rec .ready none with state := .busy }) := World.putObj_heap_same hlt
      have hk2 : (W.putObj (w.heap.size + 1) (.loop { rec .ready none with state := .busy })).heap[w.heap.size]? = some (.deferred (some [])) := (World.putObj_heap_other (by omega)).trans hk
      refine wpIn_mono (hbody _ pre x _ (hI _ _ _ hi hst) (good_of_block hgW (hst.block _ hlm (Ne.symm hMax))) hpre) ?_
      have hsz2 : (W.putObj (w.heap.size + 1) (.loop { rec .ready none with state := .busy })).heap.size = W.heap.size := by simp
      have hb2 : ∀ k, k < w.heap.size → (W.putObj (w.heap.size + 1) (.loop { rec .ready none with state := .busy })).heap[k]? = W.heap[k]? := fun k hk => World.putObj_heap_other (by omega)
      generalize W.putObj (w.heap.size + 1) (.loop { rec .ready none with state := .busy }) = W2 at *
      have fin : ∀ (jump : Option Code) (W3 : World), Keep S W2 W3 →
          (Instr.endRound (w.heap.size + 1) jump).run Tryz.prog W3 = .ok (.bool jump.isNone) (W3.putObj (w.heap.size + 1) (.loop (rec (if jump.isNone then .ready else .done) jump))) ∧
          (W3.putObj (w.heap.size + 1) (.loop (rec (if jump.isNone then .ready else .done) jump))).heap[w.heap.size + 1]? = some (.loop (rec (if jump.isNone then .ready else .done) jump)) ∧
          (W3.putObj (w.heap.size + 1) (.loop (rec (if jump.isNone then .ready else .done) jump))).heap[w.heap.size]? = some (.deferred (some [])) := fun jump W3 hk3 => by
        have hnS1 : ¬ S (w.heap.size + 1) := fun h => by have := (hS _ h).1; omega
        have hnS0 : ¬ S w.heap.size := fun h => by have := (hS _ h).1; omega
        have hl3 := (hk3.block (w.heap.size + 1) (by omega) hnS1).trans hl2
        have hk4 := (hk3.block w.heap.size (by omega) hnS0).trans hk2
        have := run_endRound (P := Tryz.prog) jump hl3
        rw [hrec] at this ⊢
        exact ⟨this, World.putObj_heap_same (box_lt hl3), (World.putObj_heap_other (by omega)).trans hk4⟩
      have kept : ∀ (jump : Option Code) (W3 : World) (k : Nat), Keep S W2 W3 → k < w.heap.size → ¬ S k → (W3.putObj (w.heap.size + 1) (.loop (rec (if jump.isNone then .ready else .done) jump))).heap[k]? = W.heap[k]? := fun jump W3 k hk3 hk hn =>
        (World.putObj_heap_other (by omega)).trans ((hk3.block k (by omega) hn).trans (hb2 k hk))
      rintro e a3 W3 hp
      cases e with
      | normal =>
        obtain ⟨hk3, hi3⟩ := hp
        obtain ⟨hr, hl4, hk4⟩ := fin none W3 hk3
        exact ⟨_, _, hr, .inl ⟨rfl, ⟨hI _ _ _ hi3 (stays_putObj _ _ _ _ _ (by omega)), hl4, hk4⟩,
          ⟨kept none W3 bs hk3 hlbs (fun h => (hS _ h).2.1 rfl), kept none W3 bsep hk3 hlsep (fun h => (hS _ h).2.2.1 rfl), kept none W3 bsv hk3 hlsv (fun h => (hS _ h).2.2.2.1 rfl)⟩,
          good_of_block hgW (kept none W3 _ hk3 hlm (fun h => (hS _ h).2.2.2.2 rfl))⟩⟩
      | ret =>
        obtain ⟨hk3, hi3⟩ := hp
        obtain ⟨hr, hl4, hk4⟩ := fin (some .ret) W3 hk3
        exact ⟨_, _, hr, .inr ⟨rfl, hIx _ _ _ hi3 (stays_putObj _ _ _ _ _ (by omega)), hl4, hk4⟩⟩
      | exit id => exact hp.elim
      | goto t => exact hp.elim
      | panic ch => exact hp.elim
      | outgrown => exact hp.elim
    · rintro e W2 ⟨⟨v, rfl⟩, (⟨hi, hl, hk⟩ | ⟨pre, hpre, hi, hl, hk⟩)⟩
      · exact ⟨none, _, by have := run_endLoop (P := Tryz.prog) hl (by rw [hrec]; simp); rw [hrec] at this; exact this, hdone _ _ (Nat.le_refl _) (hI _ _ _ hi (stays_putObj _ _ _ _ _ (by omega))) ((World.putObj_heap_other (by omega)).trans hk)⟩
      · exact ⟨some .ret, _, by have := run_endLoop (P := Tryz.prog) hl (by rw [hrec]; simp); rw [hrec] at this; exact this, hstop _ pre _ (Nat.le_refl _) hpre (hIx _ _ _ hi (stays_putObj _ _ _ _ _ (by omega))) ((World.putObj_heap_other (by omega)).trans hk)⟩
end Go.Proofs.YtobhceopfjcmnaaGreatDoor
