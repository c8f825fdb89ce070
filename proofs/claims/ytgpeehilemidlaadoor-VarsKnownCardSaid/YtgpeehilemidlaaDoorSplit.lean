/- strings.SplitSeq at a byte: its iterator, and a range over it. -/
import Derived.Test.YtgpeehilemidlaaDoorLib
import Derived.Test.YtgpeehilemidlaaDoorPlain5
import Derived.RangeFuncNested
import Derived.RangeFuncBound
import Derived.RangeFuncCalls
import Derived.RangeFuncLeaves
import Derived.Shelf.Abstract
import Derived.Shelf.RegionOpen
import Derived.OwnWalkIn
import Derived.TacticsInMore
import Derived.LoopNIn
import Derived.LoopIn
namespace Go.Proofs.YtgpeehilemidlaaDoor
open Go.RowKit Go.Shelf
attribute [local go_sem] Oper.semAt_some
set_option linter.unusedVariables false

/-- The iterator's three boxes: what is left of the text, the byte, and nought. -/
structure Iter (w : World) (bs bsep bsv : Nat) (r : Bs) (c : UInt8) : Prop where
  rest : w.heap[bs]? = some (.cells #[.string ⟨r.toArray⟩] 9)
  sep : w.heap[bsep]? = some (.cells #[.string ⟨#[c]⟩] 9)
  save : w.heap[bsv]? = some (.cells #[.int .i64 0] 3)

theorem box_cell {w : World} {b : Nat} {v : Value} {t : TypeId} (h : w.heap[b]? = some (.cells #[v] t)) : w.cell? ⟨b, 0, none⟩ = some v ∧ w.frozen? ⟨b, 0, none⟩ = false := by
  constructor
  · unfold World.cell?
    rw [show w.heap[(⟨b, 0, none⟩ : Addr).block]? = _ from h]; rfl
  · unfold World.frozen?
    rw [show w.heap[(⟨b, 0, none⟩ : Addr).block]? = _ from h]; simp
theorem box_lt {w : World} {b : Nat} {o : Obj} (h : w.heap[b]? = some o) : b < w.heap.size := (Array.getElem?_eq_some_iff.1 h).1
theorem box_set {w : World} {b : Nat} {v u : Value} {t : TypeId} (h : w.heap[b]? = some (.cells #[v] t)) : (w.setCell ⟨b, 0, none⟩ u).heap[b]? = some (.cells #[u] t) := by
  have := Lib.heap_setCell_same (i := 0) h u
  simpa using this

/-- How long the text in a box is. -/
def boxLen (w : World) (b : Nat) : Nat :=
  match w.cell? ⟨b, 0, none⟩ with
  | some (.string s) => s.size
  | _ => 0
theorem boxLen_of {w : World} {b : Nat} {r : Bs} {t : TypeId} (h : w.heap[b]? = some (.cells #[.string ⟨r.toArray⟩] t)) : boxLen w b = r.length := by
  unfold boxLen; rw [(box_cell h).1]; rfl

theorem pieces_yes (c : UInt8) (r : Bs) (h : r.contains c = true) : pieces c r = upto c r :: pieces c (past c r) := by rw [pieces_cut, if_pos h]
theorem pieces_not (c : UInt8) (r : Bs) (h : r.contains c = false) : pieces c r = [r] := by rw [pieces_cut, h]; rfl

theorem call_wide {P : Program} {M N : Nat} {f : FuncId} {args : Array Value} {w : World} {R : Ending → World → Prop} (h : Calls P f args w R) :
    Fence.wide.fn f ∧ (Fence.wide.depth.isSome = true → 1 ≤ M) ∧ CallsIn Fence.wide N P f args w R := ⟨trivial, (fun e => by cases e), callsIn_wide.2 h⟩
theorem call_round {P : Program} {M N l : Nat} {f : FuncId} {args : Array Value} {w : World} {R : Ending → World → Prop} (h : Calls P f args w R) :
    (Fence.wide.inRound l).fn f ∧ ((Fence.wide.inRound l).depth.isSome = true → 1 ≤ M) ∧ CallsIn (Fence.wide.inRound l) N P f args w R := ⟨trivial, (fun e => by cases e), CallsIn.inRound l (callsIn_wide.2 h)⟩

theorem idx_yes (r : Bs) (c : UInt8) (w : World) (hg : Good w) (hs : r.length < 4294967281) (h : r.contains c = true) :
    Calls Tryd.prog 49 #[.string ⟨r.toArray⟩, .string ⟨#[c]⟩] w fun e w' => e = .returned (.int .i64 (lead (· != c) r : Nat)) ∧ w = w' := by
  refine (lib_Index ⟨r.toArray⟩ ⟨#[c]⟩ w hg (by show r.toArray.size < _; simpa using hs)).mono ?_
  rintro e w' ⟨rfl, rfl⟩
  exact ⟨ret_int (index_yes c r h), rfl⟩
theorem idx_no (r : Bs) (c : UInt8) (w : World) (hg : Good w) (hs : r.length < 4294967281) (h : r.contains c = false) :
    Calls Tryd.prog 49 #[.string ⟨r.toArray⟩, .string ⟨#[c]⟩] w fun e w' => e = .returned (.int .i64 (-1)) ∧ w = w' := by
  refine (lib_Index ⟨r.toArray⟩ ⟨#[c]⟩ w hg (by show r.toArray.size < _; simpa using hs)).mono ?_
  rintro e w' ⟨rfl, rfl⟩
  exact ⟨ret_int (index_no c r h), rfl⟩
theorem ext_take (r : Bs) (c : UInt8) : (⟨r.toArray⟩ : ByteArray).extract 0 (lead (· != c) r) = ⟨(upto c r).toArray⟩ := bs_ext (by rw [Lib.extract_data, ← take_upto]; simp)
theorem ext_rest (r : Bs) (c : UInt8) (n : Nat) (hn : r.length ≤ n) : (⟨r.toArray⟩ : ByteArray).extract (lead (· != c) r + 1) n = ⟨(past c r).toArray⟩ := bs_ext (ext_past r c n hn)

set_option maxRecDepth 100000 in
set_option maxHeartbeats 800000 in
theorem split_iter (N l bs bsep bsv : Nat) (c : UInt8) (s : Bs) (J Jx : List Bs → World → Prop) (W : World) (h1 : bs ≠ bsep) (h2 : bs ≠ bsv) (hMax : bs ≠ 0)
    (hJs : ∀ pre A v, J pre A → J pre (A.setCell ⟨bs, 0, none⟩ v))
    (hY : ∀ pre x W1, J pre W1 → Good W1 → pre ++ [x] <+: pieces c s → YieldAt Fence.wide (N - 1) Tryd.prog l #[.string ⟨x.toArray⟩] W1 fun e W' =>
      (e = .returned (.bool true) ∧ J (pre ++ [x]) W' ∧ (W'.heap[bs]? = W1.heap[bs]? ∧ W'.heap[bsep]? = W1.heap[bsep]? ∧ W'.heap[bsv]? = W1.heap[bsv]?) ∧ Good W') ∨ (e = .returned (.bool false) ∧ Jx (pre ++ [x]) W'))
    (h0 : J [] W) (hi : Iter W bs bsep bsv s c) (hg : Good W) (hs : s.length < 4294967281) :
    CallsIn Fence.wide N Tryd.prog 121 #[.func (.yield l) #[] #[], .pointer (some ⟨bsep, 0, none⟩), .pointer (some ⟨bs, 0, none⟩), .pointer (some ⟨bsv, 0, none⟩)] W fun e W' =>
      (∃ v, e = .returned v) ∧ (J (pieces c s) W' ∨ ∃ pre, pre <+: pieces c s ∧ Jx pre W') := by
  refine callsIn_of_wp Tryd.func121 rfl trivial ?_ rfl
  simp only [Tryd.ntmps121, List.size_toArray, List.length_cons, List.length_nil, Nat.reduceAdd, Nat.reduceSub, Array.replicate_succ, Array.replicate_zero, List.push_toArray, List.append_toArray, List.nil_append, List.cons_append]
  obtain ⟨hc1, hf1⟩ := box_cell hi.rest
  obtain ⟨hc2, hf2⟩ := box_cell hi.sep
  obtain ⟨hc3, hf3⟩ := box_cell hi.save
  gi_wp2
  clear hc1 hf1 hc2 hf2 hc3 hf3
  gi_loopw [7] (fun _ wr => ∃ (pre : List Bs) (r : Bs), J pre wr ∧ Good wr ∧ Iter wr bs bsep bsv r c ∧ Hid (pre ++ pieces c r = pieces c s) ∧ r.length ≤ s.length) (fun _ wr => boxLen wr bs)
  case atStart => exact ⟨[], s, h0, hg, hi, Lib.hid rfl, Nat.le_refl _⟩
  case round =>
    obtain ⟨pre, r, hJ, hgr, hir, hpr, hrl⟩ := hrel
    obtain ⟨hc1, hf1⟩ := box_cell hir.rest
    obtain ⟨hc2, hf2⟩ := box_cell hir.sep
    obtain ⟨hc3, hf3⟩ := box_cell hir.save
    have hbl := boxLen_of hir.rest
    have Hbl := Lib.hid hbl
    clear hbl
    rcases hc : r.contains c with _ | _
    · have Hp := Lib.hid (pieces_not c r hc)
      have hpref : pre ++ [r] <+: pieces c s := by rw [← hpr.out, Hp.out]; exact ⟨[], by simp⟩
      obtain ⟨fn, tmps, assign, body, hy, hR⟩ := hY pre r wr hJ hgr hpref
      clear hpref
      gi_wp2_with fail
      refine call_wide ((idx_no r c _ hgr (by omega) hc).mono ?_)
      rintro e w1 ⟨rfl, rfl⟩
      clear hc
      gi_wp2_with fail
      refine ⟨(fun e => by cases e), hR.mono ?_⟩
      rintro e W3 (⟨rfl, hJ3, _, _⟩ | ⟨rfl, hJx3⟩)
      · gi_wp2
        go_end0
        refine ⟨⟨_, rfl⟩, .inl ?_⟩
        rw [← hpr.out, Hp.out]; exact hJ3
      · gi_wp2
        go_end0
        refine ⟨⟨_, rfl⟩, .inr ⟨_, ?_, hJx3⟩⟩
        rw [← hpr.out, Hp.out]; exact List.prefix_refl _
    · have Hp := Lib.hid (pieces_yes c r hc)
      have hle := lead_lt c r hc
      have hpref : pre ++ [upto c r] <+: pieces c s := by rw [← hpr.out, Hp.out]; exact ⟨pieces c (past c r), by simp⟩
      obtain ⟨fn, tmps, assign, body, hy, hR⟩ := hY pre (upto c r) wr hJ hgr hpref
      clear hpref
      have he1 := ext_take r c
      have he2 := ext_rest r c r.length (Nat.le_refl _)
      gi_wp2_with fail
      refine call_wide ((idx_yes r c _ hgr (by omega) hc).mono ?_)
      rintro e w1 ⟨rfl, rfl⟩
      clear hc
      gi_wp2_with fail
      refine ⟨(fun e => by cases e), hR.mono ?_⟩
      rintro e W3 (⟨rfl, hJ3, ⟨hk1, hk2, hk3⟩, hg3⟩ | ⟨rfl, hJx3⟩)
      · have hi3 : Iter W3 bs bsep bsv r c := ⟨hk1.trans hir.rest, hk2.trans hir.sep, hk3.trans hir.save⟩
        clear hk1 hk2 hk3 hc1 hf1 hc2 hf2 hc3 hf3
        obtain ⟨hc1, hf1⟩ := box_cell hi3.rest
        obtain ⟨hc2, hf2⟩ := box_cell hi3.sep
        have hi4 : Iter (W3.setCell ⟨bs, 0, none⟩ (.string ⟨(past c r).toArray⟩)) bs bsep bsv (past c r) c :=
          ⟨box_set hi3.rest, (Below.heap_setCell W3 ⟨bs, 0, none⟩ _ bsep (Ne.symm h1)).trans hi3.sep, (Below.heap_setCell W3 ⟨bs, 0, none⟩ _ bsv (Ne.symm h2)).trans hi3.save⟩
        have hg4 : Good (W3.setCell ⟨bs, 0, none⟩ (.string ⟨(past c r).toArray⟩)) := by
          obtain ⟨m, hm⟩ := hg3
          refine ⟨m, ?_⟩
          unfold World.cell? at hm ⊢
          rw [Below.heap_setCell W3 ⟨bs, 0, none⟩ _ _ (show (⟨0, 0, none⟩ : Addr).block ≠ bs from Ne.symm hMax)]; exact hm
        have hlen := past_lt c r (by
          rw [List.contains_iff_mem]
          have := List.getElem_mem hle
          rcases hcc : r.contains c with _ | _
          · have := upto_all c r hcc
            have h3 := congrArg List.length this
            unfold upto at h3
            rw [← take_lead, List.length_take] at h3
            omega
          · exact List.contains_iff_mem.1 hcc)
        have HL := Lib.hid (boxLen_of hi4.rest)
        gi_wp2
        go_roundw
        case rel => exact ⟨pre ++ [upto c r], past c r, hJs _ _ _ hJ3, hg4, hi4, Lib.hid (by rw [← hpr.out, Hp.out]; simp), by omega⟩
        case measure => rw [HL.out, Hbl.out]; exact hlen
      · gi_wp2
        refine bodyPost_ret (results_none rfl _ _ _) rfl ?_
        refine ⟨⟨_, rfl⟩, .inr ⟨_, ?_, hJx3⟩⟩
        rw [← hpr.out, Hp.out]; exact ⟨pieces c (past c r), by simp⟩
end Go.Proofs.YtgpeehilemidlaaDoor
