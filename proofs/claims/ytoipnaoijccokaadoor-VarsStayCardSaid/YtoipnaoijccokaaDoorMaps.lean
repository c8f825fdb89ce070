/- A map with string keys and elements of any kind, that the call makes and reads. -/
import Derived.Test.YtoipnaoijccokaaDoorBase
import Derived.MapKept
import Derived.ChangeMaps4
import Derived.RangeFuncRecord
namespace Go.Proofs.YtoipnaoijccokaaDoor
open Go.RowKit
set_option linter.unusedVariables false

/-- The words of a slice of entries, as the map holds them. -/
def mkv (l : List (Bs × Value)) : List (Value × Value) := l.map fun p => (.string ⟨p.1.toArray⟩, p.2)
/-- Block b is a map of these entries, in this order of their making. -/
def MapIs (W : World) (b : Nat) (l : List (Bs × Value)) : Prop :=
  ∃ es clock, W.heap[b]? = some (.map es clock) ∧ es.toList.map (fun e => (e.key, e.val)) = mkv l
def assoc (l : List (Bs × Value)) (k : Bs) : Option Value := (l.find? (·.1 == k)).map (·.2)

theorem MapIs.lt {W : World} {b : Nat} {l : List (Bs × Value)} (h : MapIs W b l) : b < W.heap.size := by
  obtain ⟨es, c, hb, _⟩ := h; exact (Array.getElem?_eq_some_iff.1 hb).1
theorem MapIs.below {W W' : World} {b n : Nat} {l : List (Bs × Value)} (h : MapIs W b l) (hb : Below n W W') (hn : b < n) : MapIs W' b l := by
  obtain ⟨es, c, hh, he⟩ := h; exact ⟨es, c, (hb.block b hn).trans hh, he⟩
theorem MapIs.next {W W' : World} {b : Nat} {l : List (Bs × Value)} (h : MapIs W b l) (hb : Below W.heap.size W W') : MapIs W' b l := h.below hb h.lt
theorem mapIs_new (W : World) : MapIs (W.alloc (.map #[] 0)) W.heap.size [] := ⟨#[], 0, (MapKept.heap_alloc W _).1, rfl⟩

theorem beq_bytes (a b : ByteArray) : (a == b) = (a.data.toList == b.data.toList) := by
  rw [Bool.eq_iff_iff, MapKept.bytes_beq]; simp only [beq_iff_eq]
  exact ⟨fun h => by rw [h], fun h => ByteArray.ext (Array.toList_inj.1 h)⟩

theorem findNow_is (k : ByteArray) : ∀ (es : List MapEntry) (l : List (Bs × Value)) (i : Nat), es.map (fun e => (e.key, e.val)) = mkv l →
    ∃ r, Instr.findNow .string (.string k) es i = some r ∧ r.map (·.2) = assoc l k.data.toList
  | [], [], i, _ => ⟨none, rfl, rfl⟩
  | [], p :: l, i, h => by simp [mkv] at h
  | e :: es, [], i, h => by simp [mkv] at h
  | e :: es, p :: l, i, h => by
    simp only [mkv, List.map_cons, List.cons.injEq, Prod.mk.injEq] at h
    obtain ⟨⟨hk, hv⟩, hr⟩ := h
    obtain ⟨r, h1, h2⟩ := findNow_is k es l (i + 1) hr
    have hs : Instr.sameNow .string (.string k) e.key = some (p.1 == k.data.toList) := by
      rw [hk]; show some (k == (⟨p.1.toArray⟩ : ByteArray)) = _; rw [beq_bytes]; congr 1; rw [Bool.eq_iff_iff]; simp only [beq_iff_eq]; exact ⟨Eq.symm, Eq.symm⟩
    unfold Instr.findNow
    rw [hs]
    unfold assoc
    rw [List.find?_cons]
    cases hp : (p.1 == k.data.toList)
    · exact ⟨r, h1, h2⟩
    · exact ⟨some (i, e.val), rfl, by simp [hv]⟩

/-- All but block b is as it was. -/
structure But (b : Nat) (W W' : World) : Prop where
  os : W'.os = W.os
  tape : W'.tape = W.tape
  output : W'.output = W.output
  size : W'.heap.size = W.heap.size
  block : ∀ k, k ≠ b → W'.heap[k]? = W.heap[k]?
theorem But.below {b n : Nat} {W W' : World} (h : But b W W') (hn : n ≤ b) : Below n W W' := ⟨h.os, h.tape, h.output, Nat.le_of_eq h.size.symm, fun k hk => h.block k (by omega)⟩
theorem But.cell {b p o : Nat} {W W' : World} (h : But b W W') (hn : p ≠ b) : W'.cell? ⟨p, o, none⟩ = W.cell? ⟨p, o, none⟩ := World.cell?_of_block (a := ⟨p, o, none⟩) (h.block p hn)

/-- 'm[k] = v' at a key that is not there. -/
theorem map_put {W : World} {b : Nat} {l : List (Bs × Value)} (h : MapIs W b l) (T e : TypeId) (hT : Tryd.prog.underlying T = some (.map 9 e)) (k : ByteArray) (v : Value) (hk : assoc l k.data.toList = none) :
    ∃ W', (Instr.mapUpdate T (.map (some b)) (.string k) v).run Tryd.prog W = .ok () W' ∧ MapIs W' b (l ++ [(k.data.toList, v)]) ∧ But b W W' := by
  obtain ⟨es, clock, hb, he⟩ := h
  obtain ⟨r, h1, h2⟩ := findNow_is k es.toList l 0 he
  rw [hk] at h2
  cases r with
  | some x => cases h2
  | none =>
  have hc := MapKept.run_checkKey (P := Tryd.prog) (w := W) u9 (k := .string k) trivial false 9999
  refine ⟨W.putObj b (.map (es.push { key := .string k, val := v, born := clock }) (clock + 1)), ?_, ⟨_, _, World.putObj_heap_same ((Array.getElem?_eq_some_iff.1 hb).1), ?_⟩, ?_⟩
  · unfold Instr.mapUpdate
    simp [run_underlying hT, MapKept.run_getObj_map hb, hc, MapKept.run_findKey u9 h1, MapKept.run_setObj_map _ hb, Result.andThen, World.putObj]
  · rw [Array.toList_push, List.map_append, he]; simp [mkv]
  · exact ⟨rfl, rfl, rfl, by simp, fun j hj => World.putObj_heap_other hj⟩

/-- 'm[k]', and 'm[k]' with a second value. -/
theorem map_get {W : World} {b : Nat} {l : List (Bs × Value)} (h : MapIs W b l) (T e : TypeId) (hT : Tryd.prog.underlying T = some (.map 9 e)) (z : Value) (hz : (zeroValue e).run Tryd.prog W = .ok z W) (k : ByteArray) (ok : Bool) :
    (Instr.lookup T (.map (some b)) (.string k) ok).run Tryd.prog W = .ok (bif ok then .tuple #[(assoc l k.data.toList).getD z, .bool (assoc l k.data.toList).isSome] else (assoc l k.data.toList).getD z) W := by
  obtain ⟨es, clock, hb, he⟩ := h
  obtain ⟨r, h1, h2⟩ := findNow_is k es.toList l 0 he
  have hc := MapKept.run_checkKey (P := Tryd.prog) (w := W) u9 (k := .string k) trivial es.isEmpty 9999
  unfold Instr.lookup
  rw [← h2]
  have hf := MapKept.run_findKey (w := W) (P := Tryd.prog) u9 h1
  cases r with
  | none => cases ok <;> simp [run_underlying hT, MapKept.run_getObj_map hb, hc, hf, hz, Result.andThen]
  | some x => cases ok <;> simp [run_underlying hT, MapKept.run_getObj_map hb, hc, hf, Result.andThen]
end Go.Proofs.YtoipnaoijccokaaDoor
