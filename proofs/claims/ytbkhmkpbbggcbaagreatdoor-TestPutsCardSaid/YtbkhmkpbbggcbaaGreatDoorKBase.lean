/- What every walk of this seat leans on: the closed facts on types, worlds in which the library's one integer lies, and small steps. Boxes laid one behind the other; a cell of a row that is set. How lists of texts lie in memory. -/
import Derived.Test.YtbkhmkpbbggcbaaGreatDoorProg
import Derived.Test.YtbkhmkpbbggcbaaGreatDoorKPlain
import Derived.WalkKit
import Derived.Lib.Hide
import Derived.Laws.IdiomStrings
import Derived.Lib.BufferRead
import Derived.Laws.AppendOwnNone
import Derived.WalkSpells
import Derived.WalkLawsBesides
import Derived.Deep.QuietTactic
import Derived.BigQuiet
namespace Go.Proofs.YtbkhmkpbbggcbaaGreatDoor
open Go.RowKit
def Good (w : World) : Prop := ∃ m : Int, w.cell? ⟨0, 0, none⟩ = some (.int .i64 m)
theorem cell_lt {w : World} {b o : Nat} {v : Value} (h : w.cell? ⟨b, o, none⟩ = some v) : b < w.heap.size := by
  unfold World.cell? at h
  by_cases hb : b < w.heap.size
  · exact hb
  · rw [Array.getElem?_eq_none (by show w.heap.size ≤ b; omega)] at h; cases h
theorem Good.lt {w : World} (h : Good w) : 0 < w.heap.size := by
  obtain ⟨m, h⟩ := h; exact cell_lt h
theorem Good.below {w w' : World} {n : Nat} (h : Good w) (hb : Below n w w') (hn : 0 < n) : Good w' := by
  obtain ⟨m, h⟩ := h; exact ⟨m, (hb.cell (p := ⟨_, 0, none⟩) hn).trans h⟩
theorem Good.next {w w' : World} (h : Good w) (hb : Below w.heap.size w w') : Good w' := h.below hb h.lt
theorem bcell {W w1 : World} (hb : Below W.heap.size W w1) : (∀ b o, b < W.heap.size → w1.cell? ⟨b, o, none⟩ = W.cell? ⟨b, o, none⟩) ∧ (∀ b o, b < W.heap.size → w1.frozen? ⟨b, o, none⟩ = W.frozen? ⟨b, o, none⟩) :=
  ⟨fun b o h => hb.cell (p := ⟨b, o, none⟩) h, fun b o h => hb.frozen (p := ⟨b, o, none⟩) h⟩
theorem cell_new (w : World) (us : Array Value) (t : TypeId) (j : Nat) (v : Value) (h : us[j]? = some v) : (w.alloc (.cells us t)).cell? ⟨w.heap.size, j, none⟩ = some v := by
  have hn : (w.alloc (.cells us t)).heap[w.heap.size]? = some (.cells us t) := heap_alloc_new w _
  unfold World.cell?
  rw [show (w.alloc (.cells us t)).heap[(⟨w.heap.size, j, none⟩ : Addr).block]? = _ from hn]
  simpa using h
theorem below_ofdrew {w w' : World} (h : Below w.drew.heap.size w.drew w') : Below w.heap.size w w' :=
  have k := (Below.refl w.heap.size w).drew
  k.trans (h.mono k.size)
def Ret (w : World) (v : Value) : Ending → World → Prop := fun e w' => e = .returned v ∧ Below w.heap.size w w'
theorem ret_str {s : ByteArray} {l : Bs} (h : s.data.toList = l) : Ending.returned (.string s) = .returned (.string ⟨l.toArray⟩) := by rw [bs_ext h]
theorem ret_sb {s : ByteArray} {l : Bs} {b b' : Bool} (h : s.data.toList = l) (hb : b = b') : Ending.returned (.tuple #[.string s, .bool b]) = .returned (.tuple #[.string ⟨l.toArray⟩, .bool b']) := by rw [bs_ext h, hb]
theorem ret_int {k : IntKind} {a b : Int} (h : a = b) : Ending.returned (.int k a) = .returned (.int k b) := by rw [h]
theorem ret_bool {a b : Bool} (h : a = b) : Ending.returned (.bool a) = .returned (.bool b) := by rw [h]
theorem ext_data (s : ByteArray) (a b : Nat) : (s.extract a b).data.toList = (s.data.toList.drop a).take (b - a) := Lib.extract_data s a b
theorem own_succ {W : World} {base : Nat} {e : TypeId} {size : Nat} {v : Value} {k : Nat} {xs : List Value} (h : W.ownsRow base e size v (k + 1) xs) : ∃ g cap, v = .slice (some ⟨g, 0, none⟩) (k + 1) cap := by
  rcases h.2 with ⟨_, h0⟩ | ⟨g, cap, _, rfl, _⟩
  · omega
  · exact ⟨g, cap, rfl⟩
theorem own_below {w w' : World} {base : Nat} {e : TypeId} {size : Nat} {v : Value} {n : Nat} {xs : List Value} (h : w.ownsRow base e size v n xs) (hb : Below w.heap.size w w') : w'.ownsRow base e size v n xs :=
  h.kept (row := none) ⟨hb.os, hb.tape, hb.output, hb.size, fun k hk _ => hb.block k hk⟩ (by cases v.ownBlock <;> simp)
theorem wpList_app1 {P : Program} {ops : Array Oper} {rest : List Oper} {o : Oper} {a : Act} {Q : Exit → Act → World → Prop} {W : World} (hgd : o.guard = none) (s x : Operand) (t : TypeId)
    (ho : o.op = .call { callee := .builtin .append, args := #[s, x], argTypes := #[t, t] })
    (e : TypeId) (z : Value) (size bytes : Nat) (ht : P.underlying t = some (.slice e)) (hinfo : (P.info? e).map (fun i => (i.zero, i.size, i.bytes)) = some (some z, size, bytes))
    (hzs : z.cells.size = size) (hsz : 0 < size) (base : Nat) (w : World)
    (v : Value) (n : Nat) (xs : List Value) (hs : a.eval s = v) (hown : w.ownsRow base e size v n xs)
    (us : List Value) (hw : W = w.alloc (.cells us.toArray e)) (hl : us.length = size) (hx : a.eval x = .slice (some ⟨w.heap.size, 0, none⟩) 1 1) (h1 : ∀ u ∈ us, u.oneCell' = true)
    (hbytes : (n + 1) * bytes ≤ 140737488355328) (h63 : n + 1 ≤ 140737488355328) (hbase : base ≤ w.heap.size)
    (h : ∀ g cap w', w'.ownsRow base e size (.slice (some ⟨g, 0, none⟩) (n + 1) cap) (n + 1) (xs ++ us) → Below base w w' → w.heap.size < w'.heap.size →
      wpList P ops Q rest (a.put o.dst (.slice (some ⟨g, 0, none⟩) (n + 1) cap)) w') :
    wpList P ops Q (o :: rest) a W := by
  subst hw
  obtain ⟨i, hi, hz, hsize, hby⟩ := info_parts hinfo
  refine wpList_append_own _ hgd s x t ho base e i z size bytes ht hi hz hsize hby hzs hsz v n xs hs (hown.alloc _) ⟨w.heap.size, 0, none⟩ 1 1 us hx (by omega) ?_ h1
    (by unfold maxLen; omega) hbytes (by simp; omega) ?_
  · intro j u hj
    have hj' : us.toArray[j]? = some u := by simpa using hj
    have hn : (w.alloc (.cells us.toArray e)).heap[w.heap.size]? = some (.cells us.toArray e) := heap_alloc_new w _
    have : ((⟨w.heap.size, 0, none⟩ : Addr).add j) = ⟨w.heap.size, j, none⟩ := by
      unfold Addr.add; by_cases h0 : j = 0
      · subst h0; rfl
      · rw [if_neg h0]; simp
    rw [this]
    unfold World.cell?
    rw [show (w.alloc (.cells us.toArray e)).heap[(⟨w.heap.size, j, none⟩ : Addr).block]? = _ from hn]
    simpa using hj'
  · intro v' w' hown' hg _
    obtain ⟨g, cap, rfl⟩ := own_succ hown'
    have hb0 : Below base w (w.alloc (.cells us.toArray e)) := (Below.refl _ _).alloc hbase _
    have hr : ∀ k, v.ownBlock = some k → base ≤ k := fun k hk => (hown.lt k hk).1
    have hsz' : w.heap.size < w'.heap.size := by have := hg.size; simp at this; omega
    exact h g cap w' hown' (hb0.grown hg (by simp; omega) hr) hsz'
theorem u5 : Tryz.prog.underlying 5 = some (.int .u8) := by kernel_rfl
theorem u9 : Tryz.prog.underlying 9 = some .string := by kernel_rfl
theorem u76 : Tryz.prog.underlying 76 = some (.slice 5) := by kernel_rfl
theorem u60 : Tryz.prog.underlying 60 = some (.slice 9) := by kernel_rfl
theorem info9 : (Tryz.prog.info? 9).map (fun i => (i.zero, i.size, i.bytes)) = some (some (.string ⟨#[]⟩), 1, 16) := by kernel_rfl
end Go.Proofs.YtbkhmkpbbggcbaaGreatDoor
namespace Go.Proofs.YtbkhmkpbbggcbaaGreatDoor
open Go.RowKit
set_option linter.unusedVariables false
structure Two (w W : World) (o1 o2 : Obj) : Prop where
  b1 : W.heap[w.heap.size]? = some o1
  b2 : W.heap[w.heap.size + 1]? = some o2
  size : W.heap.size = w.heap.size + 1 + 1
  below : Below w.heap.size w W
theorem two_new (w : World) (o1 o2 : Obj) : Two w ((w.alloc o1).alloc o2) o1 o2 := by
  have n1 : (w.alloc o1).heap[w.heap.size]? = some o1 := heap_alloc_new w _
  have n2 := heap_alloc_new (w.alloc o1) o2
  simp only [World.size_alloc] at n2
  have hb1 := (Below.refl w.heap.size w).alloc (Nat.le_refl _) o1
  exact ⟨(Below.heap_alloc _ _ _ (by simp)).trans n1, n2, by simp, hb1.alloc hb1.size o2⟩
theorem row_set {W : World} {b j : Nat} {cs : Array Value} {t : TypeId} {v : Value} (h : W.heap[b]? = some (.cells cs t)) : (W.setCell ⟨b, j, none⟩ v).heap[b]? = some (.cells (cs.setIfInBounds j v) t) := by
  exact Lib.heap_setCell_same (i := j) h v
end Go.Proofs.YtbkhmkpbbggcbaaGreatDoor
namespace Go.Proofs.YtbkhmkpbbggcbaaGreatDoor
open Go.RowKit
set_option linter.unusedVariables false
def scells (ls : List Bs) : List Value := ls.map fun l => Value.string ⟨l.toArray⟩
theorem scells_snoc (ls : List Bs) (l : Bs) : scells (ls ++ [l]) = scells ls ++ [.string ⟨l.toArray⟩] := by simp [scells]
theorem scells_len (ls : List Bs) : (scells ls).length = ls.length := by simp [scells]
def StrsAt (w : World) (v : Value) (ls : List Bs) : Prop :=
  (∃ a c, v = .slice a 0 c ∧ ls = []) ∨
  ∃ b o c, v = .slice (some ⟨b, o, none⟩) ls.length c ∧ ls.length ≤ c ∧ b < w.heap.size ∧
    ∀ (j : Nat) (l : Bs), ls[j]? = some l → w.cell? ⟨b, o + j, none⟩ = some (.string ⟨l.toArray⟩)
def SCells (w : World) (b o : Nat) (ls : List Bs) : Prop := ∀ (j : Nat) (l : Bs), ls[j]? = some l → w.cell? ⟨b, o + j, none⟩ = some (.string ⟨l.toArray⟩)
theorem SCells.below {w w' : World} {b o n : Nat} {ls : List Bs} (h : SCells w b o ls) (hb : Below n w w') (hlt : b < n) : SCells w' b o ls := fun j l hl =>
  (hb.cell (p := ⟨b, _, none⟩) hlt).trans (h j l hl)
theorem StrsAt.below {w w' : World} {v : Value} {ls : List Bs} (h : StrsAt w v ls) (hb : Below w.heap.size w w') : StrsAt w' v ls := by
  rcases h with h | ⟨b, o, c, rfl, hc, hlt, hcell⟩
  · exact .inl h
  · exact .inr ⟨b, o, c, rfl, hc, Nat.lt_of_lt_of_le hlt hb.size, SCells.below hcell hb hlt⟩
theorem StrsAt.of_own {w : World} {base : Nat} {v : Value} {n : Nat} {ls : List Bs} (h : w.ownsRow base 9 1 v n (scells ls)) : StrsAt w v ls := by
  have hn : n = ls.length := by have := h.1; simpa [scells] using this.symm
  have hc := fun (g : Nat) (hg : v.ownBlock = some g) => h.cells hg
  have hl := h.lt
  rcases h.2 with ⟨rfl, h0⟩ | ⟨g, cap, cur, rfl, _, hg, hle, _, _, _⟩
  · subst h0; exact .inl ⟨none, 0, rfl, List.eq_nil_of_length_eq_zero hn.symm⟩
  · refine .inr ⟨g, 0, cap, by rw [hn], by omega, (hl g rfl).2, fun j l hl => ?_⟩
    have := hc g rfl j (.string ⟨l.toArray⟩) (by simp [scells, hl])
    have e : ((⟨g, 0, none⟩ : Addr).add j) = ⟨g, 0 + j, none⟩ := by
      unfold Addr.add; by_cases h0 : j = 0
      · subst h0; rfl
      · rw [if_neg h0]
    rw [e] at this; exact this
def RetStrs (w : World) (ls : List Bs) : Ending → World → Prop := fun e w' => ∃ v, e = .returned v ∧ w'.ownsRow w.heap.size 9 1 v ls.length (scells ls) ∧ Below w.heap.size w w'
end Go.Proofs.YtbkhmkpbbggcbaaGreatDoor
