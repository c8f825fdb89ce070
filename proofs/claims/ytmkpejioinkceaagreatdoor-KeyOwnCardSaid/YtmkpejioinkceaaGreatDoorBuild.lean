/- A strings.Builder that the call has made: what it holds, and the walk of WriteString. -/
import Derived.Test.YtmkpejioinkceaaGreatDoorLib1
import Derived.Test.YtmkpejioinkceaaGreatDoorBase
import Derived.Lib.Builder
import Derived.Lib.AppendStr
import Derived.Lib.UnsafeStr
namespace Go.Proofs.YtmkpejioinkceaaGreatDoor
open Go.RowKit
set_option linter.unusedVariables false

/-- Nothing below B was turned, but block b; nor any block that is no row of bytes. -/
structure KeptBut (b B : Nat) (w w' : World) : Prop where
  os : w'.os = w.os
  tape : w'.tape = w.tape
  output : w'.output = w.output
  size : w.heap.size ≤ w'.heap.size
  block : ∀ k, k < B → k ≠ b → w'.heap[k]? = w.heap[k]?
  other : ∀ k, k < w.heap.size → k ≠ b → (∀ cs fr, w.heap[k]? ≠ some (.cells cs 5 fr)) → w'.heap[k]? = w.heap[k]?
theorem KeptBut.refl (b B : Nat) (w : World) : KeptBut b B w w := ⟨rfl, rfl, rfl, Nat.le_refl _, fun _ _ _ => rfl, fun _ _ _ _ => rfl⟩
theorem KeptBut.trans {b B : Nat} {w w1 w2 : World} (h1 : KeptBut b B w w1) (h2 : KeptBut b B w1 w2) : KeptBut b B w w2 :=
  ⟨h2.os.trans h1.os, h2.tape.trans h1.tape, h2.output.trans h1.output, Nat.le_trans h1.size h2.size, fun k hk hn => (h2.block k hk hn).trans (h1.block k hk hn),
   fun k hk hn hb => (h2.other k (Nat.lt_of_lt_of_le hk h1.size) hn (fun cs fr => by rw [h1.other k hk hn hb]; exact hb cs fr)).trans (h1.other k hk hn hb)⟩
theorem KeptBut.of_below {b B : Nat} {w w' : World} (h : Below w.heap.size w w') (hB : B ≤ w.heap.size) : KeptBut b B w w' := ⟨h.os, h.tape, h.output, h.size, fun k hk _ => h.block k (by omega), fun k hk _ _ => h.block k hk⟩
theorem KeptBut.set {b B j : Nat} {w : World} {v : Value} : KeptBut b B w (w.setCell ⟨b, j, none⟩ v) :=
  ⟨rfl, rfl, rfl, by rw [show (w.setCell ⟨b, j, none⟩ v).heap.size = w.heap.size by simp [World.setCell]]; exact Nat.le_refl _, fun k _ hk => Below.heap_setCell w ⟨b, j, none⟩ v k hk, fun k _ hk _ => Below.heap_setCell w ⟨b, j, none⟩ v k hk⟩
theorem KeptBut.grown {b B : Nat} {w w' : World} {row : Option Nat} (h : w.grownBy w' row) (hr : ∀ k, row = some k → B ≤ k ∧ ∃ cs fr, w.heap[k]? = some (.cells cs 5 fr)) (hB : B ≤ w.heap.size) : KeptBut b B w w' :=
  ⟨h.os, h.tape, h.output, h.size, fun k hk _ => h.block k (by omega) (by intro e; have := (hr k e.symm).1; omega),
   fun k hk _ hb => h.block k hk (by intro e; obtain ⟨_, cs, fr, hc⟩ := hr k e.symm; exact hb cs fr hc)⟩
theorem KeptBut.below {b B n : Nat} {w w' : World} (h : KeptBut b B w w') (h1 : n ≤ B) (h2 : n ≤ b) : Below n w w' := ⟨h.os, h.tape, h.output, h.size, fun k hk => h.block k (by omega) (by omega)⟩
theorem own_row {w : World} {B : Nat} {v : Value} {n : Nat} {xs : List Value} (h : w.ownsRow B 5 1 v n xs) : ∀ k, v.ownBlock = some k → B ≤ k ∧ ∃ cs fr, w.heap[k]? = some (.cells cs 5 fr) := by
  intro k hk
  have hl := (h.lt k hk).1
  rcases h.2 with ⟨rfl, _⟩ | ⟨g, cap, cur, rfl, _, hg, _⟩
  · cases hk
  · simp only [Value.ownBlock, Option.some.injEq] at hk
    subst hk
    exact ⟨hl, _, _, hg⟩

theorem own_base {w : World} {b1 b2 : Nat} {e : TypeId} {size : Nat} {v : Value} {n : Nat} {xs : List Value} (h : w.ownsRow b1 e size v n xs) (hb : b2 ≤ b1) : w.ownsRow b2 e size v n xs := by
  refine ⟨h.1, ?_⟩
  rcases h.2 with h | ⟨g, cap, cur, hv, hl, hr⟩
  · exact .inl h
  · exact .inr ⟨g, cap, cur, hv, Nat.le_trans hb hl, hr⟩

/-- The builder in block b holds these bytes; its buffer lies from B on. -/
def Bld (w : World) (b B : Nat) (l : Bs) : Prop :=
  ∃ p v, w.heap[b]? = some (.cells #[p, v] 73 (0, 0)) ∧ (p = .pointer none ∨ p = .pointer (some ⟨b, 0, none⟩)) ∧ w.ownsRow B 5 1 v l.length (bcells l) ∧ v.ownBlock ≠ some b
theorem bld_new (w : World) (B : Nat) : Bld (w.alloc (.cells #[.pointer none, .slice none 0 0] 73)) w.heap.size B [] :=
  ⟨_, _, heap_alloc_new w _, .inl rfl, World.ownsRow_nil _ _ _ _, by simp [Value.ownBlock]⟩
theorem Bld.lt {w : World} {b B : Nat} {l : Bs} (h : Bld w b B l) : b < w.heap.size := by
  obtain ⟨p, v, hb, _⟩ := h
  by_cases hb' : b < w.heap.size
  · exact hb'
  · rw [Array.getElem?_eq_none (by omega)] at hb; cases hb
theorem Bld.next {w w' : World} {b B : Nat} {l : Bs} (h : Bld w b B l) (hb : Below w.heap.size w w') : Bld w' b B l := by
  have hl := h.lt
  obtain ⟨p, v, h1, h2, h3, h4⟩ := h
  exact ⟨p, v, (hb.block b hl).trans h1, h2, own_below h3 hb, h4⟩
/-- A builder without bytes: its buffer may lie anywhere. -/
theorem Bld.rebase {w : World} {b B B' : Nat} {l : Bs} (h : Bld w b B l) (hl : B' ≤ B) : Bld w b B' l := by
  obtain ⟨p, v, h1, h2, h3, h4⟩ := h
  exact ⟨p, v, h1, h2, own_base h3 hl, h4⟩
theorem Bld.lib {w : World} {b B : Nat} {l : Bs} (h : Bld w b B l) (hb : b ≤ B) : Lib.IsBuilder 73 5 b b (Lib.byteCells l) w := by
  obtain ⟨p, v, h1, h2, h3, h4⟩ := h
  have hl : (Lib.byteCells l).length = l.length := by simp [Lib.byteCells]
  have hc : Lib.byteCells l = bcells l := rfl
  have h5 : w.ownsRow b 5 1 v (Lib.byteCells l).length (Lib.byteCells l) := by rw [hl, hc]; exact own_base h3 hb
  rcases h2 with rfl | rfl
  · exact .inl ⟨Nat.le_refl _, v, h1, h5, h4⟩
  · exact .inr ⟨Nat.le_refl _, v, h1, h5, h4⟩

theorem bszB : (Tryz.prog.info? 73).map (fun j => j.size) = some 2 := by kernel_rfl
theorem uPB : Tryz.prog.underlying 70 = some (.pointer 73) := by kernel_rfl
theorem uUP : Tryz.prog.underlying 116 = some .unsafePointer := by kernel_rfl

set_option maxHeartbeats 1000000 in
set_option maxRecDepth 100000 in
theorem b_check_used (b : Nat) (w : World) (h0 : w.cell? ⟨b, 0, none⟩ = some (.pointer (some ⟨b, 0, none⟩))) :
    Calls Tryz.prog 86 #[.pointer (some ⟨b, 0, none⟩)] w fun e w' => e = .returned (.tuple #[]) ∧ w' = w := by
  obtain ⟨j, hj, _⟩ := Option.map_eq_some_iff.1 bszB
  go_enter Tryz.func86, Tryz.ntmps86
  go_wp2
  rw [Lib.run_neq_ptr_same w _ uPB hj]
  go_wp2
  go_end0
  exact ⟨rfl, rfl⟩
set_option maxHeartbeats 1000000 in
set_option maxRecDepth 100000 in
theorem b_check_fresh (b : Nat) (w : World) (h0 : w.cell? ⟨b, 0, none⟩ = some (.pointer none)) (hsh : w.shape? b = some (73, 2)) (hfz : w.frozen? ⟨b, 0, none⟩ = false) :
    Calls Tryz.prog 86 #[.pointer (some ⟨b, 0, none⟩)] w fun e w' => e = .returned (.tuple #[]) ∧ w' = w.setCell ⟨b, 0, none⟩ (.pointer (some ⟨b, 0, none⟩)) := by
  obtain ⟨j, hj, hjs⟩ := Option.map_eq_some_iff.1 bszB
  go_enter Tryz.func86, Tryz.ntmps86
  go_wp2
  rw [Lib.run_to_unsafe w ⟨b, 0, none⟩ uPB uUP hj (by rw [hjs]; decide) hsh (Nat.zero_lt_succ 1)]
  simp only [Result.andThen]
  rw [Oper.upon_value]
  go_wp2
  rw [run_callFunc_extern Tryz.func115 (by kernel_rfl) (by kernel_rfl) (by kernel_rfl) (e := Extern.AbiNoEscape.same) (by kernel_rfl)]
  rw [Lib.run_noEscape]
  simp only [Result.andThen]
  rw [Oper.upon_value]
  go_wp2
  rw [Lib.run_from_unsafe w ⟨b, 0, none⟩ uUP uPB hj hsh (by kernel_rfl)]
  simp only [Result.andThen]
  rw [Oper.upon_value]
  go_wp2
  go_end0
  exact ⟨rfl, rfl⟩

/-- copyCheck: the builder is marked as used; its bytes are as they were. -/
def Checked (b B : Nat) (l : Bs) (w w' : World) : Prop :=
  (∃ v, w'.heap[b]? = some (.cells #[.pointer (some ⟨b, 0, none⟩), v] 73 (0, 0)) ∧ w'.ownsRow B 5 1 v l.length (bcells l) ∧ v.ownBlock ≠ some b) ∧ KeptBut b B w w' ∧ w'.heap.size = w.heap.size
theorem b_copyCheck (b B : Nat) (l : Bs) (w : World) (h : Bld w b B l) :
    Calls Tryz.prog 86 #[.pointer (some ⟨b, 0, none⟩)] w fun e w' => e = .returned (.tuple #[]) ∧ Checked b B l w w' := by
  obtain ⟨p, v, hb, hp, hown, hne⟩ := h
  have hc : w.cell? ⟨b, 0, none⟩ = some p := by simp [World.cell?, hb]
  rcases hp with rfl | rfl
  · have hsh : w.shape? b = some (73, 2) := by simp [World.shape?, hb]
    have hfz : w.frozen? ⟨b, 0, none⟩ = false := by simp [World.frozen?, hb]
    refine (b_check_fresh b w hc hsh hfz).mono ?_
    rintro e w' ⟨rfl, rfl⟩
    refine ⟨rfl, ⟨v, ?_, ?_, hne⟩, KeptBut.set, by simp [World.setCell]⟩
    · simp [World.setCell, Array.getElem?_modify, hb]
    · exact hown.kept (row := some b) ⟨rfl, rfl, rfl, by simp [World.setCell], fun k _ hk => Below.heap_setCell _ _ _ _ (fun e => hk (by simp [e]))⟩ (Or.inr hne)
  · refine (b_check_used b w hc).mono ?_
    rintro e w' ⟨rfl, rfl⟩
    exact ⟨rfl, ⟨v, hb, hown, hne⟩, KeptBut.refl _ _ _, rfl⟩

/-- A text is written behind. -/
def Wrote (b B : Nat) (l : Bs) (w w' : World) : Prop := Bld w' b B l ∧ KeptBut b B w w'
theorem strCells_eq (s : ByteArray) : Lib.strCells s = bcells s.data.toList := rfl
theorem wrote_of {b B : Nat} {l : Bs} {s : ByteArray} {w w1 w2 : World} {v v' : Value} (hk : KeptBut b B w w1) (hb : w1.heap[b]? = some (.cells #[.pointer (some ⟨b, 0, none⟩), v] 73 (0, 0))) (hne : v.ownBlock ≠ some b) (hr : ∀ k, v.ownBlock = some k → B ≤ k ∧ ∃ cs fr, w1.heap[k]? = some (.cells cs 5 fr)) (hB : B ≤ w1.heap.size)
    (hown : w2.ownsRow B 5 1 v' (l.length + s.size) (bcells l ++ Lib.strCells s)) (hg : w1.grownBy w2 v.ownBlock) :
    Wrote b B (l ++ s.data.toList) w (w2.setCell ⟨b, 1, none⟩ v') ∧ w2.cell? ⟨b, 1, none⟩ = some v ∧ w2.frozen? ⟨b, 1, none⟩ = false := by
  have hlt : b < w1.heap.size := by
    by_cases hb' : b < w1.heap.size
    · exact hb'
    · rw [Array.getElem?_eq_none (by omega)] at hb; cases hb
  have hb2 : w2.heap[b]? = some (.cells #[.pointer (some ⟨b, 0, none⟩), v] 73 (0, 0)) := (hg.block b hlt (fun e => hne e.symm)).trans hb
  have hl : (l ++ s.data.toList).length = l.length + s.size := by rw [List.length_append, bs_size]
  have hc : bcells (l ++ s.data.toList) = bcells l ++ Lib.strCells s := by rw [strCells_eq]; simp [bcells]
  have hown' : w2.ownsRow B 5 1 v' (l ++ s.data.toList).length (bcells (l ++ s.data.toList)) := by rw [hl, hc]; exact hown
  have hne2 : v'.ownBlock ≠ some b := Lib.ownBlock_ne hown' hb2 (by decide)
  refine ⟨⟨⟨.pointer (some ⟨b, 0, none⟩), v', ?_, .inr rfl, ?_, hne2⟩, (hk.trans (KeptBut.grown hg hr hB)).trans KeptBut.set⟩, ?_, ?_⟩
  · simp [World.setCell, Array.getElem?_modify, hb2]
  · exact hown'.kept (row := some b) ⟨rfl, rfl, rfl, by simp [World.setCell], fun k _ hk => Below.heap_setCell _ _ _ _ (fun e => hk (by simp [e]))⟩ (Or.inr hne2)
  · simp [World.cell?, hb2]
  · simp [World.frozen?, hb2]

set_option maxRecDepth 100000 in
theorem b_Write (b B : Nat) (l : Bs) (s : ByteArray) (w : World) (h : Bld w b B l) (hB : B ≤ w.heap.size) (hl : l.length + s.size ≤ 1000000000) :
    Calls Tryz.prog 48 #[.pointer (some ⟨b, 0, none⟩), .string s] w fun e w' => e = .returned (.tuple #[.int .i64 s.size, .nilIface]) ∧ Wrote b B (l ++ s.data.toList) w w' := by
  obtain ⟨i0, hi, hz, hsize, hby⟩ := info_parts info5
  have HH := Lib.hid h
  clear h
  go_enter Tryz.func48, Tryz.ntmps48
  go_wp2_with fail
  refine (b_copyCheck b B l w HH.out).mono ?_
  rintro e w1 ⟨rfl, ⟨v, hb, hown, hne⟩, hk, hsz⟩
  have c1 : w1.cell? ⟨b, 1, none⟩ = some v := by simp [World.cell?, hb]
  have HB := Lib.hid hb
  have HK := Lib.hid hk
  have HZ := Lib.hid (hsz ▸ hB : B ≤ w1.heap.size)
  have HR := Lib.hid (own_row hown)
  have HO := Lib.hid hown
  have HN := Lib.hid hne
  clear hb hk hsz hne hown HH
  go_wp2_with (at_builtin; refine Lib.wpList_append_own_string _ rfl _ _ 71 9 rfl B 5 i0 u71 u9 hi hz hsize hby _ _ _ rfl HO.out s rfl (by unfold maxLen; omega) (by omega) HZ.out ?_; intro v' w2 hown2 hg2 _; obtain ⟨a0, c0, rfl⟩ := own_shape hown2; have HW := Lib.hid (wrote_of HK.out HB.out HN.out HR.out HZ.out hown2 hg2); obtain ⟨k1, f1⟩ := HW.out.2; clear hown2 hg2 c1)
  go_ret2
  exact ⟨rfl, HW.out.1⟩
end Go.Proofs.YtmkpejioinkceaaGreatDoor
