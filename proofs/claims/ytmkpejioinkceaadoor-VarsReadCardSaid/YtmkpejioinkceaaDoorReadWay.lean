/- VarsRead: a variable hangs on what Source tells alone. The other request, and what lies in memory meanwhile. -/
import Derived.Test.YtmkpejioinkceaaDoorReadFns
import Derived.Test.YtmkpejioinkceaaDoorFew
import Derived.Deep.AppendLies
import Derived.Deep.RegionHeld3
namespace Go.Proofs.YtmkpejioinkceaaDoor
open Go.RowKit
set_option linter.unusedVariables false

section
variable {w : World} {m1 t1 bd1 m2 t2 bd2 host name key : ByteArray} {mn1 mn2 : Int} {a1 a2 : Option Addr} {n1 n2 c1 c2 : Nat} {has : Bool} {fs1 fs2 : List Fld}
theorem VS.lift {W W' : World} (h : VS w W m1 t1 bd1 m2 t2 bd2 host name key mn1 mn2 a1 a2 n1 n2 c1 c2 has fs1 fs2) (hb : Below w.heap.size w W') (h1 : FieldsAt w (.slice a1 n1 c1) fs1) (h2 : FieldsAt w (.slice a2 n2 c2) fs2) (hk : ∀ b, b ≤ w.heap.size + 1 + 1 → W'.heap[b]? = W.heap[b]?) : VS w W' m1 t1 bd1 m2 t2 bd2 host name key mn1 mn2 a1 a2 n1 n2 c1 c2 has fs1 fs2 :=
  ⟨hb, (hk _ (by omega)).trans h.r1, (hk _ (by omega)).trans h.r2, (hk _ (Nat.le_refl _)).trans h.q, h1.below hb, h2.below hb⟩
end
/-- Besides, the law's other request, its list of fields the call's own. -/
structure VR (w W : World) (m1 t1 bd1 m2 t2 bd2 host name key : ByteArray) (mn1 mn2 : Int) (a1 a2 : Option Addr) (n1 n2 c1 c2 : Nat) (has : Bool) (fs1 fs2 : List Fld) (bb : Nat) (gs : List Fld) (bv : Value) : Prop where
  vs : VS w W m1 t1 bd1 m2 t2 bd2 host name key mn1 mn2 a1 a2 n1 n2 c1 c2 has fs1 fs2
  b : W.heap[bb]? = some (reqObj m2 t1 mn2 bv bd2)
  own : FOwn W (bb + 1) bv gs
  lo : w.heap.size + 1 + 1 < bb
  g1 : FieldsAt w (.slice a1 n1 c1) fs1
  g2 : FieldsAt w (.slice a2 n2 c2) fs2
section
variable {w : World} {m1 t1 bd1 m2 t2 bd2 host name key : ByteArray} {mn1 mn2 : Int} {a1 a2 : Option Addr} {n1 n2 c1 c2 : Nat} {has : Bool} {fs1 fs2 : List Fld}
theorem VR.next {W W' : World} {bb : Nat} {gs : List Fld} {bv : Value} (h : VR w W m1 t1 bd1 m2 t2 bd2 host name key mn1 mn2 a1 a2 n1 n2 c1 c2 has fs1 fs2 bb gs bv) (hb : Below W.heap.size W W') : VR w W' m1 t1 bd1 m2 t2 bd2 host name key mn1 mn2 a1 a2 n1 n2 c1 c2 has fs1 fs2 bb gs bv :=
  ⟨h.vs.next hb, at_next h.b hb, h.own.below hb, h.lo, h.g1, h.g2⟩
theorem VR.app {W W' : World} {bb : Nat} {gs gs' : List Fld} {bv bv' : Value} (h : VR w W m1 t1 bd1 m2 t2 bd2 host name key mn1 mn2 a1 a2 n1 n2 c1 c2 has fs1 fs2 bb gs bv) (hg : W.grownBy W' bv.ownBlock) (ho : FOwn W' (bb + 1) bv' gs') :
    W'.cell? ⟨bb, 3, none⟩ = some bv ∧ W'.frozen? ⟨bb, 3, none⟩ = false ∧ VS w W' m1 t1 bd1 m2 t2 bd2 host name key mn1 mn2 a1 a2 n1 n2 c1 c2 has fs1 fs2 ∧ VR w (W'.setCell ⟨bb, 3, none⟩ bv') m1 t1 bd1 m2 t2 bd2 host name key mn1 mn2 a1 a2 n1 n2 c1 c2 has fs1 fs2 bb gs' bv' := by
  have hlo := h.lo
  have hne : ∀ b, b ≤ bb → some b ≠ bv.ownBlock := fun b hb e => by
    have := (h.own.lt b e.symm).1; omega
  have hsz := h.vs.below.size
  have hbb : bb < W.heap.size := (Array.getElem?_eq_some_iff.1 h.b).1
  have hr : W'.heap[bb]? = some (reqObj m2 t1 mn2 bv bd2) := (hg.block bb hbb (hne bb (Nat.le_refl _))).trans h.b
  have hbel : Below w.heap.size w W' := h.vs.below.grown hg h.vs.below.size (fun k hk => by have := (h.own.lt k hk).1; omega)
  have hvs : VS w W' m1 t1 bd1 m2 t2 bd2 host name key mn1 mn2 a1 a2 n1 n2 c1 c2 has fs1 fs2 := h.vs.lift hbel h.g1 h.g2 (fun b hb => hg.block b (by omega) (hne b (by omega)))
  refine ⟨cell_of_row _ _ 3 _ _ _ hr, frozen_of_row _ _ 3 _ _ hr, hvs, hvs.lift (hbel.setCell (p := ⟨bb, 3, none⟩) (by show w.heap.size ≤ bb; omega) _) h.g1 h.g2 (fun b hb => Below.heap_setCell W' ⟨bb, 3, none⟩ _ b (by show b ≠ bb; omega)), row_set (j := 3) hr, fown_set ho (Nat.lt_succ_self _), hlo, h.g1, h.g2⟩
end
/-- One field appended in a statement whose order is open. -/
theorem step_fapp {ops : Array Oper} {o : Oper} {a : Act} {K : Act → World → Prop} {Q : Exit → Act → World → Prop} {E : Prop} {W : World} (hgd : o.guard = none) (s x : Operand)
    (ho : o.op = .call { callee := .builtin .append, args := #[s, x], argTypes := #[22, 22] })
    (v : Value) (gs : List Fld) (f : Fld) (base B : Nat) (hs : a.eval s = v) (hx : a.eval x = .slice (some ⟨B, 0, none⟩) 1 1) (hB : W.heap[B]? = some (.cells #[.string ⟨f.1.toArray⟩, .string ⟨f.2.toArray⟩] 32))
    (hown : FOwn W base v gs) (hn : gs.length ≤ 100000) (hbase : base ≤ W.heap.size)
    (h : ∀ g cap w', FOwn w' base (.slice (some ⟨g, 0, none⟩) (gs.length + 1) cap) (gs ++ [f]) → W.grownBy w' v.ownBlock → K (a.put o.dst (.slice (some ⟨g, 0, none⟩) (gs.length + 1) cap)) w') :
    if Region.wanted o (yielded ops a.tmps) = true then Oper.wp Tryd.prog o a W K Q else E := by
  obtain ⟨i, hi, hz, hsz, hby⟩ := info_parts info32
  refine step_append_lies W hgd s x _ ho base _ i _ 2 32 u22 hi hz hsz hby rfl (by decide) v gs.length (fcells gs) hs hown ⟨B, 0, none⟩ 1 1 [.string ⟨f.1.toArray⟩, .string ⟨f.2.toArray⟩] hx rfl (World.news_of_block hB) (fun u hu => ?_) (by decide) (by unfold maxLen; omega) (by omega) hbase _ rfl ?_
  · simp only [List.mem_cons, List.not_mem_nil, or_false] at hu
    rcases hu with rfl | rfl <;> rfl
  · intro g cap w' hr hg _ _
    refine h g cap w' ?_ hg
    unfold FOwn
    rw [fcells_app, List.length_append]
    exact hr
/-- Two fields appended. -/
theorem wpList_fapp2 {ops : Array Oper} {rest : List Oper} {o : Oper} {a : Act} {Q : Exit → Act → World → Prop} {W : World} (hgd : o.guard = none) (s x : Operand)
    (ho : o.op = .call { callee := .builtin .append, args := #[s, x], argTypes := #[22, 22] })
    (v : Value) (gs : List Fld) (f g9 : Fld) (base B : Nat) (hs : a.eval s = v) (hx : a.eval x = .slice (some ⟨B, 0, none⟩) 2 2) (hB : W.heap[B]? = some (.cells #[.string ⟨f.1.toArray⟩, .string ⟨f.2.toArray⟩, .string ⟨g9.1.toArray⟩, .string ⟨g9.2.toArray⟩] 32))
    (hown : FOwn W base v gs) (hn : gs.length ≤ 100000) (hbase : base ≤ W.heap.size)
    (h : ∀ g cap w', FOwn w' base (.slice (some ⟨g, 0, none⟩) (gs.length + 2) cap) (gs ++ [f, g9]) → W.grownBy w' v.ownBlock → wpList Tryd.prog ops Q rest (a.put o.dst (.slice (some ⟨g, 0, none⟩) (gs.length + 2) cap)) w') :
    wpList Tryd.prog ops Q (o :: rest) a W := by
  obtain ⟨i, hi, hz, hsz, hby⟩ := info_parts info32
  refine wpList_append_lies W hgd s x _ ho base _ i _ 2 32 u22 hi hz hsz hby rfl (by decide) v gs.length (fcells gs) hs hown ⟨B, 0, none⟩ 2 2 [.string ⟨f.1.toArray⟩, .string ⟨f.2.toArray⟩, .string ⟨g9.1.toArray⟩, .string ⟨g9.2.toArray⟩] hx rfl (World.news_of_block hB) (fun u hu => ?_) (by decide) (by unfold maxLen; omega) (by omega) hbase _ rfl ?_
  · simp only [List.mem_cons, List.not_mem_nil, or_false] at hu
    rcases hu with rfl | rfl | rfl | rfl <;> rfl
  · intro g cap w' hr hg _ _
    refine h g cap w' ?_ hg
    unfold FOwn
    rw [fcells_app, List.length_append]
    exact hr
theorem field_at {W : World} {a : Option Addr} {n c k : Nat} {fs : List Fld} {f : Fld} (h : FieldsAt W (.slice a n c) fs) (hf : fs[k]? = some f) : ∃ b o, a = some ⟨b, o, none⟩ ∧ b < W.heap.size ∧ fs.length ≤ c ∧ W.cell? ⟨b, o + k * 2, none⟩ = some (.string ⟨f.1.toArray⟩) ∧ W.cell? ⟨b, o + k * 2 + 1, none⟩ = some (.string ⟨f.2.toArray⟩) := by
  rcases h with ⟨a', c', e, rfl⟩ | ⟨b, o, c', e, hc, hlt, hcell⟩
  · rw [List.getElem?_nil] at hf; cases hf
  · cases e; exact ⟨b, o, rfl, hlt, hc, (hcell k f hf).1, (hcell k f hf).2⟩
theorem fields_n {W : World} {a : Option Addr} {n c : Nat} {fs : List Fld} (h : FieldsAt W (.slice a n c) fs) : n = fs.length := by
  rcases h with ⟨a', c', e, rfl⟩ | ⟨b, o, c', e, _⟩
  · cases e; rfl
  · cases e; rfl
theorem mone_none (w : Bool) (nm : Bs) : mone w nm none = [] := rfl
theorem mone_yes {w : Bool} {nm : Bs} {f : Fld} (h : same f.1 nm = w) : mone w nm (some f) = [f] := by
  show (bif same f.1 nm == w then [f] else []) = [f]
  rw [h]; cases w <;> rfl
theorem mone_no {w : Bool} {nm : Bs} {f : Fld} (h : same f.1 nm = !w) : mone w nm (some f) = [] := by
  show (bif same f.1 nm == w then [f] else []) = []
  rw [h]; cases w <;> rfl
end Go.Proofs.YtmkpejioinkceaaDoor
