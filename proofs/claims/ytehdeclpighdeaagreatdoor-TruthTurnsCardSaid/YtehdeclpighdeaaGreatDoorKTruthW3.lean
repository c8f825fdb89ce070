/- The walks of Is and Asked; the law's of, given, is, works, digits. -/
import Derived.Test.YtehdeclpighdeaaGreatDoorKTruthW2
import Derived.Test.YtehdeclpighdeaaGreatDoorKRegTail3
namespace Go.Proofs.YtehdeclpighdeaaGreatDoor
open Go.RowKit
set_option linter.unusedVariables false
attribute [local go_sem ↓] Go.wp_at_zero Go.wp_at_succ
theorem up_if {o : Oper} {L : Array Oper} {T : Array Value} {k : Nat} {b : Bool} {A B : Prop} (hg : o.guard = some (k, b)) (hy : yielded L T k = some b) (a : A) : if Region.wanted o (yielded L T) = true then A else B := by
  rw [if_pos (by unfold Region.wanted; rw [hg]; simp [hy])]; exact a
theorem up_yes {o : Oper} {L : Array Oper} {T : Array Value} {A B : Prop} (hg : o.guard = none) (a : A) : if Region.wanted o (yielded L T) = true then A else B := by
  rw [if_pos (by unfold Region.wanted; rw [hg])]; exact a
theorem up_no {o : Oper} {L : Array Oper} {T : Array Value} {k : Nat} {b c : Bool} {A B : Prop} (hg : o.guard = some (k, b)) (hy : yielded L T k = some c) (hbc : (c == b) = false) (x : B) : if Region.wanted o (yielded L T) = true then A else B := by
  rw [if_neg (by unfold Region.wanted; rw [hg]; simp only [hy]; revert hbc; cases b <;> cases c <;> simp)]; exact x
theorem up_yield {ops : Array Oper} {T : Array Value} {j d : Nat} {b : Bool} (hd : (ops[j]?).bind (·.dst) = some d) (hv : T[d]? = some (.bool b)) : yielded ops T j = some b := by
  unfold yielded; rw [hd]; simp [hv]
def upTree (x : Ex) : UpP := ⟨fun v w => ExAt (fun _ => True) w x v, fun v w w' hb h => h.next hb⟩
theorem kids_nextA {A : Nat → Prop} {W W' : World} {l : List Ex} {kv : Value} (h : KidsAt A W l kv) (hb : Below W.heap.size W W') : KidsAt A W' l kv := by
  have := (exAt_iff (k := 0) (t := []) (u := noUseI)).2 ⟨kv, rfl, h⟩
  obtain ⟨kv', e, h'⟩ := exAt_iff.1 (this.next hb)
  obtain rfl : kv = kv' := by simpa using e
  exact h'
def upKids (l : List Ex) : UpP := ⟨fun v w => KidsAt (fun _ => True) w l v, fun v w w' hb h => kids_nextA h hb⟩
theorem kids_of {A : Nat → Prop} {W : World} {l : List Ex} {k : Int} {t : Bs} {u : UseI} {kv : Value} (h : ExAt A W (.mk k t u l) (exV k t u kv)) : KidsAt A W l kv := by
  obtain ⟨kv', e, hk⟩ := exAt_iff.1 h
  obtain rfl : kv = kv' := by simpa using e
  exact hk
theorem kids_slice {A : Nat → Prop} {W : World} {l : List Ex} {kv : Value} (h : KidsAt A W l kv) : ∃ a c, kv = .slice a l.length c := by
  rcases h with ⟨rfl, a, c, rfl⟩ | ⟨b, o, c, rfl, _⟩ <;> exact ⟨_, _, rfl⟩
def upLen (n : Nat) : UpP := ⟨fun v _ => ∃ a c, v = .slice a n c, fun v w w' hb h => h⟩
def upVars (h t : ByteArray) (fs : List Fld) : UpP := ⟨fun v w => ∃ a c, v = .agg #[.string h, .string t, .slice a fs.length c] ∧ FieldsAt w (.slice a fs.length c) fs, fun v w w' hb ⟨a, c, e, h⟩ => ⟨a, c, e, h.below hb⟩⟩
theorem nodes_weight (x : Ex) : nodesE x ≤ weightE x := by
  refine Ex.ind (P := fun x => nodesE x ≤ weightE x) (fun k t u l ih => ?_) x
  have key : ∀ l : List Ex, (∀ x, x ∈ l → nodesE x ≤ weightE x) → nodesL l ≤ weightL l := by
    intro l
    induction l with
    | nil => intro _; rw [nodesL]; exact Nat.zero_le _
    | cons x r ihr => intro h; rw [nodesL, weightL]; have := h x (by simp); have := ihr fun y hy => h y (by simp [hy]); omega
  have := key l ih
  rw [nodesE, weightE]; omega
theorem ok_weight (x : Ex) : weightE x ≤ 100000 → okE x := by
  refine Ex.ind (P := fun x => weightE x ≤ 100000 → okE x) (fun k t u l ih hw => ?_) x
  rw [weightE] at hw
  have key : ∀ l : List Ex, (∀ x, x ∈ l → weightE x ≤ 100000 → okE x) → weightL l ≤ 100000 → okL l := by
    intro l
    induction l with
    | nil => intro _ _; unfold okL; trivial
    | cons x r ihr => intro h hw; rw [weightL] at hw; unfold okL; exact ⟨h x (by simp) (by omega), ihr (fun y hy => h y (by simp [hy])) (by omega)⟩
  unfold okE
  exact ⟨by omega, by omega, by omega, by omega, key l ih (by omega)⟩
theorem asked_shape {W : World} {base : Nat} {T : TypeId} {sz n : Nat} {v : Value} {xs : List Value} (h : W.ownsRow base T sz v n xs) : ∃ a c, v = .slice a n c := by
  rcases h.2 with ⟨rfl, h0⟩ | ⟨g, cap, cur, rfl, _⟩
  · exact ⟨none, 0, by rw [h0]⟩
  · exact ⟨_, _, rfl⟩
theorem ask_world (w : World) (k : Int) (t : Bs) (u : UseI) (kv : Value) (h tt : ByteArray) (a : Option Addr) (n c : Nat) (A B C : Obj) (hA : A = .cells (exL k t u kv).toArray 27) (hB : B = .cells #[.string h, .string tt, .slice a n c] 59) (hC : C = .cells #[.string h, .string tt, .slice a n c, .slice none 0 0] 107) :
    AK w (((w.alloc A).alloc B).alloc C) (w.heap.size + 1 + 1) h tt a n c 0 (.slice none 0 0) [] ∧ (((w.alloc A).alloc B).alloc C).heap[w.heap.size]? = some A := by
  have hb := (((Below.refl w.heap.size w).alloc (Nat.le_refl _) A).alloc (by rw [World.size_alloc]; omega) B).alloc (by rw [World.size_alloc, World.size_alloc]; omega) C
  have h0 := heap_alloc_new w A
  have h3 := heap_alloc_new ((w.alloc A).alloc B) C
  rw [World.size_alloc, World.size_alloc, hC] at h3
  refine ⟨⟨hb, ?_, ⟨rfl, .inl ⟨rfl, rfl⟩⟩, by omega, by simp [Value.ownBlock]⟩, row_alloc (row_alloc h0 B) C⟩
  rw [hC]; exact h3
set_option maxRecDepth 100000 in
theorem tr_Is (x : Ex) (v : Value) (h tt : ByteArray) (a : Option Addr) (n c : Nat) (fs : List Fld) (w : World) (hG : Good w) (hx : ExAt (fun _ => True) w x v) (hF : FieldsAt w (.slice a n c) fs) (hlim : Lim fs) (hh : h.size ≤ 100002000) (ht : tt.size ≤ 100000) (ho : okE x) (hn : nodesE x ≤ 1000000000) :
    Calls Tryz.prog 31 #[v, .agg #[.string h, .string tt, .slice a n c]] w (Ret w (.bool (isB (valI h.data.toList tt.data.toList fs) x))) := by
  obtain ⟨k, t, u, ka, kn, kc, rfl⟩ := hx.ten
  have HK := Lib.hid (ask_world w k t u (.slice ka kn kc) h tt a n c _ _ _ rfl rfl rfl)
  have HA := Lib.hid (tr_ask w hG (w.heap.size + 1 + 1) h tt a n c fs hF hlim hh ht x ho _ _ 0 _ _ hx HK.out.1 (by omega))
  unfold isB
  obtain ⟨V, hV⟩ : ∃ V, askE (valI h.data.toList tt.data.toList fs) x = V := ⟨_, rfl⟩
  rw [hV] at HA ⊢
  clear hx hF hV ho hn hG
  go_enter Tryz.func31, Tryz.ntmps31
  go_upto_region 2 with fail
  generalize ((w.alloc (.cells (exL k t u (.slice ka kn kc)).toArray 27)).alloc (.cells #[.string h, .string tt, .slice a n c] 59)).alloc (.cells #[.string h, .string tt, .slice a n c, .slice none 0 0] 107) = W3 at *
  obtain ⟨p0, p1, p2, p3, p4, p5, p6, p7, p8, p9⟩ := ten_cells HK.out.2
  go_wp2_with fail
  refine HA.out.mono ?_
  rintro e w4 ⟨av, xs, rfl, HR⟩
  clear p0 p1 p2 p3 p4 p5 p6 p7 p8 p9
  go_wp2_with fail
  refine (tr_so V.1 w4).mono ?_
  rintro e w5 ⟨rfl, rfl⟩
  go_wp2_with fail
  go_ret
  exact ⟨rfl, HR.out.1.up⟩
def RetLen (w : World) (n : Nat) : Ending → World → Prop := fun e w' => ∃ a c, e = .returned (.slice a n c) ∧ Below w.heap.size w w'
set_option maxRecDepth 100000 in
theorem tr_Asked (x : Ex) (v : Value) (h tt : ByteArray) (a : Option Addr) (n c : Nat) (fs : List Fld) (w : World) (hG : Good w) (hx : ExAt (fun _ => True) w x v) (hF : FieldsAt w (.slice a n c) fs) (hlim : Lim fs) (hh : h.size ≤ 100002000) (ht : tt.size ≤ 100000) (ho : okE x) (hn : nodesE x ≤ 1000000000) :
    Calls Tryz.prog 33 #[v, .agg #[.string h, .string tt, .slice a n c]] w (RetLen w (askE (valI h.data.toList tt.data.toList fs) x).2) := by
  obtain ⟨k, t, u, ka, kn, kc, rfl⟩ := hx.ten
  have HK := Lib.hid (ask_world w k t u (.slice ka kn kc) h tt a n c _ _ _ rfl rfl rfl)
  have HA := Lib.hid (tr_ask w hG (w.heap.size + 1 + 1) h tt a n c fs hF hlim hh ht x ho _ _ 0 _ _ hx HK.out.1 (by omega))
  obtain ⟨V, hV⟩ : ∃ V, askE (valI h.data.toList tt.data.toList fs) x = V := ⟨_, rfl⟩
  rw [hV] at HA ⊢
  clear hx hF hV ho hn hG
  go_enter Tryz.func33, Tryz.ntmps33
  go_upto_region 2 with fail
  generalize ((w.alloc (.cells (exL k t u (.slice ka kn kc)).toArray 27)).alloc (.cells #[.string h, .string tt, .slice a n c] 59)).alloc (.cells #[.string h, .string tt, .slice a n c, .slice none 0 0] 107) = W3 at *
  obtain ⟨p0, p1, p2, p3, p4, p5, p6, p7, p8, p9⟩ := ten_cells HK.out.2
  go_wp2_with fail
  refine HA.out.mono ?_
  rintro e w4 ⟨av, xs, rfl, HR⟩
  clear p0 p1 p2 p3 p4 p5 p6 p7 p8 p9
  obtain ⟨aa, ac, rfl⟩ := asked_shape HR.out.1.own
  have c3 := cell_of_row _ _ 3 _ _ _ HR.out.1.box
  go_wp2_with fail
  go_ret
  exact ⟨_, _, rfl, HR.out.1.up⟩
set_option maxRecDepth 100000 in
theorem law28_of (k : Int) (a : Option Addr) (n c : Nat) (w : World) : Calls Tryz.prog 32 #[.int .i64 k, .slice a n c] w (Ret w (exV k [] noUseI (.slice a n c))) := by
  go_enter Tryz.func32, Tryz.ntmps32
  go_wp2_with fail
  have hA : Below w.heap.size w (w.alloc (.cells (exL k [] noUseI (.slice a n c)).toArray 27)) := (Below.refl _ _).alloc (Nat.le_refl _) _
  refine bodyPost_ret (v := exV k [] noUseI (.slice a n c)) ?_ rfl ⟨rfl, hA⟩
  exact results_ten (b := w.heap.size) rfl rfl (heap_alloc_new _ _)
theorem giv_end {w W w1 : World} {h t : ByteArray} {v : Value} {x0 x1 x2 : Value} (hb : Below w.heap.size w W) (n0 : W.heap[w.heap.size]? = some (.cells #[x0, x1, x2] 59)) (hb1 : Below W.heap.size W w1) :
    (w1.cell? ⟨w.heap.size, 0, none⟩ = some x0 ∧ w1.cell? ⟨w.heap.size, 1, none⟩ = some x1 ∧ w1.cell? ⟨w.heap.size, 2, none⟩ = some x2 ∧ w1.frozen? ⟨w.heap.size, 0, none⟩ = false ∧ w1.frozen? ⟨w.heap.size, 1, none⟩ = false ∧ w1.frozen? ⟨w.heap.size, 2, none⟩ = false) ∧
    (((w1.setCell ⟨w.heap.size, 0, none⟩ (.string h)).setCell ⟨w.heap.size, 1, none⟩ (.string t)).setCell ⟨w.heap.size, 2, none⟩ v).cell? ⟨w.heap.size, 0, none⟩ = some (.string h) ∧
    (((w1.setCell ⟨w.heap.size, 0, none⟩ (.string h)).setCell ⟨w.heap.size, 1, none⟩ (.string t)).setCell ⟨w.heap.size, 2, none⟩ v).cell? ⟨w.heap.size, 1, none⟩ = some (.string t) ∧
    (((w1.setCell ⟨w.heap.size, 0, none⟩ (.string h)).setCell ⟨w.heap.size, 1, none⟩ (.string t)).setCell ⟨w.heap.size, 2, none⟩ v).cell? ⟨w.heap.size, 2, none⟩ = some v ∧
    Below w.heap.size w (((w1.setCell ⟨w.heap.size, 0, none⟩ (.string h)).setCell ⟨w.heap.size, 1, none⟩ (.string t)).setCell ⟨w.heap.size, 2, none⟩ v) := by
  have n1 := (hb1.block w.heap.size (blk_lt n0)).trans n0
  have r1 : (w1.setCell ⟨w.heap.size, 0, none⟩ (.string h)).heap[w.heap.size]? = some (.cells #[.string h, x1, x2] 59) := row_set (j := 0) n1
  have r2 : ((w1.setCell ⟨w.heap.size, 0, none⟩ (.string h)).setCell ⟨w.heap.size, 1, none⟩ (.string t)).heap[w.heap.size]? = some (.cells #[.string h, .string t, x2] 59) := row_set (j := 1) r1
  have r3 : (((w1.setCell ⟨w.heap.size, 0, none⟩ (.string h)).setCell ⟨w.heap.size, 1, none⟩ (.string t)).setCell ⟨w.heap.size, 2, none⟩ v).heap[w.heap.size]? = some (.cells #[.string h, .string t, v] 59) := row_set (j := 2) r2
  have hb2 := hb.trans (hb1.mono hb.size)
  exact ⟨⟨cell_of_row _ _ 0 _ _ _ n1, cell_of_row _ _ 1 _ _ _ n1, cell_of_row _ _ 2 _ _ _ n1, frozen_of_row _ _ 0 _ _ n1, frozen_of_row _ _ 1 _ _ n1, frozen_of_row _ _ 2 _ _ n1⟩,
    cell_of_row _ _ 0 _ _ _ r3, cell_of_row _ _ 1 _ _ _ r3, cell_of_row _ _ 2 _ _ _ r3,
    ((hb2.setCell (p := ⟨w.heap.size, 0, none⟩) (Nat.le_refl _) _).setCell (p := ⟨w.heap.size, 1, none⟩) (Nat.le_refl _) _).setCell (p := ⟨w.heap.size, 2, none⟩) (Nat.le_refl _) _⟩
set_option maxRecDepth 100000 in
theorem law28_given (w : World) : Calls Tryz.prog 34 #[] w (RetVars w ⟨#[104]⟩ ⟨#[47]⟩ []) := by
  have HN := Lib.hid (heap_alloc_new w (.cells #[.string ⟨#[]⟩, .string ⟨#[]⟩, .slice none 0 0] 59))
  have HB := Lib.hid ((Below.refl w.heap.size w).alloc (Nat.le_refl _) (.cells #[.string ⟨#[]⟩, .string ⟨#[]⟩, .slice none 0 0] 59))
  have hsz := World.size_alloc (w := w) (o := .cells #[.string ⟨#[]⟩, .string ⟨#[]⟩, .slice none 0 0] 59)
  go_enter Tryz.func34, Tryz.ntmps34
  go_wp2_with fail
  generalize w.alloc (.cells #[.string ⟨#[]⟩, .string ⟨#[]⟩, .slice none 0 0] 59) = W at *
  refine (vars_Of ⟨#[71, 69, 84]⟩ ⟨#[47]⟩ ⟨#[]⟩ ⟨#[104]⟩ 1 _ _ _ [] W (.inl ⟨_, _, rfl, rfl⟩) (by decide)).mono ?_
  rintro e w1 ⟨a', c', rfl, hown, hb1⟩
  have HE := Lib.hid (giv_end (h := ⟨#[104]⟩) (t := ⟨#[47]⟩) (v := .slice a' 0 c') HB.out HN.out hb1)
  obtain ⟨⟨c0, c1, c2, f0, f1, f2⟩, k0, k1, k2, hbel⟩ := HE.out
  have HO := Lib.hid hown
  have HBel := Lib.hid hbel
  have hlt : w.heap.size < W.heap.size := by omega
  clear hown hbel hb1
  have HK := Lib.hid (And.intro k0 (And.intro k1 k2))
  clear k0 k1 k2 hsz
  go_wp2
  obtain ⟨k0, k1, k2⟩ := HK.out
  clear c0 c1 c2 f0 f1 f2
  refine bodyPost_ret (v := .agg #[.string ⟨#[104]⟩, .string ⟨#[47]⟩, .slice a' 0 c']) ?_ rfl ⟨a', c', rfl, fown_base (fown_set (fown_set (fown_set HO.out hlt) hlt) hlt) (Nat.le_of_lt hlt), HBel.out⟩
  simp [results, Tryz.f34, go_sem, k0, k1, k2]
end Go.Proofs.YtehdeclpighdeaaGreatDoor
