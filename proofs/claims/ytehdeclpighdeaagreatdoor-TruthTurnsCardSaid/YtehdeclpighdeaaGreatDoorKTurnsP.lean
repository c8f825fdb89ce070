/- Lemmas for the law TruthTurns. -/
import Derived.Test.YtehdeclpighdeaaGreatDoorKTruthW4
import Derived.Test.YtehdeclpighdeaaGreatDoorKTruthW6
import Derived.Test.YtehdeclpighdeaaGreatDoorKRegTail3
namespace Go.Proofs.YtehdeclpighdeaaGreatDoor
open Go.RowKit
set_option linter.unusedVariables false
theorem isB_not (val : UseI → Bs × Bool) (x : Ex) : isB val (oneE 3 x) = !isB val x := by
  unfold isB oneE
  rw [askE_mk, askL_one]; rfl
theorem isB_or (val : UseI → Bs × Bool) (x y : Ex) : isB val (twoE 1 x y) = (isB val x || isB val y) := by
  unfold isB twoE
  rw [askE_mk, askL_two]
  cases h : soB (askE val x).1 <;> simp [nodeV, kidsN, h] <;> rfl
theorem isB_and (val : UseI → Bs × Bool) (x y : Ex) : isB val (twoE 2 x y) = (isB val x && isB val y) := by
  unfold isB twoE
  rw [askE_mk, askL_two]
  cases h : soB (askE val x).1 <;> simp [nodeV, kidsN, h] <;> rfl
theorem asked_or (val : UseI → Bs × Bool) (x y : Ex) (h : isB val x = true) : (askE val (twoE 1 x y)).2 = (askE val x).2 := by
  unfold isB at h; unfold twoE
  rw [askE_mk, askL_two]
  simp [nodeV, kidsN, h]
theorem asked_and (val : UseI → Bs × Bool) (x y : Ex) (h : isB val x = false) : (askE val (twoE 2 x y)).2 = (askE val x).2 := by
  unfold isB at h; unfold twoE
  rw [askE_mk, askL_two]
  simp [nodeV, kidsN, h]
def OkT (n : Nat) (x : Ex) : Prop := okE x ∧ nodesE x ≤ n
theorem ok_len : ([] : Bs).length ≤ 100000 ∧ noUseI.name.length ≤ 100000 ∧ noUseI.key.length ≤ 100000 ∧ noUseI.dft.length ≤ 100000 := by decide
theorem OkT.one {n : Nat} {x : Ex} (h : OkT n x) (k : Int) : OkT (n + 1) (oneE k x) := by
  unfold oneE OkT
  refine ⟨?_, by rw [nodesE, nodesL, nodesL]; have := h.2; omega⟩
  unfold okE okL okL
  exact ⟨ok_len.1, ok_len.2.1, ok_len.2.2.1, ok_len.2.2.2, h.1, trivial⟩
theorem OkT.two {n m : Nat} {x y : Ex} (h : OkT n x) (h2 : OkT m y) (k : Int) : OkT (n + m + 1) (twoE k x y) := by
  unfold twoE OkT
  refine ⟨?_, by rw [nodesE, nodesL, nodesL, nodesL]; have := h.2; have := h2.2; omega⟩
  unfold okE okL okL okL
  exact ⟨ok_len.1, ok_len.2.1, ok_len.2.2.1, ok_len.2.2.2, h.1, h2.1, trivial⟩
theorem OkT.le {n m : Nat} {x : Ex} (h : OkT n x) (hm : n ≤ m) : OkT m x := ⟨h.1, Nat.le_trans h.2 hm⟩
abbrev vT (fs : List Fld) : UseI → Bs × Bool := valI [104] [47, 63, 97, 61, 98] fs
theorem isT (fs : List Fld) (hlim : Lim fs) (x : Ex) (q : Bool) (hq : isB (vT fs) x = q) (v : Value) (a : Option Addr) (c : Nat) (w : World) (hG : Good w) (hx : ExAt (fun _ => True) w x v) (hF : FieldsAt w (.slice a fs.length c) fs) (ho : OkT 10000 x) :
    Calls Tryz.prog 31 #[v, .agg #[.string ⟨#[104]⟩, .string ⟨#[47, 63, 97, 61, 98]⟩, .slice a fs.length c]] w (Ret w (.bool q)) := by
  subst hq
  exact tr_Is x v ⟨#[104]⟩ ⟨#[47, 63, 97, 61, 98]⟩ a fs.length c fs w hG hx hF hlim (by decide) (by decide) ho.1 (by have := ho.2; omega)
theorem askedT (fs : List Fld) (hlim : Lim fs) (x : Ex) (k : Nat) (hk : (askE (vT fs) x).2 = k) (v : Value) (a : Option Addr) (c : Nat) (w : World) (hG : Good w) (hx : ExAt (fun _ => True) w x v) (hF : FieldsAt w (.slice a fs.length c) fs) (ho : OkT 10000 x) :
    Calls Tryz.prog 33 #[v, .agg #[.string ⟨#[104]⟩, .string ⟨#[47, 63, 97, 61, 98]⟩, .slice a fs.length c]] w (RetLen w k) := by
  subst hk
  exact tr_Asked x v ⟨#[104]⟩ ⟨#[47, 63, 97, 61, 98]⟩ a fs.length c fs w hG hx hF hlim (by decide) (by decide) ho.1 (by have := ho.2; omega)
theorem law28_ofL (k : Int) (a : Option Addr) (n c : Nat) (w : World) : Calls Tryz.prog 32 #[.int .i64 k, .slice a n c] w (Ret w (.agg #[.int .i64 k, .string ⟨#[]⟩, .int .i64 0, .int .i64 0, .string ⟨#[]⟩, .string ⟨#[]⟩, .string ⟨#[]⟩, .bool false, .bool false, .slice a n c])) := law28_of k a n c w
theorem row_up28 {W w' : World} {b : Nat} {O : Obj} (h : W.heap[b]? = some O) (hB : Below W.heap.size W w') : w'.heap[b]? = some O := (hB.block _ (Array.getElem?_eq_some_iff.1 h).1).trans h
theorem row_three28 {W : World} {b : Nat} {x0 x1 x2 : Value} {T : TypeId} (h : W.heap[b]? = some (.cells #[x0, x1, x2] T)) : W.cell? ⟨b, 0, none⟩ = some x0 ∧ W.cell? ⟨b, 1, none⟩ = some x1 ∧ W.cell? ⟨b, 2, none⟩ = some x2 := ⟨cell_of_row _ _ 0 _ _ _ h, cell_of_row _ _ 1 _ _ _ h, cell_of_row _ _ 2 _ _ _ h⟩
theorem up_preG {L : List Oper} {Φ : List UpG} {G : Nat → Prop} {a : Act} {w : World} {o : Oper} (h : ∀ e ∈ o.after.toList, Region.binds .any e = true → AtG L Φ G a w e.on) (k : Nat) (hk : (o.after.toList.any fun e => Region.binds .any e && e.on == k) = true) : AtG L Φ G a w k := by
  obtain ⟨e, he, h2⟩ := List.any_eq_true.1 hk
  rw [Bool.and_eq_true, beq_iff_eq] at h2
  rw [← h2.2]
  exact h e he h2.1
def upTreeG (x : Ex) : UpG := ⟨fun v w G => ExAt (fun z => ¬ G z) w x v, fun v w w' G G' hb hg h => exAt_lo (fun z hz hn => hn) _ _ (ExAt.next (exAt_lo (fun z hz hn hg' => hn (hg z hz hg')) _ _ h) hb)⟩
def upKidsG (l : List Ex) : UpG := ⟨fun v w G => KidsAt (fun z => ¬ G z) w l v, fun v w w' G G' hb hg h => by
  have h1 := (upTreeG (.mk 0 [] noUseI l)).up _ w w' G G' hb hg ((exAt_iff (k := 0) (t := []) (u := noUseI)).2 ⟨v, rfl, h⟩)
  obtain ⟨kv', e, h'⟩ := exAt_iff.1 h1
  obtain rfl : v = kv' := by simpa using e
  exact h'⟩
abbrev zero28 : Array Value := #[.int .i64 0, .string ⟨#[]⟩, .int .i64 0, .int .i64 0, .string ⟨#[]⟩, .string ⟨#[]⟩, .string ⟨#[]⟩, .bool false, .bool false, .slice none 0 0]
def upBoxG : UpG := ⟨fun v w _ => ∃ b, v = .pointer (some ⟨b, 0, none⟩) ∧ w.heap[b]? = some (.cells zero28 27), fun v w w' _ _ hb _ ⟨b, h1, h2⟩ => ⟨b, h1, row_up28 h2 hb⟩⟩
def upTreeN (b c : Nat) (x : Ex) : UpP := ⟨fun v w => ExAt (fun z => z ≠ b ∧ z ≠ c) w x v, fun v w w' hb h => h.next hb⟩
def upKidsN (b c : Nat) (l : List Ex) : UpP := ⟨fun v w => KidsAt (fun z => z ≠ b ∧ z ≠ c) w l v, fun v w w' hb h => kids_nextA h hb⟩
def upIf (g : Bool) (v0 : Value) : UpP := ⟨fun v _ => g = false → v = v0, fun v w w' hb h => h⟩
theorem fr_dst {L : List Oper} {Fr : List Bool} (h : ((List.range Fr.length).all fun i => !(Fr[i]? == some true) || ((L[i]?).bind (·.dst)).isSome) = true) : ∀ i : Nat, Fr[i]? = some true → ∃ (o : Oper) (d : Nat), L[i]? = some o ∧ o.dst = some d := fun i hi => by
  have := List.all_eq_true.1 h i (List.mem_range.2 (List.getElem?_eq_some_iff.1 hi).1)
  rw [hi] at this
  simp only [beq_self_eq_true, Bool.not_true, Bool.false_or] at this
  obtain ⟨d, hd⟩ := Option.isSome_iff_exists.1 this
  obtain ⟨o, ho, hd⟩ := Option.bind_eq_some_iff.1 hd
  exact ⟨o, d, ho, hd⟩
theorem box_pair {Fr : List Bool} {B : Nat → Nat} {f : Nat → Value} {w' : World} {i j : Nat} {T : TypeId} (hi : Fr[i]? = some true) (hj : Fr[j]? = some true) (hij : i ≠ j) (bi : ∃ b, f i = .pointer (some ⟨b, 0, none⟩) ∧ w'.heap[b]? = some (.cells zero28 T)) (bj : ∃ b, f j = .pointer (some ⟨b, 0, none⟩) ∧ w'.heap[b]? = some (.cells zero28 T))
    (hfp : ∀ i : Nat, Fr[i]? = some true → f i = .pointer (some ⟨B i, 0, none⟩)) (hfd : ∀ i j : Nat, Fr[i]? = some true → Fr[j]? = some true → i ≠ j → B i ≠ B j) :
    f i = .pointer (some ⟨B i, 0, none⟩) ∧ f j = .pointer (some ⟨B j, 0, none⟩) ∧ B i ≠ B j ∧ w'.heap[B i]? = some (.cells zero28 T) ∧ w'.heap[B j]? = some (.cells zero28 T) ∧ (∀ (X : Ex) (v : Value), ExAt (fun z => ¬ ∃ i : Nat, Fr[i]? = some true ∧ z = B i) w' X v → ExAt (fun z => z ≠ B i ∧ z ≠ B j) w' X v) := by
  obtain ⟨b1, e1, h1⟩ := bi
  obtain ⟨b2, e2, h2⟩ := bj
  have g1 := hfp i hi
  have g2 := hfp j hj
  have q1 : b1 = B i := by rw [g1] at e1; injection e1 with e; injection e with e; injection e with e; exact e.symm
  have q2 : b2 = B j := by rw [g2] at e2; injection e2 with e; injection e with e; injection e with e; exact e.symm
  exact ⟨g1, g2, hfd i j hi hj hij, q1 ▸ h1, q2 ▸ h2, fun X v h => exAt_lo (fun z _ hn => ⟨fun e => hn ⟨i, hi, e⟩, fun e => hn ⟨j, hj, e⟩⟩) _ _ h⟩
theorem ten_elim {v : Value} {C : Prop} (h : TenV v) (k : ∀ k t u a n c, v = exV k t u (.slice a n c) → C) : C := by
  obtain ⟨k0, t, u, a, n, c, e⟩ := h
  exact k k0 t u a n c e
theorem two_set {W0 w' : World} {b c : Nat} {k1 k2 : Int} {t1 t2 : Bs} {u1 u2 : UseI} {kv1 kv2 v0 v1 v2 v3 v4 v5 v6 v7 v8 v9 y0 y1 y2 y3 y4 y5 y6 y7 y8 y9 : Value} {T1 T2 : TypeId} (hb0 : W0.heap.size ≤ b) (hc0 : W0.heap.size ≤ c) (hbc : b ≠ c) (hB : Below W0.heap.size W0 w')
    (hb : w'.heap[b]? = some (.cells #[v0, v1, v2, v3, v4, v5, v6, v7, v8, v9] T1)) (hc : w'.heap[c]? = some (.cells #[y0, y1, y2, y3, y4, y5, y6, y7, y8, y9] T2)) :
    (setTen (setTen w' b k1 t1 u1 kv1) c k2 t2 u2 kv2).heap[b]? = some (.cells (exL k1 t1 u1 kv1).toArray T1) ∧ (setTen (setTen w' b k1 t1 u1 kv1) c k2 t2 u2 kv2).heap[c]? = some (.cells (exL k2 t2 u2 kv2).toArray T2) ∧ Below W0.heap.size W0 (setTen (setTen w' b k1 t1 u1 kv1) c k2 t2 u2 kv2) ∧
    (∀ (A : Nat → Prop) (x : Ex) (v : Value), ExAt A w' x v → ¬ A b → ¬ A c → ExAt A (setTen (setTen w' b k1 t1 u1 kv1) c k2 t2 u2 kv2) x v) ∧ (∀ z, z ≠ b → z ≠ c → z < w'.heap.size → (setTen (setTen w' b k1 t1 u1 kv1) c k2 t2 u2 kv2).heap[z]? = w'.heap[z]?) := by
  have g1 := setTen_row (k := k1) (t := t1) (u := u1) (kv := kv1) hb
  have q1 := setTen_turn w' b k1 t1 u1 kv1
  have hc1 := (q1.block c (Array.getElem?_eq_some_iff.1 hc).1 (by intro e; exact hbc (Option.some.inj e).symm)).trans hc
  have g2 := setTen_row (k := k2) (t := t2) (u := u2) (kv := kv2) hc1
  have q2 := setTen_turn (setTen w' b k1 t1 u1 kv1) c k2 t2 u2 kv2
  have g1' := (q2.block b (Array.getElem?_eq_some_iff.1 g1).1 (by intro e; exact hbc (Option.some.inj e))).trans g1
  refine ⟨g1', g2, ?_, fun A x v h h1 h2 => (h.turn q1 h1).turn q2 h2, fun z h1 h2 hz => ?_⟩
  · exact ((hB.trans ((q1.below (n := min b w'.heap.size) (Nat.min_le_left _ _) (Nat.min_le_right _ _)).mono (Nat.le_min.2 ⟨hb0, hB.size⟩))).trans ((q2.below (n := min c (setTen w' b k1 t1 u1 kv1).heap.size) (Nat.min_le_left _ _) (Nat.min_le_right _ _)).mono (Nat.le_min.2 ⟨hc0, Nat.le_trans hB.size q1.size⟩)))
  · exact (q2.block z (Nat.lt_of_lt_of_le hz q1.size) (by intro e; exact h2 (Option.some.inj e))).trans (q1.block z hz (by intro e; exact h1 (Option.some.inj e)))
theorem three_a {W : World} {b : Nat} {k1 k2 k3 : Int} {t1 t2 t3 : Bs} {u1 u2 u3 : UseI} {a1 a2 a3 : Option Addr} {n1 n2 n3 c1 c2 c3 : Nat} {T : TypeId} (h : W.heap[b]? = some (.cells #[.int .i64 k1, .string ⟨t1.toArray⟩, .int .i64 u1.src, .int .i64 u1.till, .string ⟨u1.name.toArray⟩, .string ⟨u1.key.toArray⟩, .string ⟨u1.dft.toArray⟩, .bool u1.hk, .bool u1.hd, .slice a1 n1 c1, .int .i64 k2, .string ⟨t2.toArray⟩, .int .i64 u2.src, .int .i64 u2.till, .string ⟨u2.name.toArray⟩, .string ⟨u2.key.toArray⟩, .string ⟨u2.dft.toArray⟩, .bool u2.hk, .bool u2.hd, .slice a2 n2 c2, .int .i64 k3, .string ⟨t3.toArray⟩, .int .i64 u3.src, .int .i64 u3.till, .string ⟨u3.name.toArray⟩, .string ⟨u3.key.toArray⟩, .string ⟨u3.dft.toArray⟩, .bool u3.hk, .bool u3.hd, .slice a3 n3 c3] T)) : W.cell? ⟨b, 0, none⟩ = some (.int .i64 k1) ∧ W.cell? ⟨b, 1, none⟩ = some (.string ⟨t1.toArray⟩) ∧ W.cell? ⟨b, 2, none⟩ = some (.int .i64 u1.src) ∧ W.cell? ⟨b, 3, none⟩ = some (.int .i64 u1.till) ∧ W.cell? ⟨b, 4, none⟩ = some (.string ⟨u1.name.toArray⟩) ∧ W.cell? ⟨b, 5, none⟩ = some (.string ⟨u1.key.toArray⟩) ∧ W.cell? ⟨b, 6, none⟩ = some (.string ⟨u1.dft.toArray⟩) ∧ W.cell? ⟨b, 7, none⟩ = some (.bool u1.hk) ∧ W.cell? ⟨b, 8, none⟩ = some (.bool u1.hd) ∧ W.cell? ⟨b, 9, none⟩ = some (.slice a1 n1 c1) :=
  ⟨cell_of_row _ _ 0 _ _ _ h, cell_of_row _ _ 1 _ _ _ h, cell_of_row _ _ 2 _ _ _ h, cell_of_row _ _ 3 _ _ _ h, cell_of_row _ _ 4 _ _ _ h, cell_of_row _ _ 5 _ _ _ h, cell_of_row _ _ 6 _ _ _ h, cell_of_row _ _ 7 _ _ _ h, cell_of_row _ _ 8 _ _ _ h, cell_of_row _ _ 9 _ _ _ h⟩
theorem three_b {W : World} {b : Nat} {k1 k2 k3 : Int} {t1 t2 t3 : Bs} {u1 u2 u3 : UseI} {a1 a2 a3 : Option Addr} {n1 n2 n3 c1 c2 c3 : Nat} {T : TypeId} (h : W.heap[b]? = some (.cells #[.int .i64 k1, .string ⟨t1.toArray⟩, .int .i64 u1.src, .int .i64 u1.till, .string ⟨u1.name.toArray⟩, .string ⟨u1.key.toArray⟩, .string ⟨u1.dft.toArray⟩, .bool u1.hk, .bool u1.hd, .slice a1 n1 c1, .int .i64 k2, .string ⟨t2.toArray⟩, .int .i64 u2.src, .int .i64 u2.till, .string ⟨u2.name.toArray⟩, .string ⟨u2.key.toArray⟩, .string ⟨u2.dft.toArray⟩, .bool u2.hk, .bool u2.hd, .slice a2 n2 c2, .int .i64 k3, .string ⟨t3.toArray⟩, .int .i64 u3.src, .int .i64 u3.till, .string ⟨u3.name.toArray⟩, .string ⟨u3.key.toArray⟩, .string ⟨u3.dft.toArray⟩, .bool u3.hk, .bool u3.hd, .slice a3 n3 c3] T)) : W.cell? ⟨b, 10, none⟩ = some (.int .i64 k2) ∧ W.cell? ⟨b, 11, none⟩ = some (.string ⟨t2.toArray⟩) ∧ W.cell? ⟨b, 12, none⟩ = some (.int .i64 u2.src) ∧ W.cell? ⟨b, 13, none⟩ = some (.int .i64 u2.till) ∧ W.cell? ⟨b, 14, none⟩ = some (.string ⟨u2.name.toArray⟩) ∧ W.cell? ⟨b, 15, none⟩ = some (.string ⟨u2.key.toArray⟩) ∧ W.cell? ⟨b, 16, none⟩ = some (.string ⟨u2.dft.toArray⟩) ∧ W.cell? ⟨b, 17, none⟩ = some (.bool u2.hk) ∧ W.cell? ⟨b, 18, none⟩ = some (.bool u2.hd) ∧ W.cell? ⟨b, 19, none⟩ = some (.slice a2 n2 c2) :=
  ⟨cell_of_row _ _ 10 _ _ _ h, cell_of_row _ _ 11 _ _ _ h, cell_of_row _ _ 12 _ _ _ h, cell_of_row _ _ 13 _ _ _ h, cell_of_row _ _ 14 _ _ _ h, cell_of_row _ _ 15 _ _ _ h, cell_of_row _ _ 16 _ _ _ h, cell_of_row _ _ 17 _ _ _ h, cell_of_row _ _ 18 _ _ _ h, cell_of_row _ _ 19 _ _ _ h⟩
theorem three_c {W : World} {b : Nat} {k1 k2 k3 : Int} {t1 t2 t3 : Bs} {u1 u2 u3 : UseI} {a1 a2 a3 : Option Addr} {n1 n2 n3 c1 c2 c3 : Nat} {T : TypeId} (h : W.heap[b]? = some (.cells #[.int .i64 k1, .string ⟨t1.toArray⟩, .int .i64 u1.src, .int .i64 u1.till, .string ⟨u1.name.toArray⟩, .string ⟨u1.key.toArray⟩, .string ⟨u1.dft.toArray⟩, .bool u1.hk, .bool u1.hd, .slice a1 n1 c1, .int .i64 k2, .string ⟨t2.toArray⟩, .int .i64 u2.src, .int .i64 u2.till, .string ⟨u2.name.toArray⟩, .string ⟨u2.key.toArray⟩, .string ⟨u2.dft.toArray⟩, .bool u2.hk, .bool u2.hd, .slice a2 n2 c2, .int .i64 k3, .string ⟨t3.toArray⟩, .int .i64 u3.src, .int .i64 u3.till, .string ⟨u3.name.toArray⟩, .string ⟨u3.key.toArray⟩, .string ⟨u3.dft.toArray⟩, .bool u3.hk, .bool u3.hd, .slice a3 n3 c3] T)) : W.cell? ⟨b, 20, none⟩ = some (.int .i64 k3) ∧ W.cell? ⟨b, 21, none⟩ = some (.string ⟨t3.toArray⟩) ∧ W.cell? ⟨b, 22, none⟩ = some (.int .i64 u3.src) ∧ W.cell? ⟨b, 23, none⟩ = some (.int .i64 u3.till) ∧ W.cell? ⟨b, 24, none⟩ = some (.string ⟨u3.name.toArray⟩) ∧ W.cell? ⟨b, 25, none⟩ = some (.string ⟨u3.key.toArray⟩) ∧ W.cell? ⟨b, 26, none⟩ = some (.string ⟨u3.dft.toArray⟩) ∧ W.cell? ⟨b, 27, none⟩ = some (.bool u3.hk) ∧ W.cell? ⟨b, 28, none⟩ = some (.bool u3.hd) ∧ W.cell? ⟨b, 29, none⟩ = some (.slice a3 n3 c3) :=
  ⟨cell_of_row _ _ 20 _ _ _ h, cell_of_row _ _ 21 _ _ _ h, cell_of_row _ _ 22 _ _ _ h, cell_of_row _ _ 23 _ _ _ h, cell_of_row _ _ 24 _ _ _ h, cell_of_row _ _ 25 _ _ _ h, cell_of_row _ _ 26 _ _ _ h, cell_of_row _ _ 27 _ _ _ h, cell_of_row _ _ 28 _ _ _ h, cell_of_row _ _ 29 _ _ _ h⟩
end Go.Proofs.YtehdeclpighdeaaGreatDoor
