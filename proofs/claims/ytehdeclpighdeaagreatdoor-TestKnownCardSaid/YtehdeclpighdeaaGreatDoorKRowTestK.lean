/- TestKnown: law, row, card. -/
import Derived.Test.YtehdeclpighdeaaGreatDoorKTestT3
import Derived.Test.YtehdeclpighdeaaGreatDoorKRowBase
namespace Go.Proofs.YtehdeclpighdeaaGreatDoor
open Go.RowKit
set_option linter.unusedVariables false
theorem lib_Rep16 (c : UInt8) (w : World) :
    Calls Tryz.prog 21 #[.string ⟨#[c]⟩, .int .i64 16] w (Ret w (.string ⟨#[c, c, c, c, c, c, c, c, c, c, c, c, c, c, c, c]⟩)) := by
  refine (Tryz.strings_Repeat ⟨#[c]⟩ 16 w (by omega) ?_).mono ?_
  · show 1 * 16 ≤ _
    omega
  · rintro e w' ⟨rfl, hb⟩
    exact ⟨rfl, hb⟩
set_option maxRecDepth 100000 in
theorem law27_number (t : Bs) (w : World) : Calls Tryz.prog 24 #[.string ⟨t.toArray⟩] w (Ret w (.agg #[.int .i64 11, .string ⟨t.toArray⟩, .int .i64 0, .int .i64 0, .string ⟨#[]⟩, .string ⟨#[]⟩, .string ⟨#[]⟩, .bool false, .bool false, .slice none 0 0])) := by
  go_enter Tryz.func24, Tryz.ntmps24
  go_wp2_with fail
  refine bodyPost_ret (v := .agg #[.int .i64 11, .string ⟨t.toArray⟩, .int .i64 0, .int .i64 0, .string ⟨#[]⟩, .string ⟨#[]⟩, .string ⟨#[]⟩, .bool false, .bool false, .slice none 0 0]) ?_ rfl ⟨rfl, (Below.refl _ _).alloc (Nat.le_refl _) _⟩
  exact results_ten (b := w.heap.size) rfl rfl (heap_alloc_new _ _)
theorem below_al {w W : World} (h : Below w.heap.size w W) (O : Obj) : Below w.heap.size w (W.alloc O) := h.alloc h.size O
theorem twoE_end {w : World} {x y : Ex} {k1 k2 : Int} {t1 t2 : Bs} {u1 u2 : UseI} {kv1 kv2 : Value} (k : Int) (hx : ExAt (fun _ => True) w x (exV k1 t1 u1 kv1)) (hy : ExAt (fun _ => True) w y (exV k2 t2 u2 kv2)) {A B N : Obj} {T : TypeId} :
    ((((w.alloc A).alloc B).alloc N).alloc (.cells (exL k1 t1 u1 kv1 ++ exL k2 t2 u2 kv2).toArray T)).heap[w.heap.size + 1 + 1]? = some N ∧ Below w.heap.size w ((((w.alloc A).alloc B).alloc N).alloc (.cells (exL k1 t1 u1 kv1 ++ exL k2 t2 u2 kv2).toArray T)) ∧ ExAt (fun _ => True) ((((w.alloc A).alloc B).alloc N).alloc (.cells (exL k1 t1 u1 kv1 ++ exL k2 t2 u2 kv2).toArray T)) (twoE k x y) (exV k [] noUseI (.slice (some ⟨w.heap.size + 1 + 1 + 1, 0, none⟩) 2 2)) := by
  have hb := below_al (below_al (below_al (Below.refl w.heap.size w) A) B) N
  have h1 := heap_alloc_new ((w.alloc A).alloc B) N
  rw [World.size_alloc, World.size_alloc] at h1
  refine ⟨row_alloc h1 _, below_al hb _, ?_⟩
  have h2 := exAt_two (A := fun _ => True) (T := T) k (hx.next hb) (hy.next hb) trivial
  rw [World.size_alloc, World.size_alloc, World.size_alloc] at h2
  exact h2
set_option maxRecDepth 100000 in
set_option maxHeartbeats 4000000 in
theorem law27_two (k : Int) (x y : Ex) (v v2 : Value) (w : World) (hx : ExAt (fun _ => True) w x v) (hy : ExAt (fun _ => True) w y v2) :
    Calls Tryz.prog 26 #[.int .i64 k, v, v2] w fun e w' => ∃ v', e = .returned v' ∧ Below w.heap.size w w' ∧ ExAt (fun _ => True) w' (twoE k x y) v' := by
  obtain ⟨k1, t1, u1, a1, n1, c1, rfl⟩ := hx.ten
  obtain ⟨k2, t2, u2, a2, n2, c2, rfl⟩ := hy.ten
  have HX := Lib.hid hx
  have HY := Lib.hid hy
  clear hx hy
  go_enter Tryz.func26, Tryz.ntmps26
  go_wp2_with fail
  have HE := Lib.hid (twoE_end k HX.out HY.out (A := .cells (exL k1 t1 u1 (.slice a1 n1 c1)).toArray 27) (B := .cells (exL k2 t2 u2 (.slice a2 n2 c2)).toArray 27) (N := .cells (exL k [] noUseI (.slice (some ⟨w.heap.size + 1 + 1 + 1, 0, none⟩) 2 2)).toArray 27) (T := 27))
  refine bodyPost_ret (v := exV k [] noUseI (.slice (some ⟨w.heap.size + 1 + 1 + 1, 0, none⟩) 2 2)) ?_ rfl ⟨_, rfl, HE.out.2.1, HE.out.2.2⟩
  exact results_ten (b := w.heap.size + 1 + 1) rfl rfl HE.out.1
set_option maxRecDepth 100000 in
set_option maxHeartbeats 4000000 in
theorem law27_puts (x : Ex) (t : Bs) (v : Value) (w : World) (hG : Good w) (hx : ExAt (fun _ => True) w x v) (hw : weightE x ≤ 5000) (hp : putE x = (t, 0)) :
    Calls Tryz.prog 25 #[v, .string ⟨t.toArray⟩] w (Ret w (.bool true)) := by
  obtain ⟨k, t1, u, a, n, c, rfl⟩ := hx.ten
  have hA : Below w.heap.size w (w.alloc (.cells (exL k t1 u (.slice a n c)).toArray 27)) := (Below.refl _ _).alloc (Nat.le_refl _) _
  have HX := Lib.hid (hx.next hA)
  have HB := Lib.hid hA
  have HG := Lib.hid (hG.next hA)
  have HN := Lib.hid (heap_alloc_new w (.cells (exL k t1 u (.slice a n c)).toArray 27))
  have HP := Lib.hid hp
  clear hx hA hp hG
  go_enter Tryz.func25, Tryz.ntmps25
  go_upto_region 1 with fail
  generalize w.alloc (.cells (exL k t1 u (.slice a n c)).toArray 27) = W0 at *
  obtain ⟨p0, p1, p2, p3, p4, p5, p6, p7, p8, p9⟩ := ten_cells HN.out
  go_wp2_with fail
  refine (test_Put x hw _ W0 HG.out HX.out).mono ?_
  rintro e w1 ⟨rfl, hb1⟩
  rw [HP.out]
  have HB1 := Lib.hid (HB.out.trans (hb1.mono HB.out.size))
  clear hb1 p0 p1 p2 p3 p4 p5 p6 p7 p8 p9
  go_wp2_with fail
  go_ret
  exact ⟨rfl, HB1.out⟩
end Go.Proofs.YtehdeclpighdeaaGreatDoor
namespace Go.Proofs.YtehdeclpighdeaaGreatDoor
open Go.RowKit
set_option linter.unusedVariables false
def n1T : Ex := .mk 11 [49] noUseI []
def badL : List Ex := [noEx, .mk 13 [] noUseI [], .mk 3 [] noUseI [], .mk 10 [39] noUseI [], .mk 11 [] noUseI [], .mk 11 [49, 97] noUseI [], .mk 12 [] noUseI [], .mk 1 [] noUseI [n1T], .mk 11 [49] noUseI [n1T], .mk 11 [49] ⟨0, 0, [120], [], [], false, false⟩ [], .mk 3 [120] noUseI [n1T], .mk 12 [] ⟨0, 0, [72, 84, 84, 80, 95, 72, 79, 83, 84], [107], [], false, false⟩ []]
theorem bad_put : ∀ x, x ∈ badL → putE x = ([], 15) ∧ weightE x ≤ 5000 := by
  intro x hx
  unfold badL at hx
  simp only [List.mem_cons, List.not_mem_nil, or_false] at hx
  rcases hx with rfl | rfl | rfl | rfl | rfl | rfl | rfl | rfl | rfl | rfl | rfl | rfl
  all_goals exact ⟨by kernel_rfl, by decide +kernel⟩
theorem cells_part {W : World} {b : Nat} {cs : Array Value} {T : TypeId} (o : Nat) {l : List Value} (h : W.heap[b]? = some (.cells cs T)) (hl : (cs.toList.drop o).take 10 = l) : CellsAt W b o l := by
  subst hl
  refine cells_block h fun j u hu => ?_
  rw [List.getElem?_take] at hu
  split at hu
  · rw [List.getElem?_drop] at hu; simpa using hu
  · cases hu
theorem up_if {o : Oper} {L : Array Oper} {T : Array Value} {k : Nat} {b : Bool} {A B : Prop} (hg : o.guard = some (k, b)) (hy : yielded L T k = some b) (a : A) : if Region.wanted o (yielded L T) = true then A else B := by
  rw [if_pos (by unfold Region.wanted; rw [hg]; simp [hy])]; exact a
theorem up_yield {ops : Array Oper} {T : Array Value} {j d : Nat} {b : Bool} (hd : (ops[j]?).bind (·.dst) = some d) (hv : T[d]? = some (.bool b)) : yielded ops T j = some b := by
  unfold yielded; rw [hd]; simp [hv]
def upKids (l : List Ex) : UpP := ⟨fun v w => KidsAt (fun _ => True) w l v, fun v w w' hb h => kids_next h hb⟩
theorem kids_one {A : Nat → Prop} {W : World} {x : Ex} {k : Int} {kv : Value} (h : ExAt A W (oneE k x) (exV k [] noUseI kv)) : KidsAt A W [x] kv := by
  obtain ⟨kv', e, hk⟩ := exAt_iff.1 h
  obtain rfl : kv = kv' := by simpa using e
  exact hk
theorem kids_shape {A : Nat → Prop} {W : World} {x : Ex} {kv : Value} (h : KidsAt A W [x] kv) : ∃ a c, kv = .slice a 1 c := by
  rcases h with ⟨h, _⟩ | ⟨b, o, c, h, _⟩
  · cases h
  · exact ⟨_, _, h⟩
theorem allUp_get {w : World} : ∀ {ps : List UpP} {vs : List Value}, AllUp ps vs w → ∀ (i : Nat) {p : UpP}, ps[i]? = some p → ∃ v, vs[i]? = some v ∧ p.p v w
  | [], _, _, i, p, h => by simp at h
  | q :: ps, [], h, _, _, _ => h.elim
  | q :: ps, v :: vs, h, 0, p, hp => ⟨v, rfl, by simp at hp; subst hp; exact h.1⟩
  | q :: ps, v :: vs, h, i + 1, p, hp => allUp_get h.2 i (by simpa using hp)
theorem wp_region_end {P : Program} {L : List Oper} {Q : Exit → Act → World → Prop} {id : Nat} {a : Act} {w : World} (i d : Nat) (v0 : Value) (o : Oper) (Φ : List UpP) (hm : P.follows .mixedOrders = true) (hb : backB 0 L = true) (hd : dstB a.tmps.size L = true) (hU : UpAll P L Φ a w Q L Φ)
    (hi : Φ[i]? = some (UpP.is v0)) (ho : L[i]? = some o) (hod : o.dst = some d) (hE : ∀ (A : Act) (w' : World), Below w.heap.size w w' → A.tmps[d]? = some v0 → A.defers = a.defers → Q .normal A w') : (Code.region id L.toArray true).wp P Q a w := by
  refine wp_region_up Φ hm hb hd hU fun vs w' hB hAll => ?_
  obtain ⟨v, hv, hv2⟩ := allUp_get hAll i hi
  have hv2 : v = v0 := hv2
  subst hv2
  exact hE _ w' hB (putAll_in hd (Nat.le_refl _) ho hod hv) (putAll_defers _ _ _)
theorem results_one {fn : Func} {t : Tmp} {T : Array Value} {v : Value} {P : Program} {w : World} (h : fn.results = #[.tmp t]) (hA : T[t]? = some v) : (results fn T).run P w = .ok v w := by
  rw [results_tmp h, Array.getD_eq_getD_getElem?, hA]; rfl
def upTree (x : Ex) : UpP := ⟨fun v w => ExAt (fun _ => True) w x v, fun v w w' hb h => h.next hb⟩
theorem one_kids {W : World} {b : Nat} {T : TypeId} (h : W.heap[b]? = some (.cells #[.int .i64 11, .string ⟨#[49]⟩, .int .i64 0, .int .i64 0, .string ⟨#[]⟩, .string ⟨#[]⟩, .string ⟨#[]⟩, .bool false, .bool false, .slice none 0 0] T)) : KidsAt (fun _ => True) W [n1T] (.slice (some ⟨b, 0, none⟩) 1 1) :=
  .inr ⟨b, 0, 1, rfl, Nat.le_refl _, trivial, (Array.getElem?_eq_some_iff.1 h).1, rowAt_cons.2 ⟨⟨_, exAt_leaf _ _ 11 [49] noUseI, cells_part 0 h rfl⟩, rowAt_nil⟩⟩
set_option maxRecDepth 100000 in
theorem known_kids {W : World} {r b1 b2 b3 : Nat} {T : TypeId} (h1 : W.heap[b1]? = some (.cells #[.int .i64 11, .string ⟨#[49]⟩, .int .i64 0, .int .i64 0, .string ⟨#[]⟩, .string ⟨#[]⟩, .string ⟨#[]⟩, .bool false, .bool false, .slice none 0 0] T)) (h2 : W.heap[b2]? = some (.cells #[.int .i64 11, .string ⟨#[49]⟩, .int .i64 0, .int .i64 0, .string ⟨#[]⟩, .string ⟨#[]⟩, .string ⟨#[]⟩, .bool false, .bool false, .slice none 0 0] T)) (h3 : W.heap[b3]? = some (.cells #[.int .i64 11, .string ⟨#[49]⟩, .int .i64 0, .int .i64 0, .string ⟨#[]⟩, .string ⟨#[]⟩, .string ⟨#[]⟩, .bool false, .bool false, .slice none 0 0] T)) (h4 : W.heap[r]? = some (.cells #[.int .i64 0, .string ⟨#[]⟩, .int .i64 0, .int .i64 0, .string ⟨#[]⟩, .string ⟨#[]⟩, .string ⟨#[]⟩, .bool false, .bool false, .slice none 0 0, .int .i64 13, .string ⟨#[]⟩, .int .i64 0, .int .i64 0, .string ⟨#[]⟩, .string ⟨#[]⟩, .string ⟨#[]⟩, .bool false, .bool false, .slice none 0 0, .int .i64 3, .string ⟨#[]⟩, .int .i64 0, .int .i64 0, .string ⟨#[]⟩, .string ⟨#[]⟩, .string ⟨#[]⟩, .bool false, .bool false, .slice none 0 0, .int .i64 10, .string ⟨#[39]⟩, .int .i64 0, .int .i64 0, .string ⟨#[]⟩, .string ⟨#[]⟩, .string ⟨#[]⟩, .bool false, .bool false, .slice none 0 0, .int .i64 11, .string ⟨#[]⟩, .int .i64 0, .int .i64 0, .string ⟨#[]⟩, .string ⟨#[]⟩, .string ⟨#[]⟩, .bool false, .bool false, .slice none 0 0, .int .i64 11, .string ⟨#[49, 97]⟩, .int .i64 0, .int .i64 0, .string ⟨#[]⟩, .string ⟨#[]⟩, .string ⟨#[]⟩, .bool false, .bool false, .slice none 0 0, .int .i64 12, .string ⟨#[]⟩, .int .i64 0, .int .i64 0, .string ⟨#[]⟩, .string ⟨#[]⟩, .string ⟨#[]⟩, .bool false, .bool false, .slice none 0 0, .int .i64 1, .string ⟨#[]⟩, .int .i64 0, .int .i64 0, .string ⟨#[]⟩, .string ⟨#[]⟩, .string ⟨#[]⟩, .bool false, .bool false, .slice (some ⟨b1, 0, none⟩) 1 1, .int .i64 11, .string ⟨#[49]⟩, .int .i64 0, .int .i64 0, .string ⟨#[]⟩, .string ⟨#[]⟩, .string ⟨#[]⟩, .bool false, .bool false, .slice (some ⟨b2, 0, none⟩) 1 1, .int .i64 11, .string ⟨#[49]⟩, .int .i64 0, .int .i64 0, .string ⟨#[120]⟩, .string ⟨#[]⟩, .string ⟨#[]⟩, .bool false, .bool false, .slice none 0 0, .int .i64 3, .string ⟨#[120]⟩, .int .i64 0, .int .i64 0, .string ⟨#[]⟩, .string ⟨#[]⟩, .string ⟨#[]⟩, .bool false, .bool false, .slice (some ⟨b3, 0, none⟩) 1 1, .int .i64 12, .string ⟨#[]⟩, .int .i64 0, .int .i64 0, .string ⟨#[72, 84, 84, 80, 95, 72, 79, 83, 84]⟩, .string ⟨#[107]⟩, .string ⟨#[]⟩, .bool false, .bool false, .slice none 0 0] T)) : r < W.heap.size ∧ RowAt (fun _ => True) W badL r 0 := by
  refine ⟨(Array.getElem?_eq_some_iff.1 h4).1, ?_⟩
  unfold badL
  have hc := fun (o : Nat) (l : List Value) hl => cells_part (l := l) o h4 hl
  refine rowAt_cons.2 ⟨⟨_, exAt_leaf _ _ 0 [] noUseI, hc 0 _ (by rfl)⟩, ?_⟩
  refine rowAt_cons.2 ⟨⟨_, exAt_leaf _ _ 13 [] noUseI, hc 10 _ (by rfl)⟩, ?_⟩
  refine rowAt_cons.2 ⟨⟨_, exAt_leaf _ _ 3 [] noUseI, hc 20 _ (by rfl)⟩, ?_⟩
  refine rowAt_cons.2 ⟨⟨_, exAt_leaf _ _ 10 [39] noUseI, hc 30 _ (by rfl)⟩, ?_⟩
  refine rowAt_cons.2 ⟨⟨_, exAt_leaf _ _ 11 [] noUseI, hc 40 _ (by rfl)⟩, ?_⟩
  refine rowAt_cons.2 ⟨⟨_, exAt_leaf _ _ 11 [49, 97] noUseI, hc 50 _ (by rfl)⟩, ?_⟩
  refine rowAt_cons.2 ⟨⟨_, exAt_leaf _ _ 12 [] noUseI, hc 60 _ (by rfl)⟩, ?_⟩
  refine rowAt_cons.2 ⟨⟨_, exAt_iff.2 ⟨_, rfl, one_kids h1⟩, hc 70 _ (by rfl)⟩, ?_⟩
  refine rowAt_cons.2 ⟨⟨_, exAt_iff.2 ⟨_, rfl, one_kids h2⟩, hc 80 _ (by rfl)⟩, ?_⟩
  refine rowAt_cons.2 ⟨⟨_, exAt_leaf _ _ 11 [49] ⟨0, 0, [120], [], [], false, false⟩, hc 90 _ (by rfl)⟩, ?_⟩
  refine rowAt_cons.2 ⟨⟨_, exAt_iff.2 ⟨_, rfl, one_kids h3⟩, hc 100 _ (by rfl)⟩, ?_⟩
  refine rowAt_cons.2 ⟨⟨_, exAt_leaf _ _ 12 [] ⟨0, 0, [72, 84, 84, 80, 95, 72, 79, 83, 84], [107], [], false, false⟩, hc 110 _ (by rfl)⟩, ?_⟩
  exact rowAt_nil
theorem known_row (w : World) (O R : Obj) (hO : Obj.cells #[.int .i64 11, .string ⟨#[49]⟩, .int .i64 0, .int .i64 0, .string ⟨#[]⟩, .string ⟨#[]⟩, .string ⟨#[]⟩, .bool false, .bool false, .slice none 0 0] 27 = O) (hR : Obj.cells #[.int .i64 0, .string ⟨#[]⟩, .int .i64 0, .int .i64 0, .string ⟨#[]⟩, .string ⟨#[]⟩, .string ⟨#[]⟩, .bool false, .bool false, .slice none 0 0, .int .i64 13, .string ⟨#[]⟩, .int .i64 0, .int .i64 0, .string ⟨#[]⟩, .string ⟨#[]⟩, .string ⟨#[]⟩, .bool false, .bool false, .slice none 0 0, .int .i64 3, .string ⟨#[]⟩, .int .i64 0, .int .i64 0, .string ⟨#[]⟩, .string ⟨#[]⟩, .string ⟨#[]⟩, .bool false, .bool false, .slice none 0 0, .int .i64 10, .string ⟨#[39]⟩, .int .i64 0, .int .i64 0, .string ⟨#[]⟩, .string ⟨#[]⟩, .string ⟨#[]⟩, .bool false, .bool false, .slice none 0 0, .int .i64 11, .string ⟨#[]⟩, .int .i64 0, .int .i64 0, .string ⟨#[]⟩, .string ⟨#[]⟩, .string ⟨#[]⟩, .bool false, .bool false, .slice none 0 0, .int .i64 11, .string ⟨#[49, 97]⟩, .int .i64 0, .int .i64 0, .string ⟨#[]⟩, .string ⟨#[]⟩, .string ⟨#[]⟩, .bool false, .bool false, .slice none 0 0, .int .i64 12, .string ⟨#[]⟩, .int .i64 0, .int .i64 0, .string ⟨#[]⟩, .string ⟨#[]⟩, .string ⟨#[]⟩, .bool false, .bool false, .slice none 0 0, .int .i64 1, .string ⟨#[]⟩, .int .i64 0, .int .i64 0, .string ⟨#[]⟩, .string ⟨#[]⟩, .string ⟨#[]⟩, .bool false, .bool false, .slice (some ⟨w.heap.size + 1, 0, none⟩) 1 1, .int .i64 11, .string ⟨#[49]⟩, .int .i64 0, .int .i64 0, .string ⟨#[]⟩, .string ⟨#[]⟩, .string ⟨#[]⟩, .bool false, .bool false, .slice (some ⟨w.heap.size + 1 + 1, 0, none⟩) 1 1, .int .i64 11, .string ⟨#[49]⟩, .int .i64 0, .int .i64 0, .string ⟨#[120]⟩, .string ⟨#[]⟩, .string ⟨#[]⟩, .bool false, .bool false, .slice none 0 0, .int .i64 3, .string ⟨#[120]⟩, .int .i64 0, .int .i64 0, .string ⟨#[]⟩, .string ⟨#[]⟩, .string ⟨#[]⟩, .bool false, .bool false, .slice (some ⟨w.heap.size + 1 + 1 + 1, 0, none⟩) 1 1, .int .i64 12, .string ⟨#[]⟩, .int .i64 0, .int .i64 0, .string ⟨#[72, 84, 84, 80, 95, 72, 79, 83, 84]⟩, .string ⟨#[107]⟩, .string ⟨#[]⟩, .bool false, .bool false, .slice none 0 0] 27 = R) : Below w.heap.size w (((((w.alloc O).alloc O).alloc O).alloc O).alloc R) ∧ (((((w.alloc O).alloc O).alloc O).alloc O).alloc R).heap[w.heap.size]? = some O ∧ w.heap.size + 1 + 1 + 1 + 1 < (((((w.alloc O).alloc O).alloc O).alloc O).alloc R).heap.size ∧ RowAt (fun _ => True) (((((w.alloc O).alloc O).alloc O).alloc O).alloc R) badL (w.heap.size + 1 + 1 + 1 + 1) 0 := by
  have h0 := heap_alloc_new w O
  have h1 := heap_alloc_new (w.alloc O) O
  have h2 := heap_alloc_new ((w.alloc O).alloc O) O
  have h3 := heap_alloc_new (((w.alloc O).alloc O).alloc O) O
  have h4 := heap_alloc_new ((((w.alloc O).alloc O).alloc O).alloc O) R
  simp only [World.size_alloc] at h1 h2 h3 h4
  have g0 := row_alloc (row_alloc (row_alloc (row_alloc h0 O) O) O) R
  have g1 := row_alloc (row_alloc (row_alloc h1 O) O) R
  have g2 := row_alloc (row_alloc h2 O) R
  have g3 := row_alloc h3 R
  refine ⟨below_al (below_al (below_al (below_al (below_al (Below.refl w.heap.size w) O) O) O) O) R, g0, ?_⟩
  subst hO hR
  exact known_kids g1 g2 g3 h4
theorem bkK {w W : World} {b : Nat} {O : Obj} (h : Hid (w.heap[b]? = some O)) (hB : Below w.heap.size w W) : W.heap[b]? = some O := (hB.block _ (Array.getElem?_eq_some_iff.1 h.out).1).trans h.out
abbrev uTK : UpP := UpP.is (.bool true)
theorem gtK {w W : World} (h : Hid (Good w)) (hb : Below w.heap.size w W) : Hid (Good W) := Lib.hid (h.out.next hb)
theorem btK {w a b : World} (h : Hid (Below w.heap.size w a)) (hb : Below a.heap.size a b) : Hid (Below w.heap.size w b) := Lib.hid (h.out.trans (hb.mono h.out.size))
theorem kfK (s : Bs) (n : Nat) (w : World) (hG : Hid (Good w)) (h1 : testB s = (noEx, n, 15) := by kernel_rfl) (hs : s.length ≤ 100000 := by decide) : Calls Tryz.prog 22 #[.string ⟨s.toArray⟩, .int .i64 (n : Int), .int .i64 15] w (Ret w (.bool true)) := law27_fails s n 15 w hG.out hs h1
theorem kiK (s t : Bs) (w : World) (hG : Hid (Good w)) (h1 : (testB s).2.1 = 0 := by kernel_rfl) (h2 : (testB s).2.2 = 0 := by kernel_rfl) (h3 : shapeE (testB s).1 = t := by kernel_rfl) (h4 : kindsE (testB s).1 = true := by kernel_rfl) (h5 : s.length ≤ 100000 := by decide) (h6 : t.length ≤ 100000 := by decide) : Calls Tryz.prog 23 #[.string ⟨s.toArray⟩, .string ⟨t.toArray⟩] w (Ret w (.bool true)) := law27_is s t w hG.out h5 h1 h2 h3 h4 h6
set_option maxRecDepth 100000 in
set_option maxHeartbeats 16000000 in
theorem law27_known (w : World) (hG : Good w) : Calls Tryz.prog 8 #[] w (Ret w (.bool true)) := by
  have HG0 := Lib.hid (hG)
  have HB0 := Lib.hid (Below.refl w.heap.size w)
  clear hG
  go_enter Tryz.func8, Tryz.ntmps8
  go_wp2_with fail
  refine (kfK [97] 0 w HG0).mono ?_
  rintro e x1 ⟨rfl, hb⟩
  have HG1 := gtK HG0 hb
  have HB1 := btK HB0 hb
  clear hb
  go_wp2_with fail
  refine (kfK [] 0 x1 HG1).mono ?_
  rintro e x2 ⟨rfl, hb⟩
  have HG2 := gtK HG1 hb
  have HB2 := btK HB1 hb
  clear hb
  go_wp2_with fail
  refine (kfK [40, 49] 2 x2 HG2).mono ?_
  rintro e x3 ⟨rfl, hb⟩
  have HG3 := gtK HG2 hb
  have HB3 := btK HB2 hb
  clear hb
  go_wp2_with fail
  refine (kfK [49, 32, 50] 2 x3 HG3).mono ?_
  rintro e x4 ⟨rfl, hb⟩
  have HG4 := gtK HG3 hb
  have HB4 := btK HB3 hb
  clear hb
  go_wp2_with fail
  refine (kfK [49, 61, 61, 50, 61, 61, 51] 4 x4 HG4).mono ?_
  rintro e x5 ⟨rfl, hb⟩
  have HG5 := gtK HG4 hb
  have HB5 := btK HB4 hb
  clear hb
  go_wp2_with fail
  refine (kfK [39, 97] 2 x5 HG5).mono ?_
  rintro e x6 ⟨rfl, hb⟩
  have HG6 := gtK HG5 hb
  have HB6 := btK HB5 hb
  clear hb
  go_wp2_with fail
  refine (kfK [36, 40, 88, 41] 0 x6 HG6).mono ?_
  rintro e x7 ⟨rfl, hb⟩
  have HG7 := gtK HG6 hb
  have HB7 := btK HB6 hb
  clear hb
  go_wp2_with fail
  refine (kfK [49, 32, 60, 62, 32, 50] 3 x7 HG7).mono ?_
  rintro e x8 ⟨rfl, hb⟩
  have HG8 := gtK HG7 hb
  have HB8 := btK HB7 hb
  clear hb
  go_wp2_with fail
  refine (kfK [49, 50, 51, 52, 53, 54, 55, 56, 57, 48, 49, 50, 51, 52, 53, 54, 55, 56, 57] 18 x8 HG8).mono ?_
  rintro e x9 ⟨rfl, hb⟩
  have HG9 := gtK HG8 hb
  have HB9 := btK HB8 hb
  clear hb
  go_wp2_with fail
  refine (kiK [49, 124, 50, 124, 51] [65, 40, 65, 40, 49, 44, 50, 41, 44, 51, 41] x9 HG9).mono ?_
  rintro e x10 ⟨rfl, hb⟩
  have HG10 := gtK HG9 hb
  have HB10 := btK HB9 hb
  clear hb
  go_wp2_with fail
  refine (kiK [49, 38, 40, 50, 38, 51, 41] [66, 40, 49, 44, 66, 40, 50, 44, 51, 41, 41] x10 HG10).mono ?_
  rintro e x11 ⟨rfl, hb⟩
  have HG11 := gtK HG10 hb
  have HB11 := btK HB10 hb
  clear hb
  go_wp2_with fail
  refine (kiK [33, 33, 49] [67, 40, 67, 40, 49, 41, 41] x11 HG11).mono ?_
  rintro e x12 ⟨rfl, hb⟩
  have HG12 := gtK HG11 hb
  have HB12 := btK HB11 hb
  clear hb
  go_wp2_with fail
  refine (kiK [49, 124, 50, 38, 51, 124, 52] [65, 40, 65, 40, 49, 44, 66, 40, 50, 44, 51, 41, 41, 44, 52, 41] x12 HG12).mono ?_
  rintro e x13 ⟨rfl, hb⟩
  have HG13 := gtK HG12 hb
  have HB13 := btK HB12 hb
  clear hb
  go_wp2_with fail
  refine (kiK [49, 60, 61, 50] [71, 40, 49, 44, 50, 41] x13 HG13).mono ?_
  rintro e x14 ⟨rfl, hb⟩
  have HG14 := gtK HG13 hb
  have HB14 := btK HB13 hb
  clear hb
  go_wp2_with fail
  refine (kiK [49, 60, 50] [70, 40, 49, 44, 50, 41] x14 HG14).mono ?_
  rintro e x15 ⟨rfl, hb⟩
  have HG15 := gtK HG14 hb
  have HB15 := btK HB14 hb
  clear hb
  go_wp2_with fail
  refine (kiK [49, 62, 61, 40, 50, 124, 51, 41] [73, 40, 49, 44, 65, 40, 50, 44, 51, 41, 41] x15 HG15).mono ?_
  rintro e x16 ⟨rfl, hb⟩
  have HG16 := gtK HG15 hb
  have HB16 := btK HB15 hb
  clear hb
  go_wp2_with fail
  refine (kiK [9, 40, 32, 49, 32, 41, 10] [49] x16 HG16).mono ?_
  rintro e x17 ⟨rfl, hb⟩
  have HG17 := gtK HG16 hb
  have HB17 := btK HB16 hb
  clear hb
  go_wp2_with fail
  refine (kiK [39, 39, 32, 33, 61, 32, 36, 40, 72, 84, 84, 80, 95, 67, 79, 79, 75, 73, 69, 123, 97, 125, 124, 39, 40, 39, 41] [69, 40, 44, 72, 84, 84, 80, 95, 67, 79, 79, 75, 73, 69, 41] x17 HG17).mono ?_
  rintro e x18 ⟨rfl, hb⟩
  have HG18 := gtK HG17 hb
  have HB18 := btK HB17 hb
  clear hb
  go_wp2_with fail
  refine (kiK [49, 50, 51, 52, 53, 54, 55, 56, 57, 48, 49, 50, 51, 52, 53, 54, 55, 56] [49, 50, 51, 52, 53, 54, 55, 56, 57, 48, 49, 50, 51, 52, 53, 54, 55, 56] x18 HG18).mono ?_
  rintro e x19 ⟨rfl, hb⟩
  have HG19 := gtK HG18 hb
  have HB19 := btK HB18 hb
  clear hb
  go_wp2_with fail
  refine (kfK [49, 33, 50] 1 x19 HG19).mono ?_
  rintro e x20 ⟨rfl, hb⟩
  have HG20 := gtK HG19 hb
  have HB20 := btK HB19 hb
  clear hb
  go_wp2_with fail
  refine (kfK [33, 61, 49] 1 x20 HG20).mono ?_
  rintro e x21 ⟨rfl, hb⟩
  have HG21 := gtK HG20 hb
  have HB21 := btK HB20 hb
  clear hb
  go_wp2_with fail
  refine (kfK [49, 61, 50] 1 x21 HG21).mono ?_
  rintro e x22 ⟨rfl, hb⟩
  have HG22 := gtK HG21 hb
  have HB22 := btK HB21 hb
  clear hb
  go_wp2_with fail
  refine (kfK [40, 41] 1 x22 HG22).mono ?_
  rintro e x23 ⟨rfl, hb⟩
  have HG23 := gtK HG22 hb
  have HB23 := btK HB22 hb
  clear hb
  go_wp2_with fail
  refine (kfK [49, 41] 1 x23 HG23).mono ?_
  rintro e x24 ⟨rfl, hb⟩
  have HG24 := gtK HG23 hb
  have HB24 := btK HB23 hb
  clear hb
  go_wp2_with fail
  refine (kfK [49, 32, 38, 32] 4 x24 HG24).mono ?_
  rintro e x25 ⟨rfl, hb⟩
  have HG25 := gtK HG24 hb
  have HB25 := btK HB24 hb
  clear hb
  go_wp2_with fail
  refine (kfK [49, 32, 39, 97] 2 x25 HG25).mono ?_
  rintro e x26 ⟨rfl, hb⟩
  have HG26 := gtK HG25 hb
  have HB26 := btK HB25 hb
  clear hb
  go_wp2_with fail
  refine (kfK [49, 38, 38, 50] 2 x26 HG26).mono ?_
  rintro e x27 ⟨rfl, hb⟩
  have HG27 := gtK HG26 hb
  have HB27 := btK HB26 hb
  clear hb
  go_wp2_with fail
  refine (lib_Rep16 40 x27).mono ?_
  rintro e x28 ⟨rfl, hb⟩
  have HG28 := gtK HG27 hb
  have HB28 := btK HB27 hb
  clear hb
  go_wp2_with fail
  refine (lib_Rep16 41 x28).mono ?_
  rintro e x29 ⟨rfl, hb⟩
  have HG29 := gtK HG28 hb
  have HB29 := btK HB28 hb
  clear hb
  go_upto_region 8 with fail
  rw [show (((⟨#[40, 40, 40, 40, 40, 40, 40, 40, 40, 40, 40, 40, 40, 40, 40, 40]⟩ : ByteArray) ++ ⟨#[49]⟩) ++ ⟨#[41, 41, 41, 41, 41, 41, 41, 41, 41, 41, 41, 41, 41, 41, 41, 41]⟩ : ByteArray) = ⟨#[40, 40, 40, 40, 40, 40, 40, 40, 40, 40, 40, 40, 40, 40, 40, 40, 49, 41, 41, 41, 41, 41, 41, 41, 41, 41, 41, 41, 41, 41, 41, 41, 41]⟩ by kernel_rfl]
  go_wp2_with fail
  refine (law27_number [49] x29).mono ?_
  rintro e x30 ⟨rfl, hb⟩
  have HG30 := gtK HG29 hb
  have HB30 := btK HB29 hb
  clear hb
  go_upto_region 10 with fail
  have HKR := Lib.hid (known_row x30 _ _ rfl rfl)
  have hA := HKR.out.1
  have HG31 := gtK HG30 hA
  have HB31 := btK HB30 hA
  clear hA
  have HN31 := Lib.hid (HKR.out.2.1)
  have HLT := Lib.hid HKR.out.2.2.1
  have HROW := Lib.hid HKR.out.2.2.2
  clear HKR
  generalize ((((x30.alloc (.cells #[.int .i64 11, .string ⟨#[49]⟩, .int .i64 0, .int .i64 0, .string ⟨#[]⟩, .string ⟨#[]⟩, .string ⟨#[]⟩, .bool false, .bool false, .slice none 0 0] 27)).alloc (.cells #[.int .i64 11, .string ⟨#[49]⟩, .int .i64 0, .int .i64 0, .string ⟨#[]⟩, .string ⟨#[]⟩, .string ⟨#[]⟩, .bool false, .bool false, .slice none 0 0] 27)).alloc (.cells #[.int .i64 11, .string ⟨#[49]⟩, .int .i64 0, .int .i64 0, .string ⟨#[]⟩, .string ⟨#[]⟩, .string ⟨#[]⟩, .bool false, .bool false, .slice none 0 0] 27)).alloc (.cells #[.int .i64 11, .string ⟨#[49]⟩, .int .i64 0, .int .i64 0, .string ⟨#[]⟩, .string ⟨#[]⟩, .string ⟨#[]⟩, .bool false, .bool false, .slice none 0 0] 27)).alloc (.cells #[.int .i64 0, .string ⟨#[]⟩, .int .i64 0, .int .i64 0, .string ⟨#[]⟩, .string ⟨#[]⟩, .string ⟨#[]⟩, .bool false, .bool false, .slice none 0 0, .int .i64 13, .string ⟨#[]⟩, .int .i64 0, .int .i64 0, .string ⟨#[]⟩, .string ⟨#[]⟩, .string ⟨#[]⟩, .bool false, .bool false, .slice none 0 0, .int .i64 3, .string ⟨#[]⟩, .int .i64 0, .int .i64 0, .string ⟨#[]⟩, .string ⟨#[]⟩, .string ⟨#[]⟩, .bool false, .bool false, .slice none 0 0, .int .i64 10, .string ⟨#[39]⟩, .int .i64 0, .int .i64 0, .string ⟨#[]⟩, .string ⟨#[]⟩, .string ⟨#[]⟩, .bool false, .bool false, .slice none 0 0, .int .i64 11, .string ⟨#[]⟩, .int .i64 0, .int .i64 0, .string ⟨#[]⟩, .string ⟨#[]⟩, .string ⟨#[]⟩, .bool false, .bool false, .slice none 0 0, .int .i64 11, .string ⟨#[49, 97]⟩, .int .i64 0, .int .i64 0, .string ⟨#[]⟩, .string ⟨#[]⟩, .string ⟨#[]⟩, .bool false, .bool false, .slice none 0 0, .int .i64 12, .string ⟨#[]⟩, .int .i64 0, .int .i64 0, .string ⟨#[]⟩, .string ⟨#[]⟩, .string ⟨#[]⟩, .bool false, .bool false, .slice none 0 0, .int .i64 1, .string ⟨#[]⟩, .int .i64 0, .int .i64 0, .string ⟨#[]⟩, .string ⟨#[]⟩, .string ⟨#[]⟩, .bool false, .bool false, .slice (some ⟨x30.heap.size + 1, 0, none⟩) 1 1, .int .i64 11, .string ⟨#[49]⟩, .int .i64 0, .int .i64 0, .string ⟨#[]⟩, .string ⟨#[]⟩, .string ⟨#[]⟩, .bool false, .bool false, .slice (some ⟨x30.heap.size + 1 + 1, 0, none⟩) 1 1, .int .i64 11, .string ⟨#[49]⟩, .int .i64 0, .int .i64 0, .string ⟨#[120]⟩, .string ⟨#[]⟩, .string ⟨#[]⟩, .bool false, .bool false, .slice none 0 0, .int .i64 3, .string ⟨#[120]⟩, .int .i64 0, .int .i64 0, .string ⟨#[]⟩, .string ⟨#[]⟩, .string ⟨#[]⟩, .bool false, .bool false, .slice (some ⟨x30.heap.size + 1 + 1 + 1, 0, none⟩) 1 1, .int .i64 12, .string ⟨#[]⟩, .int .i64 0, .int .i64 0, .string ⟨#[72, 84, 84, 80, 95, 72, 79, 83, 84]⟩, .string ⟨#[107]⟩, .string ⟨#[]⟩, .bool false, .bool false, .slice none 0 0] 27) = W9 at *
  generalize x30.heap.size + 1 + 1 + 1 + 1 = rb at *
  generalize x30.heap.size = ob at *
  go_upto_region 11 with fail
  go_loopw [4] (fun iv wr => ∃ i : Nat, i ≤ 12 ∧ iv = .int .i64 i ∧ Hid (Below W9.heap.size W9 wr)) (fun iv _ => 12 - (intOf iv).toNat)
  case atStart => exact ⟨0, by omega, rfl, Lib.hid (Below.refl _ _)⟩
  case round =>
    obtain ⟨i, hi, rfl, HW⟩ := hrel
    have HGR := Lib.hid (HG31.out.next HW.out)
    by_cases hlt : i < 12
    · obtain ⟨x, hx⟩ : ∃ x, badL[i]? = some x := ⟨_, List.getElem?_eq_getElem (show i < badL.length from hlt)⟩
      have HP := Lib.hid (bad_put x (List.mem_of_getElem? hx))
      obtain ⟨k1, t1, u1, a1, n1, c1, hk1⟩ := kid_get HROW.out hx HW.out HLT.out
      have HXX := Lib.hid (hk1.ex ⟨wr, Below.refl _ _⟩)
      obtain ⟨-, y0, y1, y2, y3, y4, y5, y6, y7, y8, y9⟩ := hk1
      have z0 := y0 ⟨wr, Below.refl _ _⟩
      have z1 := y1 ⟨wr, Below.refl _ _⟩
      have z2 := y2 ⟨wr, Below.refl _ _⟩
      have z3 := y3 ⟨wr, Below.refl _ _⟩
      have z4 := y4 ⟨wr, Below.refl _ _⟩
      have z5 := y5 ⟨wr, Below.refl _ _⟩
      have z6 := y6 ⟨wr, Below.refl _ _⟩
      have z7 := y7 ⟨wr, Below.refl _ _⟩
      have z8 := y8 ⟨wr, Below.refl _ _⟩
      have z9 := y9 ⟨wr, Below.refl _ _⟩
      dsimp only at z0 z1 z2 z3 z4 z5 z6 z7 z8 z9
      simp only [Nat.zero_add] at z0 z1 z2 z3 z4 z5 z6 z7 z8 z9
      clear hx y0 y1 y2 y3 y4 y5 y6 y7 y8 y9
      have i1 : (i : Int) < 12 := by omega
      have i0 : (0 : Int) ≤ (i : Int) := by omega
      go_wp2_with fail
      refine (test_Put x HP.out.2 _ wr HGR.out HXX.out).mono ?_
      rintro e w3 ⟨rfl, hb3⟩
      rw [HP.out.1]
      have HW3 := Lib.hid (HW.out.trans (hb3.mono HW.out.size))
      clear hb3 z0 z1 z2 z3 z4 z5 z6 z7 z8 z9
      go_wp2_with fail
      go_roundw
      case rel => exact ⟨i + 1, by omega, by go_num, HW3⟩
      case measure => (simp [intOf] <;> omega)
    obtain rfl : i = 12 := by omega
    have i1 : ¬ (((12 : Nat) : Int) < 12) := by omega
    have HNR := Lib.hid ((HW.out.block _ (Array.getElem?_eq_some_iff.1 HN31.out).1).trans HN31.out)
    have HBR := Lib.hid (HB31.out.trans (HW.out.mono HB31.out.size))
    clear hlt hi
    go_upto_region 16 with fail
    clear i1
    refine wp_region_end 45 0 (.bool true) _ [UpP.is (.string ⟨#[40, 40, 40, 40, 40, 40, 40, 40, 40, 40, 40, 40, 40, 40, 40, 40, 49, 41, 41, 41, 41, 41, 41, 41, 41, 41, 41, 41, 41, 41, 41, 41, 41]⟩), uTK, uTK, UpP.is (.string ⟨#[40, 40, 40, 40, 40, 40, 40, 40, 40, 40, 40, 40, 40, 40, 40, 40, 49, 41, 41, 41, 41, 41, 41, 41, 41, 41, 41, 41, 41, 41, 41, 41, 41]⟩), UpP.is (.string ⟨#[40, 40, 40, 40, 40, 40, 40, 40, 40, 40, 40, 40, 40, 40, 40, 40, 40, 49, 41, 41, 41, 41, 41, 41, 41, 41, 41, 41, 41, 41, 41, 41, 41, 41]⟩), UpP.is (.string ⟨#[40, 40, 40, 40, 40, 40, 40, 40, 40, 40, 40, 40, 40, 40, 40, 40, 40, 49, 41, 41, 41, 41, 41, 41, 41, 41, 41, 41, 41, 41, 41, 41, 41, 41, 41]⟩), uTK, uTK, uTK, UpP.is (.string ⟨#[40, 40, 40, 40, 40, 40, 40, 40, 40, 40, 40, 40, 40, 40, 40, 40, 49, 41, 41, 41, 41, 41, 41, 41, 41, 41, 41, 41, 41, 41, 41, 41, 41]⟩), UpP.is (.string ⟨#[33, 40, 40, 40, 40, 40, 40, 40, 40, 40, 40, 40, 40, 40, 40, 40, 40, 49, 41, 41, 41, 41, 41, 41, 41, 41, 41, 41, 41, 41, 41, 41, 41, 41]⟩), uTK, uTK, uTK, UpP.is (.agg #[.int .i64 11, .string ⟨#[49]⟩, .int .i64 0, .int .i64 0, .string ⟨#[]⟩, .string ⟨#[]⟩, .string ⟨#[]⟩, .bool false, .bool false, .slice none 0 0]), UpP.is (.agg #[.int .i64 11, .string ⟨#[50]⟩, .int .i64 0, .int .i64 0, .string ⟨#[]⟩, .string ⟨#[]⟩, .string ⟨#[]⟩, .bool false, .bool false, .slice none 0 0]), upTree (twoE 1 n1T (.mk 11 [50] noUseI [])), UpP.is (.agg #[.int .i64 11, .string ⟨#[51]⟩, .int .i64 0, .int .i64 0, .string ⟨#[]⟩, .string ⟨#[]⟩, .string ⟨#[]⟩, .bool false, .bool false, .slice none 0 0]), upTree (twoE 6 (twoE 1 n1T (.mk 11 [50] noUseI [])) (.mk 11 [51] noUseI [])), uTK, uTK, uTK, UpP.is (.agg #[.int .i64 11, .string ⟨#[49]⟩, .int .i64 0, .int .i64 0, .string ⟨#[]⟩, .string ⟨#[]⟩, .string ⟨#[]⟩, .bool false, .bool false, .slice none 0 0]), UpP.is (.agg #[.int .i64 11, .string ⟨#[49]⟩, .int .i64 0, .int .i64 0, .string ⟨#[]⟩, .string ⟨#[]⟩, .string ⟨#[]⟩, .bool false, .bool false, .slice none 0 0]), UpP.is (.agg #[.int .i64 11, .string ⟨#[49]⟩, .int .i64 0, .int .i64 0, .string ⟨#[]⟩, .string ⟨#[]⟩, .string ⟨#[]⟩, .bool false, .bool false, .slice none 0 0]), upTree (twoE 2 n1T n1T), upTree (twoE 2 n1T (twoE 2 n1T n1T)), uTK, uTK, uTK, UpP.is (.agg #[.int .i64 11, .string ⟨#[49]⟩, .int .i64 0, .int .i64 0, .string ⟨#[]⟩, .string ⟨#[]⟩, .string ⟨#[]⟩, .bool false, .bool false, .slice none 0 0]), UpP.is (.agg #[.int .i64 11, .string ⟨#[49]⟩, .int .i64 0, .int .i64 0, .string ⟨#[]⟩, .string ⟨#[]⟩, .string ⟨#[]⟩, .bool false, .bool false, .slice none 0 0]), upTree (twoE 4 n1T n1T), upKids [(twoE 4 n1T n1T)], upTree (oneE 3 (twoE 4 n1T n1T)), uTK, uTK, uTK, UpP.is (.agg #[.int .i64 7, .int .i64 0, .string ⟨#[72, 84, 84, 80, 95, 67, 79, 79, 75, 73, 69]⟩, .string ⟨#[97]⟩, .string ⟨#[]⟩, .bool true, .bool true]), UpP.is (exV 12 [] ⟨7, 0, [72, 84, 84, 80, 95, 67, 79, 79, 75, 73, 69], [97], [], true, true⟩ (.slice none 0 0)), uTK, uTK, uTK, uTK, uTK, uTK] (by kernel_rfl) (by rfl) (by rfl) ⟨?o0, ?o1, ?o2, ?o3, ?o4, ?o5, ?o6, ?o7, ?o8, ?o9, ?o10, ?o11, ?o12, ?o13, ?o14, ?o15, ?o16, ?o17, ?o18, ?o19, ?o20, ?o21, ?o22, ?o23, ?o24, ?o25, ?o26, ?o27, ?o28, ?o29, ?o30, ?o31, ?o32, ?o33, ?o34, ?o35, ?o36, ?o37, ?o38, ?o39, ?o40, ?o41, ?o42, ?o43, ?o44, ?o45, trivial⟩ rfl rfl rfl ?_
    case o0 =>
      intro a' w' hB hL hA
      refine up_yes rfl ?_
      have s1 := like_at hL 1 (by rfl) rfl
      go_simp
      exact ⟨_, rfl, Below.refl _ _, rfl⟩
    case o1 =>
      intro a' w' hB hL hA
      refine up_yes rfl ?_
      obtain ⟨v0, e0, rfl⟩ := up_pre hA 0 (by rfl)
      have e0 : a'.tmps[155]? = some _ := e0
      go_simp
      refine (law27_is [40, 40, 40, 40, 40, 40, 40, 40, 40, 40, 40, 40, 40, 40, 40, 40, 49, 41, 41, 41, 41, 41, 41, 41, 41, 41, 41, 41, 41, 41, 41, 41, 41] [49] w' (HGR.out.next hB) (by decide) (by kernel_rfl) (by kernel_rfl) (by kernel_rfl) (by kernel_rfl) (by decide)).mono ?_
      rintro e w6 ⟨rfl, h6⟩
      exact ⟨_, rfl, h6, rfl⟩
    case o2 =>
      intro a' w' hB hL hA
      refine up_yes rfl ?_
      obtain ⟨v1, e1, rfl⟩ := up_pre hA 1 (by rfl)
      have e1 : a'.tmps[156]? = some _ := e1
      go_simp
      exact ⟨_, rfl, Below.refl _ _, rfl⟩
    case o3 =>
      intro a' w' hB hL hA
      obtain ⟨g0, ge, rfl⟩ := up_pre hA 2 (by rfl)
      have ge : a'.tmps[157]? = some _ := ge
      refine up_if rfl (up_yield rfl ge) ?_
      have s1 := like_at hL 1 (by rfl) rfl
      go_simp
      exact ⟨_, rfl, Below.refl _ _, rfl⟩
    case o4 =>
      intro a' w' hB hL hA
      obtain ⟨g0, ge, rfl⟩ := up_pre hA 2 (by rfl)
      have ge : a'.tmps[157]? = some _ := ge
      refine up_if rfl (up_yield rfl ge) ?_
      obtain ⟨v3, e3, rfl⟩ := up_pre hA 3 (by rfl)
      have e3 : a'.tmps[158]? = some _ := e3
      go_simp
      exact ⟨_, rfl, Below.refl _ _, rfl⟩
    case o5 =>
      intro a' w' hB hL hA
      obtain ⟨g0, ge, rfl⟩ := up_pre hA 2 (by rfl)
      have ge : a'.tmps[157]? = some _ := ge
      refine up_if rfl (up_yield rfl ge) ?_
      obtain ⟨v4, e4, rfl⟩ := up_pre hA 4 (by rfl)
      have e4 : a'.tmps[159]? = some _ := e4
      go_simp
      exact ⟨_, rfl, Below.refl _ _, rfl⟩
    case o6 =>
      intro a' w' hB hL hA
      obtain ⟨g0, ge, rfl⟩ := up_pre hA 2 (by rfl)
      have ge : a'.tmps[157]? = some _ := ge
      refine up_if rfl (up_yield rfl ge) ?_
      obtain ⟨v5, e5, rfl⟩ := up_pre hA 5 (by rfl)
      have e5 : a'.tmps[160]? = some _ := e5
      go_simp
      refine (law27_fails [40, 40, 40, 40, 40, 40, 40, 40, 40, 40, 40, 40, 40, 40, 40, 40, 40, 49, 41, 41, 41, 41, 41, 41, 41, 41, 41, 41, 41, 41, 41, 41, 41, 41, 41] 16 3 w' (HGR.out.next hB) (by decide) (by kernel_rfl)).mono ?_
      rintro e w6 ⟨rfl, h6⟩
      exact ⟨_, rfl, h6, rfl⟩
    case o7 =>
      intro a' w' hB hL hA
      refine up_yes rfl ?_
      obtain ⟨v2, e2, rfl⟩ := up_pre hA 2 (by rfl)
      have e2 : a'.tmps[157]? = some _ := e2
      obtain ⟨v6, e6, rfl⟩ := up_pre hA 6 (by rfl)
      have e6 : a'.tmps[161]? = some _ := e6
      go_simp
      exact ⟨_, rfl, Below.refl _ _, rfl⟩
    case o8 =>
      intro a' w' hB hL hA
      refine up_yes rfl ?_
      obtain ⟨v7, e7, rfl⟩ := up_pre hA 7 (by rfl)
      have e7 : a'.tmps[162]? = some _ := e7
      go_simp
      exact ⟨_, rfl, Below.refl _ _, rfl⟩
    case o9 =>
      intro a' w' hB hL hA
      obtain ⟨g0, ge, rfl⟩ := up_pre hA 8 (by rfl)
      have ge : a'.tmps[163]? = some _ := ge
      refine up_if rfl (up_yield rfl ge) ?_
      have s1 := like_at hL 1 (by rfl) rfl
      go_simp
      exact ⟨_, rfl, Below.refl _ _, rfl⟩
    case o10 =>
      intro a' w' hB hL hA
      obtain ⟨g0, ge, rfl⟩ := up_pre hA 8 (by rfl)
      have ge : a'.tmps[163]? = some _ := ge
      refine up_if rfl (up_yield rfl ge) ?_
      obtain ⟨v9, e9, rfl⟩ := up_pre hA 9 (by rfl)
      have e9 : a'.tmps[164]? = some _ := e9
      go_simp
      exact ⟨_, rfl, Below.refl _ _, rfl⟩
    case o11 =>
      intro a' w' hB hL hA
      obtain ⟨g0, ge, rfl⟩ := up_pre hA 8 (by rfl)
      have ge : a'.tmps[163]? = some _ := ge
      refine up_if rfl (up_yield rfl ge) ?_
      obtain ⟨v10, e10, rfl⟩ := up_pre hA 10 (by rfl)
      have e10 : a'.tmps[165]? = some _ := e10
      go_simp
      refine (law27_fails [33, 40, 40, 40, 40, 40, 40, 40, 40, 40, 40, 40, 40, 40, 40, 40, 40, 49, 41, 41, 41, 41, 41, 41, 41, 41, 41, 41, 41, 41, 41, 41, 41, 41] 16 3 w' (HGR.out.next hB) (by decide) (by kernel_rfl)).mono ?_
      rintro e w6 ⟨rfl, h6⟩
      exact ⟨_, rfl, h6, rfl⟩
    case o12 =>
      intro a' w' hB hL hA
      refine up_yes rfl ?_
      obtain ⟨v8, e8, rfl⟩ := up_pre hA 8 (by rfl)
      have e8 : a'.tmps[163]? = some _ := e8
      obtain ⟨v11, e11, rfl⟩ := up_pre hA 11 (by rfl)
      have e11 : a'.tmps[166]? = some _ := e11
      go_simp
      exact ⟨_, rfl, Below.refl _ _, rfl⟩
    case o13 =>
      intro a' w' hB hL hA
      refine up_yes rfl ?_
      obtain ⟨v12, e12, rfl⟩ := up_pre hA 12 (by rfl)
      have e12 : a'.tmps[167]? = some _ := e12
      go_simp
      exact ⟨_, rfl, Below.refl _ _, rfl⟩
    case o14 =>
      intro a' w' hB hL hA
      obtain ⟨g0, ge, rfl⟩ := up_pre hA 13 (by rfl)
      have ge : a'.tmps[168]? = some _ := ge
      refine up_if rfl (up_yield rfl ge) ?_
      have s2 := like_at hL 2 (by rfl) rfl
      have HN2 := bkK HNR hB
      obtain ⟨p0, p1, p2, p3, p4, p5, p6, p7, p8, p9⟩ := ten_live HN2
      go_simp
      exact ⟨_, rfl, Below.refl _ _, rfl⟩
    case o15 =>
      intro a' w' hB hL hA
      obtain ⟨g0, ge, rfl⟩ := up_pre hA 13 (by rfl)
      have ge : a'.tmps[168]? = some _ := ge
      refine up_if rfl (up_yield rfl ge) ?_
      go_simp
      refine (law27_number [50] w').mono ?_
      rintro e w6 ⟨rfl, h6⟩
      exact ⟨_, rfl, h6, rfl⟩
    case o16 =>
      intro a' w' hB hL hA
      obtain ⟨g0, ge, rfl⟩ := up_pre hA 13 (by rfl)
      have ge : a'.tmps[168]? = some _ := ge
      refine up_if rfl (up_yield rfl ge) ?_
      obtain ⟨v14, e14, rfl⟩ := up_pre hA 14 (by rfl)
      have e14 : a'.tmps[169]? = some _ := e14
      obtain ⟨v15, e15, rfl⟩ := up_pre hA 15 (by rfl)
      have e15 : a'.tmps[170]? = some _ := e15
      go_simp
      refine (law27_two 1 n1T (.mk 11 [50] noUseI []) _ _ w' (exAt_leaf (fun _ => True) w' 11 [49] noUseI) (exAt_leaf (fun _ => True) w' 11 [50] noUseI)).mono ?_
      rintro e w6 ⟨v6, rfl, hb6, hx6⟩
      exact ⟨_, rfl, hb6, hx6⟩
    case o17 =>
      intro a' w' hB hL hA
      obtain ⟨g0, ge, rfl⟩ := up_pre hA 13 (by rfl)
      have ge : a'.tmps[168]? = some _ := ge
      refine up_if rfl (up_yield rfl ge) ?_
      go_simp
      refine (law27_number [51] w').mono ?_
      rintro e w6 ⟨rfl, h6⟩
      exact ⟨_, rfl, h6, rfl⟩
    case o18 =>
      intro a' w' hB hL hA
      obtain ⟨g0, ge, rfl⟩ := up_pre hA 13 (by rfl)
      have ge : a'.tmps[168]? = some _ := ge
      refine up_if rfl (up_yield rfl ge) ?_
      obtain ⟨v16, e16, h16⟩ := up_pre hA 16 (by rfl)
      have e16 : a'.tmps[171]? = some _ := e16
      obtain ⟨v17, e17, rfl⟩ := up_pre hA 17 (by rfl)
      have e17 : a'.tmps[172]? = some _ := e17
      go_simp
      refine (law27_two 6 (twoE 1 n1T (.mk 11 [50] noUseI [])) (.mk 11 [51] noUseI []) _ _ w' h16 (exAt_leaf (fun _ => True) w' 11 [51] noUseI)).mono ?_
      rintro e w6 ⟨v6, rfl, hb6, hx6⟩
      exact ⟨_, rfl, hb6, hx6⟩
    case o19 =>
      intro a' w' hB hL hA
      obtain ⟨g0, ge, rfl⟩ := up_pre hA 13 (by rfl)
      have ge : a'.tmps[168]? = some _ := ge
      refine up_if rfl (up_yield rfl ge) ?_
      obtain ⟨v18, e18, h18⟩ := up_pre hA 18 (by rfl)
      have e18 : a'.tmps[173]? = some _ := e18
      go_simp
      refine (law27_puts (twoE 6 (twoE 1 n1T (.mk 11 [50] noUseI [])) (.mk 11 [51] noUseI [])) [40, 49, 32, 124, 32, 50, 41, 32, 60, 32, 51] _ w' (HGR.out.next hB) h18 (by decide +kernel) (by kernel_rfl)).mono ?_
      rintro e w6 ⟨rfl, h6⟩
      exact ⟨_, rfl, h6, rfl⟩
    case o20 =>
      intro a' w' hB hL hA
      refine up_yes rfl ?_
      obtain ⟨v13, e13, rfl⟩ := up_pre hA 13 (by rfl)
      have e13 : a'.tmps[168]? = some _ := e13
      obtain ⟨v19, e19, rfl⟩ := up_pre hA 19 (by rfl)
      have e19 : a'.tmps[174]? = some _ := e19
      go_simp
      exact ⟨_, rfl, Below.refl _ _, rfl⟩
    case o21 =>
      intro a' w' hB hL hA
      refine up_yes rfl ?_
      obtain ⟨v20, e20, rfl⟩ := up_pre hA 20 (by rfl)
      have e20 : a'.tmps[175]? = some _ := e20
      go_simp
      exact ⟨_, rfl, Below.refl _ _, rfl⟩
    case o22 =>
      intro a' w' hB hL hA
      obtain ⟨g0, ge, rfl⟩ := up_pre hA 21 (by rfl)
      have ge : a'.tmps[176]? = some _ := ge
      refine up_if rfl (up_yield rfl ge) ?_
      have s2 := like_at hL 2 (by rfl) rfl
      have HN2 := bkK HNR hB
      obtain ⟨p0, p1, p2, p3, p4, p5, p6, p7, p8, p9⟩ := ten_live HN2
      go_simp
      exact ⟨_, rfl, Below.refl _ _, rfl⟩
    case o23 =>
      intro a' w' hB hL hA
      obtain ⟨g0, ge, rfl⟩ := up_pre hA 21 (by rfl)
      have ge : a'.tmps[176]? = some _ := ge
      refine up_if rfl (up_yield rfl ge) ?_
      have s2 := like_at hL 2 (by rfl) rfl
      have HN2 := bkK HNR hB
      obtain ⟨p0, p1, p2, p3, p4, p5, p6, p7, p8, p9⟩ := ten_live HN2
      go_simp
      exact ⟨_, rfl, Below.refl _ _, rfl⟩
    case o24 =>
      intro a' w' hB hL hA
      obtain ⟨g0, ge, rfl⟩ := up_pre hA 21 (by rfl)
      have ge : a'.tmps[176]? = some _ := ge
      refine up_if rfl (up_yield rfl ge) ?_
      have s2 := like_at hL 2 (by rfl) rfl
      have HN2 := bkK HNR hB
      obtain ⟨p0, p1, p2, p3, p4, p5, p6, p7, p8, p9⟩ := ten_live HN2
      go_simp
      exact ⟨_, rfl, Below.refl _ _, rfl⟩
    case o25 =>
      intro a' w' hB hL hA
      obtain ⟨g0, ge, rfl⟩ := up_pre hA 21 (by rfl)
      have ge : a'.tmps[176]? = some _ := ge
      refine up_if rfl (up_yield rfl ge) ?_
      obtain ⟨v23, e23, rfl⟩ := up_pre hA 23 (by rfl)
      have e23 : a'.tmps[178]? = some _ := e23
      obtain ⟨v24, e24, rfl⟩ := up_pre hA 24 (by rfl)
      have e24 : a'.tmps[179]? = some _ := e24
      go_simp
      refine (law27_two 2 n1T n1T _ _ w' (exAt_leaf (fun _ => True) w' 11 [49] noUseI) (exAt_leaf (fun _ => True) w' 11 [49] noUseI)).mono ?_
      rintro e w6 ⟨v6, rfl, hb6, hx6⟩
      exact ⟨_, rfl, hb6, hx6⟩
    case o26 =>
      intro a' w' hB hL hA
      obtain ⟨g0, ge, rfl⟩ := up_pre hA 21 (by rfl)
      have ge : a'.tmps[176]? = some _ := ge
      refine up_if rfl (up_yield rfl ge) ?_
      obtain ⟨v22, e22, rfl⟩ := up_pre hA 22 (by rfl)
      have e22 : a'.tmps[177]? = some _ := e22
      obtain ⟨v25, e25, h25⟩ := up_pre hA 25 (by rfl)
      have e25 : a'.tmps[180]? = some _ := e25
      go_simp
      refine (law27_two 2 n1T (twoE 2 n1T n1T) _ _ w' (exAt_leaf (fun _ => True) w' 11 [49] noUseI) h25).mono ?_
      rintro e w6 ⟨v6, rfl, hb6, hx6⟩
      exact ⟨_, rfl, hb6, hx6⟩
    case o27 =>
      intro a' w' hB hL hA
      obtain ⟨g0, ge, rfl⟩ := up_pre hA 21 (by rfl)
      have ge : a'.tmps[176]? = some _ := ge
      refine up_if rfl (up_yield rfl ge) ?_
      obtain ⟨v26, e26, h26⟩ := up_pre hA 26 (by rfl)
      have e26 : a'.tmps[181]? = some _ := e26
      go_simp
      refine (law27_puts (twoE 2 n1T (twoE 2 n1T n1T)) [49, 32, 38, 32, 40, 49, 32, 38, 32, 49, 41] _ w' (HGR.out.next hB) h26 (by decide +kernel) (by kernel_rfl)).mono ?_
      rintro e w6 ⟨rfl, h6⟩
      exact ⟨_, rfl, h6, rfl⟩
    case o28 =>
      intro a' w' hB hL hA
      refine up_yes rfl ?_
      obtain ⟨v21, e21, rfl⟩ := up_pre hA 21 (by rfl)
      have e21 : a'.tmps[176]? = some _ := e21
      obtain ⟨v27, e27, rfl⟩ := up_pre hA 27 (by rfl)
      have e27 : a'.tmps[182]? = some _ := e27
      go_simp
      exact ⟨_, rfl, Below.refl _ _, rfl⟩
    case o29 =>
      intro a' w' hB hL hA
      refine up_yes rfl ?_
      obtain ⟨v28, e28, rfl⟩ := up_pre hA 28 (by rfl)
      have e28 : a'.tmps[183]? = some _ := e28
      go_simp
      exact ⟨_, rfl, Below.refl _ _, rfl⟩
    case o30 =>
      intro a' w' hB hL hA
      obtain ⟨g0, ge, rfl⟩ := up_pre hA 29 (by rfl)
      have ge : a'.tmps[184]? = some _ := ge
      refine up_if rfl (up_yield rfl ge) ?_
      have s2 := like_at hL 2 (by rfl) rfl
      have HN2 := bkK HNR hB
      obtain ⟨p0, p1, p2, p3, p4, p5, p6, p7, p8, p9⟩ := ten_live HN2
      go_simp
      exact ⟨_, rfl, Below.refl _ _, rfl⟩
    case o31 =>
      intro a' w' hB hL hA
      obtain ⟨g0, ge, rfl⟩ := up_pre hA 29 (by rfl)
      have ge : a'.tmps[184]? = some _ := ge
      refine up_if rfl (up_yield rfl ge) ?_
      have s2 := like_at hL 2 (by rfl) rfl
      have HN2 := bkK HNR hB
      obtain ⟨p0, p1, p2, p3, p4, p5, p6, p7, p8, p9⟩ := ten_live HN2
      go_simp
      exact ⟨_, rfl, Below.refl _ _, rfl⟩
    case o32 =>
      intro a' w' hB hL hA
      obtain ⟨g0, ge, rfl⟩ := up_pre hA 29 (by rfl)
      have ge : a'.tmps[184]? = some _ := ge
      refine up_if rfl (up_yield rfl ge) ?_
      obtain ⟨v30, e30, rfl⟩ := up_pre hA 30 (by rfl)
      have e30 : a'.tmps[185]? = some _ := e30
      obtain ⟨v31, e31, rfl⟩ := up_pre hA 31 (by rfl)
      have e31 : a'.tmps[186]? = some _ := e31
      go_simp
      refine (law27_two 4 n1T n1T _ _ w' (exAt_leaf (fun _ => True) w' 11 [49] noUseI) (exAt_leaf (fun _ => True) w' 11 [49] noUseI)).mono ?_
      rintro e w6 ⟨v6, rfl, hb6, hx6⟩
      exact ⟨_, rfl, hb6, hx6⟩
    case o33 =>
      intro a' w' hB hL hA
      obtain ⟨g0, ge, rfl⟩ := up_pre hA 29 (by rfl)
      have ge : a'.tmps[184]? = some _ := ge
      refine up_if rfl (up_yield rfl ge) ?_
      obtain ⟨v32, e32, h32⟩ := up_pre hA 32 (by rfl)
      have e32 : a'.tmps[187]? = some _ := e32
      have h32 : ExAt (fun _ => True) w' _ v32 := h32
      obtain ⟨k1, t1, u1, a1, n1, c1, rfl⟩ := h32.ten
      go_simp
      exact ⟨_, rfl, (Below.refl _ _).alloc (Nat.le_refl _) _, kids_one (exAt_one (A := fun _ => True) 3 h32 trivial)⟩
    case o34 =>
      intro a' w' hB hL hA
      obtain ⟨g0, ge, rfl⟩ := up_pre hA 29 (by rfl)
      have ge : a'.tmps[184]? = some _ := ge
      refine up_if rfl (up_yield rfl ge) ?_
      obtain ⟨v33, e33, h33⟩ := up_pre hA 33 (by rfl)
      have e33 : a'.tmps[188]? = some _ := e33
      have h33 : KidsAt (fun _ => True) w' [(twoE 4 n1T n1T)] v33 := h33
      obtain ⟨a1, c1, rfl⟩ := kids_shape h33
      go_simp
      exact ⟨_, rfl, Below.refl _ _, exAt_iff.2 ⟨_, rfl, h33⟩⟩
    case o35 =>
      intro a' w' hB hL hA
      obtain ⟨g0, ge, rfl⟩ := up_pre hA 29 (by rfl)
      have ge : a'.tmps[184]? = some _ := ge
      refine up_if rfl (up_yield rfl ge) ?_
      obtain ⟨v34, e34, h34⟩ := up_pre hA 34 (by rfl)
      have e34 : a'.tmps[189]? = some _ := e34
      go_simp
      refine (law27_puts (oneE 3 (twoE 4 n1T n1T)) [33, 49, 32, 61, 61, 32, 49] _ w' (HGR.out.next hB) h34 (by decide +kernel) (by kernel_rfl)).mono ?_
      rintro e w6 ⟨rfl, h6⟩
      exact ⟨_, rfl, h6, rfl⟩
    case o36 =>
      intro a' w' hB hL hA
      refine up_yes rfl ?_
      obtain ⟨v29, e29, rfl⟩ := up_pre hA 29 (by rfl)
      have e29 : a'.tmps[184]? = some _ := e29
      obtain ⟨v35, e35, rfl⟩ := up_pre hA 35 (by rfl)
      have e35 : a'.tmps[190]? = some _ := e35
      go_simp
      exact ⟨_, rfl, Below.refl _ _, rfl⟩
    case o37 =>
      intro a' w' hB hL hA
      refine up_yes rfl ?_
      obtain ⟨v36, e36, rfl⟩ := up_pre hA 36 (by rfl)
      have e36 : a'.tmps[191]? = some _ := e36
      go_simp
      exact ⟨_, rfl, Below.refl _ _, rfl⟩
    case o38 =>
      intro a' w' hB hL hA
      obtain ⟨g0, ge, rfl⟩ := up_pre hA 37 (by rfl)
      have ge : a'.tmps[192]? = some _ := ge
      refine up_if rfl (up_yield rfl ge) ?_
      go_simp
      exact ⟨_, rfl, Below.refl _ _, rfl⟩
    case o39 =>
      intro a' w' hB hL hA
      obtain ⟨g0, ge, rfl⟩ := up_pre hA 37 (by rfl)
      have ge : a'.tmps[192]? = some _ := ge
      refine up_if rfl (up_yield rfl ge) ?_
      obtain ⟨v38, e38, rfl⟩ := up_pre hA 38 (by rfl)
      have e38 : a'.tmps[193]? = some _ := e38
      go_simp
      exact ⟨_, rfl, Below.refl _ _, rfl⟩
    case o40 =>
      intro a' w' hB hL hA
      obtain ⟨g0, ge, rfl⟩ := up_pre hA 37 (by rfl)
      have ge : a'.tmps[192]? = some _ := ge
      refine up_if rfl (up_yield rfl ge) ?_
      obtain ⟨v39, e39, rfl⟩ := up_pre hA 39 (by rfl)
      have e39 : a'.tmps[194]? = some _ := e39
      go_simp
      refine (law27_puts (.mk 12 [] ⟨7, 0, [72, 84, 84, 80, 95, 67, 79, 79, 75, 73, 69], [97], [], true, true⟩ []) [36, 40, 72, 84, 84, 80, 95, 67, 79, 79, 75, 73, 69, 123, 97, 125, 124, 39, 39, 41] _ w' (HGR.out.next hB) (exAt_leaf (fun _ => True) w' 12 [] ⟨7, 0, [72, 84, 84, 80, 95, 67, 79, 79, 75, 73, 69], [97], [], true, true⟩) (by decide +kernel) (by kernel_rfl)).mono ?_
      rintro e w6 ⟨rfl, h6⟩
      exact ⟨_, rfl, h6, rfl⟩
    case o41 =>
      intro a' w' hB hL hA
      refine up_yes rfl ?_
      obtain ⟨v37, e37, rfl⟩ := up_pre hA 37 (by rfl)
      have e37 : a'.tmps[192]? = some _ := e37
      obtain ⟨v40, e40, rfl⟩ := up_pre hA 40 (by rfl)
      have e40 : a'.tmps[195]? = some _ := e40
      go_simp
      exact ⟨_, rfl, Below.refl _ _, rfl⟩
    case o42 =>
      intro a' w' hB hL hA
      refine up_yes rfl ?_
      obtain ⟨v41, e41, rfl⟩ := up_pre hA 41 (by rfl)
      have e41 : a'.tmps[196]? = some _ := e41
      go_simp
      exact ⟨_, rfl, Below.refl _ _, rfl⟩
    case o43 =>
      intro a' w' hB hL hA
      obtain ⟨g0, ge, rfl⟩ := up_pre hA 42 (by rfl)
      have ge : a'.tmps[197]? = some _ := ge
      refine up_if rfl (up_yield rfl ge) ?_
      go_simp
      refine (law27_awake w' (HGR.out.next hB)).mono ?_
      rintro e w6 ⟨rfl, h6⟩
      exact ⟨_, rfl, h6, rfl⟩
    case o44 =>
      intro a' w' hB hL hA
      refine up_yes rfl ?_
      obtain ⟨v42, e42, rfl⟩ := up_pre hA 42 (by rfl)
      have e42 : a'.tmps[197]? = some _ := e42
      obtain ⟨v43, e43, rfl⟩ := up_pre hA 43 (by rfl)
      have e43 : a'.tmps[198]? = some _ := e43
      go_simp
      exact ⟨_, rfl, Below.refl _ _, rfl⟩
    case o45 =>
      intro a' w' hB hL hA
      refine up_yes rfl ?_
      obtain ⟨v44, e44, rfl⟩ := up_pre hA 44 (by rfl)
      have e44 : a'.tmps[199]? = some _ := e44
      go_simp
      exact ⟨_, rfl, Below.refl _ _, rfl⟩
    intro A w' hB hA hdf
    have HBE := Lib.hid (HBR.out.trans (hB.mono HBR.out.size))
    clear hB
    simp only [Exit.then]
    first | (refine bodyPost_ret (v := .bool true) (results_one rfl hA) hdf ⟨rfl, HBE.out⟩) | (go_wp2_with fail; refine bodyPost_ret (v := .bool true) (results_one rfl hA) hdf ⟨rfl, HBE.out⟩)
end Go.Proofs.YtehdeclpighdeaaGreatDoor
namespace Go.Proofs.YtehdeclpighdeaaGreatDoor.testKnown
open Go.RowKit Go.ChangeShapes Go.WideShapes Go.ChangeAt
set_option linter.unusedVariables false
set_option maxRecDepth 100000 in
theorem lifted (os : Os) (started : os.Started) (H : Type) (enc : TypeId × Value → H) (F : Stop.Interp) :
    ReturnsInHanded {} Tryz.checked os 8 .any ((OpenSpec.ofChange Rows.testKnownSpec).preRow enc Tryz.prog Tryz.f8 Rows.testKnownRow.domain false Rows.testKnownRow.laid)
      (((OpenSpec.ofChange Rows.testKnownSpec).at F).post enc Tryz.prog Tryz.f8 false true false false) := by
  refine returnsInHanded_of_row (C := Tryz.checked) (s := OpenSpec.ofChange Rows.testKnownSpec) own started (by kernel_rfl) Tryz.func8
    (witness_zip (enc := enc) (C := Tryz.checked) (World.laidAll Tryz.prog os laidAll2) #[]
      (World.laidAll_os _ _ _) (laid_shaped os _) (by kernel_rfl)
      (OpenSpec.preRow_of_B rfl 8 (by kernel_rfl) (by kernel_rfl) (laid_met os _))) ?_
  intro W base args ds gs before hval0 hW _ _ hsz0 hL hsh _
  have hsz : (DataW.weightsEach Tryz.prog (Tryz.f8.params.toList ++ (OpenSpec.ofChange Rows.testKnownSpec).bare.plain.varTypes Tryz.prog) (ds ++ gs)).all (· ≤ reachBytes) = true := hsz0
  clear hsz0
  have hval : ∀ (j : Nat) t v, Tryz.f8.params[j]? = some t → args[j]? = some v → Value.okWide Tryz.prog W .any base t v := hval0
  have hW' := hW
  obtain ⟨p, q, hA0, hV, rfl, hfz, hnd⟩ := hW
  have hA : DataW.TrodAll enc Tryz.prog W 0 (fun _ => true) true Tryz.f8.params.toList args.toList ds p := hA0
  rw [Tryz.params8] at hA hval hsz
  obtain ⟨rfl, rfl, rfl⟩ := trodAll_none hA
  obtain ⟨rfl, rfl⟩ := trodVars_none hV
  have hg := good_of_shaped hsh
  clear hA0 hval0
  refine (law27_known W hg).mono fun e W' ⟨he, bel⟩ => ?_
  subst he
  exact ⟨_, rfl, _, _, _, [], _, [], hW', trodAll_mk1 (shut_bool u4 _), rfl, rfl, bel.frame _, fun h => by cases h⟩
theorem over : Rows.testKnownRow.holds Tryz.pinned (OpenSpec.ofChange Rows.testKnownSpec) :=
  OpenClaim.holds_of_cond 8 Tryz.f8 rfl rfl rfl rfl rfl rfl rfl ⟨rfl, rfl, rfl, rfl, rfl⟩ rfl rfl rfl rfl rfl (by kernel_rfl) Tryz.func8 (by kernel_rfl)
    (of_decide_eq_true (by kernel_rfl)) (by unfold Func.isWrapper; first | (rw [if_pos (by decide +kernel)]; kernel_rfl) | (rw [if_neg (by decide +kernel)]; exact ⟨rfl, rfl⟩))
    (fun os started H enc _ F0 => by rw [OpenClaim.pre_eq_preRow]; exact lifted os started H enc F0)
theorem proved : Rows.TestKnownCardSaid :=
  Claim7.holds_tied_plain_at .later [] [.data, .pinned] true (true, "3660bc4c363bfce8b4298e9aab85f4c5f99686c6130673f627cf825b4370a59c") true
    over (fun _ h => by cases h) (by kernel_rfl) (fun _ h => by cases h) testKnown_row_tie rfl ⟨rfl, rfl⟩ (by kernel_rfl) rfl
    (fun f fn hf hfn => by
      obtain rfl : f = 8 := Option.some.inj ((show Tryz.prog.funcNamed "inlay/inlaylaw27.TestKnown" = some 8 by kernel_rfl).symm.trans hf) |>.symm
      obtain rfl : fn = Tryz.f8 := (Option.some.inj (Tryz.func8.symm.trans hfn)).symm
      exact ⟨by kernel_rfl, fun j t ht => by
        rw [Tryz.params8] at ht
        simp at ht⟩)
    (by kernel_rfl)
#print axioms proved
end Go.Proofs.YtehdeclpighdeaaGreatDoor.testKnown
