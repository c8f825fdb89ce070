/- A tree that came in. How great a tree is: the walks of size and few; a tree that may be gone through is not great. -/
import Derived.Test.YtbkhmkpbbggcbaaGreatDoorKOpen0
import Derived.Test.YtbkhmkpbbggcbaaGreatDoorKTestE6
import Derived.Test.YtbkhmkpbbggcbaaGreatDoorKTestBackP
namespace Go.Proofs.YtbkhmkpbbggcbaaGreatDoor
open Go.RowKit Go.ChangeShapes Go.WideShapes
set_option linter.unusedVariables false
mutual
def smallE : Ex → Prop
  | .mk _ t u l => t.length ≤ 140737488351232 ∧ u.name.length ≤ 140737488351232 ∧ u.key.length ≤ 140737488351232 ∧ u.dft.length ≤ 140737488351232 ∧ l.length ≤ 140737488351232 ∧ smallL l
def smallL : List Ex → Prop
  | [] => True
  | x :: r => smallE x ∧ smallL r
end
theorem small_mem : ∀ {l : List Ex} {x : Ex}, smallL l → x ∈ l → smallE x
  | [], _, _, h => by cases h
  | y :: r, x, h, hx => by
    unfold smallL at h
    rcases List.mem_cons.1 hx with e | hx
    · rw [e]; exact h.1
    · exact small_mem h.2 hx
theorem small_all : ∀ {l : List Ex}, (∀ x, x ∈ l → smallE x) → smallL l
  | [], _ => by unfold smallL; trivial
  | y :: r, h => by unfold smallL; exact ⟨h y (by simp), small_all fun x hx => h x (by simp [hx])⟩
theorem sf_ex : sfields (Tryz.prog.underlying 26) = some [(0, 3), (1, 9), (2, 23), (9, 24)] := by kernel_rfl
theorem sf_use : sfields (Tryz.prog.underlying 23) = some [(0, 3), (1, 3), (2, 9), (3, 9), (4, 9), (5, 4), (6, 4)] := by kernel_rfl
theorem n_ex : Tryz.prog.cellsOf 26 = 10 := by kernel_rfl
theorem n_use7 : Tryz.prog.cellsOf 23 = 7 := by kernel_rfl
theorem n_exs : Tryz.prog.cellsOf 24 = 1 := by kernel_rfl
theorem b_ex : Tryz.prog.bytesOf 26 ≥ 100 := by decide +kernel
theorem ul_ex : Tryz.prog.underlying 24 = some (.slice 26) := by kernel_rfl
section
variable {H : Type} {enc : TypeId × Value → H} {W : World} {held : Bool}
theorem field_ofN {t : TypeId} {l : List (Nat × TypeId)} {fuel : Nat} {cs : List Value} {x : DataW H × List MemPlace} (hs : sfields (Tryz.prog.underlying t) = some l) (h : DataW.trod enc Tryz.prog W 0 (fun _ => true) held fuel t cs = some x)
    (i o m : Nat) (ty : TypeId) (hl : l[i]? = some (o, ty)) (hc : Tryz.prog.cellsOf ty = m) : ∃ y n, fuel = n + 1 ∧ DataW.trod enc Tryz.prog W 0 (fun _ => true) held n ty ((cs.drop o).take m) = some y ∧ (Light t x.1 → Light ty y.1) := by
  obtain ⟨fs, hu, hm⟩ := sfields_some hs
  obtain ⟨xs, n, hfu, hx, _, hlen, hg⟩ := DataW.trod_struct hu h
  rw [← hm, List.getElem?_map] at hl
  obtain ⟨f, hf, he⟩ := Option.map_eq_some_iff.1 hl
  simp only [Prod.mk.injEq] at he
  obtain ⟨rfl, rfl⟩ := he
  have hf' : fs[i]? = some f := by simpa using hf
  have := hg i f hf'
  rw [hc] at this
  have hil : i < xs.length := by rw [hlen]; exact (Array.getElem?_eq_some_iff.1 hf').1
  refine ⟨xs[i], n, hfu, by rw [this]; exact List.getElem?_eq_getElem hil, fun hL => ?_⟩
  rw [hx] at hL
  exact light_field hu hL hf' (by rw [List.getElem?_map, List.getElem?_eq_getElem hil]; rfl)
theorem rowAt_of {W : World} {b : Nat} : ∀ {l : List Ex} {o : Nat}, (∀ i x, l[i]? = some x → ∃ cs, ExAt (fun _ => True) W x (.agg cs) ∧ CellsAt W b (o + i * 10) cs.toList) → RowAt (fun _ => True) W l b o
  | [], _, _ => rowAt_nil
  | x :: r, o, h => by
    rw [rowAt_cons]
    refine ⟨?_, rowAt_of fun i y hy => ?_⟩
    · have := h 0 x rfl
      simpa using this
    · have := h (i + 1) y (by simpa using hy)
      rw [show o + (i + 1) * 10 = o + 10 + i * 10 by omega] at this
      exact this
set_option maxRecDepth 100000 in
theorem open_ex_fuel : ∀ (fuel : Nat) (cs : List Value) (x : DataW H × List MemPlace), DataW.trod enc Tryz.prog W 0 (fun _ => true) held fuel 26 cs = some x → Light 26 x.1 → ∃ E : Ex, ExAt (fun _ => True) W E (.agg cs.toArray) ∧ smallE E := by
  intro fuel
  induction fuel using Nat.strongRecOn with
  | ind fuel ih =>
  intro cs x hf hL
  have hlen : cs.length = 10 := by
    obtain ⟨fs, hu, _⟩ := sfields_some sf_ex
    obtain ⟨_, _, _, _, h, _⟩ := DataW.trod_struct hu hf
    rw [h, n_ex]
  match cs, hlen with
  | [c0, c1, c2, c3, c4, c5, c6, c7, c8, c9], _ =>
    obtain ⟨y0, n0, _, t0, L0⟩ := field_ofN sf_ex hf 0 0 1 _ rfl n_int
    obtain ⟨y1, n1, _, t1, L1⟩ := field_ofN sf_ex hf 1 1 1 _ rfl n_str
    obtain ⟨y2, n2, _, t2, L2⟩ := field_ofN sf_ex hf 2 2 7 _ rfl n_use7
    obtain ⟨y3, n3, e3, t3, L3⟩ := field_ofN sf_ex hf 3 9 1 _ rfl n_exs
    simp only [List.drop, List.take] at t0 t1 t2 t3
    obtain ⟨v0, m0, _, r0, M0⟩ := field_ofN sf_use t2 0 0 1 _ rfl n_int
    obtain ⟨v1, m1, _, r1, M1⟩ := field_ofN sf_use t2 1 1 1 _ rfl n_int
    obtain ⟨v2, m2, _, r2, M2⟩ := field_ofN sf_use t2 2 2 1 _ rfl n_str
    obtain ⟨v3, m3, _, r3, M3⟩ := field_ofN sf_use t2 3 3 1 _ rfl n_str
    obtain ⟨v4, m4, _, r4, M4⟩ := field_ofN sf_use t2 4 4 1 _ rfl n_str
    obtain ⟨v5, m5, _, r5, M5⟩ := field_ofN sf_use t2 5 5 1 _ rfl n_bool
    obtain ⟨v6, m6, _, r6, M6⟩ := field_ofN sf_use t2 6 6 1 _ rfl n_bool
    simp only [List.drop, List.take] at r0 r1 r2 r3 r4 r5 r6
    have Q1 := L1 hL
    have Q2 := M2 (L2 hL)
    have Q3 := M3 (L2 hL)
    have Q4 := M4 (L2 hL)
    have Q9 := L3 hL
    obtain ⟨i0, k0, _⟩ := DataW.trod_int u3 t0
    obtain ⟨s1, k1, rfl, z1⟩ := DataW.trod_string u9 t1
    obtain ⟨j0, q0, _⟩ := DataW.trod_int u3 r0
    obtain ⟨j1, q1, _⟩ := DataW.trod_int u3 r1
    obtain ⟨s2, q2, rfl, z2⟩ := DataW.trod_string u9 r2
    obtain ⟨s3, q3, rfl, z3⟩ := DataW.trod_string u9 r3
    obtain ⟨s4, q4, rfl, z4⟩ := DataW.trod_string u9 r4
    obtain ⟨b5, q5, _⟩ := DataW.trod_bool u4 r5
    obtain ⟨b6, q6, _⟩ := DataW.trod_bool u4 r6
    simp only [List.cons.injEq, and_true] at k0 k1 q0 q1 q2 q3 q4 q5 q6
    subst k0; subst k1; subst q0; subst q1; subst q2; subst q3; subst q4; subst q5; subst q6
    have hkids : ∃ l : List Ex, KidsAt (fun _ => True) W l c9 ∧ l.length ≤ 140737488351232 ∧ smallL l := by
      rcases DataW.trod_slice ul_ex t3 with ⟨hcs, hx⟩ | ⟨a, len, cap, elems, rest, n, hfu, hcs, hx, _, hl, hm, hel, hi, _⟩
      · simp only [List.cons.injEq, and_true] at hcs
        exact ⟨[], .inl ⟨rfl, none, 0, hcs⟩, Nat.zero_le _, by unfold smallL; trivial⟩
      · simp only [List.cons.injEq, and_true] at hcs
        rw [n_ex] at hi
        have hxs : y3.1 = .slice (elems.map (·.1)) (rest.map (·.1)) := by rw [hx]
        rw [hxs] at Q9
        have key : ∀ i, i < len → ∃ E : Ex, ∃ cs', W.cells? 0 (a.add (i * 10)) 10 = some cs' ∧ ExAt (fun _ => True) W E (.agg cs'.toArray) ∧ smallE E := fun i hil => by
          have h1 := hi i hil
          rw [List.getElem?_eq_getElem (show i < elems.length by omega)] at h1
          obtain ⟨cs', hc, ht⟩ := Option.bind_eq_some_iff.1 h1
          have LD := light_elem ul_ex Q9 (d := (elems[i]'(by omega)).1) (List.mem_map.2 ⟨_, List.getElem_mem _, rfl⟩)
          obtain ⟨E, hE, hS⟩ := ih n (by omega) cs' _ ht LD
          exact ⟨E, cs', hc, hE, hS⟩
        obtain ⟨l, hll, hp⟩ := list_of len key
        obtain ⟨b, o, spot⟩ := a
        have hlen : len ≤ 140737488351232 := by
          have h1 := light_slice ul_ex Q9
          have h2 := b_ex
          simp only [List.length_map, hel, reachBytes] at h1
          have h3 : len * 100 ≤ (len + rest.length) * Tryz.prog.bytesOf 26 := Nat.mul_le_mul (Nat.le_add_right _ _) h2
          omega
        refine ⟨l, ?_, by omega, small_all fun x hx => ?_⟩
        · by_cases h0 : len = 0
          · subst h0; exact .inl ⟨List.eq_nil_of_length_eq_zero hll, _, _, hcs⟩
          · obtain ⟨E, hE⟩ : ∃ E, l[0]? = some E := ⟨l[0]'(by omega), List.getElem?_eq_getElem _⟩
            obtain ⟨cs', hc, _, _⟩ := hp 0 E hE
            obtain ⟨_, hcl, hat⟩ := World.cells?_some hc
            have h1 := hat 0 (by omega)
            have hspot : spot = none := by
              cases hv : cs'[0]? with
              | none => rw [List.getElem?_eq_none_iff] at hv; omega
              | some v => rw [hv] at h1; simpa [Addr.add] using World.cell?_spot h1
            subst hspot
            refine .inr ⟨b, o, cap, by rw [hcs, hll], by omega, trivial, ?_, rowAt_of fun i x hx => ?_⟩
            · cases hv : cs'[0]? with
              | none => rw [List.getElem?_eq_none_iff] at hv; omega
              | some v =>
                rw [hv, add_at, add_at] at h1
                exact cell_lt h1
            · obtain ⟨cs2, hc2, hE2, _⟩ := hp i x hx
              obtain ⟨_, hcl2, hat2⟩ := World.cells?_some hc2
              refine ⟨_, hE2, fun j v hv => ?_⟩
              have hv : cs2[j]? = some v := by simpa using hv
              have h2 := hat2 j (by have := (List.getElem?_eq_some_iff.1 hv).1; omega)
              rw [hv, add_at, add_at] at h2
              exact h2
        · obtain ⟨i, hi⟩ := List.mem_iff_getElem?.1 hx
          obtain ⟨_, _, _, hS⟩ := hp i x hi
          exact hS
    obtain ⟨l, hk, hl, hs⟩ := hkids
    refine ⟨.mk i0 s1.data.toList ⟨j0, j1, s2.data.toList, s3.data.toList, s4.data.toList, b5, b6⟩ l, exAt_iff.2 ⟨c9, rfl, hk⟩, ?_⟩
    unfold smallE
    exact ⟨light_string Q1, light_string Q2, light_string Q3, light_string Q4, hl, hs⟩
set_option maxRecDepth 100000 in
theorem open_ex {r : Reach} {b0 : Nat} {v : Value} {d : DataW H} {p : List MemPlace} (hv : Value.okWide Tryz.prog W r b0 26 v) (h : DataW.Trod enc Tryz.prog W 0 (fun _ => true) held 26 v d p) (hL : Light 26 d) :
    ∃ E : Ex, ExAt (fun _ => True) W E v ∧ smallE E := by
  obtain ⟨l, rfl, hlen⟩ := ok_struct sf_ex n_ex hv
  obtain ⟨fuel, hf⟩ := h
  have hf : DataW.trod enc Tryz.prog W 0 (fun _ => true) held fuel 26 l = some (d, p) := by simpa [Value.cells] using hf
  exact open_ex_fuel fuel l (d, p) hf hL
end
end Go.Proofs.YtbkhmkpbbggcbaaGreatDoor
namespace Go.Proofs.YtbkhmkpbbggcbaaGreatDoor
open Go.RowKit
set_option linter.unusedVariables false
theorem sizeL_neg {left : Int} (h : left ≤ 0) : ∀ l, sizeL l left = left
  | [] => by rw [sizeL]
  | x :: r => by rw [sizeL, decide_eq_false (by omega)]; rfl
theorem sizeL_pos {left : Int} (h : 0 < left) (x : Ex) (r : List Ex) : sizeL (x :: r) left = sizeL r (sizeE x left) := by rw [sizeL, decide_eq_true h]; rfl
theorem sizeL_nil (left : Int) : sizeL [] left = left := by rw [sizeL]
theorem sizeE_mk (k : Int) (t : Bs) (u : UseI) (l : List Ex) (left : Int) : sizeE (.mk k t u l) left = sizeL l (left - ownSize t u) := by rw [sizeE]
theorem size_bounds (x : Ex) : smallE x → ∀ left : Int, 0 < left → -1000000000000000 ≤ sizeE x left ∧ sizeE x left ≤ left := by
  refine Ex.ind (P := fun x => smallE x → ∀ left : Int, 0 < left → -1000000000000000 ≤ sizeE x left ∧ sizeE x left ≤ left) (fun k t u l ih hs left hl => ?_) x
  unfold smallE at hs
  obtain ⟨h1, h2, h3, h4, _, h6⟩ := hs
  rw [sizeE_mk]
  have ho : 1 ≤ ownSize t u ∧ ownSize t u ≤ 600000000000000 := by unfold ownSize; omega
  have key : ∀ (l : List Ex) (left : Int), (∀ x, x ∈ l → smallE x → ∀ left : Int, 0 < left → -1000000000000000 ≤ sizeE x left ∧ sizeE x left ≤ left) → smallL l → -1000000000000000 ≤ left → -1000000000000000 ≤ sizeL l left ∧ sizeL l left ≤ left := by
    intro l
    induction l with
    | nil => intro left _ _ h; rw [sizeL_nil]; omega
    | cons x r ihr =>
      intro left h1 h2 h3
      by_cases hp : 0 < left
      · rw [sizeL_pos hp]
        unfold smallL at h2
        have a := h1 x (by simp) h2.1 left hp
        have b := ihr (sizeE x left) (fun y hy => h1 y (by simp [hy])) h2.2 a.1
        omega
      · rw [sizeL_neg (by omega)]; omega
  have := key l (left - ownSize t u) ih h6 (by omega)
  omega
theorem size_weight (x : Ex) : ∀ left : Int, 0 < sizeE x left → sizeE x left = left - (weightE x : Int) := by
  refine Ex.ind (P := fun x => ∀ left : Int, 0 < sizeE x left → sizeE x left = left - (weightE x : Int)) (fun k t u l ih left hl => ?_) x
  rw [sizeE_mk] at hl ⊢
  have key : ∀ (l : List Ex) (left : Int), (∀ x, x ∈ l → ∀ left : Int, 0 < sizeE x left → sizeE x left = left - (weightE x : Int)) → 0 < sizeL l left → sizeL l left = left - (weightL l : Int) := by
    intro l
    induction l with
    | nil => intro left _ _; rw [sizeL_nil, weightL]; omega
    | cons x r ihr =>
      intro left h1 h2
      by_cases hp : 0 < left
      · rw [sizeL_pos hp] at h2 ⊢
        have b := ihr (sizeE x left) (fun y hy => h1 y (by simp [hy])) h2
        by_cases hq : 0 < sizeE x left
        · have a := h1 x (by simp) left hq
          rw [b, a, weightL]; omega
        · rw [sizeL_neg (by omega)] at h2; omega
      · rw [sizeL_neg (by omega)] at h2; omega
  rw [key l _ ih hl, weightE]
  unfold ownSize; omega
theorem weight_pos (x : Ex) : 1 ≤ weightE x := by obtain ⟨k, t, u, l⟩ := x; rw [weightE]; omega
theorem narrow_weight (n : Nat) (hn : n ≤ 1000000) (x : Ex) : weightE x ≤ n → narrowE x := by
  refine Ex.ind (P := fun x => weightE x ≤ n → narrowE x) (fun k t u l ih hw => ?_) x
  rw [weightE] at hw
  have key : ∀ (l : List Ex), (∀ x, x ∈ l → weightE x ≤ n → narrowE x) → weightL l ≤ n → l.length ≤ weightL l ∧ narrowL l := by
    intro l
    induction l with
    | nil => intro _ _; exact ⟨Nat.zero_le _, by unfold narrowL; trivial⟩
    | cons x r ihr =>
      intro h1 h2
      rw [weightL] at h2 ⊢
      have h3 := weight_pos x
      obtain ⟨a, b⟩ := ihr (fun y hy => h1 y (by simp [hy])) (by omega)
      exact ⟨by rw [List.length_cons]; omega, by unfold narrowL; exact ⟨h1 x (by simp) (by omega), b⟩⟩
  obtain ⟨a, b⟩ := key l ih (by omega)
  unfold narrowE
  exact ⟨by omega, b⟩
theorem few_weight {x : Ex} (h : 0 < sizeE x 400) : weightE x ≤ 400 := by
  have := size_weight x 400 h
  omega
theorem few_narrow {x : Ex} (h : 0 < sizeE x 400) : narrowE x := narrow_weight 400 (by decide) x (few_weight h)
set_option maxRecDepth 100000 in
set_option maxHeartbeats 4000000 in
theorem law_size_step (x : Ex) (hsm : smallE x) (left : Int) (hl0 : 0 < left) (hl4 : left ≤ 400) (ih : ∀ x', x' ∈ x.kids → ∀ (left : Int), 0 < left → left ≤ 400 → ∀ (v : Value) (W : World), ExAt (fun _ => True) W x' v → Calls Tryz.prog 11 #[v, .int .i64 left] W (Ret W (.int .i64 (sizeE x' left)))) (v : Value) (w : World) (hx : ExAt (fun _ => True) w x v) :
    Calls Tryz.prog 11 #[v, .int .i64 left] w (Ret w (.int .i64 (sizeE x left))) := by
  obtain ⟨k, t, u, l⟩ := x
  have HIH := Lib.hid ih
  unfold smallE at hsm
  obtain ⟨h1, h2, h3, h4, h5, h6⟩ := hsm
  have HSM := Lib.hid h6
  obtain ⟨kv, rfl, hk⟩ := exAt_iff.1 hx
  have HKID := Lib.hid hk
  have hl : ∃ a c, kv = .slice a l.length c := by rcases hk with ⟨rfl, a, c, rfl⟩ | ⟨b, o, c, rfl, _⟩ <;> exact ⟨_, _, rfl⟩
  obtain ⟨a, c, rfl⟩ := hl
  have HB := Lib.hid ((Below.refl w.heap.size w).alloc (Nat.le_refl _) (.cells (exL k t u (.slice a l.length c)).toArray 26))
  have HN0 := Lib.hid (heap_alloc_new w (.cells (exL k t u (.slice a l.length c)).toArray 26))
  have HS0 := Lib.hid (show sizeE (.mk k t u l) left = sizeL l (left - 1 - t.length - u.name.length - u.key.length - u.dft.length) by
    rw [sizeE_mk]
    have : left - ownSize t u = left - 1 - t.length - u.name.length - u.key.length - u.dft.length := by unfold ownSize; omega
    rw [this])
  obtain ⟨F, hF⟩ : ∃ F, sizeE (.mk k t u l) left = F := ⟨_, rfl⟩
  rw [hF] at HS0 ⊢
  clear ih hx hk hF h6
  go_enter Tryz.func11, Tryz.ntmps11
  go_upto_region 1 with fail
  generalize w.alloc (.cells (exL k t u (.slice a l.length c)).toArray 26) = W0 at *
  obtain ⟨p0, p1, p2, p3, p4, p5, p6, p7, p8, p9⟩ := ten_cells HN0.out
  obtain ⟨n, hn⟩ : ∃ n, l.length = n := ⟨_, rfl⟩
  rw [hn] at HKID h5 HN0 p9
  have HN := Lib.hid hn
  clear hn
  have e1 : -1000000000000000 ≤ left - 1 - (t.length : Int) - u.name.length - u.key.length - u.dft.length := by omega
  have e2 : left - 1 - (t.length : Int) - u.name.length - u.key.length - u.dft.length ≤ 400 := by omega
  go_upto_region 3 with fail
  clear p0 p1 p2 p3 p4 p5 p6 p7 p8 p9
  generalize left - 1 - (t.length : Int) - u.name.length - u.key.length - u.dft.length = L0 at *
  clear h1 h2 h3 h4 hl0 hl4
  go_loopw [1, 5] (fun lv iv wr => ∃ (i : Nat) (q : Int), i ≤ n ∧ iv = .int .i64 i ∧ lv = .int .i64 q ∧ -1000000000000000 ≤ q ∧ q ≤ 400 ∧ Hid (F = sizeL (l.drop i) q) ∧ Hid (Below W0.heap.size W0 wr)) (fun _ iv _ => n - (intOf iv).toNat)
  case atStart => exact ⟨0, L0, Nat.zero_le _, rfl, rfl, e1, e2, HS0, Lib.hid (Below.refl _ _)⟩
  case round =>
    clear e1 e2
    obtain ⟨i, q, hi, rfl, rfl, hq1, hq2, HF, HW⟩ := hrel
    have HBB := Lib.hid (HB.out.trans (HW.out.mono HB.out.size))
    have HQ := Lib.hid ((HW.out.block _ (Array.getElem?_eq_some_iff.1 HN0.out).1).trans HN0.out)
    obtain ⟨-, -, -, -, -, -, -, -, -, p9⟩ := ten_cells HQ.out
    by_cases hlt : i < n
    · have i1 : (i : Int) < (n : Int) := by omega
      have i0 : (0 : Int) ≤ (i : Int) := by omega
      by_cases hp : 0 < q
      · obtain ⟨x, hx⟩ : ∃ x, l[i]? = some x := ⟨_, List.getElem?_eq_getElem (by rw [HN.out]; exact hlt)⟩
        have HMEM := Lib.hid (show x ∈ (Ex.mk k t u l).kids from List.mem_of_getElem? hx)
        have hil : i < l.length := by rw [HN.out]; exact hlt
        have HF2 := Lib.hid (show F = sizeL (l.drop (i + 1)) (sizeE x q) by
          rw [HF.out, List.drop_eq_getElem_cons hil, sizeL_pos hp]
          have : l[i] = x := by rw [List.getElem?_eq_getElem hil] at hx; exact Option.some.inj hx
          rw [this])
        have hsz := size_bounds x (small_mem HSM.out HMEM.out) q hp
        obtain ⟨b, o, c', he, hlc, hbl, hrow⟩ := kids_row HKID.out hx
        rw [HN.out] at he
        obtain ⟨rfl, rfl⟩ : a = some ⟨b, o, none⟩ ∧ c = c' := by injection he with h1 h2 h3; exact ⟨h1, h3⟩
        obtain ⟨k1, t1, u1, a1, n1, c1, hk1⟩ := kid_get hrow hx HBB.out hbl
        obtain ⟨q2, hq3⟩ : ∃ q2, sizeE x q = q2 := ⟨_, rfl⟩
        rw [hq3] at hsz HF2
        have HCALL := Lib.hid (show Calls Tryz.prog 11 #[exV k1 t1 u1 (.slice a1 n1 c1), .int .i64 q] wr (Ret wr (.int .i64 q2)) from hq3 ▸ HIH.out x HMEM.out q hp hq2 _ wr (hk1.ex ⟨wr, Below.refl _ _⟩))
        obtain ⟨-, y0, y1, y2, y3, y4, y5, y6, y7, y8, y9⟩ := hk1
        have z0 := y0 ⟨wr, Below.refl _ _⟩
        have z1 := y1 ⟨wr, Below.refl _ _⟩
        have z2 := y2 ⟨wr, Below.refl _ _⟩
        have z3 := y3 ⟨wr, Below.refl _ _⟩
        have z4 := y4 ⟨wr, Below.refl _ _⟩
        have z5 := y5 ⟨wr, Below.refl _ _⟩
        have z6 := y6 ⟨wr, Below.refl _ _⟩
        have z7 := y7 ⟨wr, Below.refl _ _⟩
        have z8 := y8 ⟨wr, Below.refl _ _⟩
        have z9 := y9 ⟨wr, Below.refl _ _⟩
        dsimp only at z0 z1 z2 z3 z4 z5 z6 z7 z8 z9
        clear hx hrow hbl he hlc y0 y1 y2 y3 y4 y5 y6 y7 y8 y9 hq3 hil
        go_wp2_with fail
        refine HCALL.out.mono ?_
        rintro e w3 ⟨rfl, hb3⟩
        have HB3 := Lib.hid (HW.out.trans (hb3.mono HW.out.size))
        clear hb3 z0 z1 z2 z3 z4 z5 z6 z7 z8 z9 p9
        go_wp2_with fail
        go_roundw
        case rel => exact ⟨i + 1, q2, by omega, by go_num, rfl, by omega, by omega, HF2, HB3⟩
        case measure => (simp [intOf] <;> omega)
      · have HE := Lib.hid (show F = q by rw [HF.out, sizeL_neg (by omega)])
        go_wp2_with fail
        go_ret
        exact ⟨ret_int HE.out.symm, HBB.out⟩
    · obtain rfl : i = n := by omega
      have HE := Lib.hid (show F = q by rw [HF.out, List.drop_eq_nil_of_le (by rw [HN.out]; exact Nat.le_refl _), sizeL_nil])
      have i1 : ¬ (i : Int) < (i : Int) := by omega
      go_wp2_with fail
      go_ret
      exact ⟨ret_int HE.out.symm, HBB.out⟩
theorem law_size (x : Ex) : smallE x → ∀ (left : Int), 0 < left → left ≤ 400 → ∀ (v : Value) (w : World), ExAt (fun _ => True) w x v → Calls Tryz.prog 11 #[v, .int .i64 left] w (Ret w (.int .i64 (sizeE x left))) := by
  refine Ex.ind (P := fun x => smallE x → ∀ (left : Int), 0 < left → left ≤ 400 → ∀ (v : Value) (w : World), ExAt (fun _ => True) w x v → Calls Tryz.prog 11 #[v, .int .i64 left] w (Ret w (.int .i64 (sizeE x left)))) (fun k t u l ih hs left h1 h2 v w hx => ?_) x
  have hl : smallL l := by unfold smallE at hs; exact hs.2.2.2.2.2
  exact law_size_step (.mk k t u l) hs left h1 h2 (fun x' hx' left h1 h2 v W h3 => ih x' hx' (small_mem hl hx') left h1 h2 v W h3) v w hx
set_option maxRecDepth 100000 in
theorem law27_few (x : Ex) (hs : smallE x) (v : Value) (w : World) (hx : ExAt (fun _ => True) w x v) : Calls Tryz.prog 4 #[v] w (Ret w (.bool (decide (0 < sizeE x 400)))) := by
  obtain ⟨k, t, u, a, n, c, rfl⟩ := hx.ten
  have hA : Below w.heap.size w (w.alloc (.cells (exL k t u (.slice a n c)).toArray 26)) := (Below.refl _ _).alloc (Nat.le_refl _) _
  have HX := Lib.hid (hx.next hA)
  have HB := Lib.hid hA
  have HN := Lib.hid (heap_alloc_new w (.cells (exL k t u (.slice a n c)).toArray 26))
  clear hx hA
  go_enter Tryz.func4, Tryz.ntmps4
  go_upto_region 1 with fail
  generalize w.alloc (.cells (exL k t u (.slice a n c)).toArray 26) = W0 at *
  obtain ⟨p0, p1, p2, p3, p4, p5, p6, p7, p8, p9⟩ := ten_cells HN.out
  go_wp2_with fail
  refine (law_size x hs 400 (by decide) (by decide) _ W0 HX.out).mono ?_
  rintro e w1 ⟨rfl, hb1⟩
  have HB1 := Lib.hid (HB.out.trans (hb1.mono HB.out.size))
  clear hb1 p0 p1 p2 p3 p4 p5 p6 p7 p8 p9
  go_wp2_with fail
  go_ret
  exact ⟨rfl, HB1.out⟩
end Go.Proofs.YtbkhmkpbbggcbaaGreatDoor
