/- A tree that came in. How great a tree is: the walks of size and few; a tree that may be gone through is not great. -/
import Derived.Test.YtehdeclpighdeaaGreatDoorKOpen0
import Derived.Test.YtehdeclpighdeaaGreatDoorKTestE6
import Derived.Test.YtehdeclpighdeaaGreatDoorKTestBackP
namespace Go.Proofs.YtehdeclpighdeaaGreatDoor
open Go.RowKit Go.ChangeShapes Go.WideShapes
set_option linter.unusedVariables false
mutual
def smallE : Ex → Prop
  | .mk _ t u l => t.length ≤ 140737488351232 ∧ u.name.length ≤ 140737488351232 ∧ u.key.length ≤ 140737488351232 ∧ u.dft.length ≤ 140737488351232 ∧ l.length ≤ 140737488351232 ∧ smallL l
def smallL : List Ex → Prop
  | [] => True
  | x :: r => smallE x ∧ smallL r
end
theorem small_mem : ∀ {l : List Ex} {x : Ex}, smallL l → x ∈ l → smallE x
  | [], _, _, h => by cases h
  | y :: r, x, h, hx => by
    unfold smallL at h
    rcases List.mem_cons.1 hx with e | hx
    · rw [e]; exact h.1
    · exact small_mem h.2 hx
theorem small_all : ∀ {l : List Ex}, (∀ x, x ∈ l → smallE x) → smallL l
  | [], _ => by unfold smallL; trivial
  | y :: r, h => by unfold smallL; exact ⟨h y (by simp), small_all fun x hx => h x (by simp [hx])⟩
theorem sf_ex : sfields (Tryz.prog.underlying 27) = some [(0, 3), (1, 9), (2, 24), (9, 25)] := by kernel_rfl
theorem sf_use : sfields (Tryz.prog.underlying 24) = some [(0, 3), (1, 3), (2, 9), (3, 9), (4, 9), (5, 4), (6, 4)] := by kernel_rfl
theorem n_ex : Tryz.prog.cellsOf 27 = 10 := by kernel_rfl
theorem n_use7 : Tryz.prog.cellsOf 24 = 7 := by kernel_rfl
theorem n_exs : Tryz.prog.cellsOf 25 = 1 := by kernel_rfl
theorem b_ex : Tryz.prog.bytesOf 27 ≥ 100 := by decide +kernel
theorem ul_ex : Tryz.prog.underlying 25 = some (.slice 27) := by kernel_rfl
section
variable {H : Type} {enc : TypeId × Value → H} {W : World} {held : Bool}
theorem field_ofN {t : TypeId} {l : List (Nat × TypeId)} {fuel : Nat} {cs : List Value} {x : DataW H × List MemPlace} (hs : sfields (Tryz.prog.underlying t) = some l) (h : DataW.trod enc Tryz.prog W 0 (fun _ => true) held fuel t cs = some x)
    (i o m : Nat) (ty : TypeId) (hl : l[i]? = some (o, ty)) (hc : Tryz.prog.cellsOf ty = m) : ∃ y n, fuel = n + 1 ∧ DataW.trod enc Tryz.prog W 0 (fun _ => true) held n ty ((cs.drop o).take m) = some y ∧ (Light t x.1 → Light ty y.1) := by
  obtain ⟨fs, hu, hm⟩ := sfields_some hs
  obtain ⟨xs, n, hfu, hx, _, hlen, hg⟩ := DataW.trod_struct hu h
  rw [← hm, List.getElem?_map] at hl
  obtain ⟨f, hf, he⟩ := Option.map_eq_some_iff.1 hl
  simp only [Prod.mk.injEq] at he
  obtain ⟨rfl, rfl⟩ := he
  have hf' : fs[i]? = some f := by simpa using hf
  have := hg i f hf'
  rw [hc] at this
  have hil : i < xs.length := by rw [hlen]; exact (Array.getElem?_eq_some_iff.1 hf').1
  refine ⟨xs[i], n, hfu, by rw [this]; exact List.getElem?_eq_getElem hil, fun hL => ?_⟩
  rw [hx] at hL
  exact light_field hu hL hf' (by rw [List.getElem?_map, List.getElem?_eq_getElem hil]; rfl)
theorem rowAt_of {W : World} {b : Nat} : ∀ {l : List Ex} {o : Nat}, (∀ i x, l[i]? = some x → ∃ cs, ExAt (fun _ => True) W x (.agg cs) ∧ CellsAt W b (o + i * 10) cs.toList) → RowAt (fun _ => True) W l b o
  | [], _, _ => rowAt_nil
  | x :: r, o, h => by
    rw [rowAt_cons]
    refine ⟨?_, rowAt_of fun i y hy => ?_⟩
    · have := h 0 x rfl
      simpa using this
    · have := h (i + 1) y (by simpa using hy)
      rw [show o + (i + 1) * 10 = o + 10 + i * 10 by omega] at this
      exact this
set_option maxRecDepth 100000 in
theorem open_ex_fuel : ∀ (fuel : Nat) (cs : List Value) (x : DataW H × List MemPlace), DataW.trod enc Tryz.prog W 0 (fun _ => true) held fuel 27 cs = some x → Light 27 x.1 → ∃ E : Ex, ExAt (fun _ => True) W E (.agg cs.toArray) ∧ smallE E := by
  intro fuel
  induction fuel using Nat.strongRecOn with
  | ind fuel ih =>
  intro cs x hf hL
  have hlen : cs.length = 10 := by
    obtain ⟨fs, hu, _⟩ := sfields_some sf_ex
    obtain ⟨_, _, _, _, h, _⟩ := DataW.trod_struct hu hf
    rw [h, n_ex]
  match cs, hlen with
  | [c0, c1, c2, c3, c4, c5, c6, c7, c8, c9], _ =>
    obtain ⟨y0, n0, _, t0, L0⟩ := field_ofN sf_ex hf 0 0 1 _ rfl n_int
    obtain ⟨y1, n1, _, t1, L1⟩ := field_ofN sf_ex hf 1 1 1 _ rfl n_str
    obtain ⟨y2, n2, _, t2, L2⟩ := field_ofN sf_ex hf 2 2 7 _ rfl n_use7
    obtain ⟨y3, n3, e3, t3, L3⟩ := field_ofN sf_ex hf 3 9 1 _ rfl n_exs
    simp only [List.drop, List.take] at t0 t1 t2 t3
    obtain ⟨v0, m0, _, r0, M0⟩ := field_ofN sf_use t2 0 0 1 _ rfl n_int
    obtain ⟨v1, m1, _, r1, M1⟩ := field_ofN sf_use t2 1 1 1 _ rfl n_int
    obtain ⟨v2, m2, _, r2, M2⟩ := field_ofN sf_use t2 2 2 1 _ rfl n_str
    obtain ⟨v3, m3, _, r3, M3⟩ := field_ofN sf_use t2 3 3 1 _ rfl n_str
    obtain ⟨v4, m4, _, r4, M4⟩ := field_ofN sf_use t2 4 4 1 _ rfl n_str
    obtain ⟨v5, m5, _, r5, M5⟩ := field_ofN sf_use t2 5 5 1 _ rfl n_bool
    obtain ⟨v6, m6, _, r6, M6⟩ := field_ofN sf_use t2 6 6 1 _ rfl n_bool
    simp only [List.drop, List.take] at r0 r1 r2 r3 r4 r5 r6
    have Q1 := L1 hL
    have Q2 := M2 (L2 hL)
    have Q3 := M3 (L2 hL)
    have Q4 := M4 (L2 hL)
    have Q9 := L3 hL
    obtain ⟨i0, k0, _⟩ := DataW.trod_int u3 t0
    obtain ⟨s1, k1, rfl, z1⟩ := DataW.trod_string u9 t1
    obtain ⟨j0, q0, _⟩ := DataW.trod_int u3 r0
    obtain ⟨j1, q1, _⟩ := DataW.trod_int u3 r1
    obtain ⟨s2, q2, rfl, z2⟩ := DataW.trod_string u9 r2
    obtain ⟨s3, q3, rfl, z3⟩ := DataW.trod_string u9 r3
    obtain ⟨s4, q4, rfl, z4⟩ := DataW.trod_string u9 r4
    obtain ⟨b5, q5, _⟩ := DataW.trod_bool u4 r5
    obtain ⟨b6, q6, _⟩ := DataW.trod_bool u4 r6
    simp only [List.cons.injEq, and_true] at k0 k1 q0 q1 q2 q3 q4 q5 q6
    subst k0; subst k1; subst q0; subst q1; subst q2; subst q3; subst q4; subst q5; subst q6
    have hkids : ∃ l : List Ex, KidsAt (fun _ => True) W l c9 ∧ l.length ≤ 140737488351232 ∧ smallL l := by
      rcases DataW.trod_slice ul_ex t3 with ⟨hcs, hx⟩ | ⟨a, len, cap, elems, rest, n, hfu, hcs, hx, _, hl, hm, hel, hi, _⟩
      · simp only [List.cons.injEq, and_true] at hcs
        exact ⟨[], .inl ⟨rfl, none, 0, hcs⟩, Nat.zero_le _, by unfold smallL; trivial⟩
      · simp only [List.cons.injEq, and_true] at hcs
        rw [n_ex] at hi
        have hxs : y3.1 = .slice (elems.map (·.1)) (rest.map (·.1)) := by rw [hx]
        rw [hxs] at Q9
        have key : ∀ i, i < len → ∃ E : Ex, ∃ cs', W.cells? 0 (a.add (i * 10)) 10 = some cs' ∧ ExAt (fun _ => True) W E (.agg cs'.toArray) ∧ smallE E := fun i hil => by
          have h1 := hi i hil
          rw [List.getElem?_eq_getElem (show i < elems.length by omega)] at h1
          obtain ⟨cs', hc, ht⟩ := Option.bind_eq_some_iff.1 h1
          have LD := light_elem ul_ex Q9 (d := (elems[i]'(by omega)).1) (List.mem_map.2 ⟨_, List.getElem_mem _, rfl⟩)
          obtain ⟨E, hE, hS⟩ := ih n (by omega) cs' _ ht LD
          exact ⟨E, cs', hc, hE, hS⟩
        obtain ⟨l, hll, hp⟩ := list_of len key
        obtain ⟨b, o, spot⟩ := a
        have hlen : len ≤ 140737488351232 := by
          have h1 := light_slice ul_ex Q9
          have h2 := b_ex
          simp only [List.length_map, hel, reachBytes] at h1
          have h3 : len * 100 ≤ (len + rest.length) * Tryz.prog.bytesOf 27 := Nat.mul_le_mul (Nat.le_add_right _ _) h2
          omega
        refine ⟨l, ?_, by omega, small_all fun x hx => ?_⟩
        · by_cases h0 : len = 0
          · subst h0; exact .inl ⟨List.eq_nil_of_length_eq_zero hll, _, _, hcs⟩
          · obtain ⟨E, hE⟩ : ∃ E, l[0]? = some E := ⟨l[0]'(by omega), List.getElem?_eq_getElem _⟩
            obtain ⟨cs', hc, _, _⟩ := hp 0 E hE
            obtain ⟨_, hcl, hat⟩ := World.cells?_some hc
            have h1 := hat 0 (by omega)
            have hspot : spot = none := by
              cases hv : cs'[0]? with
              | none => rw [List.getElem?_eq_none_iff] at hv; omega
              | some v => rw [hv] at h1; simpa [Addr.add] using World.cell?_spot h1
            subst hspot
            refine .inr ⟨b, o, cap, by rw [hcs, hll], by omega, trivial, ?_, rowAt_of fun i x hx => ?_⟩
            · cases hv : cs'[0]? with
              | none => rw [List.getElem?_eq_none_iff] at hv; omega
              | some v =>
                rw [hv, add_at, add_at] at h1
                exact cell_lt h1
            · obtain ⟨cs2, hc2, hE2, _⟩ := hp i x hx
              obtain ⟨_, hcl2, hat2⟩ := World.cells?_some hc2
              refine ⟨_, hE2, fun j v hv => ?_⟩
              have hv : cs2[j]? = some v := by simpa using hv
              have h2 := hat2 j (by have := (List.getElem?_eq_some_iff.1 hv).1; omega)
              rw [hv, add_at, add_at] at h2
              exact h2
        · obtain ⟨i, hi⟩ := List.mem_iff_getElem?.1 hx
          obtain ⟨_, _, _, hS⟩ := hp i x hi
          exact hS
    obtain ⟨l, hk, hl, hs⟩ := hkids
    refine ⟨.mk i0 s1.data.toList ⟨j0, j1, s2.data.toList, s3.data.toList, s4.data.toList, b5, b6⟩ l, exAt_iff.2 ⟨c9, rfl, hk⟩, ?_⟩
    unfold smallE
    exact ⟨light_string Q1, light_string Q2, light_string Q3, light_string Q4, hl, hs⟩
end
end Go.Proofs.YtehdeclpighdeaaGreatDoor
namespace Go.Proofs.YtehdeclpighdeaaGreatDoor
open Go.RowKit
set_option linter.unusedVariables false
end Go.Proofs.YtehdeclpighdeaaGreatDoor
