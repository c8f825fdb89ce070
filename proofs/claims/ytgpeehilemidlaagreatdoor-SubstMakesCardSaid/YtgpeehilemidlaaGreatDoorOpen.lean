/- Arguments opened: a request, and what is asked. -/
import Derived.Test.YtgpeehilemidlaaGreatDoorCopy
import Derived.ProofKit
import Derived.OpenShut
import Derived.ShutString
import Derived.ChangeOld
import Derived.Below
import Derived.Deep.Slices
import Derived.SizedLaws
import Derived.ChangeMaps5
namespace Go.Proofs.YtgpeehilemidlaaGreatDoor
open Go.RowKit Go.ChangeShapes Go.WideShapes
set_option linter.unusedVariables false

/-- A struct's fields: where each begins, and its type. -/
def sfields : Option TypeDesc → Option (List (Nat × TypeId))
  | some (.struct fs) => some (fs.toList.map fun f => (f.offset, f.type))
  | _ => none
theorem sfields_some {d : Option TypeDesc} {l : List (Nat × TypeId)} (h : sfields d = some l) : ∃ fs, d = some (.struct fs) ∧ fs.toList.map (fun f => (f.offset, f.type)) = l := by
  cases d with
  | none => cases h
  | some d =>
    cases d <;> first | (cases h; done) | (exact ⟨_, rfl, by simpa [sfields] using h⟩)

/-- No part of a datum is heavier than the form's reach. -/
def Light {H : Type} (t : TypeId) (d : DataW H) : Prop := ∀ n ∈ d.weights Tryz.prog t, n ≤ reachBytes
theorem light_arg {H : Type} {ts : List TypeId} {ds : List (DataW H)} (h : (DataW.weightsEach Tryz.prog ts ds).all (· ≤ reachBytes) = true) {j : Nat} {t : TypeId} {d : DataW H} (ht : ts[j]? = some t) (hd : ds[j]? = some d) : Light t d := fun n hn =>
  of_decide_eq_true (List.all_eq_true.1 h n (DataW.weights_mem_each ht hd n hn))
theorem light_field {H : Type} {t : TypeId} {fs : Array Field} {parts : List (DataW H)} (hu : Tryz.prog.underlying t = some (.struct fs)) (h : Light t (.agg parts)) {i : Nat} {f : Field} {d : DataW H} (hf : fs[i]? = some f) (hd : parts[i]? = some d) : Light f.type d := fun n hn => by
  refine h n ?_
  rw [DataW.weights, hu]
  exact DataW.weights_mem_each (j := i) (by simp [hf]) hd n hn
theorem mem_all {H : Type} {e : TypeId} : ∀ {l : List (DataW H)} {d : DataW H}, d ∈ l → ∀ n ∈ d.weights Tryz.prog e, n ∈ DataW.weightsAll Tryz.prog e l
  | [], d, h, n, hn => by cases h
  | x :: r, d, h, n, hn => by
    rw [DataW.weightsAll]
    rcases List.mem_cons.1 h with rfl | h
    · exact List.mem_append.2 (.inl hn)
    · exact List.mem_append.2 (.inr (mem_all h n hn))
theorem light_elem {H : Type} {t e : TypeId} {elems spare : List (DataW H)} (hu : Tryz.prog.underlying t = some (.slice e)) (h : Light t (.slice elems spare)) {d : DataW H} (hd : d ∈ elems) : Light e d := fun n hn => by
  refine h n ?_
  rw [DataW.weights, hu]
  exact List.mem_cons_of_mem _ (List.mem_append.2 (.inl (mem_all hd n hn)))
theorem light_slice {H : Type} {t e : TypeId} {elems spare : List (DataW H)} (hu : Tryz.prog.underlying t = some (.slice e)) (h : Light t (.slice elems spare)) : (elems.length + spare.length) * Tryz.prog.bytesOf e ≤ reachBytes := by
  refine h _ ?_
  rw [DataW.weights, hu]
  exact List.mem_cons_self
theorem light_string {H : Type} {t : TypeId} {s : Bs} (h : Light t (.lit (.string s) : DataW H)) : s.length ≤ reachBytes := h _ (by rw [DataW.weights]; exact List.mem_singleton.2 rfl)

section
variable {H : Type} {enc : TypeId × Value → H} {W : World} {base : Nat} {sp : Nat → Bool} {held : Bool}
theorem field_of {t : TypeId} {l : List (Nat × TypeId)} {fuel : Nat} {cs : List Value} {x : DataW H × List MemPlace} (hs : sfields (Tryz.prog.underlying t) = some l) (h : DataW.trod enc Tryz.prog W base sp held fuel t cs = some x)
    (i o : Nat) (ty : TypeId) (hl : l[i]? = some (o, ty)) (hc : Tryz.prog.cellsOf ty = 1) : ∃ y n, DataW.trod enc Tryz.prog W base sp held n ty ((cs.drop o).take 1) = some y ∧ (Light t x.1 → Light ty y.1) := by
  obtain ⟨fs, hu, hm⟩ := sfields_some hs
  obtain ⟨xs, n, _, hx, _, hlen, hg⟩ := DataW.trod_struct hu h
  rw [← hm, List.getElem?_map] at hl
  obtain ⟨f, hf, he⟩ := Option.map_eq_some_iff.1 hl
  simp only [Prod.mk.injEq] at he
  obtain ⟨rfl, rfl⟩ := he
  have hf' : fs[i]? = some f := by simpa using hf
  have := hg i f hf'
  rw [hc] at this
  have hil : i < xs.length := by rw [hlen]; exact (Array.getElem?_eq_some_iff.1 hf').1
  refine ⟨xs[i], n, by rw [this]; exact List.getElem?_eq_getElem hil, fun hL => ?_⟩
  rw [hx] at hL
  exact light_field hu hL hf' (by rw [List.getElem?_map, List.getElem?_eq_getElem hil]; rfl)
end

theorem sf_req : sfields (Tryz.prog.underlying 38) = some [(0, 9), (1, 9), (2, 3), (3, 36), (4, 9)] := by kernel_rfl
theorem sf_fld : sfields (Tryz.prog.underlying 58) = some [(0, 9), (1, 9)] := by kernel_rfl
theorem n_req : Tryz.prog.cellsOf 38 = 5 := by kernel_rfl
theorem n_fld : Tryz.prog.cellsOf 58 = 2 := by kernel_rfl
theorem n_str : Tryz.prog.cellsOf 9 = 1 := by kernel_rfl
theorem n_int : Tryz.prog.cellsOf 3 = 1 := by kernel_rfl
theorem n_bool : Tryz.prog.cellsOf 4 = 1 := by kernel_rfl
theorem n_flds : Tryz.prog.cellsOf 36 = 1 := by kernel_rfl
theorem u3 : Tryz.prog.underlying 3 = some (.int .i64) := by kernel_rfl
theorem u4 : Tryz.prog.underlying 4 = some .bool := by kernel_rfl

theorem list_of {α : Type} {p : Nat → α → Prop} : ∀ n : Nat, (∀ i, i < n → ∃ x, p i x) → ∃ l : List α, l.length = n ∧ ∀ i x, l[i]? = some x → p i x
  | 0, _ => ⟨[], rfl, fun i x h => by simp at h⟩
  | n + 1, h => by
    obtain ⟨l, hl, hp⟩ := list_of n fun i hi => h i (by omega)
    obtain ⟨x, hx⟩ := h n (by omega)
    refine ⟨l ++ [x], by simp [hl], fun i y hy => ?_⟩
    by_cases hi : i < n
    · rw [List.getElem?_append_left (by omega)] at hy; exact hp i y hy
    · have : i = n := by have := (List.getElem?_eq_some_iff.1 hy).1; simp at this; omega
      subst this
      rw [List.getElem?_append_right (by omega), hl] at hy
      simp at hy; subst hy; exact hx

/-- How long the fields' texts may be. -/
def Small (fs : List Fld) : Prop := fs.length ≤ 140737488351232 ∧ ∀ f ∈ fs, f.1.length ≤ 140737488351232 ∧ f.2.length ≤ 140737488351232
theorem bytes_fld : Tryz.prog.bytesOf 58 = 32 := by kernel_rfl

section
variable {H : Type} {enc : TypeId × Value → H} {W : World} {sp : Nat → Bool} {held : Bool}
theorem open_fields {fuel : Nat} {v : Value} {x : DataW H × List MemPlace} (h : DataW.trod enc Tryz.prog W 0 (fun _ => true) held fuel 36 [v] = some x) (hL : Light 36 x.1) : ∃ a n c fs, v = .slice a n c ∧ FieldsAt W (.slice a n c) fs ∧ Small fs := by
  rcases Go.Deep.open_slice u36 h with ⟨hcs, hx⟩ | ⟨a, len, cap, m, n, D, Pl, hcs, _, hl, hm, hmm, hx, hi⟩
  · simp only [List.cons.injEq, and_true] at hcs
    exact ⟨none, 0, 0, [], hcs, .inl ⟨none, 0, rfl, rfl⟩, Nat.zero_le _, fun f hf => by cases hf⟩
  · simp only [List.cons.injEq, and_true] at hcs
    simp only [if_true] at hmm
    rw [n_fld] at hi
    have key : ∀ i, i < len → ∃ f : Fld, W.cell? (a.add (i * 2)) = some (.string ⟨f.1.toArray⟩) ∧ W.cell? ((a.add (i * 2)).add 1) = some (.string ⟨f.2.toArray⟩) ∧ f.1.length ≤ 140737488351232 ∧ f.2.length ≤ 140737488351232 := fun i hil => by
      obtain ⟨cs', hc, ht⟩ := hi i (by omega)
      obtain ⟨_, hcl, hat⟩ := World.cells?_some hc
      obtain ⟨y0, n0, t0, L0⟩ := field_of sf_fld ht 0 0 _ rfl n_str
      obtain ⟨y1, n1, t1, L1⟩ := field_of sf_fld ht 1 1 _ rfl n_str
      match cs', hcl with
      | [e0, e1], _ =>
        have LD : Light 58 (D i) := light_elem u36 (by rw [hx] at hL; exact hL) (List.mem_map.2 ⟨i, List.mem_range.2 hil, rfl⟩)
        have M0 := L0 LD
        have M1 := L1 LD
        obtain ⟨s0, k0, rfl, z0⟩ := DataW.trod_string u9 t0
        obtain ⟨s1, k1, rfl, z1⟩ := DataW.trod_string u9 t1
        simp at k0 k1
        subst k0; subst k1
        have a0 := hat 0 (by omega)
        have a1 := hat 1 (by omega)
        rw [Addr.add_zero'] at a0
        exact ⟨(s0.data.toList, s1.data.toList), by simpa using a0, by simpa using a1, light_string M0, light_string M1⟩
    obtain ⟨fs, hfl, hfs⟩ := list_of len key
    obtain ⟨b, o, spot⟩ := a
    have hlen : len ≤ 140737488351232 := by
      have := light_slice u36 (by rw [hx] at hL; exact hL)
      rw [bytes_fld] at this
      simp only [List.length_map, List.length_range, reachBytes] at this
      omega
    refine ⟨_, _, _, fs, hcs, ?_, by omega, fun f hf => ?_⟩
    · by_cases h0 : len = 0
      · subst h0; exact .inl ⟨_, _, rfl, List.eq_nil_of_length_eq_zero hfl⟩
      · obtain ⟨f, hf⟩ : ∃ f, fs[0]? = some f := ⟨fs[0]'(by omega), List.getElem?_eq_getElem _⟩
        have h1 := (hfs 0 f hf).1
        have hspot : spot = none := by simpa [Addr.add] using World.cell?_spot h1
        subst hspot
        rw [add_at] at h1
        refine .inr ⟨b, o, cap, by rw [hfl], by omega, cell_lt h1, fun j g hg => ?_⟩
        obtain ⟨e1, e2, _⟩ := hfs j g hg
        rw [add_at] at e1 e2
        rw [add_at] at e2
        exact ⟨e1, e2⟩
    · obtain ⟨i, hi⟩ := List.mem_iff_getElem?.1 hf
      exact (hfs i f hi).2.2
set_option maxRecDepth 100000 in
theorem ok_struct {r : Reach} {b0 n : Nat} {t : TypeId} {l : List (Nat × TypeId)} {v : Value} (hs : sfields (Tryz.prog.underlying t) = some l) (hC : Tryz.prog.cellsOf t = n) (hv : Value.okWide Tryz.prog W r b0 t v) : ∃ cs : List Value, v = .agg cs.toArray ∧ cs.length = n := by
  obtain ⟨fs, hu, _⟩ := sfields_some hs
  obtain ⟨cs, rfl, hsz⟩ := okWide_struct hu hv
  exact ⟨cs.toList, by simp, by rw [← hC, ← hsz]; simp⟩
set_option maxRecDepth 100000 in
theorem open_req {r : Reach} {b0 : Nat} {v : Value} {d : DataW H} {p : List MemPlace} (hv : Value.okWide Tryz.prog W r b0 38 v) (h : DataW.Trod enc Tryz.prog W 0 (fun _ => true) held 38 v d p) (hL : Light 38 d) :
    ∃ (m t bd : ByteArray) (mn : Int) (a : Option Addr) (n c : Nat) (fs : List Fld), v = .agg #[.string m, .string t, .int .i64 mn, .slice a n c, .string bd] ∧ FieldsAt W (.slice a n c) fs ∧ Small fs ∧ m.size ≤ 140737488351232 ∧ t.size ≤ 140737488351232 ∧ bd.size ≤ 140737488351232 := by
  obtain ⟨l, rfl, hlen⟩ := ok_struct sf_req n_req hv
  match l, hlen with
  | [c0, c1, c2, c3, c4], _ =>
    obtain ⟨fuel, hf⟩ := h
    obtain ⟨y0, n0, t0, L0⟩ := field_of sf_req hf 0 0 _ rfl n_str
    obtain ⟨y1, n1, t1, L1⟩ := field_of sf_req hf 1 1 _ rfl n_str
    obtain ⟨y2, n2, t2, L2⟩ := field_of sf_req hf 2 2 _ rfl n_int
    obtain ⟨y3, n3, t3, L3⟩ := field_of sf_req hf 3 3 _ rfl n_flds
    obtain ⟨y4, n4, t4, L4⟩ := field_of sf_req hf 4 4 _ rfl n_str
    simp only [Value.cells, List.drop, List.take] at t0 t1 t2 t3 t4
    have M0 := L0 hL
    obtain ⟨s0, k0, rfl, z0⟩ := DataW.trod_string u9 t0
    have M1 := L1 hL
    obtain ⟨s1, k1, rfl, z1⟩ := DataW.trod_string u9 t1
    obtain ⟨i2, k2, _⟩ := DataW.trod_int u3 t2
    obtain ⟨a, n, c, gs, rfl, hF, hS⟩ := open_fields t3 (L3 hL)
    have M4 := L4 hL
    obtain ⟨s4, k4, rfl, z4⟩ := DataW.trod_string u9 t4
    simp only [List.cons.injEq, and_true] at k0 k1 k2 k4
    subst k0; subst k1; subst k2; subst k4
    exact ⟨_, _, _, _, _, _, _, gs, rfl, hF, hS, by rw [← bs_size]; exact light_string M0, by rw [← bs_size]; exact light_string M1, by rw [← bs_size]; exact light_string M4⟩
set_option maxRecDepth 100000 in
theorem open_str {r : Reach} {b0 : Nat} {v : Value} {d : DataW H} {p : List MemPlace} (hv : Value.okWide Tryz.prog W r b0 9 v) (h : DataW.Trod enc Tryz.prog W 0 (fun _ => true) held 9 v d p) (hL : Light 9 d) :
    ∃ s : ByteArray, v = .string s ∧ s.size ≤ 140737488351232 := by
  obtain ⟨s, rfl, rfl, _, _⟩ := Go.ChangeMaps.open_string u9 hv h
  exact ⟨s, rfl, by rw [← bs_size]; exact light_string hL⟩
set_option maxRecDepth 100000 in
theorem open_u8 {r : Reach} {b0 : Nat} {v : Value} {d : DataW H} {p : List MemPlace} (hv : Value.okWide Tryz.prog W r b0 5 v) (h : DataW.Trod enc Tryz.prog W 0 (fun _ => true) held 5 v d p) :
    ∃ m : Nat, v = .int .u8 (m : Int) ∧ m < 256 := by
  obtain ⟨n, rfl, _, _, hw⟩ := open_int u5 hv h
  have : 0 ≤ n ∧ n < 256 := by
    simp only [Lit.wf, Bool.and_eq_true] at hw
    have h1 := of_decide_eq_true hw.1
    have h2 := of_decide_eq_true hw.2
    have e1 : IntKind.u8.min = 0 := rfl
    have e2 : IntKind.u8.max = 255 := rfl
    omega
  exact ⟨n.toNat, by rw [Int.toNat_of_nonneg this.1], by omega⟩
set_option maxRecDepth 100000 in
theorem open_i64 {r : Reach} {b0 : Nat} {v : Value} {d : DataW H} {p : List MemPlace} (hv : Value.okWide Tryz.prog W r b0 3 v) (h : DataW.Trod enc Tryz.prog W 0 (fun _ => true) held 3 v d p) :
    ∃ n : Int, v = .int .i64 n := by
  obtain ⟨n, rfl, _⟩ := open_int u3 hv h
  exact ⟨n, rfl⟩
end
end Go.Proofs.YtgpeehilemidlaaGreatDoor
