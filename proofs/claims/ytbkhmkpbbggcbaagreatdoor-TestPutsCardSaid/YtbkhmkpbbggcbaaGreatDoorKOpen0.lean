/- Arguments opened: texts, numbers, parts of a struct. -/
import Derived.Test.YtbkhmkpbbggcbaaGreatDoorKBase
import Derived.ProofKit
import Derived.OpenShut
import Derived.ShutString
import Derived.ChangeOld
import Derived.Below
import Derived.Deep.Slices
import Derived.SizedLaws
import Derived.ChangeMaps5
namespace Go.Proofs.YtbkhmkpbbggcbaaGreatDoor
open Go.RowKit Go.ChangeShapes Go.WideShapes
set_option linter.unusedVariables false
def sfields : Option TypeDesc → Option (List (Nat × TypeId))
  | some (.struct fs) => some (fs.toList.map fun f => (f.offset, f.type))
  | _ => none
theorem sfields_some {d : Option TypeDesc} {l : List (Nat × TypeId)} (h : sfields d = some l) : ∃ fs, d = some (.struct fs) ∧ fs.toList.map (fun f => (f.offset, f.type)) = l := by
  cases d with
  | none => cases h
  | some d =>
    cases d <;> first | (cases h; done) | (exact ⟨_, rfl, by simpa [sfields] using h⟩)
def Light {H : Type} (t : TypeId) (d : DataW H) : Prop := ∀ n ∈ d.weights Tryz.prog t, n ≤ reachBytes
theorem light_arg {H : Type} {ts : List TypeId} {ds : List (DataW H)} (h : (DataW.weightsEach Tryz.prog ts ds).all (· ≤ reachBytes) = true) {j : Nat} {t : TypeId} {d : DataW H} (ht : ts[j]? = some t) (hd : ds[j]? = some d) : Light t d := fun n hn =>
  of_decide_eq_true (List.all_eq_true.1 h n (DataW.weights_mem_each ht hd n hn))
theorem light_field {H : Type} {t : TypeId} {fs : Array Field} {parts : List (DataW H)} (hu : Tryz.prog.underlying t = some (.struct fs)) (h : Light t (.agg parts)) {i : Nat} {f : Field} {d : DataW H} (hf : fs[i]? = some f) (hd : parts[i]? = some d) : Light f.type d := fun n hn => by
  refine h n ?_
  rw [DataW.weights, hu]
  exact DataW.weights_mem_each (j := i) (by simp [hf]) hd n hn
theorem mem_all {H : Type} {e : TypeId} : ∀ {l : List (DataW H)} {d : DataW H}, d ∈ l → ∀ n ∈ d.weights Tryz.prog e, n ∈ DataW.weightsAll Tryz.prog e l
  | [], d, h, n, hn => by cases h
  | x :: r, d, h, n, hn => by
    rw [DataW.weightsAll]
    rcases List.mem_cons.1 h with rfl | h
    · exact List.mem_append.2 (.inl hn)
    · exact List.mem_append.2 (.inr (mem_all h n hn))
theorem light_elem {H : Type} {t e : TypeId} {elems spare : List (DataW H)} (hu : Tryz.prog.underlying t = some (.slice e)) (h : Light t (.slice elems spare)) {d : DataW H} (hd : d ∈ elems) : Light e d := fun n hn => by
  refine h n ?_
  rw [DataW.weights, hu]
  exact List.mem_cons_of_mem _ (List.mem_append.2 (.inl (mem_all hd n hn)))
theorem light_slice {H : Type} {t e : TypeId} {elems spare : List (DataW H)} (hu : Tryz.prog.underlying t = some (.slice e)) (h : Light t (.slice elems spare)) : (elems.length + spare.length) * Tryz.prog.bytesOf e ≤ reachBytes := by
  refine h _ ?_
  rw [DataW.weights, hu]
  exact List.mem_cons_self
theorem light_string {H : Type} {t : TypeId} {s : Bs} (h : Light t (.lit (.string s) : DataW H)) : s.length ≤ reachBytes := h _ (by rw [DataW.weights]; exact List.mem_singleton.2 rfl)
section
variable {H : Type} {enc : TypeId × Value → H} {W : World} {base : Nat} {sp : Nat → Bool} {held : Bool}
end
theorem n_str : Tryz.prog.cellsOf 9 = 1 := by kernel_rfl
theorem n_int : Tryz.prog.cellsOf 3 = 1 := by kernel_rfl
theorem n_bool : Tryz.prog.cellsOf 4 = 1 := by kernel_rfl
theorem u3 : Tryz.prog.underlying 3 = some (.int .i64) := by kernel_rfl
theorem u4 : Tryz.prog.underlying 4 = some .bool := by kernel_rfl
theorem list_of {α : Type} {p : Nat → α → Prop} : ∀ n : Nat, (∀ i, i < n → ∃ x, p i x) → ∃ l : List α, l.length = n ∧ ∀ i x, l[i]? = some x → p i x
  | 0, _ => ⟨[], rfl, fun i x h => by simp at h⟩
  | n + 1, h => by
    obtain ⟨l, hl, hp⟩ := list_of n fun i hi => h i (by omega)
    obtain ⟨x, hx⟩ := h n (by omega)
    refine ⟨l ++ [x], by simp [hl], fun i y hy => ?_⟩
    by_cases hi : i < n
    · rw [List.getElem?_append_left (by omega)] at hy; exact hp i y hy
    · have : i = n := by have := (List.getElem?_eq_some_iff.1 hy).1; simp at this; omega
      subst this
      rw [List.getElem?_append_right (by omega), hl] at hy
      simp at hy; subst hy; exact hx
section
variable {H : Type} {enc : TypeId × Value → H} {W : World} {sp : Nat → Bool} {held : Bool}
set_option maxRecDepth 100000 in
theorem ok_struct {r : Reach} {b0 n : Nat} {t : TypeId} {l : List (Nat × TypeId)} {v : Value} (hs : sfields (Tryz.prog.underlying t) = some l) (hC : Tryz.prog.cellsOf t = n) (hv : Value.okWide Tryz.prog W r b0 t v) : ∃ cs : List Value, v = .agg cs.toArray ∧ cs.length = n := by
  obtain ⟨fs, hu, _⟩ := sfields_some hs
  obtain ⟨cs, rfl, hsz⟩ := okWide_struct hu hv
  exact ⟨cs.toList, by simp, by rw [← hC, ← hsz]; simp⟩
end
end Go.Proofs.YtbkhmkpbbggcbaaGreatDoor
