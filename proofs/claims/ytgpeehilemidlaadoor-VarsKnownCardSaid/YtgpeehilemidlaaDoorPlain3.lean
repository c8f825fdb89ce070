/- Plain facts on fields of a request, and lists of texts. -/
import Derived.Test.YtgpeehilemidlaaDoorPlain2
namespace Go.Proofs.YtgpeehilemidlaaDoor
open Go.Lib

abbrev Fld := Bs × Bs

/-- The values of the fields of a name. -/
def values (fs : List Fld) (name : Bs) : List Bs := (fs.filter fun f => same f.1 name).map (·.2)

theorem values_nil (name : Bs) : values [] name = [] := rfl
theorem values_append (a b : List Fld) (name : Bs) : values (a ++ b) name = values a name ++ values b name := by simp [values]
theorem take_snoc {α : Type} (l : List α) (k : Nat) (x : α) (h : l[k]? = some x) : l.take (k + 1) = l.take k ++ [x] := by
  rw [List.take_add_one, h]; rfl
theorem values_yes (fs : List Fld) (name : Bs) (k : Nat) (f : Fld) (h : fs[k]? = some f) (hs : same f.1 name = true) : values (fs.take (k + 1)) name = values (fs.take k) name ++ [f.2] := by
  rw [take_snoc fs k f h, values_append]; simp [values, hs]
theorem values_no (fs : List Fld) (name : Bs) (k : Nat) (f : Fld) (h : fs[k]? = some f) (hs : same f.1 name = false) : values (fs.take (k + 1)) name = values (fs.take k) name := by
  rw [take_snoc fs k f h, values_append]; simp [values, hs]
theorem values_len (fs : List Fld) (name : Bs) : (values fs name).length ≤ fs.length := by
  unfold values; rw [List.length_map]; exact List.length_filter_le _ _
theorem values_take_len (fs : List Fld) (name : Bs) (k : Nat) : (values (fs.take k) name).length ≤ k := by
  have := values_len (fs.take k) name
  rw [List.length_take] at this; omega

/-- A list of fields that is not too long, of which none is. -/
structure Lim (fs : List Fld) : Prop where
  many : fs.length ≤ 1000
  each : ∀ f ∈ fs, f.1.length + f.2.length ≤ 100000

theorem Lim.get {fs : List Fld} (h : Lim fs) {k : Nat} {f : Fld} (hf : fs[k]? = some f) : f.1.length + f.2.length ≤ 100000 := h.each f (List.mem_of_getElem? hf)

/-- Texts of which none is too long, and that are not too many. -/
structure LimS (ls : List Bs) : Prop where
  many : ls.length ≤ 1000
  each : ∀ l ∈ ls, l.length ≤ 100000

theorem LimS.get {ls : List Bs} (h : LimS ls) {k : Nat} {l : Bs} (hf : ls[k]? = some l) : l.length ≤ 100000 := h.each l (List.mem_of_getElem? hf)
theorem Lim.values {fs : List Fld} (h : Lim fs) (name : Bs) : LimS (values fs name) := by
  refine ⟨Nat.le_trans (values_len fs name) h.many, fun l hl => ?_⟩
  unfold Go.Proofs.YtgpeehilemidlaaDoor.values at hl
  obtain ⟨f, hf, rfl⟩ := List.mem_map.1 hl
  have := h.each f (List.mem_filter.1 hf).1
  omega

theorem lens_le (ls : List Bs) (h : ∀ l ∈ ls, l.length ≤ 100000) : lens ls ≤ 100000 * ls.length := by
  induction ls with
  | nil => simp [lens]
  | cons l ls ih =>
    have h1 := h l (by simp)
    have h2 := ih fun x hx => h x (by simp [hx])
    unfold lens at h2 ⊢
    simp only [List.map_cons, List.sum_cons, List.length_cons]
    omega

theorem join_len {ls : List Bs} (h : LimS ls) (sep : Bs) (hs : sep.length ≤ 2) : (join ls sep).length ≤ 100002000 := by
  cases ls with
  | nil => simp [join_nil]
  | cons x r =>
    rw [join_length]
    have := lens_le (x :: r) h.each
    have h1 := h.many
    simp only [List.length_cons] at h1 this
    have : sep.length * r.length ≤ 2 * r.length := Nat.mul_le_mul_right _ hs
    omega

/-- All values, joined by a comma and a blank; is there one? -/
def fget (fs : List Fld) (name : Bs) : Bs × Bool := (join (values fs name) [44, 32], decide (0 < (values fs name).length))

theorem join_take (ls : List Bs) (sep : Bs) (k : Nat) (l : Bs) (hk : 0 < k) (h : ls[k]? = some l) : join (ls.take (k + 1)) sep = join (ls.take k) sep ++ sep ++ l := by
  cases ls with
  | nil => simp at h
  | cons x r =>
    cases k with
    | zero => omega
    | succ k =>
      simp only [List.take_succ_cons, join_cons]
      rw [joinTail_take_succ sep r k l (by simpa using h)]
      simp
theorem join_take0 (ls : List Bs) (sep : Bs) (l : Bs) (h : ls[0]? = some l) : join (ls.take 1) sep = l := by
  cases ls with
  | nil => simp at h
  | cons x r => simp at h; subst h; simp [join_one]
theorem join_take_le {ls : List Bs} (h : LimS ls) (sep : Bs) (hs : sep.length ≤ 2) (k : Nat) : (join (ls.take k) sep).length ≤ 100002000 :=
  join_len ⟨by rw [List.length_take]; have := h.many; omega, fun l hl => h.each l (List.mem_of_mem_take hl)⟩ sep hs
end Go.Proofs.YtgpeehilemidlaaDoor
