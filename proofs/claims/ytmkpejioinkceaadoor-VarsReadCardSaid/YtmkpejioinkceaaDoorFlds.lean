/- Rows of fields, and what a variable is where it is none. -/
import Derived.Test.YtmkpejioinkceaaDoorVarsGet2
import Derived.Test.YtmkpejioinkceaaDoorCopy
namespace Go.Proofs.YtmkpejioinkceaaDoor
open Go.RowKit
set_option linter.unusedVariables false

theorem fields_row {W : World} {b : Nat} {cs : Array Value} {t : TypeId} (fs : List Fld) (h : W.heap[b]? = some (.cells cs t)) (hcs : cs = (fcells fs).toArray) : FieldsAt W (.slice (some ⟨b, 0, none⟩) fs.length fs.length) fs := by
  subst hcs
  refine .inr ⟨b, 0, fs.length, rfl, Nat.le_refl _, (Array.getElem?_eq_some_iff.1 h).1, fun j f hf => ?_⟩
  obtain ⟨h1, h2⟩ := fcells_at fs j f hf
  rw [Nat.zero_add]
  exact ⟨(cell_of_row _ _ _ _ _ _ h).trans (by simpa using h1), (cell_of_row _ _ _ _ _ _ h).trans (by simpa using h2)⟩

theorem own_at {w w' : World} {base : Nat} {v : Value} {fs : List Fld} (h : FOwn w base v fs) (hb : Below w.heap.size w w') : FieldsAt w' v fs := (h.below hb).at
theorem bs2 (a b : Bs) : (⟨a.toArray⟩ ++ ⟨b.toArray⟩ : ByteArray) = ⟨(a ++ b).toArray⟩ := by apply ByteArray.ext; simp

theorem vwhole_no {h t : Bs} {fs : List Fld} {name : Bs} (hh : (vwhole h t fs name).2 = false) : (vwhole h t fs name).1 = [] := by
  rcases name_cases name with rfl | rfl | rfl | rfl | rfl | rfl | hn
  · exact empty_no hh
  · exact fget_no fs refererName hh
  · exact fget_no fs agentName hh
  · exact vcookies_no fs hh
  · exact optP_no _ hh
  · exact fget_no fs langName hh
  · have := vget_none (h := h) (t := t) (fs := fs) (key := []) (has := false) hn
    rw [show vwhole h t fs name = vget h t fs name [] false from rfl, this]
theorem vpart_no {t : Bs} {fs : List Fld} {name key : Bs} (hh : (vpart t fs name key).2 = false) : (vpart t fs name key).1 = [] := by
  rcases name_cases name with rfl | rfl | rfl | rfl | rfl | rfl | hn
  · rfl
  · rfl
  · exact vua_no fs key hh
  · exact optP_no _ hh
  · exact optP_no _ hh
  · exact langV_no _ hh
  · unfold vpart
    rw [name_ne hn (n := nHost) (by decide), name_ne hn (n := nReferer) (by decide), name_ne hn (n := nAgent) (by decide), name_ne hn (n := nCookie) (by decide), name_ne hn (n := nQuery) (by decide), name_ne hn (n := nLang) (by decide)]
    rfl
theorem vget_no {h t : Bs} {fs : List Fld} {name key : Bs} {has : Bool} (hh : (vget h t fs name key has).2 = false) : (vget h t fs name key has).1 = [] := by
  cases has
  · exact vwhole_no hh
  · unfold vget at hh ⊢
    cases hk : vkey key
    · rfl
    · rw [hk] at hh; exact vpart_no hh
end Go.Proofs.YtmkpejioinkceaaDoor
