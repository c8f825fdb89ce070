/- Which keys go, step by step: plain; and what lies in memory meanwhile. The laws' own functions over keys: plain. -/
import Derived.Test.YtmkpejioinkceaaGreatDoorKeyAdd
import Derived.Test.YtmkpejioinkceaaGreatDoorCopy
import Derived.Deep.Onto
namespace Go.Proofs.YtmkpejioinkceaaGreatDoor
open Go.RowKit
set_option linter.unusedVariables false

/-- The candidates of the first k names. -/
def candK (fs : List Fld) : Nat → List Bs
  | 0 => []
  | 1 => values fs locName
  | _ => cands fs
def outS (u : U) (fs : List Fld) (k : Nat) : List Bs × List Bs := (candK fs k).foldl (stepB u) (addB u ([], []) u)
theorem outS_name (u : U) (fs : List Fld) (k : Nat) (hk : k < 2) : ∃ nm : Bs, nm.length ≤ 100 ∧ [locName, clocName][k]? = some nm ∧ (values fs nm).foldl (stepB u) (outS u fs k) = outS u fs (k + 1) := by
  match k, hk with
  | 0, _ => exact ⟨locName, by decide, rfl, rfl⟩
  | 1, _ => exact ⟨clocName, by decide, rfl, by
    show (values fs clocName).foldl (stepB u) ((values fs locName).foldl (stepB u) (addB u ([], []) u)) = (values fs locName ++ values fs clocName).foldl (stepB u) (addB u ([], []) u)
    rw [List.foldl_append]⟩
theorem outS_end {u : U} {status : Int} {fs : List Fld} (h : goneOk u status = true) : goneB u status fs = (outS u fs 2).2 := by
  unfold goneB; rw [h]; rfl
theorem outS_start (u : U) (fs : List Fld) : outS u fs 0 = addB u ([], []) u := rfl
theorem add_len1 (u x : U) (st : List Bs × List Bs) : (addB u st x).1.length = st.1.length + 1 := by unfold addB; simp
theorem add_len2 (u x : U) (st : List Bs × List Bs) : (addB u st x).2.length ≤ st.2.length + 1 := by
  unfold addB
  show (bif _ then _ else _ : List Bs).length ≤ _
  cases (!st.1.contains (keyB x) && decide (whoB x = whoB u))
  · exact Nat.le_succ _
  · simp
theorem step_len1 (u : U) (st : List Bs × List Bs) (v : Bs) : (stepB u st v).1.length ≤ st.1.length + 1 := by
  unfold stepB
  cases (refB u v).2 == 0
  · exact Nat.le_succ _
  · exact Nat.le_of_eq (add_len1 _ _ _)
theorem fold_len1 (u : U) : ∀ (l : List Bs) (st : List Bs × List Bs), (l.foldl (stepB u) st).1.length ≤ st.1.length + l.length
  | [], _ => Nat.le_refl _
  | v :: l, st => by
    have h1 := fold_len1 u l (stepB u st v)
    have h2 := step_len1 u st v
    show (l.foldl (stepB u) (stepB u st v)).1.length ≤ _
    simp only [List.length_cons]; omega
theorem outS_len (u : U) {fs : List Fld} (hm : fs.length ≤ 1000) (k : Nat) : (outS u fs k).1.length ≤ 2001 ∧ (outS u fs k).2.length ≤ 2001 := by
  have hc : (candK fs k).length ≤ 2000 := by
    match k with
    | 0 => exact Nat.zero_le _
    | 1 => have := values_len fs locName; show (values fs locName).length ≤ _; omega
    | k + 2 => have := cands_len fs; show (cands fs).length ≤ _; omega
  have h1 := fold_len1 u (candK fs k) (addB u ([], []) u)
  have h2 := fold_len u (candK fs k) (addB u ([], []) u)
  have h3 := add_len1 u u ([], [])
  have h4 := add_len2 u u ([], [])
  simp only [List.length_nil] at h3 h4
  unfold outS
  omega
/-- Within one list. -/
def inS (u : U) (S : List Bs × List Bs) (ls : List Bs) (j : Nat) : List Bs × List Bs := (ls.take j).foldl (stepB u) S
theorem inS_end {u : U} {S : List Bs × List Bs} {ls : List Bs} {j : Nat} (h : ls.length ≤ j) : inS u S ls j = ls.foldl (stepB u) S := by
  unfold inS; rw [List.take_of_length_le h]
theorem inS_succ {u : U} {S : List Bs × List Bs} {ls : List Bs} {j : Nat} {v : Bs} (h : ls[j]? = some v) : inS u S ls (j + 1) = stepB u (inS u S ls j) v := by
  unfold inS
  rw [List.take_add_one, h, List.foldl_append]; rfl
theorem inS_len (u : U) {S : List Bs × List Bs} {ls : List Bs} (h1 : S.1.length ≤ 2001) (h2 : S.2.length ≤ 2001) (h : ls.length ≤ 1000) (j : Nat) : (inS u S ls j).1.length ≤ 3001 ∧ (inS u S ls j).2.length ≤ 3001 := by
  have e1 := fold_len1 u (ls.take j) S
  have e2 := fold_len u (ls.take j) S
  have e3 : (ls.take j).length ≤ ls.length := List.length_take_le' _ _
  unfold inS
  omega
theorem inS_yes {u : U} {S : List Bs × List Bs} {ls : List Bs} {j : Nat} {v : Bs} (h : ls[j]? = some v) (hr : (refB u v).2 = 0) : inS u S ls (j + 1) = addB u (inS u S ls j) (refB u v).1 := by
  rw [inS_succ h]; unfold stepB; rw [hr]; rfl
theorem inS_no {u : U} {S : List Bs × List Bs} {ls : List Bs} {j : Nat} {v : Bs} (h : ls[j]? = some v) (hr : ¬ (refB u v).2 = 0) : inS u S ls (j + 1) = inS u S ls j := by
  rw [inS_succ h]; unfold stepB; rw [beq_eq_false_iff_ne.2 hr]; rfl
theorem value_lim {fs : List Fld} (hl : Lim fs) {nm v : Bs} {j : Nat} (h : (values fs nm)[j]? = some v) : v.length ≤ 100000 := by
  have hm := List.mem_of_getElem? h
  unfold values at hm
  obtain ⟨f, hf, rfl⟩ := List.mem_map.1 hm
  have := hl.each f (List.mem_filter.1 hf).1
  omega
theorem refd_lim {u : U} {v : Bs} (h : (refB u v).2 = 0) : LimU (refB u v).1 := limU_ok (refd_ok h)

/-! In memory. -/
theorem cell_same {W W' : World} {b j : Nat} (h : W'.heap[b]? = W.heap[b]?) : W'.cell? ⟨b, j, none⟩ = W.cell? ⟨b, j, none⟩ := by
  unfold World.cell?
  show (match W'.heap[b]? with | _ => _) = _
  rw [h]
abbrev names2 : Obj := .cells #[.string ⟨locName.toArray⟩, .string ⟨clocName.toArray⟩] 9
/-- The values' list was made: it is one more block that nobody writes. -/
theorem GI.keepRow {w W W' : World} {u : U} {bu mb bm bl n : Nat} {K : List (Nat × Obj)} {st : List Bs × List Bs} {v : Value} {ls : List Bs} (h : GI w W u bu mb bm bl K st) (hb : Below W.heap.size W W') (hown : W'.ownsRow W.heap.size 9 1 v n (scells ls)) :
    ∃ K', GI w W' u bu mb bm bl K' st ∧ ∀ W2 st2, GI w W2 u bu mb bm bl K' st2 → StrsAt W2 v ls ∧ GI w W2 u bu mb bm bl K st2 := by
  have hs := StrsAt.of_own hown
  have hlt := hown.lt
  rcases hs with ⟨a, c, rfl, rfl⟩ | ⟨g, o, c, rfl, hc, hg, hcell⟩
  · exact ⟨K, h.next hb, fun W2 st2 h2 => ⟨.inl ⟨_, _, rfl, rfl⟩, h2⟩⟩
  · obtain ⟨ob, ho⟩ : ∃ ob, W'.heap[g]? = some ob := ⟨W'.heap[g], Array.getElem?_eq_getElem hg⟩
    refine ⟨(g, ob) :: K, h.keep hb (hlt g rfl).1 ho, fun W2 st2 h2 => ⟨.inr ⟨g, o, c, rfl, hc, ?_, ?_⟩, h2.drop⟩⟩
    · exact lt_of_at (h2.kept (g, ob) (List.mem_cons_self ..)).1
    · intro j l hl
      rw [cell_same ((h2.kept (g, ob) (List.mem_cons_self ..)).1.trans ho.symm)]
      exact hcell j l hl
theorem GI.start {w W : World} {u : U} {bu br : Nat} {o : Obj} (hW : Below w.heap.size w W) (hu : UBx W bu u) (hr : W.heap[br]? = some o) :
    GI w (((W.alloc (.map #[] 0)).alloc (.cells #[.map (some W.heap.size)] 51)).alloc (.cells #[.slice none 0 0] 34)) u bu W.heap.size (W.heap.size + 1) (W.heap.size + 1 + 1) [(br, o)] ([], []) := by
  have s1 : (W.alloc (.map #[] 0)).heap.size = W.heap.size + 1 := World.size_alloc _ _
  have hV := box1_new (W.alloc (.map #[] 0)) (.map (some W.heap.size)) 51
  rw [s1] at hV
  have hC := Cnt.start W
  have hsz := hW.size
  have hb2 : Below W.heap.size W ((W.alloc (.map #[] 0)).alloc (.cells #[.map (some W.heap.size)] 51)) := ((Below.refl _ _).alloc (Nat.le_refl _) _).alloc (by rw [s1]; omega) _
  have hC2 : Cnt ((W.alloc (.map #[] 0)).alloc (.cells #[.map (some W.heap.size)] 51)) W.heap.size [] := hC.next ((Below.refl _ _).alloc (Nat.le_refl _) _)
  have s3 : ((W.alloc (.map #[] 0)).alloc (.cells #[.map (some W.heap.size)] 51)).heap.size = W.heap.size + 1 + 1 := by rw [World.size_alloc, s1]
  generalize (W.alloc (.map #[] 0)).alloc (.cells #[.map (some W.heap.size)] 51) = W3 at *
  have hn : Below W3.heap.size W3 (W3.alloc (.cells #[.slice none 0 0] 34)) := (Below.refl _ _).alloc (Nat.le_refl _) _
  have hL := box1_new W3 (.slice none 0 0) 34
  rw [s3] at hL
  refine ⟨(hW.trans (hb2.mono hsz)).alloc (by rw [s3]; omega) _, (hu.next hb2).next hn, hV.next hn, hC2.next hn, ⟨_, hL, World.ownsRow_nil _ _ _ _, fun p _ => by simp [Value.ownBlock]⟩, ?_⟩
  intro p hp
  simp only [List.mem_singleton] at hp
  subst hp
  have hlt := lt_of_at hr
  exact ⟨(hn.block _ (by rw [s3]; omega)).trans ((hb2.block _ hlt).trans hr), by simp only; omega, by simp only; omega⟩
theorem ord4_start {w W : World} {bu : Nat} (h1 : w.heap.size ≤ bu) (h2 : bu < W.heap.size) : Ord4 w bu W.heap.size (W.heap.size + 1) (W.heap.size + 1 + 1) := ⟨h1, h2, Nat.lt_succ_self _, Nat.lt_succ_self _⟩
/-- One of the two names, where it lies. -/
theorem GI.name {w W : World} {u : U} {bu mb bm bl b7 k : Nat} {K : List (Nat × Obj)} {st : List Bs × List Bs} {nm : Bs} (h : GI w W u bu mb bm bl ((b7, names2) :: K) st) (hk : [locName, clocName][k]? = some nm) : W.cell? ⟨b7, k, none⟩ = some (.string ⟨nm.toArray⟩) := by
  have h7 := (h.kept _ (List.mem_cons_self ..)).1
  match k, hk with
  | 0, hk => cases hk; exact cell_of_row _ _ 0 _ _ _ h7
  | 1, hk => cases hk; exact cell_of_row _ _ 1 _ _ _ h7
theorem GI.rep {w W : World} {u : U} {bu mb bm bl b7 br : Nat} {o : Obj} {st : List Bs × List Bs} (h : GI w W u bu mb bm bl [(b7, names2), (br, o)] st) : W.heap[br]? = some o := (h.kept (br, o) (by simp)).1
theorem strs_at {W : World} {a : Option Addr} {n c j : Nat} {ls : List Bs} {v : Bs} (h : StrsAt W (.slice a n c) ls) (hv : ls[j]? = some v) : n = ls.length ∧ ∃ b o, a = some ⟨b, o, none⟩ ∧ ls.length ≤ c ∧ b < W.heap.size ∧ W.cell? ⟨b, o + j, none⟩ = some (.string ⟨v.toArray⟩) := by
  rcases h with ⟨a', c', he, rfl⟩ | ⟨b, o, c', he, hc, hlt, hcell⟩
  · simp at hv
  · injection he with h1 h2 h3
    subst h1; subst h2; subst h3
    exact ⟨rfl, b, o, rfl, hc, hlt, hcell j v hv⟩
end Go.Proofs.YtmkpejioinkceaaGreatDoor

namespace Go.Proofs.YtmkpejioinkceaaGreatDoor
open Go.Lib

theorem noU_ok : LimU noU := ⟨by decide, by decide, by decide, by decide⟩
theorem parse_ok9 (s : Bs) : okB (parseB s).1 = true ∨ (parseB s).1 = noU := by
  unfold parseB
  cases hl : decide (s.length ≤ maxURI)
  · exact .inr rfl
  · rw [cond_true]
    cases hp : portedB (rawB s) with
    | none => exact .inr rfl
    | some u =>
      show okB (if checkB u = 0 then (u, 0) else (noU, checkB u)).1 = true ∨ (if checkB u = 0 then (u, 0) else (noU, checkB u)).1 = noU
      by_cases hk : checkB u = 0
      · rw [if_pos hk]; exact .inl ((checkB_ok u).1 hk)
      · rw [if_neg hk]; exact .inr rfl
theorem parse_lim (s : Bs) : LimU (parseB s).1 := by
  rcases parse_ok9 s with h | h
  · exact limU_ok h
  · rw [h]; exact noU_ok
/-- Names and values, one behind the other, as fields. -/
def pairs : List Bs → List Fld
  | a :: b :: r => (a, b) :: pairs r
  | _ => []
theorem pairs_take : ∀ (l : List Bs) (k : Nat) (a b : Bs), l[2 * k]? = some a → l[2 * k + 1]? = some b → (pairs l).take (k + 1) = (pairs l).take k ++ [(a, b)]
  | [], k, a, b, h, _ => by simp at h
  | [x], 0, a, b, _, h => by simp at h
  | [x], k + 1, a, b, h, _ => by simp at h
  | x :: y :: r, 0, a, b, h1, h2 => by
    simp at h1 h2; subst h1; subst h2; simp [pairs]
  | x :: y :: r, k + 1, a, b, h1, h2 => by
    have e1 : 2 * (k + 1) = 2 * k + 1 + 1 := by omega
    rw [e1] at h1 h2
    simp only [List.getElem?_cons_succ] at h1 h2
    have := pairs_take r k a b h1 h2
    simp only [pairs, List.take_succ_cons, this, List.cons_append]
theorem pairs_len : ∀ (l : List Bs), (pairs l).length = l.length / 2
  | [] => rfl
  | [x] => by simp [pairs]
  | x :: y :: r => by simp only [pairs, List.length_cons, pairs_len r]; omega
theorem pairs_mem : ∀ (l : List Bs) (f : Fld), f ∈ pairs l → f.1 ∈ l ∧ f.2 ∈ l
  | [], f, h => by simp [pairs] at h
  | [x], f, h => by simp [pairs] at h
  | x :: y :: r, f, h => by
    rcases List.mem_cons.1 h with rfl | h
    · simp
    · have := pairs_mem r f h; simp [this.1, this.2]
theorem gone_len (u : U) (st : Int) {fs : List Fld} (h : fs.length ≤ 900) : LimS (goneB u st fs) := by
  cases hg : goneOk u st
  · rw [gone_no hg]; exact ⟨Nat.zero_le _, fun l hl => by cases hl⟩
  · have ho := gone_own fs hg
    have hl := ho.len
    refine ⟨by omega, fun l hl => ?_⟩
    obtain ⟨y, _, rfl, _⟩ := ho.each l hl
    have := key_len y; omega
/-! The reference's steps. -/
theorem ref_yes {u : U} {out : List Bs} {v : Bs} (h1 : (refB u v).2 = 0) (h2 : whoB (refB u v).1 = whoB u) (h3 : out.contains (keyB (refB u v).1) = false) : refStep u out v = out ++ [keyB (refB u v).1] := by
  unfold refStep; rw [h1, decide_eq_true h2, h3]; rfl
theorem ref_there {u : U} {out : List Bs} {v : Bs} (h3 : out.contains (keyB (refB u v).1) = true) : refStep u out v = out := by
  unfold refStep; rw [h3]; simp
theorem ref_no1 {u : U} {out : List Bs} {v : Bs} (h1 : ¬ (refB u v).2 = 0) : refStep u out v = out := by
  unfold refStep; rw [beq_eq_false_iff_ne.2 h1]; rfl
theorem ref_no2 {u : U} {out : List Bs} {v : Bs} (h2 : ¬ whoB (refB u v).1 = whoB u) : refStep u out v = out := by
  unfold refStep; rw [decide_eq_false h2]; simp
theorem refd_lim2 (u : U) (v : Bs) : LimU (refB u v).1 := by
  rcases ref_cases u v with ⟨v0, hv, hok⟩ | ⟨ec, hv, he⟩
  · rw [hv]; exact limU_ok (norm_ok hok)
  · rw [hv]; exact noU_ok
theorem refG_end {u : U} {status : Int} {fs : List Fld} (h : goneOk u status = true) : goneB u status fs = (cands fs).foldl (refStep u) [keyB u] := by
  rw [gone_ref]; unfold refGone; rw [h]; rfl
def refS (u : U) (l : List Bs) (j : Nat) : List Bs := (l.take j).foldl (refStep u) [keyB u]
theorem refS_succ {u : U} {l : List Bs} {j : Nat} {v : Bs} (h : l[j]? = some v) : refS u l (j + 1) = refStep u (refS u l j) v := by
  unfold refS
  rw [List.take_add_one, h, List.foldl_append]; rfl
theorem refS_end {u : U} {l : List Bs} {j : Nat} (h : l.length ≤ j) : refS u l j = l.foldl (refStep u) [keyB u] := by
  unfold refS; rw [List.take_of_length_le h]
theorem refStep_len (u : U) (out : List Bs) (v : Bs) : (refStep u out v).length ≤ out.length + 1 := by
  unfold refStep
  cases ((refB u v).2 == 0 && decide (whoB (refB u v).1 = whoB u) && !out.contains (keyB (refB u v).1))
  · exact Nat.le_succ _
  · simp
theorem refS_len (u : U) (l : List Bs) : ∀ j, (refS u l j).length ≤ 1 + j
  | 0 => by unfold refS; simp
  | j + 1 => by
    by_cases h : j < l.length
    · rw [refS_succ (List.getElem?_eq_getElem h)]
      have h1 := refStep_len u (refS u l j) l[j]
      have h2 := refS_len u l j
      omega
    · have h1 := refS_len u l j
      rw [refS_end (by omega)] at h1 ⊢
      omega
end Go.Proofs.YtmkpejioinkceaaGreatDoor
