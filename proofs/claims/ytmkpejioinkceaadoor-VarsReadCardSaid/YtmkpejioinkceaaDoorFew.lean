/- The law's few: may a request be gone through? -/
import Derived.Test.YtmkpejioinkceaaDoorOf
import Derived.Test.YtmkpejioinkceaaDoorGet
namespace Go.Proofs.YtmkpejioinkceaaDoor
open Go.RowKit
set_option linter.unusedVariables false

def fewItem (f : Fld) : Bool := decide (f.1.length + f.2.length ≤ 2000)
/-- 40 fields at most, of 2000 bytes each; a target of 2000. -/
def vfew (t : Bs) (fs : List Fld) : Bool := (fs.take 50).all fewItem && decide (fs.length ≤ 40) && decide (t.length ≤ 2000)

theorem few_lim {t : Bs} {fs : List Fld} (h : vfew t fs = true) : fs.length ≤ 40 ∧ t.length ≤ 2000 ∧ ∀ f ∈ fs, f.1.length + f.2.length ≤ 2000 := by
  unfold vfew at h
  simp only [Bool.and_eq_true, decide_eq_true_eq] at h
  obtain ⟨⟨h1, h2⟩, h3⟩ := h
  rw [List.take_of_length_le (by omega)] at h1
  refine ⟨h2, h3, fun f hf => ?_⟩
  have := List.all_eq_true.1 h1 f hf
  exact of_decide_eq_true this
theorem fall_step {α : Type} {p : α → Bool} {l : List α} {k : Nat} {x : α} (h : (l.take k).all p = true) (hx : l[k]? = some x) (hp : p x = true) : (l.take (k + 1)).all p = true := by
  rw [List.take_add_one, hx]; simp [h, hp]
theorem fall_stop {α : Type} {p : α → Bool} {l : List α} {k n : Nat} {x : α} (hk : k < n) (hx : l[k]? = some x) (hp : p x = false) : (l.take n).all p = false := by
  rw [List.all_eq_false]
  refine ⟨x, ?_, by simp [hp]⟩
  rw [List.mem_take_iff_getElem]
  obtain ⟨hl, he⟩ := List.getElem?_eq_some_iff.1 hx
  exact ⟨k, by omega, he⟩
theorem few_no {t : Bs} {fs : List Fld} {k : Nat} {f : Fld} (hk : k < 50) (hx : fs[k]? = some f) (hp : fewItem f = false) : vfew t fs = false := by
  unfold vfew; rw [fall_stop hk hx hp]; rfl
theorem few_end {t : Bs} {fs : List Fld} {k : Nat} (h : (fs.take k).all fewItem = true) (hk : fs.length ≤ k ∨ 50 ≤ k) : vfew t fs = (decide (fs.length ≤ 40) && decide (t.length ≤ 2000)) := by
  unfold vfew
  by_cases h40 : fs.length ≤ 40
  · have : fs.take 50 = fs.take k := by
      rcases hk with hk | hk
      · rw [List.take_of_length_le hk, List.take_of_length_le (by omega)]
      · rw [List.take_of_length_le (by omega), List.take_of_length_le (by omega)]
    rw [this, h, Bool.true_and]
  · rw [show decide (fs.length ≤ 40) = false from decide_eq_false h40, Bool.and_false]

set_option maxRecDepth 100000 in
theorem law_few_nil (m t bd : ByteArray) (mn : Int) (a : Option Addr) (c : Nat) (w : World) :
    Calls Tryd.prog 4 #[.agg #[.string m, .string t, .int .i64 mn, .slice a 0 c, .string bd]] w (Ret w (.bool (vfew t.data.toList []))) := by
  have HG := Lib.hid (show vfew t.data.toList [] = decide (t.data.toList.length ≤ 2000) by unfold vfew; rfl)
  have htl : t.data.toList.length = t.size := bs_size t
  go_enter Tryd.func4, Tryd.ntmps4
  go_wp2_with fail
  go_loop [3] (fun i => i = .int .i64 0) (fun i => 0)
  case atStart => rfl
  case round =>
    subst hrel
    by_cases h2 : t.size ≤ 2000
    · have hi : (t.size : Int) ≤ 2000 := by omega
      go_wp2
      go_ret
      exact ⟨ret_bool (by rw [HG.out, htl]; simp [h2]), (Below.refl _ _).alloc (Nat.le_refl _) _⟩
    · have hi : (2000 : Int) < (t.size : Int) := by omega
      go_wp2
      go_ret
      exact ⟨ret_bool (by rw [HG.out, htl]; simp [h2]; omega), (Below.refl _ _).alloc (Nat.le_refl _) _⟩

set_option maxRecDepth 100000 in
set_option maxHeartbeats 400000 in
theorem law_few_some (m t bd : ByteArray) (mn : Int) (b o c : Nat) (fs : List Fld) (w : World) (hc : fs.length ≤ c) (hb : b < w.heap.size) (hF : FCells w b o fs) (hs : ∀ f ∈ fs, f.1.length ≤ 140737488355328 ∧ f.2.length ≤ 140737488355328) (hlen : fs.length ≤ 140737488355328) :
    Calls Tryd.prog 4 #[.agg #[.string m, .string t, .int .i64 mn, .slice (some ⟨b, o, none⟩) fs.length c, .string bd]] w (Ret w (.bool (vfew t.data.toList fs))) := by
  have htl : t.data.toList.length = t.size := bs_size t
  have n1 : (w.alloc (.cells #[.string m, .string t, .int .i64 mn, .slice (some ⟨b, o, none⟩) fs.length c, .string bd] 24)).heap[w.heap.size]? = _ := heap_alloc_new w _
  have hb0 : Below w.heap.size w (w.alloc (.cells #[.string m, .string t, .int .i64 mn, .slice (some ⟨b, o, none⟩) fs.length c, .string bd] 24)) := (Below.refl _ _).alloc (Nat.le_refl _) _
  have hsz0 : (w.alloc (.cells #[.string m, .string t, .int .i64 mn, .slice (some ⟨b, o, none⟩) fs.length c, .string bd] 24)).heap.size = w.heap.size + 1 := by simp
  have HN1 := Lib.hid n1
  clear n1
  go_enter Tryd.func4, Tryd.ntmps4
  go_wp2_with fail
  generalize w.alloc (.cells #[.string m, .string t, .int .i64 mn, .slice (some ⟨b, o, none⟩) fs.length c, .string bd] 24) = W0 at *
  go_loopw [3] (fun i wr => ∃ k : Nat, k ≤ fs.length ∧ k ≤ 50 ∧ i = .int .i64 k ∧ Hid ((fs.take k).all fewItem = true) ∧ Below W0.heap.size W0 wr) (fun i _ => 50 - (intOf i).toNat)
  case atStart => exact ⟨0, Nat.zero_le _, by omega, rfl, Lib.hid rfl, Below.refl _ _⟩
  case round =>
    obtain ⟨k, hk, hk50, rfl, hno, hbel⟩ := hrel
    have hsz := hbel.size
    have n1 := (hbel.block w.heap.size (by omega)).trans HN1.out
    have c1 := cell_of_row _ _ 1 _ _ _ n1
    have c3 := cell_of_row _ _ 3 _ _ _ n1
    clear n1
    by_cases hlt : k < fs.length
    · by_cases h50 : k < 50
      · obtain ⟨f, hf⟩ : ∃ f, fs[k]? = some f := ⟨fs[k], List.getElem?_eq_getElem hlt⟩
        obtain ⟨h1, h2⟩ := ((hF.below hb0 hb).below hbel (by omega)) k f hf
        have hfl := hs f (List.mem_of_getElem? hf)
        have Hf := Lib.hid hf
        clear hf
        have i0 : (0 : Int) ≤ (k : Int) := by omega
        have i1 : (k : Int) < (fs.length : Int) := by omega
        have i2 : (k : Int) < 50 := by omega
        by_cases hit : f.1.length + f.2.length ≤ 2000
        · have Hi := Lib.hid (show fewItem f = true from decide_eq_true hit)
          go_wp2_with fail
          go_quiet (fail)
          go_wp2
          go_roundw
          case rel => exact ⟨k + 1, by omega, by omega, by go_num, Lib.hid (fall_step hno.out Hf.out Hi.out), ⟨hbel.os, hbel.tape, hbel.output, hbel.size, hbel.block⟩⟩
          case measure => (simp [intOf] <;> omega)
        · have Hi := Lib.hid (show fewItem f = false from decide_eq_false hit)
          have hit2 : (2000 : Int) < (f.1.length : Int) + (f.2.length : Int) := by omega
          go_wp2_with fail
          go_quiet (fail)
          go_wp2
          go_ret
          exact ⟨ret_bool (few_no (by omega) Hf.out Hi.out).symm, hb0.trans (Below.mono ⟨hbel.os, hbel.tape, hbel.output, hbel.size, hbel.block⟩ (by omega))⟩
      · have hk2 : k = 50 := by omega
        have HG := Lib.hid (few_end (t := t.data.toList) hno.out (.inr (by omega)))
        have h40 : (40 : Int) < (fs.length : Int) := by omega
        have h40' : ¬ fs.length ≤ 40 := by omega
        have i2 : (50 : Int) ≤ (k : Int) := by omega
        have i1 : (k : Int) < (fs.length : Int) := by omega
        clear hk2
        go_wp2
        go_ret
        exact ⟨ret_bool (by rw [HG.out]; simp [h40']), hb0.trans (hbel.mono (by omega))⟩
    · have HG := Lib.hid (few_end (t := t.data.toList) hno.out (.inl (by omega)))
      have i1 : (fs.length : Int) ≤ (k : Int) := by omega
      by_cases h40 : fs.length ≤ 40
      · have i2 : (fs.length : Int) ≤ 40 := by omega
        by_cases h2 : t.size ≤ 2000
        · have i3 : (t.size : Int) ≤ 2000 := by omega
          go_wp2
          go_ret
          exact ⟨ret_bool (by rw [HG.out, htl]; simp [h2, h40]), hb0.trans (hbel.mono (by omega))⟩
        · have i3 : (2000 : Int) < (t.size : Int) := by omega
          go_wp2
          go_ret
          exact ⟨ret_bool (by rw [HG.out, htl]; simp [h2, h40]; omega), hb0.trans (hbel.mono (by omega))⟩
      · have i2 : (40 : Int) < (fs.length : Int) := by omega
        go_wp2
        go_ret
        exact ⟨ret_bool (by rw [HG.out]; simp [h40]), hb0.trans (hbel.mono (by omega))⟩

theorem law_few (m t bd : ByteArray) (mn : Int) (a : Option Addr) (n c : Nat) (fs : List Fld) (w : World) (hF : FieldsAt w (.slice a n c) fs) (hs : ∀ f ∈ fs, f.1.length ≤ 140737488355328 ∧ f.2.length ≤ 140737488355328) (hlen : fs.length ≤ 140737488355328) :
    Calls Tryd.prog 4 #[.agg #[.string m, .string t, .int .i64 mn, .slice a n c, .string bd]] w (Ret w (.bool (vfew t.data.toList fs))) := by
  rcases hF with ⟨a', c', he, rfl⟩ | ⟨b, o, c', he, hc, hb, hcell⟩
  · cases he; exact law_few_nil m t bd mn a c w
  · cases he; exact law_few_some m t bd mn b o c fs w hc hb hcell hs hlen
end Go.Proofs.YtmkpejioinkceaaDoor
