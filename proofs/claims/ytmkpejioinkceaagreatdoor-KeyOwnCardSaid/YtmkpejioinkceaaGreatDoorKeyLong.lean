/- The law's functions long and few: may an address, and a reply's fields, be gone through? -/
import Derived.Test.YtmkpejioinkceaaGreatDoorLongP
import Derived.Test.YtmkpejioinkceaaGreatDoorCopy
import Derived.Test.YtmkpejioinkceaaGreatDoorText1
namespace Go.Proofs.YtmkpejioinkceaaGreatDoor
open Go.RowKit
set_option linter.unusedVariables false

set_option maxRecDepth 100000 in
theorem law17_long (u : U) (w : World) (hu : BigU u) : Calls Tryz.prog 8 #[uV u] w (Ret w (.bool (longU u))) := by
  have HB := Lib.hid (ubx_new w u)
  have HW := Lib.hid ((Below.refl w.heap.size w).alloc (Nat.le_refl _) (.cells #[.string ⟨u.scheme.toArray⟩, .string ⟨u.host.toArray⟩, .int .i64 u.port, .string ⟨u.path.toArray⟩, .string ⟨u.query.toArray⟩, .bool u.hq] 23))
  have HE := Lib.hid (show longU u = decide ((3000 : Int) < (u.scheme.length : Int) + u.host.length + u.path.length + u.query.length) by
    unfold longU; rw [decide_eq_decide]; omega)
  obtain ⟨l1, l2, l3, l4⟩ := hu
  obtain ⟨c0, c1, c2, c3, c4, c5⟩ := HB.out.cells
  go_enter Tryz.func8, Tryz.ntmps8
  go_wp2_with fail
  go_ret
  exact ⟨by rw [HE.out]; rfl, HW.out⟩

def kitem (f : Fld) : Bool := decide (f.1.length + f.2.length ≤ 3000)
/-- 40 fields at most, of 3000 bytes each. -/
def kfew (fs : List Fld) : Bool := (fs.take 50).all kitem && decide (fs.length ≤ 40)
theorem kfew_lim {fs : List Fld} (h : kfew fs = true) : fs.length ≤ 40 ∧ ∀ f ∈ fs, f.1.length + f.2.length ≤ 3000 := by
  unfold kfew at h
  simp only [Bool.and_eq_true, decide_eq_true_eq] at h
  obtain ⟨h1, h2⟩ := h
  rw [List.take_of_length_le (by omega)] at h1
  exact ⟨h2, fun f hf => of_decide_eq_true (List.all_eq_true.1 h1 f hf)⟩
theorem kfall_step {α : Type} {p : α → Bool} {l : List α} {k : Nat} {x : α} (h : (l.take k).all p = true) (hx : l[k]? = some x) (hp : p x = true) : (l.take (k + 1)).all p = true := by
  rw [List.take_add_one, hx]; simp [h, hp]
theorem kfall_stop {α : Type} {p : α → Bool} {l : List α} {k n : Nat} {x : α} (hk : k < n) (hx : l[k]? = some x) (hp : p x = false) : (l.take n).all p = false := by
  rw [List.all_eq_false]
  refine ⟨x, ?_, by simp [hp]⟩
  rw [List.mem_take_iff_getElem]
  obtain ⟨hl, he⟩ := List.getElem?_eq_some_iff.1 hx
  exact ⟨k, by omega, he⟩
theorem kfew_no {fs : List Fld} {k : Nat} {f : Fld} (hk : k < 50) (hx : fs[k]? = some f) (hp : kitem f = false) : kfew fs = false := by
  unfold kfew; rw [kfall_stop hk hx hp]; rfl
theorem kfew_end {fs : List Fld} {k : Nat} (h : (fs.take k).all kitem = true) (hk : fs.length ≤ k ∨ 50 ≤ k) : kfew fs = decide (fs.length ≤ 40) := by
  unfold kfew
  by_cases h40 : fs.length ≤ 40
  · have : fs.take 50 = fs.take k := by
      rcases hk with hk | hk
      · rw [List.take_of_length_le hk, List.take_of_length_le (by omega)]
      · rw [List.take_of_length_le (by omega), List.take_of_length_le (by omega)]
    rw [this, h, Bool.true_and]
  · rw [show decide (fs.length ≤ 40) = false from decide_eq_false h40, Bool.and_false]
theorem kret_bool {a b : Bool} (h : a = b) : Ending.returned (.bool a) = Ending.returned (.bool b) := by rw [h]

set_option maxRecDepth 100000 in
theorem law17_few_nil (a : Option Addr) (c : Nat) (w : World) :
    Calls Tryz.prog 14 #[.slice a 0 c] w (Ret w (.bool (kfew []))) := by
  go_enter Tryz.func14, Tryz.ntmps14
  go_wp2_with fail
  go_loop [3] (fun i => i = .int .i64 0) (fun i => 0)
  case atStart => rfl
  case round =>
    subst hrel
    go_wp2
    go_ret
    exact ⟨rfl, Below.refl _ _⟩

set_option maxRecDepth 100000 in
set_option maxHeartbeats 400000 in
theorem law17_few_some (b o c : Nat) (fs : List Fld) (w : World) (hc : fs.length ≤ c) (hb : b < w.heap.size) (hF : FCells w b o fs) (hs : ∀ f ∈ fs, f.1.length ≤ 140737488355328 ∧ f.2.length ≤ 140737488355328) (hlen : fs.length ≤ 140737488355328) :
    Calls Tryz.prog 14 #[.slice (some ⟨b, o, none⟩) fs.length c] w (Ret w (.bool (kfew fs))) := by
  go_enter Tryz.func14, Tryz.ntmps14
  go_wp2_with fail
  go_loopw [3] (fun i wr => ∃ k : Nat, k ≤ fs.length ∧ k ≤ 50 ∧ i = .int .i64 k ∧ Hid ((fs.take k).all kitem = true) ∧ Below w.heap.size w wr) (fun i _ => 50 - (intOf i).toNat)
  case atStart => exact ⟨0, Nat.zero_le _, by omega, rfl, Lib.hid rfl, Below.refl _ _⟩
  case round =>
    obtain ⟨k, hk, hk50, rfl, hno, hbel⟩ := hrel
    have hsz := hbel.size
    by_cases hlt : k < fs.length
    · by_cases h50 : k < 50
      · obtain ⟨f, hf⟩ : ∃ f, fs[k]? = some f := ⟨fs[k], List.getElem?_eq_getElem hlt⟩
        obtain ⟨h1, h2⟩ := (hF.below hbel hb) k f hf
        have hfl := hs f (List.mem_of_getElem? hf)
        have Hf := Lib.hid hf
        clear hf
        have i0 : (0 : Int) ≤ (k : Int) := by omega
        have i1 : (k : Int) < (fs.length : Int) := by omega
        have i2 : (k : Int) < 50 := by omega
        by_cases hit : f.1.length + f.2.length ≤ 3000
        · have Hi := Lib.hid (show kitem f = true from decide_eq_true hit)
          go_wp2_with fail
          go_quiet (fail)
          go_wp2
          go_roundw
          case rel => exact ⟨k + 1, by omega, by omega, by go_num, Lib.hid (kfall_step hno.out Hf.out Hi.out), ⟨hbel.os, hbel.tape, hbel.output, hbel.size, hbel.block⟩⟩
          case measure => (simp [intOf] <;> omega)
        · have Hi := Lib.hid (show kitem f = false from decide_eq_false hit)
          have hit2 : (3000 : Int) < (f.1.length : Int) + (f.2.length : Int) := by omega
          go_wp2_with fail
          go_quiet (fail)
          go_wp2
          go_ret
          exact ⟨kret_bool (kfew_no (by omega) Hf.out Hi.out).symm, ⟨hbel.os, hbel.tape, hbel.output, hbel.size, hbel.block⟩⟩
      · have hk2 : k = 50 := by omega
        have HG := Lib.hid (kfew_end hno.out (.inr (by omega)))
        have h40 : (40 : Int) < (fs.length : Int) := by omega
        have h40' : ¬ fs.length ≤ 40 := by omega
        have i2 : (50 : Int) ≤ (k : Int) := by omega
        have i1 : (k : Int) < (fs.length : Int) := by omega
        clear hk2
        go_wp2
        go_ret
        exact ⟨kret_bool (by rw [HG.out]; simp [h40']; omega), hbel⟩
    · have HG := Lib.hid (kfew_end hno.out (.inl (by omega)))
      have i1 : (fs.length : Int) ≤ (k : Int) := by omega
      by_cases h40 : fs.length ≤ 40
      · have i2 : (fs.length : Int) ≤ 40 := by omega
        go_wp2
        go_ret
        exact ⟨kret_bool (by rw [HG.out]; simp [h40]), hbel⟩
      · have i2 : (40 : Int) < (fs.length : Int) := by omega
        go_wp2
        go_ret
        exact ⟨kret_bool (by rw [HG.out]; simp [h40]; omega), hbel⟩

theorem law17_few (a : Option Addr) (n c : Nat) (fs : List Fld) (w : World) (hF : FieldsAt w (.slice a n c) fs) (hs : ∀ f ∈ fs, f.1.length ≤ 140737488355328 ∧ f.2.length ≤ 140737488355328) (hlen : fs.length ≤ 140737488355328) :
    Calls Tryz.prog 14 #[.slice a n c] w (Ret w (.bool (kfew fs))) := by
  rcases hF with ⟨a', c', he, rfl⟩ | ⟨b, o, c', he, hc, hb, hcell⟩
  · cases he; exact law17_few_nil a c w
  · cases he; exact law17_few_some b o c fs w hc hb hcell hs hlen
theorem kfew_ok {fs : List Fld} (h : kfew fs = true) : Lim fs := by
  obtain ⟨h1, h2⟩ := kfew_lim h
  exact ⟨by omega, fun f hf => by have := h2 f hf; omega⟩
end Go.Proofs.YtmkpejioinkceaaGreatDoor
