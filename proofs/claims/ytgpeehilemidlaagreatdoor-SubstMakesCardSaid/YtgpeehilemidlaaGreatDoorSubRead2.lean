/- The walks of the reader's other steps: a default, the end. -/
import Derived.Test.YtgpeehilemidlaaGreatDoorSubRead
namespace Go.Proofs.YtgpeehilemidlaaGreatDoor
open Go.RowKit
set_option linter.unusedVariables false
attribute [local go_sem ↓] Go.wp_at_zero Go.wp_at_succ

set_option maxRecDepth 100000 in
theorem rd_end (p : Nat) (r nm k d : Bs) (hk hd : Bool) (w : World) (hb : RB w p r nm k d hk hd) :
    Calls Tryz.prog 24 #[.pointer (some ⟨p, 0, none⟩)] w fun e w' => e = .returned (.bool (Lib.hasPrefix r [41])) ∧ RB w' p (Lib.trimPrefix r [41]) nm k d hk hd ∧ Turn p w w' := by
  have c0 := hb.rc.c0
  have f0 := hb.rc.f0
  have HB := Lib.hid hb
  clear hb
  go_enter Tryz.func24, Tryz.ntmps24
  go_wp2_with fail
  refine (lib_CutPrefix ⟨r.toArray⟩ ⟨#[41]⟩ _).mono ?_
  rintro e w1 ⟨rfl, rfl⟩
  have e1 : Lib.hasPrefix (⟨r.toArray⟩ : ByteArray).data.toList (⟨#[41]⟩ : ByteArray).data.toList = Lib.hasPrefix r [41] := rfl
  have e2 : Lib.trimPrefix (⟨r.toArray⟩ : ByteArray).data.toList (⟨#[41]⟩ : ByteArray).data.toList = Lib.trimPrefix r [41] := rfl
  rw [e1, e2]
  clear e1 e2
  go_wp2
  go_ret
  exact ⟨rfl, HB.out.set0 _, (Turn.refl _ _).set⟩

/-- What the reader of a default leaves. -/
def DftPost (p : Nat) (r nm k : Bs) (hk : Bool) (w : World) (e : Ending) (w' : World) : Prop :=
  match dftAt r with
  | none => e = .returned (.bool false) ∧ Turn p w w'
  | some (d, hd, r3) => e = .returned (.bool true) ∧ RB w' p r3 nm k d hk hd ∧ Turn p w w'
theorem dftPost_no {p : Nat} {r nm k : Bs} {hk : Bool} {w w' : World} (h : dftAt r = none) (ht : Turn p w w') : DftPost p r nm k hk w (.returned (.bool false)) w' := by unfold DftPost; rw [h]; exact ⟨rfl, ht⟩
theorem dftPost_yes {p : Nat} {r nm d k r3 : Bs} {hd hk : Bool} {w w' : World} (h : dftAt r = some (d, hd, r3)) (hb : RB w' p r3 nm k d hk hd) (ht : Turn p w w') : DftPost p r nm k hk w (.returned (.bool true)) w' := by unfold DftPost; rw [h]; exact ⟨rfl, hb, ht⟩
theorem dftAt_bare {r : Bs} (h : Lib.hasPrefix r [124] = false) : dftAt r = some ([], false, r) := by unfold dftAt; rw [h]; rfl
theorem dftAt_in {r : Bs} (h : Lib.hasPrefix r [124] = true) : dftAt r = dftIn (Lib.trimPrefix r [124]) := by unfold dftAt; rw [h]; rfl
theorem dftIn_open {q : Bs} (h : Lib.hasPrefix q [39] = true) (h2 : (Lib.trimPrefix q [39]).contains 39 = false) : dftIn q = none := by unfold dftIn; rw [h, h2]; rfl
theorem dftIn_good {q : Bs} (h : Lib.hasPrefix q [39] = true) (h2 : (Lib.trimPrefix q [39]).contains 39 = true) : dftIn q = some (upto 39 (Lib.trimPrefix q [39]), true, past 39 (Lib.trimPrefix q [39])) := by unfold dftIn; rw [h, h2]; rfl
theorem dftIn_none {q : Bs} (h : Lib.hasPrefix q [39] = false) (h2 : (q.takeWhile keyc).isEmpty = true) : dftIn q = none := by unfold dftIn; rw [h, h2]; rfl
theorem dftIn_word {q : Bs} (h : Lib.hasPrefix q [39] = false) (h2 : (q.takeWhile keyc).isEmpty = false) : dftIn q = some (q.takeWhile keyc, true, q.dropWhile keyc) := by unfold dftIn; rw [h, h2]; rfl

set_option maxRecDepth 100000 in
theorem rd_other (p : Nat) (r nm k : Bs) (hk : Bool) (w : World) (hg : Good w) (hp : 0 < p) (hr : r.length ≤ 100000000) (hb : RB w p r nm k [] hk false) :
    Calls Tryz.prog 23 #[.pointer (some ⟨p, 0, none⟩)] w (DftPost p r nm k hk w) := by
  have c0 := hb.rc.c0
  have f0 := hb.rc.f0
  have HB := Lib.hid hb
  have HG := Lib.hid hg
  clear hb hg
  go_enter Tryz.func23, Tryz.ntmps23
  go_wp2_with fail
  refine (lib_CutPrefix ⟨r.toArray⟩ ⟨#[124]⟩ _).mono ?_
  rintro e w1 ⟨rfl, rfl⟩
  have e1 : Lib.hasPrefix (⟨r.toArray⟩ : ByteArray).data.toList (⟨#[124]⟩ : ByteArray).data.toList = Lib.hasPrefix r [124] := rfl
  have e2 : Lib.trimPrefix (⟨r.toArray⟩ : ByteArray).data.toList (⟨#[124]⟩ : ByteArray).data.toList = Lib.trimPrefix r [124] := rfl
  rw [e1, e2]
  clear e1 e2
  rcases h1 : Lib.hasPrefix r [124] with _ | _
  · have H1 := Lib.hid h1
    go_wp2
    go_ret
    exact dftPost_yes (dftAt_bare H1.out) HB.out (Turn.refl _ _)
  · have H1 := Lib.hid (dftAt_in h1)
    have hl := tpfx_len h1
    have s7 := (HB.out.set0 (Lib.trimPrefix r [124])).rc.f7
    have t7 := (HB.out.set0 (Lib.trimPrefix r [124])).rc.c7
    clear h1
    go_wp2_with fail
    have B2 := (HB.out.set0 (Lib.trimPrefix r [124])).set7 true
    have T2 : Turn p w ((w.setCell ⟨p, 0, none⟩ (.string ⟨(Lib.trimPrefix r [124]).toArray⟩)).setCell ⟨p, 7, none⟩ (.bool true)) := (Turn.refl p w).set.set
    generalize (w.setCell ⟨p, 0, none⟩ (.string ⟨(Lib.trimPrefix r [124]).toArray⟩)).setCell ⟨p, 7, none⟩ (.bool true) = W2 at *
    have HT2 := Lib.hid T2
    have HG2 := Lib.hid (HG.out.turn T2 hp)
    have k0 := B2.rc.c0
    have m0 := B2.rc.f0
    have HB2 := Lib.hid B2
    clear T2 c0 f0 s7 t7 B2 HB
    generalize Lib.trimPrefix r [124] = q at *
    refine (lib_CutPrefix ⟨q.toArray⟩ ⟨#[39]⟩ _).mono ?_
    rintro e w1 ⟨rfl, rfl⟩
    have e1 : Lib.hasPrefix (⟨q.toArray⟩ : ByteArray).data.toList (⟨#[39]⟩ : ByteArray).data.toList = Lib.hasPrefix q [39] := rfl
    have e2 : Lib.trimPrefix (⟨q.toArray⟩ : ByteArray).data.toList (⟨#[39]⟩ : ByteArray).data.toList = Lib.trimPrefix q [39] := rfl
    rw [e1, e2]
    clear e1 e2
    rcases h2 : Lib.hasPrefix q [39] with _ | _
    · have H2 := Lib.hid h2
      clear h2
      go_wp2_with fail
      refine (rd_run p q nm k [] hk true ⟨wordSet.toArray⟩ keyc _ wordSet_eq (by decide) (ascii_of_all (by decide)) (by omega) HB2.out).mono ?_
      rintro e w3 ⟨rfl, B3, T3⟩
      have k5 := B3.rc.c5
      have m5 := B3.rc.f5
      have B4 := B3.set5 (q.takeWhile keyc)
      have n5 := B4.rc.c5
      have HT4 := Lib.hid ((HT2.out.trans T3).set (j := 5) (v := .string ⟨(q.takeWhile keyc).toArray⟩))
      have HB4 := Lib.hid B4
      clear B3 T3 B4 k0 m0
      rcases h3 : (q.takeWhile keyc).isEmpty with _ | _
      · have H3 := Lib.hid h3
        go_wp2
        go_ret
        exact dftPost_yes (H1.out.trans (dftIn_word H2.out H3.out)) HB4.out HT4.out
      · have H3 := Lib.hid h3
        go_wp2
        go_ret
        exact dftPost_no (H1.out.trans (dftIn_none H2.out H3.out)) HT4.out
    · have H2 := Lib.hid h2
      have hl2 := tpfx_len h2
      clear h2
      go_wp2_with fail
      have B3 := HB2.out.set0 (Lib.trimPrefix q [39])
      have HT3 := Lib.hid (HT2.out.set (j := 0) (v := .string ⟨(Lib.trimPrefix q [39]).toArray⟩))
      have HG3 := Lib.hid (HG.out.turn HT3.out hp)
      refine (rd_cut p (Lib.trimPrefix q [39]) nm k [] hk true 39 _ HG3.out (by omega) B3).mono ?_
      rintro e w4 ⟨rfl, B4, T4⟩
      have k5 := B4.rc.c5
      have m5 := B4.rc.f5
      have HT5 := Lib.hid ((HT3.out.trans T4).set (j := 5) (v := .string ⟨(upto 39 (Lib.trimPrefix q [39])).toArray⟩))
      have HB5 := Lib.hid (B4.set5 (upto 39 (Lib.trimPrefix q [39])))
      clear B3 B4 T4 k0 m0 HG3
      rcases h3 : (Lib.trimPrefix q [39]).contains 39 with _ | _
      · have H3 := Lib.hid h3
        go_wp2
        go_ret
        exact dftPost_no (H1.out.trans (dftIn_open H2.out H3.out)) HT5.out
      · have H3 := Lib.hid h3
        go_wp2
        go_ret
        have hB5 := HB5.out
        rw [H3.out] at hB5
        exact dftPost_yes (H1.out.trans (dftIn_good H2.out H3.out)) hB5 HT5.out

/-- The first place of the two bytes that begin a use. -/
theorem index_none : ∀ (s : Bs), Lib.index s [36, 40] = -1 → ∀ i, begins (s.drop i) = false
  | [], h, i => by rw [List.drop_nil]; rfl
  | c :: s, h, i => by
    unfold Lib.index at h
    by_cases hp : ([36, 40] : Bs).isPrefixOf (c :: s) = true
    · rw [if_pos hp] at h; cases h
    · rw [if_neg hp] at h
      cases i with
      | zero => rw [Bool.not_eq_true] at hp; exact hp
      | succ i =>
        refine index_none s ?_ i
        by_cases h1 : (Lib.index s [36, 40] == -1) = true
        · exact eq_of_beq h1
        · rw [if_neg h1] at h
          have := Lib.index_ge s [36, 40]
          omega
theorem index_some : ∀ (s : Bs) (j : Nat), Lib.index s [36, 40] = (j : Int) → begins (s.drop j) = true ∧ ∀ i, i < j → begins (s.drop i) = false
  | [], j, h => by
    unfold Lib.index at h
    rw [if_neg (by decide)] at h
    omega
  | c :: s, j, h => by
    unfold Lib.index at h
    by_cases hp : ([36, 40] : Bs).isPrefixOf (c :: s) = true
    · rw [if_pos hp] at h
      obtain rfl : j = 0 := by omega
      exact ⟨hp, fun i hi => by omega⟩
    · rw [if_neg hp] at h
      by_cases h1 : (Lib.index s [36, 40] == -1) = true
      · rw [if_pos h1] at h; omega
      · rw [if_neg h1] at h
        have hge := Lib.index_ge s [36, 40]
        have hne : Lib.index s [36, 40] ≠ -1 := fun e => h1 (by rw [e]; rfl)
        cases j with
        | zero => omega
        | succ j =>
          obtain ⟨h2, h3⟩ := index_some s j (by omega)
          refine ⟨h2, fun i hi => ?_⟩
          cases i with
          | zero => rw [Bool.not_eq_true] at hp; exact hp
          | succ i => exact h3 i (by omega)
theorem vfind_skip {s : Bs} {i : Nat} : ∀ (j : Nat), (∀ m, m < j → begins (s.drop (i + m)) = false) → vfind s i = vfind s (i + j)
  | 0, _ => rfl
  | j + 1, h => by
    rw [vfind_skip j (fun m hm => h m (by omega)), vfind_next (partsAt_begins (h j (by omega)))]; rfl
theorem vfind_skip_all {s : Bs} {i : Nat} (h : Lib.index (s.drop i) [36, 40] = -1) : vfind s i = none := by
  have := vfind_skip (s := s) (i := i) s.length (fun m _ => by rw [← List.drop_drop]; exact index_none _ h m)
  rw [this]; exact vfind_none (by omega)
theorem vfind_skip_to {s : Bs} {i j : Nat} (h : Lib.index (s.drop i) [36, 40] = (j : Int)) : vfind s i = vfind s (i + j) ∧ begins (s.drop (i + j)) = true ∧ i + j + 2 ≤ s.length := by
  obtain ⟨h1, h2⟩ := index_some _ _ h
  rw [List.drop_drop] at h1
  refine ⟨vfind_skip j (fun m hm => by have := h2 m hm; rw [List.drop_drop] at this; exact this), h1, ?_⟩
  have := pfx_len h1
  rw [List.length_drop] at this
  simp at this
  omega
end Go.Proofs.YtgpeehilemidlaaGreatDoor
