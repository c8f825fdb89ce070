/- The law's few and small: may a request be gone through? -/
import Derived.Test.YtgpeehilemidlaaGreatDoorSubApartP
import Derived.Test.YtgpeehilemidlaaGreatDoorOf
namespace Go.Proofs.YtgpeehilemidlaaGreatDoor
open Go.RowKit
set_option linter.unusedVariables false

theorem drop_fld {fs : List Fld} {k : Nat} {f : Fld} (h : fs[k]? = some f) : fs.drop k = f :: fs.drop (k + 1) := by
  obtain ⟨h1, h2⟩ := List.getElem?_eq_some_iff.1 h
  rw [List.drop_eq_getElem_cons h1, h2]
theorem sfew_many {fs : List Fld} (h : 40 < fs.length) : sfew fs = false := by unfold sfew; rw [decide_eq_false (by omega)]; rfl
theorem sfew_of {fs : List Fld} (h : fs.length ≤ 40) : sfew fs = fewL 4000 fs := by unfold sfew; rw [decide_eq_true h]; rfl

set_option maxRecDepth 100000 in
theorem law26_few_nil (a : Option Addr) (c : Nat) (w : World) :
    Calls Tryz.prog 26 #[.slice a 0 c] w (Ret w (.bool (sfew []))) := by
  go_enter Tryz.func26, Tryz.ntmps26
  go_wp2
  refine wp_loop_rounds 1 ?_
  rw [rounds_succ]
  go_wp2
  go_ret
  exact ⟨rfl, Below.refl _ _⟩

set_option maxRecDepth 100000 in
set_option maxHeartbeats 400000 in
theorem law26_few_some (b o c : Nat) (fs : List Fld) (w : World) (hc : fs.length ≤ c) (hb : b < w.heap.size) (hF : FCells w b o fs) (hs : ∀ f ∈ fs, f.1.length ≤ 140737488355328 ∧ f.2.length ≤ 140737488355328) (hlen : fs.length ≤ 140737488355328) :
    Calls Tryz.prog 26 #[.slice (some ⟨b, o, none⟩) fs.length c] w (Ret w (.bool (sfew fs))) := by
  have Hs := Lib.hid hs
  have HFc := Lib.hid hF
  clear hs hF
  go_enter Tryz.func26, Tryz.ntmps26
  by_cases h40 : fs.length ≤ 40
  · have hi40 : (fs.length : Int) ≤ 40 := by omega
    have HE := Lib.hid (sfew_of h40)
    go_wp2
    go_loopw [3, 4] (fun l i wr => ∃ (k : Nat) (left : Int), k ≤ fs.length ∧ i = .int .i64 k ∧ l = .int .i64 left ∧ 0 ≤ left ∧ left ≤ 4000 ∧ Hid (fewL left (fs.drop k) = fewL 4000 fs) ∧ Hid (Below w.heap.size w wr)) (fun _ i _ => fs.length - (intOf i).toNat)
    case atStart => exact ⟨0, 4000, Nat.zero_le _, rfl, rfl, by omega, by omega, Lib.hid rfl, Lib.hid (Below.refl _ _)⟩
    case round =>
      obtain ⟨k, left, hk, rfl, rfl, hl0, hl1, HI, HB⟩ := hrel
      by_cases hlt : k < fs.length
      · obtain ⟨f, hf⟩ : ∃ f, fs[k]? = some f := ⟨fs[k], List.getElem?_eq_getElem hlt⟩
        obtain ⟨h1, h2⟩ := (HFc.out.below HB.out hb) k f hf
        have hfl := Hs.out f (List.mem_of_getElem? hf)
        have HD := Lib.hid (show fewL left (f :: fs.drop (k + 1)) = fewL 4000 fs by rw [← drop_fld hf]; exact HI.out)
        clear hf HI
        have i0 : (0 : Int) ≤ (k : Int) := by omega
        have i1 : (k : Int) < (fs.length : Int) := by omega
        by_cases g1 : (f.1.length : Int) > left
        · have HN := Lib.hid (HD.out.symm.trans (fewL_bad (.inl g1)))
          have g1' : left < (f.1.length : Int) := g1
          go_wp2_with fail
          go_quiet (fail)
          go_wp2
          go_ret
          exact ⟨ret_bool (by rw [HE.out, HN.out]), ⟨HB.out.os, HB.out.tape, HB.out.output, HB.out.size, HB.out.block⟩⟩
        · have g1' : (f.1.length : Int) ≤ left := by omega
          have e1 : IntKind.i64.wrap (left - (f.1.length : Int)) = left - (f.1.length : Int) := IntWalk.i64_in _ (by omega)
          by_cases g2 : (f.2.length : Int) > left - f.1.length
          · have HN := Lib.hid (HD.out.symm.trans (fewL_bad (.inr g2)))
            have g2' : left - (f.1.length : Int) < (f.2.length : Int) := g2
            go_wp2_with fail
            go_quiet (fail)
            go_wp2
            go_ret
            exact ⟨ret_bool (by rw [HE.out, HN.out]), ⟨HB.out.os, HB.out.tape, HB.out.output, HB.out.size, HB.out.block⟩⟩
          · have HN := Lib.hid ((fewL_good g1 g2).symm.trans HD.out)
            have g2' : (f.2.length : Int) ≤ left - (f.1.length : Int) := by omega
            have e2 : IntKind.i64.wrap (left - (f.1.length : Int) - (f.2.length : Int)) = left - (f.1.length : Int) - (f.2.length : Int) := IntWalk.i64_in _ (by omega)
            go_wp2_with fail
            go_quiet (fail)
            go_wp2
            go_quiet (fail)
            go_wp2
            clear e1 e2
            go_roundw
            case rel => exact ⟨k + 1, left - f.1.length - f.2.length, by omega, by go_num, rfl, by omega, by omega, HN, Lib.hid ⟨HB.out.os, HB.out.tape, HB.out.output, HB.out.size, HB.out.block⟩⟩
            case measure => (simp [intOf] <;> omega)
      · have i1 : (fs.length : Int) ≤ (k : Int) := by omega
        have hI := HI.out
        rw [List.drop_eq_nil_of_le (by omega)] at hI
        have HN := Lib.hid (show fewL 4000 fs = true from hI.symm)
        clear hI HI
        go_wp2
        go_ret
        exact ⟨ret_bool (by rw [HE.out, HN.out]), HB.out⟩
  · have hi40 : (40 : Int) < (fs.length : Int) := by omega
    have HE := Lib.hid (sfew_many (fs := fs) (by omega))
    go_wp2
    go_ret
    exact ⟨ret_bool HE.out.symm, Below.refl _ _⟩

theorem law26_few (a : Option Addr) (n c : Nat) (fs : List Fld) (w : World) (hF : FieldsAt w (.slice a n c) fs) (hs : ∀ f ∈ fs, f.1.length ≤ 140737488355328 ∧ f.2.length ≤ 140737488355328) (hlen : fs.length ≤ 140737488355328) :
    Calls Tryz.prog 26 #[.slice a n c] w (Ret w (.bool (sfew fs))) := by
  rcases hF with ⟨a', c', he, rfl⟩ | ⟨b, o, c', he, hc, hb, hcell⟩
  · cases he; exact law26_few_nil a c w
  · cases he; exact law26_few_some b o c fs w hc hb hcell hs hlen

def ssmall (t : Bs) (fs : List Fld) : Bool := sfew fs && decide (t.length ≤ 1000)
theorem law26_small (m t bd : ByteArray) (mn : Int) (a : Option Addr) (n c : Nat) (fs : List Fld) (w : World) (hF : FieldsAt w (.slice a n c) fs) (hs : ∀ f ∈ fs, f.1.length ≤ 140737488355328 ∧ f.2.length ≤ 140737488355328) (hlen : fs.length ≤ 140737488355328) (ht : t.size ≤ 140737488355328) :
    Calls Tryz.prog 12 #[.agg #[.string m, .string t, .int .i64 mn, .slice a n c, .string bd]] w (Ret w (.bool (ssmall t.data.toList fs))) := by
  have HS := Lib.hid (show ssmall t.data.toList fs = (sfew fs && decide (t.size ≤ 1000)) by unfold ssmall; rw [bs_size])
  have hb := (Below.refl w.heap.size w).alloc (Nat.le_refl _) (.cells #[.string m, .string t, .int .i64 mn, .slice a n c, .string bd] 38)
  have n1 := heap_alloc_new w (.cells #[.string m, .string t, .int .i64 mn, .slice a n c, .string bd] 38)
  have HF := Lib.hid (hF.below hb)
  have HN := Lib.hid n1
  have HB := Lib.hid hb
  have Hs := Lib.hid hs
  clear hF hb n1 hs
  go_enter Tryz.func12, Tryz.ntmps12
  go_wp2_with fail
  generalize w.alloc (.cells #[.string m, .string t, .int .i64 mn, .slice a n c, .string bd] 38) = W at *
  refine (law26_few a n c fs W HF.out Hs.out hlen).mono ?_
  rintro e w1 ⟨rfl, hb1⟩
  have hlt : w.heap.size < W.heap.size := (Array.getElem?_eq_some_iff.1 HN.out).1
  have c1 := cell_of_row _ _ 1 _ _ _ ((hb1.block _ hlt).trans HN.out)
  have HB1 := Lib.hid (HB.out.trans (hb1.mono HB.out.size))
  clear hb1
  rcases hf : sfew fs with _ | _
  · have Hf := Lib.hid hf
    go_wp2
    go_ret
    exact ⟨ret_bool (by rw [HS.out, Hf.out]; rfl), HB1.out⟩
  · have Hf := Lib.hid hf
    by_cases h2 : t.size ≤ 1000
    · have hi : (t.size : Int) ≤ 1000 := by omega
      go_wp2
      go_ret
      exact ⟨ret_bool (by rw [HS.out, Hf.out]; simp [h2]), HB1.out⟩
    · have hi : (1000 : Int) < (t.size : Int) := by omega
      go_wp2
      go_ret
      exact ⟨ret_bool (by rw [HS.out, Hf.out]; simp [h2]; omega), HB1.out⟩
end Go.Proofs.YtgpeehilemidlaaGreatDoor
