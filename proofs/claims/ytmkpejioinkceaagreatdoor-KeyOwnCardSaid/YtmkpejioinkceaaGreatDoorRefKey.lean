/- The walks of the reference's Key, Of, Unsafe and Texts. -/
import Derived.Test.YtmkpejioinkceaaGreatDoorKeyW
import Derived.Test.YtmkpejioinkceaaGreatDoorRefNorm
import Derived.Test.YtmkpejioinkceaaGreatDoorBase
namespace Go.Proofs.YtmkpejioinkceaaGreatDoor
open Go.RowKit
set_option linter.unusedVariables false

set_option maxRecDepth 100000 in
theorem ref17_Key (u : U) (w : World) (hl : LimU u) : Calls Tryz.prog 26 #[uV u] w (Ret w (.string ⟨(keyB u).toArray⟩)) := by
  have HL := Lib.hid hl
  have HK := Lib.hid (show putB (normB u) = keyB u from rfl)
  have HLN := Lib.hid (lim_norm u)
  have HB := Lib.hid (ubx_new w u)
  have HW := Lib.hid ((Below.refl w.heap.size w).alloc (Nat.le_refl _) (uObj u))
  obtain ⟨c0, c1, c2, c3, c4, c5⟩ := HB.out.cells
  clear hl
  go_enter Tryz.func26, Tryz.ntmps26
  go_wp2_with fail
  generalize w.alloc (.cells #[.string ⟨u.scheme.toArray⟩, .string ⟨u.host.toArray⟩, .int .i64 u.port, .string ⟨u.path.toArray⟩, .string ⟨u.query.toArray⟩, .bool u.hq] 23) = W at *
  refine (ref09_Normal u W HL.out).mono ?_
  rintro e w1 ⟨rfl, hb1⟩
  have HW1 := Lib.hid (HW.out.trans (hb1.mono HW.out.size))
  clear hb1 c0 c1 c2 c3 c4 c5
  generalize normB u = n at *
  go_wp2_with fail
  refine (ref09_Put n w1 HLN.out).mono ?_
  rintro e w2 ⟨rfl, hb2⟩
  have HW2 := Lib.hid (HW1.out.trans (hb2.mono HW1.out.size))
  rw [HK.out]
  clear hb2
  go_wp2_with fail
  go_ret
  exact ⟨rfl, HW2.out⟩
set_option maxRecDepth 100000 in
theorem ref17_Of (m : Bs) (u : U) (w : World) (hl : LimU u) : Calls Tryz.prog 11 #[.string ⟨m.toArray⟩, uV u] w (Ret w (.string ⟨(keyOfB m u).toArray⟩)) := by
  have HL := Lib.hid hl
  have HB := Lib.hid (ubx_new w u)
  have HW := Lib.hid ((Below.refl w.heap.size w).alloc (Nat.le_refl _) (uObj u))
  obtain ⟨c0, c1, c2, c3, c4, c5⟩ := HB.out.cells
  clear hl
  rcases Decidable.em (m = [71, 69, 84]) with rfl | h1
  · have HE := Lib.hid (show keyOfB [71, 69, 84] u = keyB u from rfl)
    go_enter Tryz.func11, Tryz.ntmps11
    go_wp2_with fail
    refine (ref17_Key u _ HL.out).mono ?_
    rintro e w1 ⟨rfl, hb1⟩
    have HW1 := Lib.hid (HW.out.trans (hb1.mono HW.out.size))
    clear hb1 c0 c1 c2 c3 c4 c5
    go_wp2_with fail
    go_ret
    exact ⟨by rw [HE.out]; try rfl, HW1.out⟩
  · rcases Decidable.em (m = [72, 69, 65, 68]) with rfl | h2
    · have HE := Lib.hid (show keyOfB [72, 69, 65, 68] u = keyB u from rfl)
      clear h1
      go_enter Tryz.func11, Tryz.ntmps11
      go_wp2_with fail
      refine (ref17_Key u _ HL.out).mono ?_
      rintro e w1 ⟨rfl, hb1⟩
      have HW1 := Lib.hid (HW.out.trans (hb1.mono HW.out.size))
      clear hb1 c0 c1 c2 c3 c4 c5
      go_wp2_with fail
      go_ret
      exact ⟨by rw [HE.out]; try rfl, HW1.out⟩
    · have HE := Lib.hid (keyOf_no (u := u) h1 h2)
      have q1 : (m == [71, 69, 84]) = false := beq_eq_false_iff_ne.2 h1
      have q2 : (m == [72, 69, 65, 68]) = false := beq_eq_false_iff_ne.2 h2
      clear h1 h2
      go_enter Tryz.func11, Tryz.ntmps11
      go_wp2_with fail
      go_ret
      exact ⟨by rw [HE.out]; try rfl, HW.out⟩
theorem unsafe_no {m : Bs} (h1 : ¬ m = [80, 79, 83, 84]) (h2 : ¬ m = [80, 85, 84]) (h3 : ¬ m = [68, 69, 76, 69, 84, 69]) : unsafeB m = (m == [80, 65, 84, 67, 72]) := by
  unfold unsafeB
  rw [beq_eq_false_iff_ne.2 h1, beq_eq_false_iff_ne.2 h2, beq_eq_false_iff_ne.2 h3]; rfl
set_option maxRecDepth 100000 in
theorem ref17_Unsafe (m : Bs) (w : World) : Calls Tryz.prog 13 #[.string ⟨m.toArray⟩] w (Ret w (.bool (unsafeB m))) := by
  have HW := Lib.hid (Below.refl w.heap.size w)
  rcases Decidable.em (m = [80, 79, 83, 84]) with rfl | h1
  · have HE := Lib.hid (show unsafeB [80, 79, 83, 84] = true by decide)
    go_enter Tryz.func13, Tryz.ntmps13
    go_wp2_with fail
    go_ret
    exact ⟨by rw [HE.out]; try rfl, HW.out⟩
  rcases Decidable.em (m = [80, 85, 84]) with rfl | h2
  · have HE := Lib.hid (show unsafeB [80, 85, 84] = true by decide)
    clear h1
    go_enter Tryz.func13, Tryz.ntmps13
    go_wp2_with fail
    go_ret
    exact ⟨by rw [HE.out]; try rfl, HW.out⟩
  rcases Decidable.em (m = [68, 69, 76, 69, 84, 69]) with rfl | h3
  · have HE := Lib.hid (show unsafeB [68, 69, 76, 69, 84, 69] = true by decide)
    clear h1 h2
    go_enter Tryz.func13, Tryz.ntmps13
    go_wp2_with fail
    go_ret
    exact ⟨by rw [HE.out]; try rfl, HW.out⟩
  have HE := Lib.hid (unsafe_no h1 h2 h3)
  have q1 : (m == [80, 79, 83, 84]) = false := beq_eq_false_iff_ne.2 h1
  have q2 : (m == [80, 85, 84]) = false := beq_eq_false_iff_ne.2 h2
  have q3 : (m == [68, 69, 76, 69, 84, 69]) = false := beq_eq_false_iff_ne.2 h3
  clear h1 h2 h3
  go_enter Tryz.func13, Tryz.ntmps13
  go_wp2_with fail
  go_ret
  exact ⟨by rw [HE.out]; try rfl, HW.out⟩
/-! Two lists that hold the same texts. -/
set_option maxRecDepth 100000 in
theorem ref01_Texts_nil (a1 a2 : Option Addr) (c1 c2 : Nat) (w : World) :
    Calls Tryz.prog 15 #[.slice a1 0 c1, .slice a2 0 c2] w (Ret w (.bool true)) := by
  go_enter Tryz.func15, Tryz.ntmps15
  go_wp2_with fail
  go_loop [5] (fun i => i = .int .i64 0) (fun i => 0)
  case atStart => rfl
  case round =>
    subst hrel
    go_wp2
    go_ret
    exact ⟨rfl, Below.refl _ _⟩
set_option maxRecDepth 100000 in
theorem ref01_Texts_some (b1 o1 c1 b2 o2 c2 : Nat) (ls : List Bs) (w : World) (hc1 : ls.length ≤ c1) (hc2 : ls.length ≤ c2) (h1 : b1 < w.heap.size) (h2 : b2 < w.heap.size) (H1 : SCells w b1 o1 ls) (H2 : SCells w b2 o2 ls) (hlen : ls.length ≤ 100000) :
    Calls Tryz.prog 15 #[.slice (some ⟨b1, o1, none⟩) ls.length c1, .slice (some ⟨b2, o2, none⟩) ls.length c2] w (Ret w (.bool true)) := by
  go_enter Tryz.func15, Tryz.ntmps15
  go_wp2_with fail
  go_loopw [5] (fun i wr => ∃ k : Nat, k ≤ ls.length ∧ i = .int .i64 k ∧ Below w.heap.size w wr) (fun i _ => ls.length - (intOf i).toNat)
  case atStart => exact ⟨0, Nat.zero_le _, rfl, Below.refl _ _⟩
  case round =>
    obtain ⟨k, hk, rfl, hbel⟩ := hrel
    by_cases hlt : k < ls.length
    · obtain ⟨l, hf⟩ : ∃ l, ls[k]? = some l := ⟨ls[k], List.getElem?_eq_getElem hlt⟩
      have e1 := (H1.below hbel h1) k l hf
      have e2 := (H2.below hbel h2) k l hf
      have i0 : (0 : Int) ≤ (k : Int) := by omega
      have i1 : (k : Int) < (ls.length : Int) := by omega
      clear hf
      go_wp2_with fail
      go_quiet (fail)
      go_wp2
      go_roundw
      case rel => exact ⟨k + 1, by omega, by go_num, ⟨hbel.os, hbel.tape, hbel.output, hbel.size, hbel.block⟩⟩
      case measure => (simp [intOf] <;> omega)
    · have i1 : (ls.length : Int) ≤ (k : Int) := by omega
      go_wp2
      go_ret
      exact ⟨rfl, hbel⟩
theorem ref01_Texts (v1 v2 : Value) (ls : List Bs) (w : World) (h1 : StrsAt w v1 ls) (h2 : StrsAt w v2 ls) (hlen : ls.length ≤ 100000) :
    Calls Tryz.prog 15 #[v1, v2] w (Ret w (.bool true)) := by
  rcases h1 with ⟨a, c, rfl, rfl⟩ | ⟨b, o, c, rfl, hc, hlt, hcell⟩
  · rcases h2 with ⟨a2, c2, rfl, _⟩ | ⟨b2, o2, c2, rfl, hc2, hlt2, hcell2⟩
    · exact ref01_Texts_nil a a2 c c2 w
    · exact ref01_Texts_nil a _ c c2 w
  · rcases h2 with ⟨a2, c2, rfl, rfl⟩ | ⟨b2, o2, c2, rfl, hc2, hlt2, hcell2⟩
    · exact ref01_Texts_nil _ a2 c c2 w
    · exact ref01_Texts_some b o c b2 o2 c2 ls w hc hc2 hlt hlt2 hcell hcell2 hlen
end Go.Proofs.YtmkpejioinkceaaGreatDoor
