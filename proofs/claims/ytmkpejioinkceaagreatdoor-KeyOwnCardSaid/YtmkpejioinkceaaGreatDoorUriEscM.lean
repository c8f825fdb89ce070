/- What is said of escapes, whatever is done with each piece. The walk of escapes: with made's function. The walk of escapes: with undo's function. -/
import Derived.Test.YtmkpejioinkceaaGreatDoorUriN
import Derived.Test.YtmkpejioinkceaaGreatDoorLib1
namespace Go.Proofs.YtmkpejioinkceaaGreatDoor
open Go.RowKit
set_option linter.unusedVariables false

/-- Is the text made well? -/
def wellB (s : Bs) : Bool := madeB (fun _ => true) s
theorem hex2 (a b : UInt8) : (Lib.trimS [a, b] hexSet == []) = (hexc a && hexc b) := by
  rw [trimS_nil, hexSet_eq]; simp
theorem lib_hex (s : ByteArray) (w : World) (hs : s.size ≤ 1000000) : Calls Tryz.prog 36 #[.string s, .string ⟨#[48, 49, 50, 51, 52, 53, 54, 55, 56, 57, 97, 98, 99, 100, 101, 102, 65, 66, 67, 68, 69, 70]⟩] w (Ret w (.string ⟨(Lib.trimS s.data.toList hexSet).toArray⟩)) :=
  lib_Trim s _ w (by omega) (by decide) (ascii_of_all (by decide))
theorem drop_three {s : ByteArray} {k : Nat} {a b c : UInt8} {r : Bs} (h : s.data.toList.drop k = a :: b :: c :: r) : k + 3 ≤ s.size ∧ (s.extract (k + 1) (k + 3)).data.toList = [b, c] ∧ (s.extract k (k + 3)).data.toList = [a, b, c] ∧ s.data.toList.drop (k + 3) = r := by
  have hl := congrArg List.length h
  rw [List.length_drop, bs_size] at hl
  simp at hl
  refine ⟨by omega, ?_, ?_, ?_⟩
  · rw [ext_data, ← List.drop_drop, h]; simp
  · rw [ext_data, h]; simp
  · rw [← List.drop_drop, h]; rfl

/-- What is done with each piece keeps a word on how far one is; the word is not touched by new blocks. -/
structure Each (f : FuncId) (caps : Array Value) (s : ByteArray) (I : Nat → World → Prop) : Prop where
  next : ∀ k w w', I k w → Below w.heap.size w w' → I k w'
  byte : ∀ k c r w, s.data.toList.drop k = c :: r → c ≠ 37 → I k w → Calls Tryz.prog f (#[.string ⟨#[c]⟩] ++ caps) w fun e w' => e = .returned (.tuple #[]) ∧ I (k + 1) w'
  esc : ∀ k a b r w, s.data.toList.drop k = 37 :: a :: b :: r → (hexc a && hexc b) = true → I k w → Calls Tryz.prog f (#[.string ⟨#[37, a, b]⟩] ++ caps) w fun e w' => e = .returned (.tuple #[]) ∧ I (k + 3) w'
def EscPost (s : ByteArray) (I : Nat → World → Prop) (e : Ending) (w' : World) : Prop := (wellB s.data.toList = true ∧ e = .returned (.bool true) ∧ I s.size w') ∨ (wellB s.data.toList = false ∧ e = .returned (.bool false) ∧ ∃ k, I k w')

theorem mk_size (l : Bs) : (⟨l.toArray⟩ : ByteArray).size = l.length := rfl
def strLen : Value → Nat
  | .string b => b.size
  | _ => 0
theorem drop_nil {s : ByteArray} {k : Nat} (hk : k ≤ s.size) (h : s.data.toList.drop k = []) : k = s.size := by
  have := congrArg List.length h
  rw [List.length_drop, bs_size] at this
  simp at this; omega
end Go.Proofs.YtmkpejioinkceaaGreatDoor

namespace Go.Proofs.YtmkpejioinkceaaGreatDoor
open Go.RowKit
set_option linter.unusedVariables false

set_option maxRecDepth 100000 in
set_option maxHeartbeats 1000000 in
theorem escapes_made (c1 c2 : Value) (s : ByteArray) (I : Nat → World → Prop) (hE : Each 75 #[c1, c2] s I) (w : World) (h0 : I 0 w) (hs : s.size ≤ 1000000) :
    Calls Tryz.prog 74 #[.string s, .func (.func 75) #[] #[c1, c2]] w (EscPost s I) := by
  have HE := Lib.hid hE
  have H0 := Lib.hid h0
  clear hE h0
  go_enter Tryz.func74, Tryz.ntmps74
  go_wp2_with fail
  go_loopw [0, 5] (fun t n wr => ∃ k : Nat, k ≤ s.size ∧ t = .string ⟨(s.data.toList.drop k).toArray⟩ ∧ Hid (wellB (s.data.toList.drop k) = wellB s.data.toList) ∧ Hid (I k wr)) (fun t _ _ => strLen t)
  case atStart => exact ⟨0, Nat.zero_le _, by rw [List.drop_zero], Lib.hid rfl, H0⟩
  case round =>
    obtain ⟨k, hk, rfl, HW, HI⟩ := hrel
    rcases hd : s.data.toList.drop k with _ | ⟨c, r⟩
    · have hke := drop_nil hk hd
      have HR := Lib.hid (show EscPost s I (.returned (.bool true)) wr from .inl ⟨by rw [← HW.out, hd]; rfl, rfl, by rw [← hke]; exact HI.out⟩)
      clear hd hke
      go_wp2_with fail
      go_ret
      exact HR.out
    · have Hd := Lib.hid hd
      have hx : ∀ h, ((⟨(c :: r).toArray⟩ : ByteArray)[0]'h) = c := fun _ => rfl
      by_cases hc : c = 37
      · subst hc
        have hx37 : ((37 : UInt8).toNat : Int) = 37 := rfl
        rcases hr : r with _ | ⟨a, _ | ⟨b, r'⟩⟩
        · have HR := Lib.hid (show EscPost s I (.returned (.bool false)) wr from .inr ⟨by rw [← HW.out, hd, hr]; rfl, rfl, k, HI.out⟩)
          subst hr
          clear hd
          go_wp2_with fail
          go_ret
          exact HR.out
        · have HR := Lib.hid (show EscPost s I (.returned (.bool false)) wr from .inr ⟨by rw [← HW.out, hd, hr]; rfl, rfl, k, HI.out⟩)
          subst hr
          clear hd
          go_wp2_with fail
          go_ret
          exact HR.out
        · subst hr
          obtain ⟨h1, h2, h3, h4⟩ := drop_three hd
          have hlen : ¬ ((r'.length : Int) + 1 + 1 + 1 < 3) := by omega
          have hlen2 : (3 : Int) ≤ (r'.length : Int) + 1 + 1 + 1 := by omega
          have HW2 := Lib.hid (show wellB (s.data.toList.drop k) = (hexc a && hexc b && wellB r') by rw [hd]; exact madeB_esc)
          have H4 := Lib.hid h4
          have hmid : (⟨(37 :: a :: b :: r').toArray⟩ : ByteArray).extract 1 3 = ⟨[a, b].toArray⟩ := bs_ext (by rw [ext_data]; rfl)
          have hfst : (⟨(37 :: a :: b :: r').toArray⟩ : ByteArray).extract 0 3 = ⟨#[37, a, b]⟩ := bs_ext (by rw [ext_data]; rfl)
          have hrst : (⟨(37 :: a :: b :: r').toArray⟩ : ByteArray).extract 3 (r'.length + 1 + 1 + 1) = ⟨r'.toArray⟩ := bs_ext (by rw [ext_data]; simp)
          clear hd h2 h3 h4
          go_wp2_with fail
          refine (lib_hex ⟨[a, b].toArray⟩ wr (by show 2 ≤ _; omega)).mono ?_
          rintro e w1 ⟨rfl, hb1⟩
          have HI1 := Lib.hid (HE.out.next k _ _ HI.out hb1)
          have ehx := hex2 a b
          rcases hab : (hexc a && hexc b) with _ | _
          · rw [hab] at ehx
            have hne : ((⟨(Lib.trimS (⟨[a, b].toArray⟩ : ByteArray).data.toList hexSet).toArray⟩ : ByteArray).toList == []) = false := by rw [Lib.toList_data]; exact ehx
            have HR := Lib.hid (show EscPost s I (.returned (.bool false)) w1 from .inr ⟨by rw [← HW.out, HW2.out, hab]; rfl, rfl, k, HI1.out⟩)
            have hne2 : (Lib.trimS (⟨[a, b].toArray⟩ : ByteArray).data.toList hexSet).isEmpty = false := by
              cases hq : Lib.trimS [a, b] hexSet with
              | nil => rw [hq] at ehx; cases ehx
              | cons p q => rfl
            clear hb1 ehx
            go_wp2_with fail
            go_ret
            exact HR.out
          · rw [hab] at ehx
            have he : Lib.trimS (⟨[a, b].toArray⟩ : ByteArray).data.toList hexSet = [] := eq_of_beq ehx
            rw [he]
            have Hab := Lib.hid hab
            clear hb1 ehx he hab
            go_wp2_with fail
            refine (HE.out.esc k a b r' w1 Hd.out Hab.out HI1.out).mono ?_
            rintro e w2 ⟨rfl, hi2⟩
            have HI2 := Lib.hid hi2
            clear hi2
            go_wp2_with fail
            go_roundw
            case rel => exact ⟨k + 3, h1, by rw [H4.out], Lib.hid (by rw [H4.out, ← HW.out, HW2.out, Hab.out]; rfl), HI2⟩
            case measure => (simp [strLen, mk_size] <;> omega)
      · have hci : ((c.toNat : Int) == 37) = false := by
          rw [beq_eq_false_iff_ne]; exact fun e => hc (by rw [u8eq]; show c.toNat = 37; omega)
        have hk1 : k + 1 ≤ s.size := by have := congrArg List.length hd; rw [List.length_drop, bs_size] at this; simp at this; omega
        have H4 := Lib.hid (show s.data.toList.drop (k + 1) = r by rw [← List.drop_drop, hd]; rfl)
        have HW2 := Lib.hid (show wellB (s.data.toList.drop k) = wellB r by rw [hd]; exact madeB_byte hc)
        have hfst : (⟨(c :: r).toArray⟩ : ByteArray).extract 0 1 = ⟨#[c]⟩ := bs_ext (by rw [ext_data]; rfl)
        have hrst : (⟨(c :: r).toArray⟩ : ByteArray).extract 1 (r.length + 1) = ⟨r.toArray⟩ := bs_ext (by rw [ext_data]; simp)
        clear hd
        go_wp2_with fail
        refine (HE.out.byte k c r wr Hd.out hc HI.out).mono ?_
        rintro e w2 ⟨rfl, hi2⟩
        have HI2 := Lib.hid hi2
        clear hi2
        go_wp2_with fail
        go_roundw
        case rel => exact ⟨k + 1, hk1, by rw [H4.out], Lib.hid (by rw [H4.out, ← HW.out, HW2.out]), HI2⟩
        case measure => (simp [strLen, mk_size] <;> omega)
end Go.Proofs.YtmkpejioinkceaaGreatDoor

namespace Go.Proofs.YtmkpejioinkceaaGreatDoor
open Go.RowKit
set_option linter.unusedVariables false

set_option maxRecDepth 100000 in
set_option maxHeartbeats 1000000 in
theorem escapes_undo (c1 : Value) (s : ByteArray) (I : Nat → World → Prop) (hE : Each 83 #[c1] s I) (w : World) (h0 : I 0 w) (hs : s.size ≤ 1000000) :
    Calls Tryz.prog 74 #[.string s, .func (.func 83) #[] #[c1]] w (EscPost s I) := by
  have HE := Lib.hid hE
  have H0 := Lib.hid h0
  clear hE h0
  go_enter Tryz.func74, Tryz.ntmps74
  go_wp2_with fail
  go_loopw [0, 5] (fun t n wr => ∃ k : Nat, k ≤ s.size ∧ t = .string ⟨(s.data.toList.drop k).toArray⟩ ∧ Hid (wellB (s.data.toList.drop k) = wellB s.data.toList) ∧ Hid (I k wr)) (fun t _ _ => strLen t)
  case atStart => exact ⟨0, Nat.zero_le _, by rw [List.drop_zero], Lib.hid rfl, H0⟩
  case round =>
    obtain ⟨k, hk, rfl, HW, HI⟩ := hrel
    rcases hd : s.data.toList.drop k with _ | ⟨c, r⟩
    · have hke := drop_nil hk hd
      have HR := Lib.hid (show EscPost s I (.returned (.bool true)) wr from .inl ⟨by rw [← HW.out, hd]; rfl, rfl, by rw [← hke]; exact HI.out⟩)
      clear hd hke
      go_wp2_with fail
      go_ret
      exact HR.out
    · have Hd := Lib.hid hd
      have hx : ∀ h, ((⟨(c :: r).toArray⟩ : ByteArray)[0]'h) = c := fun _ => rfl
      by_cases hc : c = 37
      · subst hc
        have hx37 : ((37 : UInt8).toNat : Int) = 37 := rfl
        rcases hr : r with _ | ⟨a, _ | ⟨b, r'⟩⟩
        · have HR := Lib.hid (show EscPost s I (.returned (.bool false)) wr from .inr ⟨by rw [← HW.out, hd, hr]; rfl, rfl, k, HI.out⟩)
          subst hr
          clear hd
          go_wp2_with fail
          go_ret
          exact HR.out
        · have HR := Lib.hid (show EscPost s I (.returned (.bool false)) wr from .inr ⟨by rw [← HW.out, hd, hr]; rfl, rfl, k, HI.out⟩)
          subst hr
          clear hd
          go_wp2_with fail
          go_ret
          exact HR.out
        · subst hr
          obtain ⟨h1, h2, h3, h4⟩ := drop_three hd
          have hlen : ¬ ((r'.length : Int) + 1 + 1 + 1 < 3) := by omega
          have hlen2 : (3 : Int) ≤ (r'.length : Int) + 1 + 1 + 1 := by omega
          have HW2 := Lib.hid (show wellB (s.data.toList.drop k) = (hexc a && hexc b && wellB r') by rw [hd]; exact madeB_esc)
          have H4 := Lib.hid h4
          have hmid : (⟨(37 :: a :: b :: r').toArray⟩ : ByteArray).extract 1 3 = ⟨[a, b].toArray⟩ := bs_ext (by rw [ext_data]; rfl)
          have hfst : (⟨(37 :: a :: b :: r').toArray⟩ : ByteArray).extract 0 3 = ⟨#[37, a, b]⟩ := bs_ext (by rw [ext_data]; rfl)
          have hrst : (⟨(37 :: a :: b :: r').toArray⟩ : ByteArray).extract 3 (r'.length + 1 + 1 + 1) = ⟨r'.toArray⟩ := bs_ext (by rw [ext_data]; simp)
          clear hd h2 h3 h4
          go_wp2_with fail
          refine (lib_hex ⟨[a, b].toArray⟩ wr (by show 2 ≤ _; omega)).mono ?_
          rintro e w1 ⟨rfl, hb1⟩
          have HI1 := Lib.hid (HE.out.next k _ _ HI.out hb1)
          have ehx := hex2 a b
          rcases hab : (hexc a && hexc b) with _ | _
          · rw [hab] at ehx
            have hne : ((⟨(Lib.trimS (⟨[a, b].toArray⟩ : ByteArray).data.toList hexSet).toArray⟩ : ByteArray).toList == []) = false := by rw [Lib.toList_data]; exact ehx
            have HR := Lib.hid (show EscPost s I (.returned (.bool false)) w1 from .inr ⟨by rw [← HW.out, HW2.out, hab]; rfl, rfl, k, HI1.out⟩)
            have hne2 : (Lib.trimS (⟨[a, b].toArray⟩ : ByteArray).data.toList hexSet).isEmpty = false := by
              cases hq : Lib.trimS [a, b] hexSet with
              | nil => rw [hq] at ehx; cases ehx
              | cons p q => rfl
            clear hb1 ehx
            go_wp2_with fail
            go_ret
            exact HR.out
          · rw [hab] at ehx
            have he : Lib.trimS (⟨[a, b].toArray⟩ : ByteArray).data.toList hexSet = [] := eq_of_beq ehx
            rw [he]
            have Hab := Lib.hid hab
            clear hb1 ehx he hab
            go_wp2_with fail
            refine (HE.out.esc k a b r' w1 Hd.out Hab.out HI1.out).mono ?_
            rintro e w2 ⟨rfl, hi2⟩
            have HI2 := Lib.hid hi2
            clear hi2
            go_wp2_with fail
            go_roundw
            case rel => exact ⟨k + 3, h1, by rw [H4.out], Lib.hid (by rw [H4.out, ← HW.out, HW2.out, Hab.out]; rfl), HI2⟩
            case measure => (simp [strLen, mk_size] <;> omega)
      · have hci : ((c.toNat : Int) == 37) = false := by
          rw [beq_eq_false_iff_ne]; exact fun e => hc (by rw [u8eq]; show c.toNat = 37; omega)
        have hk1 : k + 1 ≤ s.size := by have := congrArg List.length hd; rw [List.length_drop, bs_size] at this; simp at this; omega
        have H4 := Lib.hid (show s.data.toList.drop (k + 1) = r by rw [← List.drop_drop, hd]; rfl)
        have HW2 := Lib.hid (show wellB (s.data.toList.drop k) = wellB r by rw [hd]; exact madeB_byte hc)
        have hfst : (⟨(c :: r).toArray⟩ : ByteArray).extract 0 1 = ⟨#[c]⟩ := bs_ext (by rw [ext_data]; rfl)
        have hrst : (⟨(c :: r).toArray⟩ : ByteArray).extract 1 (r.length + 1) = ⟨r.toArray⟩ := bs_ext (by rw [ext_data]; simp)
        clear hd
        go_wp2_with fail
        refine (HE.out.byte k c r wr Hd.out hc HI.out).mono ?_
        rintro e w2 ⟨rfl, hi2⟩
        have HI2 := Lib.hid hi2
        clear hi2
        go_wp2_with fail
        go_roundw
        case rel => exact ⟨k + 1, hk1, by rw [H4.out], Lib.hid (by rw [H4.out, ← HW.out, HW2.out]), HI2⟩
        case measure => (simp [strLen, mk_size] <;> omega)
end Go.Proofs.YtmkpejioinkceaaGreatDoor
