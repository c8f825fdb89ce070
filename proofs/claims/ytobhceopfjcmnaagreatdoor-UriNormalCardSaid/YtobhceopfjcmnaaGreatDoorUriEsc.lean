/- What is said of escapes, whatever is done with each piece. -/
import Derived.Test.YtobhceopfjcmnaaGreatDoorUriN
import Derived.Test.YtobhceopfjcmnaaGreatDoorLib1
namespace Go.Proofs.YtobhceopfjcmnaaGreatDoor
open Go.RowKit
set_option linter.unusedVariables false

/-- Is the text made well? -/
def wellB (s : Bs) : Bool := madeB (fun _ => true) s
theorem hex2 (a b : UInt8) : (Lib.trimS [a, b] hexSet == []) = (hexc a && hexc b) := by
  rw [trimS_nil, hexSet_eq]; simp
theorem lib_hex (s : ByteArray) (w : World) (hs : s.size ≤ 1000000) : Calls Tryz.prog 49 #[.string s, .string ⟨#[48, 49, 50, 51, 52, 53, 54, 55, 56, 57, 97, 98, 99, 100, 101, 102, 65, 66, 67, 68, 69, 70]⟩] w (Ret w (.string ⟨(Lib.trimS s.data.toList hexSet).toArray⟩)) :=
  lib_Trim s _ w (by omega) (by decide) (ascii_of_all (by decide))
theorem drop_three {s : ByteArray} {k : Nat} {a b c : UInt8} {r : Bs} (h : s.data.toList.drop k = a :: b :: c :: r) : k + 3 ≤ s.size ∧ (s.extract (k + 1) (k + 3)).data.toList = [b, c] ∧ (s.extract k (k + 3)).data.toList = [a, b, c] ∧ s.data.toList.drop (k + 3) = r := by
  have hl := congrArg List.length h
  rw [List.length_drop, bs_size] at hl
  simp at hl
  refine ⟨by omega, ?_, ?_, ?_⟩
  · rw [ext_data, ← List.drop_drop, h]; simp
  · rw [ext_data, h]; simp
  · rw [← List.drop_drop, h]; rfl

/-- What is done with each piece keeps a word on how far one is; the word is not touched by new blocks. -/
structure Each (f : FuncId) (caps : Array Value) (s : ByteArray) (I : Nat → World → Prop) : Prop where
  next : ∀ k w w', I k w → Below w.heap.size w w' → I k w'
  byte : ∀ k c r w, s.data.toList.drop k = c :: r → c ≠ 37 → I k w → Calls Tryz.prog f (#[.string ⟨#[c]⟩] ++ caps) w fun e w' => e = .returned (.tuple #[]) ∧ I (k + 1) w'
  esc : ∀ k a b r w, s.data.toList.drop k = 37 :: a :: b :: r → (hexc a && hexc b) = true → I k w → Calls Tryz.prog f (#[.string ⟨#[37, a, b]⟩] ++ caps) w fun e w' => e = .returned (.tuple #[]) ∧ I (k + 3) w'
def EscPost (s : ByteArray) (I : Nat → World → Prop) (e : Ending) (w' : World) : Prop := (wellB s.data.toList = true ∧ e = .returned (.bool true) ∧ I s.size w') ∨ (wellB s.data.toList = false ∧ e = .returned (.bool false) ∧ ∃ k, I k w')

theorem mk_size (l : Bs) : (⟨l.toArray⟩ : ByteArray).size = l.length := rfl
def strLen : Value → Nat
  | .string b => b.size
  | _ => 0
theorem drop_nil {s : ByteArray} {k : Nat} (hk : k ≤ s.size) (h : s.data.toList.drop k = []) : k = s.size := by
  have := congrArg List.length h
  rw [List.length_drop, bs_size] at this
  simp at this; omega
end Go.Proofs.YtobhceopfjcmnaaGreatDoor
