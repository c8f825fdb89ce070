/- strings.SplitSeq's contract. -/
import Derived.Test.YtehdeclpighdeaaGreatDoorKSplit
namespace Go.Proofs.YtehdeclpighdeaaGreatDoor
open Go.RowKit Go.Shelf
set_option linter.unusedVariables false
theorem Stays.refl (n bs : Nat) (A : World) : Stays n bs A A := ⟨rfl, rfl, rfl, Nat.le_refl _, fun _ _ _ => rfl⟩
theorem Stays.trans {n bs : Nat} {A B C : World} (h : Stays n bs A B) (k : Stays n bs B C) : Stays n bs A C :=
  ⟨k.os.trans h.os, k.tape.trans h.tape, k.output.trans h.output, Nat.le_trans h.size k.size, fun i hi hn => (k.block i hi hn).trans (h.block i hi hn)⟩
theorem Stays.below {n bs m : Nat} {w A B : World} (h : Stays n bs A B) (hb : Below m w A) (hm : m ≤ n) (hbs : m ≤ bs) : Below m w B :=
  ⟨h.os.trans hb.os, h.tape.trans hb.tape, h.output.trans hb.output, Nat.le_trans hb.size h.size, fun k hk => (h.block k (by omega) (by omega)).trans (hb.block k hk)⟩
end Go.Proofs.YtehdeclpighdeaaGreatDoor
