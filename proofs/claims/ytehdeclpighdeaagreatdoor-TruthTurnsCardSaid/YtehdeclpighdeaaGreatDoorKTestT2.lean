/- The walks of used and of may: a use's text, and whether a node may be. The walks of text's two closures: a kid's text, and that of two. -/
import Derived.Test.YtehdeclpighdeaaGreatDoorKTestE6
import Derived.Test.YtehdeclpighdeaaGreatDoorKTestBackP
namespace Go.Proofs.YtehdeclpighdeaaGreatDoor
open Go.RowKit
set_option linter.unusedVariables false
theorem digAsc : ∀ (j : Nat) (b : UInt8), (⟨#[48, 49, 50, 51, 52, 53, 54, 55, 56, 57]⟩ : ByteArray).data.toList[j]? = some b → b.toNat < 128 := by
  intro j b h
  have hm := List.mem_of_getElem? h
  have : ∀ x ∈ (digSet : Bs), x.toNat < 128 := by decide
  exact this b hm
end Go.Proofs.YtehdeclpighdeaaGreatDoor
namespace Go.Proofs.YtehdeclpighdeaaGreatDoor
open Go.RowKit
set_option linter.unusedVariables false
def IntsAt (W : World) (v : Value) (L : List Int) : Prop := ∃ b o c, v = .slice (some ⟨b, o, none⟩) L.length c ∧ b < W.heap.size ∧ ∀ j, j < L.length → W.cell? ⟨b, o + j, none⟩ = some (.int .i64 (L.getD j 0))
theorem IntsAt.next {W W' : World} {v : Value} {L : List Int} (h : IntsAt W v L) (hb : Below W.heap.size W W') : IntsAt W' v L := by
  obtain ⟨b, o, c, h1, h2, h3⟩ := h
  exact ⟨b, o, c, h1, Nat.lt_of_lt_of_le h2 hb.size, fun j hj => (hb.cell (p := ⟨b, o + j, none⟩) h2).trans (h3 j hj)⟩
structure TwoK (W : World) (bx bk : Nat) (k : Int) (t : Bs) (u : UseI) (ya yb : Ex) (a : Option Addr) (c : Nat) : Prop where
  box : W.heap[bx]? = some (.cells (exL k t u (.slice a 2 c)).toArray 27)
  clo : W.cell? ⟨bk, 0, none⟩ = some (.func (.func 65) #[] #[.pointer (some ⟨bx, 0, none⟩)])
  kids : KidsAt (fun _ => True) W [ya, yb] (.slice a 2 c)
  good : Good W
theorem TwoK.next {W W' : World} {bx bk : Nat} {k : Int} {t : Bs} {u : UseI} {ya yb : Ex} {a : Option Addr} {c : Nat} (h : TwoK W bx bk k t u ya yb a c) (hb : Below W.heap.size W W') : TwoK W' bx bk k t u ya yb a c :=
  ⟨(hb.block _ (Array.getElem?_eq_some_iff.1 h.box).1).trans h.box, (hb.cell (p := ⟨bk, 0, none⟩) (cell_lt h.clo)).trans h.clo, kids_next h.kids hb, h.good.next hb⟩
end Go.Proofs.YtehdeclpighdeaaGreatDoor
