/-
  DERIVED. GIVEN WITH THE SEED: THE CARDS: each row of YtoipnaoijccokaaGreatDoorRows.lean that lists a variable, with what it lists TIED to the program's text (the seventh form; the later family's looks); each row that meets fmt, with fmt's text TOLD by the authors' own Lean function (tested against real Go, not proved from fmt's source: count such statements apart). THE CARD IS WHAT COUNTS. Prove the row's statement (the work); the ties are given (YtoipnaoijccokaaGreatDoorTie.lean); close each card by the builder's one call (the guide's Derived/Test/ToyasCard.lean, 'card_holds'). Laid BY PROGRAM, IN A SANDBOX (cutbox-door.mjs). By AI agents, Wed Nov 11 2026. No macro, syntax, notation, axiom, sorry.
-/
import Derived.Test.YtoipnaoijccokaaGreatDoorRows
import GoSem.ClaimSeven
namespace Go.Proofs.YtoipnaoijccokaaGreatDoor
namespace Rows

/-- THE TIED CARD OF 'inlaylaw26.SubstLong'. -/
def substLongCard : Claim7 := { stood := { row := substLongRow, standIns := [], harness := (true, "64b3b893e3057fd1fde8603c111fab75524a5a50bdf470c17107e43727517edd"), looks := false }, kinds := [], alts := [], laidByText := true, laidKinds := [.data, .pinned], laidTests := true, laidLooks := .later }
def SubstLongCardSaid : Prop := Claim7.holds Tryz.pinned (.plain (OpenSpec.ofChange substLongSpec)) substLongCard

/-- THE SECOND FORM's CARD OF 'inlaylaw26.SubstLong'. -/
def substLongUptoCard : Claim7 := { stood := { row := substLongUptoRow, standIns := [], harness := (true, "64b3b893e3057fd1fde8603c111fab75524a5a50bdf470c17107e43727517edd"), looks := false }, kinds := [], alts := [], laidByText := true, laidKinds := [.data, .pinned], laidTests := true, laidLooks := .later }
def SubstLongUptoCardSaid : Prop := Claim7.holds Tryz.pinned (.plain (OpenSpec.upto substLongSpec)) substLongUptoCard
end Rows
end Go.Proofs.YtoipnaoijccokaaGreatDoor
