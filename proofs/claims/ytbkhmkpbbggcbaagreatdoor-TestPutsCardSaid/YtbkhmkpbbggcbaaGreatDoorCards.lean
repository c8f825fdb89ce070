/-
  DERIVED. GIVEN WITH THE SEED: THE CARDS: each row of YtbkhmkpbbggcbaaGreatDoorRows.lean that lists a variable, with what it lists TIED to the program's text (the seventh form; the later family's looks); each row that meets fmt, with fmt's text TOLD by the authors' own Lean function (tested against real Go, not proved from fmt's source: count such statements apart). THE CARD IS WHAT COUNTS. Prove the row's statement (the work); the ties are given (YtbkhmkpbbggcbaaGreatDoorTie.lean); close each card by the builder's one call (the guide's Derived/Test/ToyasCard.lean, 'card_holds'). Laid BY PROGRAM, IN A SANDBOX (cutbox-door.mjs). By AI agents, Wed Nov 11 2026. No macro, syntax, notation, axiom, sorry.
-/
import Derived.Test.YtbkhmkpbbggcbaaGreatDoorRows
import GoSem.ClaimSeven
namespace Go.Proofs.YtbkhmkpbbggcbaaGreatDoor
namespace Rows

/-- THE TIED CARD OF 'inlaylaw27.TestPuts'. -/
def testPutsCard : Claim7 := { stood := { row := testPutsRow, standIns := [], harness := (true, "5544e9c5583bf42bcc9febd4e6064f676ea16c1f2a79898073f253ed6a2ef7fe"), looks := false }, kinds := [], alts := [], laidByText := true, laidKinds := [.data, .pinned], laidTests := true, laidLooks := .later }
def TestPutsCardSaid : Prop := Claim7.holds Tryz.pinned (.plain (OpenSpec.ofChange testPutsSpec)) testPutsCard

/-- THE SECOND FORM's CARD OF 'inlaylaw27.TestPuts'. -/
def testPutsUptoCard : Claim7 := { stood := { row := testPutsUptoRow, standIns := [], harness := (true, "5544e9c5583bf42bcc9febd4e6064f676ea16c1f2a79898073f253ed6a2ef7fe"), looks := false }, kinds := [], alts := [], laidByText := true, laidKinds := [.data, .pinned], laidTests := true, laidLooks := .later }
def TestPutsUptoCardSaid : Prop := Claim7.holds Tryz.pinned (.plain (OpenSpec.upto testPutsSpec)) testPutsUptoCard
end Rows
end Go.Proofs.YtbkhmkpbbggcbaaGreatDoor
