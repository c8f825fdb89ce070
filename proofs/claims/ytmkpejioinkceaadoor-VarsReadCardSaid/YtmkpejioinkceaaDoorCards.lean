/-
  DERIVED. GIVEN WITH THE SEED: THE CARDS: each row of YtmkpejioinkceaaDoorRows.lean that lists a variable, with what it lists TIED to the program's text (the seventh form; the later family's looks); each row that meets fmt, with fmt's text TOLD by the authors' own Lean function (tested against real Go, not proved from fmt's source: count such statements apart). THE CARD IS WHAT COUNTS. Prove the row's statement (the work); the ties are given (YtmkpejioinkceaaDoorTie.lean); close each card by the builder's one call (the guide's Derived/Test/ToyasCard.lean, 'card_holds'). Laid BY PROGRAM, IN A SANDBOX (cutbox-door.mjs). By AI agents, Wed Nov 11 2026. No macro, syntax, notation, axiom, sorry.
-/
import Derived.Test.YtmkpejioinkceaaDoorRows
import GoSem.ClaimSeven
namespace Go.Proofs.YtmkpejioinkceaaDoor
namespace Rows

/-- THE TIED CARD OF 'inlaylaw25.VarsRead'. -/
def varsReadCard : Claim7 := { stood := { row := varsReadRow, standIns := [], harness := (true, "ee0c449308cc5bce90387951bc820bf4b8afd097fba5d3fe7be997f98d6e6837"), looks := false }, kinds := [], alts := [], laidByText := true, laidKinds := [.data, .pinned], laidTests := true, laidLooks := .later }
def VarsReadCardSaid : Prop := Claim7.holds Tryd.pinned (.plain (OpenSpec.ofChange varsReadSpec)) varsReadCard

/-- THE SECOND FORM's CARD OF 'inlaylaw25.VarsRead'. -/
def varsReadUptoCard : Claim7 := { stood := { row := varsReadUptoRow, standIns := [], harness := (true, "ee0c449308cc5bce90387951bc820bf4b8afd097fba5d3fe7be997f98d6e6837"), looks := false }, kinds := [], alts := [], laidByText := true, laidKinds := [.data, .pinned], laidTests := true, laidLooks := .later }
def VarsReadUptoCardSaid : Prop := Claim7.holds Tryd.pinned (.plain (OpenSpec.upto varsReadSpec)) varsReadUptoCard
end Rows
end Go.Proofs.YtmkpejioinkceaaDoor
