/-
  DERIVED. GIVEN WITH THE SEED: THE CARDS: each row of YtgpeehilemidlaaGreatDoorRows.lean that lists a variable, with what it lists TIED to the program's text (the seventh form; the later family's looks); each row that meets fmt, with fmt's text TOLD by the authors' own Lean function (tested against real Go, not proved from fmt's source: count such statements apart). THE CARD IS WHAT COUNTS. Prove the row's statement (the work); the ties are given (YtgpeehilemidlaaGreatDoorTie.lean); close each card by the builder's one call (the guide's Derived/Test/ToyasCard.lean, 'card_holds'). Laid BY PROGRAM, IN A SANDBOX (cutbox-door.mjs). By AI agents, Wed Nov 11 2026. No macro, syntax, notation, axiom, sorry.
-/
import Derived.Test.YtgpeehilemidlaaGreatDoorRows
import GoSem.ClaimSeven
namespace Go.Proofs.YtgpeehilemidlaaGreatDoor
namespace Rows

/-- THE TIED CARD OF 'inlaylaw26.SubstFinds'. -/
def substFindsCard : Claim7 := { stood := { row := substFindsRow, standIns := [], harness := (true, "76fb27acd7fc41be4a64f8bf2879130f82d80a7aacabbf17c9cab9708f8a8e2e"), looks := false }, kinds := [], alts := [], laidByText := true, laidKinds := [.data, .pinned], laidTests := true, laidLooks := .later }
def SubstFindsCardSaid : Prop := Claim7.holds Tryz.pinned (.plain (OpenSpec.ofChange substFindsSpec)) substFindsCard

/-- THE TIED CARD OF 'inlaylaw26.SubstMakes'. -/
def substMakesCard : Claim7 := { stood := { row := substMakesRow, standIns := [], harness := (true, "76fb27acd7fc41be4a64f8bf2879130f82d80a7aacabbf17c9cab9708f8a8e2e"), looks := false }, kinds := [], alts := [], laidByText := true, laidKinds := [.data, .pinned], laidTests := true, laidLooks := .later }
def SubstMakesCardSaid : Prop := Claim7.holds Tryz.pinned (.plain (OpenSpec.ofChange substMakesSpec)) substMakesCard

/-- THE TIED CARD OF 'inlaylaw26.SubstLong'. -/
def substLongCard : Claim7 := { stood := { row := substLongRow, standIns := [], harness := (true, "76fb27acd7fc41be4a64f8bf2879130f82d80a7aacabbf17c9cab9708f8a8e2e"), looks := false }, kinds := [], alts := [], laidByText := true, laidKinds := [.data, .pinned], laidTests := true, laidLooks := .later }
def SubstLongCardSaid : Prop := Claim7.holds Tryz.pinned (.plain (OpenSpec.ofChange substLongSpec)) substLongCard

/-- THE SECOND FORM's CARD OF 'inlaylaw26.SubstFinds'. -/
def substFindsUptoCard : Claim7 := { stood := { row := substFindsUptoRow, standIns := [], harness := (true, "76fb27acd7fc41be4a64f8bf2879130f82d80a7aacabbf17c9cab9708f8a8e2e"), looks := false }, kinds := [], alts := [], laidByText := true, laidKinds := [.data, .pinned], laidTests := true, laidLooks := .later }
def SubstFindsUptoCardSaid : Prop := Claim7.holds Tryz.pinned (.plain (OpenSpec.upto substFindsSpec)) substFindsUptoCard

/-- THE SECOND FORM's CARD OF 'inlaylaw26.SubstMakes'. -/
def substMakesUptoCard : Claim7 := { stood := { row := substMakesUptoRow, standIns := [], harness := (true, "76fb27acd7fc41be4a64f8bf2879130f82d80a7aacabbf17c9cab9708f8a8e2e"), looks := false }, kinds := [], alts := [], laidByText := true, laidKinds := [.data, .pinned], laidTests := true, laidLooks := .later }
def SubstMakesUptoCardSaid : Prop := Claim7.holds Tryz.pinned (.plain (OpenSpec.upto substMakesSpec)) substMakesUptoCard

/-- THE SECOND FORM's CARD OF 'inlaylaw26.SubstLong'. -/
def substLongUptoCard : Claim7 := { stood := { row := substLongUptoRow, standIns := [], harness := (true, "76fb27acd7fc41be4a64f8bf2879130f82d80a7aacabbf17c9cab9708f8a8e2e"), looks := false }, kinds := [], alts := [], laidByText := true, laidKinds := [.data, .pinned], laidTests := true, laidLooks := .later }
def SubstLongUptoCardSaid : Prop := Claim7.holds Tryz.pinned (.plain (OpenSpec.upto substLongSpec)) substLongUptoCard
end Rows
end Go.Proofs.YtgpeehilemidlaaGreatDoor
