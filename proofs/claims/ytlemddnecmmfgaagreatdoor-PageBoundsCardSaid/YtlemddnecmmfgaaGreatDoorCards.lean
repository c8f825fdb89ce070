/-
  DERIVED. GIVEN WITH THE SEED: THE CARDS: each row of YtlemddnecmmfgaaGreatDoorRows.lean that lists a variable, with what it lists TIED to the program's text (the seventh form; the later family's looks); each row that meets fmt, with fmt's text TOLD by the authors' own Lean function (tested against real Go, not proved from fmt's source: count such statements apart). THE CARD IS WHAT COUNTS. Prove the row's statement (the work); the ties are given (YtlemddnecmmfgaaGreatDoorTie.lean); close each card by the builder's one call (the guide's Derived/Test/ToyasCard.lean, 'card_holds'). Laid BY PROGRAM, IN A SANDBOX (cutbox-door.mjs). By AI agents, Wed Nov 11 2026. No macro, syntax, notation, axiom, sorry.
-/
import Derived.Test.YtlemddnecmmfgaaGreatDoorRows
import GoSem.ClaimSeven
namespace Go.Proofs.YtlemddnecmmfgaaGreatDoor
namespace Rows

/-- THE TIED CARD OF 'inlaylaw29.PageAsks'. -/
def pageAsksCard : Claim7 := { stood := { row := pageAsksRow, standIns := [], harness := (true, "062f705b4d39eb88ab69b9883bc91fc3116ff3c2718cef5c0e07475d607ffc96"), looks := true }, kinds := [], alts := [], laidByText := true, laidKinds := [.data, .data, .data, .data, .sentinel, .sentinel, .listed, .data, .pinned, .pinned], laidTests := true, laidLooks := .later }
def PageAsksCardSaid : Prop := Claim7.holds Tryz.pinned (.plain (OpenSpec.ofChange pageAsksSpec)) pageAsksCard

/-- THE TIED CARD OF 'inlaylaw29.PageBounds'. -/
def pageBoundsCard : Claim7 := { stood := { row := pageBoundsRow, standIns := [], harness := (true, "062f705b4d39eb88ab69b9883bc91fc3116ff3c2718cef5c0e07475d607ffc96"), looks := true }, kinds := [], alts := [], laidByText := true, laidKinds := [.data, .data, .data, .data, .sentinel, .sentinel, .listed, .data, .pinned, .pinned], laidTests := true, laidLooks := .later }
def PageBoundsCardSaid : Prop := Claim7.holds Tryz.pinned (.plain (OpenSpec.ofChange pageBoundsSpec)) pageBoundsCard

/-- THE TIED CARD OF 'inlaylaw29.PageReads'. -/
def pageReadsCard : Claim7 := { stood := { row := pageReadsRow, standIns := [], harness := (true, "062f705b4d39eb88ab69b9883bc91fc3116ff3c2718cef5c0e07475d607ffc96"), looks := true }, kinds := [], alts := [], laidByText := true, laidKinds := [.data, .data, .data, .data, .sentinel, .sentinel, .listed, .data, .pinned, .pinned], laidTests := true, laidLooks := .later }
def PageReadsCardSaid : Prop := Claim7.holds Tryz.pinned (.plain (OpenSpec.ofChange pageReadsSpec)) pageReadsCard

/-- THE SECOND FORM's CARD OF 'inlaylaw29.PageAsks'. -/
def pageAsksUptoCard : Claim7 := { stood := { row := pageAsksUptoRow, standIns := [], harness := (true, "062f705b4d39eb88ab69b9883bc91fc3116ff3c2718cef5c0e07475d607ffc96"), looks := true }, kinds := [], alts := [], laidByText := true, laidKinds := [.data, .data, .data, .data, .sentinel, .sentinel, .listed, .data, .pinned, .pinned], laidTests := true, laidLooks := .later }
def PageAsksUptoCardSaid : Prop := Claim7.holds Tryz.pinned (.plain (OpenSpec.upto pageAsksSpec)) pageAsksUptoCard

/-- THE SECOND FORM's CARD OF 'inlaylaw29.PageBounds'. -/
def pageBoundsUptoCard : Claim7 := { stood := { row := pageBoundsUptoRow, standIns := [], harness := (true, "062f705b4d39eb88ab69b9883bc91fc3116ff3c2718cef5c0e07475d607ffc96"), looks := true }, kinds := [], alts := [], laidByText := true, laidKinds := [.data, .data, .data, .data, .sentinel, .sentinel, .listed, .data, .pinned, .pinned], laidTests := true, laidLooks := .later }
def PageBoundsUptoCardSaid : Prop := Claim7.holds Tryz.pinned (.plain (OpenSpec.upto pageBoundsSpec)) pageBoundsUptoCard

/-- THE SECOND FORM's CARD OF 'inlaylaw29.PageReads'. -/
def pageReadsUptoCard : Claim7 := { stood := { row := pageReadsUptoRow, standIns := [], harness := (true, "062f705b4d39eb88ab69b9883bc91fc3116ff3c2718cef5c0e07475d607ffc96"), looks := true }, kinds := [], alts := [], laidByText := true, laidKinds := [.data, .data, .data, .data, .sentinel, .sentinel, .listed, .data, .pinned, .pinned], laidTests := true, laidLooks := .later }
def PageReadsUptoCardSaid : Prop := Claim7.holds Tryz.pinned (.plain (OpenSpec.upto pageReadsSpec)) pageReadsUptoCard
end Rows
end Go.Proofs.YtlemddnecmmfgaaGreatDoor
