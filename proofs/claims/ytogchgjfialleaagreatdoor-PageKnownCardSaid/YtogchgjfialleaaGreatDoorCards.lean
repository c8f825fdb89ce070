/-
  DERIVED. GIVEN WITH THE SEED: THE CARDS: each row of YtogchgjfialleaaGreatDoorRows.lean that lists a variable, with what it lists TIED to the program's text (the seventh form; the later family's looks); each row that meets fmt, with fmt's text TOLD by the authors' own Lean function (tested against real Go, not proved from fmt's source: count such statements apart). THE CARD IS WHAT COUNTS. Prove the row's statement (the work); the ties are given (YtogchgjfialleaaGreatDoorTie.lean); close each card by the builder's one call (the guide's Derived/Test/ToyasCard.lean, 'card_holds'). Laid BY PROGRAM, IN A SANDBOX (cutbox-door.mjs). By AI agents, Wed Nov 11 2026. No macro, syntax, notation, axiom, sorry.
-/
import Derived.Test.YtogchgjfialleaaGreatDoorRows
import GoSem.ClaimSeven
namespace Go.Proofs.YtogchgjfialleaaGreatDoor
namespace Rows

/-- THE TIED CARD OF 'inlaylaw29.PageKnown'. -/
def pageKnownCard : Claim7 := { stood := { row := pageKnownRow, standIns := [], harness := (true, "d95e0cf1943e8ef335677187b663366315e478da5794c94175298bdd881cf8ba"), looks := true }, kinds := [], alts := [], laidByText := true, laidKinds := [.data, .data, .data, .data, .sentinel, .sentinel, .listed, .data, .pinned, .pinned], laidTests := true, laidLooks := .later }
def PageKnownCardSaid : Prop := Claim7.holds Tryz.pinned (.plain (OpenSpec.ofChange pageKnownSpec)) pageKnownCard

/-- THE SECOND FORM's CARD OF 'inlaylaw29.PageKnown'. -/
def pageKnownUptoCard : Claim7 := { stood := { row := pageKnownUptoRow, standIns := [], harness := (true, "d95e0cf1943e8ef335677187b663366315e478da5794c94175298bdd881cf8ba"), looks := true }, kinds := [], alts := [], laidByText := true, laidKinds := [.data, .data, .data, .data, .sentinel, .sentinel, .listed, .data, .pinned, .pinned], laidTests := true, laidLooks := .later }
def PageKnownUptoCardSaid : Prop := Claim7.holds Tryz.pinned (.plain (OpenSpec.upto pageKnownSpec)) pageKnownUptoCard
end Rows
end Go.Proofs.YtogchgjfialleaaGreatDoor
