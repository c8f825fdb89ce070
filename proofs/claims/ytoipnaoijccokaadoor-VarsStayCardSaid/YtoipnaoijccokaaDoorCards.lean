/-
  DERIVED. GIVEN WITH THE SEED: THE CARDS: each row of YtoipnaoijccokaaDoorRows.lean that lists a variable, with what it lists TIED to the program's text (the seventh form; the later family's looks); each row that meets fmt, with fmt's text TOLD by the authors' own Lean function (tested against real Go, not proved from fmt's source: count such statements apart). THE CARD IS WHAT COUNTS. Prove the row's statement (the work); the ties are given (YtoipnaoijccokaaDoorTie.lean); close each card by the builder's one call (the guide's Derived/Test/ToyasCard.lean, 'card_holds'). Laid BY PROGRAM, IN A SANDBOX (cutbox-door.mjs). By AI agents, Wed Nov 11 2026. No macro, syntax, notation, axiom, sorry.
-/
import Derived.Test.YtoipnaoijccokaaDoorRows
import GoSem.ClaimSeven
namespace Go.Proofs.YtoipnaoijccokaaDoor
namespace Rows

/-- THE TIED CARD OF 'inlaylaw25.VarsStay'. -/
def varsStayCard : Claim7 := { stood := { row := varsStayRow, standIns := [], harness := (true, "93c35816a6a8f57c98ace6beb2bdeea937931b85e2dd8551103be92ba5f4488a"), looks := false }, kinds := [], alts := [], laidByText := true, laidKinds := [.data, .pinned], laidTests := true, laidLooks := .later }
def VarsStayCardSaid : Prop := Claim7.holds Tryd.pinned (.plain (OpenSpec.ofChange varsStaySpec)) varsStayCard

/-- THE TIED CARD OF 'inlaylaw25.VarsRead'. -/
def varsReadCard : Claim7 := { stood := { row := varsReadRow, standIns := [], harness := (true, "93c35816a6a8f57c98ace6beb2bdeea937931b85e2dd8551103be92ba5f4488a"), looks := false }, kinds := [], alts := [], laidByText := true, laidKinds := [.data, .pinned], laidTests := true, laidLooks := .later }
def VarsReadCardSaid : Prop := Claim7.holds Tryd.pinned (.plain (OpenSpec.ofChange varsReadSpec)) varsReadCard

/-- THE SECOND FORM's CARD OF 'inlaylaw25.VarsStay'. -/
def varsStayUptoCard : Claim7 := { stood := { row := varsStayUptoRow, standIns := [], harness := (true, "93c35816a6a8f57c98ace6beb2bdeea937931b85e2dd8551103be92ba5f4488a"), looks := false }, kinds := [], alts := [], laidByText := true, laidKinds := [.data, .pinned], laidTests := true, laidLooks := .later }
def VarsStayUptoCardSaid : Prop := Claim7.holds Tryd.pinned (.plain (OpenSpec.upto varsStaySpec)) varsStayUptoCard

/-- THE SECOND FORM's CARD OF 'inlaylaw25.VarsRead'. -/
def varsReadUptoCard : Claim7 := { stood := { row := varsReadUptoRow, standIns := [], harness := (true, "93c35816a6a8f57c98ace6beb2bdeea937931b85e2dd8551103be92ba5f4488a"), looks := false }, kinds := [], alts := [], laidByText := true, laidKinds := [.data, .pinned], laidTests := true, laidLooks := .later }
def VarsReadUptoCardSaid : Prop := Claim7.holds Tryd.pinned (.plain (OpenSpec.upto varsReadSpec)) varsReadUptoCard
end Rows
end Go.Proofs.YtoipnaoijccokaaDoor
