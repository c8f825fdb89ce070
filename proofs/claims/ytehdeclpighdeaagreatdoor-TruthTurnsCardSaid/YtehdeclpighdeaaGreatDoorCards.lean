/-
  DERIVED. GIVEN WITH THE SEED: THE CARDS: each row of YtehdeclpighdeaaGreatDoorRows.lean that lists a variable, with what it lists TIED to the program's text (the seventh form; the later family's looks); each row that meets fmt, with fmt's text TOLD by the authors' own Lean function (tested against real Go, not proved from fmt's source: count such statements apart). THE CARD IS WHAT COUNTS. Prove the row's statement (the work); the ties are given (YtehdeclpighdeaaGreatDoorTie.lean); close each card by the builder's one call (the guide's Derived/Test/ToyasCard.lean, 'card_holds'). Laid BY PROGRAM, IN A SANDBOX (cutbox-door.mjs). By AI agents, Wed Nov 11 2026. No macro, syntax, notation, axiom, sorry.
-/
import Derived.Test.YtehdeclpighdeaaGreatDoorRows
import GoSem.ClaimSeven
namespace Go.Proofs.YtehdeclpighdeaaGreatDoor
namespace Rows

/-- THE TIED CARD OF 'inlaylaw27.TestParses'. -/
def testParsesCard : Claim7 := { stood := { row := testParsesRow, standIns := [], harness := (true, "3660bc4c363bfce8b4298e9aab85f4c5f99686c6130673f627cf825b4370a59c"), looks := true }, kinds := [], alts := [], laidByText := true, laidKinds := [.data, .pinned], laidTests := true, laidLooks := .later }
def TestParsesCardSaid : Prop := Claim7.holds Tryz.pinned (.plain (OpenSpec.ofChange testParsesSpec)) testParsesCard

/-- THE TIED CARD OF 'inlaylaw27.TestNests'. -/
def testNestsCard : Claim7 := { stood := { row := testNestsRow, standIns := [], harness := (true, "3660bc4c363bfce8b4298e9aab85f4c5f99686c6130673f627cf825b4370a59c"), looks := true }, kinds := [], alts := [], laidByText := true, laidKinds := [.data, .pinned], laidTests := true, laidLooks := .later }
def TestNestsCardSaid : Prop := Claim7.holds Tryz.pinned (.plain (OpenSpec.ofChange testNestsSpec)) testNestsCard

/-- THE TIED CARD OF 'inlaylaw27.TestPuts'. -/
def testPutsCard : Claim7 := { stood := { row := testPutsRow, standIns := [], harness := (true, "3660bc4c363bfce8b4298e9aab85f4c5f99686c6130673f627cf825b4370a59c"), looks := true }, kinds := [], alts := [], laidByText := true, laidKinds := [.data, .pinned], laidTests := true, laidLooks := .later }
def TestPutsCardSaid : Prop := Claim7.holds Tryz.pinned (.plain (OpenSpec.ofChange testPutsSpec)) testPutsCard

/-- THE TIED CARD OF 'inlaylaw27.TestBack'. -/
def testBackCard : Claim7 := { stood := { row := testBackRow, standIns := [], harness := (true, "3660bc4c363bfce8b4298e9aab85f4c5f99686c6130673f627cf825b4370a59c"), looks := true }, kinds := [], alts := [], laidByText := true, laidKinds := [.data, .pinned], laidTests := true, laidLooks := .later }
def TestBackCardSaid : Prop := Claim7.holds Tryz.pinned (.plain (OpenSpec.ofChange testBackSpec)) testBackCard

/-- THE TIED CARD OF 'inlaylaw27.TestBlanks'. -/
def testBlanksCard : Claim7 := { stood := { row := testBlanksRow, standIns := [], harness := (true, "3660bc4c363bfce8b4298e9aab85f4c5f99686c6130673f627cf825b4370a59c"), looks := true }, kinds := [], alts := [], laidByText := true, laidKinds := [.data, .pinned], laidTests := true, laidLooks := .later }
def TestBlanksCardSaid : Prop := Claim7.holds Tryz.pinned (.plain (OpenSpec.ofChange testBlanksSpec)) testBlanksCard

/-- THE TIED CARD OF 'inlaylaw27.TestKnown'. -/
def testKnownCard : Claim7 := { stood := { row := testKnownRow, standIns := [], harness := (true, "3660bc4c363bfce8b4298e9aab85f4c5f99686c6130673f627cf825b4370a59c"), looks := true }, kinds := [], alts := [], laidByText := true, laidKinds := [.data, .pinned], laidTests := true, laidLooks := .later }
def TestKnownCardSaid : Prop := Claim7.holds Tryz.pinned (.plain (OpenSpec.ofChange testKnownSpec)) testKnownCard

/-- THE TIED CARD OF 'inlaylaw28.TruthTurns'. -/
def truthTurnsCard : Claim7 := { stood := { row := truthTurnsRow, standIns := [], harness := (true, "3660bc4c363bfce8b4298e9aab85f4c5f99686c6130673f627cf825b4370a59c"), looks := true }, kinds := [], alts := [], laidByText := true, laidKinds := [.data, .data, .data, .data, .sentinel, .sentinel, .pinned], laidTests := true, laidLooks := .later }
def TruthTurnsCardSaid : Prop := Claim7.holds Tryz.pinned (.plain (OpenSpec.ofChange truthTurnsSpec)) truthTurnsCard

/-- THE TIED CARD OF 'inlaylaw28.TruthOrders'. -/
def truthOrdersCard : Claim7 := { stood := { row := truthOrdersRow, standIns := [], harness := (true, "3660bc4c363bfce8b4298e9aab85f4c5f99686c6130673f627cf825b4370a59c"), looks := true }, kinds := [], alts := [], laidByText := true, laidKinds := [.data, .data, .data, .data, .sentinel, .sentinel, .pinned], laidTests := true, laidLooks := .later }
def TruthOrdersCardSaid : Prop := Claim7.holds Tryz.pinned (.plain (OpenSpec.ofChange truthOrdersSpec)) truthOrdersCard

/-- THE SECOND FORM's CARD OF 'inlaylaw27.TestParses'. -/
def testParsesUptoCard : Claim7 := { stood := { row := testParsesUptoRow, standIns := [], harness := (true, "3660bc4c363bfce8b4298e9aab85f4c5f99686c6130673f627cf825b4370a59c"), looks := true }, kinds := [], alts := [], laidByText := true, laidKinds := [.data, .pinned], laidTests := true, laidLooks := .later }
def TestParsesUptoCardSaid : Prop := Claim7.holds Tryz.pinned (.plain (OpenSpec.upto testParsesSpec)) testParsesUptoCard

/-- THE SECOND FORM's CARD OF 'inlaylaw27.TestNests'. -/
def testNestsUptoCard : Claim7 := { stood := { row := testNestsUptoRow, standIns := [], harness := (true, "3660bc4c363bfce8b4298e9aab85f4c5f99686c6130673f627cf825b4370a59c"), looks := true }, kinds := [], alts := [], laidByText := true, laidKinds := [.data, .pinned], laidTests := true, laidLooks := .later }
def TestNestsUptoCardSaid : Prop := Claim7.holds Tryz.pinned (.plain (OpenSpec.upto testNestsSpec)) testNestsUptoCard

/-- THE SECOND FORM's CARD OF 'inlaylaw27.TestPuts'. -/
def testPutsUptoCard : Claim7 := { stood := { row := testPutsUptoRow, standIns := [], harness := (true, "3660bc4c363bfce8b4298e9aab85f4c5f99686c6130673f627cf825b4370a59c"), looks := true }, kinds := [], alts := [], laidByText := true, laidKinds := [.data, .pinned], laidTests := true, laidLooks := .later }
def TestPutsUptoCardSaid : Prop := Claim7.holds Tryz.pinned (.plain (OpenSpec.upto testPutsSpec)) testPutsUptoCard

/-- THE SECOND FORM's CARD OF 'inlaylaw27.TestBack'. -/
def testBackUptoCard : Claim7 := { stood := { row := testBackUptoRow, standIns := [], harness := (true, "3660bc4c363bfce8b4298e9aab85f4c5f99686c6130673f627cf825b4370a59c"), looks := true }, kinds := [], alts := [], laidByText := true, laidKinds := [.data, .pinned], laidTests := true, laidLooks := .later }
def TestBackUptoCardSaid : Prop := Claim7.holds Tryz.pinned (.plain (OpenSpec.upto testBackSpec)) testBackUptoCard

/-- THE SECOND FORM's CARD OF 'inlaylaw27.TestBlanks'. -/
def testBlanksUptoCard : Claim7 := { stood := { row := testBlanksUptoRow, standIns := [], harness := (true, "3660bc4c363bfce8b4298e9aab85f4c5f99686c6130673f627cf825b4370a59c"), looks := true }, kinds := [], alts := [], laidByText := true, laidKinds := [.data, .pinned], laidTests := true, laidLooks := .later }
def TestBlanksUptoCardSaid : Prop := Claim7.holds Tryz.pinned (.plain (OpenSpec.upto testBlanksSpec)) testBlanksUptoCard

/-- THE SECOND FORM's CARD OF 'inlaylaw27.TestKnown'. -/
def testKnownUptoCard : Claim7 := { stood := { row := testKnownUptoRow, standIns := [], harness := (true, "3660bc4c363bfce8b4298e9aab85f4c5f99686c6130673f627cf825b4370a59c"), looks := true }, kinds := [], alts := [], laidByText := true, laidKinds := [.data, .pinned], laidTests := true, laidLooks := .later }
def TestKnownUptoCardSaid : Prop := Claim7.holds Tryz.pinned (.plain (OpenSpec.upto testKnownSpec)) testKnownUptoCard

/-- THE SECOND FORM's CARD OF 'inlaylaw28.TruthTurns'. -/
def truthTurnsUptoCard : Claim7 := { stood := { row := truthTurnsUptoRow, standIns := [], harness := (true, "3660bc4c363bfce8b4298e9aab85f4c5f99686c6130673f627cf825b4370a59c"), looks := true }, kinds := [], alts := [], laidByText := true, laidKinds := [.data, .data, .data, .data, .sentinel, .sentinel, .pinned], laidTests := true, laidLooks := .later }
def TruthTurnsUptoCardSaid : Prop := Claim7.holds Tryz.pinned (.plain (OpenSpec.upto truthTurnsSpec)) truthTurnsUptoCard

/-- THE SECOND FORM's CARD OF 'inlaylaw28.TruthOrders'. -/
def truthOrdersUptoCard : Claim7 := { stood := { row := truthOrdersUptoRow, standIns := [], harness := (true, "3660bc4c363bfce8b4298e9aab85f4c5f99686c6130673f627cf825b4370a59c"), looks := true }, kinds := [], alts := [], laidByText := true, laidKinds := [.data, .data, .data, .data, .sentinel, .sentinel, .pinned], laidTests := true, laidLooks := .later }
def TruthOrdersUptoCardSaid : Prop := Claim7.holds Tryz.pinned (.plain (OpenSpec.upto truthOrdersSpec)) truthOrdersUptoCard
end Rows
end Go.Proofs.YtehdeclpighdeaaGreatDoor
