/-
  DERIVED. GIVEN WITH THE SEED: THE CARDS: each row of YtgpeehilemidlaaDoorRows.lean that lists a variable, with what it lists TIED to the program's text (the seventh form; the later family's looks); each row that meets fmt, with fmt's text TOLD by the authors' own Lean function (tested against real Go, not proved from fmt's source: count such statements apart). THE CARD IS WHAT COUNTS. Prove the row's statement (the work); the ties are given (YtgpeehilemidlaaDoorTie.lean); close each card by the builder's one call (the guide's Derived/Test/ToyasCard.lean, 'card_holds'). Laid BY PROGRAM, IN A SANDBOX (cutbox-door.mjs). By AI agents, Wed Nov 11 2026. No macro, syntax, notation, axiom, sorry.
-/
import Derived.Test.YtgpeehilemidlaaDoorRows
import GoSem.ClaimSeven
namespace Go.Proofs.YtgpeehilemidlaaDoor
namespace Rows

/-- THE TIED CARD OF 'inlaylaw25.VarsGet'. -/
def varsGetCard : Claim7 := { stood := { row := varsGetRow, standIns := [], harness := (true, "e44389e7bb27469fa98aad416eeb47a2eda6f8ae5deb5b6e6a2b11daf141bbad"), looks := false }, kinds := [], alts := [], laidByText := true, laidKinds := [.data, .pinned], laidTests := true, laidLooks := .later }
def VarsGetCardSaid : Prop := Claim7.holds Tryd.pinned (.plain (OpenSpec.ofChange varsGetSpec)) varsGetCard

/-- THE TIED CARD OF 'inlaylaw25.VarsStay'. -/
def varsStayCard : Claim7 := { stood := { row := varsStayRow, standIns := [], harness := (true, "e44389e7bb27469fa98aad416eeb47a2eda6f8ae5deb5b6e6a2b11daf141bbad"), looks := false }, kinds := [], alts := [], laidByText := true, laidKinds := [.data, .pinned], laidTests := true, laidLooks := .later }
def VarsStayCardSaid : Prop := Claim7.holds Tryd.pinned (.plain (OpenSpec.ofChange varsStaySpec)) varsStayCard

/-- THE TIED CARD OF 'inlaylaw25.VarsRead'. -/
def varsReadCard : Claim7 := { stood := { row := varsReadRow, standIns := [], harness := (true, "e44389e7bb27469fa98aad416eeb47a2eda6f8ae5deb5b6e6a2b11daf141bbad"), looks := false }, kinds := [], alts := [], laidByText := true, laidKinds := [.data, .pinned], laidTests := true, laidLooks := .later }
def VarsReadCardSaid : Prop := Claim7.holds Tryd.pinned (.plain (OpenSpec.ofChange varsReadSpec)) varsReadCard

/-- THE TIED CARD OF 'inlaylaw25.VarsNames'. -/
def varsNamesCard : Claim7 := { stood := { row := varsNamesRow, standIns := [], harness := (true, "e44389e7bb27469fa98aad416eeb47a2eda6f8ae5deb5b6e6a2b11daf141bbad"), looks := false }, kinds := [], alts := [], laidByText := true, laidKinds := [.data, .pinned], laidTests := true, laidLooks := .later }
def VarsNamesCardSaid : Prop := Claim7.holds Tryd.pinned (.plain (OpenSpec.ofChange varsNamesSpec)) varsNamesCard

/-- THE TIED CARD OF 'inlaylaw26.SubstApart'. -/
def substApartCard : Claim7 := { stood := { row := substApartRow, standIns := [], harness := (true, "e44389e7bb27469fa98aad416eeb47a2eda6f8ae5deb5b6e6a2b11daf141bbad"), looks := false }, kinds := [], alts := [], laidByText := true, laidKinds := [.data, .pinned], laidTests := true, laidLooks := .later }
def SubstApartCardSaid : Prop := Claim7.holds Tryd.pinned (.plain (OpenSpec.ofChange substApartSpec)) substApartCard

/-- THE TIED CARD OF 'inlaylaw26.SubstKnown'. -/
def substKnownCard : Claim7 := { stood := { row := substKnownRow, standIns := [], harness := (true, "e44389e7bb27469fa98aad416eeb47a2eda6f8ae5deb5b6e6a2b11daf141bbad"), looks := false }, kinds := [], alts := [], laidByText := true, laidKinds := [.data, .pinned], laidTests := true, laidLooks := .later }
def SubstKnownCardSaid : Prop := Claim7.holds Tryd.pinned (.plain (OpenSpec.ofChange substKnownSpec)) substKnownCard

/-- THE TIED CARD OF 'inlaylaw25.VarsKnown'. -/
def varsKnownCard : Claim7 := { stood := { row := varsKnownRow, standIns := [], harness := (true, "e44389e7bb27469fa98aad416eeb47a2eda6f8ae5deb5b6e6a2b11daf141bbad"), looks := false }, kinds := [], alts := [], laidByText := true, laidKinds := [.data, .pinned], laidTests := true, laidLooks := .later }
def VarsKnownCardSaid : Prop := Claim7.holds Tryd.pinned (.plain (OpenSpec.ofChange varsKnownSpec)) varsKnownCard

/-- THE TIED CARD OF 'inlaylaw26.SubstOnce'. -/
def substOnceCard : Claim7 := { stood := { row := substOnceRow, standIns := [], harness := (true, "e44389e7bb27469fa98aad416eeb47a2eda6f8ae5deb5b6e6a2b11daf141bbad"), looks := false }, kinds := [], alts := [], laidByText := true, laidKinds := [.data, .pinned], laidTests := true, laidLooks := .later }
def SubstOnceCardSaid : Prop := Claim7.holds Tryd.pinned (.plain (OpenSpec.ofChange substOnceSpec)) substOnceCard

/-- THE SECOND FORM's CARD OF 'inlaylaw25.VarsGet'. -/
def varsGetUptoCard : Claim7 := { stood := { row := varsGetUptoRow, standIns := [], harness := (true, "e44389e7bb27469fa98aad416eeb47a2eda6f8ae5deb5b6e6a2b11daf141bbad"), looks := false }, kinds := [], alts := [], laidByText := true, laidKinds := [.data, .pinned], laidTests := true, laidLooks := .later }
def VarsGetUptoCardSaid : Prop := Claim7.holds Tryd.pinned (.plain (OpenSpec.upto varsGetSpec)) varsGetUptoCard

/-- THE SECOND FORM's CARD OF 'inlaylaw25.VarsStay'. -/
def varsStayUptoCard : Claim7 := { stood := { row := varsStayUptoRow, standIns := [], harness := (true, "e44389e7bb27469fa98aad416eeb47a2eda6f8ae5deb5b6e6a2b11daf141bbad"), looks := false }, kinds := [], alts := [], laidByText := true, laidKinds := [.data, .pinned], laidTests := true, laidLooks := .later }
def VarsStayUptoCardSaid : Prop := Claim7.holds Tryd.pinned (.plain (OpenSpec.upto varsStaySpec)) varsStayUptoCard

/-- THE SECOND FORM's CARD OF 'inlaylaw25.VarsRead'. -/
def varsReadUptoCard : Claim7 := { stood := { row := varsReadUptoRow, standIns := [], harness := (true, "e44389e7bb27469fa98aad416eeb47a2eda6f8ae5deb5b6e6a2b11daf141bbad"), looks := false }, kinds := [], alts := [], laidByText := true, laidKinds := [.data, .pinned], laidTests := true, laidLooks := .later }
def VarsReadUptoCardSaid : Prop := Claim7.holds Tryd.pinned (.plain (OpenSpec.upto varsReadSpec)) varsReadUptoCard

/-- THE SECOND FORM's CARD OF 'inlaylaw25.VarsNames'. -/
def varsNamesUptoCard : Claim7 := { stood := { row := varsNamesUptoRow, standIns := [], harness := (true, "e44389e7bb27469fa98aad416eeb47a2eda6f8ae5deb5b6e6a2b11daf141bbad"), looks := false }, kinds := [], alts := [], laidByText := true, laidKinds := [.data, .pinned], laidTests := true, laidLooks := .later }
def VarsNamesUptoCardSaid : Prop := Claim7.holds Tryd.pinned (.plain (OpenSpec.upto varsNamesSpec)) varsNamesUptoCard

/-- THE SECOND FORM's CARD OF 'inlaylaw26.SubstApart'. -/
def substApartUptoCard : Claim7 := { stood := { row := substApartUptoRow, standIns := [], harness := (true, "e44389e7bb27469fa98aad416eeb47a2eda6f8ae5deb5b6e6a2b11daf141bbad"), looks := false }, kinds := [], alts := [], laidByText := true, laidKinds := [.data, .pinned], laidTests := true, laidLooks := .later }
def SubstApartUptoCardSaid : Prop := Claim7.holds Tryd.pinned (.plain (OpenSpec.upto substApartSpec)) substApartUptoCard

/-- THE SECOND FORM's CARD OF 'inlaylaw26.SubstKnown'. -/
def substKnownUptoCard : Claim7 := { stood := { row := substKnownUptoRow, standIns := [], harness := (true, "e44389e7bb27469fa98aad416eeb47a2eda6f8ae5deb5b6e6a2b11daf141bbad"), looks := false }, kinds := [], alts := [], laidByText := true, laidKinds := [.data, .pinned], laidTests := true, laidLooks := .later }
def SubstKnownUptoCardSaid : Prop := Claim7.holds Tryd.pinned (.plain (OpenSpec.upto substKnownSpec)) substKnownUptoCard

/-- THE SECOND FORM's CARD OF 'inlaylaw25.VarsKnown'. -/
def varsKnownUptoCard : Claim7 := { stood := { row := varsKnownUptoRow, standIns := [], harness := (true, "e44389e7bb27469fa98aad416eeb47a2eda6f8ae5deb5b6e6a2b11daf141bbad"), looks := false }, kinds := [], alts := [], laidByText := true, laidKinds := [.data, .pinned], laidTests := true, laidLooks := .later }
def VarsKnownUptoCardSaid : Prop := Claim7.holds Tryd.pinned (.plain (OpenSpec.upto varsKnownSpec)) varsKnownUptoCard

/-- THE SECOND FORM's CARD OF 'inlaylaw26.SubstOnce'. -/
def substOnceUptoCard : Claim7 := { stood := { row := substOnceUptoRow, standIns := [], harness := (true, "e44389e7bb27469fa98aad416eeb47a2eda6f8ae5deb5b6e6a2b11daf141bbad"), looks := false }, kinds := [], alts := [], laidByText := true, laidKinds := [.data, .pinned], laidTests := true, laidLooks := .later }
def SubstOnceUptoCardSaid : Prop := Claim7.holds Tryd.pinned (.plain (OpenSpec.upto substOnceSpec)) substOnceUptoCard
end Rows
end Go.Proofs.YtgpeehilemidlaaDoor
