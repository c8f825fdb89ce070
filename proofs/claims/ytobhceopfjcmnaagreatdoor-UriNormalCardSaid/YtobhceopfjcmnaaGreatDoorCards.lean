/-
  DERIVED. GIVEN WITH THE SEED: THE CARDS: each row of YtobhceopfjcmnaaGreatDoorRows.lean that lists a variable, with what it lists TIED to the program's text (the seventh form; the later family's looks); each row that meets fmt, with fmt's text TOLD by the authors' own Lean function (tested against real Go, not proved from fmt's source: count such statements apart). THE CARD IS WHAT COUNTS. Prove the row's statement (the work); the ties are given (YtobhceopfjcmnaaGreatDoorTie.lean); close each card by the builder's one call (the guide's Derived/Test/ToyasCard.lean, 'card_holds'). Laid BY PROGRAM, IN A SANDBOX (cutbox-door.mjs). By AI agents, Wed Nov 11 2026. No macro, syntax, notation, axiom, sorry.
-/
import Derived.Test.YtobhceopfjcmnaaGreatDoorRows
import GoSem.ClaimSeven
namespace Go.Proofs.YtobhceopfjcmnaaGreatDoor
namespace Rows

/-- THE TIED CARD OF 'inlaylaw09.UriPuts'. -/
def uriPutsCard : Claim7 := { stood := { row := uriPutsRow, standIns := [], harness := (true, "61fc7d99f345e86299ed933c953d336a07e0a57dea7e7c2a9349e5e80deaa089"), looks := true }, kinds := [], alts := [], laidByText := true, laidKinds := [.data, .data, .data, .data, .sentinel, .sentinel, .pinned, .pinned], laidTests := true, laidLooks := .later }
def UriPutsCardSaid : Prop := Claim7.holds Tryz.pinned (.plain (OpenSpec.ofChange uriPutsSpec)) uriPutsCard

/-- THE TIED CARD OF 'inlaylaw09.UriNormal'. -/
def uriNormalCard : Claim7 := { stood := { row := uriNormalRow, standIns := [], harness := (true, "61fc7d99f345e86299ed933c953d336a07e0a57dea7e7c2a9349e5e80deaa089"), looks := true }, kinds := [], alts := [], laidByText := true, laidKinds := [.data, .data, .data, .data, .sentinel, .sentinel, .pinned, .pinned], laidTests := true, laidLooks := .later }
def UriNormalCardSaid : Prop := Claim7.holds Tryz.pinned (.plain (OpenSpec.ofChange uriNormalSpec)) uriNormalCard

/-- THE TIED CARD OF 'inlaylaw09.UriKnown'. -/
def uriKnownCard : Claim7 := { stood := { row := uriKnownRow, standIns := [], harness := (true, "61fc7d99f345e86299ed933c953d336a07e0a57dea7e7c2a9349e5e80deaa089"), looks := true }, kinds := [], alts := [], laidByText := true, laidKinds := [.data, .data, .data, .data, .sentinel, .sentinel, .pinned, .pinned], laidTests := true, laidLooks := .later }
def UriKnownCardSaid : Prop := Claim7.holds Tryz.pinned (.plain (OpenSpec.ofChange uriKnownSpec)) uriKnownCard

/-- THE TIED CARD OF 'inlaylaw10.ResolveRefs'. -/
def resolveRefsCard : Claim7 := { stood := { row := resolveRefsRow, standIns := [], harness := (true, "61fc7d99f345e86299ed933c953d336a07e0a57dea7e7c2a9349e5e80deaa089"), looks := true }, kinds := [], alts := [], laidByText := true, laidKinds := [.data, .data, .data, .data, .sentinel, .sentinel, .pinned, .pinned], laidTests := true, laidLooks := .later }
def ResolveRefsCardSaid : Prop := Claim7.holds Tryz.pinned (.plain (OpenSpec.ofChange resolveRefsSpec)) resolveRefsCard

/-- THE TIED CARD OF 'inlaylaw10.ResolveWhole'. -/
def resolveWholeCard : Claim7 := { stood := { row := resolveWholeRow, standIns := [], harness := (true, "61fc7d99f345e86299ed933c953d336a07e0a57dea7e7c2a9349e5e80deaa089"), looks := true }, kinds := [], alts := [], laidByText := true, laidKinds := [.data, .data, .data, .data, .sentinel, .sentinel, .pinned, .pinned], laidTests := true, laidLooks := .later }
def ResolveWholeCardSaid : Prop := Claim7.holds Tryz.pinned (.plain (OpenSpec.ofChange resolveWholeSpec)) resolveWholeCard

/-- THE TIED CARD OF 'inlaylaw10.ResolveKnown'. -/
def resolveKnownCard : Claim7 := { stood := { row := resolveKnownRow, standIns := [], harness := (true, "61fc7d99f345e86299ed933c953d336a07e0a57dea7e7c2a9349e5e80deaa089"), looks := true }, kinds := [], alts := [], laidByText := true, laidKinds := [.data, .data, .data, .data, .sentinel, .sentinel, .pinned, .pinned], laidTests := true, laidLooks := .later }
def ResolveKnownCardSaid : Prop := Claim7.holds Tryz.pinned (.plain (OpenSpec.ofChange resolveKnownSpec)) resolveKnownCard

/-- THE TIED CARD OF 'inlaylaw17.KeyOf'. -/
def keyOfCard : Claim7 := { stood := { row := keyOfRow, standIns := [], harness := (true, "61fc7d99f345e86299ed933c953d336a07e0a57dea7e7c2a9349e5e80deaa089"), looks := true }, kinds := [], alts := [], laidByText := true, laidKinds := [.data, .data, .data, .data, .sentinel, .sentinel, .pinned, .pinned], laidTests := true, laidLooks := .later }
def KeyOfCardSaid : Prop := Claim7.holds Tryz.pinned (.plain (OpenSpec.ofChange keyOfSpec)) keyOfCard

/-- THE TIED CARD OF 'inlaylaw17.KeyGone'. -/
def keyGoneCard : Claim7 := { stood := { row := keyGoneRow, standIns := [], harness := (true, "61fc7d99f345e86299ed933c953d336a07e0a57dea7e7c2a9349e5e80deaa089"), looks := true }, kinds := [], alts := [], laidByText := true, laidKinds := [.data, .data, .data, .data, .sentinel, .sentinel, .pinned, .pinned], laidTests := true, laidLooks := .later }
def KeyGoneCardSaid : Prop := Claim7.holds Tryz.pinned (.plain (OpenSpec.ofChange keyGoneSpec)) keyGoneCard

/-- THE TIED CARD OF 'inlaylaw17.KeyKnown'. -/
def keyKnownCard : Claim7 := { stood := { row := keyKnownRow, standIns := [], harness := (true, "61fc7d99f345e86299ed933c953d336a07e0a57dea7e7c2a9349e5e80deaa089"), looks := true }, kinds := [], alts := [], laidByText := true, laidKinds := [.data, .data, .data, .data, .sentinel, .sentinel, .pinned, .pinned], laidTests := true, laidLooks := .later }
def KeyKnownCardSaid : Prop := Claim7.holds Tryz.pinned (.plain (OpenSpec.ofChange keyKnownSpec)) keyKnownCard

/-- THE TIED CARD OF 'inlaylaw17.KeyNormal'. -/
def keyNormalCard : Claim7 := { stood := { row := keyNormalRow, standIns := [], harness := (true, "61fc7d99f345e86299ed933c953d336a07e0a57dea7e7c2a9349e5e80deaa089"), looks := true }, kinds := [], alts := [], laidByText := true, laidKinds := [.data, .data, .data, .data, .sentinel, .sentinel, .pinned, .pinned], laidTests := true, laidLooks := .later }
def KeyNormalCardSaid : Prop := Claim7.holds Tryz.pinned (.plain (OpenSpec.ofChange keyNormalSpec)) keyNormalCard

/-- THE TIED CARD OF 'inlaylaw17.KeyOwn'. -/
def keyOwnCard : Claim7 := { stood := { row := keyOwnRow, standIns := [], harness := (true, "61fc7d99f345e86299ed933c953d336a07e0a57dea7e7c2a9349e5e80deaa089"), looks := true }, kinds := [], alts := [], laidByText := true, laidKinds := [.data, .data, .data, .data, .sentinel, .sentinel, .pinned, .pinned], laidTests := true, laidLooks := .later }
def KeyOwnCardSaid : Prop := Claim7.holds Tryz.pinned (.plain (OpenSpec.ofChange keyOwnSpec)) keyOwnCard

/-- THE SECOND FORM's CARD OF 'inlaylaw09.UriPuts'. -/
def uriPutsUptoCard : Claim7 := { stood := { row := uriPutsUptoRow, standIns := [], harness := (true, "61fc7d99f345e86299ed933c953d336a07e0a57dea7e7c2a9349e5e80deaa089"), looks := true }, kinds := [], alts := [], laidByText := true, laidKinds := [.data, .data, .data, .data, .sentinel, .sentinel, .pinned, .pinned], laidTests := true, laidLooks := .later }
def UriPutsUptoCardSaid : Prop := Claim7.holds Tryz.pinned (.plain (OpenSpec.upto uriPutsSpec)) uriPutsUptoCard

/-- THE SECOND FORM's CARD OF 'inlaylaw09.UriNormal'. -/
def uriNormalUptoCard : Claim7 := { stood := { row := uriNormalUptoRow, standIns := [], harness := (true, "61fc7d99f345e86299ed933c953d336a07e0a57dea7e7c2a9349e5e80deaa089"), looks := true }, kinds := [], alts := [], laidByText := true, laidKinds := [.data, .data, .data, .data, .sentinel, .sentinel, .pinned, .pinned], laidTests := true, laidLooks := .later }
def UriNormalUptoCardSaid : Prop := Claim7.holds Tryz.pinned (.plain (OpenSpec.upto uriNormalSpec)) uriNormalUptoCard

/-- THE SECOND FORM's CARD OF 'inlaylaw09.UriKnown'. -/
def uriKnownUptoCard : Claim7 := { stood := { row := uriKnownUptoRow, standIns := [], harness := (true, "61fc7d99f345e86299ed933c953d336a07e0a57dea7e7c2a9349e5e80deaa089"), looks := true }, kinds := [], alts := [], laidByText := true, laidKinds := [.data, .data, .data, .data, .sentinel, .sentinel, .pinned, .pinned], laidTests := true, laidLooks := .later }
def UriKnownUptoCardSaid : Prop := Claim7.holds Tryz.pinned (.plain (OpenSpec.upto uriKnownSpec)) uriKnownUptoCard

/-- THE SECOND FORM's CARD OF 'inlaylaw10.ResolveRefs'. -/
def resolveRefsUptoCard : Claim7 := { stood := { row := resolveRefsUptoRow, standIns := [], harness := (true, "61fc7d99f345e86299ed933c953d336a07e0a57dea7e7c2a9349e5e80deaa089"), looks := true }, kinds := [], alts := [], laidByText := true, laidKinds := [.data, .data, .data, .data, .sentinel, .sentinel, .pinned, .pinned], laidTests := true, laidLooks := .later }
def ResolveRefsUptoCardSaid : Prop := Claim7.holds Tryz.pinned (.plain (OpenSpec.upto resolveRefsSpec)) resolveRefsUptoCard

/-- THE SECOND FORM's CARD OF 'inlaylaw10.ResolveWhole'. -/
def resolveWholeUptoCard : Claim7 := { stood := { row := resolveWholeUptoRow, standIns := [], harness := (true, "61fc7d99f345e86299ed933c953d336a07e0a57dea7e7c2a9349e5e80deaa089"), looks := true }, kinds := [], alts := [], laidByText := true, laidKinds := [.data, .data, .data, .data, .sentinel, .sentinel, .pinned, .pinned], laidTests := true, laidLooks := .later }
def ResolveWholeUptoCardSaid : Prop := Claim7.holds Tryz.pinned (.plain (OpenSpec.upto resolveWholeSpec)) resolveWholeUptoCard

/-- THE SECOND FORM's CARD OF 'inlaylaw10.ResolveKnown'. -/
def resolveKnownUptoCard : Claim7 := { stood := { row := resolveKnownUptoRow, standIns := [], harness := (true, "61fc7d99f345e86299ed933c953d336a07e0a57dea7e7c2a9349e5e80deaa089"), looks := true }, kinds := [], alts := [], laidByText := true, laidKinds := [.data, .data, .data, .data, .sentinel, .sentinel, .pinned, .pinned], laidTests := true, laidLooks := .later }
def ResolveKnownUptoCardSaid : Prop := Claim7.holds Tryz.pinned (.plain (OpenSpec.upto resolveKnownSpec)) resolveKnownUptoCard

/-- THE SECOND FORM's CARD OF 'inlaylaw17.KeyOf'. -/
def keyOfUptoCard : Claim7 := { stood := { row := keyOfUptoRow, standIns := [], harness := (true, "61fc7d99f345e86299ed933c953d336a07e0a57dea7e7c2a9349e5e80deaa089"), looks := true }, kinds := [], alts := [], laidByText := true, laidKinds := [.data, .data, .data, .data, .sentinel, .sentinel, .pinned, .pinned], laidTests := true, laidLooks := .later }
def KeyOfUptoCardSaid : Prop := Claim7.holds Tryz.pinned (.plain (OpenSpec.upto keyOfSpec)) keyOfUptoCard

/-- THE SECOND FORM's CARD OF 'inlaylaw17.KeyGone'. -/
def keyGoneUptoCard : Claim7 := { stood := { row := keyGoneUptoRow, standIns := [], harness := (true, "61fc7d99f345e86299ed933c953d336a07e0a57dea7e7c2a9349e5e80deaa089"), looks := true }, kinds := [], alts := [], laidByText := true, laidKinds := [.data, .data, .data, .data, .sentinel, .sentinel, .pinned, .pinned], laidTests := true, laidLooks := .later }
def KeyGoneUptoCardSaid : Prop := Claim7.holds Tryz.pinned (.plain (OpenSpec.upto keyGoneSpec)) keyGoneUptoCard

/-- THE SECOND FORM's CARD OF 'inlaylaw17.KeyKnown'. -/
def keyKnownUptoCard : Claim7 := { stood := { row := keyKnownUptoRow, standIns := [], harness := (true, "61fc7d99f345e86299ed933c953d336a07e0a57dea7e7c2a9349e5e80deaa089"), looks := true }, kinds := [], alts := [], laidByText := true, laidKinds := [.data, .data, .data, .data, .sentinel, .sentinel, .pinned, .pinned], laidTests := true, laidLooks := .later }
def KeyKnownUptoCardSaid : Prop := Claim7.holds Tryz.pinned (.plain (OpenSpec.upto keyKnownSpec)) keyKnownUptoCard

/-- THE SECOND FORM's CARD OF 'inlaylaw17.KeyNormal'. -/
def keyNormalUptoCard : Claim7 := { stood := { row := keyNormalUptoRow, standIns := [], harness := (true, "61fc7d99f345e86299ed933c953d336a07e0a57dea7e7c2a9349e5e80deaa089"), looks := true }, kinds := [], alts := [], laidByText := true, laidKinds := [.data, .data, .data, .data, .sentinel, .sentinel, .pinned, .pinned], laidTests := true, laidLooks := .later }
def KeyNormalUptoCardSaid : Prop := Claim7.holds Tryz.pinned (.plain (OpenSpec.upto keyNormalSpec)) keyNormalUptoCard

/-- THE SECOND FORM's CARD OF 'inlaylaw17.KeyOwn'. -/
def keyOwnUptoCard : Claim7 := { stood := { row := keyOwnUptoRow, standIns := [], harness := (true, "61fc7d99f345e86299ed933c953d336a07e0a57dea7e7c2a9349e5e80deaa089"), looks := true }, kinds := [], alts := [], laidByText := true, laidKinds := [.data, .data, .data, .data, .sentinel, .sentinel, .pinned, .pinned], laidTests := true, laidLooks := .later }
def KeyOwnUptoCardSaid : Prop := Claim7.holds Tryz.pinned (.plain (OpenSpec.upto keyOwnSpec)) keyOwnUptoCard
end Rows
end Go.Proofs.YtobhceopfjcmnaaGreatDoor
