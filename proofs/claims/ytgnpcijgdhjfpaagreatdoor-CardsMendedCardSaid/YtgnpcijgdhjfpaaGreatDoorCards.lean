/-
  DERIVED. GIVEN WITH THE SEED: THE CARDS: each row of YtgnpcijgdhjfpaaGreatDoorRows.lean that lists a variable, with what it lists TIED to the program's text (the seventh form; the later family's looks); each row that meets fmt, with fmt's text TOLD by the authors' own Lean function (tested against real Go, not proved from fmt's source: count such statements apart). THE CARD IS WHAT COUNTS. Prove the row's statement (the work); the ties are given (YtgnpcijgdhjfpaaGreatDoorTie.lean); close each card by the builder's one call (the guide's Derived/Test/ToyasCard.lean, 'card_holds'). Laid BY PROGRAM, IN A SANDBOX (cutbox-door.mjs). By AI agents, Wed Nov 11 2026. No macro, syntax, notation, axiom, sorry.
-/
import Derived.Test.YtgnpcijgdhjfpaaGreatDoorRows
import GoSem.ClaimSeven
namespace Go.Proofs.YtgnpcijgdhjfpaaGreatDoor
namespace Rows

/-- THE TIED CARD OF 'knurllaw14.CardsMended'. -/
def cardsMendedCard : Claim7 := { stood := { row := cardsMendedRow, standIns := [], harness := (true, "3bde293fce045e9e98ed4d3593ef8bc91ac8063b5b8f01897df6daa7a8a12804"), looks := false }, kinds := [], alts := [], laidByText := true, laidKinds := [.data, .pinned], laidTests := true, laidLooks := .later }
def CardsMendedCardSaid : Prop := Claim7.holds Tryz.pinned (.plain (OpenSpec.ofChange cardsMendedSpec)) cardsMendedCard

/-- THE TIED CARD OF 'knurllaw14.CardsThree'. -/
def cardsThreeCard : Claim7 := { stood := { row := cardsThreeRow, standIns := [], harness := (true, "3bde293fce045e9e98ed4d3593ef8bc91ac8063b5b8f01897df6daa7a8a12804"), looks := false }, kinds := [], alts := [], laidByText := true, laidKinds := [.data, .pinned], laidTests := true, laidLooks := .later }
def CardsThreeCardSaid : Prop := Claim7.holds Tryz.pinned (.plain (OpenSpec.ofChange cardsThreeSpec)) cardsThreeCard

/-- THE TIED CARD OF 'knurllaw14.CardsOrder'. -/
def cardsOrderCard : Claim7 := { stood := { row := cardsOrderRow, standIns := [], harness := (true, "3bde293fce045e9e98ed4d3593ef8bc91ac8063b5b8f01897df6daa7a8a12804"), looks := false }, kinds := [], alts := [], laidByText := true, laidKinds := [.data, .pinned], laidTests := true, laidLooks := .later }
def CardsOrderCardSaid : Prop := Claim7.holds Tryz.pinned (.plain (OpenSpec.ofChange cardsOrderSpec)) cardsOrderCard

/-- THE TIED CARD OF 'knurllaw14.CardsWrite'. -/
def cardsWriteCard : Claim7 := { stood := { row := cardsWriteRow, standIns := [], harness := (true, "3bde293fce045e9e98ed4d3593ef8bc91ac8063b5b8f01897df6daa7a8a12804"), looks := false }, kinds := [], alts := [], laidByText := true, laidKinds := [.data, .pinned], laidTests := true, laidLooks := .later }
def CardsWriteCardSaid : Prop := Claim7.holds Tryz.pinned (.plain (OpenSpec.ofChange cardsWriteSpec)) cardsWriteCard

/-- THE TIED CARD OF 'knurllaw14.CardsRead'. -/
def cardsReadCard : Claim7 := { stood := { row := cardsReadRow, standIns := [], harness := (true, "3bde293fce045e9e98ed4d3593ef8bc91ac8063b5b8f01897df6daa7a8a12804"), looks := false }, kinds := [], alts := [], laidByText := true, laidKinds := [.data, .pinned], laidTests := true, laidLooks := .later }
def CardsReadCardSaid : Prop := Claim7.holds Tryz.pinned (.plain (OpenSpec.ofChange cardsReadSpec)) cardsReadCard

/-- THE TIED CARD OF 'knurllaw14.CardsCopies'. -/
def cardsCopiesCard : Claim7 := { stood := { row := cardsCopiesRow, standIns := [], harness := (true, "3bde293fce045e9e98ed4d3593ef8bc91ac8063b5b8f01897df6daa7a8a12804"), looks := false }, kinds := [], alts := [], laidByText := true, laidKinds := [.data, .pinned], laidTests := true, laidLooks := .later }
def CardsCopiesCardSaid : Prop := Claim7.holds Tryz.pinned (.plain (OpenSpec.ofChange cardsCopiesSpec)) cardsCopiesCard

/-- THE TIED CARD OF 'knurllaw14.CardsJoin'. -/
def cardsJoinCard : Claim7 := { stood := { row := cardsJoinRow, standIns := [], harness := (true, "3bde293fce045e9e98ed4d3593ef8bc91ac8063b5b8f01897df6daa7a8a12804"), looks := false }, kinds := [], alts := [], laidByText := true, laidKinds := [.data, .pinned], laidTests := true, laidLooks := .later }
def CardsJoinCardSaid : Prop := Claim7.holds Tryz.pinned (.plain (OpenSpec.ofChange cardsJoinSpec)) cardsJoinCard

/-- THE SECOND FORM's CARD OF 'knurllaw14.CardsMended'. -/
def cardsMendedUptoCard : Claim7 := { stood := { row := cardsMendedUptoRow, standIns := [], harness := (true, "3bde293fce045e9e98ed4d3593ef8bc91ac8063b5b8f01897df6daa7a8a12804"), looks := false }, kinds := [], alts := [], laidByText := true, laidKinds := [.data, .pinned], laidTests := true, laidLooks := .later }
def CardsMendedUptoCardSaid : Prop := Claim7.holds Tryz.pinned (.plain (OpenSpec.upto cardsMendedSpec)) cardsMendedUptoCard

/-- THE SECOND FORM's CARD OF 'knurllaw14.CardsThree'. -/
def cardsThreeUptoCard : Claim7 := { stood := { row := cardsThreeUptoRow, standIns := [], harness := (true, "3bde293fce045e9e98ed4d3593ef8bc91ac8063b5b8f01897df6daa7a8a12804"), looks := false }, kinds := [], alts := [], laidByText := true, laidKinds := [.data, .pinned], laidTests := true, laidLooks := .later }
def CardsThreeUptoCardSaid : Prop := Claim7.holds Tryz.pinned (.plain (OpenSpec.upto cardsThreeSpec)) cardsThreeUptoCard

/-- THE SECOND FORM's CARD OF 'knurllaw14.CardsOrder'. -/
def cardsOrderUptoCard : Claim7 := { stood := { row := cardsOrderUptoRow, standIns := [], harness := (true, "3bde293fce045e9e98ed4d3593ef8bc91ac8063b5b8f01897df6daa7a8a12804"), looks := false }, kinds := [], alts := [], laidByText := true, laidKinds := [.data, .pinned], laidTests := true, laidLooks := .later }
def CardsOrderUptoCardSaid : Prop := Claim7.holds Tryz.pinned (.plain (OpenSpec.upto cardsOrderSpec)) cardsOrderUptoCard

/-- THE SECOND FORM's CARD OF 'knurllaw14.CardsWrite'. -/
def cardsWriteUptoCard : Claim7 := { stood := { row := cardsWriteUptoRow, standIns := [], harness := (true, "3bde293fce045e9e98ed4d3593ef8bc91ac8063b5b8f01897df6daa7a8a12804"), looks := false }, kinds := [], alts := [], laidByText := true, laidKinds := [.data, .pinned], laidTests := true, laidLooks := .later }
def CardsWriteUptoCardSaid : Prop := Claim7.holds Tryz.pinned (.plain (OpenSpec.upto cardsWriteSpec)) cardsWriteUptoCard

/-- THE SECOND FORM's CARD OF 'knurllaw14.CardsRead'. -/
def cardsReadUptoCard : Claim7 := { stood := { row := cardsReadUptoRow, standIns := [], harness := (true, "3bde293fce045e9e98ed4d3593ef8bc91ac8063b5b8f01897df6daa7a8a12804"), looks := false }, kinds := [], alts := [], laidByText := true, laidKinds := [.data, .pinned], laidTests := true, laidLooks := .later }
def CardsReadUptoCardSaid : Prop := Claim7.holds Tryz.pinned (.plain (OpenSpec.upto cardsReadSpec)) cardsReadUptoCard

/-- THE SECOND FORM's CARD OF 'knurllaw14.CardsCopies'. -/
def cardsCopiesUptoCard : Claim7 := { stood := { row := cardsCopiesUptoRow, standIns := [], harness := (true, "3bde293fce045e9e98ed4d3593ef8bc91ac8063b5b8f01897df6daa7a8a12804"), looks := false }, kinds := [], alts := [], laidByText := true, laidKinds := [.data, .pinned], laidTests := true, laidLooks := .later }
def CardsCopiesUptoCardSaid : Prop := Claim7.holds Tryz.pinned (.plain (OpenSpec.upto cardsCopiesSpec)) cardsCopiesUptoCard

/-- THE SECOND FORM's CARD OF 'knurllaw14.CardsJoin'. -/
def cardsJoinUptoCard : Claim7 := { stood := { row := cardsJoinUptoRow, standIns := [], harness := (true, "3bde293fce045e9e98ed4d3593ef8bc91ac8063b5b8f01897df6daa7a8a12804"), looks := false }, kinds := [], alts := [], laidByText := true, laidKinds := [.data, .pinned], laidTests := true, laidLooks := .later }
def CardsJoinUptoCardSaid : Prop := Claim7.holds Tryz.pinned (.plain (OpenSpec.upto cardsJoinSpec)) cardsJoinUptoCard
end Rows
end Go.Proofs.YtgnpcijgdhjfpaaGreatDoor
