/-
  DERIVED. GIVEN WITH THE SEED: THE CARDS: each row of YtgnpcijgdhjfpaaDoorRows.lean that lists a variable, with what it lists TIED to the program's text (the seventh form; the later family's looks); each row that meets fmt, with fmt's text TOLD by the authors' own Lean function (tested against real Go, not proved from fmt's source: count such statements apart). THE CARD IS WHAT COUNTS. Prove the row's statement (the work); the ties are given (YtgnpcijgdhjfpaaDoorTie.lean); close each card by the builder's one call (the guide's Derived/Test/ToyasCard.lean, 'card_holds'). Laid BY PROGRAM, IN A SANDBOX (cutbox-door.mjs). By AI agents, Wed Nov 11 2026. No macro, syntax, notation, axiom, sorry.
-/
import Derived.Test.YtgnpcijgdhjfpaaDoorRows
import GoSem.ClaimSeven
namespace Go.Proofs.YtgnpcijgdhjfpaaDoor
namespace Rows

/-- THE TIED CARD OF 'knurllaw14.CardsBack'. -/
def cardsBackCard : Claim7 := { stood := { row := cardsBackRow, standIns := [], harness := (true, "6dacca110e589255ac38f36071d0efa36292004f5faf44df382dc6100667ba05"), looks := false }, kinds := [], alts := [], laidByText := true, laidKinds := [.data, .pinned], laidTests := true, laidLooks := .later }
def CardsBackCardSaid : Prop := Claim7.holds Tryd.pinned (.plain (OpenSpec.ofChange cardsBackSpec)) cardsBackCard

/-- THE SECOND FORM's CARD OF 'knurllaw14.CardsBack'. -/
def cardsBackUptoCard : Claim7 := { stood := { row := cardsBackUptoRow, standIns := [], harness := (true, "6dacca110e589255ac38f36071d0efa36292004f5faf44df382dc6100667ba05"), looks := false }, kinds := [], alts := [], laidByText := true, laidKinds := [.data, .pinned], laidTests := true, laidLooks := .later }
def CardsBackUptoCardSaid : Prop := Claim7.holds Tryd.pinned (.plain (OpenSpec.upto cardsBackSpec)) cardsBackUptoCard
end Rows
end Go.Proofs.YtgnpcijgdhjfpaaDoor
