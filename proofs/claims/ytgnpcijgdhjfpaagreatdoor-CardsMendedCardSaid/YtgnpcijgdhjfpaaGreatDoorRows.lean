/-
  NARROWER THAN 'FOR EVERY INPUT', by the rows' own cells (each row's printed sentence says how): CardsMended: laid · CardsThree: laid · CardsOrder: laid · CardsWrite: laid · CardsRead: laid · CardsCopies: laid · CardsJoin: laid.
  DERIVED. THE GIVEN ROWS OF THIS SEAT. 7 by the template 'for every input the law returns true; each argument reads behind the call as it read before'; 0 by the template 'total and deterministic' (their statements: YtgnpcijgdhjfpaaGreatDoorTotals.lean).
  GIVEN WITH THE SEED: the statements are not yours to turn. If you find one false, say at which input.
  Laid BY PROGRAM, IN A SANDBOX (cutbox-rows.mjs): the forced cells as the released guide's own fill.sh prints them over the translation ca843cd736d6f993… (all of the seat's roots in one cut). By AI agents, Wed Nov 11 2026. No macro, syntax, notation, axiom, sorry.
-/
import Derived.Test.YtgnpcijgdhjfpaaGreatDoorChecked
import GoSem.PinnedTables
import GoSem.Claim
import GoSem.ClaimJoined
import GoSem.ClaimMapViews
import Derived.JoinedTies
import Derived.KernelRfl
namespace Go.Proofs.YtgnpcijgdhjfpaaGreatDoor
/- THE CELL 'sum', in the pinned program and in every row, IS THE sha256 OF THE DUMP (.gsa) THAT YtgnpcijgdhjfpaaGreatDoorProg.lean LOADS. Nothing in Lean hashes anything: it is a label: what it is worth is what the hold of that sum in a sandbox is worth. -/
noncomputable def Tryz.pinned : Pinned := { name := "ytgnpcijgdhjfpaagreatdoor", sum := "ca843cd736d6f993dfe915010f6e071edea5c75f1f423e321f8bb07327685352", checked := Tryz.checked }
namespace Rows
def none {H : Type} : Left H := { results := [], args := [] }

/- WHAT THE LISTED PACKAGE-LEVEL VARIABLES READ AS WHEN THE CALL BEGINS. Each datum BY PROGRAM (the guide's laid-datum.mjs) off the statement by which the dump's own 'gosem.cut.vars' lays the variable. In a bare row this is a premise. The card (YtgnpcijgdhjfpaaGreatDoorCards.lean) ties it to the program's text. -/
def laid_unicode_utf8_acceptRanges {H : Type} : DataW H := .agg [.agg [.lit (.int .u8 128), .lit (.int .u8 191)], .agg [.lit (.int .u8 160), .lit (.int .u8 191)], .agg [.lit (.int .u8 128), .lit (.int .u8 159)], .agg [.lit (.int .u8 144), .lit (.int .u8 191)], .agg [.lit (.int .u8 128), .lit (.int .u8 143)], .agg [.lit (.int .u8 0), .lit (.int .u8 0)], .agg [.lit (.int .u8 0), .lit (.int .u8 0)], .agg [.lit (.int .u8 0), .lit (.int .u8 0)], .agg [.lit (.int .u8 0), .lit (.int .u8 0)], .agg [.lit (.int .u8 0), .lit (.int .u8 0)], .agg [.lit (.int .u8 0), .lit (.int .u8 0)], .agg [.lit (.int .u8 0), .lit (.int .u8 0)], .agg [.lit (.int .u8 0), .lit (.int .u8 0)], .agg [.lit (.int .u8 0), .lit (.int .u8 0)], .agg [.lit (.int .u8 0), .lit (.int .u8 0)], .agg [.lit (.int .u8 0), .lit (.int .u8 0)]]
/-- One of Go's own tables, pinned by name: the form's constant. -/
def laid_unicode_utf8_first : DataW Unit := Go.Pinned.utf8First

/-- 'knurllaw14.CardsMended': WHATEVER THE INPUT: true; the input reads as it did. -/
def cardsMendedSpec : ChangeSpec := { name := "cardsMended", fn := fun _ => fun
  | [d1, d2] => { results := [.lit (.bool true)], args := [d1, d2] }
  | _ => none }
def cardsMendedRow : OpenClaim := { program := "ytgnpcijgdhjfpaagreatdoor", sum := "ca843cd736d6f993dfe915010f6e071edea5c75f1f423e321f8bb07327685352", func := "knurl/knurllaw14.CardsMended", spec := "cardsMended", inPlace := ["internal/abi.NoEscape", "internal/bytealg.MakeNoZero", "internal/bytealg.IndexByteString", "internal/bytealg.IndexString", "internal/bytealg.CountString"], unfollowed := true, recurses := true, named := ["internal/bytealg.MaxLen", "unicode/utf8.first", "unicode/utf8.acceptRanges"], apart := false, laid := [("unicode/utf8.acceptRanges", laid_unicode_utf8_acceptRanges), ("unicode/utf8.first", laid_unicode_utf8_first)] }
def CardsMendedSaid : Prop := cardsMendedRow.holds Tryz.pinned (OpenSpec.ofChange cardsMendedSpec)

/-- ITS FALSE NEIGHBOUR: 'it returns false'. Refute it at one input. -/
def cardsMendedWrong : ChangeSpec := { name := "cardsMended", fn := fun _ => fun
  | [d1, d2] => { results := [.lit (.bool false)], args := [d1, d2] }
  | _ => none }
def CardsMendedWrongFalsely : Prop := cardsMendedRow.holds Tryz.pinned (OpenSpec.ofChange cardsMendedWrong)

/-- 'knurllaw14.CardsThree': WHATEVER THE INPUT: true; the input reads as it did. -/
def cardsThreeSpec : ChangeSpec := { name := "cardsThree", fn := fun _ => fun
  | [d1, d2] => { results := [.lit (.bool true)], args := [d1, d2] }
  | _ => none }
def cardsThreeRow : OpenClaim := { program := "ytgnpcijgdhjfpaagreatdoor", sum := "ca843cd736d6f993dfe915010f6e071edea5c75f1f423e321f8bb07327685352", func := "knurl/knurllaw14.CardsThree", spec := "cardsThree", inPlace := ["internal/abi.NoEscape", "internal/bytealg.MakeNoZero", "internal/bytealg.IndexByteString", "internal/bytealg.IndexString", "internal/bytealg.CountString"], unfollowed := true, recurses := true, named := ["internal/bytealg.MaxLen", "unicode/utf8.first", "unicode/utf8.acceptRanges"], apart := false, laid := [("unicode/utf8.acceptRanges", laid_unicode_utf8_acceptRanges), ("unicode/utf8.first", laid_unicode_utf8_first)] }
def CardsThreeSaid : Prop := cardsThreeRow.holds Tryz.pinned (OpenSpec.ofChange cardsThreeSpec)

/-- ITS FALSE NEIGHBOUR: 'it returns false'. Refute it at one input. -/
def cardsThreeWrong : ChangeSpec := { name := "cardsThree", fn := fun _ => fun
  | [d1, d2] => { results := [.lit (.bool false)], args := [d1, d2] }
  | _ => none }
def CardsThreeWrongFalsely : Prop := cardsThreeRow.holds Tryz.pinned (OpenSpec.ofChange cardsThreeWrong)

/-- 'knurllaw14.CardsOrder': WHATEVER THE INPUT: true; the input reads as it did. -/
def cardsOrderSpec : ChangeSpec := { name := "cardsOrder", fn := fun _ => fun
  | [d1, d2] => { results := [.lit (.bool true)], args := [d1, d2] }
  | _ => none }
def cardsOrderRow : OpenClaim := { program := "ytgnpcijgdhjfpaagreatdoor", sum := "ca843cd736d6f993dfe915010f6e071edea5c75f1f423e321f8bb07327685352", func := "knurl/knurllaw14.CardsOrder", spec := "cardsOrder", inPlace := ["internal/abi.NoEscape", "internal/bytealg.MakeNoZero", "internal/bytealg.IndexByteString", "internal/bytealg.IndexString", "internal/bytealg.CountString"], unfollowed := true, recurses := true, named := ["internal/bytealg.MaxLen", "unicode/utf8.first", "unicode/utf8.acceptRanges"], apart := false, laid := [("unicode/utf8.acceptRanges", laid_unicode_utf8_acceptRanges), ("unicode/utf8.first", laid_unicode_utf8_first)] }
def CardsOrderSaid : Prop := cardsOrderRow.holds Tryz.pinned (OpenSpec.ofChange cardsOrderSpec)

/-- ITS FALSE NEIGHBOUR: 'it returns false'. Refute it at one input. -/
def cardsOrderWrong : ChangeSpec := { name := "cardsOrder", fn := fun _ => fun
  | [d1, d2] => { results := [.lit (.bool false)], args := [d1, d2] }
  | _ => none }
def CardsOrderWrongFalsely : Prop := cardsOrderRow.holds Tryz.pinned (OpenSpec.ofChange cardsOrderWrong)

/-- 'knurllaw14.CardsWrite': WHATEVER THE INPUT: true; the input reads as it did. -/
def cardsWriteSpec : ChangeSpec := { name := "cardsWrite", fn := fun _ => fun
  | [d] => { results := [.lit (.bool true)], args := [d] }
  | _ => none }
def cardsWriteRow : OpenClaim := { program := "ytgnpcijgdhjfpaagreatdoor", sum := "ca843cd736d6f993dfe915010f6e071edea5c75f1f423e321f8bb07327685352", func := "knurl/knurllaw14.CardsWrite", spec := "cardsWrite", inPlace := ["internal/abi.NoEscape", "internal/bytealg.MakeNoZero", "internal/bytealg.IndexByteString", "internal/bytealg.IndexString", "internal/bytealg.CountString"], unfollowed := true, recurses := true, named := ["internal/bytealg.MaxLen", "unicode/utf8.first", "unicode/utf8.acceptRanges"], apart := false, laid := [("unicode/utf8.acceptRanges", laid_unicode_utf8_acceptRanges), ("unicode/utf8.first", laid_unicode_utf8_first)] }
def CardsWriteSaid : Prop := cardsWriteRow.holds Tryz.pinned (OpenSpec.ofChange cardsWriteSpec)

/-- ITS FALSE NEIGHBOUR: 'it returns false'. Refute it at one input. -/
def cardsWriteWrong : ChangeSpec := { name := "cardsWrite", fn := fun _ => fun
  | [d] => { results := [.lit (.bool false)], args := [d] }
  | _ => none }
def CardsWriteWrongFalsely : Prop := cardsWriteRow.holds Tryz.pinned (OpenSpec.ofChange cardsWriteWrong)

/-- 'knurllaw14.CardsRead': WHATEVER THE INPUT: true; the input reads as it did. -/
def cardsReadSpec : ChangeSpec := { name := "cardsRead", fn := fun _ => fun
  | [d] => { results := [.lit (.bool true)], args := [d] }
  | _ => none }
def cardsReadRow : OpenClaim := { program := "ytgnpcijgdhjfpaagreatdoor", sum := "ca843cd736d6f993dfe915010f6e071edea5c75f1f423e321f8bb07327685352", func := "knurl/knurllaw14.CardsRead", spec := "cardsRead", inPlace := ["internal/abi.NoEscape", "internal/bytealg.MakeNoZero", "internal/bytealg.IndexByteString", "internal/bytealg.IndexString", "internal/bytealg.CountString"], unfollowed := true, recurses := true, named := ["internal/bytealg.MaxLen", "unicode/utf8.first", "unicode/utf8.acceptRanges"], apart := false, laid := [("unicode/utf8.acceptRanges", laid_unicode_utf8_acceptRanges), ("unicode/utf8.first", laid_unicode_utf8_first)] }
def CardsReadSaid : Prop := cardsReadRow.holds Tryz.pinned (OpenSpec.ofChange cardsReadSpec)

/-- ITS FALSE NEIGHBOUR: 'it returns false'. Refute it at one input. -/
def cardsReadWrong : ChangeSpec := { name := "cardsRead", fn := fun _ => fun
  | [d] => { results := [.lit (.bool false)], args := [d] }
  | _ => none }
def CardsReadWrongFalsely : Prop := cardsReadRow.holds Tryz.pinned (OpenSpec.ofChange cardsReadWrong)

/-- 'knurllaw14.CardsCopies': WHATEVER THE INPUT: true; the input reads as it did. -/
def cardsCopiesSpec : ChangeSpec := { name := "cardsCopies", fn := fun _ => fun
  | [d1, d2] => { results := [.lit (.bool true)], args := [d1, d2] }
  | _ => none }
def cardsCopiesRow : OpenClaim := { program := "ytgnpcijgdhjfpaagreatdoor", sum := "ca843cd736d6f993dfe915010f6e071edea5c75f1f423e321f8bb07327685352", func := "knurl/knurllaw14.CardsCopies", spec := "cardsCopies", inPlace := ["internal/abi.NoEscape", "internal/bytealg.MakeNoZero", "internal/bytealg.IndexByteString", "internal/bytealg.IndexString", "internal/bytealg.CountString"], unfollowed := true, recurses := true, named := ["internal/bytealg.MaxLen", "unicode/utf8.first", "unicode/utf8.acceptRanges"], apart := false, laid := [("unicode/utf8.acceptRanges", laid_unicode_utf8_acceptRanges), ("unicode/utf8.first", laid_unicode_utf8_first)] }
def CardsCopiesSaid : Prop := cardsCopiesRow.holds Tryz.pinned (OpenSpec.ofChange cardsCopiesSpec)

/-- ITS FALSE NEIGHBOUR: 'it returns false'. Refute it at one input. -/
def cardsCopiesWrong : ChangeSpec := { name := "cardsCopies", fn := fun _ => fun
  | [d1, d2] => { results := [.lit (.bool false)], args := [d1, d2] }
  | _ => none }
def CardsCopiesWrongFalsely : Prop := cardsCopiesRow.holds Tryz.pinned (OpenSpec.ofChange cardsCopiesWrong)

/-- 'knurllaw14.CardsJoin': WHATEVER THE INPUT: true; the input reads as it did. -/
def cardsJoinSpec : ChangeSpec := { name := "cardsJoin", fn := fun _ => fun
  | [d1, d2] => { results := [.lit (.bool true)], args := [d1, d2] }
  | _ => none }
def cardsJoinRow : OpenClaim := { program := "ytgnpcijgdhjfpaagreatdoor", sum := "ca843cd736d6f993dfe915010f6e071edea5c75f1f423e321f8bb07327685352", func := "knurl/knurllaw14.CardsJoin", spec := "cardsJoin", inPlace := ["internal/abi.NoEscape", "internal/bytealg.MakeNoZero", "internal/bytealg.IndexByteString", "internal/bytealg.IndexString", "internal/bytealg.CountString"], unfollowed := true, recurses := true, named := ["internal/bytealg.MaxLen", "unicode/utf8.first", "unicode/utf8.acceptRanges"], apart := false, laid := [("unicode/utf8.acceptRanges", laid_unicode_utf8_acceptRanges), ("unicode/utf8.first", laid_unicode_utf8_first)] }
def CardsJoinSaid : Prop := cardsJoinRow.holds Tryz.pinned (OpenSpec.ofChange cardsJoinSpec)

/-- ITS FALSE NEIGHBOUR: 'it returns false'. Refute it at one input. -/
def cardsJoinWrong : ChangeSpec := { name := "cardsJoin", fn := fun _ => fun
  | [d1, d2] => { results := [.lit (.bool false)], args := [d1, d2] }
  | _ => none }
def CardsJoinWrongFalsely : Prop := cardsJoinRow.holds Tryz.pinned (OpenSpec.ofChange cardsJoinWrong)

/- THE SECOND FORM. 'bulk': how many values and letters a reading holds, each counted each time it is reached (what is shared counts as often as it is met; a slice's spare places count too). A statement '..UptoSaid' is the law's where the arguments, and the package variables that the reading takes, are together of bulk at most 1048576: NARROWER than '..Said'. Prove '..Said' where nothing that the law and all that it calls make is longer than what came in: it says more and counts as full. Else prove '..UptoSaid'. A law counts once. -/
mutual
def uptoBulk {H : Type} : DataW H → Nat
  | .lit (.string bytes) => bytes.length + 1
  | .lit _ => 1
  | .nil => 1
  | .ptr d => uptoBulk d + 1
  | .slice elems spare => uptoBulkAll elems + uptoBulkAll spare + 1
  | .agg parts => uptoBulkAll parts + 1
  | .iface _ d => uptoBulk d + 1
  | .map entries => uptoBulkEntries entries + 1
  | .held _ => 1
def uptoBulkAll {H : Type} : List (DataW H) → Nat
  | [] => 0
  | d :: r => uptoBulk d + uptoBulkAll r
def uptoBulkEntries {H : Type} : List (Lit × DataW H) → Nat
  | [] => 0
  | x :: r => uptoBulkEntry x + uptoBulkEntries r
def uptoBulkEntry {H : Type} : Lit × DataW H → Nat
  | (.string bytes, d) => bytes.length + uptoBulk d + 1
  | (_, d) => uptoBulk d + 1
 end
def uptoSmall : (H : Type) → List (DataW H) → Bool := fun _ ds => decide (uptoBulkAll ds ≤ 1048576)
def OpenSpec.upto (s : _root_.Go.ChangeSpec) : _root_.Go.OpenSpec := { _root_.Go.OpenSpec.ofChange s with cond := some uptoSmall }

/-- 'knurllaw14.CardsMended', WHERE WHAT IT READS IS OF BULK AT MOST 1048576: true; the input reads as it did. -/
def cardsMendedUptoRow : OpenClaim := { program := "ytgnpcijgdhjfpaagreatdoor", sum := "ca843cd736d6f993dfe915010f6e071edea5c75f1f423e321f8bb07327685352", func := "knurl/knurllaw14.CardsMended", spec := "cardsMended", inPlace := ["internal/abi.NoEscape", "internal/bytealg.MakeNoZero", "internal/bytealg.IndexByteString", "internal/bytealg.IndexString", "internal/bytealg.CountString"], unfollowed := true, recurses := true, named := ["internal/bytealg.MaxLen", "unicode/utf8.first", "unicode/utf8.acceptRanges"], apart := false, laid := [("unicode/utf8.acceptRanges", laid_unicode_utf8_acceptRanges), ("unicode/utf8.first", laid_unicode_utf8_first)], narrowed := true }
def CardsMendedUptoSaid : Prop := cardsMendedUptoRow.holds Tryz.pinned (OpenSpec.upto cardsMendedSpec)

/-- 'knurllaw14.CardsThree', WHERE WHAT IT READS IS OF BULK AT MOST 1048576: true; the input reads as it did. -/
def cardsThreeUptoRow : OpenClaim := { program := "ytgnpcijgdhjfpaagreatdoor", sum := "ca843cd736d6f993dfe915010f6e071edea5c75f1f423e321f8bb07327685352", func := "knurl/knurllaw14.CardsThree", spec := "cardsThree", inPlace := ["internal/abi.NoEscape", "internal/bytealg.MakeNoZero", "internal/bytealg.IndexByteString", "internal/bytealg.IndexString", "internal/bytealg.CountString"], unfollowed := true, recurses := true, named := ["internal/bytealg.MaxLen", "unicode/utf8.first", "unicode/utf8.acceptRanges"], apart := false, laid := [("unicode/utf8.acceptRanges", laid_unicode_utf8_acceptRanges), ("unicode/utf8.first", laid_unicode_utf8_first)], narrowed := true }
def CardsThreeUptoSaid : Prop := cardsThreeUptoRow.holds Tryz.pinned (OpenSpec.upto cardsThreeSpec)

/-- 'knurllaw14.CardsOrder', WHERE WHAT IT READS IS OF BULK AT MOST 1048576: true; the input reads as it did. -/
def cardsOrderUptoRow : OpenClaim := { program := "ytgnpcijgdhjfpaagreatdoor", sum := "ca843cd736d6f993dfe915010f6e071edea5c75f1f423e321f8bb07327685352", func := "knurl/knurllaw14.CardsOrder", spec := "cardsOrder", inPlace := ["internal/abi.NoEscape", "internal/bytealg.MakeNoZero", "internal/bytealg.IndexByteString", "internal/bytealg.IndexString", "internal/bytealg.CountString"], unfollowed := true, recurses := true, named := ["internal/bytealg.MaxLen", "unicode/utf8.first", "unicode/utf8.acceptRanges"], apart := false, laid := [("unicode/utf8.acceptRanges", laid_unicode_utf8_acceptRanges), ("unicode/utf8.first", laid_unicode_utf8_first)], narrowed := true }
def CardsOrderUptoSaid : Prop := cardsOrderUptoRow.holds Tryz.pinned (OpenSpec.upto cardsOrderSpec)

/-- 'knurllaw14.CardsWrite', WHERE WHAT IT READS IS OF BULK AT MOST 1048576: true; the input reads as it did. -/
def cardsWriteUptoRow : OpenClaim := { program := "ytgnpcijgdhjfpaagreatdoor", sum := "ca843cd736d6f993dfe915010f6e071edea5c75f1f423e321f8bb07327685352", func := "knurl/knurllaw14.CardsWrite", spec := "cardsWrite", inPlace := ["internal/abi.NoEscape", "internal/bytealg.MakeNoZero", "internal/bytealg.IndexByteString", "internal/bytealg.IndexString", "internal/bytealg.CountString"], unfollowed := true, recurses := true, named := ["internal/bytealg.MaxLen", "unicode/utf8.first", "unicode/utf8.acceptRanges"], apart := false, laid := [("unicode/utf8.acceptRanges", laid_unicode_utf8_acceptRanges), ("unicode/utf8.first", laid_unicode_utf8_first)], narrowed := true }
def CardsWriteUptoSaid : Prop := cardsWriteUptoRow.holds Tryz.pinned (OpenSpec.upto cardsWriteSpec)

/-- 'knurllaw14.CardsRead', WHERE WHAT IT READS IS OF BULK AT MOST 1048576: true; the input reads as it did. -/
def cardsReadUptoRow : OpenClaim := { program := "ytgnpcijgdhjfpaagreatdoor", sum := "ca843cd736d6f993dfe915010f6e071edea5c75f1f423e321f8bb07327685352", func := "knurl/knurllaw14.CardsRead", spec := "cardsRead", inPlace := ["internal/abi.NoEscape", "internal/bytealg.MakeNoZero", "internal/bytealg.IndexByteString", "internal/bytealg.IndexString", "internal/bytealg.CountString"], unfollowed := true, recurses := true, named := ["internal/bytealg.MaxLen", "unicode/utf8.first", "unicode/utf8.acceptRanges"], apart := false, laid := [("unicode/utf8.acceptRanges", laid_unicode_utf8_acceptRanges), ("unicode/utf8.first", laid_unicode_utf8_first)], narrowed := true }
def CardsReadUptoSaid : Prop := cardsReadUptoRow.holds Tryz.pinned (OpenSpec.upto cardsReadSpec)

/-- 'knurllaw14.CardsCopies', WHERE WHAT IT READS IS OF BULK AT MOST 1048576: true; the input reads as it did. -/
def cardsCopiesUptoRow : OpenClaim := { program := "ytgnpcijgdhjfpaagreatdoor", sum := "ca843cd736d6f993dfe915010f6e071edea5c75f1f423e321f8bb07327685352", func := "knurl/knurllaw14.CardsCopies", spec := "cardsCopies", inPlace := ["internal/abi.NoEscape", "internal/bytealg.MakeNoZero", "internal/bytealg.IndexByteString", "internal/bytealg.IndexString", "internal/bytealg.CountString"], unfollowed := true, recurses := true, named := ["internal/bytealg.MaxLen", "unicode/utf8.first", "unicode/utf8.acceptRanges"], apart := false, laid := [("unicode/utf8.acceptRanges", laid_unicode_utf8_acceptRanges), ("unicode/utf8.first", laid_unicode_utf8_first)], narrowed := true }
def CardsCopiesUptoSaid : Prop := cardsCopiesUptoRow.holds Tryz.pinned (OpenSpec.upto cardsCopiesSpec)

/-- 'knurllaw14.CardsJoin', WHERE WHAT IT READS IS OF BULK AT MOST 1048576: true; the input reads as it did. -/
def cardsJoinUptoRow : OpenClaim := { program := "ytgnpcijgdhjfpaagreatdoor", sum := "ca843cd736d6f993dfe915010f6e071edea5c75f1f423e321f8bb07327685352", func := "knurl/knurllaw14.CardsJoin", spec := "cardsJoin", inPlace := ["internal/abi.NoEscape", "internal/bytealg.MakeNoZero", "internal/bytealg.IndexByteString", "internal/bytealg.IndexString", "internal/bytealg.CountString"], unfollowed := true, recurses := true, named := ["internal/bytealg.MaxLen", "unicode/utf8.first", "unicode/utf8.acceptRanges"], apart := false, laid := [("unicode/utf8.acceptRanges", laid_unicode_utf8_acceptRanges), ("unicode/utf8.first", laid_unicode_utf8_first)], narrowed := true }
def CardsJoinUptoSaid : Prop := cardsJoinUptoRow.holds Tryz.pinned (OpenSpec.upto cardsJoinSpec)

end Rows
end Go.Proofs.YtgnpcijgdhjfpaaGreatDoor
