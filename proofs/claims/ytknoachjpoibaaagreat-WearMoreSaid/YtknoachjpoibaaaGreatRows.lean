/-
  No cell of these rows narrows 'for every input' (looked for: loops, veiled, ifaces, maps, wideKeys, modest, calm, conditions, laid).
  DERIVED. THE GIVEN ROWS OF THIS SEAT. 10 by the template 'for every input the law returns true; each argument reads behind the call as it read before'; 0 by the template 'total and deterministic' (their statements: YtknoachjpoibaaaGreatTotals.lean).
  GIVEN WITH THE SEED: the statements are not yours to turn. If you find one false, say at which input.
  Laid BY PROGRAM, IN A SANDBOX (cutbox-rows.mjs): the forced cells as the released guide's own fill.sh prints them over the translation 2c8f35968421a738… (all of the seat's roots in one cut). By AI agents, Wed Nov 11 2026. No macro, syntax, notation, axiom, sorry.
-/
import Derived.Test.YtknoachjpoibaaaGreatChecked
import GoSem.Claim
import GoSem.ClaimJoined
import GoSem.ClaimMapViews
import Derived.JoinedTies
import Derived.KernelRfl
namespace Go.Proofs.YtknoachjpoibaaaGreat
/- THE CELL 'sum', in the pinned program and in every row, IS THE sha256 OF THE DUMP (.gsa) THAT YtknoachjpoibaaaGreatProg.lean LOADS. Nothing in Lean hashes anything: it is a label: what it is worth is what the hold of that sum in a sandbox is worth. -/
noncomputable def Tryz.pinned : Pinned := { name := "ytknoachjpoibaaagreat", sum := "2c8f35968421a7380dfb0cd6a56c3c211279ae76a1013fc0fe0403be5857ca45", checked := Tryz.checked }
namespace Rows
def none {H : Type} : Left H := { results := [], args := [] }

/-- 'knurllaw13.WearDue': WHATEVER THE INPUT: true; the input reads as it did. -/
def wearDueSpec : ChangeSpec := { name := "wearDue", fn := fun _ => fun
  | [d1, d2, d3] => { results := [.lit (.bool true)], args := [d1, d2, d3] }
  | _ => none }
def wearDueRow : OpenClaim := { program := "ytknoachjpoibaaagreat", sum := "2c8f35968421a7380dfb0cd6a56c3c211279ae76a1013fc0fe0403be5857ca45", func := "knurl/knurllaw13.WearDue", spec := "wearDue", unfollowed := true, recurses := true, plainKeys := false, apart := false }
def WearDueSaid : Prop := wearDueRow.holds Tryz.pinned (OpenSpec.ofChange wearDueSpec)

/-- ITS FALSE NEIGHBOUR: 'it returns false'. Refute it at one input. -/
def wearDueWrong : ChangeSpec := { name := "wearDue", fn := fun _ => fun
  | [d1, d2, d3] => { results := [.lit (.bool false)], args := [d1, d2, d3] }
  | _ => none }
def WearDueWrongFalsely : Prop := wearDueRow.holds Tryz.pinned (OpenSpec.ofChange wearDueWrong)

/-- 'knurllaw13.WearOnly': WHATEVER THE INPUT: true; the input reads as it did. -/
def wearOnlySpec : ChangeSpec := { name := "wearOnly", fn := fun _ => fun
  | [d1, d2] => { results := [.lit (.bool true)], args := [d1, d2] }
  | _ => none }
def wearOnlyRow : OpenClaim := { program := "ytknoachjpoibaaagreat", sum := "2c8f35968421a7380dfb0cd6a56c3c211279ae76a1013fc0fe0403be5857ca45", func := "knurl/knurllaw13.WearOnly", spec := "wearOnly", unfollowed := true, recurses := true, plainKeys := false, apart := false }
def WearOnlySaid : Prop := wearOnlyRow.holds Tryz.pinned (OpenSpec.ofChange wearOnlySpec)

/-- ITS FALSE NEIGHBOUR: 'it returns false'. Refute it at one input. -/
def wearOnlyWrong : ChangeSpec := { name := "wearOnly", fn := fun _ => fun
  | [d1, d2] => { results := [.lit (.bool false)], args := [d1, d2] }
  | _ => none }
def WearOnlyWrongFalsely : Prop := wearOnlyRow.holds Tryz.pinned (OpenSpec.ofChange wearOnlyWrong)

/-- 'knurllaw13.WearMore': WHATEVER THE INPUT: true; the input reads as it did. -/
def wearMoreSpec : ChangeSpec := { name := "wearMore", fn := fun _ => fun
  | [d1, d2, d3] => { results := [.lit (.bool true)], args := [d1, d2, d3] }
  | _ => none }
def wearMoreRow : OpenClaim := { program := "ytknoachjpoibaaagreat", sum := "2c8f35968421a7380dfb0cd6a56c3c211279ae76a1013fc0fe0403be5857ca45", func := "knurl/knurllaw13.WearMore", spec := "wearMore", unfollowed := true, recurses := true, plainKeys := false, apart := false }
def WearMoreSaid : Prop := wearMoreRow.holds Tryz.pinned (OpenSpec.ofChange wearMoreSpec)

/-- ITS FALSE NEIGHBOUR: 'it returns false'. Refute it at one input. -/
def wearMoreWrong : ChangeSpec := { name := "wearMore", fn := fun _ => fun
  | [d1, d2, d3] => { results := [.lit (.bool false)], args := [d1, d2, d3] }
  | _ => none }
def WearMoreWrongFalsely : Prop := wearMoreRow.holds Tryz.pinned (OpenSpec.ofChange wearMoreWrong)

/-- 'knurllaw13.WearVisit': WHATEVER THE INPUT: true; the input reads as it did. -/
def wearVisitSpec : ChangeSpec := { name := "wearVisit", fn := fun _ => fun
  | [d1, d2, d3] => { results := [.lit (.bool true)], args := [d1, d2, d3] }
  | _ => none }
def wearVisitRow : OpenClaim := { program := "ytknoachjpoibaaagreat", sum := "2c8f35968421a7380dfb0cd6a56c3c211279ae76a1013fc0fe0403be5857ca45", func := "knurl/knurllaw13.WearVisit", spec := "wearVisit", unfollowed := true, recurses := true, plainKeys := false, apart := false }
def WearVisitSaid : Prop := wearVisitRow.holds Tryz.pinned (OpenSpec.ofChange wearVisitSpec)

/-- ITS FALSE NEIGHBOUR: 'it returns false'. Refute it at one input. -/
def wearVisitWrong : ChangeSpec := { name := "wearVisit", fn := fun _ => fun
  | [d1, d2, d3] => { results := [.lit (.bool false)], args := [d1, d2, d3] }
  | _ => none }
def WearVisitWrongFalsely : Prop := wearVisitRow.holds Tryz.pinned (OpenSpec.ofChange wearVisitWrong)

/-- 'knurllaw13.WearOn': WHATEVER THE INPUT: true; the input reads as it did. -/
def wearOnSpec : ChangeSpec := { name := "wearOn", fn := fun _ => fun
  | [d1, d2] => { results := [.lit (.bool true)], args := [d1, d2] }
  | _ => none }
def wearOnRow : OpenClaim := { program := "ytknoachjpoibaaagreat", sum := "2c8f35968421a7380dfb0cd6a56c3c211279ae76a1013fc0fe0403be5857ca45", func := "knurl/knurllaw13.WearOn", spec := "wearOn", unfollowed := true, recurses := true, plainKeys := false, apart := false }
def WearOnSaid : Prop := wearOnRow.holds Tryz.pinned (OpenSpec.ofChange wearOnSpec)

/-- ITS FALSE NEIGHBOUR: 'it returns false'. Refute it at one input. -/
def wearOnWrong : ChangeSpec := { name := "wearOn", fn := fun _ => fun
  | [d1, d2] => { results := [.lit (.bool false)], args := [d1, d2] }
  | _ => none }
def WearOnWrongFalsely : Prop := wearOnRow.holds Tryz.pinned (OpenSpec.ofChange wearOnWrong)

/-- 'knurllaw13.WearNext': WHATEVER THE INPUT: true; the input reads as it did. -/
def wearNextSpec : ChangeSpec := { name := "wearNext", fn := fun _ => fun
  | [d1, d2] => { results := [.lit (.bool true)], args := [d1, d2] }
  | _ => none }
def wearNextRow : OpenClaim := { program := "ytknoachjpoibaaagreat", sum := "2c8f35968421a7380dfb0cd6a56c3c211279ae76a1013fc0fe0403be5857ca45", func := "knurl/knurllaw13.WearNext", spec := "wearNext", unfollowed := true, recurses := true, plainKeys := false, apart := false }
def WearNextSaid : Prop := wearNextRow.holds Tryz.pinned (OpenSpec.ofChange wearNextSpec)

/-- ITS FALSE NEIGHBOUR: 'it returns false'. Refute it at one input. -/
def wearNextWrong : ChangeSpec := { name := "wearNext", fn := fun _ => fun
  | [d1, d2] => { results := [.lit (.bool false)], args := [d1, d2] }
  | _ => none }
def WearNextWrongFalsely : Prop := wearNextRow.holds Tryz.pinned (OpenSpec.ofChange wearNextWrong)

/-- 'knurllaw13.WearStep': WHATEVER THE INPUT: true; the input reads as it did. -/
def wearStepSpec : ChangeSpec := { name := "wearStep", fn := fun _ => fun
  | [d1, d2] => { results := [.lit (.bool true)], args := [d1, d2] }
  | _ => none }
def wearStepRow : OpenClaim := { program := "ytknoachjpoibaaagreat", sum := "2c8f35968421a7380dfb0cd6a56c3c211279ae76a1013fc0fe0403be5857ca45", func := "knurl/knurllaw13.WearStep", spec := "wearStep", unfollowed := true, recurses := true, plainKeys := false, apart := false }
def WearStepSaid : Prop := wearStepRow.holds Tryz.pinned (OpenSpec.ofChange wearStepSpec)

/-- ITS FALSE NEIGHBOUR: 'it returns false'. Refute it at one input. -/
def wearStepWrong : ChangeSpec := { name := "wearStep", fn := fun _ => fun
  | [d1, d2] => { results := [.lit (.bool false)], args := [d1, d2] }
  | _ => none }
def WearStepWrongFalsely : Prop := wearStepRow.holds Tryz.pinned (OpenSpec.ofChange wearStepWrong)

/-- 'knurllaw13.WearErrs': WHATEVER THE INPUT: true; the input reads as it did. -/
def wearErrsSpec : ChangeSpec := { name := "wearErrs", fn := fun _ => fun
  | [d1, d2] => { results := [.lit (.bool true)], args := [d1, d2] }
  | _ => none }
def wearErrsRow : OpenClaim := { program := "ytknoachjpoibaaagreat", sum := "2c8f35968421a7380dfb0cd6a56c3c211279ae76a1013fc0fe0403be5857ca45", func := "knurl/knurllaw13.WearErrs", spec := "wearErrs", unfollowed := true, recurses := true, plainKeys := false, apart := false }
def WearErrsSaid : Prop := wearErrsRow.holds Tryz.pinned (OpenSpec.ofChange wearErrsSpec)

/-- ITS FALSE NEIGHBOUR: 'it returns false'. Refute it at one input. -/
def wearErrsWrong : ChangeSpec := { name := "wearErrs", fn := fun _ => fun
  | [d1, d2] => { results := [.lit (.bool false)], args := [d1, d2] }
  | _ => none }
def WearErrsWrongFalsely : Prop := wearErrsRow.holds Tryz.pinned (OpenSpec.ofChange wearErrsWrong)

/-- 'knurllaw13.WearBlame': WHATEVER THE INPUT: true; the input reads as it did. -/
def wearBlameSpec : ChangeSpec := { name := "wearBlame", fn := fun _ => fun
  | [d1, d2] => { results := [.lit (.bool true)], args := [d1, d2] }
  | _ => none }
def wearBlameRow : OpenClaim := { program := "ytknoachjpoibaaagreat", sum := "2c8f35968421a7380dfb0cd6a56c3c211279ae76a1013fc0fe0403be5857ca45", func := "knurl/knurllaw13.WearBlame", spec := "wearBlame", unfollowed := true, recurses := true, plainKeys := false, apart := false }
def WearBlameSaid : Prop := wearBlameRow.holds Tryz.pinned (OpenSpec.ofChange wearBlameSpec)

/-- ITS FALSE NEIGHBOUR: 'it returns false'. Refute it at one input. -/
def wearBlameWrong : ChangeSpec := { name := "wearBlame", fn := fun _ => fun
  | [d1, d2] => { results := [.lit (.bool false)], args := [d1, d2] }
  | _ => none }
def WearBlameWrongFalsely : Prop := wearBlameRow.holds Tryz.pinned (OpenSpec.ofChange wearBlameWrong)

/-- 'knurllaw13.WearTrue': WHATEVER THE INPUT: true; the input reads as it did. -/
def wearTrueSpec : ChangeSpec := { name := "wearTrue", fn := fun _ => fun
  | [d1, d2, d3] => { results := [.lit (.bool true)], args := [d1, d2, d3] }
  | _ => none }
def wearTrueRow : OpenClaim := { program := "ytknoachjpoibaaagreat", sum := "2c8f35968421a7380dfb0cd6a56c3c211279ae76a1013fc0fe0403be5857ca45", func := "knurl/knurllaw13.WearTrue", spec := "wearTrue", unfollowed := true, recurses := true, plainKeys := false, apart := false }
def WearTrueSaid : Prop := wearTrueRow.holds Tryz.pinned (OpenSpec.ofChange wearTrueSpec)

/-- ITS FALSE NEIGHBOUR: 'it returns false'. Refute it at one input. -/
def wearTrueWrong : ChangeSpec := { name := "wearTrue", fn := fun _ => fun
  | [d1, d2, d3] => { results := [.lit (.bool false)], args := [d1, d2, d3] }
  | _ => none }
def WearTrueWrongFalsely : Prop := wearTrueRow.holds Tryz.pinned (OpenSpec.ofChange wearTrueWrong)

/- THE SECOND FORM. 'bulk': how many values and letters a reading holds, each counted each time it is reached (what is shared counts as often as it is met; a slice's spare places count too). A statement '..UptoSaid' is the law's where the arguments, and the package variables that the reading takes, are together of bulk at most 1048576: NARROWER than '..Said'. Prove '..Said' where nothing that the law and all that it calls make is longer than what came in: it says more and counts as full. Else prove '..UptoSaid'. A law counts once. -/
mutual
def uptoBulk {H : Type} : DataW H → Nat
  | .lit (.string bytes) => bytes.length + 1
  | .lit _ => 1
  | .nil => 1
  | .ptr d => uptoBulk d + 1
  | .slice elems spare => uptoBulkAll elems + uptoBulkAll spare + 1
  | .agg parts => uptoBulkAll parts + 1
  | .iface _ d => uptoBulk d + 1
  | .map entries => uptoBulkEntries entries + 1
  | .held _ => 1
def uptoBulkAll {H : Type} : List (DataW H) → Nat
  | [] => 0
  | d :: r => uptoBulk d + uptoBulkAll r
def uptoBulkEntries {H : Type} : List (Lit × DataW H) → Nat
  | [] => 0
  | x :: r => uptoBulkEntry x + uptoBulkEntries r
def uptoBulkEntry {H : Type} : Lit × DataW H → Nat
  | (.string bytes, d) => bytes.length + uptoBulk d + 1
  | (_, d) => uptoBulk d + 1
 end
def uptoSmall : (H : Type) → List (DataW H) → Bool := fun _ ds => decide (uptoBulkAll ds ≤ 1048576)
def OpenSpec.upto (s : _root_.Go.ChangeSpec) : _root_.Go.OpenSpec := { _root_.Go.OpenSpec.ofChange s with cond := some uptoSmall }

/-- 'knurllaw13.WearDue', WHERE WHAT IT READS IS OF BULK AT MOST 1048576: true; the input reads as it did. -/
def wearDueUptoRow : OpenClaim := { program := "ytknoachjpoibaaagreat", sum := "2c8f35968421a7380dfb0cd6a56c3c211279ae76a1013fc0fe0403be5857ca45", func := "knurl/knurllaw13.WearDue", spec := "wearDue", unfollowed := true, recurses := true, plainKeys := false, apart := false, narrowed := true }
def WearDueUptoSaid : Prop := wearDueUptoRow.holds Tryz.pinned (OpenSpec.upto wearDueSpec)

/-- 'knurllaw13.WearOnly', WHERE WHAT IT READS IS OF BULK AT MOST 1048576: true; the input reads as it did. -/
def wearOnlyUptoRow : OpenClaim := { program := "ytknoachjpoibaaagreat", sum := "2c8f35968421a7380dfb0cd6a56c3c211279ae76a1013fc0fe0403be5857ca45", func := "knurl/knurllaw13.WearOnly", spec := "wearOnly", unfollowed := true, recurses := true, plainKeys := false, apart := false, narrowed := true }
def WearOnlyUptoSaid : Prop := wearOnlyUptoRow.holds Tryz.pinned (OpenSpec.upto wearOnlySpec)

/-- 'knurllaw13.WearMore', WHERE WHAT IT READS IS OF BULK AT MOST 1048576: true; the input reads as it did. -/
def wearMoreUptoRow : OpenClaim := { program := "ytknoachjpoibaaagreat", sum := "2c8f35968421a7380dfb0cd6a56c3c211279ae76a1013fc0fe0403be5857ca45", func := "knurl/knurllaw13.WearMore", spec := "wearMore", unfollowed := true, recurses := true, plainKeys := false, apart := false, narrowed := true }
def WearMoreUptoSaid : Prop := wearMoreUptoRow.holds Tryz.pinned (OpenSpec.upto wearMoreSpec)

/-- 'knurllaw13.WearVisit', WHERE WHAT IT READS IS OF BULK AT MOST 1048576: true; the input reads as it did. -/
def wearVisitUptoRow : OpenClaim := { program := "ytknoachjpoibaaagreat", sum := "2c8f35968421a7380dfb0cd6a56c3c211279ae76a1013fc0fe0403be5857ca45", func := "knurl/knurllaw13.WearVisit", spec := "wearVisit", unfollowed := true, recurses := true, plainKeys := false, apart := false, narrowed := true }
def WearVisitUptoSaid : Prop := wearVisitUptoRow.holds Tryz.pinned (OpenSpec.upto wearVisitSpec)

/-- 'knurllaw13.WearOn', WHERE WHAT IT READS IS OF BULK AT MOST 1048576: true; the input reads as it did. -/
def wearOnUptoRow : OpenClaim := { program := "ytknoachjpoibaaagreat", sum := "2c8f35968421a7380dfb0cd6a56c3c211279ae76a1013fc0fe0403be5857ca45", func := "knurl/knurllaw13.WearOn", spec := "wearOn", unfollowed := true, recurses := true, plainKeys := false, apart := false, narrowed := true }
def WearOnUptoSaid : Prop := wearOnUptoRow.holds Tryz.pinned (OpenSpec.upto wearOnSpec)

/-- 'knurllaw13.WearNext', WHERE WHAT IT READS IS OF BULK AT MOST 1048576: true; the input reads as it did. -/
def wearNextUptoRow : OpenClaim := { program := "ytknoachjpoibaaagreat", sum := "2c8f35968421a7380dfb0cd6a56c3c211279ae76a1013fc0fe0403be5857ca45", func := "knurl/knurllaw13.WearNext", spec := "wearNext", unfollowed := true, recurses := true, plainKeys := false, apart := false, narrowed := true }
def WearNextUptoSaid : Prop := wearNextUptoRow.holds Tryz.pinned (OpenSpec.upto wearNextSpec)

/-- 'knurllaw13.WearStep', WHERE WHAT IT READS IS OF BULK AT MOST 1048576: true; the input reads as it did. -/
def wearStepUptoRow : OpenClaim := { program := "ytknoachjpoibaaagreat", sum := "2c8f35968421a7380dfb0cd6a56c3c211279ae76a1013fc0fe0403be5857ca45", func := "knurl/knurllaw13.WearStep", spec := "wearStep", unfollowed := true, recurses := true, plainKeys := false, apart := false, narrowed := true }
def WearStepUptoSaid : Prop := wearStepUptoRow.holds Tryz.pinned (OpenSpec.upto wearStepSpec)

/-- 'knurllaw13.WearErrs', WHERE WHAT IT READS IS OF BULK AT MOST 1048576: true; the input reads as it did. -/
def wearErrsUptoRow : OpenClaim := { program := "ytknoachjpoibaaagreat", sum := "2c8f35968421a7380dfb0cd6a56c3c211279ae76a1013fc0fe0403be5857ca45", func := "knurl/knurllaw13.WearErrs", spec := "wearErrs", unfollowed := true, recurses := true, plainKeys := false, apart := false, narrowed := true }
def WearErrsUptoSaid : Prop := wearErrsUptoRow.holds Tryz.pinned (OpenSpec.upto wearErrsSpec)

/-- 'knurllaw13.WearBlame', WHERE WHAT IT READS IS OF BULK AT MOST 1048576: true; the input reads as it did. -/
def wearBlameUptoRow : OpenClaim := { program := "ytknoachjpoibaaagreat", sum := "2c8f35968421a7380dfb0cd6a56c3c211279ae76a1013fc0fe0403be5857ca45", func := "knurl/knurllaw13.WearBlame", spec := "wearBlame", unfollowed := true, recurses := true, plainKeys := false, apart := false, narrowed := true }
def WearBlameUptoSaid : Prop := wearBlameUptoRow.holds Tryz.pinned (OpenSpec.upto wearBlameSpec)

/-- 'knurllaw13.WearTrue', WHERE WHAT IT READS IS OF BULK AT MOST 1048576: true; the input reads as it did. -/
def wearTrueUptoRow : OpenClaim := { program := "ytknoachjpoibaaagreat", sum := "2c8f35968421a7380dfb0cd6a56c3c211279ae76a1013fc0fe0403be5857ca45", func := "knurl/knurllaw13.WearTrue", spec := "wearTrue", unfollowed := true, recurses := true, plainKeys := false, apart := false, narrowed := true }
def WearTrueUptoSaid : Prop := wearTrueUptoRow.holds Tryz.pinned (OpenSpec.upto wearTrueSpec)

end Rows
end Go.Proofs.YtknoachjpoibaaaGreat
