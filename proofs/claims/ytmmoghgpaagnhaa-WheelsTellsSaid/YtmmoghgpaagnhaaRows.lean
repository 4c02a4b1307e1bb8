/-
  No cell of these rows narrows 'for every input' (looked for: loops, veiled, ifaces, maps, wideKeys, modest, calm, conditions, laid).
  DERIVED. THE GIVEN ROWS OF THIS SEAT. 9 by the template 'for every input the law returns true; each argument reads behind the call as it read before'; 0 by the template 'total and deterministic' (their statements: YtmmoghgpaagnhaaTotals.lean).
  GIVEN WITH THE SEED: the statements are not yours to turn. If you find one false, say at which input.
  Laid BY PROGRAM, IN A SANDBOX (cutbox-rows.mjs): the forced cells as the released guide's own fill.sh prints them over the translation 70276f991348af60… (all of the seat's roots in one cut). By AI agents, Wed Nov 11 2026. No macro, syntax, notation, axiom, sorry.
-/
import Derived.Test.YtmmoghgpaagnhaaChecked
import GoSem.Claim
import GoSem.ClaimJoined
import GoSem.ClaimMapViews
import Derived.JoinedTies
import Derived.KernelRfl
namespace Go.Proofs.Ytmmoghgpaagnhaa
/- THE CELL 'sum', in the pinned program and in every row, IS THE sha256 OF THE DUMP (.gsa) THAT YtmmoghgpaagnhaaProg.lean LOADS. Nothing in Lean hashes anything: it is a label: what it is worth is what the hold of that sum in a sandbox is worth. -/
noncomputable def Try.pinned : Pinned := { name := "ytmmoghgpaagnhaa", sum := "70276f991348af60dafa89c1bbda0e741b4fc825d79fade1b0e3974d4e7a5dfc", checked := Try.checked }
namespace Rows
def none {H : Type} : Left H := { results := [], args := [] }

/-- 'knurllaw03.WheelsNext': WHATEVER THE INPUT: true; the input reads as it did. -/
def wheelsNextSpec : ChangeSpec := { name := "wheelsNext", fn := fun _ => fun
  | [d1, d2, d3] => { results := [.lit (.bool true)], args := [d1, d2, d3] }
  | _ => none }
def wheelsNextRow : OpenClaim := { program := "ytmmoghgpaagnhaa", sum := "70276f991348af60dafa89c1bbda0e741b4fc825d79fade1b0e3974d4e7a5dfc", func := "knurl/knurllaw03.WheelsNext", spec := "wheelsNext", unfollowed := true, recurses := true, plainKeys := false, apart := false }
def WheelsNextSaid : Prop := wheelsNextRow.holds Try.pinned (OpenSpec.ofChange wheelsNextSpec)

/-- ITS FALSE NEIGHBOUR: 'it returns false'. Refute it at one input. -/
def wheelsNextWrong : ChangeSpec := { name := "wheelsNext", fn := fun _ => fun
  | [d1, d2, d3] => { results := [.lit (.bool false)], args := [d1, d2, d3] }
  | _ => none }
def WheelsNextWrongFalsely : Prop := wheelsNextRow.holds Try.pinned (OpenSpec.ofChange wheelsNextWrong)

/-- 'knurllaw03.WheelsMore': WHATEVER THE INPUT: true; the input reads as it did. -/
def wheelsMoreSpec : ChangeSpec := { name := "wheelsMore", fn := fun _ => fun
  | [d1, d2, d3] => { results := [.lit (.bool true)], args := [d1, d2, d3] }
  | _ => none }
def wheelsMoreRow : OpenClaim := { program := "ytmmoghgpaagnhaa", sum := "70276f991348af60dafa89c1bbda0e741b4fc825d79fade1b0e3974d4e7a5dfc", func := "knurl/knurllaw03.WheelsMore", spec := "wheelsMore", unfollowed := true, recurses := true, plainKeys := false, apart := false }
def WheelsMoreSaid : Prop := wheelsMoreRow.holds Try.pinned (OpenSpec.ofChange wheelsMoreSpec)

/-- ITS FALSE NEIGHBOUR: 'it returns false'. Refute it at one input. -/
def wheelsMoreWrong : ChangeSpec := { name := "wheelsMore", fn := fun _ => fun
  | [d1, d2, d3] => { results := [.lit (.bool false)], args := [d1, d2, d3] }
  | _ => none }
def WheelsMoreWrongFalsely : Prop := wheelsMoreRow.holds Try.pinned (OpenSpec.ofChange wheelsMoreWrong)

/-- 'knurllaw03.WheelsCancel': WHATEVER THE INPUT: true; the input reads as it did. -/
def wheelsCancelSpec : ChangeSpec := { name := "wheelsCancel", fn := fun _ => fun
  | [d1, d2] => { results := [.lit (.bool true)], args := [d1, d2] }
  | _ => none }
def wheelsCancelRow : OpenClaim := { program := "ytmmoghgpaagnhaa", sum := "70276f991348af60dafa89c1bbda0e741b4fc825d79fade1b0e3974d4e7a5dfc", func := "knurl/knurllaw03.WheelsCancel", spec := "wheelsCancel", unfollowed := true, recurses := true, plainKeys := false, apart := false }
def WheelsCancelSaid : Prop := wheelsCancelRow.holds Try.pinned (OpenSpec.ofChange wheelsCancelSpec)

/-- ITS FALSE NEIGHBOUR: 'it returns false'. Refute it at one input. -/
def wheelsCancelWrong : ChangeSpec := { name := "wheelsCancel", fn := fun _ => fun
  | [d1, d2] => { results := [.lit (.bool false)], args := [d1, d2] }
  | _ => none }
def WheelsCancelWrongFalsely : Prop := wheelsCancelRow.holds Try.pinned (OpenSpec.ofChange wheelsCancelWrong)

/-- 'knurllaw03.WheelsStep': WHATEVER THE INPUT: true; the input reads as it did. -/
def wheelsStepSpec : ChangeSpec := { name := "wheelsStep", fn := fun _ => fun
  | [d1, d2, d3] => { results := [.lit (.bool true)], args := [d1, d2, d3] }
  | _ => none }
def wheelsStepRow : OpenClaim := { program := "ytmmoghgpaagnhaa", sum := "70276f991348af60dafa89c1bbda0e741b4fc825d79fade1b0e3974d4e7a5dfc", func := "knurl/knurllaw03.WheelsStep", spec := "wheelsStep", unfollowed := true, recurses := true, plainKeys := false, apart := false }
def WheelsStepSaid : Prop := wheelsStepRow.holds Try.pinned (OpenSpec.ofChange wheelsStepSpec)

/-- ITS FALSE NEIGHBOUR: 'it returns false'. Refute it at one input. -/
def wheelsStepWrong : ChangeSpec := { name := "wheelsStep", fn := fun _ => fun
  | [d1, d2, d3] => { results := [.lit (.bool false)], args := [d1, d2, d3] }
  | _ => none }
def WheelsStepWrongFalsely : Prop := wheelsStepRow.holds Try.pinned (OpenSpec.ofChange wheelsStepWrong)

/-- 'knurllaw03.WheelsTurned': WHATEVER THE INPUT: true; the input reads as it did. -/
def wheelsTurnedSpec : ChangeSpec := { name := "wheelsTurned", fn := fun _ => fun
  | [d1, d2, d3] => { results := [.lit (.bool true)], args := [d1, d2, d3] }
  | _ => none }
def wheelsTurnedRow : OpenClaim := { program := "ytmmoghgpaagnhaa", sum := "70276f991348af60dafa89c1bbda0e741b4fc825d79fade1b0e3974d4e7a5dfc", func := "knurl/knurllaw03.WheelsTurned", spec := "wheelsTurned", unfollowed := true, recurses := true, plainKeys := false, apart := false }
def WheelsTurnedSaid : Prop := wheelsTurnedRow.holds Try.pinned (OpenSpec.ofChange wheelsTurnedSpec)

/-- ITS FALSE NEIGHBOUR: 'it returns false'. Refute it at one input. -/
def wheelsTurnedWrong : ChangeSpec := { name := "wheelsTurned", fn := fun _ => fun
  | [d1, d2, d3] => { results := [.lit (.bool false)], args := [d1, d2, d3] }
  | _ => none }
def WheelsTurnedWrongFalsely : Prop := wheelsTurnedRow.holds Try.pinned (OpenSpec.ofChange wheelsTurnedWrong)

/-- 'knurllaw03.WheelsOne': WHATEVER THE INPUT: true; the input reads as it did. -/
def wheelsOneSpec : ChangeSpec := { name := "wheelsOne", fn := fun _ => fun
  | [d1, d2, d3] => { results := [.lit (.bool true)], args := [d1, d2, d3] }
  | _ => none }
def wheelsOneRow : OpenClaim := { program := "ytmmoghgpaagnhaa", sum := "70276f991348af60dafa89c1bbda0e741b4fc825d79fade1b0e3974d4e7a5dfc", func := "knurl/knurllaw03.WheelsOne", spec := "wheelsOne", unfollowed := true, recurses := true, plainKeys := false, apart := false }
def WheelsOneSaid : Prop := wheelsOneRow.holds Try.pinned (OpenSpec.ofChange wheelsOneSpec)

/-- ITS FALSE NEIGHBOUR: 'it returns false'. Refute it at one input. -/
def wheelsOneWrong : ChangeSpec := { name := "wheelsOne", fn := fun _ => fun
  | [d1, d2, d3] => { results := [.lit (.bool false)], args := [d1, d2, d3] }
  | _ => none }
def WheelsOneWrongFalsely : Prop := wheelsOneRow.holds Try.pinned (OpenSpec.ofChange wheelsOneWrong)

/-- 'knurllaw03.WheelsAreas': WHATEVER THE INPUT: true; the input reads as it did. -/
def wheelsAreasSpec : ChangeSpec := { name := "wheelsAreas", fn := fun _ => fun
  | [d1, d2] => { results := [.lit (.bool true)], args := [d1, d2] }
  | _ => none }
def wheelsAreasRow : OpenClaim := { program := "ytmmoghgpaagnhaa", sum := "70276f991348af60dafa89c1bbda0e741b4fc825d79fade1b0e3974d4e7a5dfc", func := "knurl/knurllaw03.WheelsAreas", spec := "wheelsAreas", unfollowed := true, recurses := true, plainKeys := false, apart := false }
def WheelsAreasSaid : Prop := wheelsAreasRow.holds Try.pinned (OpenSpec.ofChange wheelsAreasSpec)

/-- ITS FALSE NEIGHBOUR: 'it returns false'. Refute it at one input. -/
def wheelsAreasWrong : ChangeSpec := { name := "wheelsAreas", fn := fun _ => fun
  | [d1, d2] => { results := [.lit (.bool false)], args := [d1, d2] }
  | _ => none }
def WheelsAreasWrongFalsely : Prop := wheelsAreasRow.holds Try.pinned (OpenSpec.ofChange wheelsAreasWrong)

/-- 'knurllaw03.WheelsTrue': WHATEVER THE INPUT: true; the input reads as it did. -/
def wheelsTrueSpec : ChangeSpec := { name := "wheelsTrue", fn := fun _ => fun
  | [d1, d2, d3] => { results := [.lit (.bool true)], args := [d1, d2, d3] }
  | _ => none }
def wheelsTrueRow : OpenClaim := { program := "ytmmoghgpaagnhaa", sum := "70276f991348af60dafa89c1bbda0e741b4fc825d79fade1b0e3974d4e7a5dfc", func := "knurl/knurllaw03.WheelsTrue", spec := "wheelsTrue", unfollowed := true, recurses := true, plainKeys := false, apart := false }
def WheelsTrueSaid : Prop := wheelsTrueRow.holds Try.pinned (OpenSpec.ofChange wheelsTrueSpec)

/-- ITS FALSE NEIGHBOUR: 'it returns false'. Refute it at one input. -/
def wheelsTrueWrong : ChangeSpec := { name := "wheelsTrue", fn := fun _ => fun
  | [d1, d2, d3] => { results := [.lit (.bool false)], args := [d1, d2, d3] }
  | _ => none }
def WheelsTrueWrongFalsely : Prop := wheelsTrueRow.holds Try.pinned (OpenSpec.ofChange wheelsTrueWrong)

/-- 'knurllaw03.WheelsTells': WHATEVER THE INPUT: true; the input reads as it did. -/
def wheelsTellsSpec : ChangeSpec := { name := "wheelsTells", fn := fun _ => fun
  | [d1, d2, d3] => { results := [.lit (.bool true)], args := [d1, d2, d3] }
  | _ => none }
def wheelsTellsRow : OpenClaim := { program := "ytmmoghgpaagnhaa", sum := "70276f991348af60dafa89c1bbda0e741b4fc825d79fade1b0e3974d4e7a5dfc", func := "knurl/knurllaw03.WheelsTells", spec := "wheelsTells", unfollowed := true, recurses := true, plainKeys := false, apart := false }
def WheelsTellsSaid : Prop := wheelsTellsRow.holds Try.pinned (OpenSpec.ofChange wheelsTellsSpec)

/-- ITS FALSE NEIGHBOUR: 'it returns false'. Refute it at one input. -/
def wheelsTellsWrong : ChangeSpec := { name := "wheelsTells", fn := fun _ => fun
  | [d1, d2, d3] => { results := [.lit (.bool false)], args := [d1, d2, d3] }
  | _ => none }
def WheelsTellsWrongFalsely : Prop := wheelsTellsRow.holds Try.pinned (OpenSpec.ofChange wheelsTellsWrong)

/- THE SECOND FORM. 'bulk': how many values and letters a reading holds, each counted each time it is reached (what is shared counts as often as it is met; a slice's spare places count too). A statement '..UptoSaid' is the law's where the arguments, and the package variables that the reading takes, are together of bulk at most 1048576: NARROWER than '..Said'. Prove '..Said' where nothing that the law and all that it calls make is longer than what came in: it says more and counts as full. Else prove '..UptoSaid'. A law counts once. -/
mutual
def uptoBulk {H : Type} : DataW H → Nat
  | .lit (.string bytes) => bytes.length + 1
  | .lit _ => 1
  | .nil => 1
  | .ptr d => uptoBulk d + 1
  | .slice elems spare => uptoBulkAll elems + uptoBulkAll spare + 1
  | .agg parts => uptoBulkAll parts + 1
  | .iface _ d => uptoBulk d + 1
  | .map entries => uptoBulkEntries entries + 1
  | .held _ => 1
def uptoBulkAll {H : Type} : List (DataW H) → Nat
  | [] => 0
  | d :: r => uptoBulk d + uptoBulkAll r
def uptoBulkEntries {H : Type} : List (Lit × DataW H) → Nat
  | [] => 0
  | x :: r => uptoBulkEntry x + uptoBulkEntries r
def uptoBulkEntry {H : Type} : Lit × DataW H → Nat
  | (.string bytes, d) => bytes.length + uptoBulk d + 1
  | (_, d) => uptoBulk d + 1
 end
def uptoSmall : (H : Type) → List (DataW H) → Bool := fun _ ds => decide (uptoBulkAll ds ≤ 1048576)
def OpenSpec.upto (s : _root_.Go.ChangeSpec) : _root_.Go.OpenSpec := { _root_.Go.OpenSpec.ofChange s with cond := some uptoSmall }

/-- 'knurllaw03.WheelsNext', WHERE WHAT IT READS IS OF BULK AT MOST 1048576: true; the input reads as it did. -/
def wheelsNextUptoRow : OpenClaim := { program := "ytmmoghgpaagnhaa", sum := "70276f991348af60dafa89c1bbda0e741b4fc825d79fade1b0e3974d4e7a5dfc", func := "knurl/knurllaw03.WheelsNext", spec := "wheelsNext", unfollowed := true, recurses := true, plainKeys := false, apart := false, narrowed := true }
def WheelsNextUptoSaid : Prop := wheelsNextUptoRow.holds Try.pinned (OpenSpec.upto wheelsNextSpec)

/-- 'knurllaw03.WheelsMore', WHERE WHAT IT READS IS OF BULK AT MOST 1048576: true; the input reads as it did. -/
def wheelsMoreUptoRow : OpenClaim := { program := "ytmmoghgpaagnhaa", sum := "70276f991348af60dafa89c1bbda0e741b4fc825d79fade1b0e3974d4e7a5dfc", func := "knurl/knurllaw03.WheelsMore", spec := "wheelsMore", unfollowed := true, recurses := true, plainKeys := false, apart := false, narrowed := true }
def WheelsMoreUptoSaid : Prop := wheelsMoreUptoRow.holds Try.pinned (OpenSpec.upto wheelsMoreSpec)

/-- 'knurllaw03.WheelsCancel', WHERE WHAT IT READS IS OF BULK AT MOST 1048576: true; the input reads as it did. -/
def wheelsCancelUptoRow : OpenClaim := { program := "ytmmoghgpaagnhaa", sum := "70276f991348af60dafa89c1bbda0e741b4fc825d79fade1b0e3974d4e7a5dfc", func := "knurl/knurllaw03.WheelsCancel", spec := "wheelsCancel", unfollowed := true, recurses := true, plainKeys := false, apart := false, narrowed := true }
def WheelsCancelUptoSaid : Prop := wheelsCancelUptoRow.holds Try.pinned (OpenSpec.upto wheelsCancelSpec)

/-- 'knurllaw03.WheelsStep', WHERE WHAT IT READS IS OF BULK AT MOST 1048576: true; the input reads as it did. -/
def wheelsStepUptoRow : OpenClaim := { program := "ytmmoghgpaagnhaa", sum := "70276f991348af60dafa89c1bbda0e741b4fc825d79fade1b0e3974d4e7a5dfc", func := "knurl/knurllaw03.WheelsStep", spec := "wheelsStep", unfollowed := true, recurses := true, plainKeys := false, apart := false, narrowed := true }
def WheelsStepUptoSaid : Prop := wheelsStepUptoRow.holds Try.pinned (OpenSpec.upto wheelsStepSpec)

/-- 'knurllaw03.WheelsTurned', WHERE WHAT IT READS IS OF BULK AT MOST 1048576: true; the input reads as it did. -/
def wheelsTurnedUptoRow : OpenClaim := { program := "ytmmoghgpaagnhaa", sum := "70276f991348af60dafa89c1bbda0e741b4fc825d79fade1b0e3974d4e7a5dfc", func := "knurl/knurllaw03.WheelsTurned", spec := "wheelsTurned", unfollowed := true, recurses := true, plainKeys := false, apart := false, narrowed := true }
def WheelsTurnedUptoSaid : Prop := wheelsTurnedUptoRow.holds Try.pinned (OpenSpec.upto wheelsTurnedSpec)

/-- 'knurllaw03.WheelsOne', WHERE WHAT IT READS IS OF BULK AT MOST 1048576: true; the input reads as it did. -/
def wheelsOneUptoRow : OpenClaim := { program := "ytmmoghgpaagnhaa", sum := "70276f991348af60dafa89c1bbda0e741b4fc825d79fade1b0e3974d4e7a5dfc", func := "knurl/knurllaw03.WheelsOne", spec := "wheelsOne", unfollowed := true, recurses := true, plainKeys := false, apart := false, narrowed := true }
def WheelsOneUptoSaid : Prop := wheelsOneUptoRow.holds Try.pinned (OpenSpec.upto wheelsOneSpec)

/-- 'knurllaw03.WheelsAreas', WHERE WHAT IT READS IS OF BULK AT MOST 1048576: true; the input reads as it did. -/
def wheelsAreasUptoRow : OpenClaim := { program := "ytmmoghgpaagnhaa", sum := "70276f991348af60dafa89c1bbda0e741b4fc825d79fade1b0e3974d4e7a5dfc", func := "knurl/knurllaw03.WheelsAreas", spec := "wheelsAreas", unfollowed := true, recurses := true, plainKeys := false, apart := false, narrowed := true }
def WheelsAreasUptoSaid : Prop := wheelsAreasUptoRow.holds Try.pinned (OpenSpec.upto wheelsAreasSpec)

/-- 'knurllaw03.WheelsTrue', WHERE WHAT IT READS IS OF BULK AT MOST 1048576: true; the input reads as it did. -/
def wheelsTrueUptoRow : OpenClaim := { program := "ytmmoghgpaagnhaa", sum := "70276f991348af60dafa89c1bbda0e741b4fc825d79fade1b0e3974d4e7a5dfc", func := "knurl/knurllaw03.WheelsTrue", spec := "wheelsTrue", unfollowed := true, recurses := true, plainKeys := false, apart := false, narrowed := true }
def WheelsTrueUptoSaid : Prop := wheelsTrueUptoRow.holds Try.pinned (OpenSpec.upto wheelsTrueSpec)

/-- 'knurllaw03.WheelsTells', WHERE WHAT IT READS IS OF BULK AT MOST 1048576: true; the input reads as it did. -/
def wheelsTellsUptoRow : OpenClaim := { program := "ytmmoghgpaagnhaa", sum := "70276f991348af60dafa89c1bbda0e741b4fc825d79fade1b0e3974d4e7a5dfc", func := "knurl/knurllaw03.WheelsTells", spec := "wheelsTells", unfollowed := true, recurses := true, plainKeys := false, apart := false, narrowed := true }
def WheelsTellsUptoSaid : Prop := wheelsTellsUptoRow.holds Try.pinned (OpenSpec.upto wheelsTellsSpec)

end Rows
end Go.Proofs.Ytmmoghgpaagnhaa
