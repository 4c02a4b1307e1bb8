/-
  No cell of these rows narrows 'for every input' (looked for: loops, veiled, ifaces, maps, wideKeys, modest, calm, conditions, laid).
  DERIVED. THE GIVEN ROWS OF THIS SEAT. 4 by the template 'for every input the law returns true; each argument reads behind the call as it read before'; 0 by the template 'total and deterministic' (their statements: YtbhbmnofmoibhaaTotals.lean).
  GIVEN WITH THE SEED: the statements are not yours to turn. If you find one false, say at which input.
  Laid BY PROGRAM, IN A SANDBOX (cutbox-rows.mjs): the forced cells as the released guide's own fill.sh prints them over the translation da4232129b379d87… (all of the seat's roots in one cut). By AI agents, Wed Nov 11 2026. No macro, syntax, notation, axiom, sorry.
-/
import Derived.Test.YtbhbmnofmoibhaaChecked
import GoSem.Claim
import GoSem.ClaimJoined
import GoSem.ClaimMapViews
import Derived.JoinedTies
import Derived.KernelRfl
namespace Go.Proofs.Ytbhbmnofmoibhaa
/- THE CELL 'sum', in the pinned program and in every row, IS THE sha256 OF THE DUMP (.gsa) THAT YtbhbmnofmoibhaaProg.lean LOADS. Nothing in Lean hashes anything: it is a label: what it is worth is what the hold of that sum in a sandbox is worth. -/
noncomputable def Try.pinned : Pinned := { name := "ytbhbmnofmoibhaa", sum := "da4232129b379d8765b54fba4804efe1cdefa3c81807fc6449abaabe0efa98a2", checked := Try.checked }
namespace Rows
def none {H : Type} : Left H := { results := [], args := [] }

/-- 'knurllaw09.TrialsClasses': WHATEVER THE INPUT: true; the input reads as it did. -/
def trialsClassesSpec : ChangeSpec := { name := "trialsClasses", fn := fun _ => fun
  | [d1, d2, d3] => { results := [.lit (.bool true)], args := [d1, d2, d3] }
  | _ => none }
def trialsClassesRow : OpenClaim := { program := "ytbhbmnofmoibhaa", sum := "da4232129b379d8765b54fba4804efe1cdefa3c81807fc6449abaabe0efa98a2", func := "knurl/knurllaw09.TrialsClasses", spec := "trialsClasses", unfollowed := true, recurses := true, plainKeys := false, apart := false }
def TrialsClassesSaid : Prop := trialsClassesRow.holds Try.pinned (OpenSpec.ofChange trialsClassesSpec)

/-- ITS FALSE NEIGHBOUR: 'it returns false'. Refute it at one input. -/
def trialsClassesWrong : ChangeSpec := { name := "trialsClasses", fn := fun _ => fun
  | [d1, d2, d3] => { results := [.lit (.bool false)], args := [d1, d2, d3] }
  | _ => none }
def TrialsClassesWrongFalsely : Prop := trialsClassesRow.holds Try.pinned (OpenSpec.ofChange trialsClassesWrong)

/-- 'knurllaw09.TrialsOrder': WHATEVER THE INPUT: true; the input reads as it did. -/
def trialsOrderSpec : ChangeSpec := { name := "trialsOrder", fn := fun _ => fun
  | [d1, d2] => { results := [.lit (.bool true)], args := [d1, d2] }
  | _ => none }
def trialsOrderRow : OpenClaim := { program := "ytbhbmnofmoibhaa", sum := "da4232129b379d8765b54fba4804efe1cdefa3c81807fc6449abaabe0efa98a2", func := "knurl/knurllaw09.TrialsOrder", spec := "trialsOrder", unfollowed := true, recurses := true, plainKeys := false, apart := false }
def TrialsOrderSaid : Prop := trialsOrderRow.holds Try.pinned (OpenSpec.ofChange trialsOrderSpec)

/-- ITS FALSE NEIGHBOUR: 'it returns false'. Refute it at one input. -/
def trialsOrderWrong : ChangeSpec := { name := "trialsOrder", fn := fun _ => fun
  | [d1, d2] => { results := [.lit (.bool false)], args := [d1, d2] }
  | _ => none }
def TrialsOrderWrongFalsely : Prop := trialsOrderRow.holds Try.pinned (OpenSpec.ofChange trialsOrderWrong)

/-- 'knurllaw09.TrialsProof': WHATEVER THE INPUT: true; the input reads as it did. -/
def trialsProofSpec : ChangeSpec := { name := "trialsProof", fn := fun _ => fun
  | [d1, d2, d3] => { results := [.lit (.bool true)], args := [d1, d2, d3] }
  | _ => none }
def trialsProofRow : OpenClaim := { program := "ytbhbmnofmoibhaa", sum := "da4232129b379d8765b54fba4804efe1cdefa3c81807fc6449abaabe0efa98a2", func := "knurl/knurllaw09.TrialsProof", spec := "trialsProof", unfollowed := true, recurses := true, plainKeys := false, apart := false }
def TrialsProofSaid : Prop := trialsProofRow.holds Try.pinned (OpenSpec.ofChange trialsProofSpec)

/-- ITS FALSE NEIGHBOUR: 'it returns false'. Refute it at one input. -/
def trialsProofWrong : ChangeSpec := { name := "trialsProof", fn := fun _ => fun
  | [d1, d2, d3] => { results := [.lit (.bool false)], args := [d1, d2, d3] }
  | _ => none }
def TrialsProofWrongFalsely : Prop := trialsProofRow.holds Try.pinned (OpenSpec.ofChange trialsProofWrong)

/-- 'knurllaw09.TrialsZero': WHATEVER THE INPUT: true; the input reads as it did. -/
def trialsZeroSpec : ChangeSpec := { name := "trialsZero", fn := fun _ => fun
  | [d1, d2] => { results := [.lit (.bool true)], args := [d1, d2] }
  | _ => none }
def trialsZeroRow : OpenClaim := { program := "ytbhbmnofmoibhaa", sum := "da4232129b379d8765b54fba4804efe1cdefa3c81807fc6449abaabe0efa98a2", func := "knurl/knurllaw09.TrialsZero", spec := "trialsZero", unfollowed := true, recurses := true, plainKeys := false, apart := false }
def TrialsZeroSaid : Prop := trialsZeroRow.holds Try.pinned (OpenSpec.ofChange trialsZeroSpec)

/-- ITS FALSE NEIGHBOUR: 'it returns false'. Refute it at one input. -/
def trialsZeroWrong : ChangeSpec := { name := "trialsZero", fn := fun _ => fun
  | [d1, d2] => { results := [.lit (.bool false)], args := [d1, d2] }
  | _ => none }
def TrialsZeroWrongFalsely : Prop := trialsZeroRow.holds Try.pinned (OpenSpec.ofChange trialsZeroWrong)

/- THE SECOND FORM. 'bulk': how many values and letters a reading holds, each counted each time it is reached (what is shared counts as often as it is met; a slice's spare places count too). A statement '..UptoSaid' is the law's where the arguments, and the package variables that the reading takes, are together of bulk at most 1048576: NARROWER than '..Said'. Prove '..Said' where nothing that the law and all that it calls make is longer than what came in: it says more and counts as full. Else prove '..UptoSaid'. A law counts once. -/
mutual
def uptoBulk {H : Type} : DataW H → Nat
  | .lit (.string bytes) => bytes.length + 1
  | .lit _ => 1
  | .nil => 1
  | .ptr d => uptoBulk d + 1
  | .slice elems spare => uptoBulkAll elems + uptoBulkAll spare + 1
  | .agg parts => uptoBulkAll parts + 1
  | .iface _ d => uptoBulk d + 1
  | .map entries => uptoBulkEntries entries + 1
  | .held _ => 1
def uptoBulkAll {H : Type} : List (DataW H) → Nat
  | [] => 0
  | d :: r => uptoBulk d + uptoBulkAll r
def uptoBulkEntries {H : Type} : List (Lit × DataW H) → Nat
  | [] => 0
  | x :: r => uptoBulkEntry x + uptoBulkEntries r
def uptoBulkEntry {H : Type} : Lit × DataW H → Nat
  | (.string bytes, d) => bytes.length + uptoBulk d + 1
  | (_, d) => uptoBulk d + 1
 end
def uptoSmall : (H : Type) → List (DataW H) → Bool := fun _ ds => decide (uptoBulkAll ds ≤ 1048576)
def OpenSpec.upto (s : _root_.Go.ChangeSpec) : _root_.Go.OpenSpec := { _root_.Go.OpenSpec.ofChange s with cond := some uptoSmall }

/-- 'knurllaw09.TrialsClasses', WHERE WHAT IT READS IS OF BULK AT MOST 1048576: true; the input reads as it did. -/
def trialsClassesUptoRow : OpenClaim := { program := "ytbhbmnofmoibhaa", sum := "da4232129b379d8765b54fba4804efe1cdefa3c81807fc6449abaabe0efa98a2", func := "knurl/knurllaw09.TrialsClasses", spec := "trialsClasses", unfollowed := true, recurses := true, plainKeys := false, apart := false, narrowed := true }
def TrialsClassesUptoSaid : Prop := trialsClassesUptoRow.holds Try.pinned (OpenSpec.upto trialsClassesSpec)

/-- 'knurllaw09.TrialsOrder', WHERE WHAT IT READS IS OF BULK AT MOST 1048576: true; the input reads as it did. -/
def trialsOrderUptoRow : OpenClaim := { program := "ytbhbmnofmoibhaa", sum := "da4232129b379d8765b54fba4804efe1cdefa3c81807fc6449abaabe0efa98a2", func := "knurl/knurllaw09.TrialsOrder", spec := "trialsOrder", unfollowed := true, recurses := true, plainKeys := false, apart := false, narrowed := true }
def TrialsOrderUptoSaid : Prop := trialsOrderUptoRow.holds Try.pinned (OpenSpec.upto trialsOrderSpec)

/-- 'knurllaw09.TrialsProof', WHERE WHAT IT READS IS OF BULK AT MOST 1048576: true; the input reads as it did. -/
def trialsProofUptoRow : OpenClaim := { program := "ytbhbmnofmoibhaa", sum := "da4232129b379d8765b54fba4804efe1cdefa3c81807fc6449abaabe0efa98a2", func := "knurl/knurllaw09.TrialsProof", spec := "trialsProof", unfollowed := true, recurses := true, plainKeys := false, apart := false, narrowed := true }
def TrialsProofUptoSaid : Prop := trialsProofUptoRow.holds Try.pinned (OpenSpec.upto trialsProofSpec)

/-- 'knurllaw09.TrialsZero', WHERE WHAT IT READS IS OF BULK AT MOST 1048576: true; the input reads as it did. -/
def trialsZeroUptoRow : OpenClaim := { program := "ytbhbmnofmoibhaa", sum := "da4232129b379d8765b54fba4804efe1cdefa3c81807fc6449abaabe0efa98a2", func := "knurl/knurllaw09.TrialsZero", spec := "trialsZero", unfollowed := true, recurses := true, plainKeys := false, apart := false, narrowed := true }
def TrialsZeroUptoSaid : Prop := trialsZeroUptoRow.holds Try.pinned (OpenSpec.upto trialsZeroSpec)

end Rows
end Go.Proofs.Ytbhbmnofmoibhaa
