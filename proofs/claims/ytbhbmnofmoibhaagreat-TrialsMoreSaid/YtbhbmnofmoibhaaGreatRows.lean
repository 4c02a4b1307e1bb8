/-
  No cell of these rows narrows 'for every input' (looked for: loops, veiled, ifaces, maps, wideKeys, modest, calm, conditions, laid).
  DERIVED. THE GIVEN ROWS OF THIS SEAT. 5 by the template 'for every input the law returns true; each argument reads behind the call as it read before'; 0 by the template 'total and deterministic' (their statements: YtbhbmnofmoibhaaGreatTotals.lean).
  GIVEN WITH THE SEED: the statements are not yours to turn. If you find one false, say at which input.
  Laid BY PROGRAM, IN A SANDBOX (cutbox-rows.mjs): the forced cells as the released guide's own fill.sh prints them over the translation 7c5d4fa6b1f8d1e1… (all of the seat's roots in one cut). By AI agents, Wed Nov 11 2026. No macro, syntax, notation, axiom, sorry.
-/
import Derived.Test.YtbhbmnofmoibhaaGreatChecked
import GoSem.Claim
import GoSem.ClaimJoined
import GoSem.ClaimMapViews
import Derived.JoinedTies
import Derived.KernelRfl
namespace Go.Proofs.YtbhbmnofmoibhaaGreat
/- THE CELL 'sum', in the pinned program and in every row, IS THE sha256 OF THE DUMP (.gsa) THAT YtbhbmnofmoibhaaGreatProg.lean LOADS. Nothing in Lean hashes anything: it is a label: what it is worth is what the hold of that sum in a sandbox is worth. -/
noncomputable def Tryz.pinned : Pinned := { name := "ytbhbmnofmoibhaagreat", sum := "7c5d4fa6b1f8d1e18f14b15b557a164ad3a41b24a8b236a16cdc333e1a8e4661", checked := Tryz.checked }
namespace Rows
def none {H : Type} : Left H := { results := [], args := [] }

/-- 'knurllaw09.TrialsSeen': WHATEVER THE INPUT: true; the input reads as it did. -/
def trialsSeenSpec : ChangeSpec := { name := "trialsSeen", fn := fun _ => fun
  | [d1, d2, d3] => { results := [.lit (.bool true)], args := [d1, d2, d3] }
  | _ => none }
def trialsSeenRow : OpenClaim := { program := "ytbhbmnofmoibhaagreat", sum := "7c5d4fa6b1f8d1e18f14b15b557a164ad3a41b24a8b236a16cdc333e1a8e4661", func := "knurl/knurllaw09.TrialsSeen", spec := "trialsSeen", unfollowed := true, recurses := true, plainKeys := false, apart := false }
def TrialsSeenSaid : Prop := trialsSeenRow.holds Tryz.pinned (OpenSpec.ofChange trialsSeenSpec)

/-- ITS FALSE NEIGHBOUR: 'it returns false'. Refute it at one input. -/
def trialsSeenWrong : ChangeSpec := { name := "trialsSeen", fn := fun _ => fun
  | [d1, d2, d3] => { results := [.lit (.bool false)], args := [d1, d2, d3] }
  | _ => none }
def TrialsSeenWrongFalsely : Prop := trialsSeenRow.holds Tryz.pinned (OpenSpec.ofChange trialsSeenWrong)

/-- 'knurllaw09.TrialsTrue': WHATEVER THE INPUT: true; the input reads as it did. -/
def trialsTrueSpec : ChangeSpec := { name := "trialsTrue", fn := fun _ => fun
  | [d1, d2, d3] => { results := [.lit (.bool true)], args := [d1, d2, d3] }
  | _ => none }
def trialsTrueRow : OpenClaim := { program := "ytbhbmnofmoibhaagreat", sum := "7c5d4fa6b1f8d1e18f14b15b557a164ad3a41b24a8b236a16cdc333e1a8e4661", func := "knurl/knurllaw09.TrialsTrue", spec := "trialsTrue", unfollowed := true, recurses := true, plainKeys := false, apart := false }
def TrialsTrueSaid : Prop := trialsTrueRow.holds Tryz.pinned (OpenSpec.ofChange trialsTrueSpec)

/-- ITS FALSE NEIGHBOUR: 'it returns false'. Refute it at one input. -/
def trialsTrueWrong : ChangeSpec := { name := "trialsTrue", fn := fun _ => fun
  | [d1, d2, d3] => { results := [.lit (.bool false)], args := [d1, d2, d3] }
  | _ => none }
def TrialsTrueWrongFalsely : Prop := trialsTrueRow.holds Tryz.pinned (OpenSpec.ofChange trialsTrueWrong)

/-- 'knurllaw09.TrialsErrs': WHATEVER THE INPUT: true; the input reads as it did. -/
def trialsErrsSpec : ChangeSpec := { name := "trialsErrs", fn := fun _ => fun
  | [d1, d2] => { results := [.lit (.bool true)], args := [d1, d2] }
  | _ => none }
def trialsErrsRow : OpenClaim := { program := "ytbhbmnofmoibhaagreat", sum := "7c5d4fa6b1f8d1e18f14b15b557a164ad3a41b24a8b236a16cdc333e1a8e4661", func := "knurl/knurllaw09.TrialsErrs", spec := "trialsErrs", unfollowed := true, recurses := true, plainKeys := false, apart := false }
def TrialsErrsSaid : Prop := trialsErrsRow.holds Tryz.pinned (OpenSpec.ofChange trialsErrsSpec)

/-- ITS FALSE NEIGHBOUR: 'it returns false'. Refute it at one input. -/
def trialsErrsWrong : ChangeSpec := { name := "trialsErrs", fn := fun _ => fun
  | [d1, d2] => { results := [.lit (.bool false)], args := [d1, d2] }
  | _ => none }
def TrialsErrsWrongFalsely : Prop := trialsErrsRow.holds Tryz.pinned (OpenSpec.ofChange trialsErrsWrong)

/-- 'knurllaw09.TrialsMore': WHATEVER THE INPUT: true; the input reads as it did. -/
def trialsMoreSpec : ChangeSpec := { name := "trialsMore", fn := fun _ => fun
  | [d1, d2, d3] => { results := [.lit (.bool true)], args := [d1, d2, d3] }
  | _ => none }
def trialsMoreRow : OpenClaim := { program := "ytbhbmnofmoibhaagreat", sum := "7c5d4fa6b1f8d1e18f14b15b557a164ad3a41b24a8b236a16cdc333e1a8e4661", func := "knurl/knurllaw09.TrialsMore", spec := "trialsMore", unfollowed := true, recurses := true, plainKeys := false, apart := false }
def TrialsMoreSaid : Prop := trialsMoreRow.holds Tryz.pinned (OpenSpec.ofChange trialsMoreSpec)

/-- ITS FALSE NEIGHBOUR: 'it returns false'. Refute it at one input. -/
def trialsMoreWrong : ChangeSpec := { name := "trialsMore", fn := fun _ => fun
  | [d1, d2, d3] => { results := [.lit (.bool false)], args := [d1, d2, d3] }
  | _ => none }
def TrialsMoreWrongFalsely : Prop := trialsMoreRow.holds Tryz.pinned (OpenSpec.ofChange trialsMoreWrong)

/-- 'knurllaw09.TrialsFewest': WHATEVER THE INPUT: true; the input reads as it did. -/
def trialsFewestSpec : ChangeSpec := { name := "trialsFewest", fn := fun _ => fun
  | [d1, d2] => { results := [.lit (.bool true)], args := [d1, d2] }
  | _ => none }
def trialsFewestRow : OpenClaim := { program := "ytbhbmnofmoibhaagreat", sum := "7c5d4fa6b1f8d1e18f14b15b557a164ad3a41b24a8b236a16cdc333e1a8e4661", func := "knurl/knurllaw09.TrialsFewest", spec := "trialsFewest", unfollowed := true, recurses := true, plainKeys := false, apart := false }
def TrialsFewestSaid : Prop := trialsFewestRow.holds Tryz.pinned (OpenSpec.ofChange trialsFewestSpec)

/-- ITS FALSE NEIGHBOUR: 'it returns false'. Refute it at one input. -/
def trialsFewestWrong : ChangeSpec := { name := "trialsFewest", fn := fun _ => fun
  | [d1, d2] => { results := [.lit (.bool false)], args := [d1, d2] }
  | _ => none }
def TrialsFewestWrongFalsely : Prop := trialsFewestRow.holds Tryz.pinned (OpenSpec.ofChange trialsFewestWrong)

/- THE SECOND FORM. 'bulk': how many values and letters a reading holds, each counted each time it is reached (what is shared counts as often as it is met; a slice's spare places count too). A statement '..UptoSaid' is the law's where the arguments, and the package variables that the reading takes, are together of bulk at most 1048576: NARROWER than '..Said'. Prove '..Said' where nothing that the law and all that it calls make is longer than what came in: it says more and counts as full. Else prove '..UptoSaid'. A law counts once. -/
mutual
def uptoBulk {H : Type} : DataW H → Nat
  | .lit (.string bytes) => bytes.length + 1
  | .lit _ => 1
  | .nil => 1
  | .ptr d => uptoBulk d + 1
  | .slice elems spare => uptoBulkAll elems + uptoBulkAll spare + 1
  | .agg parts => uptoBulkAll parts + 1
  | .iface _ d => uptoBulk d + 1
  | .map entries => uptoBulkEntries entries + 1
  | .held _ => 1
def uptoBulkAll {H : Type} : List (DataW H) → Nat
  | [] => 0
  | d :: r => uptoBulk d + uptoBulkAll r
def uptoBulkEntries {H : Type} : List (Lit × DataW H) → Nat
  | [] => 0
  | x :: r => uptoBulkEntry x + uptoBulkEntries r
def uptoBulkEntry {H : Type} : Lit × DataW H → Nat
  | (.string bytes, d) => bytes.length + uptoBulk d + 1
  | (_, d) => uptoBulk d + 1
 end
def uptoSmall : (H : Type) → List (DataW H) → Bool := fun _ ds => decide (uptoBulkAll ds ≤ 1048576)
def OpenSpec.upto (s : _root_.Go.ChangeSpec) : _root_.Go.OpenSpec := { _root_.Go.OpenSpec.ofChange s with cond := some uptoSmall }

/-- 'knurllaw09.TrialsSeen', WHERE WHAT IT READS IS OF BULK AT MOST 1048576: true; the input reads as it did. -/
def trialsSeenUptoRow : OpenClaim := { program := "ytbhbmnofmoibhaagreat", sum := "7c5d4fa6b1f8d1e18f14b15b557a164ad3a41b24a8b236a16cdc333e1a8e4661", func := "knurl/knurllaw09.TrialsSeen", spec := "trialsSeen", unfollowed := true, recurses := true, plainKeys := false, apart := false, narrowed := true }
def TrialsSeenUptoSaid : Prop := trialsSeenUptoRow.holds Tryz.pinned (OpenSpec.upto trialsSeenSpec)

/-- 'knurllaw09.TrialsTrue', WHERE WHAT IT READS IS OF BULK AT MOST 1048576: true; the input reads as it did. -/
def trialsTrueUptoRow : OpenClaim := { program := "ytbhbmnofmoibhaagreat", sum := "7c5d4fa6b1f8d1e18f14b15b557a164ad3a41b24a8b236a16cdc333e1a8e4661", func := "knurl/knurllaw09.TrialsTrue", spec := "trialsTrue", unfollowed := true, recurses := true, plainKeys := false, apart := false, narrowed := true }
def TrialsTrueUptoSaid : Prop := trialsTrueUptoRow.holds Tryz.pinned (OpenSpec.upto trialsTrueSpec)

/-- 'knurllaw09.TrialsErrs', WHERE WHAT IT READS IS OF BULK AT MOST 1048576: true; the input reads as it did. -/
def trialsErrsUptoRow : OpenClaim := { program := "ytbhbmnofmoibhaagreat", sum := "7c5d4fa6b1f8d1e18f14b15b557a164ad3a41b24a8b236a16cdc333e1a8e4661", func := "knurl/knurllaw09.TrialsErrs", spec := "trialsErrs", unfollowed := true, recurses := true, plainKeys := false, apart := false, narrowed := true }
def TrialsErrsUptoSaid : Prop := trialsErrsUptoRow.holds Tryz.pinned (OpenSpec.upto trialsErrsSpec)

/-- 'knurllaw09.TrialsMore', WHERE WHAT IT READS IS OF BULK AT MOST 1048576: true; the input reads as it did. -/
def trialsMoreUptoRow : OpenClaim := { program := "ytbhbmnofmoibhaagreat", sum := "7c5d4fa6b1f8d1e18f14b15b557a164ad3a41b24a8b236a16cdc333e1a8e4661", func := "knurl/knurllaw09.TrialsMore", spec := "trialsMore", unfollowed := true, recurses := true, plainKeys := false, apart := false, narrowed := true }
def TrialsMoreUptoSaid : Prop := trialsMoreUptoRow.holds Tryz.pinned (OpenSpec.upto trialsMoreSpec)

/-- 'knurllaw09.TrialsFewest', WHERE WHAT IT READS IS OF BULK AT MOST 1048576: true; the input reads as it did. -/
def trialsFewestUptoRow : OpenClaim := { program := "ytbhbmnofmoibhaagreat", sum := "7c5d4fa6b1f8d1e18f14b15b557a164ad3a41b24a8b236a16cdc333e1a8e4661", func := "knurl/knurllaw09.TrialsFewest", spec := "trialsFewest", unfollowed := true, recurses := true, plainKeys := false, apart := false, narrowed := true }
def TrialsFewestUptoSaid : Prop := trialsFewestUptoRow.holds Tryz.pinned (OpenSpec.upto trialsFewestSpec)

end Rows
end Go.Proofs.YtbhbmnofmoibhaaGreat
