/-
  No cell of these rows narrows 'for every input' (looked for: loops, veiled, ifaces, maps, wideKeys, modest, calm, conditions, laid).
  DERIVED. THE GIVEN ROWS OF THIS SEAT. 10 by the template 'for every input the law returns true; each argument reads behind the call as it read before'; 0 by the template 'total and deterministic' (their statements: YtgcmjidphcafnaaTotals.lean).
  GIVEN WITH THE SEED: the statements are not yours to turn. If you find one false, say at which input.
  Laid BY PROGRAM, IN A SANDBOX (cutbox-rows.mjs): the forced cells as the released guide's own fill.sh prints them over the translation 46cf98cffd63b22f… (all of the seat's roots in one cut). By AI agents, Wed Nov 11 2026. No macro, syntax, notation, axiom, sorry.
-/
import Derived.Test.YtgcmjidphcafnaaChecked
import GoSem.Claim
import GoSem.ClaimJoined
import GoSem.ClaimMapViews
import Derived.JoinedTies
import Derived.KernelRfl
namespace Go.Proofs.Ytgcmjidphcafnaa
/- THE CELL 'sum', in the pinned program and in every row, IS THE sha256 OF THE DUMP (.gsa) THAT YtgcmjidphcafnaaProg.lean LOADS. Nothing in Lean hashes anything: it is a label: what it is worth is what the hold of that sum in a sandbox is worth. -/
noncomputable def Try.pinned : Pinned := { name := "ytgcmjidphcafnaa", sum := "46cf98cffd63b22f78c70ad3c44a32e8eb33b2a6d26f3ecc8e3e9a2c63eb3689", checked := Try.checked }
namespace Rows
def none {H : Type} : Left H := { results := [], args := [] }

/-- 'knurllaw06.ParcelsProof': WHATEVER THE INPUT: true; the input reads as it did. -/
def parcelsProofSpec : ChangeSpec := { name := "parcelsProof", fn := fun _ => fun
  | [d1, d2] => { results := [.lit (.bool true)], args := [d1, d2] }
  | _ => none }
def parcelsProofRow : OpenClaim := { program := "ytgcmjidphcafnaa", sum := "46cf98cffd63b22f78c70ad3c44a32e8eb33b2a6d26f3ecc8e3e9a2c63eb3689", func := "knurl/knurllaw06.ParcelsProof", spec := "parcelsProof", unfollowed := true, recurses := true, apart := false }
def ParcelsProofSaid : Prop := parcelsProofRow.holds Try.pinned (OpenSpec.ofChange parcelsProofSpec)

/-- ITS FALSE NEIGHBOUR: 'it returns false'. Refute it at one input. -/
def parcelsProofWrong : ChangeSpec := { name := "parcelsProof", fn := fun _ => fun
  | [d1, d2] => { results := [.lit (.bool false)], args := [d1, d2] }
  | _ => none }
def ParcelsProofWrongFalsely : Prop := parcelsProofRow.holds Try.pinned (OpenSpec.ofChange parcelsProofWrong)

/-- 'knurllaw06.ParcelsSettled': WHATEVER THE INPUT: true; the input reads as it did. -/
def parcelsSettledSpec : ChangeSpec := { name := "parcelsSettled", fn := fun _ => fun
  | [d1, d2, d3] => { results := [.lit (.bool true)], args := [d1, d2, d3] }
  | _ => none }
def parcelsSettledRow : OpenClaim := { program := "ytgcmjidphcafnaa", sum := "46cf98cffd63b22f78c70ad3c44a32e8eb33b2a6d26f3ecc8e3e9a2c63eb3689", func := "knurl/knurllaw06.ParcelsSettled", spec := "parcelsSettled", unfollowed := true, recurses := true, apart := false }
def ParcelsSettledSaid : Prop := parcelsSettledRow.holds Try.pinned (OpenSpec.ofChange parcelsSettledSpec)

/-- ITS FALSE NEIGHBOUR: 'it returns false'. Refute it at one input. -/
def parcelsSettledWrong : ChangeSpec := { name := "parcelsSettled", fn := fun _ => fun
  | [d1, d2, d3] => { results := [.lit (.bool false)], args := [d1, d2, d3] }
  | _ => none }
def ParcelsSettledWrongFalsely : Prop := parcelsSettledRow.holds Try.pinned (OpenSpec.ofChange parcelsSettledWrong)

/-- 'knurllaw06.ParcelsChain': WHATEVER THE INPUT: true; the input reads as it did. -/
def parcelsChainSpec : ChangeSpec := { name := "parcelsChain", fn := fun _ => fun
  | [d] => { results := [.lit (.bool true)], args := [d] }
  | _ => none }
def parcelsChainRow : OpenClaim := { program := "ytgcmjidphcafnaa", sum := "46cf98cffd63b22f78c70ad3c44a32e8eb33b2a6d26f3ecc8e3e9a2c63eb3689", func := "knurl/knurllaw06.ParcelsChain", spec := "parcelsChain", unfollowed := true, recurses := true, apart := false }
def ParcelsChainSaid : Prop := parcelsChainRow.holds Try.pinned (OpenSpec.ofChange parcelsChainSpec)

/-- ITS FALSE NEIGHBOUR: 'it returns false'. Refute it at one input. -/
def parcelsChainWrong : ChangeSpec := { name := "parcelsChain", fn := fun _ => fun
  | [d] => { results := [.lit (.bool false)], args := [d] }
  | _ => none }
def ParcelsChainWrongFalsely : Prop := parcelsChainRow.holds Try.pinned (OpenSpec.ofChange parcelsChainWrong)

/-- 'knurllaw06.ParcelsRange': WHATEVER THE INPUT: true; the input reads as it did. -/
def parcelsRangeSpec : ChangeSpec := { name := "parcelsRange", fn := fun _ => fun
  | [d1, d2] => { results := [.lit (.bool true)], args := [d1, d2] }
  | _ => none }
def parcelsRangeRow : OpenClaim := { program := "ytgcmjidphcafnaa", sum := "46cf98cffd63b22f78c70ad3c44a32e8eb33b2a6d26f3ecc8e3e9a2c63eb3689", func := "knurl/knurllaw06.ParcelsRange", spec := "parcelsRange", unfollowed := true, recurses := true, apart := false }
def ParcelsRangeSaid : Prop := parcelsRangeRow.holds Try.pinned (OpenSpec.ofChange parcelsRangeSpec)

/-- ITS FALSE NEIGHBOUR: 'it returns false'. Refute it at one input. -/
def parcelsRangeWrong : ChangeSpec := { name := "parcelsRange", fn := fun _ => fun
  | [d1, d2] => { results := [.lit (.bool false)], args := [d1, d2] }
  | _ => none }
def ParcelsRangeWrongFalsely : Prop := parcelsRangeRow.holds Try.pinned (OpenSpec.ofChange parcelsRangeWrong)

/-- 'knurllaw06.ParcelsFills': WHATEVER THE INPUT: true; the input reads as it did. -/
def parcelsFillsSpec : ChangeSpec := { name := "parcelsFills", fn := fun _ => fun
  | [d1, d2] => { results := [.lit (.bool true)], args := [d1, d2] }
  | _ => none }
def parcelsFillsRow : OpenClaim := { program := "ytgcmjidphcafnaa", sum := "46cf98cffd63b22f78c70ad3c44a32e8eb33b2a6d26f3ecc8e3e9a2c63eb3689", func := "knurl/knurllaw06.ParcelsFills", spec := "parcelsFills", unfollowed := true, recurses := true, apart := false }
def ParcelsFillsSaid : Prop := parcelsFillsRow.holds Try.pinned (OpenSpec.ofChange parcelsFillsSpec)

/-- ITS FALSE NEIGHBOUR: 'it returns false'. Refute it at one input. -/
def parcelsFillsWrong : ChangeSpec := { name := "parcelsFills", fn := fun _ => fun
  | [d1, d2] => { results := [.lit (.bool false)], args := [d1, d2] }
  | _ => none }
def ParcelsFillsWrongFalsely : Prop := parcelsFillsRow.holds Try.pinned (OpenSpec.ofChange parcelsFillsWrong)

/-- 'knurllaw06.ParcelsMore': WHATEVER THE INPUT: true; the input reads as it did. -/
def parcelsMoreSpec : ChangeSpec := { name := "parcelsMore", fn := fun _ => fun
  | [d1, d2, d3] => { results := [.lit (.bool true)], args := [d1, d2, d3] }
  | _ => none }
def parcelsMoreRow : OpenClaim := { program := "ytgcmjidphcafnaa", sum := "46cf98cffd63b22f78c70ad3c44a32e8eb33b2a6d26f3ecc8e3e9a2c63eb3689", func := "knurl/knurllaw06.ParcelsMore", spec := "parcelsMore", unfollowed := true, recurses := true, apart := false }
def ParcelsMoreSaid : Prop := parcelsMoreRow.holds Try.pinned (OpenSpec.ofChange parcelsMoreSpec)

/-- ITS FALSE NEIGHBOUR: 'it returns false'. Refute it at one input. -/
def parcelsMoreWrong : ChangeSpec := { name := "parcelsMore", fn := fun _ => fun
  | [d1, d2, d3] => { results := [.lit (.bool false)], args := [d1, d2, d3] }
  | _ => none }
def ParcelsMoreWrongFalsely : Prop := parcelsMoreRow.holds Try.pinned (OpenSpec.ofChange parcelsMoreWrong)

/-- 'knurllaw06.ParcelsOrder': WHATEVER THE INPUT: true; the input reads as it did. -/
def parcelsOrderSpec : ChangeSpec := { name := "parcelsOrder", fn := fun _ => fun
  | [d1, d2, d3] => { results := [.lit (.bool true)], args := [d1, d2, d3] }
  | _ => none }
def parcelsOrderRow : OpenClaim := { program := "ytgcmjidphcafnaa", sum := "46cf98cffd63b22f78c70ad3c44a32e8eb33b2a6d26f3ecc8e3e9a2c63eb3689", func := "knurl/knurllaw06.ParcelsOrder", spec := "parcelsOrder", unfollowed := true, recurses := true, apart := false }
def ParcelsOrderSaid : Prop := parcelsOrderRow.holds Try.pinned (OpenSpec.ofChange parcelsOrderSpec)

/-- ITS FALSE NEIGHBOUR: 'it returns false'. Refute it at one input. -/
def parcelsOrderWrong : ChangeSpec := { name := "parcelsOrder", fn := fun _ => fun
  | [d1, d2, d3] => { results := [.lit (.bool false)], args := [d1, d2, d3] }
  | _ => none }
def ParcelsOrderWrongFalsely : Prop := parcelsOrderRow.holds Try.pinned (OpenSpec.ofChange parcelsOrderWrong)

/-- 'knurllaw06.ParcelsLeast': WHATEVER THE INPUT: true; the input reads as it did. -/
def parcelsLeastSpec : ChangeSpec := { name := "parcelsLeast", fn := fun _ => fun
  | [d] => { results := [.lit (.bool true)], args := [d] }
  | _ => none }
def parcelsLeastRow : OpenClaim := { program := "ytgcmjidphcafnaa", sum := "46cf98cffd63b22f78c70ad3c44a32e8eb33b2a6d26f3ecc8e3e9a2c63eb3689", func := "knurl/knurllaw06.ParcelsLeast", spec := "parcelsLeast", unfollowed := true, recurses := true, apart := false }
def ParcelsLeastSaid : Prop := parcelsLeastRow.holds Try.pinned (OpenSpec.ofChange parcelsLeastSpec)

/-- ITS FALSE NEIGHBOUR: 'it returns false'. Refute it at one input. -/
def parcelsLeastWrong : ChangeSpec := { name := "parcelsLeast", fn := fun _ => fun
  | [d] => { results := [.lit (.bool false)], args := [d] }
  | _ => none }
def ParcelsLeastWrongFalsely : Prop := parcelsLeastRow.holds Try.pinned (OpenSpec.ofChange parcelsLeastWrong)

/-- 'knurllaw06.ParcelsThree': WHATEVER THE INPUT: true; the input reads as it did. -/
def parcelsThreeSpec : ChangeSpec := { name := "parcelsThree", fn := fun _ => fun
  | [d] => { results := [.lit (.bool true)], args := [d] }
  | _ => none }
def parcelsThreeRow : OpenClaim := { program := "ytgcmjidphcafnaa", sum := "46cf98cffd63b22f78c70ad3c44a32e8eb33b2a6d26f3ecc8e3e9a2c63eb3689", func := "knurl/knurllaw06.ParcelsThree", spec := "parcelsThree", unfollowed := true, recurses := true, apart := false }
def ParcelsThreeSaid : Prop := parcelsThreeRow.holds Try.pinned (OpenSpec.ofChange parcelsThreeSpec)

/-- ITS FALSE NEIGHBOUR: 'it returns false'. Refute it at one input. -/
def parcelsThreeWrong : ChangeSpec := { name := "parcelsThree", fn := fun _ => fun
  | [d] => { results := [.lit (.bool false)], args := [d] }
  | _ => none }
def ParcelsThreeWrongFalsely : Prop := parcelsThreeRow.holds Try.pinned (OpenSpec.ofChange parcelsThreeWrong)

/-- 'knurllaw06.ParcelsSmallest': WHATEVER THE INPUT: true; the input reads as it did. -/
def parcelsSmallestSpec : ChangeSpec := { name := "parcelsSmallest", fn := fun _ => fun
  | [d1, d2] => { results := [.lit (.bool true)], args := [d1, d2] }
  | _ => none }
def parcelsSmallestRow : OpenClaim := { program := "ytgcmjidphcafnaa", sum := "46cf98cffd63b22f78c70ad3c44a32e8eb33b2a6d26f3ecc8e3e9a2c63eb3689", func := "knurl/knurllaw06.ParcelsSmallest", spec := "parcelsSmallest", unfollowed := true, recurses := true, apart := false }
def ParcelsSmallestSaid : Prop := parcelsSmallestRow.holds Try.pinned (OpenSpec.ofChange parcelsSmallestSpec)

/-- ITS FALSE NEIGHBOUR: 'it returns false'. Refute it at one input. -/
def parcelsSmallestWrong : ChangeSpec := { name := "parcelsSmallest", fn := fun _ => fun
  | [d1, d2] => { results := [.lit (.bool false)], args := [d1, d2] }
  | _ => none }
def ParcelsSmallestWrongFalsely : Prop := parcelsSmallestRow.holds Try.pinned (OpenSpec.ofChange parcelsSmallestWrong)

/- THE SECOND FORM. 'bulk': how many values and letters a reading holds, each counted each time it is reached (what is shared counts as often as it is met; a slice's spare places count too). A statement '..UptoSaid' is the law's where the arguments, and the package variables that the reading takes, are together of bulk at most 1048576: NARROWER than '..Said'. Prove '..Said' where nothing that the law and all that it calls make is longer than what came in: it says more and counts as full. Else prove '..UptoSaid'. A law counts once. -/
mutual
def uptoBulk {H : Type} : DataW H → Nat
  | .lit (.string bytes) => bytes.length + 1
  | .lit _ => 1
  | .nil => 1
  | .ptr d => uptoBulk d + 1
  | .slice elems spare => uptoBulkAll elems + uptoBulkAll spare + 1
  | .agg parts => uptoBulkAll parts + 1
  | .iface _ d => uptoBulk d + 1
  | .map entries => uptoBulkEntries entries + 1
  | .held _ => 1
def uptoBulkAll {H : Type} : List (DataW H) → Nat
  | [] => 0
  | d :: r => uptoBulk d + uptoBulkAll r
def uptoBulkEntries {H : Type} : List (Lit × DataW H) → Nat
  | [] => 0
  | x :: r => uptoBulkEntry x + uptoBulkEntries r
def uptoBulkEntry {H : Type} : Lit × DataW H → Nat
  | (.string bytes, d) => bytes.length + uptoBulk d + 1
  | (_, d) => uptoBulk d + 1
 end
def uptoSmall : (H : Type) → List (DataW H) → Bool := fun _ ds => decide (uptoBulkAll ds ≤ 1048576)
def OpenSpec.upto (s : _root_.Go.ChangeSpec) : _root_.Go.OpenSpec := { _root_.Go.OpenSpec.ofChange s with cond := some uptoSmall }

/-- 'knurllaw06.ParcelsProof', WHERE WHAT IT READS IS OF BULK AT MOST 1048576: true; the input reads as it did. -/
def parcelsProofUptoRow : OpenClaim := { program := "ytgcmjidphcafnaa", sum := "46cf98cffd63b22f78c70ad3c44a32e8eb33b2a6d26f3ecc8e3e9a2c63eb3689", func := "knurl/knurllaw06.ParcelsProof", spec := "parcelsProof", unfollowed := true, recurses := true, apart := false, narrowed := true }
def ParcelsProofUptoSaid : Prop := parcelsProofUptoRow.holds Try.pinned (OpenSpec.upto parcelsProofSpec)

/-- 'knurllaw06.ParcelsSettled', WHERE WHAT IT READS IS OF BULK AT MOST 1048576: true; the input reads as it did. -/
def parcelsSettledUptoRow : OpenClaim := { program := "ytgcmjidphcafnaa", sum := "46cf98cffd63b22f78c70ad3c44a32e8eb33b2a6d26f3ecc8e3e9a2c63eb3689", func := "knurl/knurllaw06.ParcelsSettled", spec := "parcelsSettled", unfollowed := true, recurses := true, apart := false, narrowed := true }
def ParcelsSettledUptoSaid : Prop := parcelsSettledUptoRow.holds Try.pinned (OpenSpec.upto parcelsSettledSpec)

/-- 'knurllaw06.ParcelsChain', WHERE WHAT IT READS IS OF BULK AT MOST 1048576: true; the input reads as it did. -/
def parcelsChainUptoRow : OpenClaim := { program := "ytgcmjidphcafnaa", sum := "46cf98cffd63b22f78c70ad3c44a32e8eb33b2a6d26f3ecc8e3e9a2c63eb3689", func := "knurl/knurllaw06.ParcelsChain", spec := "parcelsChain", unfollowed := true, recurses := true, apart := false, narrowed := true }
def ParcelsChainUptoSaid : Prop := parcelsChainUptoRow.holds Try.pinned (OpenSpec.upto parcelsChainSpec)

/-- 'knurllaw06.ParcelsRange', WHERE WHAT IT READS IS OF BULK AT MOST 1048576: true; the input reads as it did. -/
def parcelsRangeUptoRow : OpenClaim := { program := "ytgcmjidphcafnaa", sum := "46cf98cffd63b22f78c70ad3c44a32e8eb33b2a6d26f3ecc8e3e9a2c63eb3689", func := "knurl/knurllaw06.ParcelsRange", spec := "parcelsRange", unfollowed := true, recurses := true, apart := false, narrowed := true }
def ParcelsRangeUptoSaid : Prop := parcelsRangeUptoRow.holds Try.pinned (OpenSpec.upto parcelsRangeSpec)

/-- 'knurllaw06.ParcelsFills', WHERE WHAT IT READS IS OF BULK AT MOST 1048576: true; the input reads as it did. -/
def parcelsFillsUptoRow : OpenClaim := { program := "ytgcmjidphcafnaa", sum := "46cf98cffd63b22f78c70ad3c44a32e8eb33b2a6d26f3ecc8e3e9a2c63eb3689", func := "knurl/knurllaw06.ParcelsFills", spec := "parcelsFills", unfollowed := true, recurses := true, apart := false, narrowed := true }
def ParcelsFillsUptoSaid : Prop := parcelsFillsUptoRow.holds Try.pinned (OpenSpec.upto parcelsFillsSpec)

/-- 'knurllaw06.ParcelsMore', WHERE WHAT IT READS IS OF BULK AT MOST 1048576: true; the input reads as it did. -/
def parcelsMoreUptoRow : OpenClaim := { program := "ytgcmjidphcafnaa", sum := "46cf98cffd63b22f78c70ad3c44a32e8eb33b2a6d26f3ecc8e3e9a2c63eb3689", func := "knurl/knurllaw06.ParcelsMore", spec := "parcelsMore", unfollowed := true, recurses := true, apart := false, narrowed := true }
def ParcelsMoreUptoSaid : Prop := parcelsMoreUptoRow.holds Try.pinned (OpenSpec.upto parcelsMoreSpec)

/-- 'knurllaw06.ParcelsOrder', WHERE WHAT IT READS IS OF BULK AT MOST 1048576: true; the input reads as it did. -/
def parcelsOrderUptoRow : OpenClaim := { program := "ytgcmjidphcafnaa", sum := "46cf98cffd63b22f78c70ad3c44a32e8eb33b2a6d26f3ecc8e3e9a2c63eb3689", func := "knurl/knurllaw06.ParcelsOrder", spec := "parcelsOrder", unfollowed := true, recurses := true, apart := false, narrowed := true }
def ParcelsOrderUptoSaid : Prop := parcelsOrderUptoRow.holds Try.pinned (OpenSpec.upto parcelsOrderSpec)

/-- 'knurllaw06.ParcelsLeast', WHERE WHAT IT READS IS OF BULK AT MOST 1048576: true; the input reads as it did. -/
def parcelsLeastUptoRow : OpenClaim := { program := "ytgcmjidphcafnaa", sum := "46cf98cffd63b22f78c70ad3c44a32e8eb33b2a6d26f3ecc8e3e9a2c63eb3689", func := "knurl/knurllaw06.ParcelsLeast", spec := "parcelsLeast", unfollowed := true, recurses := true, apart := false, narrowed := true }
def ParcelsLeastUptoSaid : Prop := parcelsLeastUptoRow.holds Try.pinned (OpenSpec.upto parcelsLeastSpec)

/-- 'knurllaw06.ParcelsThree', WHERE WHAT IT READS IS OF BULK AT MOST 1048576: true; the input reads as it did. -/
def parcelsThreeUptoRow : OpenClaim := { program := "ytgcmjidphcafnaa", sum := "46cf98cffd63b22f78c70ad3c44a32e8eb33b2a6d26f3ecc8e3e9a2c63eb3689", func := "knurl/knurllaw06.ParcelsThree", spec := "parcelsThree", unfollowed := true, recurses := true, apart := false, narrowed := true }
def ParcelsThreeUptoSaid : Prop := parcelsThreeUptoRow.holds Try.pinned (OpenSpec.upto parcelsThreeSpec)

/-- 'knurllaw06.ParcelsSmallest', WHERE WHAT IT READS IS OF BULK AT MOST 1048576: true; the input reads as it did. -/
def parcelsSmallestUptoRow : OpenClaim := { program := "ytgcmjidphcafnaa", sum := "46cf98cffd63b22f78c70ad3c44a32e8eb33b2a6d26f3ecc8e3e9a2c63eb3689", func := "knurl/knurllaw06.ParcelsSmallest", spec := "parcelsSmallest", unfollowed := true, recurses := true, apart := false, narrowed := true }
def ParcelsSmallestUptoSaid : Prop := parcelsSmallestUptoRow.holds Try.pinned (OpenSpec.upto parcelsSmallestSpec)

end Rows
end Go.Proofs.Ytgcmjidphcafnaa
