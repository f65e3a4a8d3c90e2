/-
  No cell of these rows narrows 'for every input' (looked for: loops, veiled, ifaces, maps, wideKeys, modest, calm, conditions, laid).
  DERIVED. THE GIVEN ROWS OF THIS SEAT. 18 by the template 'for every input the law returns true; each argument reads behind the call as it read before'; 0 by the template 'total and deterministic' (their statements: YtojjdkoglhecbaaTotals.lean).
  GIVEN WITH THE SEED: the statements are not yours to turn. If you find one false, say at which input.
  Laid BY PROGRAM, IN A SANDBOX (cutbox-rows.mjs): the forced cells as the released guide's own fill.sh prints them over the translation 6e8dee4b4c0a24c9… (all of the seat's roots in one cut). By AI agents, Wed Nov 11 2026. No macro, syntax, notation, axiom, sorry.
-/
import Derived.Test.YtojjdkoglhecbaaChecked
import GoSem.Claim
import GoSem.ClaimJoined
import GoSem.ClaimMapViews
import Derived.JoinedTies
import Derived.KernelRfl
namespace Go.Proofs.Ytojjdkoglhecbaa
/- THE CELL 'sum', in the pinned program and in every row, IS THE sha256 OF THE DUMP (.gsa) THAT YtojjdkoglhecbaaProg.lean LOADS. Nothing in Lean hashes anything: it is a label: what it is worth is what the hold of that sum in a sandbox is worth. -/
noncomputable def Try.pinned : Pinned := { name := "ytojjdkoglhecbaa", sum := "6e8dee4b4c0a24c98c1b2ea1e8525814ca296102b33f9e8b6247c06d24fa1f2e", checked := Try.checked }
namespace Rows
def none {H : Type} : Left H := { results := [], args := [] }

/-- 'theorbolaw06.HandChecks': WHATEVER THE INPUT: true; the input reads as it did. -/
def handChecksSpec : ChangeSpec := { name := "handChecks", fn := fun _ => fun
  | [d1, d2] => { results := [.lit (.bool true)], args := [d1, d2] }
  | _ => none }
def handChecksRow : OpenClaim := { program := "ytojjdkoglhecbaa", sum := "6e8dee4b4c0a24c98c1b2ea1e8525814ca296102b33f9e8b6247c06d24fa1f2e", func := "theorbo/theorbolaw06.HandChecks", spec := "handChecks", unfollowed := true, recurses := true, apart := false }
def HandChecksSaid : Prop := handChecksRow.holds Try.pinned (OpenSpec.ofChange handChecksSpec)

/-- ITS FALSE NEIGHBOUR: 'it returns false'. Refute it at one input. -/
def handChecksWrong : ChangeSpec := { name := "handChecks", fn := fun _ => fun
  | [d1, d2] => { results := [.lit (.bool false)], args := [d1, d2] }
  | _ => none }
def HandChecksWrongFalsely : Prop := handChecksRow.holds Try.pinned (OpenSpec.ofChange handChecksWrong)

/-- 'theorbolaw06.HandWeights': WHATEVER THE INPUT: true; the input reads as it did. -/
def handWeightsSpec : ChangeSpec := { name := "handWeights", fn := fun _ => fun
  | [d1, d2] => { results := [.lit (.bool true)], args := [d1, d2] }
  | _ => none }
def handWeightsRow : OpenClaim := { program := "ytojjdkoglhecbaa", sum := "6e8dee4b4c0a24c98c1b2ea1e8525814ca296102b33f9e8b6247c06d24fa1f2e", func := "theorbo/theorbolaw06.HandWeights", spec := "handWeights", unfollowed := true, recurses := true, apart := false }
def HandWeightsSaid : Prop := handWeightsRow.holds Try.pinned (OpenSpec.ofChange handWeightsSpec)

/-- ITS FALSE NEIGHBOUR: 'it returns false'. Refute it at one input. -/
def handWeightsWrong : ChangeSpec := { name := "handWeights", fn := fun _ => fun
  | [d1, d2] => { results := [.lit (.bool false)], args := [d1, d2] }
  | _ => none }
def HandWeightsWrongFalsely : Prop := handWeightsRow.holds Try.pinned (OpenSpec.ofChange handWeightsWrong)

/-- 'theorbolaw06.HandCut': WHATEVER THE INPUT: true; the input reads as it did. -/
def handCutSpec : ChangeSpec := { name := "handCut", fn := fun _ => fun
  | [d1, d2] => { results := [.lit (.bool true)], args := [d1, d2] }
  | _ => none }
def handCutRow : OpenClaim := { program := "ytojjdkoglhecbaa", sum := "6e8dee4b4c0a24c98c1b2ea1e8525814ca296102b33f9e8b6247c06d24fa1f2e", func := "theorbo/theorbolaw06.HandCut", spec := "handCut", unfollowed := true, recurses := true, apart := false }
def HandCutSaid : Prop := handCutRow.holds Try.pinned (OpenSpec.ofChange handCutSpec)

/-- ITS FALSE NEIGHBOUR: 'it returns false'. Refute it at one input. -/
def handCutWrong : ChangeSpec := { name := "handCut", fn := fun _ => fun
  | [d1, d2] => { results := [.lit (.bool false)], args := [d1, d2] }
  | _ => none }
def HandCutWrongFalsely : Prop := handCutRow.holds Try.pinned (OpenSpec.ofChange handCutWrong)

/-- 'theorbolaw06.HandGrips': WHATEVER THE INPUT: true; the input reads as it did. -/
def handGripsSpec : ChangeSpec := { name := "handGrips", fn := fun _ => fun
  | [d1, d2] => { results := [.lit (.bool true)], args := [d1, d2] }
  | _ => none }
def handGripsRow : OpenClaim := { program := "ytojjdkoglhecbaa", sum := "6e8dee4b4c0a24c98c1b2ea1e8525814ca296102b33f9e8b6247c06d24fa1f2e", func := "theorbo/theorbolaw06.HandGrips", spec := "handGrips", unfollowed := true, recurses := true, apart := false }
def HandGripsSaid : Prop := handGripsRow.holds Try.pinned (OpenSpec.ofChange handGripsSpec)

/-- ITS FALSE NEIGHBOUR: 'it returns false'. Refute it at one input. -/
def handGripsWrong : ChangeSpec := { name := "handGrips", fn := fun _ => fun
  | [d1, d2] => { results := [.lit (.bool false)], args := [d1, d2] }
  | _ => none }
def HandGripsWrongFalsely : Prop := handGripsRow.holds Try.pinned (OpenSpec.ofChange handGripsWrong)

/-- 'theorbolaw06.HandGripsFit': WHATEVER THE INPUT: true; the input reads as it did. -/
def handGripsFitSpec : ChangeSpec := { name := "handGripsFit", fn := fun _ => fun
  | [d1, d2, d3] => { results := [.lit (.bool true)], args := [d1, d2, d3] }
  | _ => none }
def handGripsFitRow : OpenClaim := { program := "ytojjdkoglhecbaa", sum := "6e8dee4b4c0a24c98c1b2ea1e8525814ca296102b33f9e8b6247c06d24fa1f2e", func := "theorbo/theorbolaw06.HandGripsFit", spec := "handGripsFit", unfollowed := true, recurses := true, apart := false }
def HandGripsFitSaid : Prop := handGripsFitRow.holds Try.pinned (OpenSpec.ofChange handGripsFitSpec)

/-- ITS FALSE NEIGHBOUR: 'it returns false'. Refute it at one input. -/
def handGripsFitWrong : ChangeSpec := { name := "handGripsFit", fn := fun _ => fun
  | [d1, d2, d3] => { results := [.lit (.bool false)], args := [d1, d2, d3] }
  | _ => none }
def HandGripsFitWrongFalsely : Prop := handGripsFitRow.holds Try.pinned (OpenSpec.ofChange handGripsFitWrong)

/-- 'theorbolaw06.HandLists': WHATEVER THE INPUT: true; the input reads as it did. -/
def handListsSpec : ChangeSpec := { name := "handLists", fn := fun _ => fun
  | [d1, d2] => { results := [.lit (.bool true)], args := [d1, d2] }
  | _ => none }
def handListsRow : OpenClaim := { program := "ytojjdkoglhecbaa", sum := "6e8dee4b4c0a24c98c1b2ea1e8525814ca296102b33f9e8b6247c06d24fa1f2e", func := "theorbo/theorbolaw06.HandLists", spec := "handLists", unfollowed := true, recurses := true, apart := false }
def HandListsSaid : Prop := handListsRow.holds Try.pinned (OpenSpec.ofChange handListsSpec)

/-- ITS FALSE NEIGHBOUR: 'it returns false'. Refute it at one input. -/
def handListsWrong : ChangeSpec := { name := "handLists", fn := fun _ => fun
  | [d1, d2] => { results := [.lit (.bool false)], args := [d1, d2] }
  | _ => none }
def HandListsWrongFalsely : Prop := handListsRow.holds Try.pinned (OpenSpec.ofChange handListsWrong)

/-- 'theorbolaw06.HandThrough': WHATEVER THE INPUT: true; the input reads as it did. -/
def handThroughSpec : ChangeSpec := { name := "handThrough", fn := fun _ => fun
  | [d1, d2, d3] => { results := [.lit (.bool true)], args := [d1, d2, d3] }
  | _ => none }
def handThroughRow : OpenClaim := { program := "ytojjdkoglhecbaa", sum := "6e8dee4b4c0a24c98c1b2ea1e8525814ca296102b33f9e8b6247c06d24fa1f2e", func := "theorbo/theorbolaw06.HandThrough", spec := "handThrough", unfollowed := true, recurses := true, apart := false }
def HandThroughSaid : Prop := handThroughRow.holds Try.pinned (OpenSpec.ofChange handThroughSpec)

/-- ITS FALSE NEIGHBOUR: 'it returns false'. Refute it at one input. -/
def handThroughWrong : ChangeSpec := { name := "handThrough", fn := fun _ => fun
  | [d1, d2, d3] => { results := [.lit (.bool false)], args := [d1, d2, d3] }
  | _ => none }
def HandThroughWrongFalsely : Prop := handThroughRow.holds Try.pinned (OpenSpec.ofChange handThroughWrong)

/-- 'theorbolaw06.HandCosts': WHATEVER THE INPUT: true; the input reads as it did. -/
def handCostsSpec : ChangeSpec := { name := "handCosts", fn := fun _ => fun
  | [d1, d2] => { results := [.lit (.bool true)], args := [d1, d2] }
  | _ => none }
def handCostsRow : OpenClaim := { program := "ytojjdkoglhecbaa", sum := "6e8dee4b4c0a24c98c1b2ea1e8525814ca296102b33f9e8b6247c06d24fa1f2e", func := "theorbo/theorbolaw06.HandCosts", spec := "handCosts", unfollowed := true, recurses := true, apart := false }
def HandCostsSaid : Prop := handCostsRow.holds Try.pinned (OpenSpec.ofChange handCostsSpec)

/-- ITS FALSE NEIGHBOUR: 'it returns false'. Refute it at one input. -/
def handCostsWrong : ChangeSpec := { name := "handCosts", fn := fun _ => fun
  | [d1, d2] => { results := [.lit (.bool false)], args := [d1, d2] }
  | _ => none }
def HandCostsWrongFalsely : Prop := handCostsRow.holds Try.pinned (OpenSpec.ofChange handCostsWrong)

/-- 'theorbolaw06.HandProves': WHATEVER THE INPUT: true; the input reads as it did. -/
def handProvesSpec : ChangeSpec := { name := "handProves", fn := fun _ => fun
  | [d1, d2, d3] => { results := [.lit (.bool true)], args := [d1, d2, d3] }
  | _ => none }
def handProvesRow : OpenClaim := { program := "ytojjdkoglhecbaa", sum := "6e8dee4b4c0a24c98c1b2ea1e8525814ca296102b33f9e8b6247c06d24fa1f2e", func := "theorbo/theorbolaw06.HandProves", spec := "handProves", unfollowed := true, recurses := true, apart := false }
def HandProvesSaid : Prop := handProvesRow.holds Try.pinned (OpenSpec.ofChange handProvesSpec)

/-- ITS FALSE NEIGHBOUR: 'it returns false'. Refute it at one input. -/
def handProvesWrong : ChangeSpec := { name := "handProves", fn := fun _ => fun
  | [d1, d2, d3] => { results := [.lit (.bool false)], args := [d1, d2, d3] }
  | _ => none }
def HandProvesWrongFalsely : Prop := handProvesRow.holds Try.pinned (OpenSpec.ofChange handProvesWrong)

/-- 'theorbolaw06.HandCertificate': WHATEVER THE INPUT: true; the input reads as it did. -/
def handCertificateSpec : ChangeSpec := { name := "handCertificate", fn := fun _ => fun
  | [d1, d2, d3] => { results := [.lit (.bool true)], args := [d1, d2, d3] }
  | _ => none }
def handCertificateRow : OpenClaim := { program := "ytojjdkoglhecbaa", sum := "6e8dee4b4c0a24c98c1b2ea1e8525814ca296102b33f9e8b6247c06d24fa1f2e", func := "theorbo/theorbolaw06.HandCertificate", spec := "handCertificate", unfollowed := true, recurses := true, apart := false }
def HandCertificateSaid : Prop := handCertificateRow.holds Try.pinned (OpenSpec.ofChange handCertificateSpec)

/-- ITS FALSE NEIGHBOUR: 'it returns false'. Refute it at one input. -/
def handCertificateWrong : ChangeSpec := { name := "handCertificate", fn := fun _ => fun
  | [d1, d2, d3] => { results := [.lit (.bool false)], args := [d1, d2, d3] }
  | _ => none }
def HandCertificateWrongFalsely : Prop := handCertificateRow.holds Try.pinned (OpenSpec.ofChange handCertificateWrong)

/-- 'theorbolaw06.HandThroughLeast': WHATEVER THE INPUT: true; the input reads as it did. -/
def handThroughLeastSpec : ChangeSpec := { name := "handThroughLeast", fn := fun _ => fun
  | [d1, d2] => { results := [.lit (.bool true)], args := [d1, d2] }
  | _ => none }
def handThroughLeastRow : OpenClaim := { program := "ytojjdkoglhecbaa", sum := "6e8dee4b4c0a24c98c1b2ea1e8525814ca296102b33f9e8b6247c06d24fa1f2e", func := "theorbo/theorbolaw06.HandThroughLeast", spec := "handThroughLeast", unfollowed := true, recurses := true, apart := false }
def HandThroughLeastSaid : Prop := handThroughLeastRow.holds Try.pinned (OpenSpec.ofChange handThroughLeastSpec)

/-- ITS FALSE NEIGHBOUR: 'it returns false'. Refute it at one input. -/
def handThroughLeastWrong : ChangeSpec := { name := "handThroughLeast", fn := fun _ => fun
  | [d1, d2] => { results := [.lit (.bool false)], args := [d1, d2] }
  | _ => none }
def HandThroughLeastWrongFalsely : Prop := handThroughLeastRow.holds Try.pinned (OpenSpec.ofChange handThroughLeastWrong)

/-- 'theorbolaw06.HandCounts': WHATEVER THE INPUT: true; the input reads as it did. -/
def handCountsSpec : ChangeSpec := { name := "handCounts", fn := fun _ => fun
  | [d] => { results := [.lit (.bool true)], args := [d] }
  | _ => none }
def handCountsRow : OpenClaim := { program := "ytojjdkoglhecbaa", sum := "6e8dee4b4c0a24c98c1b2ea1e8525814ca296102b33f9e8b6247c06d24fa1f2e", func := "theorbo/theorbolaw06.HandCounts", spec := "handCounts", unfollowed := true, recurses := true, apart := false }
def HandCountsSaid : Prop := handCountsRow.holds Try.pinned (OpenSpec.ofChange handCountsSpec)

/-- ITS FALSE NEIGHBOUR: 'it returns false'. Refute it at one input. -/
def handCountsWrong : ChangeSpec := { name := "handCounts", fn := fun _ => fun
  | [d] => { results := [.lit (.bool false)], args := [d] }
  | _ => none }
def HandCountsWrongFalsely : Prop := handCountsRow.holds Try.pinned (OpenSpec.ofChange handCountsWrong)

/-- 'theorbolaw06.HandWider': WHATEVER THE INPUT: true; the input reads as it did. -/
def handWiderSpec : ChangeSpec := { name := "handWider", fn := fun _ => fun
  | [d1, d2, d3] => { results := [.lit (.bool true)], args := [d1, d2, d3] }
  | _ => none }
def handWiderRow : OpenClaim := { program := "ytojjdkoglhecbaa", sum := "6e8dee4b4c0a24c98c1b2ea1e8525814ca296102b33f9e8b6247c06d24fa1f2e", func := "theorbo/theorbolaw06.HandWider", spec := "handWider", unfollowed := true, recurses := true, apart := false }
def HandWiderSaid : Prop := handWiderRow.holds Try.pinned (OpenSpec.ofChange handWiderSpec)

/-- ITS FALSE NEIGHBOUR: 'it returns false'. Refute it at one input. -/
def handWiderWrong : ChangeSpec := { name := "handWider", fn := fun _ => fun
  | [d1, d2, d3] => { results := [.lit (.bool false)], args := [d1, d2, d3] }
  | _ => none }
def HandWiderWrongFalsely : Prop := handWiderRow.holds Try.pinned (OpenSpec.ofChange handWiderWrong)

/-- 'theorbolaw06.HandRaised': WHATEVER THE INPUT: true; the input reads as it did. -/
def handRaisedSpec : ChangeSpec := { name := "handRaised", fn := fun _ => fun
  | [d1, d2, d3] => { results := [.lit (.bool true)], args := [d1, d2, d3] }
  | _ => none }
def handRaisedRow : OpenClaim := { program := "ytojjdkoglhecbaa", sum := "6e8dee4b4c0a24c98c1b2ea1e8525814ca296102b33f9e8b6247c06d24fa1f2e", func := "theorbo/theorbolaw06.HandRaised", spec := "handRaised", unfollowed := true, recurses := true, apart := false }
def HandRaisedSaid : Prop := handRaisedRow.holds Try.pinned (OpenSpec.ofChange handRaisedSpec)

/-- ITS FALSE NEIGHBOUR: 'it returns false'. Refute it at one input. -/
def handRaisedWrong : ChangeSpec := { name := "handRaised", fn := fun _ => fun
  | [d1, d2, d3] => { results := [.lit (.bool false)], args := [d1, d2, d3] }
  | _ => none }
def HandRaisedWrongFalsely : Prop := handRaisedRow.holds Try.pinned (OpenSpec.ofChange handRaisedWrong)

/-- 'theorbolaw06.HandValid': WHATEVER THE INPUT: true; the input reads as it did. -/
def handValidSpec : ChangeSpec := { name := "handValid", fn := fun _ => fun
  | [d1, d2] => { results := [.lit (.bool true)], args := [d1, d2] }
  | _ => none }
def handValidRow : OpenClaim := { program := "ytojjdkoglhecbaa", sum := "6e8dee4b4c0a24c98c1b2ea1e8525814ca296102b33f9e8b6247c06d24fa1f2e", func := "theorbo/theorbolaw06.HandValid", spec := "handValid", unfollowed := true, recurses := true, apart := false }
def HandValidSaid : Prop := handValidRow.holds Try.pinned (OpenSpec.ofChange handValidSpec)

/-- ITS FALSE NEIGHBOUR: 'it returns false'. Refute it at one input. -/
def handValidWrong : ChangeSpec := { name := "handValid", fn := fun _ => fun
  | [d1, d2] => { results := [.lit (.bool false)], args := [d1, d2] }
  | _ => none }
def HandValidWrongFalsely : Prop := handValidRow.holds Try.pinned (OpenSpec.ofChange handValidWrong)

/-- 'theorbolaw06.HandBlocks': WHATEVER THE INPUT: true; the input reads as it did. -/
def handBlocksSpec : ChangeSpec := { name := "handBlocks", fn := fun _ => fun
  | [d] => { results := [.lit (.bool true)], args := [d] }
  | _ => none }
def handBlocksRow : OpenClaim := { program := "ytojjdkoglhecbaa", sum := "6e8dee4b4c0a24c98c1b2ea1e8525814ca296102b33f9e8b6247c06d24fa1f2e", func := "theorbo/theorbolaw06.HandBlocks", spec := "handBlocks", unfollowed := true, recurses := true, apart := false }
def HandBlocksSaid : Prop := handBlocksRow.holds Try.pinned (OpenSpec.ofChange handBlocksSpec)

/-- ITS FALSE NEIGHBOUR: 'it returns false'. Refute it at one input. -/
def handBlocksWrong : ChangeSpec := { name := "handBlocks", fn := fun _ => fun
  | [d] => { results := [.lit (.bool false)], args := [d] }
  | _ => none }
def HandBlocksWrongFalsely : Prop := handBlocksRow.holds Try.pinned (OpenSpec.ofChange handBlocksWrong)

/-- 'theorbolaw06.HandBlocked': WHATEVER THE INPUT: true; the input reads as it did. -/
def handBlockedSpec : ChangeSpec := { name := "handBlocked", fn := fun _ => fun
  | [d] => { results := [.lit (.bool true)], args := [d] }
  | _ => none }
def handBlockedRow : OpenClaim := { program := "ytojjdkoglhecbaa", sum := "6e8dee4b4c0a24c98c1b2ea1e8525814ca296102b33f9e8b6247c06d24fa1f2e", func := "theorbo/theorbolaw06.HandBlocked", spec := "handBlocked", unfollowed := true, recurses := true, apart := false }
def HandBlockedSaid : Prop := handBlockedRow.holds Try.pinned (OpenSpec.ofChange handBlockedSpec)

/-- ITS FALSE NEIGHBOUR: 'it returns false'. Refute it at one input. -/
def handBlockedWrong : ChangeSpec := { name := "handBlocked", fn := fun _ => fun
  | [d] => { results := [.lit (.bool false)], args := [d] }
  | _ => none }
def HandBlockedWrongFalsely : Prop := handBlockedRow.holds Try.pinned (OpenSpec.ofChange handBlockedWrong)

/-- 'theorbolaw06.HandListed': WHATEVER THE INPUT: true; the input reads as it did. -/
def handListedSpec : ChangeSpec := { name := "handListed", fn := fun _ => fun
  | [d1, d2, d3] => { results := [.lit (.bool true)], args := [d1, d2, d3] }
  | _ => none }
def handListedRow : OpenClaim := { program := "ytojjdkoglhecbaa", sum := "6e8dee4b4c0a24c98c1b2ea1e8525814ca296102b33f9e8b6247c06d24fa1f2e", func := "theorbo/theorbolaw06.HandListed", spec := "handListed", unfollowed := true, recurses := true, apart := false }
def HandListedSaid : Prop := handListedRow.holds Try.pinned (OpenSpec.ofChange handListedSpec)

/-- ITS FALSE NEIGHBOUR: 'it returns false'. Refute it at one input. -/
def handListedWrong : ChangeSpec := { name := "handListed", fn := fun _ => fun
  | [d1, d2, d3] => { results := [.lit (.bool false)], args := [d1, d2, d3] }
  | _ => none }
def HandListedWrongFalsely : Prop := handListedRow.holds Try.pinned (OpenSpec.ofChange handListedWrong)

/- THE SECOND FORM. 'bulk': how many values and letters a reading holds, each counted each time it is reached (what is shared counts as often as it is met; a slice's spare places count too). A statement '..UptoSaid' is the law's where the arguments, and the package variables that the reading takes, are together of bulk at most 1048576: NARROWER than '..Said'. Prove '..Said' where nothing that the law and all that it calls make is longer than what came in: it says more and counts as full. Else prove '..UptoSaid'. A law counts once. -/
mutual
def uptoBulk {H : Type} : DataW H → Nat
  | .lit (.string bytes) => bytes.length + 1
  | .lit _ => 1
  | .nil => 1
  | .ptr d => uptoBulk d + 1
  | .slice elems spare => uptoBulkAll elems + uptoBulkAll spare + 1
  | .agg parts => uptoBulkAll parts + 1
  | .iface _ d => uptoBulk d + 1
  | .map entries => uptoBulkEntries entries + 1
  | .held _ => 1
def uptoBulkAll {H : Type} : List (DataW H) → Nat
  | [] => 0
  | d :: r => uptoBulk d + uptoBulkAll r
def uptoBulkEntries {H : Type} : List (Lit × DataW H) → Nat
  | [] => 0
  | x :: r => uptoBulkEntry x + uptoBulkEntries r
def uptoBulkEntry {H : Type} : Lit × DataW H → Nat
  | (.string bytes, d) => bytes.length + uptoBulk d + 1
  | (_, d) => uptoBulk d + 1
 end
def uptoSmall : (H : Type) → List (DataW H) → Bool := fun _ ds => decide (uptoBulkAll ds ≤ 1048576)
def OpenSpec.upto (s : _root_.Go.ChangeSpec) : _root_.Go.OpenSpec := { _root_.Go.OpenSpec.ofChange s with cond := some uptoSmall }

/-- 'theorbolaw06.HandChecks', WHERE WHAT IT READS IS OF BULK AT MOST 1048576: true; the input reads as it did. -/
def handChecksUptoRow : OpenClaim := { program := "ytojjdkoglhecbaa", sum := "6e8dee4b4c0a24c98c1b2ea1e8525814ca296102b33f9e8b6247c06d24fa1f2e", func := "theorbo/theorbolaw06.HandChecks", spec := "handChecks", unfollowed := true, recurses := true, apart := false, narrowed := true }
def HandChecksUptoSaid : Prop := handChecksUptoRow.holds Try.pinned (OpenSpec.upto handChecksSpec)

/-- 'theorbolaw06.HandWeights', WHERE WHAT IT READS IS OF BULK AT MOST 1048576: true; the input reads as it did. -/
def handWeightsUptoRow : OpenClaim := { program := "ytojjdkoglhecbaa", sum := "6e8dee4b4c0a24c98c1b2ea1e8525814ca296102b33f9e8b6247c06d24fa1f2e", func := "theorbo/theorbolaw06.HandWeights", spec := "handWeights", unfollowed := true, recurses := true, apart := false, narrowed := true }
def HandWeightsUptoSaid : Prop := handWeightsUptoRow.holds Try.pinned (OpenSpec.upto handWeightsSpec)

/-- 'theorbolaw06.HandCut', WHERE WHAT IT READS IS OF BULK AT MOST 1048576: true; the input reads as it did. -/
def handCutUptoRow : OpenClaim := { program := "ytojjdkoglhecbaa", sum := "6e8dee4b4c0a24c98c1b2ea1e8525814ca296102b33f9e8b6247c06d24fa1f2e", func := "theorbo/theorbolaw06.HandCut", spec := "handCut", unfollowed := true, recurses := true, apart := false, narrowed := true }
def HandCutUptoSaid : Prop := handCutUptoRow.holds Try.pinned (OpenSpec.upto handCutSpec)

/-- 'theorbolaw06.HandGrips', WHERE WHAT IT READS IS OF BULK AT MOST 1048576: true; the input reads as it did. -/
def handGripsUptoRow : OpenClaim := { program := "ytojjdkoglhecbaa", sum := "6e8dee4b4c0a24c98c1b2ea1e8525814ca296102b33f9e8b6247c06d24fa1f2e", func := "theorbo/theorbolaw06.HandGrips", spec := "handGrips", unfollowed := true, recurses := true, apart := false, narrowed := true }
def HandGripsUptoSaid : Prop := handGripsUptoRow.holds Try.pinned (OpenSpec.upto handGripsSpec)

/-- 'theorbolaw06.HandGripsFit', WHERE WHAT IT READS IS OF BULK AT MOST 1048576: true; the input reads as it did. -/
def handGripsFitUptoRow : OpenClaim := { program := "ytojjdkoglhecbaa", sum := "6e8dee4b4c0a24c98c1b2ea1e8525814ca296102b33f9e8b6247c06d24fa1f2e", func := "theorbo/theorbolaw06.HandGripsFit", spec := "handGripsFit", unfollowed := true, recurses := true, apart := false, narrowed := true }
def HandGripsFitUptoSaid : Prop := handGripsFitUptoRow.holds Try.pinned (OpenSpec.upto handGripsFitSpec)

/-- 'theorbolaw06.HandLists', WHERE WHAT IT READS IS OF BULK AT MOST 1048576: true; the input reads as it did. -/
def handListsUptoRow : OpenClaim := { program := "ytojjdkoglhecbaa", sum := "6e8dee4b4c0a24c98c1b2ea1e8525814ca296102b33f9e8b6247c06d24fa1f2e", func := "theorbo/theorbolaw06.HandLists", spec := "handLists", unfollowed := true, recurses := true, apart := false, narrowed := true }
def HandListsUptoSaid : Prop := handListsUptoRow.holds Try.pinned (OpenSpec.upto handListsSpec)

/-- 'theorbolaw06.HandThrough', WHERE WHAT IT READS IS OF BULK AT MOST 1048576: true; the input reads as it did. -/
def handThroughUptoRow : OpenClaim := { program := "ytojjdkoglhecbaa", sum := "6e8dee4b4c0a24c98c1b2ea1e8525814ca296102b33f9e8b6247c06d24fa1f2e", func := "theorbo/theorbolaw06.HandThrough", spec := "handThrough", unfollowed := true, recurses := true, apart := false, narrowed := true }
def HandThroughUptoSaid : Prop := handThroughUptoRow.holds Try.pinned (OpenSpec.upto handThroughSpec)

/-- 'theorbolaw06.HandCosts', WHERE WHAT IT READS IS OF BULK AT MOST 1048576: true; the input reads as it did. -/
def handCostsUptoRow : OpenClaim := { program := "ytojjdkoglhecbaa", sum := "6e8dee4b4c0a24c98c1b2ea1e8525814ca296102b33f9e8b6247c06d24fa1f2e", func := "theorbo/theorbolaw06.HandCosts", spec := "handCosts", unfollowed := true, recurses := true, apart := false, narrowed := true }
def HandCostsUptoSaid : Prop := handCostsUptoRow.holds Try.pinned (OpenSpec.upto handCostsSpec)

/-- 'theorbolaw06.HandProves', WHERE WHAT IT READS IS OF BULK AT MOST 1048576: true; the input reads as it did. -/
def handProvesUptoRow : OpenClaim := { program := "ytojjdkoglhecbaa", sum := "6e8dee4b4c0a24c98c1b2ea1e8525814ca296102b33f9e8b6247c06d24fa1f2e", func := "theorbo/theorbolaw06.HandProves", spec := "handProves", unfollowed := true, recurses := true, apart := false, narrowed := true }
def HandProvesUptoSaid : Prop := handProvesUptoRow.holds Try.pinned (OpenSpec.upto handProvesSpec)

/-- 'theorbolaw06.HandCertificate', WHERE WHAT IT READS IS OF BULK AT MOST 1048576: true; the input reads as it did. -/
def handCertificateUptoRow : OpenClaim := { program := "ytojjdkoglhecbaa", sum := "6e8dee4b4c0a24c98c1b2ea1e8525814ca296102b33f9e8b6247c06d24fa1f2e", func := "theorbo/theorbolaw06.HandCertificate", spec := "handCertificate", unfollowed := true, recurses := true, apart := false, narrowed := true }
def HandCertificateUptoSaid : Prop := handCertificateUptoRow.holds Try.pinned (OpenSpec.upto handCertificateSpec)

/-- 'theorbolaw06.HandThroughLeast', WHERE WHAT IT READS IS OF BULK AT MOST 1048576: true; the input reads as it did. -/
def handThroughLeastUptoRow : OpenClaim := { program := "ytojjdkoglhecbaa", sum := "6e8dee4b4c0a24c98c1b2ea1e8525814ca296102b33f9e8b6247c06d24fa1f2e", func := "theorbo/theorbolaw06.HandThroughLeast", spec := "handThroughLeast", unfollowed := true, recurses := true, apart := false, narrowed := true }
def HandThroughLeastUptoSaid : Prop := handThroughLeastUptoRow.holds Try.pinned (OpenSpec.upto handThroughLeastSpec)

/-- 'theorbolaw06.HandCounts', WHERE WHAT IT READS IS OF BULK AT MOST 1048576: true; the input reads as it did. -/
def handCountsUptoRow : OpenClaim := { program := "ytojjdkoglhecbaa", sum := "6e8dee4b4c0a24c98c1b2ea1e8525814ca296102b33f9e8b6247c06d24fa1f2e", func := "theorbo/theorbolaw06.HandCounts", spec := "handCounts", unfollowed := true, recurses := true, apart := false, narrowed := true }
def HandCountsUptoSaid : Prop := handCountsUptoRow.holds Try.pinned (OpenSpec.upto handCountsSpec)

/-- 'theorbolaw06.HandWider', WHERE WHAT IT READS IS OF BULK AT MOST 1048576: true; the input reads as it did. -/
def handWiderUptoRow : OpenClaim := { program := "ytojjdkoglhecbaa", sum := "6e8dee4b4c0a24c98c1b2ea1e8525814ca296102b33f9e8b6247c06d24fa1f2e", func := "theorbo/theorbolaw06.HandWider", spec := "handWider", unfollowed := true, recurses := true, apart := false, narrowed := true }
def HandWiderUptoSaid : Prop := handWiderUptoRow.holds Try.pinned (OpenSpec.upto handWiderSpec)

/-- 'theorbolaw06.HandRaised', WHERE WHAT IT READS IS OF BULK AT MOST 1048576: true; the input reads as it did. -/
def handRaisedUptoRow : OpenClaim := { program := "ytojjdkoglhecbaa", sum := "6e8dee4b4c0a24c98c1b2ea1e8525814ca296102b33f9e8b6247c06d24fa1f2e", func := "theorbo/theorbolaw06.HandRaised", spec := "handRaised", unfollowed := true, recurses := true, apart := false, narrowed := true }
def HandRaisedUptoSaid : Prop := handRaisedUptoRow.holds Try.pinned (OpenSpec.upto handRaisedSpec)

/-- 'theorbolaw06.HandValid', WHERE WHAT IT READS IS OF BULK AT MOST 1048576: true; the input reads as it did. -/
def handValidUptoRow : OpenClaim := { program := "ytojjdkoglhecbaa", sum := "6e8dee4b4c0a24c98c1b2ea1e8525814ca296102b33f9e8b6247c06d24fa1f2e", func := "theorbo/theorbolaw06.HandValid", spec := "handValid", unfollowed := true, recurses := true, apart := false, narrowed := true }
def HandValidUptoSaid : Prop := handValidUptoRow.holds Try.pinned (OpenSpec.upto handValidSpec)

/-- 'theorbolaw06.HandBlocks', WHERE WHAT IT READS IS OF BULK AT MOST 1048576: true; the input reads as it did. -/
def handBlocksUptoRow : OpenClaim := { program := "ytojjdkoglhecbaa", sum := "6e8dee4b4c0a24c98c1b2ea1e8525814ca296102b33f9e8b6247c06d24fa1f2e", func := "theorbo/theorbolaw06.HandBlocks", spec := "handBlocks", unfollowed := true, recurses := true, apart := false, narrowed := true }
def HandBlocksUptoSaid : Prop := handBlocksUptoRow.holds Try.pinned (OpenSpec.upto handBlocksSpec)

/-- 'theorbolaw06.HandBlocked', WHERE WHAT IT READS IS OF BULK AT MOST 1048576: true; the input reads as it did. -/
def handBlockedUptoRow : OpenClaim := { program := "ytojjdkoglhecbaa", sum := "6e8dee4b4c0a24c98c1b2ea1e8525814ca296102b33f9e8b6247c06d24fa1f2e", func := "theorbo/theorbolaw06.HandBlocked", spec := "handBlocked", unfollowed := true, recurses := true, apart := false, narrowed := true }
def HandBlockedUptoSaid : Prop := handBlockedUptoRow.holds Try.pinned (OpenSpec.upto handBlockedSpec)

/-- 'theorbolaw06.HandListed', WHERE WHAT IT READS IS OF BULK AT MOST 1048576: true; the input reads as it did. -/
def handListedUptoRow : OpenClaim := { program := "ytojjdkoglhecbaa", sum := "6e8dee4b4c0a24c98c1b2ea1e8525814ca296102b33f9e8b6247c06d24fa1f2e", func := "theorbo/theorbolaw06.HandListed", spec := "handListed", unfollowed := true, recurses := true, apart := false, narrowed := true }
def HandListedUptoSaid : Prop := handListedUptoRow.holds Try.pinned (OpenSpec.upto handListedSpec)

end Rows
end Go.Proofs.Ytojjdkoglhecbaa
