/-
  No cell of these rows narrows 'for every input' (looked for: loops, veiled, ifaces, maps, wideKeys, modest, calm, conditions, laid).
  DERIVED. THE GIVEN ROWS OF THIS SEAT. 15 by the template 'for every input the law returns true; each argument reads behind the call as it read before'; 0 by the template 'total and deterministic' (their statements: YtdefefeifcdogaaGreatTotals.lean).
  GIVEN WITH THE SEED: the statements are not yours to turn. If you find one false, say at which input.
  Laid BY PROGRAM, IN A SANDBOX (cutbox-rows.mjs): the forced cells as the released guide's own fill.sh prints them over the translation 9ba6022aaf9105ef… (all of the seat's roots in one cut). By AI agents, Wed Nov 11 2026. No macro, syntax, notation, axiom, sorry.
-/
import Derived.Test.YtdefefeifcdogaaGreatChecked
import GoSem.Claim
import GoSem.ClaimJoined
import GoSem.ClaimMapViews
import Derived.JoinedTies
import Derived.KernelRfl
namespace Go.Proofs.YtdefefeifcdogaaGreat
/- THE CELL 'sum', in the pinned program and in every row, IS THE sha256 OF THE DUMP (.gsa) THAT YtdefefeifcdogaaGreatProg.lean LOADS. Nothing in Lean hashes anything: it is a label: what it is worth is what the hold of that sum in a sandbox is worth. -/
noncomputable def Tryz.pinned : Pinned := { name := "ytdefefeifcdogaagreat", sum := "9ba6022aaf9105efffbd0f922d319ab76b4b8f009a98cdfc83f2f72bcdc0d86f", checked := Tryz.checked }
namespace Rows
def none {H : Type} : Left H := { results := [], args := [] }

/-- 'theorbolaw10.LeafNarrows': WHATEVER THE INPUT: true; the input reads as it did. -/
def leafNarrowsSpec : ChangeSpec := { name := "leafNarrows", fn := fun _ => fun
  | [d] => { results := [.lit (.bool true)], args := [d] }
  | _ => none }
def leafNarrowsRow : OpenClaim := { program := "ytdefefeifcdogaagreat", sum := "9ba6022aaf9105efffbd0f922d319ab76b4b8f009a98cdfc83f2f72bcdc0d86f", func := "theorbo/theorbolaw10.LeafNarrows", spec := "leafNarrows", unfollowed := true, recurses := true, plainKeys := false, apart := false }
def LeafNarrowsSaid : Prop := leafNarrowsRow.holds Tryz.pinned (OpenSpec.ofChange leafNarrowsSpec)

/-- ITS FALSE NEIGHBOUR: 'it returns false'. Refute it at one input. -/
def leafNarrowsWrong : ChangeSpec := { name := "leafNarrows", fn := fun _ => fun
  | [d] => { results := [.lit (.bool false)], args := [d] }
  | _ => none }
def LeafNarrowsWrongFalsely : Prop := leafNarrowsRow.holds Tryz.pinned (OpenSpec.ofChange leafNarrowsWrong)

/-- 'theorbolaw10.LeafCounts': WHATEVER THE INPUT: true; the input reads as it did. -/
def leafCountsSpec : ChangeSpec := { name := "leafCounts", fn := fun _ => fun
  | [d] => { results := [.lit (.bool true)], args := [d] }
  | _ => none }
def leafCountsRow : OpenClaim := { program := "ytdefefeifcdogaagreat", sum := "9ba6022aaf9105efffbd0f922d319ab76b4b8f009a98cdfc83f2f72bcdc0d86f", func := "theorbo/theorbolaw10.LeafCounts", spec := "leafCounts", unfollowed := true, recurses := true, plainKeys := false, apart := false }
def LeafCountsSaid : Prop := leafCountsRow.holds Tryz.pinned (OpenSpec.ofChange leafCountsSpec)

/-- ITS FALSE NEIGHBOUR: 'it returns false'. Refute it at one input. -/
def leafCountsWrong : ChangeSpec := { name := "leafCounts", fn := fun _ => fun
  | [d] => { results := [.lit (.bool false)], args := [d] }
  | _ => none }
def LeafCountsWrongFalsely : Prop := leafCountsRow.holds Tryz.pinned (OpenSpec.ofChange leafCountsWrong)

/-- 'theorbolaw10.LeafChecks': WHATEVER THE INPUT: true; the input reads as it did. -/
def leafChecksSpec : ChangeSpec := { name := "leafChecks", fn := fun _ => fun
  | [d] => { results := [.lit (.bool true)], args := [d] }
  | _ => none }
def leafChecksRow : OpenClaim := { program := "ytdefefeifcdogaagreat", sum := "9ba6022aaf9105efffbd0f922d319ab76b4b8f009a98cdfc83f2f72bcdc0d86f", func := "theorbo/theorbolaw10.LeafChecks", spec := "leafChecks", unfollowed := true, recurses := true, plainKeys := false, apart := false }
def LeafChecksSaid : Prop := leafChecksRow.holds Tryz.pinned (OpenSpec.ofChange leafChecksSpec)

/-- ITS FALSE NEIGHBOUR: 'it returns false'. Refute it at one input. -/
def leafChecksWrong : ChangeSpec := { name := "leafChecks", fn := fun _ => fun
  | [d] => { results := [.lit (.bool false)], args := [d] }
  | _ => none }
def LeafChecksWrongFalsely : Prop := leafChecksRow.holds Tryz.pinned (OpenSpec.ofChange leafChecksWrong)

/-- 'theorbolaw10.LeafLists': WHATEVER THE INPUT: true; the input reads as it did. -/
def leafListsSpec : ChangeSpec := { name := "leafLists", fn := fun _ => fun
  | [d1, d2] => { results := [.lit (.bool true)], args := [d1, d2] }
  | _ => none }
def leafListsRow : OpenClaim := { program := "ytdefefeifcdogaagreat", sum := "9ba6022aaf9105efffbd0f922d319ab76b4b8f009a98cdfc83f2f72bcdc0d86f", func := "theorbo/theorbolaw10.LeafLists", spec := "leafLists", unfollowed := true, recurses := true, plainKeys := false, apart := false }
def LeafListsSaid : Prop := leafListsRow.holds Tryz.pinned (OpenSpec.ofChange leafListsSpec)

/-- ITS FALSE NEIGHBOUR: 'it returns false'. Refute it at one input. -/
def leafListsWrong : ChangeSpec := { name := "leafLists", fn := fun _ => fun
  | [d1, d2] => { results := [.lit (.bool false)], args := [d1, d2] }
  | _ => none }
def LeafListsWrongFalsely : Prop := leafListsRow.holds Tryz.pinned (OpenSpec.ofChange leafListsWrong)

/-- 'theorbolaw10.LeafNarrowed': WHATEVER THE INPUT: true; the input reads as it did. -/
def leafNarrowedSpec : ChangeSpec := { name := "leafNarrowed", fn := fun _ => fun
  | [d1, d2] => { results := [.lit (.bool true)], args := [d1, d2] }
  | _ => none }
def leafNarrowedRow : OpenClaim := { program := "ytdefefeifcdogaagreat", sum := "9ba6022aaf9105efffbd0f922d319ab76b4b8f009a98cdfc83f2f72bcdc0d86f", func := "theorbo/theorbolaw10.LeafNarrowed", spec := "leafNarrowed", unfollowed := true, recurses := true, plainKeys := false, apart := false }
def LeafNarrowedSaid : Prop := leafNarrowedRow.holds Tryz.pinned (OpenSpec.ofChange leafNarrowedSpec)

/-- ITS FALSE NEIGHBOUR: 'it returns false'. Refute it at one input. -/
def leafNarrowedWrong : ChangeSpec := { name := "leafNarrowed", fn := fun _ => fun
  | [d1, d2] => { results := [.lit (.bool false)], args := [d1, d2] }
  | _ => none }
def LeafNarrowedWrongFalsely : Prop := leafNarrowedRow.holds Tryz.pinned (OpenSpec.ofChange leafNarrowedWrong)

/-- 'theorbolaw10.LeafOf': WHATEVER THE INPUT: true; the input reads as it did. -/
def leafOfSpec : ChangeSpec := { name := "leafOf", fn := fun _ => fun
  | [d] => { results := [.lit (.bool true)], args := [d] }
  | _ => none }
def leafOfRow : OpenClaim := { program := "ytdefefeifcdogaagreat", sum := "9ba6022aaf9105efffbd0f922d319ab76b4b8f009a98cdfc83f2f72bcdc0d86f", func := "theorbo/theorbolaw10.LeafOf", spec := "leafOf", unfollowed := true, recurses := true, plainKeys := false, apart := false }
def LeafOfSaid : Prop := leafOfRow.holds Tryz.pinned (OpenSpec.ofChange leafOfSpec)

/-- ITS FALSE NEIGHBOUR: 'it returns false'. Refute it at one input. -/
def leafOfWrong : ChangeSpec := { name := "leafOf", fn := fun _ => fun
  | [d] => { results := [.lit (.bool false)], args := [d] }
  | _ => none }
def LeafOfWrongFalsely : Prop := leafOfRow.holds Tryz.pinned (OpenSpec.ofChange leafOfWrong)

/-- 'theorbolaw10.LeafReads': WHATEVER THE INPUT: true; the input reads as it did. -/
def leafReadsSpec : ChangeSpec := { name := "leafReads", fn := fun _ => fun
  | [d1, d2] => { results := [.lit (.bool true)], args := [d1, d2] }
  | _ => none }
def leafReadsRow : OpenClaim := { program := "ytdefefeifcdogaagreat", sum := "9ba6022aaf9105efffbd0f922d319ab76b4b8f009a98cdfc83f2f72bcdc0d86f", func := "theorbo/theorbolaw10.LeafReads", spec := "leafReads", unfollowed := true, recurses := true, plainKeys := false, apart := false }
def LeafReadsSaid : Prop := leafReadsRow.holds Tryz.pinned (OpenSpec.ofChange leafReadsSpec)

/-- ITS FALSE NEIGHBOUR: 'it returns false'. Refute it at one input. -/
def leafReadsWrong : ChangeSpec := { name := "leafReads", fn := fun _ => fun
  | [d1, d2] => { results := [.lit (.bool false)], args := [d1, d2] }
  | _ => none }
def LeafReadsWrongFalsely : Prop := leafReadsRow.holds Tryz.pinned (OpenSpec.ofChange leafReadsWrong)

/-- 'theorbolaw10.LeafNears': WHATEVER THE INPUT: true; the input reads as it did. -/
def leafNearsSpec : ChangeSpec := { name := "leafNears", fn := fun _ => fun
  | [d1, d2] => { results := [.lit (.bool true)], args := [d1, d2] }
  | _ => none }
def leafNearsRow : OpenClaim := { program := "ytdefefeifcdogaagreat", sum := "9ba6022aaf9105efffbd0f922d319ab76b4b8f009a98cdfc83f2f72bcdc0d86f", func := "theorbo/theorbolaw10.LeafNears", spec := "leafNears", unfollowed := true, recurses := true, plainKeys := false, apart := false }
def LeafNearsSaid : Prop := leafNearsRow.holds Tryz.pinned (OpenSpec.ofChange leafNearsSpec)

/-- ITS FALSE NEIGHBOUR: 'it returns false'. Refute it at one input. -/
def leafNearsWrong : ChangeSpec := { name := "leafNears", fn := fun _ => fun
  | [d1, d2] => { results := [.lit (.bool false)], args := [d1, d2] }
  | _ => none }
def LeafNearsWrongFalsely : Prop := leafNearsRow.holds Tryz.pinned (OpenSpec.ofChange leafNearsWrong)

/-- 'theorbolaw10.LeafOnly': WHATEVER THE INPUT: true; the input reads as it did. -/
def leafOnlySpec : ChangeSpec := { name := "leafOnly", fn := fun _ => fun
  | [d1, d2] => { results := [.lit (.bool true)], args := [d1, d2] }
  | _ => none }
def leafOnlyRow : OpenClaim := { program := "ytdefefeifcdogaagreat", sum := "9ba6022aaf9105efffbd0f922d319ab76b4b8f009a98cdfc83f2f72bcdc0d86f", func := "theorbo/theorbolaw10.LeafOnly", spec := "leafOnly", unfollowed := true, recurses := true, plainKeys := false, apart := false }
def LeafOnlySaid : Prop := leafOnlyRow.holds Tryz.pinned (OpenSpec.ofChange leafOnlySpec)

/-- ITS FALSE NEIGHBOUR: 'it returns false'. Refute it at one input. -/
def leafOnlyWrong : ChangeSpec := { name := "leafOnly", fn := fun _ => fun
  | [d1, d2] => { results := [.lit (.bool false)], args := [d1, d2] }
  | _ => none }
def LeafOnlyWrongFalsely : Prop := leafOnlyRow.holds Tryz.pinned (OpenSpec.ofChange leafOnlyWrong)

/-- 'theorbolaw10.LeafMeets': WHATEVER THE INPUT: true; the input reads as it did. -/
def leafMeetsSpec : ChangeSpec := { name := "leafMeets", fn := fun _ => fun
  | [d1, d2] => { results := [.lit (.bool true)], args := [d1, d2] }
  | _ => none }
def leafMeetsRow : OpenClaim := { program := "ytdefefeifcdogaagreat", sum := "9ba6022aaf9105efffbd0f922d319ab76b4b8f009a98cdfc83f2f72bcdc0d86f", func := "theorbo/theorbolaw10.LeafMeets", spec := "leafMeets", unfollowed := true, recurses := true, plainKeys := false, apart := false }
def LeafMeetsSaid : Prop := leafMeetsRow.holds Tryz.pinned (OpenSpec.ofChange leafMeetsSpec)

/-- ITS FALSE NEIGHBOUR: 'it returns false'. Refute it at one input. -/
def leafMeetsWrong : ChangeSpec := { name := "leafMeets", fn := fun _ => fun
  | [d1, d2] => { results := [.lit (.bool false)], args := [d1, d2] }
  | _ => none }
def LeafMeetsWrongFalsely : Prop := leafMeetsRow.holds Tryz.pinned (OpenSpec.ofChange leafMeetsWrong)

/-- 'theorbolaw10.LeafAllows': WHATEVER THE INPUT: true; the input reads as it did. -/
def leafAllowsSpec : ChangeSpec := { name := "leafAllows", fn := fun _ => fun
  | [d1, d2] => { results := [.lit (.bool true)], args := [d1, d2] }
  | _ => none }
def leafAllowsRow : OpenClaim := { program := "ytdefefeifcdogaagreat", sum := "9ba6022aaf9105efffbd0f922d319ab76b4b8f009a98cdfc83f2f72bcdc0d86f", func := "theorbo/theorbolaw10.LeafAllows", spec := "leafAllows", unfollowed := true, recurses := true, plainKeys := false, apart := false }
def LeafAllowsSaid : Prop := leafAllowsRow.holds Tryz.pinned (OpenSpec.ofChange leafAllowsSpec)

/-- ITS FALSE NEIGHBOUR: 'it returns false'. Refute it at one input. -/
def leafAllowsWrong : ChangeSpec := { name := "leafAllows", fn := fun _ => fun
  | [d1, d2] => { results := [.lit (.bool false)], args := [d1, d2] }
  | _ => none }
def LeafAllowsWrongFalsely : Prop := leafAllowsRow.holds Tryz.pinned (OpenSpec.ofChange leafAllowsWrong)

/-- 'theorbolaw10.LeafLooser': WHATEVER THE INPUT: true; the input reads as it did. -/
def leafLooserSpec : ChangeSpec := { name := "leafLooser", fn := fun _ => fun
  | [d1, d2, d3] => { results := [.lit (.bool true)], args := [d1, d2, d3] }
  | _ => none }
def leafLooserRow : OpenClaim := { program := "ytdefefeifcdogaagreat", sum := "9ba6022aaf9105efffbd0f922d319ab76b4b8f009a98cdfc83f2f72bcdc0d86f", func := "theorbo/theorbolaw10.LeafLooser", spec := "leafLooser", unfollowed := true, recurses := true, plainKeys := false, apart := false }
def LeafLooserSaid : Prop := leafLooserRow.holds Tryz.pinned (OpenSpec.ofChange leafLooserSpec)

/-- ITS FALSE NEIGHBOUR: 'it returns false'. Refute it at one input. -/
def leafLooserWrong : ChangeSpec := { name := "leafLooser", fn := fun _ => fun
  | [d1, d2, d3] => { results := [.lit (.bool false)], args := [d1, d2, d3] }
  | _ => none }
def LeafLooserWrongFalsely : Prop := leafLooserRow.holds Tryz.pinned (OpenSpec.ofChange leafLooserWrong)

/-- 'theorbolaw10.LeafBoth': WHATEVER THE INPUT: true; the input reads as it did. -/
def leafBothSpec : ChangeSpec := { name := "leafBoth", fn := fun _ => fun
  | [d1, d2, d3] => { results := [.lit (.bool true)], args := [d1, d2, d3] }
  | _ => none }
def leafBothRow : OpenClaim := { program := "ytdefefeifcdogaagreat", sum := "9ba6022aaf9105efffbd0f922d319ab76b4b8f009a98cdfc83f2f72bcdc0d86f", func := "theorbo/theorbolaw10.LeafBoth", spec := "leafBoth", unfollowed := true, recurses := true, plainKeys := false, apart := false }
def LeafBothSaid : Prop := leafBothRow.holds Tryz.pinned (OpenSpec.ofChange leafBothSpec)

/-- ITS FALSE NEIGHBOUR: 'it returns false'. Refute it at one input. -/
def leafBothWrong : ChangeSpec := { name := "leafBoth", fn := fun _ => fun
  | [d1, d2, d3] => { results := [.lit (.bool false)], args := [d1, d2, d3] }
  | _ => none }
def LeafBothWrongFalsely : Prop := leafBothRow.holds Tryz.pinned (OpenSpec.ofChange leafBothWrong)

/-- 'theorbolaw10.LeafListed': WHATEVER THE INPUT: true; the input reads as it did. -/
def leafListedSpec : ChangeSpec := { name := "leafListed", fn := fun _ => fun
  | [d1, d2, d3] => { results := [.lit (.bool true)], args := [d1, d2, d3] }
  | _ => none }
def leafListedRow : OpenClaim := { program := "ytdefefeifcdogaagreat", sum := "9ba6022aaf9105efffbd0f922d319ab76b4b8f009a98cdfc83f2f72bcdc0d86f", func := "theorbo/theorbolaw10.LeafListed", spec := "leafListed", unfollowed := true, recurses := true, plainKeys := false, apart := false }
def LeafListedSaid : Prop := leafListedRow.holds Tryz.pinned (OpenSpec.ofChange leafListedSpec)

/-- ITS FALSE NEIGHBOUR: 'it returns false'. Refute it at one input. -/
def leafListedWrong : ChangeSpec := { name := "leafListed", fn := fun _ => fun
  | [d1, d2, d3] => { results := [.lit (.bool false)], args := [d1, d2, d3] }
  | _ => none }
def LeafListedWrongFalsely : Prop := leafListedRow.holds Tryz.pinned (OpenSpec.ofChange leafListedWrong)

/-- 'theorbolaw10.LeafNearest': WHATEVER THE INPUT: true; the input reads as it did. -/
def leafNearestSpec : ChangeSpec := { name := "leafNearest", fn := fun _ => fun
  | [d1, d2] => { results := [.lit (.bool true)], args := [d1, d2] }
  | _ => none }
def leafNearestRow : OpenClaim := { program := "ytdefefeifcdogaagreat", sum := "9ba6022aaf9105efffbd0f922d319ab76b4b8f009a98cdfc83f2f72bcdc0d86f", func := "theorbo/theorbolaw10.LeafNearest", spec := "leafNearest", unfollowed := true, recurses := true, plainKeys := false, apart := false }
def LeafNearestSaid : Prop := leafNearestRow.holds Tryz.pinned (OpenSpec.ofChange leafNearestSpec)

/-- ITS FALSE NEIGHBOUR: 'it returns false'. Refute it at one input. -/
def leafNearestWrong : ChangeSpec := { name := "leafNearest", fn := fun _ => fun
  | [d1, d2] => { results := [.lit (.bool false)], args := [d1, d2] }
  | _ => none }
def LeafNearestWrongFalsely : Prop := leafNearestRow.holds Tryz.pinned (OpenSpec.ofChange leafNearestWrong)

/- THE SECOND FORM. 'bulk': how many values and letters a reading holds, each counted each time it is reached (what is shared counts as often as it is met; a slice's spare places count too). A statement '..UptoSaid' is the law's where the arguments, and the package variables that the reading takes, are together of bulk at most 1048576: NARROWER than '..Said'. Prove '..Said' where nothing that the law and all that it calls make is longer than what came in: it says more and counts as full. Else prove '..UptoSaid'. A law counts once. -/
mutual
def uptoBulk {H : Type} : DataW H → Nat
  | .lit (.string bytes) => bytes.length + 1
  | .lit _ => 1
  | .nil => 1
  | .ptr d => uptoBulk d + 1
  | .slice elems spare => uptoBulkAll elems + uptoBulkAll spare + 1
  | .agg parts => uptoBulkAll parts + 1
  | .iface _ d => uptoBulk d + 1
  | .map entries => uptoBulkEntries entries + 1
  | .held _ => 1
def uptoBulkAll {H : Type} : List (DataW H) → Nat
  | [] => 0
  | d :: r => uptoBulk d + uptoBulkAll r
def uptoBulkEntries {H : Type} : List (Lit × DataW H) → Nat
  | [] => 0
  | x :: r => uptoBulkEntry x + uptoBulkEntries r
def uptoBulkEntry {H : Type} : Lit × DataW H → Nat
  | (.string bytes, d) => bytes.length + uptoBulk d + 1
  | (_, d) => uptoBulk d + 1
 end
def uptoSmall : (H : Type) → List (DataW H) → Bool := fun _ ds => decide (uptoBulkAll ds ≤ 1048576)
def OpenSpec.upto (s : _root_.Go.ChangeSpec) : _root_.Go.OpenSpec := { _root_.Go.OpenSpec.ofChange s with cond := some uptoSmall }

/-- 'theorbolaw10.LeafNarrows', WHERE WHAT IT READS IS OF BULK AT MOST 1048576: true; the input reads as it did. -/
def leafNarrowsUptoRow : OpenClaim := { program := "ytdefefeifcdogaagreat", sum := "9ba6022aaf9105efffbd0f922d319ab76b4b8f009a98cdfc83f2f72bcdc0d86f", func := "theorbo/theorbolaw10.LeafNarrows", spec := "leafNarrows", unfollowed := true, recurses := true, plainKeys := false, apart := false, narrowed := true }
def LeafNarrowsUptoSaid : Prop := leafNarrowsUptoRow.holds Tryz.pinned (OpenSpec.upto leafNarrowsSpec)

/-- 'theorbolaw10.LeafCounts', WHERE WHAT IT READS IS OF BULK AT MOST 1048576: true; the input reads as it did. -/
def leafCountsUptoRow : OpenClaim := { program := "ytdefefeifcdogaagreat", sum := "9ba6022aaf9105efffbd0f922d319ab76b4b8f009a98cdfc83f2f72bcdc0d86f", func := "theorbo/theorbolaw10.LeafCounts", spec := "leafCounts", unfollowed := true, recurses := true, plainKeys := false, apart := false, narrowed := true }
def LeafCountsUptoSaid : Prop := leafCountsUptoRow.holds Tryz.pinned (OpenSpec.upto leafCountsSpec)

/-- 'theorbolaw10.LeafChecks', WHERE WHAT IT READS IS OF BULK AT MOST 1048576: true; the input reads as it did. -/
def leafChecksUptoRow : OpenClaim := { program := "ytdefefeifcdogaagreat", sum := "9ba6022aaf9105efffbd0f922d319ab76b4b8f009a98cdfc83f2f72bcdc0d86f", func := "theorbo/theorbolaw10.LeafChecks", spec := "leafChecks", unfollowed := true, recurses := true, plainKeys := false, apart := false, narrowed := true }
def LeafChecksUptoSaid : Prop := leafChecksUptoRow.holds Tryz.pinned (OpenSpec.upto leafChecksSpec)

/-- 'theorbolaw10.LeafLists', WHERE WHAT IT READS IS OF BULK AT MOST 1048576: true; the input reads as it did. -/
def leafListsUptoRow : OpenClaim := { program := "ytdefefeifcdogaagreat", sum := "9ba6022aaf9105efffbd0f922d319ab76b4b8f009a98cdfc83f2f72bcdc0d86f", func := "theorbo/theorbolaw10.LeafLists", spec := "leafLists", unfollowed := true, recurses := true, plainKeys := false, apart := false, narrowed := true }
def LeafListsUptoSaid : Prop := leafListsUptoRow.holds Tryz.pinned (OpenSpec.upto leafListsSpec)

/-- 'theorbolaw10.LeafNarrowed', WHERE WHAT IT READS IS OF BULK AT MOST 1048576: true; the input reads as it did. -/
def leafNarrowedUptoRow : OpenClaim := { program := "ytdefefeifcdogaagreat", sum := "9ba6022aaf9105efffbd0f922d319ab76b4b8f009a98cdfc83f2f72bcdc0d86f", func := "theorbo/theorbolaw10.LeafNarrowed", spec := "leafNarrowed", unfollowed := true, recurses := true, plainKeys := false, apart := false, narrowed := true }
def LeafNarrowedUptoSaid : Prop := leafNarrowedUptoRow.holds Tryz.pinned (OpenSpec.upto leafNarrowedSpec)

/-- 'theorbolaw10.LeafOf', WHERE WHAT IT READS IS OF BULK AT MOST 1048576: true; the input reads as it did. -/
def leafOfUptoRow : OpenClaim := { program := "ytdefefeifcdogaagreat", sum := "9ba6022aaf9105efffbd0f922d319ab76b4b8f009a98cdfc83f2f72bcdc0d86f", func := "theorbo/theorbolaw10.LeafOf", spec := "leafOf", unfollowed := true, recurses := true, plainKeys := false, apart := false, narrowed := true }
def LeafOfUptoSaid : Prop := leafOfUptoRow.holds Tryz.pinned (OpenSpec.upto leafOfSpec)

/-- 'theorbolaw10.LeafReads', WHERE WHAT IT READS IS OF BULK AT MOST 1048576: true; the input reads as it did. -/
def leafReadsUptoRow : OpenClaim := { program := "ytdefefeifcdogaagreat", sum := "9ba6022aaf9105efffbd0f922d319ab76b4b8f009a98cdfc83f2f72bcdc0d86f", func := "theorbo/theorbolaw10.LeafReads", spec := "leafReads", unfollowed := true, recurses := true, plainKeys := false, apart := false, narrowed := true }
def LeafReadsUptoSaid : Prop := leafReadsUptoRow.holds Tryz.pinned (OpenSpec.upto leafReadsSpec)

/-- 'theorbolaw10.LeafNears', WHERE WHAT IT READS IS OF BULK AT MOST 1048576: true; the input reads as it did. -/
def leafNearsUptoRow : OpenClaim := { program := "ytdefefeifcdogaagreat", sum := "9ba6022aaf9105efffbd0f922d319ab76b4b8f009a98cdfc83f2f72bcdc0d86f", func := "theorbo/theorbolaw10.LeafNears", spec := "leafNears", unfollowed := true, recurses := true, plainKeys := false, apart := false, narrowed := true }
def LeafNearsUptoSaid : Prop := leafNearsUptoRow.holds Tryz.pinned (OpenSpec.upto leafNearsSpec)

/-- 'theorbolaw10.LeafOnly', WHERE WHAT IT READS IS OF BULK AT MOST 1048576: true; the input reads as it did. -/
def leafOnlyUptoRow : OpenClaim := { program := "ytdefefeifcdogaagreat", sum := "9ba6022aaf9105efffbd0f922d319ab76b4b8f009a98cdfc83f2f72bcdc0d86f", func := "theorbo/theorbolaw10.LeafOnly", spec := "leafOnly", unfollowed := true, recurses := true, plainKeys := false, apart := false, narrowed := true }
def LeafOnlyUptoSaid : Prop := leafOnlyUptoRow.holds Tryz.pinned (OpenSpec.upto leafOnlySpec)

/-- 'theorbolaw10.LeafMeets', WHERE WHAT IT READS IS OF BULK AT MOST 1048576: true; the input reads as it did. -/
def leafMeetsUptoRow : OpenClaim := { program := "ytdefefeifcdogaagreat", sum := "9ba6022aaf9105efffbd0f922d319ab76b4b8f009a98cdfc83f2f72bcdc0d86f", func := "theorbo/theorbolaw10.LeafMeets", spec := "leafMeets", unfollowed := true, recurses := true, plainKeys := false, apart := false, narrowed := true }
def LeafMeetsUptoSaid : Prop := leafMeetsUptoRow.holds Tryz.pinned (OpenSpec.upto leafMeetsSpec)

/-- 'theorbolaw10.LeafAllows', WHERE WHAT IT READS IS OF BULK AT MOST 1048576: true; the input reads as it did. -/
def leafAllowsUptoRow : OpenClaim := { program := "ytdefefeifcdogaagreat", sum := "9ba6022aaf9105efffbd0f922d319ab76b4b8f009a98cdfc83f2f72bcdc0d86f", func := "theorbo/theorbolaw10.LeafAllows", spec := "leafAllows", unfollowed := true, recurses := true, plainKeys := false, apart := false, narrowed := true }
def LeafAllowsUptoSaid : Prop := leafAllowsUptoRow.holds Tryz.pinned (OpenSpec.upto leafAllowsSpec)

/-- 'theorbolaw10.LeafLooser', WHERE WHAT IT READS IS OF BULK AT MOST 1048576: true; the input reads as it did. -/
def leafLooserUptoRow : OpenClaim := { program := "ytdefefeifcdogaagreat", sum := "9ba6022aaf9105efffbd0f922d319ab76b4b8f009a98cdfc83f2f72bcdc0d86f", func := "theorbo/theorbolaw10.LeafLooser", spec := "leafLooser", unfollowed := true, recurses := true, plainKeys := false, apart := false, narrowed := true }
def LeafLooserUptoSaid : Prop := leafLooserUptoRow.holds Tryz.pinned (OpenSpec.upto leafLooserSpec)

/-- 'theorbolaw10.LeafBoth', WHERE WHAT IT READS IS OF BULK AT MOST 1048576: true; the input reads as it did. -/
def leafBothUptoRow : OpenClaim := { program := "ytdefefeifcdogaagreat", sum := "9ba6022aaf9105efffbd0f922d319ab76b4b8f009a98cdfc83f2f72bcdc0d86f", func := "theorbo/theorbolaw10.LeafBoth", spec := "leafBoth", unfollowed := true, recurses := true, plainKeys := false, apart := false, narrowed := true }
def LeafBothUptoSaid : Prop := leafBothUptoRow.holds Tryz.pinned (OpenSpec.upto leafBothSpec)

/-- 'theorbolaw10.LeafListed', WHERE WHAT IT READS IS OF BULK AT MOST 1048576: true; the input reads as it did. -/
def leafListedUptoRow : OpenClaim := { program := "ytdefefeifcdogaagreat", sum := "9ba6022aaf9105efffbd0f922d319ab76b4b8f009a98cdfc83f2f72bcdc0d86f", func := "theorbo/theorbolaw10.LeafListed", spec := "leafListed", unfollowed := true, recurses := true, plainKeys := false, apart := false, narrowed := true }
def LeafListedUptoSaid : Prop := leafListedUptoRow.holds Tryz.pinned (OpenSpec.upto leafListedSpec)

/-- 'theorbolaw10.LeafNearest', WHERE WHAT IT READS IS OF BULK AT MOST 1048576: true; the input reads as it did. -/
def leafNearestUptoRow : OpenClaim := { program := "ytdefefeifcdogaagreat", sum := "9ba6022aaf9105efffbd0f922d319ab76b4b8f009a98cdfc83f2f72bcdc0d86f", func := "theorbo/theorbolaw10.LeafNearest", spec := "leafNearest", unfollowed := true, recurses := true, plainKeys := false, apart := false, narrowed := true }
def LeafNearestUptoSaid : Prop := leafNearestUptoRow.holds Tryz.pinned (OpenSpec.upto leafNearestSpec)

end Rows
end Go.Proofs.YtdefefeifcdogaaGreat
