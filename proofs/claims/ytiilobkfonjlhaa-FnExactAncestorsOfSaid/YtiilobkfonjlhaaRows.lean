/-
  No cell of these rows narrows 'for every input' (looked for: loops, veiled, ifaces, maps, wideKeys, modest, calm, conditions, laid).
  DERIVED. THE GIVEN ROWS OF THIS SEAT. 10 by the template 'for every input the law returns true; each argument reads behind the call as it read before'; 0 by the template 'total and deterministic' (their statements: YtiilobkfonjlhaaTotals.lean).
  GIVEN WITH THE SEED: the statements are not yours to turn. If you find one false, say at which input.
  Laid BY PROGRAM, IN A SANDBOX (cutbox-rows.mjs): the forced cells as the released guide's own fill.sh prints them over the translation fdb3595dcf3b7e5f… (all of the seat's roots in one cut). By AI agents, Wed Nov 11 2026. No macro, syntax, notation, axiom, sorry.
-/
import Derived.Test.YtiilobkfonjlhaaChecked
import GoSem.Claim
import GoSem.ClaimJoined
import GoSem.ClaimMapViews
import Derived.JoinedTies
import Derived.KernelRfl
namespace Go.Proofs.Ytiilobkfonjlhaa
/- THE CELL 'sum', in the pinned program and in every row, IS THE sha256 OF THE DUMP (.gsa) THAT YtiilobkfonjlhaaProg.lean LOADS. Nothing in Lean hashes anything: it is a label: what it is worth is what the hold of that sum in a sandbox is worth. -/
noncomputable def Try.pinned : Pinned := { name := "ytiilobkfonjlhaa", sum := "fdb3595dcf3b7e5fd12a94f1f9c5cc4c3cbce7c20a182af568f6a66222e90977", checked := Try.checked }
namespace Rows
def none {H : Type} : Left H := { results := [], args := [] }

/-- 'laws.FnExactCommonAncestor': WHATEVER THE INPUT: true; the input reads as it did. -/
def fnExactCommonAncestorSpec : ChangeSpec := { name := "fnExactCommonAncestor", fn := fun _ => fun
  | [d1, d2, d3] => { results := [.lit (.bool true)], args := [d1, d2, d3] }
  | _ => none }
def fnExactCommonAncestorRow : OpenClaim := { program := "ytiilobkfonjlhaa", sum := "fdb3595dcf3b7e5fd12a94f1f9c5cc4c3cbce7c20a182af568f6a66222e90977", func := "loop.example/g00955/laws.FnExactCommonAncestor", spec := "fnExactCommonAncestor", apart := false }
def FnExactCommonAncestorSaid : Prop := fnExactCommonAncestorRow.holds Try.pinned (OpenSpec.ofChange fnExactCommonAncestorSpec)

/-- ITS FALSE NEIGHBOUR: 'it returns false'. Refute it at one input. -/
def fnExactCommonAncestorWrong : ChangeSpec := { name := "fnExactCommonAncestor", fn := fun _ => fun
  | [d1, d2, d3] => { results := [.lit (.bool false)], args := [d1, d2, d3] }
  | _ => none }
def FnExactCommonAncestorWrongFalsely : Prop := fnExactCommonAncestorRow.holds Try.pinned (OpenSpec.ofChange fnExactCommonAncestorWrong)

/-- 'laws.FnExactFirstSeating': WHATEVER THE INPUT: true; the input reads as it did. -/
def fnExactFirstSeatingSpec : ChangeSpec := { name := "fnExactFirstSeating", fn := fun _ => fun
  | [d1, d2, d3] => { results := [.lit (.bool true)], args := [d1, d2, d3] }
  | _ => none }
def fnExactFirstSeatingRow : OpenClaim := { program := "ytiilobkfonjlhaa", sum := "fdb3595dcf3b7e5fd12a94f1f9c5cc4c3cbce7c20a182af568f6a66222e90977", func := "loop.example/g00955/laws.FnExactFirstSeating", spec := "fnExactFirstSeating", unfollowed := true, recurses := true, apart := false }
def FnExactFirstSeatingSaid : Prop := fnExactFirstSeatingRow.holds Try.pinned (OpenSpec.ofChange fnExactFirstSeatingSpec)

/-- ITS FALSE NEIGHBOUR: 'it returns false'. Refute it at one input. -/
def fnExactFirstSeatingWrong : ChangeSpec := { name := "fnExactFirstSeating", fn := fun _ => fun
  | [d1, d2, d3] => { results := [.lit (.bool false)], args := [d1, d2, d3] }
  | _ => none }
def FnExactFirstSeatingWrongFalsely : Prop := fnExactFirstSeatingRow.holds Try.pinned (OpenSpec.ofChange fnExactFirstSeatingWrong)

/-- 'laws.FnExactAncestorsOf': WHATEVER THE INPUT: true; the input reads as it did. -/
def fnExactAncestorsOfSpec : ChangeSpec := { name := "fnExactAncestorsOf", fn := fun _ => fun
  | [d1, d2] => { results := [.lit (.bool true)], args := [d1, d2] }
  | _ => none }
def fnExactAncestorsOfRow : OpenClaim := { program := "ytiilobkfonjlhaa", sum := "fdb3595dcf3b7e5fd12a94f1f9c5cc4c3cbce7c20a182af568f6a66222e90977", func := "loop.example/g00955/laws.FnExactAncestorsOf", spec := "fnExactAncestorsOf", apart := false }
def FnExactAncestorsOfSaid : Prop := fnExactAncestorsOfRow.holds Try.pinned (OpenSpec.ofChange fnExactAncestorsOfSpec)

/-- ITS FALSE NEIGHBOUR: 'it returns false'. Refute it at one input. -/
def fnExactAncestorsOfWrong : ChangeSpec := { name := "fnExactAncestorsOf", fn := fun _ => fun
  | [d1, d2] => { results := [.lit (.bool false)], args := [d1, d2] }
  | _ => none }
def FnExactAncestorsOfWrongFalsely : Prop := fnExactAncestorsOfRow.holds Try.pinned (OpenSpec.ofChange fnExactAncestorsOfWrong)

/-- 'laws.FnExactHeadsOf': WHATEVER THE INPUT: true; the input reads as it did. -/
def fnExactHeadsOfSpec : ChangeSpec := { name := "fnExactHeadsOf", fn := fun _ => fun
  | [d] => { results := [.lit (.bool true)], args := [d] }
  | _ => none }
def fnExactHeadsOfRow : OpenClaim := { program := "ytiilobkfonjlhaa", sum := "fdb3595dcf3b7e5fd12a94f1f9c5cc4c3cbce7c20a182af568f6a66222e90977", func := "loop.example/g00955/laws.FnExactHeadsOf", spec := "fnExactHeadsOf", unfollowed := true, recurses := true, apart := false }
def FnExactHeadsOfSaid : Prop := fnExactHeadsOfRow.holds Try.pinned (OpenSpec.ofChange fnExactHeadsOfSpec)

/-- ITS FALSE NEIGHBOUR: 'it returns false'. Refute it at one input. -/
def fnExactHeadsOfWrong : ChangeSpec := { name := "fnExactHeadsOf", fn := fun _ => fun
  | [d] => { results := [.lit (.bool false)], args := [d] }
  | _ => none }
def FnExactHeadsOfWrongFalsely : Prop := fnExactHeadsOfRow.holds Try.pinned (OpenSpec.ofChange fnExactHeadsOfWrong)

/-- 'laws.FnExactMostSeated': WHATEVER THE INPUT: true; the input reads as it did. -/
def fnExactMostSeatedSpec : ChangeSpec := { name := "fnExactMostSeated", fn := fun _ => fun
  | [d1, d2, d3] => { results := [.lit (.bool true)], args := [d1, d2, d3] }
  | _ => none }
def fnExactMostSeatedRow : OpenClaim := { program := "ytiilobkfonjlhaa", sum := "fdb3595dcf3b7e5fd12a94f1f9c5cc4c3cbce7c20a182af568f6a66222e90977", func := "loop.example/g00955/laws.FnExactMostSeated", spec := "fnExactMostSeated", unfollowed := true, recurses := true, apart := false }
def FnExactMostSeatedSaid : Prop := fnExactMostSeatedRow.holds Try.pinned (OpenSpec.ofChange fnExactMostSeatedSpec)

/-- ITS FALSE NEIGHBOUR: 'it returns false'. Refute it at one input. -/
def fnExactMostSeatedWrong : ChangeSpec := { name := "fnExactMostSeated", fn := fun _ => fun
  | [d1, d2, d3] => { results := [.lit (.bool false)], args := [d1, d2, d3] }
  | _ => none }
def FnExactMostSeatedWrongFalsely : Prop := fnExactMostSeatedRow.holds Try.pinned (OpenSpec.ofChange fnExactMostSeatedWrong)

/-- 'laws.FnExactLoadPlan': WHATEVER THE INPUT: true; the input reads as it did. -/
def fnExactLoadPlanSpec : ChangeSpec := { name := "fnExactLoadPlan", fn := fun _ => fun
  | [d1, d2, d3] => { results := [.lit (.bool true)], args := [d1, d2, d3] }
  | _ => none }
def fnExactLoadPlanRow : OpenClaim := { program := "ytiilobkfonjlhaa", sum := "fdb3595dcf3b7e5fd12a94f1f9c5cc4c3cbce7c20a182af568f6a66222e90977", func := "loop.example/g00955/laws.FnExactLoadPlan", spec := "fnExactLoadPlan", unfollowed := true, recurses := true, apart := false }
def FnExactLoadPlanSaid : Prop := fnExactLoadPlanRow.holds Try.pinned (OpenSpec.ofChange fnExactLoadPlanSpec)

/-- ITS FALSE NEIGHBOUR: 'it returns false'. Refute it at one input. -/
def fnExactLoadPlanWrong : ChangeSpec := { name := "fnExactLoadPlan", fn := fun _ => fun
  | [d1, d2, d3] => { results := [.lit (.bool false)], args := [d1, d2, d3] }
  | _ => none }
def FnExactLoadPlanWrongFalsely : Prop := fnExactLoadPlanRow.holds Try.pinned (OpenSpec.ofChange fnExactLoadPlanWrong)

/-- 'laws.FnExactLatestLoads': WHATEVER THE INPUT: true; the input reads as it did. -/
def fnExactLatestLoadsSpec : ChangeSpec := { name := "fnExactLatestLoads", fn := fun _ => fun
  | [d1, d2, d3] => { results := [.lit (.bool true)], args := [d1, d2, d3] }
  | _ => none }
def fnExactLatestLoadsRow : OpenClaim := { program := "ytiilobkfonjlhaa", sum := "fdb3595dcf3b7e5fd12a94f1f9c5cc4c3cbce7c20a182af568f6a66222e90977", func := "loop.example/g00955/laws.FnExactLatestLoads", spec := "fnExactLatestLoads", unfollowed := true, recurses := true, apart := false }
def FnExactLatestLoadsSaid : Prop := fnExactLatestLoadsRow.holds Try.pinned (OpenSpec.ofChange fnExactLatestLoadsSpec)

/-- ITS FALSE NEIGHBOUR: 'it returns false'. Refute it at one input. -/
def fnExactLatestLoadsWrong : ChangeSpec := { name := "fnExactLatestLoads", fn := fun _ => fun
  | [d1, d2, d3] => { results := [.lit (.bool false)], args := [d1, d2, d3] }
  | _ => none }
def FnExactLatestLoadsWrongFalsely : Prop := fnExactLatestLoadsRow.holds Try.pinned (OpenSpec.ofChange fnExactLatestLoadsWrong)

/-- 'laws.FnExactCommitState': WHATEVER THE INPUT: true; the input reads as it did. -/
def fnExactCommitStateSpec : ChangeSpec := { name := "fnExactCommitState", fn := fun _ => fun
  | [d1, d2, d3, d4] => { results := [.lit (.bool true)], args := [d1, d2, d3, d4] }
  | _ => none }
def fnExactCommitStateRow : OpenClaim := { program := "ytiilobkfonjlhaa", sum := "fdb3595dcf3b7e5fd12a94f1f9c5cc4c3cbce7c20a182af568f6a66222e90977", func := "loop.example/g00955/laws.FnExactCommitState", spec := "fnExactCommitState", apart := false }
def FnExactCommitStateSaid : Prop := fnExactCommitStateRow.holds Try.pinned (OpenSpec.ofChange fnExactCommitStateSpec)

/-- ITS FALSE NEIGHBOUR: 'it returns false'. Refute it at one input. -/
def fnExactCommitStateWrong : ChangeSpec := { name := "fnExactCommitState", fn := fun _ => fun
  | [d1, d2, d3, d4] => { results := [.lit (.bool false)], args := [d1, d2, d3, d4] }
  | _ => none }
def FnExactCommitStateWrongFalsely : Prop := fnExactCommitStateRow.holds Try.pinned (OpenSpec.ofChange fnExactCommitStateWrong)

/-- 'laws.FnGroups': WHATEVER THE INPUT: true; the input reads as it did. -/
def fnGroupsSpec : ChangeSpec := { name := "fnGroups", fn := fun _ => fun
  | [d] => { results := [.lit (.bool true)], args := [d] }
  | _ => none }
def fnGroupsRow : OpenClaim := { program := "ytiilobkfonjlhaa", sum := "fdb3595dcf3b7e5fd12a94f1f9c5cc4c3cbce7c20a182af568f6a66222e90977", func := "loop.example/g00955/laws.FnGroups", spec := "fnGroups", unfollowed := true, recurses := true, apart := false }
def FnGroupsSaid : Prop := fnGroupsRow.holds Try.pinned (OpenSpec.ofChange fnGroupsSpec)

/-- ITS FALSE NEIGHBOUR: 'it returns false'. Refute it at one input. -/
def fnGroupsWrong : ChangeSpec := { name := "fnGroups", fn := fun _ => fun
  | [d] => { results := [.lit (.bool false)], args := [d] }
  | _ => none }
def FnGroupsWrongFalsely : Prop := fnGroupsRow.holds Try.pinned (OpenSpec.ofChange fnGroupsWrong)

/-- 'laws.FnExactGreedySeating': WHATEVER THE INPUT: true; the input reads as it did. -/
def fnExactGreedySeatingSpec : ChangeSpec := { name := "fnExactGreedySeating", fn := fun _ => fun
  | [d1, d2] => { results := [.lit (.bool true)], args := [d1, d2] }
  | _ => none }
def fnExactGreedySeatingRow : OpenClaim := { program := "ytiilobkfonjlhaa", sum := "fdb3595dcf3b7e5fd12a94f1f9c5cc4c3cbce7c20a182af568f6a66222e90977", func := "loop.example/g00955/laws.FnExactGreedySeating", spec := "fnExactGreedySeating", unfollowed := true, recurses := true, apart := false }
def FnExactGreedySeatingSaid : Prop := fnExactGreedySeatingRow.holds Try.pinned (OpenSpec.ofChange fnExactGreedySeatingSpec)

/-- ITS FALSE NEIGHBOUR: 'it returns false'. Refute it at one input. -/
def fnExactGreedySeatingWrong : ChangeSpec := { name := "fnExactGreedySeating", fn := fun _ => fun
  | [d1, d2] => { results := [.lit (.bool false)], args := [d1, d2] }
  | _ => none }
def FnExactGreedySeatingWrongFalsely : Prop := fnExactGreedySeatingRow.holds Try.pinned (OpenSpec.ofChange fnExactGreedySeatingWrong)

/- THE SECOND FORM. 'bulk': how many values and letters a reading holds, each counted each time it is reached (what is shared counts as often as it is met; a slice's spare places count too). A statement '..UptoSaid' is the law's where the arguments, and the package variables that the reading takes, are together of bulk at most 1048576: NARROWER than '..Said'. Prove '..Said' where nothing that the law and all that it calls make is longer than what came in: it says more and counts as full. Else prove '..UptoSaid'. A law counts once. -/
mutual
def uptoBulk {H : Type} : DataW H → Nat
  | .lit (.string bytes) => bytes.length + 1
  | .lit _ => 1
  | .nil => 1
  | .ptr d => uptoBulk d + 1
  | .slice elems spare => uptoBulkAll elems + uptoBulkAll spare + 1
  | .agg parts => uptoBulkAll parts + 1
  | .iface _ d => uptoBulk d + 1
  | .map entries => uptoBulkEntries entries + 1
  | .held _ => 1
def uptoBulkAll {H : Type} : List (DataW H) → Nat
  | [] => 0
  | d :: r => uptoBulk d + uptoBulkAll r
def uptoBulkEntries {H : Type} : List (Lit × DataW H) → Nat
  | [] => 0
  | x :: r => uptoBulkEntry x + uptoBulkEntries r
def uptoBulkEntry {H : Type} : Lit × DataW H → Nat
  | (.string bytes, d) => bytes.length + uptoBulk d + 1
  | (_, d) => uptoBulk d + 1
 end
def uptoSmall : (H : Type) → List (DataW H) → Bool := fun _ ds => decide (uptoBulkAll ds ≤ 1048576)
def OpenSpec.upto (s : _root_.Go.ChangeSpec) : _root_.Go.OpenSpec := { _root_.Go.OpenSpec.ofChange s with cond := some uptoSmall }

/-- 'laws.FnExactCommonAncestor', WHERE WHAT IT READS IS OF BULK AT MOST 1048576: true; the input reads as it did. -/
def fnExactCommonAncestorUptoRow : OpenClaim := { program := "ytiilobkfonjlhaa", sum := "fdb3595dcf3b7e5fd12a94f1f9c5cc4c3cbce7c20a182af568f6a66222e90977", func := "loop.example/g00955/laws.FnExactCommonAncestor", spec := "fnExactCommonAncestor", apart := false, narrowed := true }
def FnExactCommonAncestorUptoSaid : Prop := fnExactCommonAncestorUptoRow.holds Try.pinned (OpenSpec.upto fnExactCommonAncestorSpec)

/-- 'laws.FnExactFirstSeating', WHERE WHAT IT READS IS OF BULK AT MOST 1048576: true; the input reads as it did. -/
def fnExactFirstSeatingUptoRow : OpenClaim := { program := "ytiilobkfonjlhaa", sum := "fdb3595dcf3b7e5fd12a94f1f9c5cc4c3cbce7c20a182af568f6a66222e90977", func := "loop.example/g00955/laws.FnExactFirstSeating", spec := "fnExactFirstSeating", unfollowed := true, recurses := true, apart := false, narrowed := true }
def FnExactFirstSeatingUptoSaid : Prop := fnExactFirstSeatingUptoRow.holds Try.pinned (OpenSpec.upto fnExactFirstSeatingSpec)

/-- 'laws.FnExactAncestorsOf', WHERE WHAT IT READS IS OF BULK AT MOST 1048576: true; the input reads as it did. -/
def fnExactAncestorsOfUptoRow : OpenClaim := { program := "ytiilobkfonjlhaa", sum := "fdb3595dcf3b7e5fd12a94f1f9c5cc4c3cbce7c20a182af568f6a66222e90977", func := "loop.example/g00955/laws.FnExactAncestorsOf", spec := "fnExactAncestorsOf", apart := false, narrowed := true }
def FnExactAncestorsOfUptoSaid : Prop := fnExactAncestorsOfUptoRow.holds Try.pinned (OpenSpec.upto fnExactAncestorsOfSpec)

/-- 'laws.FnExactHeadsOf', WHERE WHAT IT READS IS OF BULK AT MOST 1048576: true; the input reads as it did. -/
def fnExactHeadsOfUptoRow : OpenClaim := { program := "ytiilobkfonjlhaa", sum := "fdb3595dcf3b7e5fd12a94f1f9c5cc4c3cbce7c20a182af568f6a66222e90977", func := "loop.example/g00955/laws.FnExactHeadsOf", spec := "fnExactHeadsOf", unfollowed := true, recurses := true, apart := false, narrowed := true }
def FnExactHeadsOfUptoSaid : Prop := fnExactHeadsOfUptoRow.holds Try.pinned (OpenSpec.upto fnExactHeadsOfSpec)

/-- 'laws.FnExactMostSeated', WHERE WHAT IT READS IS OF BULK AT MOST 1048576: true; the input reads as it did. -/
def fnExactMostSeatedUptoRow : OpenClaim := { program := "ytiilobkfonjlhaa", sum := "fdb3595dcf3b7e5fd12a94f1f9c5cc4c3cbce7c20a182af568f6a66222e90977", func := "loop.example/g00955/laws.FnExactMostSeated", spec := "fnExactMostSeated", unfollowed := true, recurses := true, apart := false, narrowed := true }
def FnExactMostSeatedUptoSaid : Prop := fnExactMostSeatedUptoRow.holds Try.pinned (OpenSpec.upto fnExactMostSeatedSpec)

/-- 'laws.FnExactLoadPlan', WHERE WHAT IT READS IS OF BULK AT MOST 1048576: true; the input reads as it did. -/
def fnExactLoadPlanUptoRow : OpenClaim := { program := "ytiilobkfonjlhaa", sum := "fdb3595dcf3b7e5fd12a94f1f9c5cc4c3cbce7c20a182af568f6a66222e90977", func := "loop.example/g00955/laws.FnExactLoadPlan", spec := "fnExactLoadPlan", unfollowed := true, recurses := true, apart := false, narrowed := true }
def FnExactLoadPlanUptoSaid : Prop := fnExactLoadPlanUptoRow.holds Try.pinned (OpenSpec.upto fnExactLoadPlanSpec)

/-- 'laws.FnExactLatestLoads', WHERE WHAT IT READS IS OF BULK AT MOST 1048576: true; the input reads as it did. -/
def fnExactLatestLoadsUptoRow : OpenClaim := { program := "ytiilobkfonjlhaa", sum := "fdb3595dcf3b7e5fd12a94f1f9c5cc4c3cbce7c20a182af568f6a66222e90977", func := "loop.example/g00955/laws.FnExactLatestLoads", spec := "fnExactLatestLoads", unfollowed := true, recurses := true, apart := false, narrowed := true }
def FnExactLatestLoadsUptoSaid : Prop := fnExactLatestLoadsUptoRow.holds Try.pinned (OpenSpec.upto fnExactLatestLoadsSpec)

/-- 'laws.FnExactCommitState', WHERE WHAT IT READS IS OF BULK AT MOST 1048576: true; the input reads as it did. -/
def fnExactCommitStateUptoRow : OpenClaim := { program := "ytiilobkfonjlhaa", sum := "fdb3595dcf3b7e5fd12a94f1f9c5cc4c3cbce7c20a182af568f6a66222e90977", func := "loop.example/g00955/laws.FnExactCommitState", spec := "fnExactCommitState", apart := false, narrowed := true }
def FnExactCommitStateUptoSaid : Prop := fnExactCommitStateUptoRow.holds Try.pinned (OpenSpec.upto fnExactCommitStateSpec)

/-- 'laws.FnGroups', WHERE WHAT IT READS IS OF BULK AT MOST 1048576: true; the input reads as it did. -/
def fnGroupsUptoRow : OpenClaim := { program := "ytiilobkfonjlhaa", sum := "fdb3595dcf3b7e5fd12a94f1f9c5cc4c3cbce7c20a182af568f6a66222e90977", func := "loop.example/g00955/laws.FnGroups", spec := "fnGroups", unfollowed := true, recurses := true, apart := false, narrowed := true }
def FnGroupsUptoSaid : Prop := fnGroupsUptoRow.holds Try.pinned (OpenSpec.upto fnGroupsSpec)

/-- 'laws.FnExactGreedySeating', WHERE WHAT IT READS IS OF BULK AT MOST 1048576: true; the input reads as it did. -/
def fnExactGreedySeatingUptoRow : OpenClaim := { program := "ytiilobkfonjlhaa", sum := "fdb3595dcf3b7e5fd12a94f1f9c5cc4c3cbce7c20a182af568f6a66222e90977", func := "loop.example/g00955/laws.FnExactGreedySeating", spec := "fnExactGreedySeating", unfollowed := true, recurses := true, apart := false, narrowed := true }
def FnExactGreedySeatingUptoSaid : Prop := fnExactGreedySeatingUptoRow.holds Try.pinned (OpenSpec.upto fnExactGreedySeatingSpec)

end Rows
end Go.Proofs.Ytiilobkfonjlhaa
