/-
  No cell of these rows narrows 'for every input' (looked for: loops, veiled, ifaces, maps, wideKeys, modest, calm, conditions, laid).
  DERIVED. THE GIVEN ROWS OF THIS SEAT. 5 by the template 'for every input the law returns true; each argument reads behind the call as it read before'; 0 by the template 'total and deterministic' (their statements: YtnejigdldeipdaaTotals.lean).
  GIVEN WITH THE SEED: the statements are not yours to turn. If you find one false, say at which input.
  Laid BY PROGRAM, IN A SANDBOX (cutbox-rows.mjs): the forced cells as the released guide's own fill.sh prints them over the translation ed4f791c5fb1306f… (all of the seat's roots in one cut). By AI agents, Wed Nov 11 2026. No macro, syntax, notation, axiom, sorry.
-/
import Derived.Test.YtnejigdldeipdaaChecked
import GoSem.Claim
import GoSem.ClaimJoined
import GoSem.ClaimMapViews
import Derived.JoinedTies
import Derived.KernelRfl
namespace Go.Proofs.Ytnejigdldeipdaa
/- THE CELL 'sum', in the pinned program and in every row, IS THE sha256 OF THE DUMP (.gsa) THAT YtnejigdldeipdaaProg.lean LOADS. Nothing in Lean hashes anything: it is a label: what it is worth is what the hold of that sum in a sandbox is worth. -/
noncomputable def Try.pinned : Pinned := { name := "ytnejigdldeipdaa", sum := "ed4f791c5fb1306fdf519e9fb698e86831d3f4179d322e9dc8b315dcc93dff17", checked := Try.checked }
namespace Rows
def none {H : Type} : Left H := { results := [], args := [] }

/-- 'laws.FnExactFirstSeating': WHATEVER THE INPUT: true; the input reads as it did. -/
def fnExactFirstSeatingSpec : ChangeSpec := { name := "fnExactFirstSeating", fn := fun _ => fun
  | [d1, d2, d3] => { results := [.lit (.bool true)], args := [d1, d2, d3] }
  | _ => none }
def fnExactFirstSeatingRow : OpenClaim := { program := "ytnejigdldeipdaa", sum := "ed4f791c5fb1306fdf519e9fb698e86831d3f4179d322e9dc8b315dcc93dff17", func := "loop.example/g00955/laws.FnExactFirstSeating", spec := "fnExactFirstSeating", unfollowed := true, recurses := true, apart := false }
def FnExactFirstSeatingSaid : Prop := fnExactFirstSeatingRow.holds Try.pinned (OpenSpec.ofChange fnExactFirstSeatingSpec)

/-- ITS FALSE NEIGHBOUR: 'it returns false'. Refute it at one input. -/
def fnExactFirstSeatingWrong : ChangeSpec := { name := "fnExactFirstSeating", fn := fun _ => fun
  | [d1, d2, d3] => { results := [.lit (.bool false)], args := [d1, d2, d3] }
  | _ => none }
def FnExactFirstSeatingWrongFalsely : Prop := fnExactFirstSeatingRow.holds Try.pinned (OpenSpec.ofChange fnExactFirstSeatingWrong)

/-- 'laws.FnExactMostSeated': WHATEVER THE INPUT: true; the input reads as it did. -/
def fnExactMostSeatedSpec : ChangeSpec := { name := "fnExactMostSeated", fn := fun _ => fun
  | [d1, d2, d3] => { results := [.lit (.bool true)], args := [d1, d2, d3] }
  | _ => none }
def fnExactMostSeatedRow : OpenClaim := { program := "ytnejigdldeipdaa", sum := "ed4f791c5fb1306fdf519e9fb698e86831d3f4179d322e9dc8b315dcc93dff17", func := "loop.example/g00955/laws.FnExactMostSeated", spec := "fnExactMostSeated", unfollowed := true, recurses := true, apart := false }
def FnExactMostSeatedSaid : Prop := fnExactMostSeatedRow.holds Try.pinned (OpenSpec.ofChange fnExactMostSeatedSpec)

/-- ITS FALSE NEIGHBOUR: 'it returns false'. Refute it at one input. -/
def fnExactMostSeatedWrong : ChangeSpec := { name := "fnExactMostSeated", fn := fun _ => fun
  | [d1, d2, d3] => { results := [.lit (.bool false)], args := [d1, d2, d3] }
  | _ => none }
def FnExactMostSeatedWrongFalsely : Prop := fnExactMostSeatedRow.holds Try.pinned (OpenSpec.ofChange fnExactMostSeatedWrong)

/-- 'laws.FnExactGreedySeating': WHATEVER THE INPUT: true; the input reads as it did. -/
def fnExactGreedySeatingSpec : ChangeSpec := { name := "fnExactGreedySeating", fn := fun _ => fun
  | [d1, d2] => { results := [.lit (.bool true)], args := [d1, d2] }
  | _ => none }
def fnExactGreedySeatingRow : OpenClaim := { program := "ytnejigdldeipdaa", sum := "ed4f791c5fb1306fdf519e9fb698e86831d3f4179d322e9dc8b315dcc93dff17", func := "loop.example/g00955/laws.FnExactGreedySeating", spec := "fnExactGreedySeating", unfollowed := true, recurses := true, apart := false }
def FnExactGreedySeatingSaid : Prop := fnExactGreedySeatingRow.holds Try.pinned (OpenSpec.ofChange fnExactGreedySeatingSpec)

/-- ITS FALSE NEIGHBOUR: 'it returns false'. Refute it at one input. -/
def fnExactGreedySeatingWrong : ChangeSpec := { name := "fnExactGreedySeating", fn := fun _ => fun
  | [d1, d2] => { results := [.lit (.bool false)], args := [d1, d2] }
  | _ => none }
def FnExactGreedySeatingWrongFalsely : Prop := fnExactGreedySeatingRow.holds Try.pinned (OpenSpec.ofChange fnExactGreedySeatingWrong)

/-- 'laws.FnSeating': WHATEVER THE INPUT: true; the input reads as it did. -/
def fnSeatingSpec : ChangeSpec := { name := "fnSeating", fn := fun _ => fun
  | [d] => { results := [.lit (.bool true)], args := [d] }
  | _ => none }
def fnSeatingRow : OpenClaim := { program := "ytnejigdldeipdaa", sum := "ed4f791c5fb1306fdf519e9fb698e86831d3f4179d322e9dc8b315dcc93dff17", func := "loop.example/g00955/laws.FnSeating", spec := "fnSeating", unfollowed := true, recurses := true, apart := false }
def FnSeatingSaid : Prop := fnSeatingRow.holds Try.pinned (OpenSpec.ofChange fnSeatingSpec)

/-- ITS FALSE NEIGHBOUR: 'it returns false'. Refute it at one input. -/
def fnSeatingWrong : ChangeSpec := { name := "fnSeating", fn := fun _ => fun
  | [d] => { results := [.lit (.bool false)], args := [d] }
  | _ => none }
def FnSeatingWrongFalsely : Prop := fnSeatingRow.holds Try.pinned (OpenSpec.ofChange fnSeatingWrong)

/-- 'laws.FnGroups': WHATEVER THE INPUT: true; the input reads as it did. -/
def fnGroupsSpec : ChangeSpec := { name := "fnGroups", fn := fun _ => fun
  | [d] => { results := [.lit (.bool true)], args := [d] }
  | _ => none }
def fnGroupsRow : OpenClaim := { program := "ytnejigdldeipdaa", sum := "ed4f791c5fb1306fdf519e9fb698e86831d3f4179d322e9dc8b315dcc93dff17", func := "loop.example/g00955/laws.FnGroups", spec := "fnGroups", unfollowed := true, recurses := true, apart := false }
def FnGroupsSaid : Prop := fnGroupsRow.holds Try.pinned (OpenSpec.ofChange fnGroupsSpec)

/-- ITS FALSE NEIGHBOUR: 'it returns false'. Refute it at one input. -/
def fnGroupsWrong : ChangeSpec := { name := "fnGroups", fn := fun _ => fun
  | [d] => { results := [.lit (.bool false)], args := [d] }
  | _ => none }
def FnGroupsWrongFalsely : Prop := fnGroupsRow.holds Try.pinned (OpenSpec.ofChange fnGroupsWrong)

/- THE SECOND FORM. 'bulk': how many values and letters a reading holds, each counted each time it is reached (what is shared counts as often as it is met; a slice's spare places count too). A statement '..UptoSaid' is the law's where the arguments, and the package variables that the reading takes, are together of bulk at most 1048576: NARROWER than '..Said'. Prove '..Said' where nothing that the law and all that it calls make is longer than what came in: it says more and counts as full. Else prove '..UptoSaid'. A law counts once. -/
mutual
def uptoBulk {H : Type} : DataW H → Nat
  | .lit (.string bytes) => bytes.length + 1
  | .lit _ => 1
  | .nil => 1
  | .ptr d => uptoBulk d + 1
  | .slice elems spare => uptoBulkAll elems + uptoBulkAll spare + 1
  | .agg parts => uptoBulkAll parts + 1
  | .iface _ d => uptoBulk d + 1
  | .map entries => uptoBulkEntries entries + 1
  | .held _ => 1
def uptoBulkAll {H : Type} : List (DataW H) → Nat
  | [] => 0
  | d :: r => uptoBulk d + uptoBulkAll r
def uptoBulkEntries {H : Type} : List (Lit × DataW H) → Nat
  | [] => 0
  | x :: r => uptoBulkEntry x + uptoBulkEntries r
def uptoBulkEntry {H : Type} : Lit × DataW H → Nat
  | (.string bytes, d) => bytes.length + uptoBulk d + 1
  | (_, d) => uptoBulk d + 1
 end
def uptoSmall : (H : Type) → List (DataW H) → Bool := fun _ ds => decide (uptoBulkAll ds ≤ 1048576)
def OpenSpec.upto (s : _root_.Go.ChangeSpec) : _root_.Go.OpenSpec := { _root_.Go.OpenSpec.ofChange s with cond := some uptoSmall }

/-- 'laws.FnExactFirstSeating', WHERE WHAT IT READS IS OF BULK AT MOST 1048576: true; the input reads as it did. -/
def fnExactFirstSeatingUptoRow : OpenClaim := { program := "ytnejigdldeipdaa", sum := "ed4f791c5fb1306fdf519e9fb698e86831d3f4179d322e9dc8b315dcc93dff17", func := "loop.example/g00955/laws.FnExactFirstSeating", spec := "fnExactFirstSeating", unfollowed := true, recurses := true, apart := false, narrowed := true }
def FnExactFirstSeatingUptoSaid : Prop := fnExactFirstSeatingUptoRow.holds Try.pinned (OpenSpec.upto fnExactFirstSeatingSpec)

/-- 'laws.FnExactMostSeated', WHERE WHAT IT READS IS OF BULK AT MOST 1048576: true; the input reads as it did. -/
def fnExactMostSeatedUptoRow : OpenClaim := { program := "ytnejigdldeipdaa", sum := "ed4f791c5fb1306fdf519e9fb698e86831d3f4179d322e9dc8b315dcc93dff17", func := "loop.example/g00955/laws.FnExactMostSeated", spec := "fnExactMostSeated", unfollowed := true, recurses := true, apart := false, narrowed := true }
def FnExactMostSeatedUptoSaid : Prop := fnExactMostSeatedUptoRow.holds Try.pinned (OpenSpec.upto fnExactMostSeatedSpec)

/-- 'laws.FnExactGreedySeating', WHERE WHAT IT READS IS OF BULK AT MOST 1048576: true; the input reads as it did. -/
def fnExactGreedySeatingUptoRow : OpenClaim := { program := "ytnejigdldeipdaa", sum := "ed4f791c5fb1306fdf519e9fb698e86831d3f4179d322e9dc8b315dcc93dff17", func := "loop.example/g00955/laws.FnExactGreedySeating", spec := "fnExactGreedySeating", unfollowed := true, recurses := true, apart := false, narrowed := true }
def FnExactGreedySeatingUptoSaid : Prop := fnExactGreedySeatingUptoRow.holds Try.pinned (OpenSpec.upto fnExactGreedySeatingSpec)

/-- 'laws.FnSeating', WHERE WHAT IT READS IS OF BULK AT MOST 1048576: true; the input reads as it did. -/
def fnSeatingUptoRow : OpenClaim := { program := "ytnejigdldeipdaa", sum := "ed4f791c5fb1306fdf519e9fb698e86831d3f4179d322e9dc8b315dcc93dff17", func := "loop.example/g00955/laws.FnSeating", spec := "fnSeating", unfollowed := true, recurses := true, apart := false, narrowed := true }
def FnSeatingUptoSaid : Prop := fnSeatingUptoRow.holds Try.pinned (OpenSpec.upto fnSeatingSpec)

/-- 'laws.FnGroups', WHERE WHAT IT READS IS OF BULK AT MOST 1048576: true; the input reads as it did. -/
def fnGroupsUptoRow : OpenClaim := { program := "ytnejigdldeipdaa", sum := "ed4f791c5fb1306fdf519e9fb698e86831d3f4179d322e9dc8b315dcc93dff17", func := "loop.example/g00955/laws.FnGroups", spec := "fnGroups", unfollowed := true, recurses := true, apart := false, narrowed := true }
def FnGroupsUptoSaid : Prop := fnGroupsUptoRow.holds Try.pinned (OpenSpec.upto fnGroupsSpec)

end Rows
end Go.Proofs.Ytnejigdldeipdaa
