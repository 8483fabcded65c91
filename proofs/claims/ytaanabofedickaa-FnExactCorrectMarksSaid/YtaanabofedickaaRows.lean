/-
  No cell of these rows narrows 'for every input' (looked for: loops, veiled, ifaces, maps, wideKeys, modest, calm, conditions, laid).
  DERIVED. THE GIVEN ROWS OF THIS SEAT. 10 by the template 'for every input the law returns true; each argument reads behind the call as it read before'; 0 by the template 'total and deterministic' (their statements: YtaanabofedickaaTotals.lean).
  GIVEN WITH THE SEED: the statements are not yours to turn. If you find one false, say at which input.
  Laid BY PROGRAM, IN A SANDBOX (cutbox-rows.mjs): the forced cells as the released guide's own fill.sh prints them over the translation 5ef0106fc0a7008f… (all of the seat's roots in one cut). By AI agents, Wed Nov 11 2026. No macro, syntax, notation, axiom, sorry.
-/
import Derived.Test.YtaanabofedickaaChecked
import GoSem.Claim
import GoSem.ClaimJoined
import GoSem.ClaimMapViews
import Derived.JoinedTies
import Derived.KernelRfl
namespace Go.Proofs.Ytaanabofedickaa
/- THE CELL 'sum', in the pinned program and in every row, IS THE sha256 OF THE DUMP (.gsa) THAT YtaanabofedickaaProg.lean LOADS. Nothing in Lean hashes anything: it is a label: what it is worth is what the hold of that sum in a sandbox is worth. -/
noncomputable def Try.pinned : Pinned := { name := "ytaanabofedickaa", sum := "5ef0106fc0a7008face31513127006249cfdcae36e68da52f6eaf9b18538e9fb", checked := Try.checked }
namespace Rows
def none {H : Type} : Left H := { results := [], args := [] }

/-- 'laws.FnExactValidHistory': WHATEVER THE INPUT: true; the input reads as it did. -/
def fnExactValidHistorySpec : ChangeSpec := { name := "fnExactValidHistory", fn := fun _ => fun
  | [d] => { results := [.lit (.bool true)], args := [d] }
  | _ => none }
def fnExactValidHistoryRow : OpenClaim := { program := "ytaanabofedickaa", sum := "5ef0106fc0a7008face31513127006249cfdcae36e68da52f6eaf9b18538e9fb", func := "loop.example/g00955/laws.FnExactValidHistory", spec := "fnExactValidHistory", apart := false }
def FnExactValidHistorySaid : Prop := fnExactValidHistoryRow.holds Try.pinned (OpenSpec.ofChange fnExactValidHistorySpec)

/-- ITS FALSE NEIGHBOUR: 'it returns false'. Refute it at one input. -/
def fnExactValidHistoryWrong : ChangeSpec := { name := "fnExactValidHistory", fn := fun _ => fun
  | [d] => { results := [.lit (.bool false)], args := [d] }
  | _ => none }
def FnExactValidHistoryWrongFalsely : Prop := fnExactValidHistoryRow.holds Try.pinned (OpenSpec.ofChange fnExactValidHistoryWrong)

/-- 'laws.FnExactLateMachines': WHATEVER THE INPUT: true; the input reads as it did. -/
def fnExactLateMachinesSpec : ChangeSpec := { name := "fnExactLateMachines", fn := fun _ => fun
  | [d1, d2] => { results := [.lit (.bool true)], args := [d1, d2] }
  | _ => none }
def fnExactLateMachinesRow : OpenClaim := { program := "ytaanabofedickaa", sum := "5ef0106fc0a7008face31513127006249cfdcae36e68da52f6eaf9b18538e9fb", func := "loop.example/g00955/laws.FnExactLateMachines", spec := "fnExactLateMachines", apart := false }
def FnExactLateMachinesSaid : Prop := fnExactLateMachinesRow.holds Try.pinned (OpenSpec.ofChange fnExactLateMachinesSpec)

/-- ITS FALSE NEIGHBOUR: 'it returns false'. Refute it at one input. -/
def fnExactLateMachinesWrong : ChangeSpec := { name := "fnExactLateMachines", fn := fun _ => fun
  | [d1, d2] => { results := [.lit (.bool false)], args := [d1, d2] }
  | _ => none }
def FnExactLateMachinesWrongFalsely : Prop := fnExactLateMachinesRow.holds Try.pinned (OpenSpec.ofChange fnExactLateMachinesWrong)

/-- 'laws.FnExactValidNeeds': WHATEVER THE INPUT: true; the input reads as it did. -/
def fnExactValidNeedsSpec : ChangeSpec := { name := "fnExactValidNeeds", fn := fun _ => fun
  | [d1, d2] => { results := [.lit (.bool true)], args := [d1, d2] }
  | _ => none }
def fnExactValidNeedsRow : OpenClaim := { program := "ytaanabofedickaa", sum := "5ef0106fc0a7008face31513127006249cfdcae36e68da52f6eaf9b18538e9fb", func := "loop.example/g00955/laws.FnExactValidNeeds", spec := "fnExactValidNeeds", unfollowed := true, recurses := true, apart := false }
def FnExactValidNeedsSaid : Prop := fnExactValidNeedsRow.holds Try.pinned (OpenSpec.ofChange fnExactValidNeedsSpec)

/-- ITS FALSE NEIGHBOUR: 'it returns false'. Refute it at one input. -/
def fnExactValidNeedsWrong : ChangeSpec := { name := "fnExactValidNeeds", fn := fun _ => fun
  | [d1, d2] => { results := [.lit (.bool false)], args := [d1, d2] }
  | _ => none }
def FnExactValidNeedsWrongFalsely : Prop := fnExactValidNeedsRow.holds Try.pinned (OpenSpec.ofChange fnExactValidNeedsWrong)

/-- 'laws.FnExactCorrectMarks': WHATEVER THE INPUT: true; the input reads as it did. -/
def fnExactCorrectMarksSpec : ChangeSpec := { name := "fnExactCorrectMarks", fn := fun _ => fun
  | [d1, d2, d3] => { results := [.lit (.bool true)], args := [d1, d2, d3] }
  | _ => none }
def fnExactCorrectMarksRow : OpenClaim := { program := "ytaanabofedickaa", sum := "5ef0106fc0a7008face31513127006249cfdcae36e68da52f6eaf9b18538e9fb", func := "loop.example/g00955/laws.FnExactCorrectMarks", spec := "fnExactCorrectMarks", unfollowed := true, recurses := true, apart := false }
def FnExactCorrectMarksSaid : Prop := fnExactCorrectMarksRow.holds Try.pinned (OpenSpec.ofChange fnExactCorrectMarksSpec)

/-- ITS FALSE NEIGHBOUR: 'it returns false'. Refute it at one input. -/
def fnExactCorrectMarksWrong : ChangeSpec := { name := "fnExactCorrectMarks", fn := fun _ => fun
  | [d1, d2, d3] => { results := [.lit (.bool false)], args := [d1, d2, d3] }
  | _ => none }
def FnExactCorrectMarksWrongFalsely : Prop := fnExactCorrectMarksRow.holds Try.pinned (OpenSpec.ofChange fnExactCorrectMarksWrong)

/-- 'laws.FnExactDiffStates': WHATEVER THE INPUT: true; the input reads as it did. -/
def fnExactDiffStatesSpec : ChangeSpec := { name := "fnExactDiffStates", fn := fun _ => fun
  | [d1, d2] => { results := [.lit (.bool true)], args := [d1, d2] }
  | _ => none }
def fnExactDiffStatesRow : OpenClaim := { program := "ytaanabofedickaa", sum := "5ef0106fc0a7008face31513127006249cfdcae36e68da52f6eaf9b18538e9fb", func := "loop.example/g00955/laws.FnExactDiffStates", spec := "fnExactDiffStates", unfollowed := true, recurses := true, apart := false }
def FnExactDiffStatesSaid : Prop := fnExactDiffStatesRow.holds Try.pinned (OpenSpec.ofChange fnExactDiffStatesSpec)

/-- ITS FALSE NEIGHBOUR: 'it returns false'. Refute it at one input. -/
def fnExactDiffStatesWrong : ChangeSpec := { name := "fnExactDiffStates", fn := fun _ => fun
  | [d1, d2] => { results := [.lit (.bool false)], args := [d1, d2] }
  | _ => none }
def FnExactDiffStatesWrongFalsely : Prop := fnExactDiffStatesRow.holds Try.pinned (OpenSpec.ofChange fnExactDiffStatesWrong)

/-- 'laws.FnCaches': WHATEVER THE INPUT: true; the input reads as it did. -/
def fnCachesSpec : ChangeSpec := { name := "fnCaches", fn := fun _ => fun
  | [d1, d2] => { results := [.lit (.bool true)], args := [d1, d2] }
  | _ => none }
def fnCachesRow : OpenClaim := { program := "ytaanabofedickaa", sum := "5ef0106fc0a7008face31513127006249cfdcae36e68da52f6eaf9b18538e9fb", func := "loop.example/g00955/laws.FnCaches", spec := "fnCaches", apart := false }
def FnCachesSaid : Prop := fnCachesRow.holds Try.pinned (OpenSpec.ofChange fnCachesSpec)

/-- ITS FALSE NEIGHBOUR: 'it returns false'. Refute it at one input. -/
def fnCachesWrong : ChangeSpec := { name := "fnCaches", fn := fun _ => fun
  | [d1, d2] => { results := [.lit (.bool false)], args := [d1, d2] }
  | _ => none }
def FnCachesWrongFalsely : Prop := fnCachesRow.holds Try.pinned (OpenSpec.ofChange fnCachesWrong)

/-- 'laws.FnExactFalseClocks': WHATEVER THE INPUT: true; the input reads as it did. -/
def fnExactFalseClocksSpec : ChangeSpec := { name := "fnExactFalseClocks", fn := fun _ => fun
  | [d] => { results := [.lit (.bool true)], args := [d] }
  | _ => none }
def fnExactFalseClocksRow : OpenClaim := { program := "ytaanabofedickaa", sum := "5ef0106fc0a7008face31513127006249cfdcae36e68da52f6eaf9b18538e9fb", func := "loop.example/g00955/laws.FnExactFalseClocks", spec := "fnExactFalseClocks", apart := false }
def FnExactFalseClocksSaid : Prop := fnExactFalseClocksRow.holds Try.pinned (OpenSpec.ofChange fnExactFalseClocksSpec)

/-- ITS FALSE NEIGHBOUR: 'it returns false'. Refute it at one input. -/
def fnExactFalseClocksWrong : ChangeSpec := { name := "fnExactFalseClocks", fn := fun _ => fun
  | [d] => { results := [.lit (.bool false)], args := [d] }
  | _ => none }
def FnExactFalseClocksWrongFalsely : Prop := fnExactFalseClocksRow.holds Try.pinned (OpenSpec.ofChange fnExactFalseClocksWrong)

/-- 'laws.FnExactOddMarks': WHATEVER THE INPUT: true; the input reads as it did. -/
def fnExactOddMarksSpec : ChangeSpec := { name := "fnExactOddMarks", fn := fun _ => fun
  | [d1, d2] => { results := [.lit (.bool true)], args := [d1, d2] }
  | _ => none }
def fnExactOddMarksRow : OpenClaim := { program := "ytaanabofedickaa", sum := "5ef0106fc0a7008face31513127006249cfdcae36e68da52f6eaf9b18538e9fb", func := "loop.example/g00955/laws.FnExactOddMarks", spec := "fnExactOddMarks", unfollowed := true, recurses := true, apart := false }
def FnExactOddMarksSaid : Prop := fnExactOddMarksRow.holds Try.pinned (OpenSpec.ofChange fnExactOddMarksSpec)

/-- ITS FALSE NEIGHBOUR: 'it returns false'. Refute it at one input. -/
def fnExactOddMarksWrong : ChangeSpec := { name := "fnExactOddMarks", fn := fun _ => fun
  | [d1, d2] => { results := [.lit (.bool false)], args := [d1, d2] }
  | _ => none }
def FnExactOddMarksWrongFalsely : Prop := fnExactOddMarksRow.holds Try.pinned (OpenSpec.ofChange fnExactOddMarksWrong)

/-- 'laws.FnExactLatenessOf': WHATEVER THE INPUT: true; the input reads as it did. -/
def fnExactLatenessOfSpec : ChangeSpec := { name := "fnExactLatenessOf", fn := fun _ => fun
  | [d1, d2, d3] => { results := [.lit (.bool true)], args := [d1, d2, d3] }
  | _ => none }
def fnExactLatenessOfRow : OpenClaim := { program := "ytaanabofedickaa", sum := "5ef0106fc0a7008face31513127006249cfdcae36e68da52f6eaf9b18538e9fb", func := "loop.example/g00955/laws.FnExactLatenessOf", spec := "fnExactLatenessOf", unfollowed := true, recurses := true, apart := false }
def FnExactLatenessOfSaid : Prop := fnExactLatenessOfRow.holds Try.pinned (OpenSpec.ofChange fnExactLatenessOfSpec)

/-- ITS FALSE NEIGHBOUR: 'it returns false'. Refute it at one input. -/
def fnExactLatenessOfWrong : ChangeSpec := { name := "fnExactLatenessOf", fn := fun _ => fun
  | [d1, d2, d3] => { results := [.lit (.bool false)], args := [d1, d2, d3] }
  | _ => none }
def FnExactLatenessOfWrongFalsely : Prop := fnExactLatenessOfRow.holds Try.pinned (OpenSpec.ofChange fnExactLatenessOfWrong)

/-- 'laws.FnExactLeastBandwidth': WHATEVER THE INPUT: true; the input reads as it did. -/
def fnExactLeastBandwidthSpec : ChangeSpec := { name := "fnExactLeastBandwidth", fn := fun _ => fun
  | [d1, d2] => { results := [.lit (.bool true)], args := [d1, d2] }
  | _ => none }
def fnExactLeastBandwidthRow : OpenClaim := { program := "ytaanabofedickaa", sum := "5ef0106fc0a7008face31513127006249cfdcae36e68da52f6eaf9b18538e9fb", func := "loop.example/g00955/laws.FnExactLeastBandwidth", spec := "fnExactLeastBandwidth", unfollowed := true, recurses := true, apart := false }
def FnExactLeastBandwidthSaid : Prop := fnExactLeastBandwidthRow.holds Try.pinned (OpenSpec.ofChange fnExactLeastBandwidthSpec)

/-- ITS FALSE NEIGHBOUR: 'it returns false'. Refute it at one input. -/
def fnExactLeastBandwidthWrong : ChangeSpec := { name := "fnExactLeastBandwidth", fn := fun _ => fun
  | [d1, d2] => { results := [.lit (.bool false)], args := [d1, d2] }
  | _ => none }
def FnExactLeastBandwidthWrongFalsely : Prop := fnExactLeastBandwidthRow.holds Try.pinned (OpenSpec.ofChange fnExactLeastBandwidthWrong)

/- THE SECOND FORM. 'bulk': how many values and letters a reading holds, each counted each time it is reached (what is shared counts as often as it is met; a slice's spare places count too). A statement '..UptoSaid' is the law's where the arguments, and the package variables that the reading takes, are together of bulk at most 1048576: NARROWER than '..Said'. Prove '..Said' where nothing that the law and all that it calls make is longer than what came in: it says more and counts as full. Else prove '..UptoSaid'. A law counts once. -/
mutual
def uptoBulk {H : Type} : DataW H → Nat
  | .lit (.string bytes) => bytes.length + 1
  | .lit _ => 1
  | .nil => 1
  | .ptr d => uptoBulk d + 1
  | .slice elems spare => uptoBulkAll elems + uptoBulkAll spare + 1
  | .agg parts => uptoBulkAll parts + 1
  | .iface _ d => uptoBulk d + 1
  | .map entries => uptoBulkEntries entries + 1
  | .held _ => 1
def uptoBulkAll {H : Type} : List (DataW H) → Nat
  | [] => 0
  | d :: r => uptoBulk d + uptoBulkAll r
def uptoBulkEntries {H : Type} : List (Lit × DataW H) → Nat
  | [] => 0
  | x :: r => uptoBulkEntry x + uptoBulkEntries r
def uptoBulkEntry {H : Type} : Lit × DataW H → Nat
  | (.string bytes, d) => bytes.length + uptoBulk d + 1
  | (_, d) => uptoBulk d + 1
 end
def uptoSmall : (H : Type) → List (DataW H) → Bool := fun _ ds => decide (uptoBulkAll ds ≤ 1048576)
def OpenSpec.upto (s : _root_.Go.ChangeSpec) : _root_.Go.OpenSpec := { _root_.Go.OpenSpec.ofChange s with cond := some uptoSmall }

/-- 'laws.FnExactValidHistory', WHERE WHAT IT READS IS OF BULK AT MOST 1048576: true; the input reads as it did. -/
def fnExactValidHistoryUptoRow : OpenClaim := { program := "ytaanabofedickaa", sum := "5ef0106fc0a7008face31513127006249cfdcae36e68da52f6eaf9b18538e9fb", func := "loop.example/g00955/laws.FnExactValidHistory", spec := "fnExactValidHistory", apart := false, narrowed := true }
def FnExactValidHistoryUptoSaid : Prop := fnExactValidHistoryUptoRow.holds Try.pinned (OpenSpec.upto fnExactValidHistorySpec)

/-- 'laws.FnExactLateMachines', WHERE WHAT IT READS IS OF BULK AT MOST 1048576: true; the input reads as it did. -/
def fnExactLateMachinesUptoRow : OpenClaim := { program := "ytaanabofedickaa", sum := "5ef0106fc0a7008face31513127006249cfdcae36e68da52f6eaf9b18538e9fb", func := "loop.example/g00955/laws.FnExactLateMachines", spec := "fnExactLateMachines", apart := false, narrowed := true }
def FnExactLateMachinesUptoSaid : Prop := fnExactLateMachinesUptoRow.holds Try.pinned (OpenSpec.upto fnExactLateMachinesSpec)

/-- 'laws.FnExactValidNeeds', WHERE WHAT IT READS IS OF BULK AT MOST 1048576: true; the input reads as it did. -/
def fnExactValidNeedsUptoRow : OpenClaim := { program := "ytaanabofedickaa", sum := "5ef0106fc0a7008face31513127006249cfdcae36e68da52f6eaf9b18538e9fb", func := "loop.example/g00955/laws.FnExactValidNeeds", spec := "fnExactValidNeeds", unfollowed := true, recurses := true, apart := false, narrowed := true }
def FnExactValidNeedsUptoSaid : Prop := fnExactValidNeedsUptoRow.holds Try.pinned (OpenSpec.upto fnExactValidNeedsSpec)

/-- 'laws.FnExactCorrectMarks', WHERE WHAT IT READS IS OF BULK AT MOST 1048576: true; the input reads as it did. -/
def fnExactCorrectMarksUptoRow : OpenClaim := { program := "ytaanabofedickaa", sum := "5ef0106fc0a7008face31513127006249cfdcae36e68da52f6eaf9b18538e9fb", func := "loop.example/g00955/laws.FnExactCorrectMarks", spec := "fnExactCorrectMarks", unfollowed := true, recurses := true, apart := false, narrowed := true }
def FnExactCorrectMarksUptoSaid : Prop := fnExactCorrectMarksUptoRow.holds Try.pinned (OpenSpec.upto fnExactCorrectMarksSpec)

/-- 'laws.FnExactDiffStates', WHERE WHAT IT READS IS OF BULK AT MOST 1048576: true; the input reads as it did. -/
def fnExactDiffStatesUptoRow : OpenClaim := { program := "ytaanabofedickaa", sum := "5ef0106fc0a7008face31513127006249cfdcae36e68da52f6eaf9b18538e9fb", func := "loop.example/g00955/laws.FnExactDiffStates", spec := "fnExactDiffStates", unfollowed := true, recurses := true, apart := false, narrowed := true }
def FnExactDiffStatesUptoSaid : Prop := fnExactDiffStatesUptoRow.holds Try.pinned (OpenSpec.upto fnExactDiffStatesSpec)

/-- 'laws.FnCaches', WHERE WHAT IT READS IS OF BULK AT MOST 1048576: true; the input reads as it did. -/
def fnCachesUptoRow : OpenClaim := { program := "ytaanabofedickaa", sum := "5ef0106fc0a7008face31513127006249cfdcae36e68da52f6eaf9b18538e9fb", func := "loop.example/g00955/laws.FnCaches", spec := "fnCaches", apart := false, narrowed := true }
def FnCachesUptoSaid : Prop := fnCachesUptoRow.holds Try.pinned (OpenSpec.upto fnCachesSpec)

/-- 'laws.FnExactFalseClocks', WHERE WHAT IT READS IS OF BULK AT MOST 1048576: true; the input reads as it did. -/
def fnExactFalseClocksUptoRow : OpenClaim := { program := "ytaanabofedickaa", sum := "5ef0106fc0a7008face31513127006249cfdcae36e68da52f6eaf9b18538e9fb", func := "loop.example/g00955/laws.FnExactFalseClocks", spec := "fnExactFalseClocks", apart := false, narrowed := true }
def FnExactFalseClocksUptoSaid : Prop := fnExactFalseClocksUptoRow.holds Try.pinned (OpenSpec.upto fnExactFalseClocksSpec)

/-- 'laws.FnExactOddMarks', WHERE WHAT IT READS IS OF BULK AT MOST 1048576: true; the input reads as it did. -/
def fnExactOddMarksUptoRow : OpenClaim := { program := "ytaanabofedickaa", sum := "5ef0106fc0a7008face31513127006249cfdcae36e68da52f6eaf9b18538e9fb", func := "loop.example/g00955/laws.FnExactOddMarks", spec := "fnExactOddMarks", unfollowed := true, recurses := true, apart := false, narrowed := true }
def FnExactOddMarksUptoSaid : Prop := fnExactOddMarksUptoRow.holds Try.pinned (OpenSpec.upto fnExactOddMarksSpec)

/-- 'laws.FnExactLatenessOf', WHERE WHAT IT READS IS OF BULK AT MOST 1048576: true; the input reads as it did. -/
def fnExactLatenessOfUptoRow : OpenClaim := { program := "ytaanabofedickaa", sum := "5ef0106fc0a7008face31513127006249cfdcae36e68da52f6eaf9b18538e9fb", func := "loop.example/g00955/laws.FnExactLatenessOf", spec := "fnExactLatenessOf", unfollowed := true, recurses := true, apart := false, narrowed := true }
def FnExactLatenessOfUptoSaid : Prop := fnExactLatenessOfUptoRow.holds Try.pinned (OpenSpec.upto fnExactLatenessOfSpec)

/-- 'laws.FnExactLeastBandwidth', WHERE WHAT IT READS IS OF BULK AT MOST 1048576: true; the input reads as it did. -/
def fnExactLeastBandwidthUptoRow : OpenClaim := { program := "ytaanabofedickaa", sum := "5ef0106fc0a7008face31513127006249cfdcae36e68da52f6eaf9b18538e9fb", func := "loop.example/g00955/laws.FnExactLeastBandwidth", spec := "fnExactLeastBandwidth", unfollowed := true, recurses := true, apart := false, narrowed := true }
def FnExactLeastBandwidthUptoSaid : Prop := fnExactLeastBandwidthUptoRow.holds Try.pinned (OpenSpec.upto fnExactLeastBandwidthSpec)

end Rows
end Go.Proofs.Ytaanabofedickaa
