/-
  No cell of these rows narrows 'for every input' (looked for: loops, veiled, ifaces, maps, wideKeys, modest, calm, conditions, laid).
  DERIVED. THE GIVEN ROWS OF THIS SEAT. 11 by the template 'for every input the law returns true; each argument reads behind the call as it read before'; 0 by the template 'total and deterministic' (their statements: YtglblonacmhceaaTotals.lean).
  GIVEN WITH THE SEED: the statements are not yours to turn. If you find one false, say at which input.
  Laid BY PROGRAM, IN A SANDBOX (cutbox-rows.mjs): the forced cells as the released guide's own fill.sh prints them over the translation d47756a3d9eec048… (all of the seat's roots in one cut). By AI agents, Wed Nov 11 2026. No macro, syntax, notation, axiom, sorry.
-/
import Derived.Test.YtglblonacmhceaaChecked
import GoSem.Claim
import GoSem.ClaimJoined
import GoSem.ClaimMapViews
import Derived.JoinedTies
import Derived.KernelRfl
namespace Go.Proofs.Ytglblonacmhceaa
/- THE CELL 'sum', in the pinned program and in every row, IS THE sha256 OF THE DUMP (.gsa) THAT YtglblonacmhceaaProg.lean LOADS. Nothing in Lean hashes anything: it is a label: what it is worth is what the hold of that sum in a sandbox is worth. -/
noncomputable def Try.pinned : Pinned := { name := "ytglblonacmhceaa", sum := "d47756a3d9eec048c7676daf67a26ced6a7f28d02ae09975ce1fa9ee9c79f73b", checked := Try.checked }
namespace Rows
def none {H : Type} : Left H := { results := [], args := [] }

/-- 'laws.FnExactLoadTime': WHATEVER THE INPUT: true; the input reads as it did. -/
def fnExactLoadTimeSpec : ChangeSpec := { name := "fnExactLoadTime", fn := fun _ => fun
  | [d1, d2, d3] => { results := [.lit (.bool true)], args := [d1, d2, d3] }
  | _ => none }
def fnExactLoadTimeRow : OpenClaim := { program := "ytglblonacmhceaa", sum := "d47756a3d9eec048c7676daf67a26ced6a7f28d02ae09975ce1fa9ee9c79f73b", func := "loop.example/g00955/laws.FnExactLoadTime", spec := "fnExactLoadTime", apart := false }
def FnExactLoadTimeSaid : Prop := fnExactLoadTimeRow.holds Try.pinned (OpenSpec.ofChange fnExactLoadTimeSpec)

/-- ITS FALSE NEIGHBOUR: 'it returns false'. Refute it at one input. -/
def fnExactLoadTimeWrong : ChangeSpec := { name := "fnExactLoadTime", fn := fun _ => fun
  | [d1, d2, d3] => { results := [.lit (.bool false)], args := [d1, d2, d3] }
  | _ => none }
def FnExactLoadTimeWrongFalsely : Prop := fnExactLoadTimeRow.holds Try.pinned (OpenSpec.ofChange fnExactLoadTimeWrong)

/-- 'laws.FnExactDueDay': WHATEVER THE INPUT: true; the input reads as it did. -/
def fnExactDueDaySpec : ChangeSpec := { name := "fnExactDueDay", fn := fun _ => fun
  | [d1, d2] => { results := [.lit (.bool true)], args := [d1, d2] }
  | _ => none }
def fnExactDueDayRow : OpenClaim := { program := "ytglblonacmhceaa", sum := "d47756a3d9eec048c7676daf67a26ced6a7f28d02ae09975ce1fa9ee9c79f73b", func := "loop.example/g00955/laws.FnExactDueDay", spec := "fnExactDueDay", apart := false }
def FnExactDueDaySaid : Prop := fnExactDueDayRow.holds Try.pinned (OpenSpec.ofChange fnExactDueDaySpec)

/-- ITS FALSE NEIGHBOUR: 'it returns false'. Refute it at one input. -/
def fnExactDueDayWrong : ChangeSpec := { name := "fnExactDueDay", fn := fun _ => fun
  | [d1, d2] => { results := [.lit (.bool false)], args := [d1, d2] }
  | _ => none }
def FnExactDueDayWrongFalsely : Prop := fnExactDueDayRow.holds Try.pinned (OpenSpec.ofChange fnExactDueDayWrong)

/-- 'laws.FnSeating': WHATEVER THE INPUT: true; the input reads as it did. -/
def fnSeatingSpec : ChangeSpec := { name := "fnSeating", fn := fun _ => fun
  | [d] => { results := [.lit (.bool true)], args := [d] }
  | _ => none }
def fnSeatingRow : OpenClaim := { program := "ytglblonacmhceaa", sum := "d47756a3d9eec048c7676daf67a26ced6a7f28d02ae09975ce1fa9ee9c79f73b", func := "loop.example/g00955/laws.FnSeating", spec := "fnSeating", unfollowed := true, recurses := true, apart := false }
def FnSeatingSaid : Prop := fnSeatingRow.holds Try.pinned (OpenSpec.ofChange fnSeatingSpec)

/-- ITS FALSE NEIGHBOUR: 'it returns false'. Refute it at one input. -/
def fnSeatingWrong : ChangeSpec := { name := "fnSeating", fn := fun _ => fun
  | [d] => { results := [.lit (.bool false)], args := [d] }
  | _ => none }
def FnSeatingWrongFalsely : Prop := fnSeatingRow.holds Try.pinned (OpenSpec.ofChange fnSeatingWrong)

/-- 'laws.FnExactLeadFor': WHATEVER THE INPUT: true; the input reads as it did. -/
def fnExactLeadForSpec : ChangeSpec := { name := "fnExactLeadFor", fn := fun _ => fun
  | [d1, d2] => { results := [.lit (.bool true)], args := [d1, d2] }
  | _ => none }
def fnExactLeadForRow : OpenClaim := { program := "ytglblonacmhceaa", sum := "d47756a3d9eec048c7676daf67a26ced6a7f28d02ae09975ce1fa9ee9c79f73b", func := "loop.example/g00955/laws.FnExactLeadFor", spec := "fnExactLeadFor", apart := false }
def FnExactLeadForSaid : Prop := fnExactLeadForRow.holds Try.pinned (OpenSpec.ofChange fnExactLeadForSpec)

/-- ITS FALSE NEIGHBOUR: 'it returns false'. Refute it at one input. -/
def fnExactLeadForWrong : ChangeSpec := { name := "fnExactLeadFor", fn := fun _ => fun
  | [d1, d2] => { results := [.lit (.bool false)], args := [d1, d2] }
  | _ => none }
def FnExactLeadForWrongFalsely : Prop := fnExactLeadForRow.holds Try.pinned (OpenSpec.ofChange fnExactLeadForWrong)

/-- 'laws.FnExactErrorOn': WHATEVER THE INPUT: true; the input reads as it did. -/
def fnExactErrorOnSpec : ChangeSpec := { name := "fnExactErrorOn", fn := fun _ => fun
  | [d1, d2] => { results := [.lit (.bool true)], args := [d1, d2] }
  | _ => none }
def fnExactErrorOnRow : OpenClaim := { program := "ytglblonacmhceaa", sum := "d47756a3d9eec048c7676daf67a26ced6a7f28d02ae09975ce1fa9ee9c79f73b", func := "loop.example/g00955/laws.FnExactErrorOn", spec := "fnExactErrorOn", unfollowed := true, recurses := true, apart := false }
def FnExactErrorOnSaid : Prop := fnExactErrorOnRow.holds Try.pinned (OpenSpec.ofChange fnExactErrorOnSpec)

/-- ITS FALSE NEIGHBOUR: 'it returns false'. Refute it at one input. -/
def fnExactErrorOnWrong : ChangeSpec := { name := "fnExactErrorOn", fn := fun _ => fun
  | [d1, d2] => { results := [.lit (.bool false)], args := [d1, d2] }
  | _ => none }
def FnExactErrorOnWrongFalsely : Prop := fnExactErrorOnRow.holds Try.pinned (OpenSpec.ofChange fnExactErrorOnWrong)

/-- 'laws.FnDue': WHATEVER THE INPUT: true; the input reads as it did. -/
def fnDueSpec : ChangeSpec := { name := "fnDue", fn := fun _ => fun
  | [d1, d2] => { results := [.lit (.bool true)], args := [d1, d2] }
  | _ => none }
def fnDueRow : OpenClaim := { program := "ytglblonacmhceaa", sum := "d47756a3d9eec048c7676daf67a26ced6a7f28d02ae09975ce1fa9ee9c79f73b", func := "loop.example/g00955/laws.FnDue", spec := "fnDue", unfollowed := true, recurses := true, apart := false }
def FnDueSaid : Prop := fnDueRow.holds Try.pinned (OpenSpec.ofChange fnDueSpec)

/-- ITS FALSE NEIGHBOUR: 'it returns false'. Refute it at one input. -/
def fnDueWrong : ChangeSpec := { name := "fnDue", fn := fun _ => fun
  | [d1, d2] => { results := [.lit (.bool false)], args := [d1, d2] }
  | _ => none }
def FnDueWrongFalsely : Prop := fnDueRow.holds Try.pinned (OpenSpec.ofChange fnDueWrong)

/-- 'laws.FnExactSameHistory': WHATEVER THE INPUT: true; the input reads as it did. -/
def fnExactSameHistorySpec : ChangeSpec := { name := "fnExactSameHistory", fn := fun _ => fun
  | [d1, d2] => { results := [.lit (.bool true)], args := [d1, d2] }
  | _ => none }
def fnExactSameHistoryRow : OpenClaim := { program := "ytglblonacmhceaa", sum := "d47756a3d9eec048c7676daf67a26ced6a7f28d02ae09975ce1fa9ee9c79f73b", func := "loop.example/g00955/laws.FnExactSameHistory", spec := "fnExactSameHistory", unfollowed := true, recurses := true, apart := false }
def FnExactSameHistorySaid : Prop := fnExactSameHistoryRow.holds Try.pinned (OpenSpec.ofChange fnExactSameHistorySpec)

/-- ITS FALSE NEIGHBOUR: 'it returns false'. Refute it at one input. -/
def fnExactSameHistoryWrong : ChangeSpec := { name := "fnExactSameHistory", fn := fun _ => fun
  | [d1, d2] => { results := [.lit (.bool false)], args := [d1, d2] }
  | _ => none }
def FnExactSameHistoryWrongFalsely : Prop := fnExactSameHistoryRow.holds Try.pinned (OpenSpec.ofChange fnExactSameHistoryWrong)

/-- 'laws.FnExactMachineOf': WHATEVER THE INPUT: true; the input reads as it did. -/
def fnExactMachineOfSpec : ChangeSpec := { name := "fnExactMachineOf", fn := fun _ => fun
  | [d1, d2] => { results := [.lit (.bool true)], args := [d1, d2] }
  | _ => none }
def fnExactMachineOfRow : OpenClaim := { program := "ytglblonacmhceaa", sum := "d47756a3d9eec048c7676daf67a26ced6a7f28d02ae09975ce1fa9ee9c79f73b", func := "loop.example/g00955/laws.FnExactMachineOf", spec := "fnExactMachineOf", unfollowed := true, recurses := true, apart := false }
def FnExactMachineOfSaid : Prop := fnExactMachineOfRow.holds Try.pinned (OpenSpec.ofChange fnExactMachineOfSpec)

/-- ITS FALSE NEIGHBOUR: 'it returns false'. Refute it at one input. -/
def fnExactMachineOfWrong : ChangeSpec := { name := "fnExactMachineOf", fn := fun _ => fun
  | [d1, d2] => { results := [.lit (.bool false)], args := [d1, d2] }
  | _ => none }
def FnExactMachineOfWrongFalsely : Prop := fnExactMachineOfRow.holds Try.pinned (OpenSpec.ofChange fnExactMachineOfWrong)

/-- 'laws.FnExactTotalSize': WHATEVER THE INPUT: true; the input reads as it did. -/
def fnExactTotalSizeSpec : ChangeSpec := { name := "fnExactTotalSize", fn := fun _ => fun
  | [d1, d2] => { results := [.lit (.bool true)], args := [d1, d2] }
  | _ => none }
def fnExactTotalSizeRow : OpenClaim := { program := "ytglblonacmhceaa", sum := "d47756a3d9eec048c7676daf67a26ced6a7f28d02ae09975ce1fa9ee9c79f73b", func := "loop.example/g00955/laws.FnExactTotalSize", spec := "fnExactTotalSize", apart := false }
def FnExactTotalSizeSaid : Prop := fnExactTotalSizeRow.holds Try.pinned (OpenSpec.ofChange fnExactTotalSizeSpec)

/-- ITS FALSE NEIGHBOUR: 'it returns false'. Refute it at one input. -/
def fnExactTotalSizeWrong : ChangeSpec := { name := "fnExactTotalSize", fn := fun _ => fun
  | [d1, d2] => { results := [.lit (.bool false)], args := [d1, d2] }
  | _ => none }
def FnExactTotalSizeWrongFalsely : Prop := fnExactTotalSizeRow.holds Try.pinned (OpenSpec.ofChange fnExactTotalSizeWrong)

/-- 'laws.FnExactAgreedOffset': WHATEVER THE INPUT: true; the input reads as it did. -/
def fnExactAgreedOffsetSpec : ChangeSpec := { name := "fnExactAgreedOffset", fn := fun _ => fun
  | [d] => { results := [.lit (.bool true)], args := [d] }
  | _ => none }
def fnExactAgreedOffsetRow : OpenClaim := { program := "ytglblonacmhceaa", sum := "d47756a3d9eec048c7676daf67a26ced6a7f28d02ae09975ce1fa9ee9c79f73b", func := "loop.example/g00955/laws.FnExactAgreedOffset", spec := "fnExactAgreedOffset", apart := false }
def FnExactAgreedOffsetSaid : Prop := fnExactAgreedOffsetRow.holds Try.pinned (OpenSpec.ofChange fnExactAgreedOffsetSpec)

/-- ITS FALSE NEIGHBOUR: 'it returns false'. Refute it at one input. -/
def fnExactAgreedOffsetWrong : ChangeSpec := { name := "fnExactAgreedOffset", fn := fun _ => fun
  | [d] => { results := [.lit (.bool false)], args := [d] }
  | _ => none }
def FnExactAgreedOffsetWrongFalsely : Prop := fnExactAgreedOffsetRow.holds Try.pinned (OpenSpec.ofChange fnExactAgreedOffsetWrong)

/-- 'laws.FnExactFitMarks': WHATEVER THE INPUT: true; the input reads as it did. -/
def fnExactFitMarksSpec : ChangeSpec := { name := "fnExactFitMarks", fn := fun _ => fun
  | [d] => { results := [.lit (.bool true)], args := [d] }
  | _ => none }
def fnExactFitMarksRow : OpenClaim := { program := "ytglblonacmhceaa", sum := "d47756a3d9eec048c7676daf67a26ced6a7f28d02ae09975ce1fa9ee9c79f73b", func := "loop.example/g00955/laws.FnExactFitMarks", spec := "fnExactFitMarks", unfollowed := true, recurses := true, apart := false }
def FnExactFitMarksSaid : Prop := fnExactFitMarksRow.holds Try.pinned (OpenSpec.ofChange fnExactFitMarksSpec)

/-- ITS FALSE NEIGHBOUR: 'it returns false'. Refute it at one input. -/
def fnExactFitMarksWrong : ChangeSpec := { name := "fnExactFitMarks", fn := fun _ => fun
  | [d] => { results := [.lit (.bool false)], args := [d] }
  | _ => none }
def FnExactFitMarksWrongFalsely : Prop := fnExactFitMarksRow.holds Try.pinned (OpenSpec.ofChange fnExactFitMarksWrong)

/- THE SECOND FORM. 'bulk': how many values and letters a reading holds, each counted each time it is reached (what is shared counts as often as it is met; a slice's spare places count too). A statement '..UptoSaid' is the law's where the arguments, and the package variables that the reading takes, are together of bulk at most 1048576: NARROWER than '..Said'. Prove '..Said' where nothing that the law and all that it calls make is longer than what came in: it says more and counts as full. Else prove '..UptoSaid'. A law counts once. -/
mutual
def uptoBulk {H : Type} : DataW H → Nat
  | .lit (.string bytes) => bytes.length + 1
  | .lit _ => 1
  | .nil => 1
  | .ptr d => uptoBulk d + 1
  | .slice elems spare => uptoBulkAll elems + uptoBulkAll spare + 1
  | .agg parts => uptoBulkAll parts + 1
  | .iface _ d => uptoBulk d + 1
  | .map entries => uptoBulkEntries entries + 1
  | .held _ => 1
def uptoBulkAll {H : Type} : List (DataW H) → Nat
  | [] => 0
  | d :: r => uptoBulk d + uptoBulkAll r
def uptoBulkEntries {H : Type} : List (Lit × DataW H) → Nat
  | [] => 0
  | x :: r => uptoBulkEntry x + uptoBulkEntries r
def uptoBulkEntry {H : Type} : Lit × DataW H → Nat
  | (.string bytes, d) => bytes.length + uptoBulk d + 1
  | (_, d) => uptoBulk d + 1
 end
def uptoSmall : (H : Type) → List (DataW H) → Bool := fun _ ds => decide (uptoBulkAll ds ≤ 1048576)
def OpenSpec.upto (s : _root_.Go.ChangeSpec) : _root_.Go.OpenSpec := { _root_.Go.OpenSpec.ofChange s with cond := some uptoSmall }

/-- 'laws.FnExactLoadTime', WHERE WHAT IT READS IS OF BULK AT MOST 1048576: true; the input reads as it did. -/
def fnExactLoadTimeUptoRow : OpenClaim := { program := "ytglblonacmhceaa", sum := "d47756a3d9eec048c7676daf67a26ced6a7f28d02ae09975ce1fa9ee9c79f73b", func := "loop.example/g00955/laws.FnExactLoadTime", spec := "fnExactLoadTime", apart := false, narrowed := true }
def FnExactLoadTimeUptoSaid : Prop := fnExactLoadTimeUptoRow.holds Try.pinned (OpenSpec.upto fnExactLoadTimeSpec)

/-- 'laws.FnExactDueDay', WHERE WHAT IT READS IS OF BULK AT MOST 1048576: true; the input reads as it did. -/
def fnExactDueDayUptoRow : OpenClaim := { program := "ytglblonacmhceaa", sum := "d47756a3d9eec048c7676daf67a26ced6a7f28d02ae09975ce1fa9ee9c79f73b", func := "loop.example/g00955/laws.FnExactDueDay", spec := "fnExactDueDay", apart := false, narrowed := true }
def FnExactDueDayUptoSaid : Prop := fnExactDueDayUptoRow.holds Try.pinned (OpenSpec.upto fnExactDueDaySpec)

/-- 'laws.FnSeating', WHERE WHAT IT READS IS OF BULK AT MOST 1048576: true; the input reads as it did. -/
def fnSeatingUptoRow : OpenClaim := { program := "ytglblonacmhceaa", sum := "d47756a3d9eec048c7676daf67a26ced6a7f28d02ae09975ce1fa9ee9c79f73b", func := "loop.example/g00955/laws.FnSeating", spec := "fnSeating", unfollowed := true, recurses := true, apart := false, narrowed := true }
def FnSeatingUptoSaid : Prop := fnSeatingUptoRow.holds Try.pinned (OpenSpec.upto fnSeatingSpec)

/-- 'laws.FnExactLeadFor', WHERE WHAT IT READS IS OF BULK AT MOST 1048576: true; the input reads as it did. -/
def fnExactLeadForUptoRow : OpenClaim := { program := "ytglblonacmhceaa", sum := "d47756a3d9eec048c7676daf67a26ced6a7f28d02ae09975ce1fa9ee9c79f73b", func := "loop.example/g00955/laws.FnExactLeadFor", spec := "fnExactLeadFor", apart := false, narrowed := true }
def FnExactLeadForUptoSaid : Prop := fnExactLeadForUptoRow.holds Try.pinned (OpenSpec.upto fnExactLeadForSpec)

/-- 'laws.FnExactErrorOn', WHERE WHAT IT READS IS OF BULK AT MOST 1048576: true; the input reads as it did. -/
def fnExactErrorOnUptoRow : OpenClaim := { program := "ytglblonacmhceaa", sum := "d47756a3d9eec048c7676daf67a26ced6a7f28d02ae09975ce1fa9ee9c79f73b", func := "loop.example/g00955/laws.FnExactErrorOn", spec := "fnExactErrorOn", unfollowed := true, recurses := true, apart := false, narrowed := true }
def FnExactErrorOnUptoSaid : Prop := fnExactErrorOnUptoRow.holds Try.pinned (OpenSpec.upto fnExactErrorOnSpec)

/-- 'laws.FnDue', WHERE WHAT IT READS IS OF BULK AT MOST 1048576: true; the input reads as it did. -/
def fnDueUptoRow : OpenClaim := { program := "ytglblonacmhceaa", sum := "d47756a3d9eec048c7676daf67a26ced6a7f28d02ae09975ce1fa9ee9c79f73b", func := "loop.example/g00955/laws.FnDue", spec := "fnDue", unfollowed := true, recurses := true, apart := false, narrowed := true }
def FnDueUptoSaid : Prop := fnDueUptoRow.holds Try.pinned (OpenSpec.upto fnDueSpec)

/-- 'laws.FnExactSameHistory', WHERE WHAT IT READS IS OF BULK AT MOST 1048576: true; the input reads as it did. -/
def fnExactSameHistoryUptoRow : OpenClaim := { program := "ytglblonacmhceaa", sum := "d47756a3d9eec048c7676daf67a26ced6a7f28d02ae09975ce1fa9ee9c79f73b", func := "loop.example/g00955/laws.FnExactSameHistory", spec := "fnExactSameHistory", unfollowed := true, recurses := true, apart := false, narrowed := true }
def FnExactSameHistoryUptoSaid : Prop := fnExactSameHistoryUptoRow.holds Try.pinned (OpenSpec.upto fnExactSameHistorySpec)

/-- 'laws.FnExactMachineOf', WHERE WHAT IT READS IS OF BULK AT MOST 1048576: true; the input reads as it did. -/
def fnExactMachineOfUptoRow : OpenClaim := { program := "ytglblonacmhceaa", sum := "d47756a3d9eec048c7676daf67a26ced6a7f28d02ae09975ce1fa9ee9c79f73b", func := "loop.example/g00955/laws.FnExactMachineOf", spec := "fnExactMachineOf", unfollowed := true, recurses := true, apart := false, narrowed := true }
def FnExactMachineOfUptoSaid : Prop := fnExactMachineOfUptoRow.holds Try.pinned (OpenSpec.upto fnExactMachineOfSpec)

/-- 'laws.FnExactTotalSize', WHERE WHAT IT READS IS OF BULK AT MOST 1048576: true; the input reads as it did. -/
def fnExactTotalSizeUptoRow : OpenClaim := { program := "ytglblonacmhceaa", sum := "d47756a3d9eec048c7676daf67a26ced6a7f28d02ae09975ce1fa9ee9c79f73b", func := "loop.example/g00955/laws.FnExactTotalSize", spec := "fnExactTotalSize", apart := false, narrowed := true }
def FnExactTotalSizeUptoSaid : Prop := fnExactTotalSizeUptoRow.holds Try.pinned (OpenSpec.upto fnExactTotalSizeSpec)

/-- 'laws.FnExactAgreedOffset', WHERE WHAT IT READS IS OF BULK AT MOST 1048576: true; the input reads as it did. -/
def fnExactAgreedOffsetUptoRow : OpenClaim := { program := "ytglblonacmhceaa", sum := "d47756a3d9eec048c7676daf67a26ced6a7f28d02ae09975ce1fa9ee9c79f73b", func := "loop.example/g00955/laws.FnExactAgreedOffset", spec := "fnExactAgreedOffset", apart := false, narrowed := true }
def FnExactAgreedOffsetUptoSaid : Prop := fnExactAgreedOffsetUptoRow.holds Try.pinned (OpenSpec.upto fnExactAgreedOffsetSpec)

/-- 'laws.FnExactFitMarks', WHERE WHAT IT READS IS OF BULK AT MOST 1048576: true; the input reads as it did. -/
def fnExactFitMarksUptoRow : OpenClaim := { program := "ytglblonacmhceaa", sum := "d47756a3d9eec048c7676daf67a26ced6a7f28d02ae09975ce1fa9ee9c79f73b", func := "loop.example/g00955/laws.FnExactFitMarks", spec := "fnExactFitMarks", unfollowed := true, recurses := true, apart := false, narrowed := true }
def FnExactFitMarksUptoSaid : Prop := fnExactFitMarksUptoRow.holds Try.pinned (OpenSpec.upto fnExactFitMarksSpec)

end Rows
end Go.Proofs.Ytglblonacmhceaa
