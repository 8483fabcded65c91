/-
  No cell of these rows narrows 'for every input' (looked for: loops, veiled, ifaces, maps, wideKeys, modest, calm, conditions, laid).
  DERIVED. THE GIVEN ROWS OF THIS SEAT. 12 by the template 'for every input the law returns true; each argument reads behind the call as it read before'; 0 by the template 'total and deterministic' (their statements: YtjmicabmkipomaaTotals.lean).
  GIVEN WITH THE SEED: the statements are not yours to turn. If you find one false, say at which input.
  Laid BY PROGRAM, IN A SANDBOX (cutbox-rows.mjs): the forced cells as the released guide's own fill.sh prints them over the translation 04c657f058fec6d1… (all of the seat's roots in one cut). By AI agents, Wed Nov 11 2026. No macro, syntax, notation, axiom, sorry.
-/
import Derived.Test.YtjmicabmkipomaaChecked
import GoSem.Claim
import GoSem.ClaimJoined
import GoSem.ClaimMapViews
import Derived.JoinedTies
import Derived.KernelRfl
namespace Go.Proofs.Ytjmicabmkipomaa
/- THE CELL 'sum', in the pinned program and in every row, IS THE sha256 OF THE DUMP (.gsa) THAT YtjmicabmkipomaaProg.lean LOADS. Nothing in Lean hashes anything: it is a label: what it is worth is what the hold of that sum in a sandbox is worth. -/
noncomputable def Try.pinned : Pinned := { name := "ytjmicabmkipomaa", sum := "04c657f058fec6d10ab49924e13b60bac53cc9dc579fa932e96dd8620e6a4486", checked := Try.checked }
namespace Rows
def none {H : Type} : Left H := { results := [], args := [] }

/-- 'laws.FnExactValidSample': WHATEVER THE INPUT: true; the input reads as it did. -/
def fnExactValidSampleSpec : ChangeSpec := { name := "fnExactValidSample", fn := fun _ => fun
  | [d] => { results := [.lit (.bool true)], args := [d] }
  | _ => none }
def fnExactValidSampleRow : OpenClaim := { program := "ytjmicabmkipomaa", sum := "04c657f058fec6d10ab49924e13b60bac53cc9dc579fa932e96dd8620e6a4486", func := "loop.example/g00955/laws.FnExactValidSample", spec := "fnExactValidSample", apart := false }
def FnExactValidSampleSaid : Prop := fnExactValidSampleRow.holds Try.pinned (OpenSpec.ofChange fnExactValidSampleSpec)

/-- ITS FALSE NEIGHBOUR: 'it returns false'. Refute it at one input. -/
def fnExactValidSampleWrong : ChangeSpec := { name := "fnExactValidSample", fn := fun _ => fun
  | [d] => { results := [.lit (.bool false)], args := [d] }
  | _ => none }
def FnExactValidSampleWrongFalsely : Prop := fnExactValidSampleRow.holds Try.pinned (OpenSpec.ofChange fnExactValidSampleWrong)

/-- 'laws.FnExactOffsetOf': WHATEVER THE INPUT: true; the input reads as it did. -/
def fnExactOffsetOfSpec : ChangeSpec := { name := "fnExactOffsetOf", fn := fun _ => fun
  | [d] => { results := [.lit (.bool true)], args := [d] }
  | _ => none }
def fnExactOffsetOfRow : OpenClaim := { program := "ytjmicabmkipomaa", sum := "04c657f058fec6d10ab49924e13b60bac53cc9dc579fa932e96dd8620e6a4486", func := "loop.example/g00955/laws.FnExactOffsetOf", spec := "fnExactOffsetOf", apart := false }
def FnExactOffsetOfSaid : Prop := fnExactOffsetOfRow.holds Try.pinned (OpenSpec.ofChange fnExactOffsetOfSpec)

/-- ITS FALSE NEIGHBOUR: 'it returns false'. Refute it at one input. -/
def fnExactOffsetOfWrong : ChangeSpec := { name := "fnExactOffsetOf", fn := fun _ => fun
  | [d] => { results := [.lit (.bool false)], args := [d] }
  | _ => none }
def FnExactOffsetOfWrongFalsely : Prop := fnExactOffsetOfRow.holds Try.pinned (OpenSpec.ofChange fnExactOffsetOfWrong)

/-- 'laws.FnExactValidMark': WHATEVER THE INPUT: true; the input reads as it did. -/
def fnExactValidMarkSpec : ChangeSpec := { name := "fnExactValidMark", fn := fun _ => fun
  | [d] => { results := [.lit (.bool true)], args := [d] }
  | _ => none }
def fnExactValidMarkRow : OpenClaim := { program := "ytjmicabmkipomaa", sum := "04c657f058fec6d10ab49924e13b60bac53cc9dc579fa932e96dd8620e6a4486", func := "loop.example/g00955/laws.FnExactValidMark", spec := "fnExactValidMark", apart := false }
def FnExactValidMarkSaid : Prop := fnExactValidMarkRow.holds Try.pinned (OpenSpec.ofChange fnExactValidMarkSpec)

/-- ITS FALSE NEIGHBOUR: 'it returns false'. Refute it at one input. -/
def fnExactValidMarkWrong : ChangeSpec := { name := "fnExactValidMark", fn := fun _ => fun
  | [d] => { results := [.lit (.bool false)], args := [d] }
  | _ => none }
def FnExactValidMarkWrongFalsely : Prop := fnExactValidMarkRow.holds Try.pinned (OpenSpec.ofChange fnExactValidMarkWrong)

/-- 'laws.FnExactOwnTime': WHATEVER THE INPUT: true; the input reads as it did. -/
def fnExactOwnTimeSpec : ChangeSpec := { name := "fnExactOwnTime", fn := fun _ => fun
  | [d1, d2] => { results := [.lit (.bool true)], args := [d1, d2] }
  | _ => none }
def fnExactOwnTimeRow : OpenClaim := { program := "ytjmicabmkipomaa", sum := "04c657f058fec6d10ab49924e13b60bac53cc9dc579fa932e96dd8620e6a4486", func := "loop.example/g00955/laws.FnExactOwnTime", spec := "fnExactOwnTime", apart := false }
def FnExactOwnTimeSaid : Prop := fnExactOwnTimeRow.holds Try.pinned (OpenSpec.ofChange fnExactOwnTimeSpec)

/-- ITS FALSE NEIGHBOUR: 'it returns false'. Refute it at one input. -/
def fnExactOwnTimeWrong : ChangeSpec := { name := "fnExactOwnTime", fn := fun _ => fun
  | [d1, d2] => { results := [.lit (.bool false)], args := [d1, d2] }
  | _ => none }
def FnExactOwnTimeWrongFalsely : Prop := fnExactOwnTimeRow.holds Try.pinned (OpenSpec.ofChange fnExactOwnTimeWrong)

/-- 'laws.FnExactValidSessions': WHATEVER THE INPUT: true; the input reads as it did. -/
def fnExactValidSessionsSpec : ChangeSpec := { name := "fnExactValidSessions", fn := fun _ => fun
  | [d] => { results := [.lit (.bool true)], args := [d] }
  | _ => none }
def fnExactValidSessionsRow : OpenClaim := { program := "ytjmicabmkipomaa", sum := "04c657f058fec6d10ab49924e13b60bac53cc9dc579fa932e96dd8620e6a4486", func := "loop.example/g00955/laws.FnExactValidSessions", spec := "fnExactValidSessions", apart := false }
def FnExactValidSessionsSaid : Prop := fnExactValidSessionsRow.holds Try.pinned (OpenSpec.ofChange fnExactValidSessionsSpec)

/-- ITS FALSE NEIGHBOUR: 'it returns false'. Refute it at one input. -/
def fnExactValidSessionsWrong : ChangeSpec := { name := "fnExactValidSessions", fn := fun _ => fun
  | [d] => { results := [.lit (.bool false)], args := [d] }
  | _ => none }
def FnExactValidSessionsWrongFalsely : Prop := fnExactValidSessionsRow.holds Try.pinned (OpenSpec.ofChange fnExactValidSessionsWrong)

/-- 'laws.FnExactSameState': WHATEVER THE INPUT: true; the input reads as it did. -/
def fnExactSameStateSpec : ChangeSpec := { name := "fnExactSameState", fn := fun _ => fun
  | [d1, d2] => { results := [.lit (.bool true)], args := [d1, d2] }
  | _ => none }
def fnExactSameStateRow : OpenClaim := { program := "ytjmicabmkipomaa", sum := "04c657f058fec6d10ab49924e13b60bac53cc9dc579fa932e96dd8620e6a4486", func := "loop.example/g00955/laws.FnExactSameState", spec := "fnExactSameState", apart := false }
def FnExactSameStateSaid : Prop := fnExactSameStateRow.holds Try.pinned (OpenSpec.ofChange fnExactSameStateSpec)

/-- ITS FALSE NEIGHBOUR: 'it returns false'. Refute it at one input. -/
def fnExactSameStateWrong : ChangeSpec := { name := "fnExactSameState", fn := fun _ => fun
  | [d1, d2] => { results := [.lit (.bool false)], args := [d1, d2] }
  | _ => none }
def FnExactSameStateWrongFalsely : Prop := fnExactSameStateRow.holds Try.pinned (OpenSpec.ofChange fnExactSameStateWrong)

/-- 'laws.FnExactBestSample': WHATEVER THE INPUT: true; the input reads as it did. -/
def fnExactBestSampleSpec : ChangeSpec := { name := "fnExactBestSample", fn := fun _ => fun
  | [d] => { results := [.lit (.bool true)], args := [d] }
  | _ => none }
def fnExactBestSampleRow : OpenClaim := { program := "ytjmicabmkipomaa", sum := "04c657f058fec6d10ab49924e13b60bac53cc9dc579fa932e96dd8620e6a4486", func := "loop.example/g00955/laws.FnExactBestSample", spec := "fnExactBestSample", unfollowed := true, recurses := true, apart := false }
def FnExactBestSampleSaid : Prop := fnExactBestSampleRow.holds Try.pinned (OpenSpec.ofChange fnExactBestSampleSpec)

/-- ITS FALSE NEIGHBOUR: 'it returns false'. Refute it at one input. -/
def fnExactBestSampleWrong : ChangeSpec := { name := "fnExactBestSample", fn := fun _ => fun
  | [d] => { results := [.lit (.bool false)], args := [d] }
  | _ => none }
def FnExactBestSampleWrongFalsely : Prop := fnExactBestSampleRow.holds Try.pinned (OpenSpec.ofChange fnExactBestSampleWrong)

/-- 'laws.FnPrefetch': WHATEVER THE INPUT: true; the input reads as it did. -/
def fnPrefetchSpec : ChangeSpec := { name := "fnPrefetch", fn := fun _ => fun
  | [d1, d2] => { results := [.lit (.bool true)], args := [d1, d2] }
  | _ => none }
def fnPrefetchRow : OpenClaim := { program := "ytjmicabmkipomaa", sum := "04c657f058fec6d10ab49924e13b60bac53cc9dc579fa932e96dd8620e6a4486", func := "loop.example/g00955/laws.FnPrefetch", spec := "fnPrefetch", unfollowed := true, recurses := true, apart := false }
def FnPrefetchSaid : Prop := fnPrefetchRow.holds Try.pinned (OpenSpec.ofChange fnPrefetchSpec)

/-- ITS FALSE NEIGHBOUR: 'it returns false'. Refute it at one input. -/
def fnPrefetchWrong : ChangeSpec := { name := "fnPrefetch", fn := fun _ => fun
  | [d1, d2] => { results := [.lit (.bool false)], args := [d1, d2] }
  | _ => none }
def FnPrefetchWrongFalsely : Prop := fnPrefetchRow.holds Try.pinned (OpenSpec.ofChange fnPrefetchWrong)

/-- 'laws.FnExactValidMedia': WHATEVER THE INPUT: true; the input reads as it did. -/
def fnExactValidMediaSpec : ChangeSpec := { name := "fnExactValidMedia", fn := fun _ => fun
  | [d] => { results := [.lit (.bool true)], args := [d] }
  | _ => none }
def fnExactValidMediaRow : OpenClaim := { program := "ytjmicabmkipomaa", sum := "04c657f058fec6d10ab49924e13b60bac53cc9dc579fa932e96dd8620e6a4486", func := "loop.example/g00955/laws.FnExactValidMedia", spec := "fnExactValidMedia", apart := false }
def FnExactValidMediaSaid : Prop := fnExactValidMediaRow.holds Try.pinned (OpenSpec.ofChange fnExactValidMediaSpec)

/-- ITS FALSE NEIGHBOUR: 'it returns false'. Refute it at one input. -/
def fnExactValidMediaWrong : ChangeSpec := { name := "fnExactValidMedia", fn := fun _ => fun
  | [d] => { results := [.lit (.bool false)], args := [d] }
  | _ => none }
def FnExactValidMediaWrongFalsely : Prop := fnExactValidMediaRow.holds Try.pinned (OpenSpec.ofChange fnExactValidMediaWrong)

/-- 'laws.FnExactValidState': WHATEVER THE INPUT: true; the input reads as it did. -/
def fnExactValidStateSpec : ChangeSpec := { name := "fnExactValidState", fn := fun _ => fun
  | [d] => { results := [.lit (.bool true)], args := [d] }
  | _ => none }
def fnExactValidStateRow : OpenClaim := { program := "ytjmicabmkipomaa", sum := "04c657f058fec6d10ab49924e13b60bac53cc9dc579fa932e96dd8620e6a4486", func := "loop.example/g00955/laws.FnExactValidState", spec := "fnExactValidState", apart := false }
def FnExactValidStateSaid : Prop := fnExactValidStateRow.holds Try.pinned (OpenSpec.ofChange fnExactValidStateSpec)

/-- ITS FALSE NEIGHBOUR: 'it returns false'. Refute it at one input. -/
def fnExactValidStateWrong : ChangeSpec := { name := "fnExactValidState", fn := fun _ => fun
  | [d] => { results := [.lit (.bool false)], args := [d] }
  | _ => none }
def FnExactValidStateWrongFalsely : Prop := fnExactValidStateRow.holds Try.pinned (OpenSpec.ofChange fnExactValidStateWrong)

/-- 'laws.FnExactValidMachines': WHATEVER THE INPUT: true; the input reads as it did. -/
def fnExactValidMachinesSpec : ChangeSpec := { name := "fnExactValidMachines", fn := fun _ => fun
  | [d] => { results := [.lit (.bool true)], args := [d] }
  | _ => none }
def fnExactValidMachinesRow : OpenClaim := { program := "ytjmicabmkipomaa", sum := "04c657f058fec6d10ab49924e13b60bac53cc9dc579fa932e96dd8620e6a4486", func := "loop.example/g00955/laws.FnExactValidMachines", spec := "fnExactValidMachines", apart := false }
def FnExactValidMachinesSaid : Prop := fnExactValidMachinesRow.holds Try.pinned (OpenSpec.ofChange fnExactValidMachinesSpec)

/-- ITS FALSE NEIGHBOUR: 'it returns false'. Refute it at one input. -/
def fnExactValidMachinesWrong : ChangeSpec := { name := "fnExactValidMachines", fn := fun _ => fun
  | [d] => { results := [.lit (.bool false)], args := [d] }
  | _ => none }
def FnExactValidMachinesWrongFalsely : Prop := fnExactValidMachinesRow.holds Try.pinned (OpenSpec.ofChange fnExactValidMachinesWrong)

/-- 'laws.FnExactDriftPerDay': WHATEVER THE INPUT: true; the input reads as it did. -/
def fnExactDriftPerDaySpec : ChangeSpec := { name := "fnExactDriftPerDay", fn := fun _ => fun
  | [d] => { results := [.lit (.bool true)], args := [d] }
  | _ => none }
def fnExactDriftPerDayRow : OpenClaim := { program := "ytjmicabmkipomaa", sum := "04c657f058fec6d10ab49924e13b60bac53cc9dc579fa932e96dd8620e6a4486", func := "loop.example/g00955/laws.FnExactDriftPerDay", spec := "fnExactDriftPerDay", apart := false }
def FnExactDriftPerDaySaid : Prop := fnExactDriftPerDayRow.holds Try.pinned (OpenSpec.ofChange fnExactDriftPerDaySpec)

/-- ITS FALSE NEIGHBOUR: 'it returns false'. Refute it at one input. -/
def fnExactDriftPerDayWrong : ChangeSpec := { name := "fnExactDriftPerDay", fn := fun _ => fun
  | [d] => { results := [.lit (.bool false)], args := [d] }
  | _ => none }
def FnExactDriftPerDayWrongFalsely : Prop := fnExactDriftPerDayRow.holds Try.pinned (OpenSpec.ofChange fnExactDriftPerDayWrong)

/- THE SECOND FORM. 'bulk': how many values and letters a reading holds, each counted each time it is reached (what is shared counts as often as it is met; a slice's spare places count too). A statement '..UptoSaid' is the law's where the arguments, and the package variables that the reading takes, are together of bulk at most 1048576: NARROWER than '..Said'. Prove '..Said' where nothing that the law and all that it calls make is longer than what came in: it says more and counts as full. Else prove '..UptoSaid'. A law counts once. -/
mutual
def uptoBulk {H : Type} : DataW H → Nat
  | .lit (.string bytes) => bytes.length + 1
  | .lit _ => 1
  | .nil => 1
  | .ptr d => uptoBulk d + 1
  | .slice elems spare => uptoBulkAll elems + uptoBulkAll spare + 1
  | .agg parts => uptoBulkAll parts + 1
  | .iface _ d => uptoBulk d + 1
  | .map entries => uptoBulkEntries entries + 1
  | .held _ => 1
def uptoBulkAll {H : Type} : List (DataW H) → Nat
  | [] => 0
  | d :: r => uptoBulk d + uptoBulkAll r
def uptoBulkEntries {H : Type} : List (Lit × DataW H) → Nat
  | [] => 0
  | x :: r => uptoBulkEntry x + uptoBulkEntries r
def uptoBulkEntry {H : Type} : Lit × DataW H → Nat
  | (.string bytes, d) => bytes.length + uptoBulk d + 1
  | (_, d) => uptoBulk d + 1
 end
def uptoSmall : (H : Type) → List (DataW H) → Bool := fun _ ds => decide (uptoBulkAll ds ≤ 1048576)
def OpenSpec.upto (s : _root_.Go.ChangeSpec) : _root_.Go.OpenSpec := { _root_.Go.OpenSpec.ofChange s with cond := some uptoSmall }

/-- 'laws.FnExactValidSample', WHERE WHAT IT READS IS OF BULK AT MOST 1048576: true; the input reads as it did. -/
def fnExactValidSampleUptoRow : OpenClaim := { program := "ytjmicabmkipomaa", sum := "04c657f058fec6d10ab49924e13b60bac53cc9dc579fa932e96dd8620e6a4486", func := "loop.example/g00955/laws.FnExactValidSample", spec := "fnExactValidSample", apart := false, narrowed := true }
def FnExactValidSampleUptoSaid : Prop := fnExactValidSampleUptoRow.holds Try.pinned (OpenSpec.upto fnExactValidSampleSpec)

/-- 'laws.FnExactOffsetOf', WHERE WHAT IT READS IS OF BULK AT MOST 1048576: true; the input reads as it did. -/
def fnExactOffsetOfUptoRow : OpenClaim := { program := "ytjmicabmkipomaa", sum := "04c657f058fec6d10ab49924e13b60bac53cc9dc579fa932e96dd8620e6a4486", func := "loop.example/g00955/laws.FnExactOffsetOf", spec := "fnExactOffsetOf", apart := false, narrowed := true }
def FnExactOffsetOfUptoSaid : Prop := fnExactOffsetOfUptoRow.holds Try.pinned (OpenSpec.upto fnExactOffsetOfSpec)

/-- 'laws.FnExactValidMark', WHERE WHAT IT READS IS OF BULK AT MOST 1048576: true; the input reads as it did. -/
def fnExactValidMarkUptoRow : OpenClaim := { program := "ytjmicabmkipomaa", sum := "04c657f058fec6d10ab49924e13b60bac53cc9dc579fa932e96dd8620e6a4486", func := "loop.example/g00955/laws.FnExactValidMark", spec := "fnExactValidMark", apart := false, narrowed := true }
def FnExactValidMarkUptoSaid : Prop := fnExactValidMarkUptoRow.holds Try.pinned (OpenSpec.upto fnExactValidMarkSpec)

/-- 'laws.FnExactOwnTime', WHERE WHAT IT READS IS OF BULK AT MOST 1048576: true; the input reads as it did. -/
def fnExactOwnTimeUptoRow : OpenClaim := { program := "ytjmicabmkipomaa", sum := "04c657f058fec6d10ab49924e13b60bac53cc9dc579fa932e96dd8620e6a4486", func := "loop.example/g00955/laws.FnExactOwnTime", spec := "fnExactOwnTime", apart := false, narrowed := true }
def FnExactOwnTimeUptoSaid : Prop := fnExactOwnTimeUptoRow.holds Try.pinned (OpenSpec.upto fnExactOwnTimeSpec)

/-- 'laws.FnExactValidSessions', WHERE WHAT IT READS IS OF BULK AT MOST 1048576: true; the input reads as it did. -/
def fnExactValidSessionsUptoRow : OpenClaim := { program := "ytjmicabmkipomaa", sum := "04c657f058fec6d10ab49924e13b60bac53cc9dc579fa932e96dd8620e6a4486", func := "loop.example/g00955/laws.FnExactValidSessions", spec := "fnExactValidSessions", apart := false, narrowed := true }
def FnExactValidSessionsUptoSaid : Prop := fnExactValidSessionsUptoRow.holds Try.pinned (OpenSpec.upto fnExactValidSessionsSpec)

/-- 'laws.FnExactSameState', WHERE WHAT IT READS IS OF BULK AT MOST 1048576: true; the input reads as it did. -/
def fnExactSameStateUptoRow : OpenClaim := { program := "ytjmicabmkipomaa", sum := "04c657f058fec6d10ab49924e13b60bac53cc9dc579fa932e96dd8620e6a4486", func := "loop.example/g00955/laws.FnExactSameState", spec := "fnExactSameState", apart := false, narrowed := true }
def FnExactSameStateUptoSaid : Prop := fnExactSameStateUptoRow.holds Try.pinned (OpenSpec.upto fnExactSameStateSpec)

/-- 'laws.FnExactBestSample', WHERE WHAT IT READS IS OF BULK AT MOST 1048576: true; the input reads as it did. -/
def fnExactBestSampleUptoRow : OpenClaim := { program := "ytjmicabmkipomaa", sum := "04c657f058fec6d10ab49924e13b60bac53cc9dc579fa932e96dd8620e6a4486", func := "loop.example/g00955/laws.FnExactBestSample", spec := "fnExactBestSample", unfollowed := true, recurses := true, apart := false, narrowed := true }
def FnExactBestSampleUptoSaid : Prop := fnExactBestSampleUptoRow.holds Try.pinned (OpenSpec.upto fnExactBestSampleSpec)

/-- 'laws.FnPrefetch', WHERE WHAT IT READS IS OF BULK AT MOST 1048576: true; the input reads as it did. -/
def fnPrefetchUptoRow : OpenClaim := { program := "ytjmicabmkipomaa", sum := "04c657f058fec6d10ab49924e13b60bac53cc9dc579fa932e96dd8620e6a4486", func := "loop.example/g00955/laws.FnPrefetch", spec := "fnPrefetch", unfollowed := true, recurses := true, apart := false, narrowed := true }
def FnPrefetchUptoSaid : Prop := fnPrefetchUptoRow.holds Try.pinned (OpenSpec.upto fnPrefetchSpec)

/-- 'laws.FnExactValidMedia', WHERE WHAT IT READS IS OF BULK AT MOST 1048576: true; the input reads as it did. -/
def fnExactValidMediaUptoRow : OpenClaim := { program := "ytjmicabmkipomaa", sum := "04c657f058fec6d10ab49924e13b60bac53cc9dc579fa932e96dd8620e6a4486", func := "loop.example/g00955/laws.FnExactValidMedia", spec := "fnExactValidMedia", apart := false, narrowed := true }
def FnExactValidMediaUptoSaid : Prop := fnExactValidMediaUptoRow.holds Try.pinned (OpenSpec.upto fnExactValidMediaSpec)

/-- 'laws.FnExactValidState', WHERE WHAT IT READS IS OF BULK AT MOST 1048576: true; the input reads as it did. -/
def fnExactValidStateUptoRow : OpenClaim := { program := "ytjmicabmkipomaa", sum := "04c657f058fec6d10ab49924e13b60bac53cc9dc579fa932e96dd8620e6a4486", func := "loop.example/g00955/laws.FnExactValidState", spec := "fnExactValidState", apart := false, narrowed := true }
def FnExactValidStateUptoSaid : Prop := fnExactValidStateUptoRow.holds Try.pinned (OpenSpec.upto fnExactValidStateSpec)

/-- 'laws.FnExactValidMachines', WHERE WHAT IT READS IS OF BULK AT MOST 1048576: true; the input reads as it did. -/
def fnExactValidMachinesUptoRow : OpenClaim := { program := "ytjmicabmkipomaa", sum := "04c657f058fec6d10ab49924e13b60bac53cc9dc579fa932e96dd8620e6a4486", func := "loop.example/g00955/laws.FnExactValidMachines", spec := "fnExactValidMachines", apart := false, narrowed := true }
def FnExactValidMachinesUptoSaid : Prop := fnExactValidMachinesUptoRow.holds Try.pinned (OpenSpec.upto fnExactValidMachinesSpec)

/-- 'laws.FnExactDriftPerDay', WHERE WHAT IT READS IS OF BULK AT MOST 1048576: true; the input reads as it did. -/
def fnExactDriftPerDayUptoRow : OpenClaim := { program := "ytjmicabmkipomaa", sum := "04c657f058fec6d10ab49924e13b60bac53cc9dc579fa932e96dd8620e6a4486", func := "loop.example/g00955/laws.FnExactDriftPerDay", spec := "fnExactDriftPerDay", apart := false, narrowed := true }
def FnExactDriftPerDayUptoSaid : Prop := fnExactDriftPerDayUptoRow.holds Try.pinned (OpenSpec.upto fnExactDriftPerDaySpec)

end Rows
end Go.Proofs.Ytjmicabmkipomaa
