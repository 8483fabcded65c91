/- Files, machines, as text. -/
import Derived.Test.YtdgjlkdcklfieaaDoorD35
import Derived.Test.YtdgjlkdcklfieaaDoorV25
set_option linter.all false
namespace Go.V
open Go
theorem media_name {x : NV} (h : okMedia x = true) : isName x.name = true ∧ 1 ≤ x.val ∧ x.val ≤ 100000 := by
  simp only [okMedia, Bool.and_eq_true, decide_eq_true_eq] at h; exact ⟨h.1, h.2⟩
def mediaText (x : NV) : List UInt8 := if okMedia x = true then x.name ++ [32] ++ Lib.itoa x.val else []
def machText (x : Mach) : List UInt8 := if okMachine x = true then x.name ++ [32] ++ Lib.itoa x.offset ++ [32] ++ Lib.itoa x.delay else []
theorem tab_lt {P : Program} {w : World} {name : String} {g : Nat} {k : IntKind} {zs : List Int} (hg : P.globalNamed name = some g) (h : Lib.TabIs P w name k zs) : g < w.heap.size := by
  unfold Lib.TabIs World.var? at h
  rw [hg] at h
  simp only [Option.bind_some] at h
  cases hh : w.heap[g]? with
  | none => rw [hh] at h; cases h
  | some o => exact (Array.getElem?_eq_some_iff.1 hh).1
end Go.V
