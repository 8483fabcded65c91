/- Versions that are undone. -/
import Derived.Test.YtdgjlkdcklfieaaDoorD34
import Derived.Test.YtdgjlkdcklfieaaDoorD35
set_option linter.all false
namespace Go.V
open Go
def undoMemo (n : Int) : List UInt8 := [117, 110, 100, 111, 32] ++ Lib.itoa n
theorem undoMemo_len {n : Int} (h : n.natAbs < 1000000000000000000) : (undoMemo n).length ≤ 24 := by
  unfold undoMemo; have := itoa_len h; simp only [List.length_append, List.length_cons, List.length_nil]; omega
def undoVersion (xs : List Ver) (n : Int) : List Ver × Int := if okVers xs = true then (if inVers xs n = true then addV xs n (undoMemo n) (stT xs (par xs n)) else ([], 3)) else ([], 1)
theorem undo_good {xs : List Ver} {n : Int} (hg : VersGood xs) : VersGood (undoVersion xs n).1 := by
  have nil : VersGood [] := ⟨by simp, by simp⟩
  unfold undoVersion
  split
  · next h =>
    have hl := vers_len h
    split
    · next h2 =>
      simp only [inVers, Bool.and_eq_true, decide_eq_true_eq] at h2
      have hm := undoMemo_len (n := n) (by omega)
      exact add_good hg (by omega) (by omega) (by have := state_len (stT_ok h (par xs n)); omega) (stT_names h _)
    · exact nil
  · exact nil
end Go.V
