/- Ancestors; marks over a tail. -/
import Derived.Test.YtdgjlkdcklfieaaDoorD14
import Derived.Test.YtdgjlkdcklfieaaDoorD10
import Derived.Test.YtdgjlkdcklfieaaDoorV19
set_option linter.all false
namespace Go.V
open Go
def ancOf (xs : List Ver) (n : Int) : List Int × Int := if okVers xs = true then (if inVers xs n = true then ((line xs n).tail, 0) else ([], 3)) else ([], 1)
theorem anc_len {xs : List Ver} (h : xs.length ≤ 1048576) (n : Int) : (ancOf xs n).1.length ≤ 1048576 := by
  unfold ancOf
  split
  · split
    · next h2 =>
      have := line_lim (xs := xs) n
      simp only [inVers, Bool.and_eq_true, decide_eq_true_eq] at h2
      simp only [List.length_tail]; omega
    · simp
  · simp
def tmk (k0 : Int) (xs : List Int) (j : Nat) : List Int := (List.range j).map (fun i => k0 + ((i * 1 : Nat) : Int)) ++ xs.drop j
section
variable {k0 : Int} {xs : List Int} {j : Nat}
theorem tmk_zero : tmk k0 xs 0 = xs := by simp [tmk]
theorem tmk_len (h : j ≤ xs.length) : (tmk k0 xs j).length = xs.length := by simp [tmk]; omega
theorem tmk_set (h : j < xs.length) : (tmk k0 xs j).set j (k0 + ((j * 1 : Nat) : Int)) = tmk k0 xs (j + 1) := by
  unfold tmk
  rw [List.set_append_right _ _ (by simp), List.range_succ, List.map_append, List.append_assoc]
  congr 1
  simp only [List.length_map, List.length_range, Nat.sub_self]
  rw [List.drop_eq_getElem_cons h, List.set_cons_zero]
  simp
theorem tmk_end : (tmk k0 xs xs.length).map encI = mkAll [false] k0 xs.length := by
  unfold tmk mkAll
  rw [List.drop_length, List.append_nil, List.map_map]
  rfl
end
end Go.V
