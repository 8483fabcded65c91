/- Versions as text. -/
import Derived.Test.YtdgjlkdcklfieaaDoorD37
import Derived.Test.YtdgjlkdcklfieaaDoorD14
set_option linter.all false
namespace Go.V
open Go
def okVerT (v : Ver) : Bool := (decide (1 ≤ v.number) && decide (v.number ≤ 32)) && (decide (0 ≤ v.parent) && decide (v.parent ≤ v.number - 1)) && okMemo v.memo && okState v.state
def setText (x : NV) : List UInt8 := [32] ++ x.name ++ [61] ++ Lib.itoa x.val
def verTo (v : Ver) (k : Nat) : List UInt8 := Lib.itoa v.number ++ [60] ++ Lib.itoa v.parent ++ ((v.state.take k).map setText).flatten
def memoText (m : List UInt8) : List UInt8 := if m = [] then [] else [32, 35, 32] ++ m
def verText (v : Ver) : List UInt8 := if okVerT v = true then verTo v v.state.length ++ memoText v.memo else []
theorem verTo_zero (v : Ver) : verTo v 0 = Lib.itoa v.number ++ [60] ++ Lib.itoa v.parent := by simp [verTo]
theorem verTo_succ {v : Ver} {k : Nat} {x : NV} (h : v.state[k]? = some x) : verTo v (k + 1) = verTo v k ++ setText x := by
  unfold verTo; rw [take_snoc h]; simp
theorem set_lim8 {xs : List NV} (h : okState xs = true) {x : NV} (hx : x ∈ xs) : x.name.length ≤ 1048576 ∧ 0 ≤ x.val ∧ x.val ≤ 1000 := by
  obtain ⟨k, hk⟩ := List.getElem?_of_mem hx
  have := okB_at (state_ok h) hk
  simp only [okSetting, Bool.and_eq_true, decide_eq_true_eq] at this
  obtain ⟨h1, h2⟩ := this
  refine ⟨?_, h2⟩
  unfold isName at h1; simp only [Bool.and_eq_true, decide_eq_true_eq] at h1; grind
theorem verT_lim {v : Ver} (h : okVerT v = true) : (1 ≤ v.number ∧ v.number ≤ 32) ∧ (0 ≤ v.parent ∧ v.parent ≤ v.number - 1) ∧ okMemo v.memo = true ∧ okState v.state = true := by
  simp only [okVerT, Bool.and_eq_true, decide_eq_true_eq] at h
  exact ⟨h.1.1.1, h.1.1.2, h.1.2, h.2⟩
theorem flat_len8 {f : NV → List UInt8} {m : Nat} : ∀ {xs : List NV}, (∀ x ∈ xs, (f x).length ≤ m) → ((xs.map f).flatten).length ≤ m * xs.length
  | [], _ => by simp
  | x :: xs, h => by
    have h1 := flat_len8 (f := f) (m := m) (xs := xs) (fun y hy => h y (by simp [hy]))
    have h2 := h x (by simp)
    simp only [List.map_cons, List.flatten_cons, List.length_append, List.length_cons]
    rw [Nat.mul_succ]; omega
theorem verTo_len {v : Ver} (h : okVerT v = true) (k : Nat) : (verTo v k).length ≤ 100000000 := by
  obtain ⟨h1, h2, h3, h4⟩ := verT_lim h
  have e1 := itoa_len (n := v.number) (by omega)
  have e2 := itoa_len (n := v.parent) (by omega)
  have e3 := flat_len8 (f := setText) (m := 1048700) (xs := v.state.take k) (fun x hx => by
    have h5 := set_lim8 h4 (List.mem_of_mem_take hx)
    have h6 := itoa_len (n := x.val) (by omega)
    unfold setText
    simp only [List.length_append, List.length_cons, List.length_nil]; omega)
  have e4 := state_len h4
  have e5 : (v.state.take k).length ≤ 24 := by rw [List.length_take]; omega
  have e6 := Nat.mul_le_mul_left 1048700 e5
  unfold verTo
  simp only [List.length_append, List.length_cons, List.length_nil]; omega
end Go.V
