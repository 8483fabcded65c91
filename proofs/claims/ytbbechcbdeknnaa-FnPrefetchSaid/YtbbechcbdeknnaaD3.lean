/- Plain laws of whole numbers: division toward the floor, angles, the biggest and the least. -/
import Derived.Test.YtbbechcbdeknnaaV11
import Derived.Test.YtbbechcbdeknnaaD2
set_option linter.all false
namespace Go.V
open Go

theorem tdivE {a b : Int} (_hb : 0 < b) : a.tdiv b = if 0 ≤ a then a / b else -((-a) / b) := by
  split
  · next h => exact Int.tdiv_eq_ediv_of_nonneg h
  · next h => rw [← Int.tdiv_eq_ediv_of_nonneg (by omega : 0 ≤ -a), Int.neg_tdiv, Int.neg_neg]
theorem tmodE {a b : Int} : a.tmod b = if 0 ≤ a then a % b else -((-a) % b) := by
  split
  · next h => exact Int.tmod_eq_emod_of_nonneg h
  · next h => rw [← Int.tmod_eq_emod_of_nonneg (by omega : 0 ≤ -a), Int.neg_tmod, Int.neg_neg]
theorem tmod_lo {a b : Int} (hb : 0 < b) : -b < a.tmod b := by
  rw [tmodE]; split
  · have := Int.emod_nonneg a (by omega : b ≠ 0); omega
  · have := Int.emod_lt_of_pos (-a) hb; omega
theorem tmod_hi {a b : Int} (hb : 0 < b) : a.tmod b < b := Int.tmod_lt_of_pos a hb
theorem floor_low {a b : Int} (hb : 0 < b) (h : a.tmod b < 0) : a.tdiv b - 1 = a / b := by
  have h1 := Int.mul_tdiv_add_tmod a b
  have h2 := tmod_lo (a := a) hb
  refine ((Int.ediv_emod_unique hb (r := a.tmod b + b)).2 ⟨?_, by omega, by omega⟩).1.symm
  rw [Int.mul_sub]; omega
theorem floor_up {a b : Int} (hb : 0 < b) (h : ¬ a.tmod b < 0) : a.tdiv b = a / b := by
  have h1 := Int.mul_tdiv_add_tmod a b
  have h2 := tmod_hi (a := a) hb
  exact ((Int.ediv_emod_unique hb (r := a.tmod b)).2 ⟨by omega, by omega, h2⟩).1.symm
/-- What is rounded up. -/
theorem up_one {a b : Int} (hb : 0 < b) (ha : 0 ≤ a) : (a + b - 1).tdiv b = (a + b - 1) / b := Int.tdiv_eq_ediv_of_nonneg (by omega)
theorem half_odd {n : Int} (h : n < 0) (h2 : n.tmod 2 ≠ 0) : n.tdiv 2 - 1 = n / 2 := by rw [tdivE (by omega), if_neg (by omega)]; rw [tmodE, if_neg (by omega)] at h2; omega
theorem half_even {n : Int} (h : ¬ (n < 0 ∧ n.tmod 2 ≠ 0)) : n.tdiv 2 = n / 2 := by
  rw [tdivE (by omega)]; rw [tmodE] at h
  split
  · omega
  · next h1 => rw [if_neg h1] at h; omega
theorem norm_law (a : Int) : (a.tmod 360000 + 360000).tmod 360000 = a % 360000 := by
  rw [tmodE (a := a)]
  split
  · rw [tmodE, if_pos (by omega)]; omega
  · rw [tmodE, if_pos (by omega)]; omega
theorem norm_add {a : Int} (h : a.tmod 360000 < 0) : a.tmod 360000 + 360000 = a % 360000 := by rw [tmodE] at h ⊢; split <;> omega
theorem norm_same {a : Int} (h : ¬ a.tmod 360000 < 0) : a.tmod 360000 = a % 360000 := by
  rw [tmodE] at h ⊢
  split
  · rfl
  · next h1 => rw [if_neg h1] at h; omega
/-- The angle from one to the other, the short way. -/
def between (a b : Int) : Int := min ((b % 360000 - a % 360000) % 360000) (360000 - (b % 360000 - a % 360000) % 360000)
def absI (n : Int) : Int := if n < 0 then -n else n
def spotB (a b : Int) : Bool := decide (0 ≤ a) && decide (a ≤ 359999) && (decide (0 ≤ b) && decide (b ≤ 90000))
def okMark (x : CMark) : Bool := (spotB x.az x.al && spotB x.found x.height) && (decide (between x.az x.found ≤ 5000) && decide (absI (x.al - x.height) ≤ 5000))
theorem spot_lim {a b : Int} (h : spotB a b = true) : 0 ≤ a ∧ a ≤ 359999 ∧ 0 ≤ b ∧ b ≤ 90000 := by
  simp only [spotB, Bool.and_eq_true, decide_eq_true_eq] at h; omega
theorem between_neg (a b : Int) : min ((b % 360000 - a % 360000) % 360000) (-((b % 360000 - a % 360000) % 360000) % 360000) = between a b := by
  unfold between; omega
end Go.V
