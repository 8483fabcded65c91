/- Decimal digits, the last one first. -/
import Derived.Test.YtdpanmnnfamfmaaD12
import Derived.Lib.ItoaMem
set_option linter.all false
namespace Go.V
open Go
def revN (u : Nat) : List UInt8 := if h : u = 0 then [] else UInt8.ofNat (48 + u % 10) :: revN (u / 10)
termination_by u
decreasing_by omega
theorem revN_zero : revN 0 = [] := by rw [revN, dif_pos rfl]
theorem revN_pos {u : Nat} (h : u ≠ 0) : revN u = UInt8.ofNat (48 + u % 10) :: revN (u / 10) := by rw [revN, dif_neg h]
theorem dec_rev : ∀ (m u : Nat), u ≤ m → u ≠ 0 → Lib.decDigits u = (revN u).reverse := by
  intro m
  induction m with
  | zero => intro u h h0; omega
  | succ m ih =>
    intro u h h0
    rw [revN_pos h0, List.reverse_cons, Lib.decDigits]
    split
    · next h1 =>
      rw [show u / 10 = 0 by omega, revN_zero, show u % 10 = u by omega]; rfl
    · next h1 => rw [ih (u / 10) (by omega) (by omega)]
theorem revN_len : ∀ (k u : Nat), u < 10 ^ k → (revN u).length ≤ k := by
  intro k
  induction k with
  | zero => intro u h; rw [show u = 0 by omega, revN_zero]; simp
  | succ k ih =>
    intro u h
    by_cases h0 : u = 0
    · subst h0; rw [revN_zero]; simp
    · rw [revN_pos h0, List.length_cons]
      have := ih (u / 10) (by rw [Nat.pow_succ] at h; omega)
      omega
/-- The digits with the sign behind. -/
def revD (n : Int) : List UInt8 := revN n.natAbs ++ if n < 0 then [45] else []
theorem itoa_rev {n : Int} (h : n ≠ 0) : Lib.itoa n = (revD n).reverse := by
  unfold Lib.itoa revD
  split
  · next h1 => rw [dec_rev _ _ (Nat.le_refl _) (by omega)]; simp
  · next h1 => rw [dec_rev _ _ (Nat.le_refl _) (by omega), List.append_nil, show n.toNat = n.natAbs by omega]
theorem itoa_zero : Lib.itoa 0 = [48] := by decide +kernel
theorem itoa_len {n : Int} (h : n.natAbs < 1000000000000000000) : (Lib.itoa n).length ≤ 19 := by
  by_cases h0 : n = 0
  · subst h0; rw [itoa_zero]; simp
  · rw [itoa_rev h0, List.length_reverse, revD, List.length_append]
    have := revN_len 18 n.natAbs (by omega)
    split <;> simp <;> omega
theorem dig_i {m : Int} (h : m ≠ 0) : revN m.natAbs = UInt8.ofNat (48 + (m.tmod 10).natAbs) :: revN (m.tdiv 10).natAbs := by
  rw [revN_pos (by omega), Int.natAbs_tmod, Int.natAbs_tdiv]; rfl
theorem digit_of {d : Int} {k : Nat} (h : d = k) (hk : k < 10) : IntKind.u8.wrap (48 + d) = ((UInt8.ofNat (48 + k)).toNat : Int) := by
  subst h
  rw [UInt8.toNat_ofNat']
  simp only [IntKind.wrap, IntKind.signed, IntKind.bits]
  simp
theorem tmod10 (m : Int) : -10 < m.tmod 10 ∧ m.tmod 10 < 10 := by
  have h1 := Int.tmod_lt_of_pos m (b := 10) (by omega)
  have h2 := Int.tmod_lt_of_pos (-m) (b := 10) (by omega)
  rw [Int.neg_tmod] at h2
  omega
theorem revD_len {n : Int} (h : n.natAbs < 1000000000000000000) : (revD n).length ≤ 19 := by
  unfold revD; rw [List.length_append]
  have := revN_len 18 n.natAbs (by omega)
  split <;> simp <;> omega
theorem revN_len18 {n : Int} (h : n.natAbs < 1000000000000000000) : (revN n.natAbs).length ≤ 18 := revN_len 18 n.natAbs (by omega)
theorem rev_at {l : List UInt8} {j : Nat} {c : UInt8} (h : l[l.length - 1 - j]? = some c) (hj : j < l.length) : l.reverse[j]? = some c := by rw [List.getElem?_reverse hj]; exact h
theorem natAbs_t10 (m : Int) : (m.tdiv 10).natAbs = m.natAbs / 10 := by rw [Int.natAbs_tdiv]; rfl
end Go.V
