/- Marks: what the laws write over a list, and read again. -/
import Derived.Test.YtbbechcbdeknnaaD4
import Derived.Test.YtbbechcbdeknnaaV16
set_option linter.all false
namespace Go.V
open Go

/-- The decimal digits of a number, ahead of what is there. -/
def mt (k : Nat) (acc : List UInt8) : List UInt8 := if h : k = 0 then acc else mt (k / 10) (UInt8.ofNat (48 + k % 10) :: acc)
termination_by k
decreasing_by omega
theorem mt_zero (acc : List UInt8) : mt 0 acc = acc := by rw [mt]; simp
theorem mt_step {k : Nat} (h : k ≠ 0) (acc : List UInt8) : mt k acc = mt (k / 10) (UInt8.ofNat (48 + k % 10) :: acc) := by rw [mt]; simp [h]
def mText (k : Int) : List UInt8 := if k ≤ 0 then [109, 48] else 109 :: mt k.toNat []
theorem pow_step {k n : Nat} (h : k < 10 ^ (40 - n)) (h0 : k ≠ 0) : n < 40 ∧ k / 10 < 10 ^ (40 - (n + 1)) := by
  have hn : n < 40 := by
    rcases Nat.lt_or_ge n 40 with h1 | h1
    · exact h1
    · rw [show 40 - n = 0 by omega] at h; simp at h; omega
  refine ⟨hn, ?_⟩
  rw [Nat.div_lt_iff_lt_mul (by omega), ← Nat.pow_succ, show (40 - (n + 1)).succ = 40 - n by omega]
  exact h
theorem digit_u8 {k : Int} {n : Nat} (h : k = n) : IntKind.u8.wrap (48 + k.tmod 10) = ((UInt8.ofNat (48 + n % 10)).toNat : Int) := by
  subst h
  have e : ((n : Int)).tmod 10 = ((n % 10 : Nat) : Int) := by rw [Int.tmod_eq_emod_of_nonneg (by omega)]; omega
  rw [e, UInt8.toNat_ofNat']
  simp only [IntKind.wrap, IntKind.signed, IntKind.bits]
  simp
/-- A row of marks; true: a text, false: a number. -/
def mkRow : List Bool → Int → List PV
  | [], _ => []
  | true :: ks, k => .v (str (mText k)) :: mkRow ks (k + 1)
  | false :: ks, k => .v (.int .i64 k) :: mkRow ks (k + 1)
theorem mkRow_flat : ∀ (ks : List Bool) (k : Int), PV.FlatL (mkRow ks k)
  | [], _ => trivial
  | true :: ks, k => ⟨trivial, mkRow_flat ks (k + 1)⟩
  | false :: ks, k => ⟨trivial, mkRow_flat ks (k + 1)⟩
/-- The first j rows are marked. -/
def mkd (ks : List Bool) (k0 : Int) (rows : List (List PV)) (j : Nat) : List (List PV) := (List.range j).map (fun i => mkRow ks (k0 + ((i * ks.length : Nat) : Int))) ++ rows.drop j
def mkAll (ks : List Bool) (k0 : Int) (n : Nat) : List (List PV) := (List.range n).map (fun i => mkRow ks (k0 + ((i * ks.length : Nat) : Int)))
section
variable {ks : List Bool} {k0 : Int} {rows : List (List PV)} {j n : Nat}
theorem mkd_zero : mkd ks k0 rows 0 = rows := by simp [mkd]
theorem mkd_end : mkd ks k0 rows rows.length = mkAll ks k0 rows.length := by simp [mkd, mkAll]
theorem mkd_length (h : j ≤ rows.length) : (mkd ks k0 rows j).length = rows.length := by simp [mkd]; omega
theorem mkd_get {r : List PV} (h : rows[j]? = some r) : (mkd ks k0 rows j)[j]? = some r := by
  unfold mkd
  rw [List.getElem?_append_right (by simp)]
  simp [h]
theorem mkd_set (h : j < rows.length) : (mkd ks k0 rows j).set j (mkRow ks (k0 + ((j * ks.length : Nat) : Int))) = mkd ks k0 rows (j + 1) := by
  unfold mkd
  rw [List.set_append_right _ _ (by simp), List.range_succ, List.map_append, List.append_assoc]
  congr 1
  simp only [List.length_map, List.length_range, Nat.sub_self]
  rw [List.drop_eq_getElem_cons h, List.set_cons_zero]
  simp
theorem mkAll_length : (mkAll ks k0 n).length = n := by simp [mkAll]
theorem mkAll_get (h : j < n) : (mkAll ks k0 n)[j]? = some (mkRow ks (k0 + ((j * ks.length : Nat) : Int))) := by
  unfold mkAll
  rw [List.getElem?_map, List.getElem?_range h]; rfl
theorem mkAll_flat : ∀ r ∈ mkAll ks k0 n, PV.FlatL r := by
  intro r hr
  obtain ⟨i, _, rfl⟩ := List.mem_map.1 hr
  exact mkRow_flat ks _
theorem set_get {r : List PV} (h : j < rows.length) : (rows.set j r)[j]? = some r := by simp [h]
end
end Go.V
namespace Go.V
theorem tupE {i : Nat} {n m : Int} (h : n = m) : AV.tup [.h i, .p (.v (.int .i64 n))] = AV.tup [.h i, .p (.v (.int .i64 m))] := by rw [h]
end Go.V
