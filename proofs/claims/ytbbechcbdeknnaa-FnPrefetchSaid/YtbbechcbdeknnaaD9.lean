/- Versions as plain data. -/
import Derived.Test.YtbbechcbdeknnaaD4
import Derived.Test.YtbbechcbdeknnaaV16
set_option linter.all false
namespace Go.V
open Go

structure Ver where
  number : Int
  parent : Int
  memo : List UInt8
  state : List NV
  deriving DecidableEq, Inhabited
def encVer (x : Ver) : List PV := [.v (.int .i64 x.number), .v (.int .i64 x.parent), .v (str x.memo), .sl 2 (x.state.map encNV)]
def tVer : Ty := .struct [.int .i64, .int .i64, .str, .slice tNV]
/-- What a version that is handed in bears of itself. -/
def VerWf (x : Ver) : Prop := i64b x.number ∧ i64b x.parent ∧ x.memo.length ≤ 9223372036854775807 ∧ x.state.length ≤ 9223372036854775807 ∧ ∀ s ∈ x.state, s.name.length ≤ 9223372036854775807
theorem hasVer {l : List PV} (h : tVer.Has l) : ∃ x : Ver, l = encVer x ∧ VerWf x := by
  simp only [tVer, Ty.Has] at h
  obtain ⟨_, _, rfl, h1, h⟩ := hasL_cons h
  obtain ⟨_, _, rfl, h2, h⟩ := hasL_cons h
  obtain ⟨_, _, rfl, h3, h⟩ := hasL_cons h
  obtain ⟨_, _, rfl, h4, h⟩ := hasL_cons h
  obtain rfl := hasL_nil h
  obtain ⟨a, rfl, w1⟩ := has_int h1
  obtain ⟨b, rfl, w2⟩ := has_int h2
  obtain ⟨c, rfl, w3⟩ := has_str h3
  simp only [Ty.Has] at h4
  obtain ⟨rows, rfl, hr, hl⟩ := h4
  obtain ⟨xs, rfl, hx⟩ := rows_of (enc := encNV) (fun r hr => hasNV hr) rows hr
  refine ⟨⟨a, b, c, xs⟩, rfl, wf_i64 w1, wf_i64 w2, w3, ?_, fun s hs => (hx s hs).1⟩
  rw [List.length_map] at hl
  simpa [maxLen] using hl
/-- Lengths that were counted. -/
def VerGood (x : Ver) : Prop := x.memo.length ≤ 1048576 ∧ x.state.length ≤ 1048576 ∧ ∀ s ∈ x.state, s.name.length ≤ 1048576
def VersGood (xs : List Ver) : Prop := xs.length ≤ 1048576 ∧ ∀ v ∈ xs, VerGood v
theorem good_snoc {xs : List Ver} {k : Nat} {x : Ver} (hx : xs[k]? = some x) (h : ∀ v ∈ xs.take k, VerGood v) (hg : VerGood x) : ∀ v ∈ xs.take (k + 1), VerGood v := by
  rw [take_snoc hx]; intro v hv
  rcases List.mem_append.1 hv with hv | hv
  · exact h v hv
  · simp at hv; subst hv; exact hg
theorem good_one {x : Ver} {l l1 r : Int} (h0 : 0 ≤ l) (h : l ≤ 1048576) (h1 : l1 = l - x.memo.length) (h2 : ¬ l1 < 0) (hr : r = szAll NV.name x.state l1) (h3 : ¬ r < 0) : VerGood x ∧ 0 ≤ r ∧ r ≤ l := by
  subst hr
  have hz := szAll_ge (f := NV.name) (xs := x.state) (left := l1) (by simpa using h3)
  have hp := lens_nonneg (f := NV.name) (xs := x.state)
  refine ⟨⟨by omega, by omega, fun s hs => ?_⟩, by omega, by omega⟩
  have := len_le_lens (f := NV.name) hs
  omega
end Go.V
