/- What is handed in, as plain data of the program's types. -/
import Derived.Test.YtbbechcbdeknnaaD1
set_option linter.all false
namespace Go.V
open Go

/-- What is left of a count when a length is taken off. -/
def szLen (n : Nat) (left : Int) : Int := if left - n < 0 then -1 else left - n
theorem szLen_ge {n : Nat} {left : Int} (h : decide (szLen n left < 0) = false) : szLen n left = left - n ∧ 0 ≤ left - n := by
  simp only [decide_eq_false_iff_not] at h
  unfold szLen at h ⊢
  split at h
  · omega
  · next h1 => rw [if_neg h1]; omega

theorem hasAll_cons {t : Ty} {ts : List Ty} {l : List PV} (h : HasAll (t :: ts) l) : ∃ x l', l = x :: l' ∧ t.HasA x ∧ HasAll ts l' := by simpa only [HasAll] using h
theorem hasAll_nil {l : List PV} (h : HasAll [] l) : l = [] := by simpa only [HasAll] using h
theorem hasA_slice {e : Ty} {x : PV} (h : (Ty.slice e).HasA x) : ∃ rows, x = .sl e.cells rows ∧ (∀ r ∈ rows, e.Has r) ∧ rows.length ≤ 9223372036854775807 := by
  simp only [Ty.HasA, Ty.Has, List.cons.injEq, and_true, maxLen] at h; exact h
theorem hasA_int {k : IntKind} {x : PV} (h : (Ty.int k).HasA x) : ∃ n, x = .v (.int k n) ∧ (Lit.int k n).wf = true := by
  simp only [Ty.HasA, Ty.Has, List.cons.injEq, and_true] at h; exact h
theorem hasA_str {x : PV} (h : Ty.str.HasA x) : ∃ s : List UInt8, x = .v (str s) ∧ s.length ≤ 9223372036854775807 := by
  simp only [Ty.HasA, Ty.Has, List.cons.injEq, and_true, maxLen] at h; exact h
theorem hasA_struct {ts : List Ty} {x : PV} (h : (Ty.struct ts).HasA x) : ∃ l, x = .agg l ∧ (Ty.struct ts).Has l := by
  simp only [Ty.HasA, Ty.Has] at h ⊢; exact h
theorem hasL_cons {t : Ty} {ts : List Ty} {l : List PV} (h : Ty.HasL (t :: ts) l) : ∃ a b, l = a ++ b ∧ t.Has a ∧ Ty.HasL ts b := by simpa only [Ty.HasL] using h
theorem hasL_nil {l : List PV} (h : Ty.HasL [] l) : l = [] := by simpa only [Ty.HasL] using h
theorem has_int {k : IntKind} {l : List PV} (h : (Ty.int k).Has l) : ∃ n, l = [.v (.int k n)] ∧ (Lit.int k n).wf = true := by simpa only [Ty.Has] using h
theorem has_str {l : List PV} (h : Ty.str.Has l) : ∃ s : List UInt8, l = [.v (str s)] ∧ s.length ≤ 9223372036854775807 := by simpa only [Ty.Has, maxLen] using h

def i64b (n : Int) : Prop := -9223372036854775808 ≤ n ∧ n ≤ 9223372036854775807
def tSample : Ty := .struct [.int .i64, .int .i64, .int .i64]
def tCMark : Ty := .struct [.int .i64, .int .i64, .int .i64, .int .i64]
def tSession : Ty := .struct [.int .i64, .int .i64, .int .i64, .int .i64]
def tMach : Ty := .struct [.str, .int .i64, .int .i64]
def tNV : Ty := .struct [.str, .int .i64]
def tGroup : Ty := .struct [.str, .int .i64, .int .i64]
theorem has3 {l : List PV} (h : Ty.HasL [.int .i64, .int .i64, .int .i64] l) : ∃ a b c, l = [.v (.int .i64 a), .v (.int .i64 b), .v (.int .i64 c)] ∧ i64b a ∧ i64b b ∧ i64b c := by
  obtain ⟨_, _, rfl, h1, h⟩ := hasL_cons h
  obtain ⟨_, _, rfl, h2, h⟩ := hasL_cons h
  obtain ⟨_, _, rfl, h3, h⟩ := hasL_cons h
  obtain rfl := hasL_nil h
  obtain ⟨a, rfl, w1⟩ := has_int h1
  obtain ⟨b, rfl, w2⟩ := has_int h2
  obtain ⟨c, rfl, w3⟩ := has_int h3
  exact ⟨a, b, c, rfl, wf_i64 w1, wf_i64 w2, wf_i64 w3⟩
theorem hasSample {l : List PV} (h : tSample.Has l) : ∃ x : Sample, l = encSample x ∧ (i64b x.sent ∧ i64b x.other ∧ i64b x.back) := by
  simp only [tSample, Ty.Has] at h
  obtain ⟨a, b, c, rfl, w⟩ := has3 h
  exact ⟨⟨a, b, c⟩, rfl, w⟩
theorem has4 {l : List PV} (h : Ty.HasL [.int .i64, .int .i64, .int .i64, .int .i64] l) : ∃ a b c d, l = [.v (.int .i64 a), .v (.int .i64 b), .v (.int .i64 c), .v (.int .i64 d)] ∧ i64b a ∧ i64b b ∧ i64b c ∧ i64b d := by
  obtain ⟨_, _, rfl, h1, h2⟩ := hasL_cons h
  obtain ⟨b, c, d, rfl, w⟩ := has3 h2
  obtain ⟨a, rfl, w1⟩ := has_int h1
  exact ⟨a, b, c, d, rfl, wf_i64 w1, w⟩
theorem hasSession {l : List PV} (h : tSession.Has l) : ∃ x : Session, l = encSession x ∧ (i64b x.day ∧ i64b x.turn ∧ i64b x.lift ∧ i64b x.error) := by
  simp only [tSession, Ty.Has] at h
  obtain ⟨a, b, c, d, rfl, w⟩ := has4 h
  exact ⟨⟨a, b, c, d⟩, rfl, w⟩
theorem hasCMark {l : List PV} (h : tCMark.Has l) : ∃ x : CMark, l = encCMark x ∧ (i64b x.az ∧ i64b x.al ∧ i64b x.found ∧ i64b x.height) := by
  simp only [tCMark, Ty.Has] at h
  obtain ⟨a, b, c, d, rfl, w⟩ := has4 h
  exact ⟨⟨a, b, c, d⟩, rfl, w⟩
theorem hasMach {l : List PV} (h : tMach.Has l) : ∃ x : Mach, l = encMach x ∧ (x.name.length ≤ 9223372036854775807 ∧ i64b x.offset ∧ i64b x.delay) := by
  simp only [tMach, Ty.Has] at h
  obtain ⟨_, _, rfl, h1, h⟩ := hasL_cons h
  obtain ⟨_, _, rfl, h2, h⟩ := hasL_cons h
  obtain ⟨_, _, rfl, h3, h⟩ := hasL_cons h
  obtain rfl := hasL_nil h
  obtain ⟨a, rfl, w1⟩ := has_str h1
  obtain ⟨b, rfl, w2⟩ := has_int h2
  obtain ⟨c, rfl, w3⟩ := has_int h3
  exact ⟨⟨a, b, c⟩, rfl, w1, wf_i64 w2, wf_i64 w3⟩
theorem hasGroup {l : List PV} (h : tGroup.Has l) : ∃ x : Group, l = encGroup x ∧ (x.name.length ≤ 9223372036854775807 ∧ i64b x.persons ∧ i64b x.wish) := by
  obtain ⟨x, rfl, w⟩ := hasMach (l := l) (by simpa only [tMach, tGroup] using h)
  exact ⟨⟨x.name, x.offset, x.delay⟩, rfl, w⟩
theorem hasNV {l : List PV} (h : tNV.Has l) : ∃ x : NV, l = encNV x ∧ (x.name.length ≤ 9223372036854775807 ∧ i64b x.val) := by
  simp only [tNV, Ty.Has] at h
  obtain ⟨_, _, rfl, h1, h⟩ := hasL_cons h
  obtain ⟨_, _, rfl, h2, h⟩ := hasL_cons h
  obtain rfl := hasL_nil h
  obtain ⟨a, rfl, w1⟩ := has_str h1
  obtain ⟨b, rfl, w2⟩ := has_int h2
  exact ⟨⟨a, b⟩, rfl, w1, wf_i64 w2⟩
theorem hasI {l : List PV} (h : (Ty.int .i64).Has l) : ∃ x : Int, l = encI x ∧ i64b x := by
  obtain ⟨n, rfl, w⟩ := has_int h
  exact ⟨n, rfl, wf_i64 w⟩
theorem hasS {l : List PV} (h : Ty.str.Has l) : ∃ x : List UInt8, l = encS x ∧ x.length ≤ 9223372036854775807 := by
  obtain ⟨n, rfl, w⟩ := has_str h
  exact ⟨n, rfl, w⟩
end Go.V
