/- More plain laws. -/
import Derived.Test.YtbbechcbdeknnaaD4
set_option linter.all false
namespace Go.V
open Go
theorem absI_lim (n : Int) : (0 ≤ absI n) ∧ (n ≤ absI n) ∧ (-n ≤ absI n) ∧ (absI n = n ∨ absI n = -n) := by unfold absI; split <;> omega
end Go.V
