/- A guarded operation that is wanted goes as the same operation without a guard. -/
import Derived.Test.YtghcdgjbgljipaaDoorV20
set_option linter.all false
namespace Go.V
open Go
variable {P : Program} {fr : Fr} {st : St} {ops : Array Oper} {rest : List Oper}
theorem AO.guarded {d : Option Tmp} {op : Op} {t : TypeId} {pos : String} {aft : Array Edge} {j dj : Nat} {c : Bool} {k : List It} (hj : (ops[j]?).bind (·.dst) = some dj) (hc : get st.tm dj = some (.p (.v (.bool c))))
    (h : AO P fr ops (⟨d, op, t, pos, aft, none⟩ :: rest) k false st) : AO P fr ops (⟨d, op, t, pos, aft, some (j, c)⟩ :: rest) k false st := by
  intro a w hr
  have h1 := h a w hr
  obtain ⟨η, φ, hr'⟩ := hr
  have hw : Region.wanted (⟨d, op, t, pos, aft, some (j, c)⟩ : Oper) (yielded ops a.tmps) = true := by simp [Region.wanted, yielded_of hr' hj hc]
  have hw0 : Region.wanted (⟨d, op, t, pos, aft, none⟩ : Oper) (yielded ops a.tmps) = true := wanted_none rfl _
  simp only [wpList, hw0, if_true] at h1
  simp only [wpList, hw, if_true]
  exact h1
end Go.V
