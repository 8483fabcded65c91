/- The length of what may be read as a slice. -/
import Derived.Test.YtdlpkfihjfmgeaaV20
namespace Go.V
open Go Go.RowKit
section
variable {P : Program} {fr : Fr} {st : St} {d : Option Tmp} {t : TypeId} {pos : String} {aft : Array Edge} {g : Option (Nat × Bool)}
theorem Yld.lenV {ty e : TypeId} {x : Operand} {av : AV} {rs : Nat} {rows : List (List PV)} (hs : P.underlying ty = some (.slice e)) (hx : st.ev x = some av) (hv : st.view av = some (.sl rs rows)) :
    Yld P fr ⟨d, .call { callee := .builtin .len, args := #[x], argTypes := #[ty] }, t, pos, aft, g⟩ st (.p (.v (.int .i64 rows.length))) :=
  Yld.of_run fun _ _ A w hr => by
    have h1 := view_rel hv hr (hr.ev hx)
    simp only [Rel] at h1
    obtain ⟨a, cap, h1, _⟩ := h1
    exact ⟨.int .i64 rows.length, fun w' hw' => by simp [execOp, resolve, invoke, builtin, h1, Builtin.len_, run_underlying hs, goInt], by simp [ARel, Rel]⟩
end
end Go.V
