/- The law FnExactValidMark of the program holds: for every input the call returns true, and each argument reads behind it as it read before. No condition. -/
import Derived.Test.YtjmicabmkipomaaL3
import Derived.Test.YtjmicabmkipomaaV9
import Derived.Test.YtjmicabmkipomaaRows
set_option linter.all false
set_option linter.unusedSimpArgs false
set_option linter.unusedVariables false
namespace Go.Proofs.Ytjmicabmkipomaa
open Go Go.V Go.ChangeShapes Go.WideShapes Go.ChangeAt Go.RowKit

/- The law FnExactValidMark holds: for every input the call returns true, and each argument reads behind it as it read before. -/
namespace fnExactValidMark
theorem own_knob : ownKnob Try.prog.godebug = none := by kernel_rfl
theorem laid_out : laidOutB Try.prog = true := by kernel_rfl
theorem pure_all (l : List PV) (k0 : HasAll [tCMark] l) : Pure Try.prog 5 l (.v (.bool true)) := by
  obtain ⟨_, _, rfl, h0, k1⟩ := hasAll_cons k0
  obtain rfl := hasAll_nil k1
  obtain ⟨_, rfl, g0⟩ := hasA_struct h0
  obtain ⟨x0, rfl, w0⟩ := hasCMark g0
  exact laws_FnExactValidMark_c w0.1 w0.2.1 w0.2.2.1 w0.2.2.2
set_option maxRecDepth 100000 in
theorem lifted (os : Os) (started : os.Started) (H : Type) (enc : TypeId × Value → H) :
    ReturnsInHanded {} Try.checked os 5 .any (Rows.fnExactValidMarkSpec.pre6 enc Try.prog Try.f5 Rows.fnExactValidMarkRow.domain false) (Rows.fnExactValidMarkSpec.post enc Try.prog Try.f5 false true false false) := by
  refine returnsInHanded_of_change (C := Try.checked) own_knob started (by kernel_rfl) Try.func5
    (ChangeSpec.witness6 (enc := enc) (C := Try.checked) false ⟨#[], #[(.agg #[.int .i64 0, .int .i64 0, .int .i64 0, .int .i64 0])], []⟩ 8 (by kernel_rfl) (by kernel_rfl) (by kernel_rfl) (by kernel_rfl)) ?_
  intro W base args ds gs before hval hW _ _
  exact law_post (P := Try.prog) (n := 8) laid_out (by kernel_rfl) rfl rfl Try.underlying4 (by kernel_rfl)
    (fun ds h => by rw [Try.params5] at h; match ds, h with | [d0], _ => exact ⟨rfl, rfl, rfl⟩) hval hW pure_all
theorem holds : Rows.FnExactValidMarkSaid :=
  OpenClaim.holds_of_wide 5 Try.f5 rfl rfl rfl rfl rfl rfl rfl ⟨rfl, rfl, rfl, rfl, rfl⟩ rfl rfl rfl rfl rfl (by kernel_rfl) Try.func5 (by kernel_rfl)
    (of_decide_eq_true (by kernel_rfl)) (by unfold Func.isWrapper; first | (rw [if_pos (by decide +kernel)]; kernel_rfl) | (rw [if_neg (by decide +kernel)]; exact ⟨rfl, rfl⟩))
    (fun os started H enc _ => lifted os started H enc)
end fnExactValidMark


end Go.Proofs.Ytjmicabmkipomaa
