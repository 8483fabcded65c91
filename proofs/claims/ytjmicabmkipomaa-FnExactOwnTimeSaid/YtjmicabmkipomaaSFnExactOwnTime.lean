/- The law FnExactOwnTime of the program holds: for every input the call returns true, and each argument reads behind it as it read before. No condition. -/
import Derived.Test.YtjmicabmkipomaaL2
import Derived.Test.YtjmicabmkipomaaV9
import Derived.Test.YtjmicabmkipomaaRows
set_option linter.all false
set_option linter.unusedSimpArgs false
set_option linter.unusedVariables false
namespace Go.Proofs.Ytjmicabmkipomaa
open Go Go.V Go.ChangeShapes Go.WideShapes Go.ChangeAt Go.RowKit

/- The law FnExactOwnTime holds: for every input the call returns true, and each argument reads behind it as it read before. -/
namespace fnExactOwnTime
theorem own_knob : ownKnob Try.prog.godebug = none := by kernel_rfl
theorem laid_out : laidOutB Try.prog = true := by kernel_rfl
theorem pure_all (l : List PV) (k0 : HasAll [tMach, .int .i64] l) : Pure Try.prog 6 l (.v (.bool true)) := by
  obtain ⟨_, _, rfl, h0, k1⟩ := hasAll_cons k0
  obtain ⟨_, _, rfl, h1, k2⟩ := hasAll_cons k1
  obtain rfl := hasAll_nil k2
  obtain ⟨_, rfl, g0⟩ := hasA_struct h0
  obtain ⟨x0, rfl, w0⟩ := hasMach g0
  obtain ⟨n1, rfl, w1⟩ := hasA_int h1
  exact laws_FnExactOwnTime_c w0.1 w0.2.1 w0.2.2 (wf_i64 w1)
set_option maxRecDepth 100000 in
theorem lifted (os : Os) (started : os.Started) (H : Type) (enc : TypeId × Value → H) :
    ReturnsInHanded {} Try.checked os 6 .any (Rows.fnExactOwnTimeSpec.pre6 enc Try.prog Try.f6 Rows.fnExactOwnTimeRow.domain false) (Rows.fnExactOwnTimeSpec.post enc Try.prog Try.f6 false true false false) := by
  refine returnsInHanded_of_change (C := Try.checked) own_knob started (by kernel_rfl) Try.func6
    (ChangeSpec.witness6 (enc := enc) (C := Try.checked) false ⟨#[], #[(.agg #[.string ⟨#[]⟩, .int .i64 0, .int .i64 0]), (.int .i64 0)], []⟩ 8 (by kernel_rfl) (by kernel_rfl) (by kernel_rfl) (by kernel_rfl)) ?_
  intro W base args ds gs before hval hW _ _
  exact law_post (P := Try.prog) (n := 8) laid_out (by kernel_rfl) rfl rfl Try.underlying4 (by kernel_rfl)
    (fun ds h => by rw [Try.params6] at h; match ds, h with | [d0, d1], _ => exact ⟨rfl, rfl, rfl⟩) hval hW pure_all
theorem holds : Rows.FnExactOwnTimeSaid :=
  OpenClaim.holds_of_wide 6 Try.f6 rfl rfl rfl rfl rfl rfl rfl ⟨rfl, rfl, rfl, rfl, rfl⟩ rfl rfl rfl rfl rfl (by kernel_rfl) Try.func6 (by kernel_rfl)
    (of_decide_eq_true (by kernel_rfl)) (by unfold Func.isWrapper; first | (rw [if_pos (by decide +kernel)]; kernel_rfl) | (rw [if_neg (by decide +kernel)]; exact ⟨rfl, rfl⟩))
    (fun os started H enc _ => lifted os started H enc)
end fnExactOwnTime


end Go.Proofs.Ytjmicabmkipomaa
