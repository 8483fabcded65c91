/- The law FnExactSameState of the program holds: for every input the call returns true, and each argument reads behind it as it read before. No condition. -/
import Derived.Test.YtjmicabmkipomaaL2
import Derived.Test.YtjmicabmkipomaaV9
import Derived.Test.YtjmicabmkipomaaRows
set_option linter.all false
set_option linter.unusedSimpArgs false
set_option linter.unusedVariables false
namespace Go.Proofs.Ytjmicabmkipomaa
open Go Go.V Go.ChangeShapes Go.WideShapes Go.ChangeAt Go.RowKit

/- The law FnExactSameState holds: for every input the call returns true, and each argument reads behind it as it read before. -/
namespace fnExactSameState
theorem own_knob : ownKnob Try.prog.godebug = none := by kernel_rfl
theorem laid_out : laidOutB Try.prog = true := by kernel_rfl
theorem pure_all (l : List PV) (k0 : HasAll [.slice tNV, .slice tNV] l) : Pure Try.prog 8 l (.v (.bool true)) := by
  obtain ⟨_, _, rfl, h0, k1⟩ := hasAll_cons k0
  obtain ⟨_, _, rfl, h1, k2⟩ := hasAll_cons k1
  obtain rfl := hasAll_nil k2
  obtain ⟨rows0, rfl, hr0, hl0⟩ := hasA_slice h0
  obtain ⟨xs0, rfl, hx0⟩ := rows_of (enc := encNV) (fun r hr => hasNV hr) rows0 hr0
  rw [List.length_map] at hl0
  obtain ⟨rows1, rfl, hr1, hl1⟩ := hasA_slice h1
  obtain ⟨xs1, rfl, hx1⟩ := rows_of (enc := encNV) (fun r hr => hasNV hr) rows1 hr1
  rw [List.length_map] at hl1
  exact laws_FnExactSameState_c hl0 (fun x hx => (hx0 x hx).1) hl1 (fun x hx => (hx1 x hx).1)
set_option maxRecDepth 100000 in
theorem lifted (os : Os) (started : os.Started) (H : Type) (enc : TypeId × Value → H) :
    ReturnsInHanded {} Try.checked os 8 .any (Rows.fnExactSameStateSpec.pre6 enc Try.prog Try.f8 Rows.fnExactSameStateRow.domain false) (Rows.fnExactSameStateSpec.post enc Try.prog Try.f8 false true false false) := by
  refine returnsInHanded_of_change (C := Try.checked) own_knob started (by kernel_rfl) Try.func8
    (ChangeSpec.witness6 (enc := enc) (C := Try.checked) false ⟨#[], #[(.slice none 0 0), (.slice none 0 0)], []⟩ 8 (by kernel_rfl) (by kernel_rfl) (by kernel_rfl) (by kernel_rfl)) ?_
  intro W base args ds gs before hval hW _ _
  exact law_post (P := Try.prog) (n := 8) laid_out (by kernel_rfl) rfl rfl Try.underlying4 (by kernel_rfl)
    (fun ds h => by rw [Try.params8] at h; match ds, h with | [d0, d1], _ => exact ⟨rfl, rfl, rfl⟩) hval hW pure_all
theorem holds : Rows.FnExactSameStateSaid :=
  OpenClaim.holds_of_wide 8 Try.f8 rfl rfl rfl rfl rfl rfl rfl ⟨rfl, rfl, rfl, rfl, rfl⟩ rfl rfl rfl rfl rfl (by kernel_rfl) Try.func8 (by kernel_rfl)
    (of_decide_eq_true (by kernel_rfl)) (by unfold Func.isWrapper; first | (rw [if_pos (by decide +kernel)]; kernel_rfl) | (rw [if_neg (by decide +kernel)]; exact ⟨rfl, rfl⟩))
    (fun os started H enc _ => lifted os started H enc)
end fnExactSameState


end Go.Proofs.Ytjmicabmkipomaa
