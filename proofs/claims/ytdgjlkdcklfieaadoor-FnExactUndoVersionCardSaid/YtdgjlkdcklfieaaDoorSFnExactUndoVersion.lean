/- The tied card of the law FnExactUndoVersion of the program: for every input the call returns true, and each argument reads behind it as it read before. -/
import Derived.Test.YtdgjlkdcklfieaaDoorL6B
import Derived.Test.YtdgjlkdcklfieaaDoorV25
import Derived.Test.YtdgjlkdcklfieaaDoorCards
import Derived.Test.YtdgjlkdcklfieaaDoorTie
import Derived.Lay
import Derived.LaidMore
import Derived.LaidOnce
import Derived.MakeChecks
import Derived.SevenTiedAt
import Derived.ProofKit
import Derived.Test.YtdgjlkdcklfieaaDoorRows
set_option linter.all false
set_option linter.unusedSimpArgs false
set_option linter.unnecessarySimpa false
set_option linter.unusedVariables false
namespace Go.Proofs.YtdgjlkdcklfieaaDoor
open Go Go.V Go.ChangeShapes Go.WideShapes Go.ChangeAt Go.RowKit

/- The law FnExactUndoVersion holds: for every input the call returns true, and each argument reads behind it as it read before. -/
namespace fnExactUndoVersion
theorem own_knob : ownKnob Tryd.prog.godebug = none := by kernel_rfl
theorem laid_out : laidOutB Tryd.prog = true := by kernel_rfl
theorem pure_all (l : List PV) (k0 : HasAll [.slice tVer, .int .i64] l) : Pure Tryd.prog 8 l (.v (.bool true)) := by
  obtain ⟨_, _, rfl, h0, k1⟩ := hasAll_cons k0
  obtain ⟨_, _, rfl, h1, k2⟩ := hasAll_cons k1
  obtain rfl := hasAll_nil k2
  obtain ⟨rows0, rfl, hr0, hl0⟩ := hasA_slice h0
  obtain ⟨xs0, rfl, hx0⟩ := rows_of (enc := encVer) (fun r hr => hasVer hr) rows0 hr0
  rw [List.length_map] at hl0
  obtain ⟨n1, rfl, w1⟩ := hasA_int h1
  exact laws_FnExactUndoVersion_c hl0 hx0 (wf_i64 w1)
set_option maxRecDepth 100000 in
theorem lifted (os : Os) (started : os.Started) (H : Type) (enc : TypeId × Value → H) :
    ReturnsInHanded {} Tryd.checked os 8 .any (fun w args => (Rows.fnExactUndoVersionSpec.pre enc Tryd.prog Tryd.f8 [] false w args ∧ laidMetH Tryd.prog Rows.fnExactUndoVersionRow.laid w) ∧ sizedMet enc Tryd.prog Tryd.f8 (OpenSpec.ofChange Rows.fnExactUndoVersionSpec) false w args)
      (Rows.fnExactUndoVersionSpec.post enc Tryd.prog Tryd.f8 false true false false) := by
  refine returnsInHanded_of_change_and (C := Tryd.checked) (X := fun w _ => laidMetH Tryd.prog Rows.fnExactUndoVersionRow.laid w) (fun _ _ _ hh h => h.of_heap hh) own_knob started (by kernel_rfl) Tryd.func8
    (ChangeSpec.witness_at (enc := enc) (C := Tryd.checked) (os := os) (X := fun w _ => laidMetH Tryd.prog Rows.fnExactUndoVersionRow.laid w) false (World.laidAll Tryd.prog os Rows.fnExactUndoVersionRow.laid) #[(.slice none 0 0), (.int .i64 0)] 8 (World.laidAll_os _ _ _) (by kernel_rfl) (by kernel_rfl) (by kernel_rfl) (by kernel_rfl) (by kernel_rfl)
      (by rw [MakeChecks.laidMetH_plain _ _ _ (by kernel_rfl)]; exact laidMet_laidAll _ (by kernel_rfl) (by kernel_rfl))) ?_
  intro W base args ds gs before hval hW _ _ hL _
  exact law_postAt (P := Tryd.prog) (n := 8) laid_out (by kernel_rfl) rfl rfl Tryd.underlying4 (by kernel_rfl)
    (fun ds h => by rw [Tryd.params8] at h; match ds, h with | [d0, d1], _ => exact ⟨rfl, rfl, rfl⟩) hval hW (fun l h => (pure_all l h).here W)
theorem holds : Rows.FnExactUndoVersionSaid :=
  OpenClaim.holds_of_wide 8 Tryd.f8 rfl rfl rfl rfl rfl rfl rfl ⟨rfl, rfl, rfl, rfl, rfl⟩ rfl rfl rfl rfl rfl (by kernel_rfl) Tryd.func8 (by kernel_rfl)
    (of_decide_eq_true (by kernel_rfl)) (by unfold Func.isWrapper; first | (rw [if_pos (by decide +kernel)]; kernel_rfl) | (rw [if_neg (by decide +kernel)]; exact ⟨rfl, rfl⟩))
    (fun os started H enc _ => lifted os started H enc)
theorem card_holds : Rows.FnExactUndoVersionCardSaid :=
  Claim7.holds_tied_plain_at .later [] [.data, .data, .data] true (true, "0b23faa9446cc310eda2ed21f58559b0b5ad2bd3089d8f61aac147895af9e423") true holds (fun _ h => by cases h) (by kernel_rfl) (fun _ h => by cases h) fnExactUndoVersion_row_tie rfl ⟨rfl, rfl⟩ (by kernel_rfl) rfl
    (fun f fn hf hfn => by
      obtain rfl : f = 8 := Option.some.inj ((show Tryd.prog.funcNamed "loop.example/g00955/laws.FnExactUndoVersion" = some 8 by kernel_rfl).symm.trans hf) |>.symm
      obtain rfl : fn = Tryd.f8 := (Option.some.inj (Tryd.func8.symm.trans hfn)).symm
      exact ⟨by kernel_rfl, fun j t ht => by
        have hm : t ∈ Tryd.f8.params := Array.mem_of_getElem? ht
        have hall : (Tryd.f8.params.toList.all fun u => !Tryd.prog.wantsStandIn u) = true := by kernel_rfl
        have := List.all_eq_true.1 hall t (by simpa using hm)
        exact (show Tryd.prog.wantsStandIn t = false by simpa using this)⟩)
    (by kernel_rfl)
end fnExactUndoVersion


end Go.Proofs.YtdgjlkdcklfieaaDoor
