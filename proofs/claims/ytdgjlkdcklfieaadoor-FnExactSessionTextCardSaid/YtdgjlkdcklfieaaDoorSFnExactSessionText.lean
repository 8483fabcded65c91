/- The tied card of the law FnExactSessionText of the program: for every input the call returns true, and each argument reads behind it as it read before. -/
import Derived.Test.YtdgjlkdcklfieaaDoorL6F
import Derived.Test.YtdgjlkdcklfieaaDoorV25
import Derived.Test.YtdgjlkdcklfieaaDoorCards
import Derived.Test.YtdgjlkdcklfieaaDoorTie
import Derived.Lay
import Derived.LaidMore
import Derived.LaidOnce
import Derived.MakeChecks
import Derived.SevenTiedAt
import Derived.Stop.LaidErr
import Derived.ProofKit
import Derived.Test.YtdgjlkdcklfieaaDoorRows
set_option linter.all false
set_option linter.unusedSimpArgs false
set_option linter.unnecessarySimpa false
set_option linter.unusedVariables false
namespace Go.Proofs.YtdgjlkdcklfieaaDoor
open Go Go.V Go.ChangeShapes Go.WideShapes Go.ChangeAt Go.RowKit

/- The law FnExactSessionText holds: for every input the call returns true, and each argument reads behind it as it read before. -/
namespace fnExactSessionText
theorem own_knob : ownKnob Tryd.prog.godebug = none := by kernel_rfl
theorem laid_out : laidOutB Tryd.prog = true := by kernel_rfl
theorem table_of {w : World} (hL : laidMetH Tryd.prog Rows.fnExactSessionTextRow.laid w) : ∃ g, Tryd.prog.globalNamed "internal/strconv.uint64pow10" = some g ∧ g < w.heap.size ∧ Lib.TabIs Tryd.prog w "internal/strconv.uint64pow10" .u64 Lib.pow10Tab := by
  rw [MakeChecks.laidMetH_plain _ _ _ (by kernel_rfl)] at hL
  have e : (Rows.laid_internal_strconv_uint64pow10 : DataW Unit) = Lib.tabData .u64 Lib.pow10Tab := by kernel_rfl
  have h2 := laidMet.tail (laidMet.tail (show laidMet Tryd.prog (_ :: _ :: ("internal/strconv.uint64pow10", Rows.laid_internal_strconv_uint64pow10) :: _) w from hL))
  rw [e] at h2
  have ht := Lib.tabIs_of_head (g := 1) (t := 261) (e := 178) (n := 20) (by kernel_rfl) (by kernel_rfl) Tryd.underlying261 Tryd.underlying178 (by kernel_rfl) (by kernel_rfl) h2
  exact ⟨1, by kernel_rfl, tab_lt (by kernel_rfl) ht, ht⟩
theorem pure_all {w : World} (hL : laidMetH Tryd.prog Rows.fnExactSessionTextRow.laid w) (l : List PV) (k0 : HasAll [tSession] l) : PureAt Tryd.prog w 6 l (.v (.bool true)) := by
  obtain ⟨_, _, rfl, h0, k1⟩ := hasAll_cons k0
  obtain rfl := hasAll_nil k1
  obtain ⟨_, rfl, g0⟩ := hasA_struct h0
  obtain ⟨x0, rfl, w0⟩ := hasSession g0
  obtain ⟨g, hg, hlt, ht⟩ := table_of hL
  exact FnE.here (args := [_]) (laws_FnExactSessionText_c w0.1 w0.2.1 w0.2.2.1 w0.2.2.2) hg hlt ht
set_option maxRecDepth 100000 in
theorem lifted (os : Os) (started : os.Started) (H : Type) (enc : TypeId × Value → H) :
    ReturnsInHanded {} Tryd.checked os 6 .any (fun w args => (Rows.fnExactSessionTextSpec.pre enc Tryd.prog Tryd.f6 [] false w args ∧ laidMetH Tryd.prog Rows.fnExactSessionTextRow.laid w) ∧ sizedMet enc Tryd.prog Tryd.f6 (OpenSpec.ofChange Rows.fnExactSessionTextSpec) false w args)
      (Rows.fnExactSessionTextSpec.post enc Tryd.prog Tryd.f6 false true false false) := by
  refine returnsInHanded_of_change_and (C := Tryd.checked) (X := fun w _ => laidMetH Tryd.prog Rows.fnExactSessionTextRow.laid w) (fun _ _ _ hh h => h.of_heap hh) own_knob started (by kernel_rfl) Tryd.func6
    (ChangeSpec.witness_at (enc := enc) (C := Tryd.checked) (os := os) (X := fun w _ => laidMetH Tryd.prog Rows.fnExactSessionTextRow.laid w) false (World.laidAll Tryd.prog os Rows.fnExactSessionTextRow.laid) #[(.agg #[.int .i64 0, .int .i64 0, .int .i64 0, .int .i64 0])] 8 (World.laidAll_os _ _ _) (by kernel_rfl) (by kernel_rfl) (by kernel_rfl) (by kernel_rfl) (by kernel_rfl)
      (by rw [MakeChecks.laidMetH_plain _ _ _ (by kernel_rfl)]; exact laidMet_laidAll _ (by kernel_rfl) (by kernel_rfl))) ?_
  intro W base args ds gs before hval hW _ _ hL _
  exact law_postAt (P := Tryd.prog) (n := 8) laid_out (by kernel_rfl) rfl rfl Tryd.underlying4 (by kernel_rfl)
    (fun ds h => by rw [Tryd.params6] at h; match ds, h with | [d0], _ => exact ⟨rfl, rfl, rfl⟩) hval hW (pure_all hL)
theorem holds : Rows.FnExactSessionTextSaid :=
  OpenClaim.holds_of_wide 6 Tryd.f6 rfl rfl rfl rfl rfl rfl rfl ⟨rfl, rfl, rfl, rfl, rfl⟩ rfl rfl rfl rfl rfl (by kernel_rfl) Tryd.func6 (by kernel_rfl)
    (of_decide_eq_true (by kernel_rfl)) (by unfold Func.isWrapper; first | (rw [if_pos (by decide +kernel)]; kernel_rfl) | (rw [if_neg (by decide +kernel)]; exact ⟨rfl, rfl⟩))
    (fun os started H enc _ => lifted os started H enc)
theorem card_holds : Rows.FnExactSessionTextCardSaid :=
  Claim7.holds_tied_plain_at .later [] [.data, .data, .data] true (true, "0b23faa9446cc310eda2ed21f58559b0b5ad2bd3089d8f61aac147895af9e423") true holds (fun _ h => by cases h) (by kernel_rfl) (fun _ h => by cases h) fnExactSessionText_row_tie rfl ⟨rfl, rfl⟩ (by kernel_rfl) rfl
    (fun f fn hf hfn => by
      obtain rfl : f = 6 := Option.some.inj ((show Tryd.prog.funcNamed "loop.example/g00955/laws.FnExactSessionText" = some 6 by kernel_rfl).symm.trans hf) |>.symm
      obtain rfl : fn = Tryd.f6 := (Option.some.inj (Tryd.func6.symm.trans hfn)).symm
      exact ⟨by kernel_rfl, fun j t ht => by
        have hm : t ∈ Tryd.f6.params := Array.mem_of_getElem? ht
        have hall : (Tryd.f6.params.toList.all fun u => !Tryd.prog.wantsStandIn u) = true := by kernel_rfl
        have := List.all_eq_true.1 hall t (by simpa using hm)
        exact (show Tryd.prog.wantsStandIn t = false by simpa using this)⟩)
    (by kernel_rfl)
end fnExactSessionText


end Go.Proofs.YtdgjlkdcklfieaaDoor
