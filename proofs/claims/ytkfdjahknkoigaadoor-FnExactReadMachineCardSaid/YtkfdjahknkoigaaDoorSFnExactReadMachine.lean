/- The tied card of the law FnExactReadMachine of the program: for every input the call returns true, and each argument reads behind it as it read before. -/
import Derived.Test.YtkfdjahknkoigaaDoorL7M
import Derived.Test.YtkfdjahknkoigaaDoorV25
import Derived.Test.YtkfdjahknkoigaaDoorV28
import Derived.Test.YtkfdjahknkoigaaDoorCards
import Derived.Test.YtkfdjahknkoigaaDoorTie
import Derived.Lay
import Derived.LaidMore
import Derived.LaidOnce
import Derived.MakeChecks
import Derived.SevenTiedAt
import Derived.Stop.LaidErr
import Derived.ProofKit
import Derived.Test.YtkfdjahknkoigaaDoorRows
set_option linter.all false
set_option linter.unusedSimpArgs false
set_option linter.unnecessarySimpa false
set_option linter.unusedVariables false
namespace Go.Proofs.YtkfdjahknkoigaaDoor
open Go Go.V Go.ChangeShapes Go.WideShapes Go.ChangeAt Go.RowKit

/- The law FnExactReadMachine holds: for every input the call returns true, and each argument reads behind it as it read before. -/
namespace fnExactReadMachine
theorem own_knob : ownKnob Tryd.prog.godebug = none := by kernel_rfl
theorem laid_out : laidOutB Tryd.prog = true := by kernel_rfl
theorem star : "*" ++ "errors.errorString" = "*errors.errorString" := by decide
theorem errRow (u : TypeId) (h : Tryd.prog.typeName? 3 u = some "*errors.errorString") : u = 104 :=
  typeName_ptr_named (nm := "errors.errorString") (by rw [star]; kernel_rfl) (by kernel_rfl) (by decide) u (by rw [star]; exact h)
theorem env_of {w : World} (hL : laidMetH Tryd.prog Rows.fnExactReadMachineRow.laid w) (hS : w.ShapedOpen Tryd.prog) : EnvAt Tryd.prog w := by
  rw [MakeChecks.laidMetH_plain _ _ _ (by kernel_rfl)] at hL
  have e : (Rows.laid_internal_strconv_uint64pow10 : DataW Unit) = Lib.tabData .u64 Lib.pow10Tab := by kernel_rfl
  have h2 := laidMet.tail (laidMet.tail (show laidMet Tryd.prog (_ :: _ :: ("internal/strconv.uint64pow10", Rows.laid_internal_strconv_uint64pow10) :: _) w from hL))
  rw [e] at h2
  have ht := Lib.tabIs_of_head (g := 3) (t := 108) (e := 78) (n := 20) (by kernel_rfl) (by kernel_rfl) Tryd.underlying108 Tryd.underlying78 (by kernel_rfl) (by kernel_rfl) h2
  have h4 := laidMet.tail (laidMet.tail (laidMet.tail (laidMet.tail (laidMet.tail (hL)))))
  obtain ⟨a, s, hv, _⟩ := laid_sentinel (tp := 104) (te := 106) (ts := 9) (g := 1) (ti := 59) h4 (by kernel_rfl) (by kernel_rfl) Tryd.underlying59 errRow Tryd.underlying104 Tryd.underlying106 rfl rfl Tryd.underlying9 (by kernel_rfl) (by kernel_rfl)
  obtain ⟨m, hm⟩ := Tryd.laysM145.s1_3 w hS
  exact ⟨⟨3, by kernel_rfl, tab_lt (by kernel_rfl) ht, ht⟩, ⟨1, _, _, by kernel_rfl, hv⟩, ⟨0, m, by kernel_rfl, hm⟩⟩
theorem pure_all {w : World} (hL : EnvAt Tryd.prog w) (l : List PV) (k0 : HasAll [.str] l) : PureAt Tryd.prog w 5 l (.v (.bool true)) := by
  obtain ⟨_, _, rfl, h0, k1⟩ := hasAll_cons k0
  obtain rfl := hasAll_nil k1
  obtain ⟨s0, rfl, w0⟩ := hasA_str h0
  exact FnE.hereE (args := [_]) (laws_FnExactReadMachine_c w0) hL
set_option maxRecDepth 100000 in
theorem lifted (os : Os) (started : os.Started) (H : Type) (enc : TypeId × Value → H) :
    ReturnsInHanded {} Tryd.checked os 5 .any (fun w args => (Rows.fnExactReadMachineSpec.pre enc Tryd.prog Tryd.f5 [] false w args ∧ laidMetH Tryd.prog Rows.fnExactReadMachineRow.laid w) ∧ sizedMet enc Tryd.prog Tryd.f5 (OpenSpec.ofChange Rows.fnExactReadMachineSpec) false w args)
      (Rows.fnExactReadMachineSpec.post enc Tryd.prog Tryd.f5 false true false false) := by
  refine lift_and_shaped (C := Tryd.checked) (X := fun w _ => laidMetH Tryd.prog Rows.fnExactReadMachineRow.laid w) (fun _ _ _ hh h => h.of_heap hh) own_knob started (by kernel_rfl) Tryd.func5
    (ChangeSpec.witness_at (enc := enc) (C := Tryd.checked) (os := os) (X := fun w _ => laidMetH Tryd.prog Rows.fnExactReadMachineRow.laid w) false (World.laidAll Tryd.prog os Rows.fnExactReadMachineRow.laid) #[(.string ⟨#[]⟩)] 8 (World.laidAll_os _ _ _) (by kernel_rfl) (by kernel_rfl) (by kernel_rfl) (by kernel_rfl) (by kernel_rfl)
      (by rw [MakeChecks.laidMetH_plain _ _ _ (by kernel_rfl)]; exact laidMet_laidAll _ (by kernel_rfl) (by kernel_rfl))) ?_
  intro W base args ds gs before hval hW hL hS
  exact law_postAt (P := Tryd.prog) (n := 8) laid_out (by kernel_rfl) rfl rfl Tryd.underlying4 (by kernel_rfl)
    (fun ds h => by rw [Tryd.params5] at h; match ds, h with | [d0], _ => exact ⟨rfl, rfl, rfl⟩) hval hW (pure_all (env_of hL hS))
theorem holds : Rows.FnExactReadMachineSaid :=
  OpenClaim.holds_of_wide 5 Tryd.f5 rfl rfl rfl rfl rfl rfl rfl ⟨rfl, rfl, rfl, rfl, rfl⟩ rfl rfl rfl rfl rfl (by kernel_rfl) Tryd.func5 (by kernel_rfl)
    (of_decide_eq_true (by kernel_rfl)) (by unfold Func.isWrapper; first | (rw [if_pos (by decide +kernel)]; kernel_rfl) | (rw [if_neg (by decide +kernel)]; exact ⟨rfl, rfl⟩))
    (fun os started H enc _ => lifted os started H enc)
theorem card_holds : Rows.FnExactReadMachineCardSaid :=
  Claim7.holds_tied_plain_at .later [] [.data, .data, .data, .data, .sentinel, .sentinel, .pinned] true (true, "b17d3ee22e8916a6043c8cd848f28a766a419444f6e6749bdf1530b78fd83a37") true holds (fun _ h => by cases h) (by kernel_rfl) (fun _ h => by cases h) fnExactReadMachine_row_tie rfl ⟨rfl, rfl⟩ (by kernel_rfl) rfl
    (fun f fn hf hfn => by
      obtain rfl : f = 5 := Option.some.inj ((show Tryd.prog.funcNamed "loop.example/g00955/laws.FnExactReadMachine" = some 5 by kernel_rfl).symm.trans hf) |>.symm
      obtain rfl : fn = Tryd.f5 := (Option.some.inj (Tryd.func5.symm.trans hfn)).symm
      exact ⟨by kernel_rfl, fun j t ht => by
        have hm : t ∈ Tryd.f5.params := Array.mem_of_getElem? ht
        have hall : (Tryd.f5.params.toList.all fun u => !Tryd.prog.wantsStandIn u) = true := by kernel_rfl
        have := List.all_eq_true.1 hall t (by simpa using hm)
        exact (show Tryd.prog.wantsStandIn t = false by simpa using this)⟩)
    (by kernel_rfl)
end fnExactReadMachine


end Go.Proofs.YtkfdjahknkoigaaDoor
