/- The tied card of the law FnClocks of the program: for every input the call returns true, and each argument reads behind it as it read before. -/
import Derived.Test.YtghcdgjbgljipaaDoorR15B
import Derived.Test.YtghcdgjbgljipaaDoorV25
import Derived.Test.YtghcdgjbgljipaaDoorV28
import Derived.Test.YtghcdgjbgljipaaDoorCards
import Derived.Test.YtghcdgjbgljipaaDoorTie
import Derived.Lay
import Derived.LaidMore
import Derived.LaidOnce
import Derived.MakeChecks
import Derived.SevenTiedAt
import Derived.Stop.LaidErr
import Derived.ProofKit
import Derived.Test.YtghcdgjbgljipaaDoorRows
set_option linter.all false
set_option linter.unusedSimpArgs false
set_option linter.unnecessarySimpa false
set_option linter.unusedVariables false
namespace Go.Proofs.YtghcdgjbgljipaaDoor
open Go Go.V Go.ChangeShapes Go.WideShapes Go.ChangeAt Go.RowKit

/- The law FnClocks holds: for every input the call returns true, and each argument reads behind it as it read before. -/
namespace fnClocks
theorem own_knob : ownKnob Tryd.prog.godebug = none := by kernel_rfl
theorem laid_out : laidOutB Tryd.prog = true := by kernel_rfl
theorem star : "*" ++ "errors.errorString" = "*errors.errorString" := by decide
theorem errRow (u : TypeId) (h : Tryd.prog.typeName? 3 u = some "*errors.errorString") : u = 207 :=
  typeName_ptr_named (nm := "errors.errorString") (by rw [star]; kernel_rfl) (by kernel_rfl) (by decide) u (by rw [star]; exact h)
theorem env_of {w : World} (hL : laidMetH Tryd.prog Rows.fnClocksRow.laid w) (hS : w.ShapedOpen Tryd.prog) : EnvAt Tryd.prog w := by
  rw [MakeChecks.laidMetH_plain _ _ _ (by kernel_rfl)] at hL
  have e : (Rows.laid_internal_strconv_uint64pow10 : DataW Unit) = Lib.tabData .u64 Lib.pow10Tab := by kernel_rfl
  have h2 := laidMet.tail (laidMet.tail (show laidMet Tryd.prog (_ :: _ :: ("internal/strconv.uint64pow10", Rows.laid_internal_strconv_uint64pow10) :: _) w from hL))
  rw [e] at h2
  have ht := Lib.tabIs_of_head (g := 1) (t := 179) (e := 115) (n := 20) (by kernel_rfl) (by kernel_rfl) Tryd.underlying179 Tryd.underlying115 (by kernel_rfl) (by kernel_rfl) h2
  have h4 := laidMet.tail (laidMet.tail (laidMet.tail (laidMet.tail (laidMet.tail (hL)))))
  obtain ⟨a, s, hv, _⟩ := laid_sentinel (tp := 207) (te := 209) (ts := 9) (g := 2) (ti := 157) h4 (by kernel_rfl) (by kernel_rfl) Tryd.underlying157 errRow Tryd.underlying207 Tryd.underlying209 rfl rfl Tryd.underlying9 (by kernel_rfl) (by kernel_rfl)
  obtain ⟨m, hm⟩ := Tryd.laysM219.s1_3 w hS
  exact ⟨⟨1, by kernel_rfl, tab_lt (by kernel_rfl) ht, ht⟩, ⟨2, _, _, by kernel_rfl, hv⟩, ⟨0, m, by kernel_rfl, hm⟩⟩
theorem pure_all {w : World} (hL : EnvAt Tryd.prog w) (l : List PV) (k0 : HasAll [.slice (.int .u8), .slice (.int .u8)] l) : PureAt Tryd.prog w 4 l (.v (.bool true)) := by
  obtain ⟨_, _, rfl, h0, k1⟩ := hasAll_cons k0
  obtain ⟨_, _, rfl, h1, k2⟩ := hasAll_cons k1
  obtain rfl := hasAll_nil k2
  obtain ⟨rows0, rfl, hr0, hl0⟩ := hasA_slice h0
  obtain ⟨xs0, rfl, hx0⟩ := rows_of (enc := encB) (fun r hr => hasB hr) rows0 hr0
  obtain ⟨rows1, rfl, hr1, hl1⟩ := hasA_slice h1
  obtain ⟨xs1, rfl, hx1⟩ := rows_of (enc := encB) (fun r hr => hasB hr) rows1 hr1
  exact FnE.hereE (args := [_, _]) (laws_FnClocks_c) hL
set_option maxRecDepth 100000 in
theorem lifted (os : Os) (started : os.Started) (H : Type) (enc : TypeId × Value → H) :
    ReturnsInHanded {} Tryd.checked os 4 .any (fun w args => (Rows.fnClocksSpec.pre enc Tryd.prog Tryd.f4 [] false w args ∧ laidMetH Tryd.prog Rows.fnClocksRow.laid w) ∧ sizedMet enc Tryd.prog Tryd.f4 (OpenSpec.ofChange Rows.fnClocksSpec) false w args)
      (Rows.fnClocksSpec.post enc Tryd.prog Tryd.f4 false true false false) := by
  refine lift_and_shaped (C := Tryd.checked) (X := fun w _ => laidMetH Tryd.prog Rows.fnClocksRow.laid w) (fun _ _ _ hh h => h.of_heap hh) own_knob started (by kernel_rfl) Tryd.func4
    (ChangeSpec.witness_at (enc := enc) (C := Tryd.checked) (os := os) (X := fun w _ => laidMetH Tryd.prog Rows.fnClocksRow.laid w) false (World.laidAll Tryd.prog os Rows.fnClocksRow.laid) #[(.slice none 0 0), (.slice none 0 0)] 8 (World.laidAll_os _ _ _) (by kernel_rfl) (by kernel_rfl) (by kernel_rfl) (by kernel_rfl) (by kernel_rfl)
      (by rw [MakeChecks.laidMetH_plain _ _ _ (by kernel_rfl)]; exact laidMet_laidAll _ (by kernel_rfl) (by kernel_rfl))) ?_
  intro W base args ds gs before hval hW hL hS
  exact law_postAt (P := Tryd.prog) (n := 8) laid_out (by kernel_rfl) rfl rfl Tryd.underlying4 (by kernel_rfl)
    (fun ds h => by rw [Tryd.params4] at h; match ds, h with | [d0, d1], _ => exact ⟨rfl, rfl, rfl⟩) hval hW (pure_all (env_of hL hS))
theorem holds : Rows.FnClocksSaid :=
  OpenClaim.holds_of_wide 4 Tryd.f4 rfl rfl rfl rfl rfl rfl rfl ⟨rfl, rfl, rfl, rfl, rfl⟩ rfl rfl rfl rfl rfl (by kernel_rfl) Tryd.func4 (by kernel_rfl)
    (of_decide_eq_true (by kernel_rfl)) (by unfold Func.isWrapper; first | (rw [if_pos (by decide +kernel)]; kernel_rfl) | (rw [if_neg (by decide +kernel)]; exact ⟨rfl, rfl⟩))
    (fun os started H enc _ => lifted os started H enc)
theorem card_holds : Rows.FnClocksCardSaid :=
  Claim7.holds_tied_plain_at .later [] [.data, .data, .data, .data, .sentinel, .sentinel, .pinned] true (true, "8ab54408a866ae0ef902921d5524a4b1f02021d5d8e74587e35613783dfc2916") true holds (fun _ h => by cases h) (by kernel_rfl) (fun _ h => by cases h) fnClocks_row_tie rfl ⟨rfl, rfl⟩ (by kernel_rfl) rfl
    (fun f fn hf hfn => by
      obtain rfl : f = 4 := Option.some.inj ((show Tryd.prog.funcNamed "loop.example/g00955/laws.FnClocks" = some 4 by kernel_rfl).symm.trans hf) |>.symm
      obtain rfl : fn = Tryd.f4 := (Option.some.inj (Tryd.func4.symm.trans hfn)).symm
      exact ⟨by kernel_rfl, fun j t ht => by
        have hm : t ∈ Tryd.f4.params := Array.mem_of_getElem? ht
        have hall : (Tryd.f4.params.toList.all fun u => !Tryd.prog.wantsStandIn u) = true := by kernel_rfl
        have := List.all_eq_true.1 hall t (by simpa using hm)
        exact (show Tryd.prog.wantsStandIn t = false by simpa using this)⟩)
    (by kernel_rfl)
end fnClocks


end Go.Proofs.YtghcdgjbgljipaaDoor
