/- The tied card of the law FnVersions of the program: for every input the call returns true, and each argument reads behind it as it read before. -/
import Derived.Test.YtmnmaakaneaiaaaDoorK7
import Derived.Test.YtmnmaakaneaiaaaDoorK6
import Derived.Test.YtmnmaakaneaiaaaDoorCards
import Derived.Test.YtmnmaakaneaiaaaDoorTie
import Derived.Lay
import Derived.LaidMore
import Derived.LaidOnce
import Derived.MakeChecks
import Derived.SevenTiedAt
import Derived.Stop.LaidErr
import Derived.ProofKit
import Derived.Test.YtmnmaakaneaiaaaDoorRows
set_option linter.all false
set_option linter.unusedSimpArgs false
set_option linter.unnecessarySimpa false
set_option linter.unusedVariables false
namespace Go.Proofs.YtmnmaakaneaiaaaDoor
open Go Go.V Go.ChangeShapes Go.WideShapes Go.ChangeAt Go.RowKit

/- The law FnVersions holds: for every input the call returns true, and each argument reads behind it as it read before. -/
namespace fnVersions
theorem own_knob : ownKnob Tryd.prog.godebug = none := by kernel_rfl
theorem laid_out : laidOutB Tryd.prog = true := by kernel_rfl
theorem table_of {w : World} (hL : laidMetH Tryd.prog Rows.fnVersionsRow.laid w) : ∃ g, Tryd.prog.globalNamed "internal/strconv.uint64pow10" = some g ∧ g < w.heap.size ∧ Lib.TabIs Tryd.prog w "internal/strconv.uint64pow10" .u64 Lib.pow10Tab := by
  rw [MakeChecks.laidMetH_plain _ _ _ (by kernel_rfl)] at hL
  have e : (Rows.laid_internal_strconv_uint64pow10 : DataW Unit) = Lib.tabData .u64 Lib.pow10Tab := by kernel_rfl
  have h2 := laidMet.tail (laidMet.tail (show laidMet Tryd.prog (_ :: _ :: ("internal/strconv.uint64pow10", Rows.laid_internal_strconv_uint64pow10) :: _) w from hL))
  rw [e] at h2
  have ht := Lib.tabIs_of_head (g := 1) (t := 125) (e := 78) (n := 20) (by kernel_rfl) (by kernel_rfl) Tryd.underlying125 Tryd.underlying78 (by kernel_rfl) (by kernel_rfl) h2
  exact ⟨1, by kernel_rfl, tab_lt (by kernel_rfl) ht, ht⟩
theorem pure_all {w : World} (hL : laidMetH Tryd.prog Rows.fnVersionsRow.laid w) (l : List PV) (k0 : HasAll [.slice (.int .u8), .slice (.int .u8)] l) : PureAt Tryd.prog w 3 l (.v (.bool true)) := by
  obtain ⟨_, _, rfl, h0, k1⟩ := hasAll_cons k0
  obtain ⟨_, _, rfl, h1, k2⟩ := hasAll_cons k1
  obtain rfl := hasAll_nil k2
  obtain ⟨rows0, rfl, hr0, hl0⟩ := hasA_slice h0
  obtain ⟨xs0, rfl, hx0⟩ := rows_of (enc := encB) (fun r hr => hasB hr) rows0 hr0
  obtain ⟨rows1, rfl, hr1, hl1⟩ := hasA_slice h1
  obtain ⟨xs1, rfl, hx1⟩ := rows_of (enc := encB) (fun r hr => hasB hr) rows1 hr1
  obtain ⟨g, hg, hlt, ht⟩ := table_of hL
  exact FnE.here (args := [_, _]) (laws_FnVersions_c) hg hlt ht
set_option maxRecDepth 100000 in
theorem lifted (os : Os) (started : os.Started) (H : Type) (enc : TypeId × Value → H) :
    ReturnsInHanded {} Tryd.checked os 3 .any (fun w args => (Rows.fnVersionsSpec.pre enc Tryd.prog Tryd.f3 [] false w args ∧ laidMetH Tryd.prog Rows.fnVersionsRow.laid w) ∧ sizedMet enc Tryd.prog Tryd.f3 (OpenSpec.ofChange Rows.fnVersionsSpec) false w args)
      (Rows.fnVersionsSpec.post enc Tryd.prog Tryd.f3 false true false false) := by
  refine returnsInHanded_of_change_and (C := Tryd.checked) (X := fun w _ => laidMetH Tryd.prog Rows.fnVersionsRow.laid w) (fun _ _ _ hh h => h.of_heap hh) own_knob started (by kernel_rfl) Tryd.func3
    (ChangeSpec.witness_at (enc := enc) (C := Tryd.checked) (os := os) (X := fun w _ => laidMetH Tryd.prog Rows.fnVersionsRow.laid w) false (World.laidAll Tryd.prog os Rows.fnVersionsRow.laid) #[(.slice none 0 0), (.slice none 0 0)] 8 (World.laidAll_os _ _ _) (by kernel_rfl) (by kernel_rfl) (by kernel_rfl) (by kernel_rfl) (by kernel_rfl)
      (by rw [MakeChecks.laidMetH_plain _ _ _ (by kernel_rfl)]; exact laidMet_laidAll _ (by kernel_rfl) (by kernel_rfl))) ?_
  intro W base args ds gs before hval hW _ _ hL _
  exact law_postAt (P := Tryd.prog) (n := 8) laid_out (by kernel_rfl) rfl rfl Tryd.underlying4 (by kernel_rfl)
    (fun ds h => by rw [Tryd.params3] at h; match ds, h with | [d0, d1], _ => exact ⟨rfl, rfl, rfl⟩) hval hW (pure_all hL)
theorem holds : Rows.FnVersionsSaid :=
  OpenClaim.holds_of_wide 3 Tryd.f3 rfl rfl rfl rfl rfl rfl rfl ⟨rfl, rfl, rfl, rfl, rfl⟩ rfl rfl rfl rfl rfl (by kernel_rfl) Tryd.func3 (by kernel_rfl)
    (of_decide_eq_true (by kernel_rfl)) (by unfold Func.isWrapper; first | (rw [if_pos (by decide +kernel)]; kernel_rfl) | (rw [if_neg (by decide +kernel)]; exact ⟨rfl, rfl⟩))
    (fun os started H enc _ => lifted os started H enc)
theorem card_holds : Rows.FnVersionsCardSaid :=
  Claim7.holds_tied_plain_at .later [] [.data, .data, .data] true (true, "22f765aa058597920f9aa78e5fbdc30fe50f89e0f500ca7157fe30df0d4e6812") false holds (fun _ h => by cases h) (by kernel_rfl) (fun _ h => by cases h) fnVersions_row_tie rfl ⟨rfl, rfl⟩ (by kernel_rfl) rfl
    (fun f fn hf hfn => by
      obtain rfl : f = 3 := Option.some.inj ((show Tryd.prog.funcNamed "loop.example/g00955/laws.FnVersions" = some 3 by kernel_rfl).symm.trans hf) |>.symm
      obtain rfl : fn = Tryd.f3 := (Option.some.inj (Tryd.func3.symm.trans hfn)).symm
      exact ⟨by kernel_rfl, fun j t ht => by
        have hm : t ∈ Tryd.f3.params := Array.mem_of_getElem? ht
        have hall : (Tryd.f3.params.toList.all fun u => !Tryd.prog.wantsStandIn u) = true := by kernel_rfl
        have := List.all_eq_true.1 hall t (by simpa using hm)
        exact (show Tryd.prog.wantsStandIn t = false by simpa using this)⟩)
    (by kernel_rfl)
end fnVersions


end Go.Proofs.YtmnmaakaneaiaaaDoor
