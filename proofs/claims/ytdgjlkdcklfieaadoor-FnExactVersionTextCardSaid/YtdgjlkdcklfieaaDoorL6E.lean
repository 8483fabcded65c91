/- Contracts of functions of the program, each by a walk of its text in the calculus V. -/
import Derived.Test.YtdgjlkdcklfieaaDoorR6D
set_option linter.all false
set_option linter.unusedSimpArgs false
set_option linter.unnecessarySimpa false
set_option linter.unusedVariables false
namespace Go.Proofs.YtdgjlkdcklfieaaDoor
open Go Go.V

theorem laws_FnExactVersionText_c {x : Ver} (hw : VerWf x) :
    FnE (α := Unit) Tryd.prog 7 [.p (.agg (encVer x))] [(0, powR Tryd.prog)] [0] (fun _ => True) (fun _ => .p (.v (.bool true))) (fun _ => [(0, powR Tryd.prog)]) := by
  refine FnE.intro Tryd.func7 rfl Tryd.ntmps7 rfl rfl (fun w0 F0 η φ w => ?_)
  refine AC.seq ?_
  refine AC.region ?_
  refine AO.box 1 rfl rfl rfl rfl rfl ?_
  refine AO.yld _ (Yld.assign rfl) rfl rfl rfl ?_
  refine AO.nil ?_
  refine AC.seq ?_
  refine AC.region ?_
  refine AO.yld _ (Yld.assign rfl) rfl rfl rfl ?_
  refine AO.nil ?_
  refine AC.seq ?_
  refine AC.region ?_
  refine AO.yld _ (Yld.loadAgg Tryd.isAgg69 Tryd.sizeOf69 rfl rfl rfl rfl) rfl rfl rfl ?_
  refine AO.yld _ (Yld.move rfl) rfl rfl rfl ?_
  refine AO.callW (wantedN rfl) [] [] [] rfl rfl Tryd.call35 rfl (laws_szVersion_c (by assumption) (by omega) (by omega)) (.own rfl) rfl (fun _ => rfl) trivial rfl (fun _ => rfl) (fun _ => rfl) (fun r9 hr9 => ?_)
  refine AO.yld _ (Yld.assign rfl) rfl rfl rfl ?_
  refine AO.nil ?_
  refine AC.seq ?_
  refine AC.seq ?_
  refine AC.region ?_
  refine AO.yld _ (Yld.move rfl) rfl rfl rfl ?_
  refine AO.yld _ (Yld.int rfl rfl rfl) rfl rfl rfl ?_
  refine AO.nil ?_
  refine AC.cond _ rfl (fun c11 => ?_) (fun c11 => ?_)
  · -- c11 True
    refine AC.seq ?_
    refine AC.region ?_
    refine AO.yld _ (Yld.assign rfl) rfl rfl rfl ?_
    refine AO.nil ?_
    refine FnE.ret () [0] [0] Tryd.results7 (RVs.cons (RV.tmp rfl) RVs.nil) rfl rfl rfl ?_ ?_ ⟨⟨_, rfl, ?_⟩, trivial⟩
    · -- holds
      trivial
    · -- value
      first | rfl | (simp_all; done) | (simp_all; intros; omega) | grind
    · -- thing 0
      first | rfl | exact vecE (by first | rfl | (simp_all; done) | grind) | (simp_all; done)
  · -- c11 False
    have hg : VerGood x := by rcases hr9 with h | h; exact absurd h (by simpa using c11); exact h.1
    refine AC.skip ?_
    refine AC.seq ?_
    refine AC.region ?_
    refine AO.yld _ (Yld.loadAgg Tryd.isAgg69 Tryd.sizeOf69 rfl rfl rfl rfl) rfl rfl rfl ?_
    refine AO.callW (wantedN rfl) [2] [] [0] rfl rfl Tryd.call37 rfl (laws_toVersion_c (by assumption)) (.own rfl) rfl (fun _ => rfl) trivial rfl (fun _ => rfl) (fun _ => rfl) (fun _ _ => ?_)
    refine AO.yld _ (Yld.call rfl rfl Tryd.call36 rfl rfl rfl (spec_VersionText_c (by assumption)) rfl) rfl rfl rfl ?_
    refine AO.yld _ (Yld.assign rfl) rfl rfl rfl ?_
    refine AO.nil ?_
    refine AC.seq ?_
    refine AC.region ?_
    refine AO.yld _ (Yld.loadAgg Tryd.isAgg69 Tryd.sizeOf69 rfl rfl rfl rfl) rfl rfl rfl ?_
    refine AO.callW (wantedN rfl) [3] [] [0] rfl rfl Tryd.call37 rfl (laws_toVersion_c (by assumption)) (.own rfl) rfl (fun _ => rfl) trivial rfl (fun _ => rfl) (fun _ => rfl) (fun _ _ => ?_)
    refine AO.alloc 4 Tryd.zeroValue74 rfl rfl rfl ?_
    refine AO.store Tryd.sizeOf74 rfl rfl rfl rfl rfl rfl ?_
    refine AO.nil ?_
    refine AC.seq ?_
    refine AC.region ?_
    refine AO.freeze 3 rfl ?_
    refine AO.yld _ (Yld.loadAgg Tryd.isAgg74 Tryd.sizeOf74 rfl rfl rfl rfl) rfl rfl rfl ?_
    refine AO.callW (wantedN rfl) [0] [0] [0] rfl rfl Tryd.call38 rfl (impl_VersionText_c (by assumption)) (.own rfl) rfl (fun _ => rfl) ⟨rfl, trivial⟩ rfl (fun _ => rfl) (fun _ => rfl) (fun _ _ => ?_)
    refine AO.yld _ (Yld.assign rfl) rfl rfl rfl ?_
    refine AO.nil ?_
    refine AC.seq ?_
    refine AC.seq ?_
    refine AC.region ?_
    refine AO.yld _ (Yld.move rfl) rfl rfl rfl ?_
    refine AO.yld _ (Yld.move rfl) rfl rfl rfl ?_
    refine AO.yld _ (Yld.cmpStr rfl rfl rfl) rfl rfl rfl ?_
    refine AO.nil ?_
    refine AC.cond _ rfl (fun c21 => ?_) (fun c21 => ?_)
    · -- c21 True
      exfalso; simp at c21
    · -- c21 False
      refine AC.skip ?_
      refine AC.seq ?_
      refine AC.seq ?_
      apply AC.drawAnyC (α := Unit) [(0, _), (1, _), (2, _), (3, _), (4, _), (5, _), (6, _), (7, _), (8, _), (9, _), (10, _), (11, _), (12, _), (13, _), (14, _), (15, _), (16, _), (17, _), (18, _), (19, _), (20, _), (21, _)] [(0, _), (1, _), (2, _), (4, _), (900, _)] (fun y9 => [(26, .p (.v (.bool (!decide (x = x)))))]) (fun y9 => [(5, .vec 146 2 (x.state.map encNV))]) (by kernel_rfl)
      · -- orders
        refine ANx.all (rs := [0, 1]) (by kernel_rfl) rfl ⟨?_, ?_, trivial⟩
        · -- 0
          refine Stpx.eff rfl rfl (Eff.yld (Yld.loadAgg Tryd.isAgg74 Tryd.sizeOf74 rfl rfl rfl rfl) rfl rfl) ?_
          refine ANx.all (rs := [1]) (by kernel_rfl) rfl ⟨?_, trivial⟩
          refine Stpx.eff rfl rfl (Eff.yld (Yld.loadAgg Tryd.isAgg69 Tryd.sizeOf69 rfl rfl rfl rfl) rfl rfl) ?_
          refine ANx.all (rs := [2]) (by kernel_rfl) rfl ⟨?_, trivial⟩
          refine Stpx.effX rfl rfl (EffX.callW [5] [] [0] rfl rfl Tryd.call37 rfl (laws_toVersion_c (by assumption)) (.own rfl) rfl (fun _ => rfl) trivial rfl (fun _ => rfl) (fun _ => rfl)) ?_
          rintro _ ⟨⟨⟩, hu24, rfl⟩
          refine ANx.all (rs := [3]) (by kernel_rfl) rfl ⟨?_, trivial⟩
          refine Stpx.eff rfl rfl (Eff.yld (Yld.call rfl rfl Tryd.call39 rfl rfl rfl (laws_eqVersion_c (by assumption)) rfl) rfl rfl) ?_
          refine ANx.all (rs := [4]) (by kernel_rfl) rfl ⟨?_, trivial⟩
          refine Stpx.eff rfl rfl (Eff.yld (Yld.not rfl) rfl rfl) ?_
          exact ANx.doneC () (by kernel_rfl) ⟨rfl, trivial⟩ ⟨rfl, trivial⟩ ⟨rfl, rfl, rfl, rfl, rfl, rfl, rfl, rfl, rfl, rfl, rfl, rfl, rfl, rfl, rfl, rfl, rfl, rfl, rfl, rfl, rfl, rfl, trivial⟩ ⟨rfl, rfl, rfl, rfl, rfl, trivial⟩
        · -- 1
          refine Stpx.eff rfl rfl (Eff.yld (Yld.loadAgg Tryd.isAgg69 Tryd.sizeOf69 rfl rfl rfl rfl) rfl rfl) ?_
          refine ANx.all (rs := [0, 2]) (by kernel_rfl) rfl ⟨?_, ?_, trivial⟩
          · -- 0
            refine Stpx.eff rfl rfl (Eff.yld (Yld.loadAgg Tryd.isAgg74 Tryd.sizeOf74 rfl rfl rfl rfl) rfl rfl) ?_
            refine ANx.all (rs := [2]) (by kernel_rfl) rfl ⟨?_, trivial⟩
            refine Stpx.effX rfl rfl (EffX.callW [5] [] [0] rfl rfl Tryd.call37 rfl (laws_toVersion_c (by assumption)) (.own rfl) rfl (fun _ => rfl) trivial rfl (fun _ => rfl) (fun _ => rfl)) ?_
            rintro _ ⟨⟨⟩, hu24, rfl⟩
            refine ANx.all (rs := [3]) (by kernel_rfl) rfl ⟨?_, trivial⟩
            refine Stpx.eff rfl rfl (Eff.yld (Yld.call rfl rfl Tryd.call39 rfl rfl rfl (laws_eqVersion_c (by assumption)) rfl) rfl rfl) ?_
            refine ANx.all (rs := [4]) (by kernel_rfl) rfl ⟨?_, trivial⟩
            refine Stpx.eff rfl rfl (Eff.yld (Yld.not rfl) rfl rfl) ?_
            exact ANx.doneC () (by kernel_rfl) ⟨rfl, trivial⟩ ⟨rfl, trivial⟩ ⟨rfl, rfl, rfl, rfl, rfl, rfl, rfl, rfl, rfl, rfl, rfl, rfl, rfl, rfl, rfl, rfl, rfl, rfl, rfl, rfl, rfl, rfl, trivial⟩ ⟨rfl, rfl, rfl, rfl, rfl, trivial⟩
          · -- 2
            refine Stpx.effX rfl rfl (EffX.callW [5] [] [0] rfl rfl Tryd.call37 rfl (laws_toVersion_c (by assumption)) (.own rfl) rfl (fun _ => rfl) trivial rfl (fun _ => rfl) (fun _ => rfl)) ?_
            rintro _ ⟨⟨⟩, hu24, rfl⟩
            refine ANx.all (rs := [0]) (by kernel_rfl) rfl ⟨?_, trivial⟩
            refine Stpx.eff rfl rfl (Eff.yld (Yld.loadAgg Tryd.isAgg74 Tryd.sizeOf74 rfl rfl rfl rfl) rfl rfl) ?_
            refine ANx.all (rs := [3]) (by kernel_rfl) rfl ⟨?_, trivial⟩
            refine Stpx.eff rfl rfl (Eff.yld (Yld.call rfl rfl Tryd.call39 rfl rfl rfl (laws_eqVersion_c (by assumption)) rfl) rfl rfl) ?_
            refine ANx.all (rs := [4]) (by kernel_rfl) rfl ⟨?_, trivial⟩
            refine Stpx.eff rfl rfl (Eff.yld (Yld.not rfl) rfl rfl) ?_
            exact ANx.doneC () (by kernel_rfl) ⟨rfl, trivial⟩ ⟨rfl, trivial⟩ ⟨rfl, rfl, rfl, rfl, rfl, rfl, rfl, rfl, rfl, rfl, rfl, rfl, rfl, rfl, rfl, rfl, rfl, rfl, rfl, rfl, rfl, rfl, trivial⟩ ⟨rfl, rfl, rfl, rfl, rfl, trivial⟩
      · -- behind
        rintro y9
        refine AC.cond _ rfl (fun c26 => ?_) (fun c26 => ?_)
        · -- c26 True
          exfalso; simp at c26
        · -- c26 False
          refine AC.skip ?_
          refine AC.seq ?_
          refine AC.region ?_
          refine AO.yld _ (Yld.assign rfl) rfl rfl rfl ?_
          refine AO.nil ?_
          refine FnE.ret () [0] [0] Tryd.results7 (RVs.cons (RV.tmp rfl) RVs.nil) rfl rfl rfl ?_ ?_ ⟨⟨_, rfl, ?_⟩, trivial⟩
          · -- holds
            trivial
          · -- value
            first | rfl | (simp_all; done) | (simp_all; intros; omega) | grind
          · -- thing 0
            first | rfl | exact vecE (by first | rfl | (simp_all; done) | grind) | (simp_all; done)

end Go.Proofs.YtdgjlkdcklfieaaDoor
