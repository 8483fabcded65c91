/- Contracts of functions of the program, each by a walk of its text in the calculus V. -/
import Derived.Test.YtdgjlkdcklfieaaDoorR6C
set_option linter.all false
set_option linter.unusedSimpArgs false
set_option linter.unnecessarySimpa false
set_option linter.unusedVariables false
namespace Go.Proofs.YtdgjlkdcklfieaaDoor
open Go Go.V

theorem laws_FnExactMediaText_c {x : NV} (hs_x : (x.name).length ≤ 9223372036854775807) (hb_x_val : i64b x.val) :
    FnE (α := Unit) Tryd.prog 4 [.p (.agg (encNV x))] [(0, powR Tryd.prog)] [0] (fun _ => True) (fun _ => .p (.v (.bool true))) (fun _ => [(0, powR Tryd.prog)]) := by
  refine FnE.intro Tryd.func4 rfl Tryd.ntmps4 rfl rfl (fun w0 F0 η φ w => ?_)
  refine AC.seq ?_
  refine AC.region ?_
  refine AO.box 1 rfl rfl rfl rfl rfl ?_
  refine AO.yld _ (Yld.assign rfl) rfl rfl rfl ?_
  refine AO.nil ?_
  refine AC.seq ?_
  refine AC.region ?_
  refine AO.yld _ (Yld.assign rfl) rfl rfl rfl ?_
  refine AO.nil ?_
  refine AC.seq ?_
  refine AC.region ?_
  refine AO.yld _ (Yld.loadAgg Tryd.isAgg51 Tryd.sizeOf51 rfl rfl rfl rfl) rfl rfl rfl ?_
  refine AO.yld _ (Yld.move rfl) rfl rfl rfl ?_
  refine AO.yld _ (Yld.call rfl rfl Tryd.call25 rfl rfl rfl (laws_szMedia_c (by omega) (by omega) (by first | assumption | omega)) rfl) rfl rfl rfl ?_
  refine AO.yld _ (Yld.assign rfl) rfl rfl rfl ?_
  refine AO.nil ?_
  refine AC.seq ?_
  refine AC.seq ?_
  refine AC.region ?_
  refine AO.yld _ (Yld.move rfl) rfl rfl rfl ?_
  refine AO.yld _ (Yld.int rfl rfl rfl) rfl rfl rfl ?_
  refine AO.nil ?_
  refine AC.cond _ rfl (fun c10 => ?_) (fun c10 => ?_)
  · -- c10 True
    refine AC.seq ?_
    refine AC.region ?_
    refine AO.yld _ (Yld.assign rfl) rfl rfl rfl ?_
    refine AO.nil ?_
    refine FnE.ret () [0] [0] Tryd.results4 (RVs.cons (RV.tmp rfl) RVs.nil) rfl rfl rfl ?_ ?_ ⟨⟨_, rfl, ?_⟩, trivial⟩
    · -- holds
      trivial
    · -- value
      first | rfl | (simp_all; done) | (simp_all; intros; omega) | grind
    · -- thing 0
      first | rfl | exact vecE (by first | rfl | (simp_all; done) | grind) | (simp_all; done)
  · -- c10 False
    have hz_x := szOne_ge c10
    have hn_x : (x.name).length ≤ 1048576 := by omega
    refine AC.skip ?_
    refine AC.seq ?_
    refine AC.region ?_
    refine AO.yld _ (Yld.loadAgg Tryd.isAgg51 Tryd.sizeOf51 rfl rfl rfl rfl) rfl rfl rfl ?_
    refine AO.yld _ (Yld.call rfl rfl Tryd.call27 rfl rfl rfl (laws_toMedia_c) rfl) rfl rfl rfl ?_
    refine AO.yld _ (Yld.call rfl rfl Tryd.call26 rfl rfl rfl (spec_MediaText_c (by omega)) rfl) rfl rfl rfl ?_
    refine AO.yld _ (Yld.assign rfl) rfl rfl rfl ?_
    refine AO.nil ?_
    refine AC.seq ?_
    refine AC.region ?_
    refine AO.yld _ (Yld.loadAgg Tryd.isAgg51 Tryd.sizeOf51 rfl rfl rfl rfl) rfl rfl rfl ?_
    refine AO.yld _ (Yld.call rfl rfl Tryd.call27 rfl rfl rfl (laws_toMedia_c) rfl) rfl rfl rfl ?_
    refine AO.callW (wantedN rfl) [0] [0] [0] rfl rfl Tryd.call28 rfl (impl_MediaText_c (by omega)) (.own rfl) rfl (fun _ => rfl) ⟨rfl, trivial⟩ rfl (fun _ => rfl) (fun _ => rfl) (fun _ _ => ?_)
    refine AO.yld _ (Yld.assign rfl) rfl rfl rfl ?_
    refine AO.nil ?_
    refine AC.seq ?_
    refine AC.seq ?_
    refine AC.region ?_
    refine AO.yld _ (Yld.move rfl) rfl rfl rfl ?_
    refine AO.yld _ (Yld.move rfl) rfl rfl rfl ?_
    refine AO.yld _ (Yld.cmpStr rfl rfl rfl) rfl rfl rfl ?_
    refine AO.nil ?_
    refine AC.cond _ rfl (fun c19 => ?_) (fun c19 => ?_)
    · -- c19 True
      refine AC.seq ?_
      refine AC.region ?_
      refine AO.yld _ (Yld.assign rfl) rfl rfl rfl ?_
      refine AO.nil ?_
      refine FnE.ret () [0] [0] Tryd.results4 (RVs.cons (RV.tmp rfl) RVs.nil) rfl rfl rfl ?_ ?_ ⟨⟨_, rfl, ?_⟩, trivial⟩
      · -- holds
        trivial
      · -- value
        first | rfl | (simp_all; done) | (simp_all; intros; omega) | grind
      · -- thing 0
        first | rfl | exact vecE (by first | rfl | (simp_all; done) | grind) | (simp_all; done)
    · -- c19 False
      refine AC.skip ?_
      refine AC.seq ?_
      refine AC.region ?_
      refine AO.yld _ (Yld.assign rfl) rfl rfl rfl ?_
      refine AO.nil ?_
      refine FnE.ret () [0] [0] Tryd.results4 (RVs.cons (RV.tmp rfl) RVs.nil) rfl rfl rfl ?_ ?_ ⟨⟨_, rfl, ?_⟩, trivial⟩
      · -- holds
        trivial
      · -- value
        first | rfl | (simp_all; done) | (simp_all; intros; omega) | grind
      · -- thing 0
        first | rfl | exact vecE (by first | rfl | (simp_all; done) | grind) | (simp_all; done)

theorem laws_FnExactMachineText_c {x : Mach} (hs_x : (x.name).length ≤ 9223372036854775807) (hb_x_offset : i64b x.offset) (hb_x_delay : i64b x.delay) :
    FnE (α := Unit) Tryd.prog 5 [.p (.agg (encMach x))] [(0, powR Tryd.prog)] [0] (fun _ => True) (fun _ => .p (.v (.bool true))) (fun _ => [(0, powR Tryd.prog)]) := by
  refine FnE.intro Tryd.func5 rfl Tryd.ntmps5 rfl rfl (fun w0 F0 η φ w => ?_)
  refine AC.seq ?_
  refine AC.region ?_
  refine AO.box 1 rfl rfl rfl rfl rfl ?_
  refine AO.yld _ (Yld.assign rfl) rfl rfl rfl ?_
  refine AO.nil ?_
  refine AC.seq ?_
  refine AC.region ?_
  refine AO.yld _ (Yld.assign rfl) rfl rfl rfl ?_
  refine AO.nil ?_
  refine AC.seq ?_
  refine AC.region ?_
  refine AO.yld _ (Yld.loadAgg Tryd.isAgg57 Tryd.sizeOf57 rfl rfl rfl rfl) rfl rfl rfl ?_
  refine AO.yld _ (Yld.move rfl) rfl rfl rfl ?_
  refine AO.yld _ (Yld.call rfl rfl Tryd.call29 rfl rfl rfl (laws_szMachine_c (by omega) (by omega) (by first | assumption | omega)) rfl) rfl rfl rfl ?_
  refine AO.yld _ (Yld.assign rfl) rfl rfl rfl ?_
  refine AO.nil ?_
  refine AC.seq ?_
  refine AC.seq ?_
  refine AC.region ?_
  refine AO.yld _ (Yld.move rfl) rfl rfl rfl ?_
  refine AO.yld _ (Yld.int rfl rfl rfl) rfl rfl rfl ?_
  refine AO.nil ?_
  refine AC.cond _ rfl (fun c10 => ?_) (fun c10 => ?_)
  · -- c10 True
    refine AC.seq ?_
    refine AC.region ?_
    refine AO.yld _ (Yld.assign rfl) rfl rfl rfl ?_
    refine AO.nil ?_
    refine FnE.ret () [0] [0] Tryd.results5 (RVs.cons (RV.tmp rfl) RVs.nil) rfl rfl rfl ?_ ?_ ⟨⟨_, rfl, ?_⟩, trivial⟩
    · -- holds
      trivial
    · -- value
      first | rfl | (simp_all; done) | (simp_all; intros; omega) | grind
    · -- thing 0
      first | rfl | exact vecE (by first | rfl | (simp_all; done) | grind) | (simp_all; done)
  · -- c10 False
    have hz_x := szOne_ge c10
    have hn_x : (x.name).length ≤ 1048576 := by omega
    refine AC.skip ?_
    refine AC.seq ?_
    refine AC.region ?_
    refine AO.yld _ (Yld.loadAgg Tryd.isAgg57 Tryd.sizeOf57 rfl rfl rfl rfl) rfl rfl rfl ?_
    refine AO.yld _ (Yld.call rfl rfl Tryd.call31 rfl rfl rfl (laws_toMachine_c) rfl) rfl rfl rfl ?_
    refine AO.yld _ (Yld.call rfl rfl Tryd.call30 rfl rfl rfl (spec_MachineText_c (by omega)) rfl) rfl rfl rfl ?_
    refine AO.yld _ (Yld.assign rfl) rfl rfl rfl ?_
    refine AO.nil ?_
    refine AC.seq ?_
    refine AC.region ?_
    refine AO.yld _ (Yld.loadAgg Tryd.isAgg57 Tryd.sizeOf57 rfl rfl rfl rfl) rfl rfl rfl ?_
    refine AO.yld _ (Yld.call rfl rfl Tryd.call31 rfl rfl rfl (laws_toMachine_c) rfl) rfl rfl rfl ?_
    refine AO.callW (wantedN rfl) [0] [0] [0] rfl rfl Tryd.call24 rfl (impl_MachineText_c (by omega)) (.own rfl) rfl (fun _ => rfl) ⟨rfl, trivial⟩ rfl (fun _ => rfl) (fun _ => rfl) (fun _ _ => ?_)
    refine AO.yld _ (Yld.assign rfl) rfl rfl rfl ?_
    refine AO.nil ?_
    refine AC.seq ?_
    refine AC.seq ?_
    refine AC.region ?_
    refine AO.yld _ (Yld.move rfl) rfl rfl rfl ?_
    refine AO.yld _ (Yld.move rfl) rfl rfl rfl ?_
    refine AO.yld _ (Yld.cmpStr rfl rfl rfl) rfl rfl rfl ?_
    refine AO.nil ?_
    refine AC.cond _ rfl (fun c19 => ?_) (fun c19 => ?_)
    · -- c19 True
      refine AC.seq ?_
      refine AC.region ?_
      refine AO.yld _ (Yld.assign rfl) rfl rfl rfl ?_
      refine AO.nil ?_
      refine FnE.ret () [0] [0] Tryd.results5 (RVs.cons (RV.tmp rfl) RVs.nil) rfl rfl rfl ?_ ?_ ⟨⟨_, rfl, ?_⟩, trivial⟩
      · -- holds
        trivial
      · -- value
        first | rfl | (simp_all; done) | (simp_all; intros; omega) | grind
      · -- thing 0
        first | rfl | exact vecE (by first | rfl | (simp_all; done) | grind) | (simp_all; done)
    · -- c19 False
      refine AC.skip ?_
      refine AC.seq ?_
      refine AC.region ?_
      refine AO.yld _ (Yld.assign rfl) rfl rfl rfl ?_
      refine AO.nil ?_
      refine FnE.ret () [0] [0] Tryd.results5 (RVs.cons (RV.tmp rfl) RVs.nil) rfl rfl rfl ?_ ?_ ⟨⟨_, rfl, ?_⟩, trivial⟩
      · -- holds
        trivial
      · -- value
        first | rfl | (simp_all; done) | (simp_all; intros; omega) | grind
      · -- thing 0
        first | rfl | exact vecE (by first | rfl | (simp_all; done) | grind) | (simp_all; done)

end Go.Proofs.YtdgjlkdcklfieaaDoor
