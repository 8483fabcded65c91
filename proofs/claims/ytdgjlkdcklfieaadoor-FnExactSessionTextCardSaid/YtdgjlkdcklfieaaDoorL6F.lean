/- Contracts of functions of the program, each by a walk of its text in the calculus V. -/
import Derived.Test.YtdgjlkdcklfieaaDoorR6F
set_option linter.all false
set_option linter.unusedSimpArgs false
set_option linter.unnecessarySimpa false
set_option linter.unusedVariables false
namespace Go.Proofs.YtdgjlkdcklfieaaDoor
open Go Go.V

theorem laws_FnExactSessionText_c {x : Session} (hb_x_day : i64b x.day) (hb_x_turn : i64b x.turn) (hb_x_lift : i64b x.lift) (hb_x_error : i64b x.error) :
    FnE (α := Unit) Tryd.prog 6 [.p (.agg (encSession x))] [(0, powR Tryd.prog)] [0] (fun _ => True) (fun _ => .p (.v (.bool true))) (fun _ => [(0, powR Tryd.prog)]) := by
  refine FnE.intro Tryd.func6 rfl Tryd.ntmps6 rfl rfl (fun w0 F0 η φ w => ?_)
  refine AC.seq ?_
  refine AC.region ?_
  refine AO.box 1 rfl rfl rfl rfl rfl ?_
  refine AO.yld _ (Yld.assign rfl) rfl rfl rfl ?_
  refine AO.nil ?_
  refine AC.seq ?_
  refine AC.region ?_
  refine AO.yld _ (Yld.loadAgg Tryd.isAgg62 Tryd.sizeOf62 rfl rfl rfl rfl) rfl rfl rfl ?_
  refine AO.yld _ (Yld.call rfl rfl Tryd.call33 rfl rfl rfl (laws_toSession_c) rfl) rfl rfl rfl ?_
  refine AO.yld _ (Yld.call rfl rfl Tryd.call32 rfl rfl rfl (spec_SessionText_c) rfl) rfl rfl rfl ?_
  refine AO.yld _ (Yld.assign rfl) rfl rfl rfl ?_
  refine AO.nil ?_
  refine AC.seq ?_
  refine AC.region ?_
  refine AO.yld _ (Yld.loadAgg Tryd.isAgg62 Tryd.sizeOf62 rfl rfl rfl rfl) rfl rfl rfl ?_
  refine AO.yld _ (Yld.call rfl rfl Tryd.call33 rfl rfl rfl (laws_toSession_c) rfl) rfl rfl rfl ?_
  refine AO.callW (wantedN rfl) [0] [0] [0] rfl rfl Tryd.call34 rfl (impl_SessionText_c) (.own rfl) rfl (fun _ => rfl) ⟨rfl, trivial⟩ rfl (fun _ => rfl) (fun _ => rfl) (fun _ _ => ?_)
  refine AO.yld _ (Yld.assign rfl) rfl rfl rfl ?_
  refine AO.nil ?_
  refine AC.seq ?_
  refine AC.seq ?_
  refine AC.region ?_
  refine AO.yld _ (Yld.move rfl) rfl rfl rfl ?_
  refine AO.yld _ (Yld.move rfl) rfl rfl rfl ?_
  refine AO.yld _ (Yld.cmpStr rfl rfl rfl) rfl rfl rfl ?_
  refine AO.nil ?_
  refine AC.cond _ rfl (fun c13 => ?_) (fun c13 => ?_)
  · -- c13 True
    refine AC.seq ?_
    refine AC.region ?_
    refine AO.yld _ (Yld.assign rfl) rfl rfl rfl ?_
    refine AO.nil ?_
    refine FnE.ret () [0] [0] Tryd.results6 (RVs.cons (RV.tmp rfl) RVs.nil) rfl rfl rfl ?_ ?_ ⟨⟨_, rfl, ?_⟩, trivial⟩
    · -- holds
      trivial
    · -- value
      first | rfl | (simp_all; done) | (simp_all; intros; omega) | grind
    · -- thing 0
      first | rfl | exact vecE (by first | rfl | (simp_all; done) | grind) | (simp_all; done)
  · -- c13 False
    refine AC.skip ?_
    refine AC.seq ?_
    refine AC.region ?_
    refine AO.yld _ (Yld.assign rfl) rfl rfl rfl ?_
    refine AO.nil ?_
    refine FnE.ret () [0] [0] Tryd.results6 (RVs.cons (RV.tmp rfl) RVs.nil) rfl rfl rfl ?_ ?_ ⟨⟨_, rfl, ?_⟩, trivial⟩
    · -- holds
      trivial
    · -- value
      first | rfl | (simp_all; done) | (simp_all; intros; omega) | grind
    · -- thing 0
      first | rfl | exact vecE (by first | rfl | (simp_all; done) | grind) | (simp_all; done)

end Go.Proofs.YtdgjlkdcklfieaaDoor
