/- Contracts of functions of the program, each by a walk of its text in the calculus V. -/
import Derived.Test.YtkfdjahknkoigaaDoorR7M
set_option linter.all false
set_option linter.unusedSimpArgs false
set_option linter.unnecessarySimpa false
set_option linter.unusedVariables false
namespace Go.Proofs.YtkfdjahknkoigaaDoor
open Go Go.V

theorem laws_FnExactReadMachine_c {s : List UInt8} (hb_s : s.length ≤ 9223372036854775807) :
    FnE (α := Unit) Tryd.prog 5 [.p (.v (str s))] [(0, powRE Tryd.prog)] [0] (fun _ => True) (fun _ => .p (.v (.bool true))) (fun _ => [(0, powRE Tryd.prog)]) := by
  refine FnE.intro Tryd.func5 rfl Tryd.ntmps5 rfl rfl (fun w0 F0 η φ w => ?_)
  refine AC.seq ?_
  refine AC.region ?_
  refine AO.yld _ (Yld.assign rfl) rfl rfl rfl ?_
  refine AO.nil ?_
  refine AC.seq ?_
  refine AC.seq ?_
  refine AC.region ?_
  refine AO.yld _ (Yld.move rfl) rfl rfl rfl ?_
  refine AO.yld _ (Yld.lenStr Tryd.underlying9 rfl) rfl rfl rfl ?_
  refine AO.yld _ (Yld.int rfl rfl rfl) rfl rfl rfl ?_
  refine AO.nil ?_
  refine AC.cond _ rfl (fun c9 => ?_) (fun c9 => ?_)
  · -- c9 True
    refine AC.seq ?_
    refine AC.region ?_
    refine AO.yld _ (Yld.assign rfl) rfl rfl rfl ?_
    refine AO.nil ?_
    refine FnE.ret () [0] [0] Tryd.results5 (RVs.cons (RV.tmp rfl) RVs.nil) rfl rfl rfl ?_ ?_ ⟨⟨_, rfl, ?_⟩, trivial⟩
    · -- holds
      trivial
    · -- value
      first | rfl | (simp_all; done) | (simp_all; intros; omega) | grind
    · -- thing 0
      first | rfl | exact vecE (by first | rfl | (simp_all; done) | grind) | (simp_all; done)
  · -- c9 False
    have hlen_s : s.length ≤ 1048576 := by simp at c9; omega
    refine AC.skip ?_
    refine AC.seq ?_
    refine AC.region ?_
    refine AO.yld _ (Yld.move rfl) rfl rfl rfl ?_
    refine AO.yld _ (Yld.call rfl rfl Tryd.call12 rfl rfl rfl (spec_ReadMachine_c (by first | assumption | omega)) rfl) rfl rfl rfl ?_
    refine AO.yld _ (Yld.move rfl) rfl rfl rfl ?_
    refine AO.yld _ (Yld.extract rfl rfl rfl) rfl rfl rfl ?_
    refine AO.yld _ (Yld.extract rfl rfl rfl) rfl rfl rfl ?_
    refine AO.alloc 1 Tryd.zeroValue34 rfl rfl rfl ?_
    refine AO.store Tryd.sizeOf34 rfl rfl rfl rfl rfl rfl ?_
    refine AO.yld _ (Yld.assign rfl) rfl rfl rfl ?_
    refine AO.nil ?_
    refine AC.seq ?_
    refine AC.region ?_
    refine AO.yld _ (Yld.move rfl) rfl rfl rfl ?_
    refine AO.callW (wantedN rfl) [0] [0] [0] rfl rfl Tryd.call13 rfl (impl_ReadMachine_c (by first | assumption | omega)) (.own rfl) rfl (fun _ => rfl) ⟨rfl, trivial⟩ rfl (fun _ => rfl) (fun _ => rfl) (fun _ _ => ?_)
    refine AO.yld _ (Yld.move rfl) rfl rfl rfl ?_
    refine AO.yld _ (Yld.extract rfl rfl rfl) rfl rfl rfl ?_
    refine AO.yld _ (Yld.extract rfl rfl rfl) rfl rfl rfl ?_
    refine AO.alloc 2 Tryd.zeroValue34 rfl rfl rfl ?_
    refine AO.store Tryd.sizeOf34 rfl rfl rfl rfl rfl rfl ?_
    refine AO.yld _ (Yld.assign rfl) rfl rfl rfl ?_
    refine AO.nil ?_
    refine AC.seq ?_
    refine AC.seq ?_
    refine AC.region ?_
    refine AO.yld _ (Yld.loadAgg Tryd.isAgg34 Tryd.sizeOf34 rfl rfl rfl rfl) rfl rfl rfl ?_
    refine AO.yld _ (Yld.loadAgg Tryd.isAgg34 Tryd.sizeOf34 rfl rfl rfl rfl) rfl rfl rfl ?_
    refine AO.yld _ (Yld.call rfl rfl Tryd.call14 rfl rfl rfl (laws_eqMachine_c) rfl) rfl rfl rfl ?_
    refine AO.yld _ (Yld.not rfl) rfl rfl rfl ?_
    refine AO.yld _ (Yld.move rfl) rfl rfl rfl ?_
    refine AO.splitAt 24 _ rfl (fun s24 => ?_) (fun s24 => ?_)
    · -- s24 True
      refine AO.skipF rfl rfl rfl rfl rfl ?_
      refine AO.skipF rfl rfl rfl rfl rfl ?_
      refine AO.skipF rfl rfl rfl rfl rfl ?_
      refine AO.yld _ (Yld.pickT rfl rfl) rfl rfl rfl ?_
      refine AO.nil ?_
      refine AC.condT rfl ?_
      refine AC.seq ?_
      refine AC.region ?_
      refine AO.yld _ (Yld.assign rfl) rfl rfl rfl ?_
      refine AO.nil ?_
      refine FnE.ret () [0] [0] Tryd.results5 (RVs.cons (RV.tmp rfl) RVs.nil) rfl rfl rfl ?_ ?_ ⟨⟨_, rfl, ?_⟩, trivial⟩
      · -- holds
        trivial
      · -- value
        first | rfl | (simp_all; done) | (simp_all; intros; omega) | grind
      · -- thing 0
        first | rfl | exact vecE (by first | rfl | (simp_all; done) | grind) | (simp_all; done)
    · -- s24 False
      refine AO.yldG _ (Yld.move rfl) rfl rfl rfl rfl rfl ?_
      refine AO.yldG _ (Yld.move rfl) rfl rfl rfl rfl rfl ?_
      refine AO.yldG _ (Yld.bne Tryd.underlying4 rfl rfl) rfl rfl rfl rfl rfl ?_
      refine AO.yld _ (Yld.pickF rfl rfl) rfl rfl rfl ?_
      refine AO.nil ?_
      refine AC.cond _ rfl (fun c28 => ?_) (fun c28 => ?_)
      · -- c28 True
        refine AC.seq ?_
        refine AC.region ?_
        refine AO.yld _ (Yld.assign rfl) rfl rfl rfl ?_
        refine AO.nil ?_
        refine FnE.ret () [0] [0] Tryd.results5 (RVs.cons (RV.tmp rfl) RVs.nil) rfl rfl rfl ?_ ?_ ⟨⟨_, rfl, ?_⟩, trivial⟩
        · -- holds
          trivial
        · -- value
          first | rfl | (simp_all; done) | (simp_all; intros; omega) | grind
        · -- thing 0
          first | rfl | exact vecE (by first | rfl | (simp_all; done) | grind) | (simp_all; done)
      · -- c28 False
        refine AC.skip ?_
        refine AC.seq ?_
        refine AC.region ?_
        refine AO.yld _ (Yld.assign rfl) rfl rfl rfl ?_
        refine AO.nil ?_
        refine FnE.ret () [0] [0] Tryd.results5 (RVs.cons (RV.tmp rfl) RVs.nil) rfl rfl rfl ?_ ?_ ⟨⟨_, rfl, ?_⟩, trivial⟩
        · -- holds
          trivial
        · -- value
          first | rfl | (simp_all; done) | (simp_all; intros; omega) | grind
        · -- thing 0
          first | rfl | exact vecE (by first | rfl | (simp_all; done) | grind) | (simp_all; done)

end Go.Proofs.YtkfdjahknkoigaaDoor
