/- Contracts of functions of the program, each by a walk of its text in the calculus V. -/
import Derived.Test.YtjmicabmkipomaaC4
set_option linter.all false
set_option linter.unusedSimpArgs false
set_option linter.unusedVariables false
namespace Go.Proofs.Ytjmicabmkipomaa
open Go Go.V

theorem laws_FnExactDriftPerDay_c {xs : List Session} (hb_xs : xs.length ≤ 9223372036854775807) :
    Pure Try.prog 14 [.sl 4 (xs.map encSession)] (.v (.bool true)) := by
  refine Pure.intro Try.func14 rfl Try.ntmps14 rfl rfl (fun w => ?_)
  refine AC.seq ?_
  refine AC.region ?_
  refine AO.yld _ (Yld.assign rfl) rfl rfl rfl ?_
  refine AO.nil ?_
  refine AC.seq ?_
  refine AC.region ?_
  refine AO.yld _ (Yld.assign rfl) rfl rfl rfl ?_
  refine AO.nil ?_
  refine AC.seq ?_
  refine AC.region ?_
  refine AO.yld _ (Yld.move rfl) rfl rfl rfl ?_
  refine AO.yld _ (Yld.move rfl) rfl rfl rfl ?_
  refine AO.yld _ (Yld.call rfl rfl Try.call27 rfl rfl rfl (laws_szSessionS_c (by omega) (by omega) (by first | assumption | omega)) rfl) rfl rfl rfl ?_
  refine AO.yld _ (Yld.assign rfl) rfl rfl rfl ?_
  refine AO.nil ?_
  refine AC.seq ?_
  refine AC.seq ?_
  refine AC.region ?_
  refine AO.yld _ (Yld.move rfl) rfl rfl rfl ?_
  refine AO.yld _ (Yld.int rfl rfl rfl) rfl rfl rfl ?_
  refine AO.nil ?_
  refine AC.cond _ rfl (fun c13 => ?_) (fun c13 => ?_)
  · -- c13 True
    refine AC.seq ?_
    refine AC.region ?_
    refine AO.yld _ (Yld.assign rfl) rfl rfl rfl ?_
    refine AO.nil ?_
    refine Pure.ret Try.results14 (RVs.cons (RV.tmp rfl) RVs.nil) rfl ?_
    first | rfl | (simp_all; done) | (simp_all; intros; omega) | grind
  · -- c13 False
    have hz_xs := szLen_ge c13
    have hn_xs : xs.length ≤ 1048576 := by omega
    refine AC.skip ?_
    refine AC.seq ?_
    refine AC.region ?_
    refine AO.yld _ (Yld.move rfl) rfl rfl rfl ?_
    refine AO.callMk 0 rfl rfl Try.call29 rfl rfl rfl (laws_toSessionS_c (by first | assumption | omega)) (by simp [AV.Flat, AV.FlatL, PV.Flat, PV.FlatL]) (flat_map flatSession _) rfl rfl ?_
    refine AO.yld _ (Yld.call rfl rfl Try.call62 rfl rfl rfl (spec_DriftPerDay_c (by first | assumption | omega)) rfl) rfl rfl rfl ?_
    refine AO.yld _ (Yld.move rfl) rfl rfl rfl ?_
    refine AO.yld _ (Yld.extract rfl rfl rfl) rfl rfl rfl ?_
    refine AO.yld _ (Yld.extract rfl rfl rfl) rfl rfl rfl ?_
    refine AO.yld _ (Yld.assign rfl) rfl rfl rfl ?_
    refine AO.yld _ (Yld.assign rfl) rfl rfl rfl ?_
    refine AO.nil ?_
    refine AC.seq ?_
    refine AC.region ?_
    refine AO.yld _ (Yld.move rfl) rfl rfl rfl ?_
    refine AO.callMk 1 rfl rfl Try.call29 rfl rfl rfl (laws_toSessionS_c (by first | assumption | omega)) (by simp [AV.Flat, AV.FlatL, PV.Flat, PV.FlatL]) (flat_map flatSession _) rfl rfl ?_
    refine AO.yld _ (Yld.assign rfl) rfl rfl rfl ?_
    refine AO.nil ?_
    refine AC.seq ?_
    refine AC.region ?_
    refine AO.yld _ (Yld.move rfl) rfl rfl rfl ?_
    refine AO.yld _ (Yld.call rfl rfl Try.call63 rfl rfl rfl (impl_DriftPerDay_c (by first | assumption | omega)) rfl) rfl rfl rfl ?_
    refine AO.yld _ (Yld.move rfl) rfl rfl rfl ?_
    refine AO.yld _ (Yld.extract rfl rfl rfl) rfl rfl rfl ?_
    refine AO.yld _ (Yld.extract rfl rfl rfl) rfl rfl rfl ?_
    refine AO.yld _ (Yld.assign rfl) rfl rfl rfl ?_
    refine AO.yld _ (Yld.assign rfl) rfl rfl rfl ?_
    refine AO.nil ?_
    refine AC.seq ?_
    refine AC.seq ?_
    refine AC.region ?_
    refine AO.yld _ (Yld.move rfl) rfl rfl rfl ?_
    refine AO.yld _ (Yld.move rfl) rfl rfl rfl ?_
    refine AO.yld _ (Yld.int rfl rfl rfl) rfl rfl rfl ?_
    refine AO.yld _ (Yld.move rfl) rfl rfl rfl ?_
    refine AO.splitAt 30 _ rfl (fun s30 => ?_) (fun s30 => ?_)
    · -- s30 True
      refine AO.skipF rfl rfl rfl rfl rfl ?_
      refine AO.skipF rfl rfl rfl rfl rfl ?_
      refine AO.skipF rfl rfl rfl rfl rfl ?_
      refine AO.yld _ (Yld.pickT rfl rfl) rfl rfl rfl ?_
      refine AO.nil ?_
      refine AC.condT rfl ?_
      refine AC.seq ?_
      refine AC.region ?_
      refine AO.yld _ (Yld.assign rfl) rfl rfl rfl ?_
      refine AO.nil ?_
      refine Pure.ret Try.results14 (RVs.cons (RV.tmp rfl) RVs.nil) rfl ?_
      first | rfl | (simp_all; done) | (simp_all; intros; omega) | grind
    · -- s30 False
      refine AO.yldG _ (Yld.move rfl) rfl rfl rfl rfl rfl ?_
      refine AO.yldG _ (Yld.move rfl) rfl rfl rfl rfl rfl ?_
      refine AO.yldG _ (Yld.int rfl rfl rfl) rfl rfl rfl rfl rfl ?_
      refine AO.yld _ (Yld.pickF rfl rfl) rfl rfl rfl ?_
      refine AO.nil ?_
      refine AC.cond _ rfl (fun c34 => ?_) (fun c34 => ?_)
      · -- c34 True
        refine AC.seq ?_
        refine AC.region ?_
        refine AO.yld _ (Yld.assign rfl) rfl rfl rfl ?_
        refine AO.nil ?_
        refine Pure.ret Try.results14 (RVs.cons (RV.tmp rfl) RVs.nil) rfl ?_
        first | rfl | (simp_all; done) | (simp_all; intros; omega) | grind
      · -- c34 False
        refine AC.skip ?_
        refine AC.seq ?_
        refine AC.seq ?_
        refine AC.region ?_
        refine AO.yld _ (Yld.move rfl) rfl rfl rfl ?_
        refine AO.yld _ (Yld.move rfl) rfl rfl rfl ?_
        refine AO.callMk 2 rfl rfl Try.call29 rfl rfl rfl (laws_toSessionS_c (by first | assumption | omega)) (by simp [AV.Flat, AV.FlatL, PV.Flat, PV.FlatL]) (flat_map flatSession _) rfl rfl ?_
        refine AO.yld _ (Yld.call rfl rfl Try.call31 rfl rfl rfl (laws_eqSessionS_c (by first | assumption | omega)) rfl) rfl rfl rfl ?_
        refine AO.yld _ (Yld.not rfl) rfl rfl rfl ?_
        refine AO.nil ?_
        refine AC.cond _ rfl (fun c39 => ?_) (fun c39 => ?_)
        · -- c39 True
          refine AC.seq ?_
          refine AC.region ?_
          refine AO.yld _ (Yld.assign rfl) rfl rfl rfl ?_
          refine AO.nil ?_
          refine Pure.ret Try.results14 (RVs.cons (RV.tmp rfl) RVs.nil) rfl ?_
          first | rfl | (simp_all; done) | (simp_all; intros; omega) | grind
        · -- c39 False
          refine AC.skip ?_
          refine AC.seq ?_
          refine AC.region ?_
          refine AO.yld _ (Yld.assign rfl) rfl rfl rfl ?_
          refine AO.nil ?_
          refine Pure.ret Try.results14 (RVs.cons (RV.tmp rfl) RVs.nil) rfl ?_
          first | rfl | (simp_all; done) | (simp_all; intros; omega) | grind

end Go.Proofs.Ytjmicabmkipomaa
