/- Contracts of functions of the program, each by a walk of its text in the calculus V. -/
import Derived.Test.YtiilobkfonjlhaaR4B
set_option linter.all false
set_option linter.unusedSimpArgs false
set_option linter.unnecessarySimpa false
set_option linter.unusedVariables false
namespace Go.Proofs.Ytiilobkfonjlhaa
open Go Go.V

theorem laws_FnExactHeadsOf_c {xs : List Ver} (hb_xs : xs.length ≤ 9223372036854775807) (hw_xs : ∀ x ∈ xs, VerWf x) :
    Pure Try.prog 6 [.sl 4 (xs.map encVer)] (.v (.bool true)) := by
  have hl9 := heads_len xs
  have hmk := mkK_nonneg (stL xs) 1 (by omega)
  refine Pure.intro Try.func6 rfl Try.ntmps6 rfl rfl (fun w => ?_)
  refine AC.seq ?_
  refine AC.region ?_
  refine AO.yld _ (Yld.assign rfl) rfl rfl rfl ?_
  refine AO.nil ?_
  refine AC.seq ?_
  refine AC.region ?_
  refine AO.yld _ (Yld.assign rfl) rfl rfl rfl ?_
  refine AO.nil ?_
  refine AC.seq ?_
  refine AC.region ?_
  refine AO.yld _ (Yld.move rfl) rfl rfl rfl ?_
  refine AO.yld _ (Yld.move rfl) rfl rfl rfl ?_
  refine AO.callW (wantedN rfl) [] [] [] rfl rfl Try.call13 rfl (laws_szVersionS_c (by assumption) (by assumption) (by omega) (by omega)) (.own rfl) rfl (fun _ => rfl) trivial rfl (fun _ => rfl) (fun _ => rfl) (fun r16 hr16 => ?_)
  refine AO.yld _ (Yld.assign rfl) rfl rfl rfl ?_
  refine AO.nil ?_
  refine AC.seq ?_
  refine AC.seq ?_
  refine AC.region ?_
  refine AO.yld _ (Yld.move rfl) rfl rfl rfl ?_
  refine AO.yld _ (Yld.int rfl rfl rfl) rfl rfl rfl ?_
  refine AO.nil ?_
  refine AC.cond _ rfl (fun c18 => ?_) (fun c18 => ?_)
  · -- c18 True
    refine AC.seq ?_
    refine AC.region ?_
    refine AO.yld _ (Yld.assign rfl) rfl rfl rfl ?_
    refine AO.nil ?_
    refine Pure.ret Try.results6 (RVs.cons (RV.tmp rfl) RVs.nil) rfl ?_
    first | rfl | (simp_all; done) | (simp_all; intros; omega) | grind
  · -- c18 False
    have hg_xs : VersGood xs ∧ 0 ≤ r16 ∧ r16 ≤ 1048576 := by rcases hr16 with h | h; exact absurd h (by simpa using c18); exact ⟨h.1, h.2.1, by omega⟩
    have hgg_xs := hg_xs.1
    have hgl_xs := hg_xs.1.1
    refine AC.skip ?_
    refine AC.seq ?_
    refine AC.region ?_
    refine AO.yld _ (Yld.move rfl) rfl rfl rfl ?_
    refine AO.callW (wantedN rfl) [0] [] [0] rfl rfl Try.call15 rfl (laws_toVersionS_n (by assumption)) (.own rfl) rfl (fun _ => rfl) trivial rfl (fun _ => rfl) (fun _ => rfl) (fun _ _ => ?_)
    refine AO.callW (wantedN rfl) [1] [] [0] rfl rfl Try.call31 rfl (spec_HeadsOf_c (by assumption)) (.flat (.view rfl rfl .nil) (fun _ => by simp [AV.Flat, AV.FlatL, PV.Flat, PV.FlatL]) (fun _ => ⟨flat_map flatI _, trivial⟩)) rfl (fun _ => rfl) trivial rfl (fun _ => rfl) (fun _ => rfl) (fun _ _ => ?_)
    refine AO.yld _ (Yld.move rfl) rfl rfl rfl ?_
    refine AO.yld _ (Yld.extract rfl rfl rfl) rfl rfl rfl ?_
    refine AO.yld _ (Yld.extract rfl rfl rfl) rfl rfl rfl ?_
    refine AO.yld _ (Yld.assign rfl) rfl rfl rfl ?_
    refine AO.yld _ (Yld.assign rfl) rfl rfl rfl ?_
    refine AO.nil ?_
    refine AC.seq ?_
    refine AC.region ?_
    refine AO.yld _ (Yld.move rfl) rfl rfl rfl ?_
    refine AO.callW (wantedN rfl) [2] [] [0] rfl rfl Try.call15 rfl (laws_toVersionS_n (by assumption)) (.own rfl) rfl (fun _ => rfl) trivial rfl (fun _ => rfl) (fun _ => rfl) (fun _ _ => ?_)
    refine AO.yld _ (Yld.assign rfl) rfl rfl rfl ?_
    refine AO.nil ?_
    refine AC.seq ?_
    refine AC.region ?_
    refine AO.yld _ (Yld.move rfl) rfl rfl rfl ?_
    refine AO.callW (wantedN rfl) [3] [] [0] rfl rfl Try.call32 rfl (impl_HeadsOf_c (by assumption)) (.flat (.view rfl rfl .nil) (fun _ => by simp [AV.Flat, AV.FlatL, PV.Flat, PV.FlatL]) (fun _ => ⟨flat_map flatI _, trivial⟩)) rfl (fun _ => rfl) trivial rfl (fun _ => rfl) (fun _ => rfl) (fun _ _ => ?_)
    refine AO.yld _ (Yld.move rfl) rfl rfl rfl ?_
    refine AO.yld _ (Yld.extract rfl rfl rfl) rfl rfl rfl ?_
    refine AO.yld _ (Yld.extract rfl rfl rfl) rfl rfl rfl ?_
    refine AO.yld _ (Yld.assign rfl) rfl rfl rfl ?_
    refine AO.yld _ (Yld.assign rfl) rfl rfl rfl ?_
    refine AO.nil ?_
    refine AC.seq ?_
    refine AC.seq ?_
    refine AC.region ?_
    refine AO.yld _ (Yld.move rfl) rfl rfl rfl ?_
    refine AO.yld _ (Yld.move rfl) rfl rfl rfl ?_
    refine AO.yld _ (Yld.call rfl rfl Try.call23 rfl rfl rfl (laws_eqInt64S_c (by first | assumption | omega)) rfl) rfl rfl rfl ?_
    refine AO.yld _ (Yld.not rfl) rfl rfl rfl ?_
    refine AO.yld _ (Yld.move rfl) rfl rfl rfl ?_
    refine AO.splitAt 36 _ rfl (fun s36 => ?_) (fun s36 => ?_)
    · -- s36 True
      refine AO.skipF rfl rfl rfl rfl rfl ?_
      refine AO.skipF rfl rfl rfl rfl rfl ?_
      refine AO.skipF rfl rfl rfl rfl rfl ?_
      refine AO.yld _ (Yld.pickT rfl rfl) rfl rfl rfl ?_
      refine AO.nil ?_
      refine AC.condT rfl ?_
      refine AC.seq ?_
      refine AC.region ?_
      refine AO.yld _ (Yld.assign rfl) rfl rfl rfl ?_
      refine AO.nil ?_
      refine Pure.ret Try.results6 (RVs.cons (RV.tmp rfl) RVs.nil) rfl ?_
      first | rfl | (simp_all; done) | (simp_all; intros; omega) | grind
    · -- s36 False
      refine AO.yldG _ (Yld.move rfl) rfl rfl rfl rfl rfl ?_
      refine AO.yldG _ (Yld.move rfl) rfl rfl rfl rfl rfl ?_
      refine AO.yldG _ (Yld.int rfl rfl rfl) rfl rfl rfl rfl rfl ?_
      refine AO.yld _ (Yld.pickF rfl rfl) rfl rfl rfl ?_
      refine AO.nil ?_
      refine AC.cond _ rfl (fun c40 => ?_) (fun c40 => ?_)
      · -- c40 True
        refine AC.seq ?_
        refine AC.region ?_
        refine AO.yld _ (Yld.assign rfl) rfl rfl rfl ?_
        refine AO.nil ?_
        refine Pure.ret Try.results6 (RVs.cons (RV.tmp rfl) RVs.nil) rfl ?_
        first | rfl | (simp_all; done) | (simp_all; intros; omega) | grind
      · -- c40 False
        refine AC.skip ?_
        refine AC.seq ?_
        refine AC.seq ?_
        refine AC.region ?_
        refine AO.yld _ (Yld.move rfl) rfl rfl rfl ?_
        refine AO.yld _ (Yld.move rfl) rfl rfl rfl ?_
        refine AO.callW (wantedN rfl) [4] [] [0] rfl rfl Try.call15 rfl (laws_toVersionS_n (by assumption)) (.own rfl) rfl (fun _ => rfl) trivial rfl (fun _ => rfl) (fun _ => rfl) (fun _ _ => ?_)
        refine AO.yld _ (Yld.call rfl rfl Try.call17 rfl rfl rfl (laws_eqVersionS_c (by assumption)) rfl) rfl rfl rfl ?_
        refine AO.yld _ (Yld.not rfl) rfl rfl rfl ?_
        refine AO.nil ?_
        refine AC.cond _ rfl (fun c45 => ?_) (fun c45 => ?_)
        · -- c45 True
          refine AC.seq ?_
          refine AC.region ?_
          refine AO.yld _ (Yld.assign rfl) rfl rfl rfl ?_
          refine AO.nil ?_
          refine Pure.ret Try.results6 (RVs.cons (RV.tmp rfl) RVs.nil) rfl ?_
          first | rfl | (simp_all; done) | (simp_all; intros; omega) | grind
        · -- c45 False
          refine AC.skip ?_
          refine AC.seq ?_
          refine AC.region ?_
          refine AO.yld _ (Yld.assign rfl) rfl rfl rfl ?_
          refine AO.nil ?_
          refine AC.seq ?_
          refine AC.region ?_
          refine AO.yld _ (Yld.move rfl) rfl rfl rfl ?_
          refine AO.yld _ (Yld.move rfl) rfl rfl rfl ?_
          refine AO.callW (wantedN rfl) [2] [0] [0] rfl rfl Try.call30 rfl (laws_markVersionS_c (by assumption) (by omega) (by omega)) (.own rfl) rfl (fun _ => rfl) ⟨rfl, trivial⟩ rfl (fun _ => rfl) (fun _ => rfl) (fun _ _ => ?_)
          refine AO.yld _ (Yld.assign rfl) rfl rfl rfl ?_
          refine AO.nil ?_
          refine AC.seq ?_
          refine AC.seq ?_
          refine AC.region ?_
          refine AO.yld _ (Yld.move rfl) rfl rfl rfl ?_
          refine AO.yld _ (Yld.int rfl rfl rfl) rfl rfl rfl ?_
          refine AO.yld _ (Yld.move rfl) rfl rfl rfl ?_
          refine AO.splitAt 51 _ rfl (fun s51 => ?_) (fun s51 => ?_)
          · -- s51 True
            refine AO.skipF rfl rfl rfl rfl rfl ?_
            refine AO.skipF rfl rfl rfl rfl rfl ?_
            refine AO.skipF rfl rfl rfl rfl rfl ?_
            refine AO.skipF rfl rfl rfl rfl rfl ?_
            refine AO.yld _ (Yld.pickT rfl rfl) rfl rfl rfl ?_
            refine AO.yld _ (Yld.move rfl) rfl rfl rfl ?_
            refine AO.skipF rfl rfl rfl rfl rfl ?_
            refine AO.skipF rfl rfl rfl rfl rfl ?_
            refine AO.skipF rfl rfl rfl rfl rfl ?_
            refine AO.yld _ (Yld.pickT rfl rfl) rfl rfl rfl ?_
            refine AO.nil ?_
            refine AC.condT rfl ?_
            refine AC.seq ?_
            refine AC.region ?_
            refine AO.yld _ (Yld.assign rfl) rfl rfl rfl ?_
            refine AO.nil ?_
            refine Pure.ret Try.results6 (RVs.cons (RV.tmp rfl) RVs.nil) rfl ?_
            first | rfl | (simp_all; done) | (simp_all; intros; omega) | grind
          · -- s51 False
            refine AO.yldG _ (Yld.move rfl) rfl rfl rfl rfl rfl ?_
            refine AO.yldG _ (Yld.move rfl) rfl rfl rfl rfl rfl ?_
            refine AO.yldG _ (Yld.call rfl rfl Try.call23 rfl rfl rfl (laws_eqInt64S_c (by first | assumption | omega)) rfl) rfl rfl rfl rfl rfl ?_
            refine AO.yldG _ (Yld.not rfl) rfl rfl rfl rfl rfl ?_
            refine AO.yld _ (Yld.pickF rfl rfl) rfl rfl rfl ?_
            refine AO.yld _ (Yld.move rfl) rfl rfl rfl ?_
            refine AO.splitAt 57 _ rfl (fun s57 => ?_) (fun s57 => ?_)
            · -- s57 True
              refine AO.skipF rfl rfl rfl rfl rfl ?_
              refine AO.skipF rfl rfl rfl rfl rfl ?_
              refine AO.skipF rfl rfl rfl rfl rfl ?_
              refine AO.yld _ (Yld.pickT rfl rfl) rfl rfl rfl ?_
              refine AO.nil ?_
              refine AC.condT rfl ?_
              refine AC.seq ?_
              refine AC.region ?_
              refine AO.yld _ (Yld.assign rfl) rfl rfl rfl ?_
              refine AO.nil ?_
              refine Pure.ret Try.results6 (RVs.cons (RV.tmp rfl) RVs.nil) rfl ?_
              first | rfl | (simp_all; done) | (simp_all; intros; omega) | grind
            · -- s57 False
              refine AO.yldG _ (Yld.move rfl) rfl rfl rfl rfl rfl ?_
              refine AO.yldG _ (Yld.move rfl) rfl rfl rfl rfl rfl ?_
              refine AO.yldG _ (Yld.int rfl rfl rfl) rfl rfl rfl rfl rfl ?_
              refine AO.yld _ (Yld.pickF rfl rfl) rfl rfl rfl ?_
              refine AO.nil ?_
              refine AC.cond _ rfl (fun c61 => ?_) (fun c61 => ?_)
              · -- c61 True
                refine AC.seq ?_
                refine AC.region ?_
                refine AO.yld _ (Yld.assign rfl) rfl rfl rfl ?_
                refine AO.nil ?_
                refine Pure.ret Try.results6 (RVs.cons (RV.tmp rfl) RVs.nil) rfl ?_
                first | rfl | (simp_all; done) | (simp_all; intros; omega) | grind
              · -- c61 False
                refine AC.skip ?_
                refine AC.seq ?_
                refine AC.region ?_
                refine AO.yld _ (Yld.assign rfl) rfl rfl rfl ?_
                refine AO.nil ?_
                refine AC.seq ?_
                refine AC.region ?_
                refine AO.yld _ (Yld.move rfl) rfl rfl rfl ?_
                refine AO.yld _ (Yld.move rfl) rfl rfl rfl ?_
                refine AO.callW (wantedN rfl) [3] [0] [0] rfl rfl Try.call26 rfl (laws_markInt64S_c (by omega) (by omega) (by first | assumption | omega)) (.own rfl) rfl (fun _ => rfl) ⟨rfl, trivial⟩ rfl (fun _ => rfl) (fun _ => rfl) (fun _ _ => ?_)
                refine AO.yld _ (Yld.assign rfl) rfl rfl rfl ?_
                refine AO.nil ?_
                refine AC.seq ?_
                refine AC.region ?_
                refine AO.yld _ (Yld.assign rfl) rfl rfl rfl ?_
                refine AO.nil ?_
                refine AC.seq ?_
                refine AC.region ?_
                refine AO.yld _ (Yld.move rfl) rfl rfl rfl ?_
                refine AO.yld _ (Yld.move rfl) rfl rfl rfl ?_
                refine AO.yld _ (Yld.call rfl rfl Try.call27 rfl rfl rfl (laws_heldInt64S_c (by omega) (by omega) (by first | assumption | omega)) rfl) rfl rfl rfl ?_
                refine AO.yld _ (Yld.assign rfl) rfl rfl rfl ?_
                refine AO.nil ?_
                refine AC.seq ?_
                refine AC.seq ?_
                refine AC.region ?_
                refine AO.yld _ (Yld.move rfl) rfl rfl rfl ?_
                refine AO.yld _ (Yld.int rfl rfl rfl) rfl rfl rfl ?_
                refine AO.nil ?_
                refine AC.cond _ rfl (fun c69 => ?_) (fun c69 => ?_)
                · -- c69 True
                  refine AC.seq ?_
                  refine AC.region ?_
                  refine AO.yld _ (Yld.assign rfl) rfl rfl rfl ?_
                  refine AO.nil ?_
                  refine Pure.ret Try.results6 (RVs.cons (RV.tmp rfl) RVs.nil) rfl ?_
                  first | rfl | (simp_all; done) | (simp_all; intros; omega) | grind
                · -- c69 False
                  refine AC.skip ?_
                  refine AC.seq ?_
                  refine AC.seq ?_
                  refine AC.region ?_
                  refine AO.yld _ (Yld.move rfl) rfl rfl rfl ?_
                  refine AO.yld _ (Yld.move rfl) rfl rfl rfl ?_
                  refine AO.yld _ (Yld.int rfl rfl rfl) rfl rfl rfl ?_
                  refine AO.nil ?_
                  refine AC.cond _ rfl (fun c72 => ?_) (fun c72 => ?_)
                  · -- c72 True
                    refine AC.seq ?_
                    refine AC.region ?_
                    refine AO.yld _ (Yld.assign rfl) rfl rfl rfl ?_
                    refine AO.nil ?_
                    refine Pure.ret Try.results6 (RVs.cons (RV.tmp rfl) RVs.nil) rfl ?_
                    first | rfl | (simp_all; done) | (simp_all; intros; omega) | grind
                  · -- c72 False
                    refine AC.skip ?_
                    refine AC.seq ?_
                    refine AC.region ?_
                    refine AO.yld _ (Yld.move rfl) rfl rfl rfl ?_
                    refine AO.callW (wantedN rfl) [5] [] [0] rfl rfl Try.call15 rfl (laws_toVersionS_n (by assumption)) (.own rfl) rfl (fun _ => rfl) trivial rfl (fun _ => rfl) (fun _ => rfl) (fun _ _ => ?_)
                    refine AO.callW (wantedN rfl) [6] [] [0] rfl rfl Try.call32 rfl (impl_HeadsOf_c (by assumption)) (.flat (.view rfl rfl .nil) (fun _ => by simp [AV.Flat, AV.FlatL, PV.Flat, PV.FlatL]) (fun _ => ⟨flat_map flatI _, trivial⟩)) rfl (fun _ => rfl) trivial rfl (fun _ => rfl) (fun _ => rfl) (fun _ _ => ?_)
                    refine AO.yld _ (Yld.move rfl) rfl rfl rfl ?_
                    refine AO.yld _ (Yld.extract rfl rfl rfl) rfl rfl rfl ?_
                    refine AO.yld _ (Yld.extract rfl rfl rfl) rfl rfl rfl ?_
                    refine AO.yld _ (Yld.assign rfl) rfl rfl rfl ?_
                    refine AO.yld _ (Yld.assign rfl) rfl rfl rfl ?_
                    refine AO.nil ?_
                    refine AC.seq ?_
                    refine AC.seq ?_
                    refine AC.region ?_
                    refine AO.yld _ (Yld.move rfl) rfl rfl rfl ?_
                    refine AO.yld _ (Yld.move rfl) rfl rfl rfl ?_
                    refine AO.yld _ (Yld.call rfl rfl Try.call23 rfl rfl rfl (laws_eqInt64S_c (by first | assumption | omega)) rfl) rfl rfl rfl ?_
                    refine AO.yld _ (Yld.not rfl) rfl rfl rfl ?_
                    refine AO.yld _ (Yld.move rfl) rfl rfl rfl ?_
                    refine AO.splitAt 83 _ rfl (fun s83 => ?_) (fun s83 => ?_)
                    · -- s83 True
                      refine AO.skipF rfl rfl rfl rfl rfl ?_
                      refine AO.skipF rfl rfl rfl rfl rfl ?_
                      refine AO.skipF rfl rfl rfl rfl rfl ?_
                      refine AO.yld _ (Yld.pickT rfl rfl) rfl rfl rfl ?_
                      refine AO.nil ?_
                      refine AC.condT rfl ?_
                      refine AC.seq ?_
                      refine AC.region ?_
                      refine AO.yld _ (Yld.assign rfl) rfl rfl rfl ?_
                      refine AO.nil ?_
                      refine Pure.ret Try.results6 (RVs.cons (RV.tmp rfl) RVs.nil) rfl ?_
                      first | rfl | (simp_all; done) | (simp_all; intros; omega) | grind
                    · -- s83 False
                      refine AO.yldG _ (Yld.move rfl) rfl rfl rfl rfl rfl ?_
                      refine AO.yldG _ (Yld.move rfl) rfl rfl rfl rfl rfl ?_
                      refine AO.yldG _ (Yld.int rfl rfl rfl) rfl rfl rfl rfl rfl ?_
                      refine AO.yld _ (Yld.pickF rfl rfl) rfl rfl rfl ?_
                      refine AO.nil ?_
                      refine AC.cond _ rfl (fun c87 => ?_) (fun c87 => ?_)
                      · -- c87 True
                        refine AC.seq ?_
                        refine AC.region ?_
                        refine AO.yld _ (Yld.assign rfl) rfl rfl rfl ?_
                        refine AO.nil ?_
                        refine Pure.ret Try.results6 (RVs.cons (RV.tmp rfl) RVs.nil) rfl ?_
                        first | rfl | (simp_all; done) | (simp_all; intros; omega) | grind
                      · -- c87 False
                        refine AC.skip ?_
                        refine AC.seq ?_
                        refine AC.region ?_
                        refine AO.yld _ (Yld.assign rfl) rfl rfl rfl ?_
                        refine AO.nil ?_
                        refine AC.seq ?_
                        refine AC.region ?_
                        refine AO.yld _ (Yld.move rfl) rfl rfl rfl ?_
                        refine AO.yld _ (Yld.move rfl) rfl rfl rfl ?_
                        refine AO.yld _ (Yld.call rfl rfl Try.call27 rfl rfl rfl (laws_heldInt64S_c (by omega) (by omega) (by first | assumption | omega)) rfl) rfl rfl rfl ?_
                        refine AO.yld _ (Yld.assign rfl) rfl rfl rfl ?_
                        refine AO.nil ?_
                        refine AC.seq ?_
                        refine AC.seq ?_
                        refine AC.region ?_
                        refine AO.yld _ (Yld.move rfl) rfl rfl rfl ?_
                        refine AO.yld _ (Yld.int rfl rfl rfl) rfl rfl rfl ?_
                        refine AO.nil ?_
                        refine AC.cond _ rfl (fun c92 => ?_) (fun c92 => ?_)
                        · -- c92 True
                          refine AC.seq ?_
                          refine AC.region ?_
                          refine AO.yld _ (Yld.assign rfl) rfl rfl rfl ?_
                          refine AO.nil ?_
                          refine Pure.ret Try.results6 (RVs.cons (RV.tmp rfl) RVs.nil) rfl ?_
                          first | rfl | (simp_all; done) | (simp_all; intros; omega) | grind
                        · -- c92 False
                          refine AC.skip ?_
                          refine AC.seq ?_
                          refine AC.seq ?_
                          refine AC.region ?_
                          refine AO.yld _ (Yld.move rfl) rfl rfl rfl ?_
                          refine AO.yld _ (Yld.move rfl) rfl rfl rfl ?_
                          refine AO.yld _ (Yld.int rfl rfl rfl) rfl rfl rfl ?_
                          refine AO.nil ?_
                          refine AC.cond _ rfl (fun c95 => ?_) (fun c95 => ?_)
                          · -- c95 True
                            refine AC.seq ?_
                            refine AC.region ?_
                            refine AO.yld _ (Yld.assign rfl) rfl rfl rfl ?_
                            refine AO.nil ?_
                            refine Pure.ret Try.results6 (RVs.cons (RV.tmp rfl) RVs.nil) rfl ?_
                            first | rfl | (simp_all; done) | (simp_all; intros; omega) | grind
                          · -- c95 False
                            refine AC.skip ?_
                            refine AC.seq ?_
                            refine AC.region ?_
                            refine AO.yld _ (Yld.assign rfl) rfl rfl rfl ?_
                            refine AO.nil ?_
                            refine Pure.ret Try.results6 (RVs.cons (RV.tmp rfl) RVs.nil) rfl ?_
                            first | rfl | (simp_all; done) | (simp_all; intros; omega) | grind

end Go.Proofs.Ytiilobkfonjlhaa
