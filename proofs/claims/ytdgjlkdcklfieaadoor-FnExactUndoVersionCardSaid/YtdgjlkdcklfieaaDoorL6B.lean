/- Contracts of functions of the program, each by a walk of its text in the calculus V. -/
import Derived.Test.YtdgjlkdcklfieaaDoorR6B
set_option linter.all false
set_option linter.unusedSimpArgs false
set_option linter.unnecessarySimpa false
set_option linter.unusedVariables false
namespace Go.Proofs.YtdgjlkdcklfieaaDoor
open Go Go.V

theorem laws_FnExactUndoVersion_c {xs : List Ver} (hb_xs : xs.length ≤ 9223372036854775807) (hw_xs : ∀ x ∈ xs, VerWf x) {n : Int} (hb_n : i64b n) :
    Pure Tryd.prog 8 [.sl 4 (xs.map encVer), .v (.int .i64 n)] (.v (.bool true)) := by
  refine Pure.intro Tryd.func8 rfl Tryd.ntmps8 rfl rfl (fun w => ?_)
  refine AC.seq ?_
  refine AC.region ?_
  refine AO.yld _ (Yld.assign rfl) rfl rfl rfl ?_
  refine AO.nil ?_
  refine AC.seq ?_
  refine AC.region ?_
  refine AO.yld _ (Yld.assign rfl) rfl rfl rfl ?_
  refine AO.nil ?_
  refine AC.seq ?_
  refine AC.region ?_
  refine AO.yld _ (Yld.move rfl) rfl rfl rfl ?_
  refine AO.yld _ (Yld.move rfl) rfl rfl rfl ?_
  refine AO.callW (wantedN rfl) [] [] [] rfl rfl Tryd.call40 rfl (laws_szVersionS_c (by assumption) (by assumption) (by omega) (by omega)) (.own rfl) rfl (fun _ => rfl) trivial rfl (fun _ => rfl) (fun _ => rfl) (fun r18 hr18 => ?_)
  refine AO.yld _ (Yld.assign rfl) rfl rfl rfl ?_
  refine AO.nil ?_
  refine AC.seq ?_
  refine AC.seq ?_
  refine AC.region ?_
  refine AO.yld _ (Yld.move rfl) rfl rfl rfl ?_
  refine AO.yld _ (Yld.int rfl rfl rfl) rfl rfl rfl ?_
  refine AO.nil ?_
  refine AC.cond _ rfl (fun c20 => ?_) (fun c20 => ?_)
  · -- c20 True
    refine AC.seq ?_
    refine AC.region ?_
    refine AO.yld _ (Yld.assign rfl) rfl rfl rfl ?_
    refine AO.nil ?_
    refine Pure.ret Tryd.results8 (RVs.cons (RV.tmp rfl) RVs.nil) rfl ?_
    first | rfl | (simp_all; done) | (simp_all; intros; omega) | grind
  · -- c20 False
    have hg_xs : VersGood xs ∧ 0 ≤ r18 ∧ r18 ≤ 1048576 := by rcases hr18 with h | h; exact absurd h (by simpa using c20); exact ⟨h.1, h.2.1, by omega⟩
    have hgg_xs := hg_xs.1
    have hgl_xs := hg_xs.1.1
    refine AC.skip ?_
    refine AC.seq ?_
    refine AC.region ?_
    refine AO.yld _ (Yld.move rfl) rfl rfl rfl ?_
    have hcg := undo_good (n := n) hg_xs.1
    have hmk := mkK_all (k0 := 1) hg_xs.1
    have hmr := mkK_all (k0 := 1) hcg
    obtain ⟨hsl1, hsl2⟩ := stL_good hcg
    refine AO.callW (wantedN rfl) [0] [] [0] rfl rfl Tryd.call42 rfl (laws_toVersionS_n (by assumption)) (.own rfl) rfl (fun _ => rfl) trivial rfl (fun _ => rfl) (fun _ => rfl) (fun _ _ => ?_)
    refine AO.yld _ (Yld.move rfl) rfl rfl rfl ?_
    refine AO.callW (wantedN rfl) [1] [] [0] rfl rfl Tryd.call41 rfl (spec_UndoVersion_c (by assumption)) (.flat (.view rfl rfl (.view rfl rfl .nil)) (fun _ => by simp [AV.Flat, AV.FlatL, PV.Flat, PV.FlatL]) (fun _ => ⟨vers_flat, trivial⟩)) rfl (fun _ => rfl) trivial rfl (fun _ => rfl) (fun _ => rfl) (fun _ _ => ?_)
    refine AO.yld _ (Yld.move rfl) rfl rfl rfl ?_
    refine AO.yld _ (Yld.extract rfl rfl rfl) rfl rfl rfl ?_
    refine AO.yld _ (Yld.extract rfl rfl rfl) rfl rfl rfl ?_
    refine AO.yld _ (Yld.assign rfl) rfl rfl rfl ?_
    refine AO.yld _ (Yld.assign rfl) rfl rfl rfl ?_
    refine AO.nil ?_
    refine AC.seq ?_
    refine AC.region ?_
    refine AO.yld _ (Yld.move rfl) rfl rfl rfl ?_
    refine AO.callW (wantedN rfl) [2] [] [0] rfl rfl Tryd.call42 rfl (laws_toVersionS_n (by assumption)) (.own rfl) rfl (fun _ => rfl) trivial rfl (fun _ => rfl) (fun _ => rfl) (fun _ _ => ?_)
    refine AO.yld _ (Yld.assign rfl) rfl rfl rfl ?_
    refine AO.nil ?_
    refine AC.seq ?_
    refine AC.region ?_
    refine AO.yld _ (Yld.move rfl) rfl rfl rfl ?_
    refine AO.yld _ (Yld.move rfl) rfl rfl rfl ?_
    refine AO.callW (wantedN rfl) [3] [] [0] rfl rfl Tryd.call43 rfl (impl_UndoVersion_c (by assumption)) (.flat (.view rfl rfl (.view rfl rfl .nil)) (fun _ => by simp [AV.Flat, AV.FlatL, PV.Flat, PV.FlatL]) (fun _ => ⟨vers_flat, trivial⟩)) rfl (fun _ => rfl) trivial rfl (fun _ => rfl) (fun _ => rfl) (fun _ _ => ?_)
    refine AO.yld _ (Yld.move rfl) rfl rfl rfl ?_
    refine AO.yld _ (Yld.extract rfl rfl rfl) rfl rfl rfl ?_
    refine AO.yld _ (Yld.extract rfl rfl rfl) rfl rfl rfl ?_
    refine AO.yld _ (Yld.assign rfl) rfl rfl rfl ?_
    refine AO.yld _ (Yld.assign rfl) rfl rfl rfl ?_
    refine AO.nil ?_
    refine AC.seq ?_
    refine AC.seq ?_
    refine AC.region ?_
    refine AO.yld _ (Yld.move rfl) rfl rfl rfl ?_
    refine AO.yld _ (Yld.move rfl) rfl rfl rfl ?_
    refine AO.yld _ (Yld.call rfl rfl Tryd.call44 rfl rfl rfl (laws_eqVersionS_c (by assumption)) rfl) rfl rfl rfl ?_
    refine AO.yld _ (Yld.not rfl) rfl rfl rfl ?_
    refine AO.yld _ (Yld.move rfl) rfl rfl rfl ?_
    refine AO.splitAt 40 _ rfl (fun s40 => ?_) (fun s40 => ?_)
    · -- s40 True
      refine AO.skipF rfl rfl rfl rfl rfl ?_
      refine AO.skipF rfl rfl rfl rfl rfl ?_
      refine AO.skipF rfl rfl rfl rfl rfl ?_
      refine AO.yld _ (Yld.pickT rfl rfl) rfl rfl rfl ?_
      refine AO.nil ?_
      refine AC.condT rfl ?_
      refine AC.seq ?_
      refine AC.region ?_
      refine AO.yld _ (Yld.assign rfl) rfl rfl rfl ?_
      refine AO.nil ?_
      refine Pure.ret Tryd.results8 (RVs.cons (RV.tmp rfl) RVs.nil) rfl ?_
      first | rfl | (simp_all; done) | (simp_all; intros; omega) | grind
    · -- s40 False
      refine AO.yldG _ (Yld.move rfl) rfl rfl rfl rfl rfl ?_
      refine AO.yldG _ (Yld.move rfl) rfl rfl rfl rfl rfl ?_
      refine AO.yldG _ (Yld.int rfl rfl rfl) rfl rfl rfl rfl rfl ?_
      refine AO.yld _ (Yld.pickF rfl rfl) rfl rfl rfl ?_
      refine AO.nil ?_
      refine AC.cond _ rfl (fun c44 => ?_) (fun c44 => ?_)
      · -- c44 True
        refine AC.seq ?_
        refine AC.region ?_
        refine AO.yld _ (Yld.assign rfl) rfl rfl rfl ?_
        refine AO.nil ?_
        refine Pure.ret Tryd.results8 (RVs.cons (RV.tmp rfl) RVs.nil) rfl ?_
        first | rfl | (simp_all; done) | (simp_all; intros; omega) | grind
      · -- c44 False
        refine AC.skip ?_
        refine AC.seq ?_
        refine AC.seq ?_
        refine AC.region ?_
        refine AO.yld _ (Yld.move rfl) rfl rfl rfl ?_
        refine AO.yld _ (Yld.move rfl) rfl rfl rfl ?_
        refine AO.callW (wantedN rfl) [4] [] [0] rfl rfl Tryd.call42 rfl (laws_toVersionS_n (by assumption)) (.own rfl) rfl (fun _ => rfl) trivial rfl (fun _ => rfl) (fun _ => rfl) (fun _ _ => ?_)
        refine AO.yld _ (Yld.call rfl rfl Tryd.call44 rfl rfl rfl (laws_eqVersionS_c (by assumption)) rfl) rfl rfl rfl ?_
        refine AO.yld _ (Yld.not rfl) rfl rfl rfl ?_
        refine AO.nil ?_
        refine AC.cond _ rfl (fun c49 => ?_) (fun c49 => ?_)
        · -- c49 True
          refine AC.seq ?_
          refine AC.region ?_
          refine AO.yld _ (Yld.assign rfl) rfl rfl rfl ?_
          refine AO.nil ?_
          refine Pure.ret Tryd.results8 (RVs.cons (RV.tmp rfl) RVs.nil) rfl ?_
          first | rfl | (simp_all; done) | (simp_all; intros; omega) | grind
        · -- c49 False
          refine AC.skip ?_
          refine AC.seq ?_
          refine AC.region ?_
          refine AO.yld _ (Yld.assign rfl) rfl rfl rfl ?_
          refine AO.nil ?_
          refine AC.seq ?_
          refine AC.region ?_
          refine AO.yld _ (Yld.move rfl) rfl rfl rfl ?_
          refine AO.yld _ (Yld.move rfl) rfl rfl rfl ?_
          refine AO.callW (wantedN rfl) [2] [0] [0] rfl rfl Tryd.call45 rfl (laws_markVersionS_c (by assumption) (by omega) (by omega)) (.own rfl) rfl (fun _ => rfl) ⟨rfl, trivial⟩ rfl (fun _ => rfl) (fun _ => rfl) (fun _ _ => ?_)
          refine AO.yld _ (Yld.assign rfl) rfl rfl rfl ?_
          refine AO.nil ?_
          refine AC.seq ?_
          refine AC.seq ?_
          refine AC.region ?_
          refine AO.yld _ (Yld.move rfl) rfl rfl rfl ?_
          refine AO.yld _ (Yld.int rfl rfl rfl) rfl rfl rfl ?_
          refine AO.yld _ (Yld.move rfl) rfl rfl rfl ?_
          refine AO.splitAt 55 _ rfl (fun s55 => ?_) (fun s55 => ?_)
          · -- s55 True
            refine AO.skipF rfl rfl rfl rfl rfl ?_
            refine AO.skipF rfl rfl rfl rfl rfl ?_
            refine AO.skipF rfl rfl rfl rfl rfl ?_
            refine AO.skipF rfl rfl rfl rfl rfl ?_
            refine AO.yld _ (Yld.pickT rfl rfl) rfl rfl rfl ?_
            refine AO.yld _ (Yld.move rfl) rfl rfl rfl ?_
            refine AO.skipF rfl rfl rfl rfl rfl ?_
            refine AO.skipF rfl rfl rfl rfl rfl ?_
            refine AO.skipF rfl rfl rfl rfl rfl ?_
            refine AO.yld _ (Yld.pickT rfl rfl) rfl rfl rfl ?_
            refine AO.nil ?_
            refine AC.condT rfl ?_
            refine AC.seq ?_
            refine AC.region ?_
            refine AO.yld _ (Yld.assign rfl) rfl rfl rfl ?_
            refine AO.nil ?_
            refine Pure.ret Tryd.results8 (RVs.cons (RV.tmp rfl) RVs.nil) rfl ?_
            first | rfl | (simp_all; done) | (simp_all; intros; omega) | grind
          · -- s55 False
            refine AO.yldG _ (Yld.move rfl) rfl rfl rfl rfl rfl ?_
            refine AO.yldG _ (Yld.move rfl) rfl rfl rfl rfl rfl ?_
            refine AO.yldG _ (Yld.call rfl rfl Tryd.call44 rfl rfl rfl (laws_eqVersionS_c (by assumption)) rfl) rfl rfl rfl rfl rfl ?_
            refine AO.yldG _ (Yld.not rfl) rfl rfl rfl rfl rfl ?_
            refine AO.yld _ (Yld.pickF rfl rfl) rfl rfl rfl ?_
            refine AO.yld _ (Yld.move rfl) rfl rfl rfl ?_
            refine AO.splitAt 61 _ rfl (fun s61 => ?_) (fun s61 => ?_)
            · -- s61 True
              refine AO.skipF rfl rfl rfl rfl rfl ?_
              refine AO.skipF rfl rfl rfl rfl rfl ?_
              refine AO.skipF rfl rfl rfl rfl rfl ?_
              refine AO.yld _ (Yld.pickT rfl rfl) rfl rfl rfl ?_
              refine AO.nil ?_
              refine AC.condT rfl ?_
              refine AC.seq ?_
              refine AC.region ?_
              refine AO.yld _ (Yld.assign rfl) rfl rfl rfl ?_
              refine AO.nil ?_
              refine Pure.ret Tryd.results8 (RVs.cons (RV.tmp rfl) RVs.nil) rfl ?_
              first | rfl | (simp_all; done) | (simp_all; intros; omega) | grind
            · -- s61 False
              refine AO.yldG _ (Yld.move rfl) rfl rfl rfl rfl rfl ?_
              refine AO.yldG _ (Yld.move rfl) rfl rfl rfl rfl rfl ?_
              refine AO.yldG _ (Yld.int rfl rfl rfl) rfl rfl rfl rfl rfl ?_
              refine AO.yld _ (Yld.pickF rfl rfl) rfl rfl rfl ?_
              refine AO.nil ?_
              refine AC.cond _ rfl (fun c65 => ?_) (fun c65 => ?_)
              · -- c65 True
                refine AC.seq ?_
                refine AC.region ?_
                refine AO.yld _ (Yld.assign rfl) rfl rfl rfl ?_
                refine AO.nil ?_
                refine Pure.ret Tryd.results8 (RVs.cons (RV.tmp rfl) RVs.nil) rfl ?_
                first | rfl | (simp_all; done) | (simp_all; intros; omega) | grind
              · -- c65 False
                refine AC.skip ?_
                refine AC.seq ?_
                refine AC.region ?_
                refine AO.yld _ (Yld.assign rfl) rfl rfl rfl ?_
                refine AO.nil ?_
                refine AC.seq ?_
                refine AC.region ?_
                refine AO.yld _ (Yld.move rfl) rfl rfl rfl ?_
                refine AO.yld _ (Yld.move rfl) rfl rfl rfl ?_
                refine AO.callW (wantedN rfl) [3] [0] [0] rfl rfl Tryd.call45 rfl (laws_markVersionS_c (by assumption) (by omega) (by omega)) (.own rfl) rfl (fun _ => rfl) ⟨rfl, trivial⟩ rfl (fun _ => rfl) (fun _ => rfl) (fun _ _ => ?_)
                refine AO.yld _ (Yld.assign rfl) rfl rfl rfl ?_
                refine AO.nil ?_
                refine AC.seq ?_
                refine AC.region ?_
                refine AO.yld _ (Yld.assign rfl) rfl rfl rfl ?_
                refine AO.nil ?_
                refine AC.seq ?_
                refine AC.region ?_
                refine AO.yld _ (Yld.move rfl) rfl rfl rfl ?_
                refine AO.yld _ (Yld.move rfl) rfl rfl rfl ?_
                refine AO.yld _ (Yld.call rfl rfl Tryd.call46 rfl rfl rfl (laws_heldVersionS_c (by omega) (by omega) (by first | assumption | omega) (by assumption)) rfl) rfl rfl rfl ?_
                refine AO.yld _ (Yld.assign rfl) rfl rfl rfl ?_
                refine AO.nil ?_
                refine AC.seq ?_
                refine AC.seq ?_
                refine AC.region ?_
                refine AO.yld _ (Yld.move rfl) rfl rfl rfl ?_
                refine AO.yld _ (Yld.int rfl rfl rfl) rfl rfl rfl ?_
                refine AO.nil ?_
                refine AC.cond _ rfl (fun c73 => ?_) (fun c73 => ?_)
                · -- c73 True
                  refine AC.seq ?_
                  refine AC.region ?_
                  refine AO.yld _ (Yld.assign rfl) rfl rfl rfl ?_
                  refine AO.nil ?_
                  refine Pure.ret Tryd.results8 (RVs.cons (RV.tmp rfl) RVs.nil) rfl ?_
                  first | rfl | (simp_all; done) | (simp_all; intros; omega) | grind
                · -- c73 False
                  refine AC.skip ?_
                  refine AC.seq ?_
                  refine AC.seq ?_
                  refine AC.region ?_
                  refine AO.yld _ (Yld.move rfl) rfl rfl rfl ?_
                  refine AO.yld _ (Yld.move rfl) rfl rfl rfl ?_
                  refine AO.yld _ (Yld.int rfl rfl rfl) rfl rfl rfl ?_
                  refine AO.nil ?_
                  refine AC.cond _ rfl (fun c76 => ?_) (fun c76 => ?_)
                  · -- c76 True
                    refine AC.seq ?_
                    refine AC.region ?_
                    refine AO.yld _ (Yld.assign rfl) rfl rfl rfl ?_
                    refine AO.nil ?_
                    refine Pure.ret Tryd.results8 (RVs.cons (RV.tmp rfl) RVs.nil) rfl ?_
                    first | rfl | (simp_all; done) | (simp_all; intros; omega) | grind
                  · -- c76 False
                    refine AC.skip ?_
                    refine AC.seq ?_
                    refine AC.region ?_
                    refine AO.yld _ (Yld.move rfl) rfl rfl rfl ?_
                    refine AO.callW (wantedN rfl) [5] [] [0] rfl rfl Tryd.call42 rfl (laws_toVersionS_n (by assumption)) (.own rfl) rfl (fun _ => rfl) trivial rfl (fun _ => rfl) (fun _ => rfl) (fun _ _ => ?_)
                    refine AO.yld _ (Yld.move rfl) rfl rfl rfl ?_
                    refine AO.callW (wantedN rfl) [6] [] [0] rfl rfl Tryd.call43 rfl (impl_UndoVersion_c (by assumption)) (.flat (.view rfl rfl (.view rfl rfl .nil)) (fun _ => by simp [AV.Flat, AV.FlatL, PV.Flat, PV.FlatL]) (fun _ => ⟨vers_flat, trivial⟩)) rfl (fun _ => rfl) trivial rfl (fun _ => rfl) (fun _ => rfl) (fun _ _ => ?_)
                    refine AO.yld _ (Yld.move rfl) rfl rfl rfl ?_
                    refine AO.yld _ (Yld.extract rfl rfl rfl) rfl rfl rfl ?_
                    refine AO.yld _ (Yld.extract rfl rfl rfl) rfl rfl rfl ?_
                    refine AO.yld _ (Yld.assign rfl) rfl rfl rfl ?_
                    refine AO.yld _ (Yld.assign rfl) rfl rfl rfl ?_
                    refine AO.nil ?_
                    refine AC.seq ?_
                    refine AC.seq ?_
                    refine AC.region ?_
                    refine AO.yld _ (Yld.move rfl) rfl rfl rfl ?_
                    refine AO.yld _ (Yld.move rfl) rfl rfl rfl ?_
                    refine AO.yld _ (Yld.call rfl rfl Tryd.call44 rfl rfl rfl (laws_eqVersionS_c (by assumption)) rfl) rfl rfl rfl ?_
                    refine AO.yld _ (Yld.not rfl) rfl rfl rfl ?_
                    refine AO.yld _ (Yld.move rfl) rfl rfl rfl ?_
                    refine AO.splitAt 88 _ rfl (fun s88 => ?_) (fun s88 => ?_)
                    · -- s88 True
                      refine AO.skipF rfl rfl rfl rfl rfl ?_
                      refine AO.skipF rfl rfl rfl rfl rfl ?_
                      refine AO.skipF rfl rfl rfl rfl rfl ?_
                      refine AO.yld _ (Yld.pickT rfl rfl) rfl rfl rfl ?_
                      refine AO.nil ?_
                      refine AC.condT rfl ?_
                      refine AC.seq ?_
                      refine AC.region ?_
                      refine AO.yld _ (Yld.assign rfl) rfl rfl rfl ?_
                      refine AO.nil ?_
                      refine Pure.ret Tryd.results8 (RVs.cons (RV.tmp rfl) RVs.nil) rfl ?_
                      first | rfl | (simp_all; done) | (simp_all; intros; omega) | grind
                    · -- s88 False
                      refine AO.yldG _ (Yld.move rfl) rfl rfl rfl rfl rfl ?_
                      refine AO.yldG _ (Yld.move rfl) rfl rfl rfl rfl rfl ?_
                      refine AO.yldG _ (Yld.int rfl rfl rfl) rfl rfl rfl rfl rfl ?_
                      refine AO.yld _ (Yld.pickF rfl rfl) rfl rfl rfl ?_
                      refine AO.nil ?_
                      refine AC.cond _ rfl (fun c92 => ?_) (fun c92 => ?_)
                      · -- c92 True
                        refine AC.seq ?_
                        refine AC.region ?_
                        refine AO.yld _ (Yld.assign rfl) rfl rfl rfl ?_
                        refine AO.nil ?_
                        refine Pure.ret Tryd.results8 (RVs.cons (RV.tmp rfl) RVs.nil) rfl ?_
                        first | rfl | (simp_all; done) | (simp_all; intros; omega) | grind
                      · -- c92 False
                        refine AC.skip ?_
                        refine AC.seq ?_
                        refine AC.region ?_
                        refine AO.yld _ (Yld.assign rfl) rfl rfl rfl ?_
                        refine AO.nil ?_
                        refine AC.seq ?_
                        refine AC.region ?_
                        refine AO.yld _ (Yld.move rfl) rfl rfl rfl ?_
                        refine AO.yld _ (Yld.move rfl) rfl rfl rfl ?_
                        refine AO.yld _ (Yld.call rfl rfl Tryd.call46 rfl rfl rfl (laws_heldVersionS_c (by omega) (by omega) (by first | assumption | omega) (by assumption)) rfl) rfl rfl rfl ?_
                        refine AO.yld _ (Yld.assign rfl) rfl rfl rfl ?_
                        refine AO.nil ?_
                        refine AC.seq ?_
                        refine AC.seq ?_
                        refine AC.region ?_
                        refine AO.yld _ (Yld.move rfl) rfl rfl rfl ?_
                        refine AO.yld _ (Yld.int rfl rfl rfl) rfl rfl rfl ?_
                        refine AO.nil ?_
                        refine AC.cond _ rfl (fun c97 => ?_) (fun c97 => ?_)
                        · -- c97 True
                          refine AC.seq ?_
                          refine AC.region ?_
                          refine AO.yld _ (Yld.assign rfl) rfl rfl rfl ?_
                          refine AO.nil ?_
                          refine Pure.ret Tryd.results8 (RVs.cons (RV.tmp rfl) RVs.nil) rfl ?_
                          first | rfl | (simp_all; done) | (simp_all; intros; omega) | grind
                        · -- c97 False
                          refine AC.skip ?_
                          refine AC.seq ?_
                          refine AC.seq ?_
                          refine AC.region ?_
                          refine AO.yld _ (Yld.move rfl) rfl rfl rfl ?_
                          refine AO.yld _ (Yld.move rfl) rfl rfl rfl ?_
                          refine AO.yld _ (Yld.int rfl rfl rfl) rfl rfl rfl ?_
                          refine AO.nil ?_
                          refine AC.cond _ rfl (fun c100 => ?_) (fun c100 => ?_)
                          · -- c100 True
                            refine AC.seq ?_
                            refine AC.region ?_
                            refine AO.yld _ (Yld.assign rfl) rfl rfl rfl ?_
                            refine AO.nil ?_
                            refine Pure.ret Tryd.results8 (RVs.cons (RV.tmp rfl) RVs.nil) rfl ?_
                            first | rfl | (simp_all; done) | (simp_all; intros; omega) | grind
                          · -- c100 False
                            refine AC.skip ?_
                            refine AC.seq ?_
                            refine AC.region ?_
                            refine AO.yld _ (Yld.assign rfl) rfl rfl rfl ?_
                            refine AO.nil ?_
                            refine Pure.ret Tryd.results8 (RVs.cons (RV.tmp rfl) RVs.nil) rfl ?_
                            first | rfl | (simp_all; done) | (simp_all; intros; omega) | grind

end Go.Proofs.YtdgjlkdcklfieaaDoor
