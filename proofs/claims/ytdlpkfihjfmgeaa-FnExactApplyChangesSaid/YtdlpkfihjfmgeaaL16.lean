/- Contracts of functions of the program, each by a walk of its text in the calculus V. -/
import Derived.Test.YtdlpkfihjfmgeaaR16
set_option linter.all false
set_option linter.unusedSimpArgs false
set_option linter.unnecessarySimpa false
set_option linter.unusedVariables false
namespace Go.Proofs.Ytdlpkfihjfmgeaa
open Go Go.V

theorem laws_FnExactApplyChanges_c {xs : List NV} (hb_xs : xs.length ≤ 9223372036854775807) (hs_xs : ∀ x ∈ xs, (x.name).length ≤ 9223372036854775807) {cs : List Chg} (hb_cs : cs.length ≤ 9223372036854775807) (hs_cs : ∀ x ∈ cs, (x.set.name).length ≤ 9223372036854775807) :
    Pure Try.prog 3 [.sl 2 (xs.map encNV), .sl 3 (cs.map encChg)] (.v (.bool true)) := by
  have hl9 := applyC_len xs cs
  refine Pure.intro Try.func3 rfl Try.ntmps3 rfl rfl (fun w => ?_)
  refine AC.seq ?_
  refine AC.region ?_
  refine AO.yld _ (Yld.assign rfl) rfl rfl rfl ?_
  refine AO.nil ?_
  refine AC.seq ?_
  refine AC.region ?_
  refine AO.yld _ (Yld.assign rfl) rfl rfl rfl ?_
  refine AO.nil ?_
  refine AC.seq ?_
  refine AC.region ?_
  refine AO.yld _ (Yld.move rfl) rfl rfl rfl ?_
  refine AO.yld _ (Yld.move rfl) rfl rfl rfl ?_
  refine AO.yld _ (Yld.call rfl rfl Try.call5 rfl rfl rfl (laws_szSettingS_c (by omega) (by omega) (by first | assumption | omega) (by assumption)) rfl) rfl rfl rfl ?_
  refine AO.yld _ (Yld.assign rfl) rfl rfl rfl ?_
  refine AO.nil ?_
  refine AC.seq ?_
  refine AC.seq ?_
  refine AC.region ?_
  refine AO.yld _ (Yld.move rfl) rfl rfl rfl ?_
  refine AO.yld _ (Yld.int rfl rfl rfl) rfl rfl rfl ?_
  refine AO.nil ?_
  refine AC.cond _ rfl (fun c21 => ?_) (fun c21 => ?_)
  · -- c21 True
    refine AC.seq ?_
    refine AC.region ?_
    refine AO.yld _ (Yld.assign rfl) rfl rfl rfl ?_
    refine AO.nil ?_
    refine Pure.ret Try.results3 (RVs.cons (RV.tmp rfl) RVs.nil) rfl ?_
    first | rfl | (simp_all; done) | (simp_all; intros; omega) | grind
  · -- c21 False
    have hz_xs := szAll_ge c21
    have hp_xs := lens_nonneg (f := NV.name) (xs := xs)
    have hn_xs : xs.length ≤ 1048576 := by omega
    have ht_xs : ∀ x ∈ xs, (x.name).length ≤ 1048576 := fun x hx => by have := len_le_lens (f := NV.name) hx; omega
    refine AC.skip ?_
    refine AC.seq ?_
    refine AC.region ?_
    refine AO.yld _ (Yld.move rfl) rfl rfl rfl ?_
    refine AO.yld _ (Yld.move rfl) rfl rfl rfl ?_
    refine AO.yld _ (Yld.call rfl rfl Try.call6 rfl rfl rfl (laws_szChangeS_c (by omega) (by omega) (by first | assumption | omega) (by assumption)) rfl) rfl rfl rfl ?_
    refine AO.yld _ (Yld.assign rfl) rfl rfl rfl ?_
    refine AO.nil ?_
    refine AC.seq ?_
    refine AC.seq ?_
    refine AC.region ?_
    refine AO.yld _ (Yld.move rfl) rfl rfl rfl ?_
    refine AO.yld _ (Yld.int rfl rfl rfl) rfl rfl rfl ?_
    refine AO.nil ?_
    refine AC.cond _ rfl (fun c26 => ?_) (fun c26 => ?_)
    · -- c26 True
      refine AC.seq ?_
      refine AC.region ?_
      refine AO.yld _ (Yld.assign rfl) rfl rfl rfl ?_
      refine AO.nil ?_
      refine Pure.ret Try.results3 (RVs.cons (RV.tmp rfl) RVs.nil) rfl ?_
      first | rfl | (simp_all; done) | (simp_all; intros; omega) | grind
    · -- c26 False
      have hz_cs := szAll_ge c26
      have hp_cs := lens_nonneg (f := (fun x : Chg => x.set.name)) (xs := cs)
      have hn_cs : cs.length ≤ 1048576 := by omega
      have ht_cs : ∀ x ∈ cs, (x.set.name).length ≤ 1048576 := fun x hx => by have := len_le_lens (f := (fun x : Chg => x.set.name)) hx; omega
      refine AC.skip ?_
      refine AC.seq ?_
      refine AC.region ?_
      refine AO.yld _ (Yld.move rfl) rfl rfl rfl ?_
      refine AO.callMk 0 rfl rfl Try.call8 rfl rfl rfl (laws_toSettingS_c (by first | assumption | omega)) (by simp [AV.Flat, AV.FlatL, PV.Flat, PV.FlatL]) (flat_map flatNV _) rfl rfl ?_
      refine AO.yld _ (Yld.move rfl) rfl rfl rfl ?_
      refine AO.callMk 1 rfl rfl Try.call9 rfl rfl rfl (laws_toChangeS_c (by first | assumption | omega)) (by simp [AV.Flat, AV.FlatL, PV.Flat, PV.FlatL]) (flat_map flatChg _) rfl rfl ?_
      refine AO.callW (wantedN rfl) [2] [] [0] rfl rfl Try.call7 rfl (spec_ApplyChanges_c (by first | assumption | omega) (by assumption) (by first | assumption | omega) (by assumption)) (.flat (.view rfl rfl (.view rfl rfl .nil)) (fun _ => by simp [AV.Flat, AV.FlatL, PV.Flat, PV.FlatL]) (fun _ => ⟨flat_map flatNV _, trivial⟩)) rfl (fun _ => rfl) trivial rfl (fun _ => rfl) (fun _ => rfl) (fun _ _ => ?_)
      refine AO.yld _ (Yld.move rfl) rfl rfl rfl ?_
      refine AO.yld _ (Yld.extract rfl rfl rfl) rfl rfl rfl ?_
      refine AO.yld _ (Yld.extract rfl rfl rfl) rfl rfl rfl ?_
      refine AO.yld _ (Yld.assign rfl) rfl rfl rfl ?_
      refine AO.yld _ (Yld.assign rfl) rfl rfl rfl ?_
      refine AO.nil ?_
      refine AC.seq ?_
      refine AC.region ?_
      refine AO.yld _ (Yld.move rfl) rfl rfl rfl ?_
      refine AO.callMk 3 rfl rfl Try.call8 rfl rfl rfl (laws_toSettingS_c (by first | assumption | omega)) (by simp [AV.Flat, AV.FlatL, PV.Flat, PV.FlatL]) (flat_map flatNV _) rfl rfl ?_
      refine AO.yld _ (Yld.assign rfl) rfl rfl rfl ?_
      refine AO.nil ?_
      refine AC.seq ?_
      refine AC.region ?_
      refine AO.yld _ (Yld.move rfl) rfl rfl rfl ?_
      refine AO.callMk 4 rfl rfl Try.call9 rfl rfl rfl (laws_toChangeS_c (by first | assumption | omega)) (by simp [AV.Flat, AV.FlatL, PV.Flat, PV.FlatL]) (flat_map flatChg _) rfl rfl ?_
      refine AO.yld _ (Yld.assign rfl) rfl rfl rfl ?_
      refine AO.nil ?_
      refine AC.seq ?_
      refine AC.region ?_
      refine AO.yld _ (Yld.move rfl) rfl rfl rfl ?_
      refine AO.yld _ (Yld.move rfl) rfl rfl rfl ?_
      refine AO.callW (wantedN rfl) [5] [] [0] rfl rfl Try.call10 rfl (impl_ApplyChanges_c (by first | assumption | omega) (by assumption) (by first | assumption | omega) (by assumption)) (.flat (.view rfl rfl (.view rfl rfl .nil)) (fun _ => by simp [AV.Flat, AV.FlatL, PV.Flat, PV.FlatL]) (fun _ => ⟨flat_map flatNV _, trivial⟩)) rfl (fun _ => rfl) trivial rfl (fun _ => rfl) (fun _ => rfl) (fun _ _ => ?_)
      refine AO.yld _ (Yld.move rfl) rfl rfl rfl ?_
      refine AO.yld _ (Yld.extract rfl rfl rfl) rfl rfl rfl ?_
      refine AO.yld _ (Yld.extract rfl rfl rfl) rfl rfl rfl ?_
      refine AO.yld _ (Yld.assign rfl) rfl rfl rfl ?_
      refine AO.yld _ (Yld.assign rfl) rfl rfl rfl ?_
      refine AO.nil ?_
      refine AC.seq ?_
      refine AC.seq ?_
      refine AC.region ?_
      refine AO.yld _ (Yld.move rfl) rfl rfl rfl ?_
      refine AO.yld _ (Yld.move rfl) rfl rfl rfl ?_
      refine AO.yld _ (Yld.call rfl rfl Try.call11 rfl rfl rfl (laws_eqSettingS_c (by first | assumption | omega)) rfl) rfl rfl rfl ?_
      refine AO.yld _ (Yld.not rfl) rfl rfl rfl ?_
      refine AO.yld _ (Yld.move rfl) rfl rfl rfl ?_
      refine AO.splitAt 49 _ rfl (fun s49 => ?_) (fun s49 => ?_)
      · -- s49 True
        refine AO.skipF rfl rfl rfl rfl rfl ?_
        refine AO.skipF rfl rfl rfl rfl rfl ?_
        refine AO.skipF rfl rfl rfl rfl rfl ?_
        refine AO.yld _ (Yld.pickT rfl rfl) rfl rfl rfl ?_
        refine AO.nil ?_
        refine AC.condT rfl ?_
        refine AC.seq ?_
        refine AC.region ?_
        refine AO.yld _ (Yld.assign rfl) rfl rfl rfl ?_
        refine AO.nil ?_
        refine Pure.ret Try.results3 (RVs.cons (RV.tmp rfl) RVs.nil) rfl ?_
        first | rfl | (simp_all; done) | (simp_all; intros; omega) | grind
      · -- s49 False
        refine AO.yldG _ (Yld.move rfl) rfl rfl rfl rfl rfl ?_
        refine AO.yldG _ (Yld.move rfl) rfl rfl rfl rfl rfl ?_
        refine AO.yldG _ (Yld.int rfl rfl rfl) rfl rfl rfl rfl rfl ?_
        refine AO.yld _ (Yld.pickF rfl rfl) rfl rfl rfl ?_
        refine AO.nil ?_
        refine AC.cond _ rfl (fun c53 => ?_) (fun c53 => ?_)
        · -- c53 True
          refine AC.seq ?_
          refine AC.region ?_
          refine AO.yld _ (Yld.assign rfl) rfl rfl rfl ?_
          refine AO.nil ?_
          refine Pure.ret Try.results3 (RVs.cons (RV.tmp rfl) RVs.nil) rfl ?_
          first | rfl | (simp_all; done) | (simp_all; intros; omega) | grind
        · -- c53 False
          refine AC.skip ?_
          refine AC.seq ?_
          refine AC.seq ?_
          refine AC.region ?_
          refine AO.yld _ (Yld.move rfl) rfl rfl rfl ?_
          refine AO.yld _ (Yld.move rfl) rfl rfl rfl ?_
          refine AO.callMk 6 rfl rfl Try.call8 rfl rfl rfl (laws_toSettingS_c (by first | assumption | omega)) (by simp [AV.Flat, AV.FlatL, PV.Flat, PV.FlatL]) (flat_map flatNV _) rfl rfl ?_
          refine AO.yld _ (Yld.call rfl rfl Try.call11 rfl rfl rfl (laws_eqSettingS_c (by first | assumption | omega)) rfl) rfl rfl rfl ?_
          refine AO.yld _ (Yld.not rfl) rfl rfl rfl ?_
          refine AO.nil ?_
          refine AC.cond _ rfl (fun c58 => ?_) (fun c58 => ?_)
          · -- c58 True
            refine AC.seq ?_
            refine AC.region ?_
            refine AO.yld _ (Yld.assign rfl) rfl rfl rfl ?_
            refine AO.nil ?_
            refine Pure.ret Try.results3 (RVs.cons (RV.tmp rfl) RVs.nil) rfl ?_
            first | rfl | (simp_all; done) | (simp_all; intros; omega) | grind
          · -- c58 False
            refine AC.skip ?_
            refine AC.seq ?_
            refine AC.seq ?_
            refine AC.region ?_
            refine AO.yld _ (Yld.move rfl) rfl rfl rfl ?_
            refine AO.yld _ (Yld.move rfl) rfl rfl rfl ?_
            refine AO.callMk 7 rfl rfl Try.call9 rfl rfl rfl (laws_toChangeS_c (by first | assumption | omega)) (by simp [AV.Flat, AV.FlatL, PV.Flat, PV.FlatL]) (flat_map flatChg _) rfl rfl ?_
            refine AO.yld _ (Yld.call rfl rfl Try.call12 rfl rfl rfl (laws_eqChangeS_c (by first | assumption | omega)) rfl) rfl rfl rfl ?_
            refine AO.yld _ (Yld.not rfl) rfl rfl rfl ?_
            refine AO.nil ?_
            refine AC.cond _ rfl (fun c63 => ?_) (fun c63 => ?_)
            · -- c63 True
              refine AC.seq ?_
              refine AC.region ?_
              refine AO.yld _ (Yld.assign rfl) rfl rfl rfl ?_
              refine AO.nil ?_
              refine Pure.ret Try.results3 (RVs.cons (RV.tmp rfl) RVs.nil) rfl ?_
              first | rfl | (simp_all; done) | (simp_all; intros; omega) | grind
            · -- c63 False
              refine AC.skip ?_
              refine AC.seq ?_
              refine AC.region ?_
              refine AO.yld _ (Yld.assign rfl) rfl rfl rfl ?_
              refine AO.nil ?_
              refine AC.seq ?_
              refine AC.region ?_
              refine AO.yld _ (Yld.move rfl) rfl rfl rfl ?_
              refine AO.yld _ (Yld.move rfl) rfl rfl rfl ?_
              refine AO.callW (wantedN rfl) [3] [0] [0] rfl rfl Try.call13 rfl (laws_markSettingS_c (by omega) (by omega) (by first | assumption | omega)) (.own rfl) rfl (fun _ => rfl) ⟨rfl, trivial⟩ rfl (fun _ => rfl) (fun _ => rfl) (fun _ _ => ?_)
              refine AO.yld _ (Yld.assign rfl) rfl rfl rfl ?_
              refine AO.nil ?_
              refine AC.seq ?_
              refine AC.region ?_
              refine AO.yld _ (Yld.move rfl) rfl rfl rfl ?_
              refine AO.yld _ (Yld.move rfl) rfl rfl rfl ?_
              refine AO.callW (wantedN rfl) [4] [0] [0] rfl rfl Try.call14 rfl (laws_markChangeS_c (by omega) (by omega) (by first | assumption | omega)) (.own rfl) rfl (fun _ => rfl) ⟨rfl, trivial⟩ rfl (fun _ => rfl) (fun _ => rfl) (fun _ _ => ?_)
              refine AO.yld _ (Yld.assign rfl) rfl rfl rfl ?_
              refine AO.nil ?_
              refine AC.seq ?_
              refine AC.seq ?_
              refine AC.region ?_
              refine AO.yld _ (Yld.move rfl) rfl rfl rfl ?_
              refine AO.yld _ (Yld.int rfl rfl rfl) rfl rfl rfl ?_
              refine AO.yld _ (Yld.move rfl) rfl rfl rfl ?_
              refine AO.splitAt 72 _ rfl (fun s72 => ?_) (fun s72 => ?_)
              · -- s72 True
                refine AO.skipF rfl rfl rfl rfl rfl ?_
                refine AO.skipF rfl rfl rfl rfl rfl ?_
                refine AO.skipF rfl rfl rfl rfl rfl ?_
                refine AO.skipF rfl rfl rfl rfl rfl ?_
                refine AO.yld _ (Yld.pickT rfl rfl) rfl rfl rfl ?_
                refine AO.yld _ (Yld.move rfl) rfl rfl rfl ?_
                refine AO.skipF rfl rfl rfl rfl rfl ?_
                refine AO.skipF rfl rfl rfl rfl rfl ?_
                refine AO.skipF rfl rfl rfl rfl rfl ?_
                refine AO.yld _ (Yld.pickT rfl rfl) rfl rfl rfl ?_
                refine AO.nil ?_
                refine AC.condT rfl ?_
                refine AC.seq ?_
                refine AC.region ?_
                refine AO.yld _ (Yld.assign rfl) rfl rfl rfl ?_
                refine AO.nil ?_
                refine Pure.ret Try.results3 (RVs.cons (RV.tmp rfl) RVs.nil) rfl ?_
                first | rfl | (simp_all; done) | (simp_all; intros; omega) | grind
              · -- s72 False
                refine AO.yldG _ (Yld.move rfl) rfl rfl rfl rfl rfl ?_
                refine AO.yldG _ (Yld.move rfl) rfl rfl rfl rfl rfl ?_
                refine AO.yldG _ (Yld.call rfl rfl Try.call11 rfl rfl rfl (laws_eqSettingS_c (by first | assumption | omega)) rfl) rfl rfl rfl rfl rfl ?_
                refine AO.yldG _ (Yld.not rfl) rfl rfl rfl rfl rfl ?_
                refine AO.yld _ (Yld.pickF rfl rfl) rfl rfl rfl ?_
                refine AO.yld _ (Yld.move rfl) rfl rfl rfl ?_
                refine AO.splitAt 78 _ rfl (fun s78 => ?_) (fun s78 => ?_)
                · -- s78 True
                  refine AO.skipF rfl rfl rfl rfl rfl ?_
                  refine AO.skipF rfl rfl rfl rfl rfl ?_
                  refine AO.skipF rfl rfl rfl rfl rfl ?_
                  refine AO.yld _ (Yld.pickT rfl rfl) rfl rfl rfl ?_
                  refine AO.nil ?_
                  refine AC.condT rfl ?_
                  refine AC.seq ?_
                  refine AC.region ?_
                  refine AO.yld _ (Yld.assign rfl) rfl rfl rfl ?_
                  refine AO.nil ?_
                  refine Pure.ret Try.results3 (RVs.cons (RV.tmp rfl) RVs.nil) rfl ?_
                  first | rfl | (simp_all; done) | (simp_all; intros; omega) | grind
                · -- s78 False
                  refine AO.yldG _ (Yld.move rfl) rfl rfl rfl rfl rfl ?_
                  refine AO.yldG _ (Yld.move rfl) rfl rfl rfl rfl rfl ?_
                  refine AO.yldG _ (Yld.int rfl rfl rfl) rfl rfl rfl rfl rfl ?_
                  refine AO.yld _ (Yld.pickF rfl rfl) rfl rfl rfl ?_
                  refine AO.nil ?_
                  refine AC.cond _ rfl (fun c82 => ?_) (fun c82 => ?_)
                  · -- c82 True
                    refine AC.seq ?_
                    refine AC.region ?_
                    refine AO.yld _ (Yld.assign rfl) rfl rfl rfl ?_
                    refine AO.nil ?_
                    refine Pure.ret Try.results3 (RVs.cons (RV.tmp rfl) RVs.nil) rfl ?_
                    first | rfl | (simp_all; done) | (simp_all; intros; omega) | grind
                  · -- c82 False
                    refine AC.skip ?_
                    refine AC.seq ?_
                    refine AC.region ?_
                    refine AO.yld _ (Yld.assign rfl) rfl rfl rfl ?_
                    refine AO.nil ?_
                    refine AC.seq ?_
                    refine AC.region ?_
                    refine AO.yld _ (Yld.move rfl) rfl rfl rfl ?_
                    refine AO.yld _ (Yld.move rfl) rfl rfl rfl ?_
                    refine AO.callW (wantedN rfl) [5] [0] [0] rfl rfl Try.call13 rfl (laws_markSettingS_c (by omega) (by omega) (by first | assumption | omega)) (.own rfl) rfl (fun _ => rfl) ⟨rfl, trivial⟩ rfl (fun _ => rfl) (fun _ => rfl) (fun _ _ => ?_)
                    refine AO.yld _ (Yld.assign rfl) rfl rfl rfl ?_
                    refine AO.nil ?_
                    refine AC.seq ?_
                    refine AC.region ?_
                    refine AO.yld _ (Yld.assign rfl) rfl rfl rfl ?_
                    refine AO.nil ?_
                    refine AC.seq ?_
                    refine AC.region ?_
                    refine AO.yld _ (Yld.move rfl) rfl rfl rfl ?_
                    refine AO.yld _ (Yld.move rfl) rfl rfl rfl ?_
                    refine AO.yld _ (Yld.call rfl rfl Try.call15 rfl rfl rfl (laws_heldSettingS_c (by omega) (by omega) (by first | assumption | omega)) rfl) rfl rfl rfl ?_
                    refine AO.yld _ (Yld.assign rfl) rfl rfl rfl ?_
                    refine AO.nil ?_
                    refine AC.seq ?_
                    refine AC.seq ?_
                    refine AC.region ?_
                    refine AO.yld _ (Yld.move rfl) rfl rfl rfl ?_
                    refine AO.yld _ (Yld.int rfl rfl rfl) rfl rfl rfl ?_
                    refine AO.nil ?_
                    refine AC.cond _ rfl (fun c90 => ?_) (fun c90 => ?_)
                    · -- c90 True
                      refine AC.seq ?_
                      refine AC.region ?_
                      refine AO.yld _ (Yld.assign rfl) rfl rfl rfl ?_
                      refine AO.nil ?_
                      refine Pure.ret Try.results3 (RVs.cons (RV.tmp rfl) RVs.nil) rfl ?_
                      first | rfl | (simp_all; done) | (simp_all; intros; omega) | grind
                    · -- c90 False
                      refine AC.skip ?_
                      refine AC.seq ?_
                      refine AC.seq ?_
                      refine AC.region ?_
                      refine AO.yld _ (Yld.move rfl) rfl rfl rfl ?_
                      refine AO.yld _ (Yld.move rfl) rfl rfl rfl ?_
                      refine AO.yld _ (Yld.int rfl rfl rfl) rfl rfl rfl ?_
                      refine AO.nil ?_
                      refine AC.cond _ rfl (fun c93 => ?_) (fun c93 => ?_)
                      · -- c93 True
                        refine AC.seq ?_
                        refine AC.region ?_
                        refine AO.yld _ (Yld.assign rfl) rfl rfl rfl ?_
                        refine AO.nil ?_
                        refine Pure.ret Try.results3 (RVs.cons (RV.tmp rfl) RVs.nil) rfl ?_
                        first | rfl | (simp_all; done) | (simp_all; intros; omega) | grind
                      · -- c93 False
                        refine AC.skip ?_
                        refine AC.seq ?_
                        refine AC.region ?_
                        refine AO.yld _ (Yld.move rfl) rfl rfl rfl ?_
                        refine AO.callMk 8 rfl rfl Try.call8 rfl rfl rfl (laws_toSettingS_c (by first | assumption | omega)) (by simp [AV.Flat, AV.FlatL, PV.Flat, PV.FlatL]) (flat_map flatNV _) rfl rfl ?_
                        refine AO.yld _ (Yld.move rfl) rfl rfl rfl ?_
                        refine AO.callMk 9 rfl rfl Try.call9 rfl rfl rfl (laws_toChangeS_c (by first | assumption | omega)) (by simp [AV.Flat, AV.FlatL, PV.Flat, PV.FlatL]) (flat_map flatChg _) rfl rfl ?_
                        refine AO.callW (wantedN rfl) [10] [] [0] rfl rfl Try.call10 rfl (impl_ApplyChanges_c (by first | assumption | omega) (by assumption) (by first | assumption | omega) (by assumption)) (.flat (.view rfl rfl (.view rfl rfl .nil)) (fun _ => by simp [AV.Flat, AV.FlatL, PV.Flat, PV.FlatL]) (fun _ => ⟨flat_map flatNV _, trivial⟩)) rfl (fun _ => rfl) trivial rfl (fun _ => rfl) (fun _ => rfl) (fun _ _ => ?_)
                        refine AO.yld _ (Yld.move rfl) rfl rfl rfl ?_
                        refine AO.yld _ (Yld.extract rfl rfl rfl) rfl rfl rfl ?_
                        refine AO.yld _ (Yld.extract rfl rfl rfl) rfl rfl rfl ?_
                        refine AO.yld _ (Yld.assign rfl) rfl rfl rfl ?_
                        refine AO.yld _ (Yld.assign rfl) rfl rfl rfl ?_
                        refine AO.nil ?_
                        refine AC.seq ?_
                        refine AC.seq ?_
                        refine AC.region ?_
                        refine AO.yld _ (Yld.move rfl) rfl rfl rfl ?_
                        refine AO.yld _ (Yld.move rfl) rfl rfl rfl ?_
                        refine AO.yld _ (Yld.call rfl rfl Try.call11 rfl rfl rfl (laws_eqSettingS_c (by first | assumption | omega)) rfl) rfl rfl rfl ?_
                        refine AO.yld _ (Yld.not rfl) rfl rfl rfl ?_
                        refine AO.yld _ (Yld.move rfl) rfl rfl rfl ?_
                        refine AO.splitAt 106 _ rfl (fun s106 => ?_) (fun s106 => ?_)
                        · -- s106 True
                          refine AO.skipF rfl rfl rfl rfl rfl ?_
                          refine AO.skipF rfl rfl rfl rfl rfl ?_
                          refine AO.skipF rfl rfl rfl rfl rfl ?_
                          refine AO.yld _ (Yld.pickT rfl rfl) rfl rfl rfl ?_
                          refine AO.nil ?_
                          refine AC.condT rfl ?_
                          refine AC.seq ?_
                          refine AC.region ?_
                          refine AO.yld _ (Yld.assign rfl) rfl rfl rfl ?_
                          refine AO.nil ?_
                          refine Pure.ret Try.results3 (RVs.cons (RV.tmp rfl) RVs.nil) rfl ?_
                          first | rfl | (simp_all; done) | (simp_all; intros; omega) | grind
                        · -- s106 False
                          refine AO.yldG _ (Yld.move rfl) rfl rfl rfl rfl rfl ?_
                          refine AO.yldG _ (Yld.move rfl) rfl rfl rfl rfl rfl ?_
                          refine AO.yldG _ (Yld.int rfl rfl rfl) rfl rfl rfl rfl rfl ?_
                          refine AO.yld _ (Yld.pickF rfl rfl) rfl rfl rfl ?_
                          refine AO.nil ?_
                          refine AC.cond _ rfl (fun c110 => ?_) (fun c110 => ?_)
                          · -- c110 True
                            refine AC.seq ?_
                            refine AC.region ?_
                            refine AO.yld _ (Yld.assign rfl) rfl rfl rfl ?_
                            refine AO.nil ?_
                            refine Pure.ret Try.results3 (RVs.cons (RV.tmp rfl) RVs.nil) rfl ?_
                            first | rfl | (simp_all; done) | (simp_all; intros; omega) | grind
                          · -- c110 False
                            refine AC.skip ?_
                            refine AC.seq ?_
                            refine AC.region ?_
                            refine AO.yld _ (Yld.assign rfl) rfl rfl rfl ?_
                            refine AO.nil ?_
                            refine AC.seq ?_
                            refine AC.region ?_
                            refine AO.yld _ (Yld.move rfl) rfl rfl rfl ?_
                            refine AO.yld _ (Yld.move rfl) rfl rfl rfl ?_
                            refine AO.yld _ (Yld.call rfl rfl Try.call15 rfl rfl rfl (laws_heldSettingS_c (by omega) (by omega) (by first | assumption | omega)) rfl) rfl rfl rfl ?_
                            refine AO.yld _ (Yld.assign rfl) rfl rfl rfl ?_
                            refine AO.nil ?_
                            refine AC.seq ?_
                            refine AC.seq ?_
                            refine AC.region ?_
                            refine AO.yld _ (Yld.move rfl) rfl rfl rfl ?_
                            refine AO.yld _ (Yld.int rfl rfl rfl) rfl rfl rfl ?_
                            refine AO.nil ?_
                            refine AC.cond _ rfl (fun c115 => ?_) (fun c115 => ?_)
                            · -- c115 True
                              refine AC.seq ?_
                              refine AC.region ?_
                              refine AO.yld _ (Yld.assign rfl) rfl rfl rfl ?_
                              refine AO.nil ?_
                              refine Pure.ret Try.results3 (RVs.cons (RV.tmp rfl) RVs.nil) rfl ?_
                              first | rfl | (simp_all; done) | (simp_all; intros; omega) | grind
                            · -- c115 False
                              refine AC.skip ?_
                              refine AC.seq ?_
                              refine AC.seq ?_
                              refine AC.region ?_
                              refine AO.yld _ (Yld.move rfl) rfl rfl rfl ?_
                              refine AO.yld _ (Yld.move rfl) rfl rfl rfl ?_
                              refine AO.yld _ (Yld.int rfl rfl rfl) rfl rfl rfl ?_
                              refine AO.nil ?_
                              refine AC.cond _ rfl (fun c118 => ?_) (fun c118 => ?_)
                              · -- c118 True
                                refine AC.seq ?_
                                refine AC.region ?_
                                refine AO.yld _ (Yld.assign rfl) rfl rfl rfl ?_
                                refine AO.nil ?_
                                refine Pure.ret Try.results3 (RVs.cons (RV.tmp rfl) RVs.nil) rfl ?_
                                first | rfl | (simp_all; done) | (simp_all; intros; omega) | grind
                              · -- c118 False
                                refine AC.skip ?_
                                refine AC.seq ?_
                                refine AC.region ?_
                                refine AO.yld _ (Yld.assign rfl) rfl rfl rfl ?_
                                refine AO.nil ?_
                                refine Pure.ret Try.results3 (RVs.cons (RV.tmp rfl) RVs.nil) rfl ?_
                                first | rfl | (simp_all; done) | (simp_all; intros; omega) | grind

end Go.Proofs.Ytdlpkfihjfmgeaa
