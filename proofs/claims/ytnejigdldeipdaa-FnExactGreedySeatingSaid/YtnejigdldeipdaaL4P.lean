/- Contracts of functions of the program, each by a walk of its text in the calculus V. -/
import Derived.Test.YtnejigdldeipdaaCC
set_option linter.all false
set_option linter.unusedSimpArgs false
set_option linter.unnecessarySimpa false
set_option linter.unusedVariables false
namespace Go.Proofs.Ytnejigdldeipdaa
open Go Go.V

theorem laws_FnExactGreedySeating_c {gs : List Group} (hb_gs : gs.length ≤ 9223372036854775807) (hs_gs : ∀ x ∈ gs, (x.name).length ≤ 9223372036854775807) {rs : List Int} (hb_rs : rs.length ≤ 9223372036854775807) :
    Pure Try.prog 5 [.sl 3 (gs.map encGroup), .sl 1 (rs.map encI)] (.v (.bool true)) := by
  have hfl9 : (greedyS gs rs).1.length ≤ 1048576 := by have := greedy_len gs rs; omega
  refine Pure.intro Try.func5 rfl Try.ntmps5 rfl rfl (fun w => ?_)
  refine AC.seq ?_
  refine AC.region ?_
  refine AO.yld _ (Yld.assign rfl) rfl rfl rfl ?_
  refine AO.nil ?_
  refine AC.seq ?_
  refine AC.seq ?_
  refine AC.region ?_
  refine AO.yld _ (Yld.move rfl) rfl rfl rfl ?_
  refine AO.yld _ (Yld.len Try.underlying23 rfl rfl) rfl rfl rfl ?_
  refine AO.yld _ (Yld.int rfl rfl rfl) rfl rfl rfl ?_
  refine AO.nil ?_
  refine AC.cond _ rfl (fun c19 => ?_) (fun c19 => ?_)
  · -- c19 True
    refine AC.seq ?_
    refine AC.region ?_
    refine AO.yld _ (Yld.assign rfl) rfl rfl rfl ?_
    refine AO.nil ?_
    refine Pure.ret Try.results5 (RVs.cons (RV.tmp rfl) RVs.nil) rfl ?_
    first | rfl | (simp_all; done) | (simp_all; intros; omega) | grind
  · -- c19 False
    have hlen_rs : rs.length ≤ 1048576 := by simp at c19; omega
    refine AC.skip ?_
    refine AC.seq ?_
    refine AC.region ?_
    refine AO.yld _ (Yld.assign rfl) rfl rfl rfl ?_
    refine AO.nil ?_
    refine AC.seq ?_
    refine AC.region ?_
    refine AO.yld _ (Yld.move rfl) rfl rfl rfl ?_
    refine AO.yld _ (Yld.move rfl) rfl rfl rfl ?_
    refine AO.yld _ (Yld.call rfl rfl Try.call8 rfl rfl rfl (laws_szGroupS_c (by omega) (by omega) (by first | assumption | omega) (by assumption)) rfl) rfl rfl rfl ?_
    refine AO.yld _ (Yld.assign rfl) rfl rfl rfl ?_
    refine AO.nil ?_
    refine AC.seq ?_
    refine AC.seq ?_
    refine AC.region ?_
    refine AO.yld _ (Yld.move rfl) rfl rfl rfl ?_
    refine AO.yld _ (Yld.int rfl rfl rfl) rfl rfl rfl ?_
    refine AO.nil ?_
    refine AC.cond _ rfl (fun c24 => ?_) (fun c24 => ?_)
    · -- c24 True
      refine AC.seq ?_
      refine AC.region ?_
      refine AO.yld _ (Yld.assign rfl) rfl rfl rfl ?_
      refine AO.nil ?_
      refine Pure.ret Try.results5 (RVs.cons (RV.tmp rfl) RVs.nil) rfl ?_
      first | rfl | (simp_all; done) | (simp_all; intros; omega) | grind
    · -- c24 False
      have hz_gs := szAll_ge c24
      have hp_gs := lens_nonneg (f := Group.name) (xs := gs)
      have hn_gs : gs.length ≤ 1048576 := by omega
      have ht_gs : ∀ x ∈ gs, (x.name).length ≤ 1048576 := fun x hx => by have := len_le_lens (f := Group.name) hx; omega
      refine AC.skip ?_
      refine AC.seq ?_
      refine AC.region ?_
      refine AO.yld _ (Yld.move rfl) rfl rfl rfl ?_
      refine AO.callMk 0 rfl rfl Try.call10 rfl rfl rfl (laws_toGroupS_c (by first | assumption | omega)) (by simp [AV.Flat, AV.FlatL, PV.Flat, PV.FlatL]) (flat_map flatGroup _) rfl rfl ?_
      refine AO.yld _ (Yld.move rfl) rfl rfl rfl ?_
      refine AO.callMk 1 rfl rfl Try.call11 rfl rfl rfl (laws_toInt64S_c (by first | assumption | omega)) (by simp [AV.Flat, AV.FlatL, PV.Flat, PV.FlatL]) (flat_map flatI _) rfl rfl ?_
      refine AO.callW (wantedN rfl) [2] [] [0] rfl rfl Try.call20 rfl (spec_GreedySeating_c (by first | assumption | omega) (by assumption) (by first | assumption | omega)) (.flat (.view rfl rfl (.view rfl rfl .nil)) (fun _ => by simp [AV.Flat, AV.FlatL, PV.Flat, PV.FlatL]) (fun _ => ⟨flat_map flatI _, trivial⟩)) rfl (fun _ => rfl) trivial rfl (fun _ => rfl) (fun _ => rfl) (fun _ _ => ?_)
      refine AO.yld _ (Yld.move rfl) rfl rfl rfl ?_
      refine AO.yld _ (Yld.extract rfl rfl rfl) rfl rfl rfl ?_
      refine AO.yld _ (Yld.extract rfl rfl rfl) rfl rfl rfl ?_
      refine AO.yld _ (Yld.assign rfl) rfl rfl rfl ?_
      refine AO.yld _ (Yld.assign rfl) rfl rfl rfl ?_
      refine AO.nil ?_
      refine AC.seq ?_
      refine AC.region ?_
      refine AO.yld _ (Yld.move rfl) rfl rfl rfl ?_
      refine AO.callMk 3 rfl rfl Try.call10 rfl rfl rfl (laws_toGroupS_c (by first | assumption | omega)) (by simp [AV.Flat, AV.FlatL, PV.Flat, PV.FlatL]) (flat_map flatGroup _) rfl rfl ?_
      refine AO.yld _ (Yld.assign rfl) rfl rfl rfl ?_
      refine AO.nil ?_
      refine AC.seq ?_
      refine AC.region ?_
      refine AO.yld _ (Yld.move rfl) rfl rfl rfl ?_
      refine AO.callMk 4 rfl rfl Try.call11 rfl rfl rfl (laws_toInt64S_c (by first | assumption | omega)) (by simp [AV.Flat, AV.FlatL, PV.Flat, PV.FlatL]) (flat_map flatI _) rfl rfl ?_
      refine AO.yld _ (Yld.assign rfl) rfl rfl rfl ?_
      refine AO.nil ?_
      refine AC.seq ?_
      refine AC.region ?_
      refine AO.yld _ (Yld.move rfl) rfl rfl rfl ?_
      refine AO.yld _ (Yld.move rfl) rfl rfl rfl ?_
      refine AO.callW (wantedN rfl) [5] [] [0] rfl rfl Try.call21 rfl (impl_GreedySeating_c (by first | assumption | omega) (by assumption) (by first | assumption | omega)) (.flat (.view rfl rfl (.view rfl rfl .nil)) (fun _ => by simp [AV.Flat, AV.FlatL, PV.Flat, PV.FlatL]) (fun _ => ⟨flat_map flatI _, trivial⟩)) rfl (fun _ => rfl) trivial rfl (fun _ => rfl) (fun _ => rfl) (fun _ _ => ?_)
      refine AO.yld _ (Yld.move rfl) rfl rfl rfl ?_
      refine AO.yld _ (Yld.extract rfl rfl rfl) rfl rfl rfl ?_
      refine AO.yld _ (Yld.extract rfl rfl rfl) rfl rfl rfl ?_
      refine AO.yld _ (Yld.assign rfl) rfl rfl rfl ?_
      refine AO.yld _ (Yld.assign rfl) rfl rfl rfl ?_
      refine AO.nil ?_
      refine AC.seq ?_
      refine AC.seq ?_
      refine AC.region ?_
      refine AO.yld _ (Yld.move rfl) rfl rfl rfl ?_
      refine AO.yld _ (Yld.move rfl) rfl rfl rfl ?_
      refine AO.yld _ (Yld.call rfl rfl Try.call13 rfl rfl rfl (laws_eqInt64S_c (by first | assumption | omega)) rfl) rfl rfl rfl ?_
      refine AO.yld _ (Yld.not rfl) rfl rfl rfl ?_
      refine AO.yld _ (Yld.move rfl) rfl rfl rfl ?_
      refine AO.splitAt 47 _ rfl (fun s47 => ?_) (fun s47 => ?_)
      · -- s47 True
        refine AO.skipF rfl rfl rfl rfl rfl ?_
        refine AO.skipF rfl rfl rfl rfl rfl ?_
        refine AO.skipF rfl rfl rfl rfl rfl ?_
        refine AO.yld _ (Yld.pickT rfl rfl) rfl rfl rfl ?_
        refine AO.nil ?_
        refine AC.condT rfl ?_
        refine AC.seq ?_
        refine AC.region ?_
        refine AO.yld _ (Yld.assign rfl) rfl rfl rfl ?_
        refine AO.nil ?_
        refine Pure.ret Try.results5 (RVs.cons (RV.tmp rfl) RVs.nil) rfl ?_
        first | rfl | (simp_all; done) | (simp_all; intros; omega) | grind
      · -- s47 False
        refine AO.yldG _ (Yld.move rfl) rfl rfl rfl rfl rfl ?_
        refine AO.yldG _ (Yld.move rfl) rfl rfl rfl rfl rfl ?_
        refine AO.yldG _ (Yld.int rfl rfl rfl) rfl rfl rfl rfl rfl ?_
        refine AO.yld _ (Yld.pickF rfl rfl) rfl rfl rfl ?_
        refine AO.nil ?_
        refine AC.cond _ rfl (fun c51 => ?_) (fun c51 => ?_)
        · -- c51 True
          refine AC.seq ?_
          refine AC.region ?_
          refine AO.yld _ (Yld.assign rfl) rfl rfl rfl ?_
          refine AO.nil ?_
          refine Pure.ret Try.results5 (RVs.cons (RV.tmp rfl) RVs.nil) rfl ?_
          first | rfl | (simp_all; done) | (simp_all; intros; omega) | grind
        · -- c51 False
          refine AC.skip ?_
          refine AC.seq ?_
          refine AC.seq ?_
          refine AC.region ?_
          refine AO.yld _ (Yld.move rfl) rfl rfl rfl ?_
          refine AO.yld _ (Yld.move rfl) rfl rfl rfl ?_
          refine AO.callMk 6 rfl rfl Try.call10 rfl rfl rfl (laws_toGroupS_c (by first | assumption | omega)) (by simp [AV.Flat, AV.FlatL, PV.Flat, PV.FlatL]) (flat_map flatGroup _) rfl rfl ?_
          refine AO.yld _ (Yld.call rfl rfl Try.call14 rfl rfl rfl (laws_eqGroupS_c (by first | assumption | omega)) rfl) rfl rfl rfl ?_
          refine AO.yld _ (Yld.not rfl) rfl rfl rfl ?_
          refine AO.nil ?_
          refine AC.cond _ rfl (fun c56 => ?_) (fun c56 => ?_)
          · -- c56 True
            refine AC.seq ?_
            refine AC.region ?_
            refine AO.yld _ (Yld.assign rfl) rfl rfl rfl ?_
            refine AO.nil ?_
            refine Pure.ret Try.results5 (RVs.cons (RV.tmp rfl) RVs.nil) rfl ?_
            first | rfl | (simp_all; done) | (simp_all; intros; omega) | grind
          · -- c56 False
            refine AC.skip ?_
            refine AC.seq ?_
            refine AC.seq ?_
            refine AC.region ?_
            refine AO.yld _ (Yld.move rfl) rfl rfl rfl ?_
            refine AO.yld _ (Yld.move rfl) rfl rfl rfl ?_
            refine AO.callMk 7 rfl rfl Try.call11 rfl rfl rfl (laws_toInt64S_c (by first | assumption | omega)) (by simp [AV.Flat, AV.FlatL, PV.Flat, PV.FlatL]) (flat_map flatI _) rfl rfl ?_
            refine AO.yld _ (Yld.call rfl rfl Try.call13 rfl rfl rfl (laws_eqInt64S_c (by first | assumption | omega)) rfl) rfl rfl rfl ?_
            refine AO.yld _ (Yld.not rfl) rfl rfl rfl ?_
            refine AO.nil ?_
            refine AC.cond _ rfl (fun c61 => ?_) (fun c61 => ?_)
            · -- c61 True
              refine AC.seq ?_
              refine AC.region ?_
              refine AO.yld _ (Yld.assign rfl) rfl rfl rfl ?_
              refine AO.nil ?_
              refine Pure.ret Try.results5 (RVs.cons (RV.tmp rfl) RVs.nil) rfl ?_
              first | rfl | (simp_all; done) | (simp_all; intros; omega) | grind
            · -- c61 False
              refine AC.skip ?_
              refine AC.seq ?_
              refine AC.region ?_
              refine AO.yld _ (Yld.assign rfl) rfl rfl rfl ?_
              refine AO.nil ?_
              refine AC.seq ?_
              refine AC.region ?_
              refine AO.yld _ (Yld.move rfl) rfl rfl rfl ?_
              refine AO.yld _ (Yld.move rfl) rfl rfl rfl ?_
              refine AO.callW (wantedN rfl) [3] [0] [0] rfl rfl Try.call15 rfl (laws_markGroupS_c (by omega) (by omega) (by first | assumption | omega)) (.own rfl) rfl (fun _ => rfl) ⟨rfl, trivial⟩ rfl (fun _ => rfl) (fun _ => rfl) (fun _ _ => ?_)
              refine AO.yld _ (Yld.assign rfl) rfl rfl rfl ?_
              refine AO.nil ?_
              refine AC.seq ?_
              refine AC.region ?_
              refine AO.yld _ (Yld.move rfl) rfl rfl rfl ?_
              refine AO.yld _ (Yld.move rfl) rfl rfl rfl ?_
              refine AO.callW (wantedN rfl) [4] [0] [0] rfl rfl Try.call16 rfl (laws_markInt64S_c (by omega) (by omega) (by first | assumption | omega)) (.own rfl) rfl (fun _ => rfl) ⟨rfl, trivial⟩ rfl (fun _ => rfl) (fun _ => rfl) (fun _ _ => ?_)
              refine AO.yld _ (Yld.assign rfl) rfl rfl rfl ?_
              refine AO.nil ?_
              refine AC.seq ?_
              refine AC.seq ?_
              refine AC.region ?_
              refine AO.yld _ (Yld.move rfl) rfl rfl rfl ?_
              refine AO.yld _ (Yld.int rfl rfl rfl) rfl rfl rfl ?_
              refine AO.yld _ (Yld.move rfl) rfl rfl rfl ?_
              refine AO.splitAt 70 _ rfl (fun s70 => ?_) (fun s70 => ?_)
              · -- s70 True
                refine AO.skipF rfl rfl rfl rfl rfl ?_
                refine AO.skipF rfl rfl rfl rfl rfl ?_
                refine AO.skipF rfl rfl rfl rfl rfl ?_
                refine AO.skipF rfl rfl rfl rfl rfl ?_
                refine AO.yld _ (Yld.pickT rfl rfl) rfl rfl rfl ?_
                refine AO.yld _ (Yld.move rfl) rfl rfl rfl ?_
                refine AO.skipF rfl rfl rfl rfl rfl ?_
                refine AO.skipF rfl rfl rfl rfl rfl ?_
                refine AO.skipF rfl rfl rfl rfl rfl ?_
                refine AO.yld _ (Yld.pickT rfl rfl) rfl rfl rfl ?_
                refine AO.nil ?_
                refine AC.condT rfl ?_
                refine AC.seq ?_
                refine AC.region ?_
                refine AO.yld _ (Yld.assign rfl) rfl rfl rfl ?_
                refine AO.nil ?_
                refine Pure.ret Try.results5 (RVs.cons (RV.tmp rfl) RVs.nil) rfl ?_
                first | rfl | (simp_all; done) | (simp_all; intros; omega) | grind
              · -- s70 False
                refine AO.yldG _ (Yld.move rfl) rfl rfl rfl rfl rfl ?_
                refine AO.yldG _ (Yld.move rfl) rfl rfl rfl rfl rfl ?_
                refine AO.yldG _ (Yld.call rfl rfl Try.call13 rfl rfl rfl (laws_eqInt64S_c (by first | assumption | omega)) rfl) rfl rfl rfl rfl rfl ?_
                refine AO.yldG _ (Yld.not rfl) rfl rfl rfl rfl rfl ?_
                refine AO.yld _ (Yld.pickF rfl rfl) rfl rfl rfl ?_
                refine AO.yld _ (Yld.move rfl) rfl rfl rfl ?_
                refine AO.splitAt 76 _ rfl (fun s76 => ?_) (fun s76 => ?_)
                · -- s76 True
                  refine AO.skipF rfl rfl rfl rfl rfl ?_
                  refine AO.skipF rfl rfl rfl rfl rfl ?_
                  refine AO.skipF rfl rfl rfl rfl rfl ?_
                  refine AO.yld _ (Yld.pickT rfl rfl) rfl rfl rfl ?_
                  refine AO.nil ?_
                  refine AC.condT rfl ?_
                  refine AC.seq ?_
                  refine AC.region ?_
                  refine AO.yld _ (Yld.assign rfl) rfl rfl rfl ?_
                  refine AO.nil ?_
                  refine Pure.ret Try.results5 (RVs.cons (RV.tmp rfl) RVs.nil) rfl ?_
                  first | rfl | (simp_all; done) | (simp_all; intros; omega) | grind
                · -- s76 False
                  refine AO.yldG _ (Yld.move rfl) rfl rfl rfl rfl rfl ?_
                  refine AO.yldG _ (Yld.move rfl) rfl rfl rfl rfl rfl ?_
                  refine AO.yldG _ (Yld.int rfl rfl rfl) rfl rfl rfl rfl rfl ?_
                  refine AO.yld _ (Yld.pickF rfl rfl) rfl rfl rfl ?_
                  refine AO.nil ?_
                  refine AC.cond _ rfl (fun c80 => ?_) (fun c80 => ?_)
                  · -- c80 True
                    refine AC.seq ?_
                    refine AC.region ?_
                    refine AO.yld _ (Yld.assign rfl) rfl rfl rfl ?_
                    refine AO.nil ?_
                    refine Pure.ret Try.results5 (RVs.cons (RV.tmp rfl) RVs.nil) rfl ?_
                    first | rfl | (simp_all; done) | (simp_all; intros; omega) | grind
                  · -- c80 False
                    refine AC.skip ?_
                    refine AC.seq ?_
                    refine AC.region ?_
                    refine AO.yld _ (Yld.assign rfl) rfl rfl rfl ?_
                    refine AO.nil ?_
                    refine AC.seq ?_
                    refine AC.region ?_
                    refine AO.yld _ (Yld.move rfl) rfl rfl rfl ?_
                    refine AO.yld _ (Yld.move rfl) rfl rfl rfl ?_
                    refine AO.callW (wantedN rfl) [5] [0] [0] rfl rfl Try.call16 rfl (laws_markInt64S_c (by omega) (by omega) (by first | assumption | omega)) (.own rfl) rfl (fun _ => rfl) ⟨rfl, trivial⟩ rfl (fun _ => rfl) (fun _ => rfl) (fun _ _ => ?_)
                    refine AO.yld _ (Yld.assign rfl) rfl rfl rfl ?_
                    refine AO.nil ?_
                    refine AC.seq ?_
                    refine AC.region ?_
                    refine AO.yld _ (Yld.assign rfl) rfl rfl rfl ?_
                    refine AO.nil ?_
                    refine AC.seq ?_
                    refine AC.region ?_
                    refine AO.yld _ (Yld.move rfl) rfl rfl rfl ?_
                    refine AO.yld _ (Yld.move rfl) rfl rfl rfl ?_
                    refine AO.yld _ (Yld.call rfl rfl Try.call17 rfl rfl rfl (laws_heldInt64S_c (by omega) (by omega) (by first | assumption | omega)) rfl) rfl rfl rfl ?_
                    refine AO.yld _ (Yld.assign rfl) rfl rfl rfl ?_
                    refine AO.nil ?_
                    refine AC.seq ?_
                    refine AC.seq ?_
                    refine AC.region ?_
                    refine AO.yld _ (Yld.move rfl) rfl rfl rfl ?_
                    refine AO.yld _ (Yld.int rfl rfl rfl) rfl rfl rfl ?_
                    refine AO.nil ?_
                    refine AC.cond _ rfl (fun c88 => ?_) (fun c88 => ?_)
                    · -- c88 True
                      refine AC.seq ?_
                      refine AC.region ?_
                      refine AO.yld _ (Yld.assign rfl) rfl rfl rfl ?_
                      refine AO.nil ?_
                      refine Pure.ret Try.results5 (RVs.cons (RV.tmp rfl) RVs.nil) rfl ?_
                      first | rfl | (simp_all; done) | (simp_all; intros; omega) | grind
                    · -- c88 False
                      refine AC.skip ?_
                      refine AC.seq ?_
                      refine AC.seq ?_
                      refine AC.region ?_
                      refine AO.yld _ (Yld.move rfl) rfl rfl rfl ?_
                      refine AO.yld _ (Yld.move rfl) rfl rfl rfl ?_
                      refine AO.yld _ (Yld.int rfl rfl rfl) rfl rfl rfl ?_
                      refine AO.nil ?_
                      refine AC.cond _ rfl (fun c91 => ?_) (fun c91 => ?_)
                      · -- c91 True
                        refine AC.seq ?_
                        refine AC.region ?_
                        refine AO.yld _ (Yld.assign rfl) rfl rfl rfl ?_
                        refine AO.nil ?_
                        refine Pure.ret Try.results5 (RVs.cons (RV.tmp rfl) RVs.nil) rfl ?_
                        first | rfl | (simp_all; done) | (simp_all; intros; omega) | grind
                      · -- c91 False
                        refine AC.skip ?_
                        refine AC.seq ?_
                        refine AC.region ?_
                        refine AO.yld _ (Yld.move rfl) rfl rfl rfl ?_
                        refine AO.callMk 8 rfl rfl Try.call10 rfl rfl rfl (laws_toGroupS_c (by first | assumption | omega)) (by simp [AV.Flat, AV.FlatL, PV.Flat, PV.FlatL]) (flat_map flatGroup _) rfl rfl ?_
                        refine AO.yld _ (Yld.move rfl) rfl rfl rfl ?_
                        refine AO.callMk 9 rfl rfl Try.call11 rfl rfl rfl (laws_toInt64S_c (by first | assumption | omega)) (by simp [AV.Flat, AV.FlatL, PV.Flat, PV.FlatL]) (flat_map flatI _) rfl rfl ?_
                        refine AO.callW (wantedN rfl) [10] [] [0] rfl rfl Try.call21 rfl (impl_GreedySeating_c (by first | assumption | omega) (by assumption) (by first | assumption | omega)) (.flat (.view rfl rfl (.view rfl rfl .nil)) (fun _ => by simp [AV.Flat, AV.FlatL, PV.Flat, PV.FlatL]) (fun _ => ⟨flat_map flatI _, trivial⟩)) rfl (fun _ => rfl) trivial rfl (fun _ => rfl) (fun _ => rfl) (fun _ _ => ?_)
                        refine AO.yld _ (Yld.move rfl) rfl rfl rfl ?_
                        refine AO.yld _ (Yld.extract rfl rfl rfl) rfl rfl rfl ?_
                        refine AO.yld _ (Yld.extract rfl rfl rfl) rfl rfl rfl ?_
                        refine AO.yld _ (Yld.assign rfl) rfl rfl rfl ?_
                        refine AO.yld _ (Yld.assign rfl) rfl rfl rfl ?_
                        refine AO.nil ?_
                        refine AC.seq ?_
                        refine AC.seq ?_
                        refine AC.region ?_
                        refine AO.yld _ (Yld.move rfl) rfl rfl rfl ?_
                        refine AO.yld _ (Yld.move rfl) rfl rfl rfl ?_
                        refine AO.yld _ (Yld.call rfl rfl Try.call13 rfl rfl rfl (laws_eqInt64S_c (by first | assumption | omega)) rfl) rfl rfl rfl ?_
                        refine AO.yld _ (Yld.not rfl) rfl rfl rfl ?_
                        refine AO.yld _ (Yld.move rfl) rfl rfl rfl ?_
                        refine AO.splitAt 104 _ rfl (fun s104 => ?_) (fun s104 => ?_)
                        · -- s104 True
                          refine AO.skipF rfl rfl rfl rfl rfl ?_
                          refine AO.skipF rfl rfl rfl rfl rfl ?_
                          refine AO.skipF rfl rfl rfl rfl rfl ?_
                          refine AO.yld _ (Yld.pickT rfl rfl) rfl rfl rfl ?_
                          refine AO.nil ?_
                          refine AC.condT rfl ?_
                          refine AC.seq ?_
                          refine AC.region ?_
                          refine AO.yld _ (Yld.assign rfl) rfl rfl rfl ?_
                          refine AO.nil ?_
                          refine Pure.ret Try.results5 (RVs.cons (RV.tmp rfl) RVs.nil) rfl ?_
                          first | rfl | (simp_all; done) | (simp_all; intros; omega) | grind
                        · -- s104 False
                          refine AO.yldG _ (Yld.move rfl) rfl rfl rfl rfl rfl ?_
                          refine AO.yldG _ (Yld.move rfl) rfl rfl rfl rfl rfl ?_
                          refine AO.yldG _ (Yld.int rfl rfl rfl) rfl rfl rfl rfl rfl ?_
                          refine AO.yld _ (Yld.pickF rfl rfl) rfl rfl rfl ?_
                          refine AO.nil ?_
                          refine AC.cond _ rfl (fun c108 => ?_) (fun c108 => ?_)
                          · -- c108 True
                            refine AC.seq ?_
                            refine AC.region ?_
                            refine AO.yld _ (Yld.assign rfl) rfl rfl rfl ?_
                            refine AO.nil ?_
                            refine Pure.ret Try.results5 (RVs.cons (RV.tmp rfl) RVs.nil) rfl ?_
                            first | rfl | (simp_all; done) | (simp_all; intros; omega) | grind
                          · -- c108 False
                            refine AC.skip ?_
                            refine AC.seq ?_
                            refine AC.region ?_
                            refine AO.yld _ (Yld.assign rfl) rfl rfl rfl ?_
                            refine AO.nil ?_
                            refine AC.seq ?_
                            refine AC.region ?_
                            refine AO.yld _ (Yld.move rfl) rfl rfl rfl ?_
                            refine AO.yld _ (Yld.move rfl) rfl rfl rfl ?_
                            refine AO.yld _ (Yld.call rfl rfl Try.call17 rfl rfl rfl (laws_heldInt64S_c (by omega) (by omega) (by first | assumption | omega)) rfl) rfl rfl rfl ?_
                            refine AO.yld _ (Yld.assign rfl) rfl rfl rfl ?_
                            refine AO.nil ?_
                            refine AC.seq ?_
                            refine AC.seq ?_
                            refine AC.region ?_
                            refine AO.yld _ (Yld.move rfl) rfl rfl rfl ?_
                            refine AO.yld _ (Yld.int rfl rfl rfl) rfl rfl rfl ?_
                            refine AO.nil ?_
                            refine AC.cond _ rfl (fun c113 => ?_) (fun c113 => ?_)
                            · -- c113 True
                              refine AC.seq ?_
                              refine AC.region ?_
                              refine AO.yld _ (Yld.assign rfl) rfl rfl rfl ?_
                              refine AO.nil ?_
                              refine Pure.ret Try.results5 (RVs.cons (RV.tmp rfl) RVs.nil) rfl ?_
                              first | rfl | (simp_all; done) | (simp_all; intros; omega) | grind
                            · -- c113 False
                              refine AC.skip ?_
                              refine AC.seq ?_
                              refine AC.seq ?_
                              refine AC.region ?_
                              refine AO.yld _ (Yld.move rfl) rfl rfl rfl ?_
                              refine AO.yld _ (Yld.move rfl) rfl rfl rfl ?_
                              refine AO.yld _ (Yld.int rfl rfl rfl) rfl rfl rfl ?_
                              refine AO.nil ?_
                              refine AC.cond _ rfl (fun c116 => ?_) (fun c116 => ?_)
                              · -- c116 True
                                refine AC.seq ?_
                                refine AC.region ?_
                                refine AO.yld _ (Yld.assign rfl) rfl rfl rfl ?_
                                refine AO.nil ?_
                                refine Pure.ret Try.results5 (RVs.cons (RV.tmp rfl) RVs.nil) rfl ?_
                                first | rfl | (simp_all; done) | (simp_all; intros; omega) | grind
                              · -- c116 False
                                refine AC.skip ?_
                                refine AC.seq ?_
                                refine AC.region ?_
                                refine AO.yld _ (Yld.assign rfl) rfl rfl rfl ?_
                                refine AO.nil ?_
                                refine Pure.ret Try.results5 (RVs.cons (RV.tmp rfl) RVs.nil) rfl ?_
                                first | rfl | (simp_all; done) | (simp_all; intros; omega) | grind

end Go.Proofs.Ytnejigdldeipdaa
