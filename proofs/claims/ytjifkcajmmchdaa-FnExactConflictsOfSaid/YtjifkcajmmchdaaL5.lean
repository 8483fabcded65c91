/- Contracts of functions of the program, each by a walk of its text in the calculus V. -/
import Derived.Test.YtjifkcajmmchdaaR5B
set_option linter.all false
set_option linter.unusedSimpArgs false
set_option linter.unnecessarySimpa false
set_option linter.unusedVariables false
namespace Go.Proofs.Ytjifkcajmmchdaa
open Go Go.V

theorem laws_FnExactConflictsOf_c {base : List NV} (hb_base : base.length ≤ 9223372036854775807) (hs_base : ∀ x ∈ base, (x.name).length ≤ 9223372036854775807) {a : List NV} (hb_a : a.length ≤ 9223372036854775807) (hs_a : ∀ x ∈ a, (x.name).length ≤ 9223372036854775807) {b : List NV} (hb_b : b.length ≤ 9223372036854775807) (hs_b : ∀ x ∈ b, (x.name).length ≤ 9223372036854775807) :
    Pure Try.prog 4 [.sl 2 (base.map encNV), .sl 2 (a.map encNV), .sl 2 (b.map encNV)] (.v (.bool true)) := by
  have hl9 := confOf_len base a b
  refine Pure.intro Try.func4 rfl Try.ntmps4 rfl rfl (fun w => ?_)
  refine AC.seq ?_
  refine AC.region ?_
  refine AO.yld _ (Yld.assign rfl) rfl rfl rfl ?_
  refine AO.nil ?_
  refine AC.seq ?_
  refine AC.region ?_
  refine AO.yld _ (Yld.assign rfl) rfl rfl rfl ?_
  refine AO.nil ?_
  refine AC.seq ?_
  refine AC.region ?_
  refine AO.yld _ (Yld.move rfl) rfl rfl rfl ?_
  refine AO.yld _ (Yld.move rfl) rfl rfl rfl ?_
  refine AO.yld _ (Yld.call rfl rfl Try.call8 rfl rfl rfl (laws_szSettingS_c (by omega) (by omega) (by first | assumption | omega) (by assumption)) rfl) rfl rfl rfl ?_
  refine AO.yld _ (Yld.assign rfl) rfl rfl rfl ?_
  refine AO.nil ?_
  refine AC.seq ?_
  refine AC.seq ?_
  refine AC.region ?_
  refine AO.yld _ (Yld.move rfl) rfl rfl rfl ?_
  refine AO.yld _ (Yld.int rfl rfl rfl) rfl rfl rfl ?_
  refine AO.nil ?_
  refine AC.cond _ rfl (fun c24 => ?_) (fun c24 => ?_)
  · -- c24 True
    refine AC.seq ?_
    refine AC.region ?_
    refine AO.yld _ (Yld.assign rfl) rfl rfl rfl ?_
    refine AO.nil ?_
    refine Pure.ret Try.results4 (RVs.cons (RV.tmp rfl) RVs.nil) rfl ?_
    first | rfl | (simp_all; done) | (simp_all; intros; omega) | grind
  · -- c24 False
    have hz_base := szAll_ge c24
    have hp_base := lens_nonneg (f := NV.name) (xs := base)
    have hn_base : base.length ≤ 1048576 := by omega
    have ht_base : ∀ x ∈ base, (x.name).length ≤ 1048576 := fun x hx => by have := len_le_lens (f := NV.name) hx; omega
    refine AC.skip ?_
    refine AC.seq ?_
    refine AC.region ?_
    refine AO.yld _ (Yld.move rfl) rfl rfl rfl ?_
    refine AO.yld _ (Yld.move rfl) rfl rfl rfl ?_
    refine AO.yld _ (Yld.call rfl rfl Try.call8 rfl rfl rfl (laws_szSettingS_c (by omega) (by omega) (by first | assumption | omega) (by assumption)) rfl) rfl rfl rfl ?_
    refine AO.yld _ (Yld.assign rfl) rfl rfl rfl ?_
    refine AO.nil ?_
    refine AC.seq ?_
    refine AC.seq ?_
    refine AC.region ?_
    refine AO.yld _ (Yld.move rfl) rfl rfl rfl ?_
    refine AO.yld _ (Yld.int rfl rfl rfl) rfl rfl rfl ?_
    refine AO.nil ?_
    refine AC.cond _ rfl (fun c29 => ?_) (fun c29 => ?_)
    · -- c29 True
      refine AC.seq ?_
      refine AC.region ?_
      refine AO.yld _ (Yld.assign rfl) rfl rfl rfl ?_
      refine AO.nil ?_
      refine Pure.ret Try.results4 (RVs.cons (RV.tmp rfl) RVs.nil) rfl ?_
      first | rfl | (simp_all; done) | (simp_all; intros; omega) | grind
    · -- c29 False
      have hz_a := szAll_ge c29
      have hp_a := lens_nonneg (f := NV.name) (xs := a)
      have hn_a : a.length ≤ 1048576 := by omega
      have ht_a : ∀ x ∈ a, (x.name).length ≤ 1048576 := fun x hx => by have := len_le_lens (f := NV.name) hx; omega
      refine AC.skip ?_
      refine AC.seq ?_
      refine AC.region ?_
      refine AO.yld _ (Yld.move rfl) rfl rfl rfl ?_
      refine AO.yld _ (Yld.move rfl) rfl rfl rfl ?_
      refine AO.yld _ (Yld.call rfl rfl Try.call8 rfl rfl rfl (laws_szSettingS_c (by omega) (by omega) (by first | assumption | omega) (by assumption)) rfl) rfl rfl rfl ?_
      refine AO.yld _ (Yld.assign rfl) rfl rfl rfl ?_
      refine AO.nil ?_
      refine AC.seq ?_
      refine AC.seq ?_
      refine AC.region ?_
      refine AO.yld _ (Yld.move rfl) rfl rfl rfl ?_
      refine AO.yld _ (Yld.int rfl rfl rfl) rfl rfl rfl ?_
      refine AO.nil ?_
      refine AC.cond _ rfl (fun c34 => ?_) (fun c34 => ?_)
      · -- c34 True
        refine AC.seq ?_
        refine AC.region ?_
        refine AO.yld _ (Yld.assign rfl) rfl rfl rfl ?_
        refine AO.nil ?_
        refine Pure.ret Try.results4 (RVs.cons (RV.tmp rfl) RVs.nil) rfl ?_
        first | rfl | (simp_all; done) | (simp_all; intros; omega) | grind
      · -- c34 False
        have hz_b := szAll_ge c34
        have hp_b := lens_nonneg (f := NV.name) (xs := b)
        have hn_b : b.length ≤ 1048576 := by omega
        have ht_b : ∀ x ∈ b, (x.name).length ≤ 1048576 := fun x hx => by have := len_le_lens (f := NV.name) hx; omega
        refine AC.skip ?_
        refine AC.seq ?_
        refine AC.region ?_
        refine AO.yld _ (Yld.move rfl) rfl rfl rfl ?_
        refine AO.callMk 0 rfl rfl Try.call10 rfl rfl rfl (laws_toSettingS_c (by first | assumption | omega)) (by simp [AV.Flat, AV.FlatL, PV.Flat, PV.FlatL]) (flat_map flatNV _) rfl rfl ?_
        refine AO.yld _ (Yld.move rfl) rfl rfl rfl ?_
        refine AO.callMk 1 rfl rfl Try.call10 rfl rfl rfl (laws_toSettingS_c (by first | assumption | omega)) (by simp [AV.Flat, AV.FlatL, PV.Flat, PV.FlatL]) (flat_map flatNV _) rfl rfl ?_
        refine AO.yld _ (Yld.move rfl) rfl rfl rfl ?_
        refine AO.callMk 2 rfl rfl Try.call10 rfl rfl rfl (laws_toSettingS_c (by first | assumption | omega)) (by simp [AV.Flat, AV.FlatL, PV.Flat, PV.FlatL]) (flat_map flatNV _) rfl rfl ?_
        refine AO.callW (wantedN rfl) [3] [] [0] rfl rfl Try.call15 rfl (spec_ConflictsOf_c (by first | assumption | omega) (by first | assumption | omega) (by first | assumption | omega) (by assumption) (by assumption) (by assumption)) (.flat (.view rfl rfl (.view rfl rfl (.view rfl rfl .nil))) (fun _ => by simp [AV.Flat, AV.FlatL, PV.Flat, PV.FlatL]) (fun _ => ⟨flat_map flatS _, trivial⟩)) rfl (fun _ => rfl) trivial rfl (fun _ => rfl) (fun _ => rfl) (fun _ _ => ?_)
        refine AO.yld _ (Yld.move rfl) rfl rfl rfl ?_
        refine AO.yld _ (Yld.extract rfl rfl rfl) rfl rfl rfl ?_
        refine AO.yld _ (Yld.extract rfl rfl rfl) rfl rfl rfl ?_
        refine AO.yld _ (Yld.assign rfl) rfl rfl rfl ?_
        refine AO.yld _ (Yld.assign rfl) rfl rfl rfl ?_
        refine AO.nil ?_
        refine AC.seq ?_
        refine AC.region ?_
        refine AO.yld _ (Yld.move rfl) rfl rfl rfl ?_
        refine AO.callMk 4 rfl rfl Try.call10 rfl rfl rfl (laws_toSettingS_c (by first | assumption | omega)) (by simp [AV.Flat, AV.FlatL, PV.Flat, PV.FlatL]) (flat_map flatNV _) rfl rfl ?_
        refine AO.yld _ (Yld.assign rfl) rfl rfl rfl ?_
        refine AO.nil ?_
        refine AC.seq ?_
        refine AC.region ?_
        refine AO.yld _ (Yld.move rfl) rfl rfl rfl ?_
        refine AO.callMk 5 rfl rfl Try.call10 rfl rfl rfl (laws_toSettingS_c (by first | assumption | omega)) (by simp [AV.Flat, AV.FlatL, PV.Flat, PV.FlatL]) (flat_map flatNV _) rfl rfl ?_
        refine AO.yld _ (Yld.assign rfl) rfl rfl rfl ?_
        refine AO.nil ?_
        refine AC.seq ?_
        refine AC.region ?_
        refine AO.yld _ (Yld.move rfl) rfl rfl rfl ?_
        refine AO.callMk 6 rfl rfl Try.call10 rfl rfl rfl (laws_toSettingS_c (by first | assumption | omega)) (by simp [AV.Flat, AV.FlatL, PV.Flat, PV.FlatL]) (flat_map flatNV _) rfl rfl ?_
        refine AO.yld _ (Yld.assign rfl) rfl rfl rfl ?_
        refine AO.nil ?_
        refine AC.seq ?_
        refine AC.region ?_
        refine AO.yld _ (Yld.move rfl) rfl rfl rfl ?_
        refine AO.yld _ (Yld.move rfl) rfl rfl rfl ?_
        refine AO.yld _ (Yld.move rfl) rfl rfl rfl ?_
        refine AO.callW (wantedN rfl) [7] [] [0] rfl rfl Try.call16 rfl (impl_ConflictsOf_c (by first | assumption | omega) (by first | assumption | omega) (by first | assumption | omega) (by assumption) (by assumption) (by assumption)) (.flat (.view rfl rfl (.view rfl rfl (.view rfl rfl .nil))) (fun _ => by simp [AV.Flat, AV.FlatL, PV.Flat, PV.FlatL]) (fun _ => ⟨flat_map flatS _, trivial⟩)) rfl (fun _ => rfl) trivial rfl (fun _ => rfl) (fun _ => rfl) (fun _ _ => ?_)
        refine AO.yld _ (Yld.move rfl) rfl rfl rfl ?_
        refine AO.yld _ (Yld.extract rfl rfl rfl) rfl rfl rfl ?_
        refine AO.yld _ (Yld.extract rfl rfl rfl) rfl rfl rfl ?_
        refine AO.yld _ (Yld.assign rfl) rfl rfl rfl ?_
        refine AO.yld _ (Yld.assign rfl) rfl rfl rfl ?_
        refine AO.nil ?_
        refine AC.seq ?_
        refine AC.seq ?_
        refine AC.region ?_
        refine AO.yld _ (Yld.move rfl) rfl rfl rfl ?_
        refine AO.yld _ (Yld.move rfl) rfl rfl rfl ?_
        refine AO.yld _ (Yld.call rfl rfl Try.call17 rfl rfl rfl (laws_eqStringS_c (by first | assumption | omega)) rfl) rfl rfl rfl ?_
        refine AO.yld _ (Yld.not rfl) rfl rfl rfl ?_
        refine AO.yld _ (Yld.move rfl) rfl rfl rfl ?_
        refine AO.splitAt 62 _ rfl (fun s62 => ?_) (fun s62 => ?_)
        · -- s62 True
          refine AO.skipF rfl rfl rfl rfl rfl ?_
          refine AO.skipF rfl rfl rfl rfl rfl ?_
          refine AO.skipF rfl rfl rfl rfl rfl ?_
          refine AO.yld _ (Yld.pickT rfl rfl) rfl rfl rfl ?_
          refine AO.nil ?_
          refine AC.condT rfl ?_
          refine AC.seq ?_
          refine AC.region ?_
          refine AO.yld _ (Yld.assign rfl) rfl rfl rfl ?_
          refine AO.nil ?_
          refine Pure.ret Try.results4 (RVs.cons (RV.tmp rfl) RVs.nil) rfl ?_
          first | rfl | (simp_all; done) | (simp_all; intros; omega) | grind
        · -- s62 False
          refine AO.yldG _ (Yld.move rfl) rfl rfl rfl rfl rfl ?_
          refine AO.yldG _ (Yld.move rfl) rfl rfl rfl rfl rfl ?_
          refine AO.yldG _ (Yld.int rfl rfl rfl) rfl rfl rfl rfl rfl ?_
          refine AO.yld _ (Yld.pickF rfl rfl) rfl rfl rfl ?_
          refine AO.nil ?_
          refine AC.cond _ rfl (fun c66 => ?_) (fun c66 => ?_)
          · -- c66 True
            refine AC.seq ?_
            refine AC.region ?_
            refine AO.yld _ (Yld.assign rfl) rfl rfl rfl ?_
            refine AO.nil ?_
            refine Pure.ret Try.results4 (RVs.cons (RV.tmp rfl) RVs.nil) rfl ?_
            first | rfl | (simp_all; done) | (simp_all; intros; omega) | grind
          · -- c66 False
            refine AC.skip ?_
            refine AC.seq ?_
            refine AC.seq ?_
            refine AC.region ?_
            refine AO.yld _ (Yld.move rfl) rfl rfl rfl ?_
            refine AO.yld _ (Yld.move rfl) rfl rfl rfl ?_
            refine AO.callMk 8 rfl rfl Try.call10 rfl rfl rfl (laws_toSettingS_c (by first | assumption | omega)) (by simp [AV.Flat, AV.FlatL, PV.Flat, PV.FlatL]) (flat_map flatNV _) rfl rfl ?_
            refine AO.yld _ (Yld.call rfl rfl Try.call12 rfl rfl rfl (laws_eqSettingS_c (by first | assumption | omega)) rfl) rfl rfl rfl ?_
            refine AO.yld _ (Yld.not rfl) rfl rfl rfl ?_
            refine AO.nil ?_
            refine AC.cond _ rfl (fun c71 => ?_) (fun c71 => ?_)
            · -- c71 True
              refine AC.seq ?_
              refine AC.region ?_
              refine AO.yld _ (Yld.assign rfl) rfl rfl rfl ?_
              refine AO.nil ?_
              refine Pure.ret Try.results4 (RVs.cons (RV.tmp rfl) RVs.nil) rfl ?_
              first | rfl | (simp_all; done) | (simp_all; intros; omega) | grind
            · -- c71 False
              refine AC.skip ?_
              refine AC.seq ?_
              refine AC.seq ?_
              refine AC.region ?_
              refine AO.yld _ (Yld.move rfl) rfl rfl rfl ?_
              refine AO.yld _ (Yld.move rfl) rfl rfl rfl ?_
              refine AO.callMk 9 rfl rfl Try.call10 rfl rfl rfl (laws_toSettingS_c (by first | assumption | omega)) (by simp [AV.Flat, AV.FlatL, PV.Flat, PV.FlatL]) (flat_map flatNV _) rfl rfl ?_
              refine AO.yld _ (Yld.call rfl rfl Try.call12 rfl rfl rfl (laws_eqSettingS_c (by first | assumption | omega)) rfl) rfl rfl rfl ?_
              refine AO.yld _ (Yld.not rfl) rfl rfl rfl ?_
              refine AO.nil ?_
              refine AC.cond _ rfl (fun c76 => ?_) (fun c76 => ?_)
              · -- c76 True
                refine AC.seq ?_
                refine AC.region ?_
                refine AO.yld _ (Yld.assign rfl) rfl rfl rfl ?_
                refine AO.nil ?_
                refine Pure.ret Try.results4 (RVs.cons (RV.tmp rfl) RVs.nil) rfl ?_
                first | rfl | (simp_all; done) | (simp_all; intros; omega) | grind
              · -- c76 False
                refine AC.skip ?_
                refine AC.seq ?_
                refine AC.seq ?_
                refine AC.region ?_
                refine AO.yld _ (Yld.move rfl) rfl rfl rfl ?_
                refine AO.yld _ (Yld.move rfl) rfl rfl rfl ?_
                refine AO.callMk 10 rfl rfl Try.call10 rfl rfl rfl (laws_toSettingS_c (by first | assumption | omega)) (by simp [AV.Flat, AV.FlatL, PV.Flat, PV.FlatL]) (flat_map flatNV _) rfl rfl ?_
                refine AO.yld _ (Yld.call rfl rfl Try.call12 rfl rfl rfl (laws_eqSettingS_c (by first | assumption | omega)) rfl) rfl rfl rfl ?_
                refine AO.yld _ (Yld.not rfl) rfl rfl rfl ?_
                refine AO.nil ?_
                refine AC.cond _ rfl (fun c81 => ?_) (fun c81 => ?_)
                · -- c81 True
                  refine AC.seq ?_
                  refine AC.region ?_
                  refine AO.yld _ (Yld.assign rfl) rfl rfl rfl ?_
                  refine AO.nil ?_
                  refine Pure.ret Try.results4 (RVs.cons (RV.tmp rfl) RVs.nil) rfl ?_
                  first | rfl | (simp_all; done) | (simp_all; intros; omega) | grind
                · -- c81 False
                  refine AC.skip ?_
                  refine AC.seq ?_
                  refine AC.region ?_
                  refine AO.yld _ (Yld.assign rfl) rfl rfl rfl ?_
                  refine AO.nil ?_
                  refine AC.seq ?_
                  refine AC.region ?_
                  refine AO.yld _ (Yld.move rfl) rfl rfl rfl ?_
                  refine AO.yld _ (Yld.move rfl) rfl rfl rfl ?_
                  refine AO.callW (wantedN rfl) [4] [0] [0] rfl rfl Try.call13 rfl (laws_markSettingS_c (by omega) (by omega) (by first | assumption | omega)) (.own rfl) rfl (fun _ => rfl) ⟨rfl, trivial⟩ rfl (fun _ => rfl) (fun _ => rfl) (fun _ _ => ?_)
                  refine AO.yld _ (Yld.assign rfl) rfl rfl rfl ?_
                  refine AO.nil ?_
                  refine AC.seq ?_
                  refine AC.region ?_
                  refine AO.yld _ (Yld.move rfl) rfl rfl rfl ?_
                  refine AO.yld _ (Yld.move rfl) rfl rfl rfl ?_
                  refine AO.callW (wantedN rfl) [5] [0] [0] rfl rfl Try.call13 rfl (laws_markSettingS_c (by omega) (by omega) (by first | assumption | omega)) (.own rfl) rfl (fun _ => rfl) ⟨rfl, trivial⟩ rfl (fun _ => rfl) (fun _ => rfl) (fun _ _ => ?_)
                  refine AO.yld _ (Yld.assign rfl) rfl rfl rfl ?_
                  refine AO.nil ?_
                  refine AC.seq ?_
                  refine AC.region ?_
                  refine AO.yld _ (Yld.move rfl) rfl rfl rfl ?_
                  refine AO.yld _ (Yld.move rfl) rfl rfl rfl ?_
                  refine AO.callW (wantedN rfl) [6] [0] [0] rfl rfl Try.call13 rfl (laws_markSettingS_c (by omega) (by omega) (by first | assumption | omega)) (.own rfl) rfl (fun _ => rfl) ⟨rfl, trivial⟩ rfl (fun _ => rfl) (fun _ => rfl) (fun _ _ => ?_)
                  refine AO.yld _ (Yld.assign rfl) rfl rfl rfl ?_
                  refine AO.nil ?_
                  refine AC.seq ?_
                  refine AC.seq ?_
                  refine AC.region ?_
                  refine AO.yld _ (Yld.move rfl) rfl rfl rfl ?_
                  refine AO.yld _ (Yld.int rfl rfl rfl) rfl rfl rfl ?_
                  refine AO.yld _ (Yld.move rfl) rfl rfl rfl ?_
                  refine AO.splitAt 93 _ rfl (fun s93 => ?_) (fun s93 => ?_)
                  · -- s93 True
                    refine AO.skipF rfl rfl rfl rfl rfl ?_
                    refine AO.skipF rfl rfl rfl rfl rfl ?_
                    refine AO.skipF rfl rfl rfl rfl rfl ?_
                    refine AO.skipF rfl rfl rfl rfl rfl ?_
                    refine AO.yld _ (Yld.pickT rfl rfl) rfl rfl rfl ?_
                    refine AO.yld _ (Yld.move rfl) rfl rfl rfl ?_
                    refine AO.skipF rfl rfl rfl rfl rfl ?_
                    refine AO.skipF rfl rfl rfl rfl rfl ?_
                    refine AO.skipF rfl rfl rfl rfl rfl ?_
                    refine AO.yld _ (Yld.pickT rfl rfl) rfl rfl rfl ?_
                    refine AO.nil ?_
                    refine AC.condT rfl ?_
                    refine AC.seq ?_
                    refine AC.region ?_
                    refine AO.yld _ (Yld.assign rfl) rfl rfl rfl ?_
                    refine AO.nil ?_
                    refine Pure.ret Try.results4 (RVs.cons (RV.tmp rfl) RVs.nil) rfl ?_
                    first | rfl | (simp_all; done) | (simp_all; intros; omega) | grind
                  · -- s93 False
                    refine AO.yldG _ (Yld.move rfl) rfl rfl rfl rfl rfl ?_
                    refine AO.yldG _ (Yld.move rfl) rfl rfl rfl rfl rfl ?_
                    refine AO.yldG _ (Yld.call rfl rfl Try.call17 rfl rfl rfl (laws_eqStringS_c (by first | assumption | omega)) rfl) rfl rfl rfl rfl rfl ?_
                    refine AO.yldG _ (Yld.not rfl) rfl rfl rfl rfl rfl ?_
                    refine AO.yld _ (Yld.pickF rfl rfl) rfl rfl rfl ?_
                    refine AO.yld _ (Yld.move rfl) rfl rfl rfl ?_
                    refine AO.splitAt 99 _ rfl (fun s99 => ?_) (fun s99 => ?_)
                    · -- s99 True
                      refine AO.skipF rfl rfl rfl rfl rfl ?_
                      refine AO.skipF rfl rfl rfl rfl rfl ?_
                      refine AO.skipF rfl rfl rfl rfl rfl ?_
                      refine AO.yld _ (Yld.pickT rfl rfl) rfl rfl rfl ?_
                      refine AO.nil ?_
                      refine AC.condT rfl ?_
                      refine AC.seq ?_
                      refine AC.region ?_
                      refine AO.yld _ (Yld.assign rfl) rfl rfl rfl ?_
                      refine AO.nil ?_
                      refine Pure.ret Try.results4 (RVs.cons (RV.tmp rfl) RVs.nil) rfl ?_
                      first | rfl | (simp_all; done) | (simp_all; intros; omega) | grind
                    · -- s99 False
                      refine AO.yldG _ (Yld.move rfl) rfl rfl rfl rfl rfl ?_
                      refine AO.yldG _ (Yld.move rfl) rfl rfl rfl rfl rfl ?_
                      refine AO.yldG _ (Yld.int rfl rfl rfl) rfl rfl rfl rfl rfl ?_
                      refine AO.yld _ (Yld.pickF rfl rfl) rfl rfl rfl ?_
                      refine AO.nil ?_
                      refine AC.cond _ rfl (fun c103 => ?_) (fun c103 => ?_)
                      · -- c103 True
                        refine AC.seq ?_
                        refine AC.region ?_
                        refine AO.yld _ (Yld.assign rfl) rfl rfl rfl ?_
                        refine AO.nil ?_
                        refine Pure.ret Try.results4 (RVs.cons (RV.tmp rfl) RVs.nil) rfl ?_
                        first | rfl | (simp_all; done) | (simp_all; intros; omega) | grind
                      · -- c103 False
                        refine AC.skip ?_
                        refine AC.seq ?_
                        refine AC.region ?_
                        refine AO.yld _ (Yld.assign rfl) rfl rfl rfl ?_
                        refine AO.nil ?_
                        refine AC.seq ?_
                        refine AC.region ?_
                        refine AO.yld _ (Yld.move rfl) rfl rfl rfl ?_
                        refine AO.yld _ (Yld.move rfl) rfl rfl rfl ?_
                        refine AO.callW (wantedN rfl) [7] [0] [0] rfl rfl Try.call18 rfl (laws_markStringS_c (by omega) (by omega) (by first | assumption | omega)) (.own rfl) rfl (fun _ => rfl) ⟨rfl, trivial⟩ rfl (fun _ => rfl) (fun _ => rfl) (fun _ _ => ?_)
                        refine AO.yld _ (Yld.assign rfl) rfl rfl rfl ?_
                        refine AO.nil ?_
                        refine AC.seq ?_
                        refine AC.region ?_
                        refine AO.yld _ (Yld.assign rfl) rfl rfl rfl ?_
                        refine AO.nil ?_
                        refine AC.seq ?_
                        refine AC.region ?_
                        refine AO.yld _ (Yld.move rfl) rfl rfl rfl ?_
                        refine AO.yld _ (Yld.move rfl) rfl rfl rfl ?_
                        refine AO.yld _ (Yld.call rfl rfl Try.call19 rfl rfl rfl (laws_heldStringS_c (by omega) (by omega) (by first | assumption | omega)) rfl) rfl rfl rfl ?_
                        refine AO.yld _ (Yld.assign rfl) rfl rfl rfl ?_
                        refine AO.nil ?_
                        refine AC.seq ?_
                        refine AC.seq ?_
                        refine AC.region ?_
                        refine AO.yld _ (Yld.move rfl) rfl rfl rfl ?_
                        refine AO.yld _ (Yld.int rfl rfl rfl) rfl rfl rfl ?_
                        refine AO.nil ?_
                        refine AC.cond _ rfl (fun c111 => ?_) (fun c111 => ?_)
                        · -- c111 True
                          refine AC.seq ?_
                          refine AC.region ?_
                          refine AO.yld _ (Yld.assign rfl) rfl rfl rfl ?_
                          refine AO.nil ?_
                          refine Pure.ret Try.results4 (RVs.cons (RV.tmp rfl) RVs.nil) rfl ?_
                          first | rfl | (simp_all; done) | (simp_all; intros; omega) | grind
                        · -- c111 False
                          refine AC.skip ?_
                          refine AC.seq ?_
                          refine AC.seq ?_
                          refine AC.region ?_
                          refine AO.yld _ (Yld.move rfl) rfl rfl rfl ?_
                          refine AO.yld _ (Yld.move rfl) rfl rfl rfl ?_
                          refine AO.yld _ (Yld.int rfl rfl rfl) rfl rfl rfl ?_
                          refine AO.nil ?_
                          refine AC.cond _ rfl (fun c114 => ?_) (fun c114 => ?_)
                          · -- c114 True
                            refine AC.seq ?_
                            refine AC.region ?_
                            refine AO.yld _ (Yld.assign rfl) rfl rfl rfl ?_
                            refine AO.nil ?_
                            refine Pure.ret Try.results4 (RVs.cons (RV.tmp rfl) RVs.nil) rfl ?_
                            first | rfl | (simp_all; done) | (simp_all; intros; omega) | grind
                          · -- c114 False
                            refine AC.skip ?_
                            refine AC.seq ?_
                            refine AC.region ?_
                            refine AO.yld _ (Yld.move rfl) rfl rfl rfl ?_
                            refine AO.callMk 11 rfl rfl Try.call10 rfl rfl rfl (laws_toSettingS_c (by first | assumption | omega)) (by simp [AV.Flat, AV.FlatL, PV.Flat, PV.FlatL]) (flat_map flatNV _) rfl rfl ?_
                            refine AO.yld _ (Yld.move rfl) rfl rfl rfl ?_
                            refine AO.callMk 12 rfl rfl Try.call10 rfl rfl rfl (laws_toSettingS_c (by first | assumption | omega)) (by simp [AV.Flat, AV.FlatL, PV.Flat, PV.FlatL]) (flat_map flatNV _) rfl rfl ?_
                            refine AO.yld _ (Yld.move rfl) rfl rfl rfl ?_
                            refine AO.callMk 13 rfl rfl Try.call10 rfl rfl rfl (laws_toSettingS_c (by first | assumption | omega)) (by simp [AV.Flat, AV.FlatL, PV.Flat, PV.FlatL]) (flat_map flatNV _) rfl rfl ?_
                            refine AO.callW (wantedN rfl) [14] [] [0] rfl rfl Try.call16 rfl (impl_ConflictsOf_c (by first | assumption | omega) (by first | assumption | omega) (by first | assumption | omega) (by assumption) (by assumption) (by assumption)) (.flat (.view rfl rfl (.view rfl rfl (.view rfl rfl .nil))) (fun _ => by simp [AV.Flat, AV.FlatL, PV.Flat, PV.FlatL]) (fun _ => ⟨flat_map flatS _, trivial⟩)) rfl (fun _ => rfl) trivial rfl (fun _ => rfl) (fun _ => rfl) (fun _ _ => ?_)
                            refine AO.yld _ (Yld.move rfl) rfl rfl rfl ?_
                            refine AO.yld _ (Yld.extract rfl rfl rfl) rfl rfl rfl ?_
                            refine AO.yld _ (Yld.extract rfl rfl rfl) rfl rfl rfl ?_
                            refine AO.yld _ (Yld.assign rfl) rfl rfl rfl ?_
                            refine AO.yld _ (Yld.assign rfl) rfl rfl rfl ?_
                            refine AO.nil ?_
                            refine AC.seq ?_
                            refine AC.seq ?_
                            refine AC.region ?_
                            refine AO.yld _ (Yld.move rfl) rfl rfl rfl ?_
                            refine AO.yld _ (Yld.move rfl) rfl rfl rfl ?_
                            refine AO.yld _ (Yld.call rfl rfl Try.call17 rfl rfl rfl (laws_eqStringS_c (by first | assumption | omega)) rfl) rfl rfl rfl ?_
                            refine AO.yld _ (Yld.not rfl) rfl rfl rfl ?_
                            refine AO.yld _ (Yld.move rfl) rfl rfl rfl ?_
                            refine AO.splitAt 129 _ rfl (fun s129 => ?_) (fun s129 => ?_)
                            · -- s129 True
                              refine AO.skipF rfl rfl rfl rfl rfl ?_
                              refine AO.skipF rfl rfl rfl rfl rfl ?_
                              refine AO.skipF rfl rfl rfl rfl rfl ?_
                              refine AO.yld _ (Yld.pickT rfl rfl) rfl rfl rfl ?_
                              refine AO.nil ?_
                              refine AC.condT rfl ?_
                              refine AC.seq ?_
                              refine AC.region ?_
                              refine AO.yld _ (Yld.assign rfl) rfl rfl rfl ?_
                              refine AO.nil ?_
                              refine Pure.ret Try.results4 (RVs.cons (RV.tmp rfl) RVs.nil) rfl ?_
                              first | rfl | (simp_all; done) | (simp_all; intros; omega) | grind
                            · -- s129 False
                              refine AO.yldG _ (Yld.move rfl) rfl rfl rfl rfl rfl ?_
                              refine AO.yldG _ (Yld.move rfl) rfl rfl rfl rfl rfl ?_
                              refine AO.yldG _ (Yld.int rfl rfl rfl) rfl rfl rfl rfl rfl ?_
                              refine AO.yld _ (Yld.pickF rfl rfl) rfl rfl rfl ?_
                              refine AO.nil ?_
                              refine AC.cond _ rfl (fun c133 => ?_) (fun c133 => ?_)
                              · -- c133 True
                                refine AC.seq ?_
                                refine AC.region ?_
                                refine AO.yld _ (Yld.assign rfl) rfl rfl rfl ?_
                                refine AO.nil ?_
                                refine Pure.ret Try.results4 (RVs.cons (RV.tmp rfl) RVs.nil) rfl ?_
                                first | rfl | (simp_all; done) | (simp_all; intros; omega) | grind
                              · -- c133 False
                                refine AC.skip ?_
                                refine AC.seq ?_
                                refine AC.region ?_
                                refine AO.yld _ (Yld.assign rfl) rfl rfl rfl ?_
                                refine AO.nil ?_
                                refine AC.seq ?_
                                refine AC.region ?_
                                refine AO.yld _ (Yld.move rfl) rfl rfl rfl ?_
                                refine AO.yld _ (Yld.move rfl) rfl rfl rfl ?_
                                refine AO.yld _ (Yld.call rfl rfl Try.call19 rfl rfl rfl (laws_heldStringS_c (by omega) (by omega) (by first | assumption | omega)) rfl) rfl rfl rfl ?_
                                refine AO.yld _ (Yld.assign rfl) rfl rfl rfl ?_
                                refine AO.nil ?_
                                refine AC.seq ?_
                                refine AC.seq ?_
                                refine AC.region ?_
                                refine AO.yld _ (Yld.move rfl) rfl rfl rfl ?_
                                refine AO.yld _ (Yld.int rfl rfl rfl) rfl rfl rfl ?_
                                refine AO.nil ?_
                                refine AC.cond _ rfl (fun c138 => ?_) (fun c138 => ?_)
                                · -- c138 True
                                  refine AC.seq ?_
                                  refine AC.region ?_
                                  refine AO.yld _ (Yld.assign rfl) rfl rfl rfl ?_
                                  refine AO.nil ?_
                                  refine Pure.ret Try.results4 (RVs.cons (RV.tmp rfl) RVs.nil) rfl ?_
                                  first | rfl | (simp_all; done) | (simp_all; intros; omega) | grind
                                · -- c138 False
                                  refine AC.skip ?_
                                  refine AC.seq ?_
                                  refine AC.seq ?_
                                  refine AC.region ?_
                                  refine AO.yld _ (Yld.move rfl) rfl rfl rfl ?_
                                  refine AO.yld _ (Yld.move rfl) rfl rfl rfl ?_
                                  refine AO.yld _ (Yld.int rfl rfl rfl) rfl rfl rfl ?_
                                  refine AO.nil ?_
                                  refine AC.cond _ rfl (fun c141 => ?_) (fun c141 => ?_)
                                  · -- c141 True
                                    refine AC.seq ?_
                                    refine AC.region ?_
                                    refine AO.yld _ (Yld.assign rfl) rfl rfl rfl ?_
                                    refine AO.nil ?_
                                    refine Pure.ret Try.results4 (RVs.cons (RV.tmp rfl) RVs.nil) rfl ?_
                                    first | rfl | (simp_all; done) | (simp_all; intros; omega) | grind
                                  · -- c141 False
                                    refine AC.skip ?_
                                    refine AC.seq ?_
                                    refine AC.region ?_
                                    refine AO.yld _ (Yld.assign rfl) rfl rfl rfl ?_
                                    refine AO.nil ?_
                                    refine Pure.ret Try.results4 (RVs.cons (RV.tmp rfl) RVs.nil) rfl ?_
                                    first | rfl | (simp_all; done) | (simp_all; intros; omega) | grind

theorem laws_FnExactMergeStates_c {base : List NV} (hb_base : base.length ≤ 9223372036854775807) (hs_base : ∀ x ∈ base, (x.name).length ≤ 9223372036854775807) {a : List NV} (hb_a : a.length ≤ 9223372036854775807) (hs_a : ∀ x ∈ a, (x.name).length ≤ 9223372036854775807) {b : List NV} (hb_b : b.length ≤ 9223372036854775807) (hs_b : ∀ x ∈ b, (x.name).length ≤ 9223372036854775807) :
    Pure Try.prog 3 [.sl 2 (base.map encNV), .sl 2 (a.map encNV), .sl 2 (b.map encNV)] (.v (.bool true)) := by
  have hl9 := mergeSt_len base a b
  refine Pure.intro Try.func3 rfl Try.ntmps3 rfl rfl (fun w => ?_)
  refine AC.seq ?_
  refine AC.region ?_
  refine AO.yld _ (Yld.assign rfl) rfl rfl rfl ?_
  refine AO.nil ?_
  refine AC.seq ?_
  refine AC.region ?_
  refine AO.yld _ (Yld.assign rfl) rfl rfl rfl ?_
  refine AO.nil ?_
  refine AC.seq ?_
  refine AC.region ?_
  refine AO.yld _ (Yld.move rfl) rfl rfl rfl ?_
  refine AO.yld _ (Yld.move rfl) rfl rfl rfl ?_
  refine AO.yld _ (Yld.call rfl rfl Try.call8 rfl rfl rfl (laws_szSettingS_c (by omega) (by omega) (by first | assumption | omega) (by assumption)) rfl) rfl rfl rfl ?_
  refine AO.yld _ (Yld.assign rfl) rfl rfl rfl ?_
  refine AO.nil ?_
  refine AC.seq ?_
  refine AC.seq ?_
  refine AC.region ?_
  refine AO.yld _ (Yld.move rfl) rfl rfl rfl ?_
  refine AO.yld _ (Yld.int rfl rfl rfl) rfl rfl rfl ?_
  refine AO.nil ?_
  refine AC.cond _ rfl (fun c24 => ?_) (fun c24 => ?_)
  · -- c24 True
    refine AC.seq ?_
    refine AC.region ?_
    refine AO.yld _ (Yld.assign rfl) rfl rfl rfl ?_
    refine AO.nil ?_
    refine Pure.ret Try.results3 (RVs.cons (RV.tmp rfl) RVs.nil) rfl ?_
    first | rfl | (simp_all; done) | (simp_all; intros; omega) | grind
  · -- c24 False
    have hz_base := szAll_ge c24
    have hp_base := lens_nonneg (f := NV.name) (xs := base)
    have hn_base : base.length ≤ 1048576 := by omega
    have ht_base : ∀ x ∈ base, (x.name).length ≤ 1048576 := fun x hx => by have := len_le_lens (f := NV.name) hx; omega
    refine AC.skip ?_
    refine AC.seq ?_
    refine AC.region ?_
    refine AO.yld _ (Yld.move rfl) rfl rfl rfl ?_
    refine AO.yld _ (Yld.move rfl) rfl rfl rfl ?_
    refine AO.yld _ (Yld.call rfl rfl Try.call8 rfl rfl rfl (laws_szSettingS_c (by omega) (by omega) (by first | assumption | omega) (by assumption)) rfl) rfl rfl rfl ?_
    refine AO.yld _ (Yld.assign rfl) rfl rfl rfl ?_
    refine AO.nil ?_
    refine AC.seq ?_
    refine AC.seq ?_
    refine AC.region ?_
    refine AO.yld _ (Yld.move rfl) rfl rfl rfl ?_
    refine AO.yld _ (Yld.int rfl rfl rfl) rfl rfl rfl ?_
    refine AO.nil ?_
    refine AC.cond _ rfl (fun c29 => ?_) (fun c29 => ?_)
    · -- c29 True
      refine AC.seq ?_
      refine AC.region ?_
      refine AO.yld _ (Yld.assign rfl) rfl rfl rfl ?_
      refine AO.nil ?_
      refine Pure.ret Try.results3 (RVs.cons (RV.tmp rfl) RVs.nil) rfl ?_
      first | rfl | (simp_all; done) | (simp_all; intros; omega) | grind
    · -- c29 False
      have hz_a := szAll_ge c29
      have hp_a := lens_nonneg (f := NV.name) (xs := a)
      have hn_a : a.length ≤ 1048576 := by omega
      have ht_a : ∀ x ∈ a, (x.name).length ≤ 1048576 := fun x hx => by have := len_le_lens (f := NV.name) hx; omega
      refine AC.skip ?_
      refine AC.seq ?_
      refine AC.region ?_
      refine AO.yld _ (Yld.move rfl) rfl rfl rfl ?_
      refine AO.yld _ (Yld.move rfl) rfl rfl rfl ?_
      refine AO.yld _ (Yld.call rfl rfl Try.call8 rfl rfl rfl (laws_szSettingS_c (by omega) (by omega) (by first | assumption | omega) (by assumption)) rfl) rfl rfl rfl ?_
      refine AO.yld _ (Yld.assign rfl) rfl rfl rfl ?_
      refine AO.nil ?_
      refine AC.seq ?_
      refine AC.seq ?_
      refine AC.region ?_
      refine AO.yld _ (Yld.move rfl) rfl rfl rfl ?_
      refine AO.yld _ (Yld.int rfl rfl rfl) rfl rfl rfl ?_
      refine AO.nil ?_
      refine AC.cond _ rfl (fun c34 => ?_) (fun c34 => ?_)
      · -- c34 True
        refine AC.seq ?_
        refine AC.region ?_
        refine AO.yld _ (Yld.assign rfl) rfl rfl rfl ?_
        refine AO.nil ?_
        refine Pure.ret Try.results3 (RVs.cons (RV.tmp rfl) RVs.nil) rfl ?_
        first | rfl | (simp_all; done) | (simp_all; intros; omega) | grind
      · -- c34 False
        have hz_b := szAll_ge c34
        have hp_b := lens_nonneg (f := NV.name) (xs := b)
        have hn_b : b.length ≤ 1048576 := by omega
        have ht_b : ∀ x ∈ b, (x.name).length ≤ 1048576 := fun x hx => by have := len_le_lens (f := NV.name) hx; omega
        refine AC.skip ?_
        refine AC.seq ?_
        refine AC.region ?_
        refine AO.yld _ (Yld.move rfl) rfl rfl rfl ?_
        refine AO.callMk 0 rfl rfl Try.call10 rfl rfl rfl (laws_toSettingS_c (by first | assumption | omega)) (by simp [AV.Flat, AV.FlatL, PV.Flat, PV.FlatL]) (flat_map flatNV _) rfl rfl ?_
        refine AO.yld _ (Yld.move rfl) rfl rfl rfl ?_
        refine AO.callMk 1 rfl rfl Try.call10 rfl rfl rfl (laws_toSettingS_c (by first | assumption | omega)) (by simp [AV.Flat, AV.FlatL, PV.Flat, PV.FlatL]) (flat_map flatNV _) rfl rfl ?_
        refine AO.yld _ (Yld.move rfl) rfl rfl rfl ?_
        refine AO.callMk 2 rfl rfl Try.call10 rfl rfl rfl (laws_toSettingS_c (by first | assumption | omega)) (by simp [AV.Flat, AV.FlatL, PV.Flat, PV.FlatL]) (flat_map flatNV _) rfl rfl ?_
        refine AO.callW (wantedN rfl) [3] [] [0] rfl rfl Try.call9 rfl (spec_MergeStates_c (by first | assumption | omega) (by first | assumption | omega) (by first | assumption | omega) (by assumption) (by assumption) (by assumption)) (.flat (.view rfl rfl (.view rfl rfl (.view rfl rfl .nil))) (fun _ => by simp [AV.Flat, AV.FlatL, PV.Flat, PV.FlatL]) (fun _ => ⟨flat_map flatNV _, trivial⟩)) rfl (fun _ => rfl) trivial rfl (fun _ => rfl) (fun _ => rfl) (fun _ _ => ?_)
        refine AO.yld _ (Yld.move rfl) rfl rfl rfl ?_
        refine AO.yld _ (Yld.extract rfl rfl rfl) rfl rfl rfl ?_
        refine AO.yld _ (Yld.extract rfl rfl rfl) rfl rfl rfl ?_
        refine AO.yld _ (Yld.assign rfl) rfl rfl rfl ?_
        refine AO.yld _ (Yld.assign rfl) rfl rfl rfl ?_
        refine AO.nil ?_
        refine AC.seq ?_
        refine AC.region ?_
        refine AO.yld _ (Yld.move rfl) rfl rfl rfl ?_
        refine AO.callMk 4 rfl rfl Try.call10 rfl rfl rfl (laws_toSettingS_c (by first | assumption | omega)) (by simp [AV.Flat, AV.FlatL, PV.Flat, PV.FlatL]) (flat_map flatNV _) rfl rfl ?_
        refine AO.yld _ (Yld.assign rfl) rfl rfl rfl ?_
        refine AO.nil ?_
        refine AC.seq ?_
        refine AC.region ?_
        refine AO.yld _ (Yld.move rfl) rfl rfl rfl ?_
        refine AO.callMk 5 rfl rfl Try.call10 rfl rfl rfl (laws_toSettingS_c (by first | assumption | omega)) (by simp [AV.Flat, AV.FlatL, PV.Flat, PV.FlatL]) (flat_map flatNV _) rfl rfl ?_
        refine AO.yld _ (Yld.assign rfl) rfl rfl rfl ?_
        refine AO.nil ?_
        refine AC.seq ?_
        refine AC.region ?_
        refine AO.yld _ (Yld.move rfl) rfl rfl rfl ?_
        refine AO.callMk 6 rfl rfl Try.call10 rfl rfl rfl (laws_toSettingS_c (by first | assumption | omega)) (by simp [AV.Flat, AV.FlatL, PV.Flat, PV.FlatL]) (flat_map flatNV _) rfl rfl ?_
        refine AO.yld _ (Yld.assign rfl) rfl rfl rfl ?_
        refine AO.nil ?_
        refine AC.seq ?_
        refine AC.region ?_
        refine AO.yld _ (Yld.move rfl) rfl rfl rfl ?_
        refine AO.yld _ (Yld.move rfl) rfl rfl rfl ?_
        refine AO.yld _ (Yld.move rfl) rfl rfl rfl ?_
        refine AO.callW (wantedN rfl) [7] [] [0] rfl rfl Try.call11 rfl (impl_MergeStates_c (by first | assumption | omega) (by first | assumption | omega) (by first | assumption | omega) (by assumption) (by assumption) (by assumption)) (.flat (.view rfl rfl (.view rfl rfl (.view rfl rfl .nil))) (fun _ => by simp [AV.Flat, AV.FlatL, PV.Flat, PV.FlatL]) (fun _ => ⟨flat_map flatNV _, trivial⟩)) rfl (fun _ => rfl) trivial rfl (fun _ => rfl) (fun _ => rfl) (fun _ _ => ?_)
        refine AO.yld _ (Yld.move rfl) rfl rfl rfl ?_
        refine AO.yld _ (Yld.extract rfl rfl rfl) rfl rfl rfl ?_
        refine AO.yld _ (Yld.extract rfl rfl rfl) rfl rfl rfl ?_
        refine AO.yld _ (Yld.assign rfl) rfl rfl rfl ?_
        refine AO.yld _ (Yld.assign rfl) rfl rfl rfl ?_
        refine AO.nil ?_
        refine AC.seq ?_
        refine AC.seq ?_
        refine AC.region ?_
        refine AO.yld _ (Yld.move rfl) rfl rfl rfl ?_
        refine AO.yld _ (Yld.move rfl) rfl rfl rfl ?_
        refine AO.yld _ (Yld.call rfl rfl Try.call12 rfl rfl rfl (laws_eqSettingS_c (by first | assumption | omega)) rfl) rfl rfl rfl ?_
        refine AO.yld _ (Yld.not rfl) rfl rfl rfl ?_
        refine AO.yld _ (Yld.move rfl) rfl rfl rfl ?_
        refine AO.splitAt 62 _ rfl (fun s62 => ?_) (fun s62 => ?_)
        · -- s62 True
          refine AO.skipF rfl rfl rfl rfl rfl ?_
          refine AO.skipF rfl rfl rfl rfl rfl ?_
          refine AO.skipF rfl rfl rfl rfl rfl ?_
          refine AO.yld _ (Yld.pickT rfl rfl) rfl rfl rfl ?_
          refine AO.nil ?_
          refine AC.condT rfl ?_
          refine AC.seq ?_
          refine AC.region ?_
          refine AO.yld _ (Yld.assign rfl) rfl rfl rfl ?_
          refine AO.nil ?_
          refine Pure.ret Try.results3 (RVs.cons (RV.tmp rfl) RVs.nil) rfl ?_
          first | rfl | (simp_all; done) | (simp_all; intros; omega) | grind
        · -- s62 False
          refine AO.yldG _ (Yld.move rfl) rfl rfl rfl rfl rfl ?_
          refine AO.yldG _ (Yld.move rfl) rfl rfl rfl rfl rfl ?_
          refine AO.yldG _ (Yld.int rfl rfl rfl) rfl rfl rfl rfl rfl ?_
          refine AO.yld _ (Yld.pickF rfl rfl) rfl rfl rfl ?_
          refine AO.nil ?_
          refine AC.cond _ rfl (fun c66 => ?_) (fun c66 => ?_)
          · -- c66 True
            refine AC.seq ?_
            refine AC.region ?_
            refine AO.yld _ (Yld.assign rfl) rfl rfl rfl ?_
            refine AO.nil ?_
            refine Pure.ret Try.results3 (RVs.cons (RV.tmp rfl) RVs.nil) rfl ?_
            first | rfl | (simp_all; done) | (simp_all; intros; omega) | grind
          · -- c66 False
            refine AC.skip ?_
            refine AC.seq ?_
            refine AC.seq ?_
            refine AC.region ?_
            refine AO.yld _ (Yld.move rfl) rfl rfl rfl ?_
            refine AO.yld _ (Yld.move rfl) rfl rfl rfl ?_
            refine AO.callMk 8 rfl rfl Try.call10 rfl rfl rfl (laws_toSettingS_c (by first | assumption | omega)) (by simp [AV.Flat, AV.FlatL, PV.Flat, PV.FlatL]) (flat_map flatNV _) rfl rfl ?_
            refine AO.yld _ (Yld.call rfl rfl Try.call12 rfl rfl rfl (laws_eqSettingS_c (by first | assumption | omega)) rfl) rfl rfl rfl ?_
            refine AO.yld _ (Yld.not rfl) rfl rfl rfl ?_
            refine AO.nil ?_
            refine AC.cond _ rfl (fun c71 => ?_) (fun c71 => ?_)
            · -- c71 True
              refine AC.seq ?_
              refine AC.region ?_
              refine AO.yld _ (Yld.assign rfl) rfl rfl rfl ?_
              refine AO.nil ?_
              refine Pure.ret Try.results3 (RVs.cons (RV.tmp rfl) RVs.nil) rfl ?_
              first | rfl | (simp_all; done) | (simp_all; intros; omega) | grind
            · -- c71 False
              refine AC.skip ?_
              refine AC.seq ?_
              refine AC.seq ?_
              refine AC.region ?_
              refine AO.yld _ (Yld.move rfl) rfl rfl rfl ?_
              refine AO.yld _ (Yld.move rfl) rfl rfl rfl ?_
              refine AO.callMk 9 rfl rfl Try.call10 rfl rfl rfl (laws_toSettingS_c (by first | assumption | omega)) (by simp [AV.Flat, AV.FlatL, PV.Flat, PV.FlatL]) (flat_map flatNV _) rfl rfl ?_
              refine AO.yld _ (Yld.call rfl rfl Try.call12 rfl rfl rfl (laws_eqSettingS_c (by first | assumption | omega)) rfl) rfl rfl rfl ?_
              refine AO.yld _ (Yld.not rfl) rfl rfl rfl ?_
              refine AO.nil ?_
              refine AC.cond _ rfl (fun c76 => ?_) (fun c76 => ?_)
              · -- c76 True
                refine AC.seq ?_
                refine AC.region ?_
                refine AO.yld _ (Yld.assign rfl) rfl rfl rfl ?_
                refine AO.nil ?_
                refine Pure.ret Try.results3 (RVs.cons (RV.tmp rfl) RVs.nil) rfl ?_
                first | rfl | (simp_all; done) | (simp_all; intros; omega) | grind
              · -- c76 False
                refine AC.skip ?_
                refine AC.seq ?_
                refine AC.seq ?_
                refine AC.region ?_
                refine AO.yld _ (Yld.move rfl) rfl rfl rfl ?_
                refine AO.yld _ (Yld.move rfl) rfl rfl rfl ?_
                refine AO.callMk 10 rfl rfl Try.call10 rfl rfl rfl (laws_toSettingS_c (by first | assumption | omega)) (by simp [AV.Flat, AV.FlatL, PV.Flat, PV.FlatL]) (flat_map flatNV _) rfl rfl ?_
                refine AO.yld _ (Yld.call rfl rfl Try.call12 rfl rfl rfl (laws_eqSettingS_c (by first | assumption | omega)) rfl) rfl rfl rfl ?_
                refine AO.yld _ (Yld.not rfl) rfl rfl rfl ?_
                refine AO.nil ?_
                refine AC.cond _ rfl (fun c81 => ?_) (fun c81 => ?_)
                · -- c81 True
                  refine AC.seq ?_
                  refine AC.region ?_
                  refine AO.yld _ (Yld.assign rfl) rfl rfl rfl ?_
                  refine AO.nil ?_
                  refine Pure.ret Try.results3 (RVs.cons (RV.tmp rfl) RVs.nil) rfl ?_
                  first | rfl | (simp_all; done) | (simp_all; intros; omega) | grind
                · -- c81 False
                  refine AC.skip ?_
                  refine AC.seq ?_
                  refine AC.region ?_
                  refine AO.yld _ (Yld.assign rfl) rfl rfl rfl ?_
                  refine AO.nil ?_
                  refine AC.seq ?_
                  refine AC.region ?_
                  refine AO.yld _ (Yld.move rfl) rfl rfl rfl ?_
                  refine AO.yld _ (Yld.move rfl) rfl rfl rfl ?_
                  refine AO.callW (wantedN rfl) [4] [0] [0] rfl rfl Try.call13 rfl (laws_markSettingS_c (by omega) (by omega) (by first | assumption | omega)) (.own rfl) rfl (fun _ => rfl) ⟨rfl, trivial⟩ rfl (fun _ => rfl) (fun _ => rfl) (fun _ _ => ?_)
                  refine AO.yld _ (Yld.assign rfl) rfl rfl rfl ?_
                  refine AO.nil ?_
                  refine AC.seq ?_
                  refine AC.region ?_
                  refine AO.yld _ (Yld.move rfl) rfl rfl rfl ?_
                  refine AO.yld _ (Yld.move rfl) rfl rfl rfl ?_
                  refine AO.callW (wantedN rfl) [5] [0] [0] rfl rfl Try.call13 rfl (laws_markSettingS_c (by omega) (by omega) (by first | assumption | omega)) (.own rfl) rfl (fun _ => rfl) ⟨rfl, trivial⟩ rfl (fun _ => rfl) (fun _ => rfl) (fun _ _ => ?_)
                  refine AO.yld _ (Yld.assign rfl) rfl rfl rfl ?_
                  refine AO.nil ?_
                  refine AC.seq ?_
                  refine AC.region ?_
                  refine AO.yld _ (Yld.move rfl) rfl rfl rfl ?_
                  refine AO.yld _ (Yld.move rfl) rfl rfl rfl ?_
                  refine AO.callW (wantedN rfl) [6] [0] [0] rfl rfl Try.call13 rfl (laws_markSettingS_c (by omega) (by omega) (by first | assumption | omega)) (.own rfl) rfl (fun _ => rfl) ⟨rfl, trivial⟩ rfl (fun _ => rfl) (fun _ => rfl) (fun _ _ => ?_)
                  refine AO.yld _ (Yld.assign rfl) rfl rfl rfl ?_
                  refine AO.nil ?_
                  refine AC.seq ?_
                  refine AC.seq ?_
                  refine AC.region ?_
                  refine AO.yld _ (Yld.move rfl) rfl rfl rfl ?_
                  refine AO.yld _ (Yld.int rfl rfl rfl) rfl rfl rfl ?_
                  refine AO.yld _ (Yld.move rfl) rfl rfl rfl ?_
                  refine AO.splitAt 93 _ rfl (fun s93 => ?_) (fun s93 => ?_)
                  · -- s93 True
                    refine AO.skipF rfl rfl rfl rfl rfl ?_
                    refine AO.skipF rfl rfl rfl rfl rfl ?_
                    refine AO.skipF rfl rfl rfl rfl rfl ?_
                    refine AO.skipF rfl rfl rfl rfl rfl ?_
                    refine AO.yld _ (Yld.pickT rfl rfl) rfl rfl rfl ?_
                    refine AO.yld _ (Yld.move rfl) rfl rfl rfl ?_
                    refine AO.skipF rfl rfl rfl rfl rfl ?_
                    refine AO.skipF rfl rfl rfl rfl rfl ?_
                    refine AO.skipF rfl rfl rfl rfl rfl ?_
                    refine AO.yld _ (Yld.pickT rfl rfl) rfl rfl rfl ?_
                    refine AO.nil ?_
                    refine AC.condT rfl ?_
                    refine AC.seq ?_
                    refine AC.region ?_
                    refine AO.yld _ (Yld.assign rfl) rfl rfl rfl ?_
                    refine AO.nil ?_
                    refine Pure.ret Try.results3 (RVs.cons (RV.tmp rfl) RVs.nil) rfl ?_
                    first | rfl | (simp_all; done) | (simp_all; intros; omega) | grind
                  · -- s93 False
                    refine AO.yldG _ (Yld.move rfl) rfl rfl rfl rfl rfl ?_
                    refine AO.yldG _ (Yld.move rfl) rfl rfl rfl rfl rfl ?_
                    refine AO.yldG _ (Yld.call rfl rfl Try.call12 rfl rfl rfl (laws_eqSettingS_c (by first | assumption | omega)) rfl) rfl rfl rfl rfl rfl ?_
                    refine AO.yldG _ (Yld.not rfl) rfl rfl rfl rfl rfl ?_
                    refine AO.yld _ (Yld.pickF rfl rfl) rfl rfl rfl ?_
                    refine AO.yld _ (Yld.move rfl) rfl rfl rfl ?_
                    refine AO.splitAt 99 _ rfl (fun s99 => ?_) (fun s99 => ?_)
                    · -- s99 True
                      refine AO.skipF rfl rfl rfl rfl rfl ?_
                      refine AO.skipF rfl rfl rfl rfl rfl ?_
                      refine AO.skipF rfl rfl rfl rfl rfl ?_
                      refine AO.yld _ (Yld.pickT rfl rfl) rfl rfl rfl ?_
                      refine AO.nil ?_
                      refine AC.condT rfl ?_
                      refine AC.seq ?_
                      refine AC.region ?_
                      refine AO.yld _ (Yld.assign rfl) rfl rfl rfl ?_
                      refine AO.nil ?_
                      refine Pure.ret Try.results3 (RVs.cons (RV.tmp rfl) RVs.nil) rfl ?_
                      first | rfl | (simp_all; done) | (simp_all; intros; omega) | grind
                    · -- s99 False
                      refine AO.yldG _ (Yld.move rfl) rfl rfl rfl rfl rfl ?_
                      refine AO.yldG _ (Yld.move rfl) rfl rfl rfl rfl rfl ?_
                      refine AO.yldG _ (Yld.int rfl rfl rfl) rfl rfl rfl rfl rfl ?_
                      refine AO.yld _ (Yld.pickF rfl rfl) rfl rfl rfl ?_
                      refine AO.nil ?_
                      refine AC.cond _ rfl (fun c103 => ?_) (fun c103 => ?_)
                      · -- c103 True
                        refine AC.seq ?_
                        refine AC.region ?_
                        refine AO.yld _ (Yld.assign rfl) rfl rfl rfl ?_
                        refine AO.nil ?_
                        refine Pure.ret Try.results3 (RVs.cons (RV.tmp rfl) RVs.nil) rfl ?_
                        first | rfl | (simp_all; done) | (simp_all; intros; omega) | grind
                      · -- c103 False
                        refine AC.skip ?_
                        refine AC.seq ?_
                        refine AC.region ?_
                        refine AO.yld _ (Yld.assign rfl) rfl rfl rfl ?_
                        refine AO.nil ?_
                        refine AC.seq ?_
                        refine AC.region ?_
                        refine AO.yld _ (Yld.move rfl) rfl rfl rfl ?_
                        refine AO.yld _ (Yld.move rfl) rfl rfl rfl ?_
                        refine AO.callW (wantedN rfl) [7] [0] [0] rfl rfl Try.call13 rfl (laws_markSettingS_c (by omega) (by omega) (by first | assumption | omega)) (.own rfl) rfl (fun _ => rfl) ⟨rfl, trivial⟩ rfl (fun _ => rfl) (fun _ => rfl) (fun _ _ => ?_)
                        refine AO.yld _ (Yld.assign rfl) rfl rfl rfl ?_
                        refine AO.nil ?_
                        refine AC.seq ?_
                        refine AC.region ?_
                        refine AO.yld _ (Yld.assign rfl) rfl rfl rfl ?_
                        refine AO.nil ?_
                        refine AC.seq ?_
                        refine AC.region ?_
                        refine AO.yld _ (Yld.move rfl) rfl rfl rfl ?_
                        refine AO.yld _ (Yld.move rfl) rfl rfl rfl ?_
                        refine AO.yld _ (Yld.call rfl rfl Try.call14 rfl rfl rfl (laws_heldSettingS_c (by omega) (by omega) (by first | assumption | omega)) rfl) rfl rfl rfl ?_
                        refine AO.yld _ (Yld.assign rfl) rfl rfl rfl ?_
                        refine AO.nil ?_
                        refine AC.seq ?_
                        refine AC.seq ?_
                        refine AC.region ?_
                        refine AO.yld _ (Yld.move rfl) rfl rfl rfl ?_
                        refine AO.yld _ (Yld.int rfl rfl rfl) rfl rfl rfl ?_
                        refine AO.nil ?_
                        refine AC.cond _ rfl (fun c111 => ?_) (fun c111 => ?_)
                        · -- c111 True
                          refine AC.seq ?_
                          refine AC.region ?_
                          refine AO.yld _ (Yld.assign rfl) rfl rfl rfl ?_
                          refine AO.nil ?_
                          refine Pure.ret Try.results3 (RVs.cons (RV.tmp rfl) RVs.nil) rfl ?_
                          first | rfl | (simp_all; done) | (simp_all; intros; omega) | grind
                        · -- c111 False
                          refine AC.skip ?_
                          refine AC.seq ?_
                          refine AC.seq ?_
                          refine AC.region ?_
                          refine AO.yld _ (Yld.move rfl) rfl rfl rfl ?_
                          refine AO.yld _ (Yld.move rfl) rfl rfl rfl ?_
                          refine AO.yld _ (Yld.int rfl rfl rfl) rfl rfl rfl ?_
                          refine AO.nil ?_
                          refine AC.cond _ rfl (fun c114 => ?_) (fun c114 => ?_)
                          · -- c114 True
                            refine AC.seq ?_
                            refine AC.region ?_
                            refine AO.yld _ (Yld.assign rfl) rfl rfl rfl ?_
                            refine AO.nil ?_
                            refine Pure.ret Try.results3 (RVs.cons (RV.tmp rfl) RVs.nil) rfl ?_
                            first | rfl | (simp_all; done) | (simp_all; intros; omega) | grind
                          · -- c114 False
                            refine AC.skip ?_
                            refine AC.seq ?_
                            refine AC.region ?_
                            refine AO.yld _ (Yld.move rfl) rfl rfl rfl ?_
                            refine AO.callMk 11 rfl rfl Try.call10 rfl rfl rfl (laws_toSettingS_c (by first | assumption | omega)) (by simp [AV.Flat, AV.FlatL, PV.Flat, PV.FlatL]) (flat_map flatNV _) rfl rfl ?_
                            refine AO.yld _ (Yld.move rfl) rfl rfl rfl ?_
                            refine AO.callMk 12 rfl rfl Try.call10 rfl rfl rfl (laws_toSettingS_c (by first | assumption | omega)) (by simp [AV.Flat, AV.FlatL, PV.Flat, PV.FlatL]) (flat_map flatNV _) rfl rfl ?_
                            refine AO.yld _ (Yld.move rfl) rfl rfl rfl ?_
                            refine AO.callMk 13 rfl rfl Try.call10 rfl rfl rfl (laws_toSettingS_c (by first | assumption | omega)) (by simp [AV.Flat, AV.FlatL, PV.Flat, PV.FlatL]) (flat_map flatNV _) rfl rfl ?_
                            refine AO.callW (wantedN rfl) [14] [] [0] rfl rfl Try.call11 rfl (impl_MergeStates_c (by first | assumption | omega) (by first | assumption | omega) (by first | assumption | omega) (by assumption) (by assumption) (by assumption)) (.flat (.view rfl rfl (.view rfl rfl (.view rfl rfl .nil))) (fun _ => by simp [AV.Flat, AV.FlatL, PV.Flat, PV.FlatL]) (fun _ => ⟨flat_map flatNV _, trivial⟩)) rfl (fun _ => rfl) trivial rfl (fun _ => rfl) (fun _ => rfl) (fun _ _ => ?_)
                            refine AO.yld _ (Yld.move rfl) rfl rfl rfl ?_
                            refine AO.yld _ (Yld.extract rfl rfl rfl) rfl rfl rfl ?_
                            refine AO.yld _ (Yld.extract rfl rfl rfl) rfl rfl rfl ?_
                            refine AO.yld _ (Yld.assign rfl) rfl rfl rfl ?_
                            refine AO.yld _ (Yld.assign rfl) rfl rfl rfl ?_
                            refine AO.nil ?_
                            refine AC.seq ?_
                            refine AC.seq ?_
                            refine AC.region ?_
                            refine AO.yld _ (Yld.move rfl) rfl rfl rfl ?_
                            refine AO.yld _ (Yld.move rfl) rfl rfl rfl ?_
                            refine AO.yld _ (Yld.call rfl rfl Try.call12 rfl rfl rfl (laws_eqSettingS_c (by first | assumption | omega)) rfl) rfl rfl rfl ?_
                            refine AO.yld _ (Yld.not rfl) rfl rfl rfl ?_
                            refine AO.yld _ (Yld.move rfl) rfl rfl rfl ?_
                            refine AO.splitAt 129 _ rfl (fun s129 => ?_) (fun s129 => ?_)
                            · -- s129 True
                              refine AO.skipF rfl rfl rfl rfl rfl ?_
                              refine AO.skipF rfl rfl rfl rfl rfl ?_
                              refine AO.skipF rfl rfl rfl rfl rfl ?_
                              refine AO.yld _ (Yld.pickT rfl rfl) rfl rfl rfl ?_
                              refine AO.nil ?_
                              refine AC.condT rfl ?_
                              refine AC.seq ?_
                              refine AC.region ?_
                              refine AO.yld _ (Yld.assign rfl) rfl rfl rfl ?_
                              refine AO.nil ?_
                              refine Pure.ret Try.results3 (RVs.cons (RV.tmp rfl) RVs.nil) rfl ?_
                              first | rfl | (simp_all; done) | (simp_all; intros; omega) | grind
                            · -- s129 False
                              refine AO.yldG _ (Yld.move rfl) rfl rfl rfl rfl rfl ?_
                              refine AO.yldG _ (Yld.move rfl) rfl rfl rfl rfl rfl ?_
                              refine AO.yldG _ (Yld.int rfl rfl rfl) rfl rfl rfl rfl rfl ?_
                              refine AO.yld _ (Yld.pickF rfl rfl) rfl rfl rfl ?_
                              refine AO.nil ?_
                              refine AC.cond _ rfl (fun c133 => ?_) (fun c133 => ?_)
                              · -- c133 True
                                refine AC.seq ?_
                                refine AC.region ?_
                                refine AO.yld _ (Yld.assign rfl) rfl rfl rfl ?_
                                refine AO.nil ?_
                                refine Pure.ret Try.results3 (RVs.cons (RV.tmp rfl) RVs.nil) rfl ?_
                                first | rfl | (simp_all; done) | (simp_all; intros; omega) | grind
                              · -- c133 False
                                refine AC.skip ?_
                                refine AC.seq ?_
                                refine AC.region ?_
                                refine AO.yld _ (Yld.assign rfl) rfl rfl rfl ?_
                                refine AO.nil ?_
                                refine AC.seq ?_
                                refine AC.region ?_
                                refine AO.yld _ (Yld.move rfl) rfl rfl rfl ?_
                                refine AO.yld _ (Yld.move rfl) rfl rfl rfl ?_
                                refine AO.yld _ (Yld.call rfl rfl Try.call14 rfl rfl rfl (laws_heldSettingS_c (by omega) (by omega) (by first | assumption | omega)) rfl) rfl rfl rfl ?_
                                refine AO.yld _ (Yld.assign rfl) rfl rfl rfl ?_
                                refine AO.nil ?_
                                refine AC.seq ?_
                                refine AC.seq ?_
                                refine AC.region ?_
                                refine AO.yld _ (Yld.move rfl) rfl rfl rfl ?_
                                refine AO.yld _ (Yld.int rfl rfl rfl) rfl rfl rfl ?_
                                refine AO.nil ?_
                                refine AC.cond _ rfl (fun c138 => ?_) (fun c138 => ?_)
                                · -- c138 True
                                  refine AC.seq ?_
                                  refine AC.region ?_
                                  refine AO.yld _ (Yld.assign rfl) rfl rfl rfl ?_
                                  refine AO.nil ?_
                                  refine Pure.ret Try.results3 (RVs.cons (RV.tmp rfl) RVs.nil) rfl ?_
                                  first | rfl | (simp_all; done) | (simp_all; intros; omega) | grind
                                · -- c138 False
                                  refine AC.skip ?_
                                  refine AC.seq ?_
                                  refine AC.seq ?_
                                  refine AC.region ?_
                                  refine AO.yld _ (Yld.move rfl) rfl rfl rfl ?_
                                  refine AO.yld _ (Yld.move rfl) rfl rfl rfl ?_
                                  refine AO.yld _ (Yld.int rfl rfl rfl) rfl rfl rfl ?_
                                  refine AO.nil ?_
                                  refine AC.cond _ rfl (fun c141 => ?_) (fun c141 => ?_)
                                  · -- c141 True
                                    refine AC.seq ?_
                                    refine AC.region ?_
                                    refine AO.yld _ (Yld.assign rfl) rfl rfl rfl ?_
                                    refine AO.nil ?_
                                    refine Pure.ret Try.results3 (RVs.cons (RV.tmp rfl) RVs.nil) rfl ?_
                                    first | rfl | (simp_all; done) | (simp_all; intros; omega) | grind
                                  · -- c141 False
                                    refine AC.skip ?_
                                    refine AC.seq ?_
                                    refine AC.region ?_
                                    refine AO.yld _ (Yld.assign rfl) rfl rfl rfl ?_
                                    refine AO.nil ?_
                                    refine Pure.ret Try.results3 (RVs.cons (RV.tmp rfl) RVs.nil) rfl ?_
                                    first | rfl | (simp_all; done) | (simp_all; intros; omega) | grind

end Go.Proofs.Ytjifkcajmmchdaa
