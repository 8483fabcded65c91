/- Contracts of functions of the program, each by a walk of its text in the calculus V. -/
import Derived.Test.YtaanabofedickaaR3C
set_option linter.all false
set_option linter.unusedSimpArgs false
set_option linter.unnecessarySimpa false
set_option linter.unusedVariables false
namespace Go.Proofs.Ytaanabofedickaa
open Go Go.V

theorem laws_FnExactValidHistory_c {xs : List Ver} (hb_xs : xs.length ≤ 9223372036854775807) (hw_xs : ∀ x ∈ xs, VerWf x) :
    Pure Try.prog 3 [.sl 4 (xs.map encVer)] (.v (.bool true)) := by
  refine Pure.intro Try.func3 rfl Try.ntmps3 rfl rfl (fun w => ?_)
  refine AC.seq ?_
  refine AC.region ?_
  refine AO.yld _ (Yld.assign rfl) rfl rfl rfl ?_
  refine AO.nil ?_
  refine AC.seq ?_
  refine AC.region ?_
  refine AO.yld _ (Yld.assign rfl) rfl rfl rfl ?_
  refine AO.nil ?_
  refine AC.seq ?_
  refine AC.region ?_
  refine AO.yld _ (Yld.move rfl) rfl rfl rfl ?_
  refine AO.yld _ (Yld.move rfl) rfl rfl rfl ?_
  refine AO.callW (wantedN rfl) [] [] [] rfl rfl Try.call13 rfl (laws_szVersionS_c (by assumption) (by assumption) (by omega) (by omega)) (.own rfl) rfl (fun _ => rfl) trivial rfl (fun _ => rfl) (fun _ => rfl) (fun r9 hr9 => ?_)
  refine AO.yld _ (Yld.assign rfl) rfl rfl rfl ?_
  refine AO.nil ?_
  refine AC.seq ?_
  refine AC.seq ?_
  refine AC.region ?_
  refine AO.yld _ (Yld.move rfl) rfl rfl rfl ?_
  refine AO.yld _ (Yld.int rfl rfl rfl) rfl rfl rfl ?_
  refine AO.nil ?_
  refine AC.cond _ rfl (fun c11 => ?_) (fun c11 => ?_)
  · -- c11 True
    refine AC.seq ?_
    refine AC.region ?_
    refine AO.yld _ (Yld.assign rfl) rfl rfl rfl ?_
    refine AO.nil ?_
    refine Pure.ret Try.results3 (RVs.cons (RV.tmp rfl) RVs.nil) rfl ?_
    first | rfl | (simp_all; done) | (simp_all; intros; omega) | grind
  · -- c11 False
    have hg_xs : VersGood xs ∧ 0 ≤ r9 ∧ r9 ≤ 1048576 := by rcases hr9 with h | h; exact absurd h (by simpa using c11); exact ⟨h.1, h.2.1, by omega⟩
    have hgg_xs := hg_xs.1
    refine AC.skip ?_
    refine AC.seq ?_
    refine AC.region ?_
    refine AO.yld _ (Yld.move rfl) rfl rfl rfl ?_
    refine AO.callW (wantedN rfl) [0] [] [0] rfl rfl Try.call15 rfl (laws_toVersionS_c (by assumption)) (.own rfl) rfl (fun _ => rfl) trivial rfl (fun _ => rfl) (fun _ => rfl) (fun _ _ => ?_)
    refine AO.yld _ (Yld.call rfl rfl Try.call14 rfl rfl rfl (spec_ValidHistory_c (by assumption)) rfl) rfl rfl rfl ?_
    refine AO.yld _ (Yld.assign rfl) rfl rfl rfl ?_
    refine AO.nil ?_
    refine AC.seq ?_
    refine AC.region ?_
    refine AO.yld _ (Yld.move rfl) rfl rfl rfl ?_
    refine AO.callW (wantedN rfl) [1] [] [0] rfl rfl Try.call15 rfl (laws_toVersionS_c (by assumption)) (.own rfl) rfl (fun _ => rfl) trivial rfl (fun _ => rfl) (fun _ => rfl) (fun _ _ => ?_)
    refine AO.yld _ (Yld.assign rfl) rfl rfl rfl ?_
    refine AO.nil ?_
    refine AC.seq ?_
    refine AC.region ?_
    refine AO.yld _ (Yld.move rfl) rfl rfl rfl ?_
    refine AO.yld _ (Yld.call rfl rfl Try.call16 rfl rfl rfl (impl_ValidHistory_c (by assumption)) rfl) rfl rfl rfl ?_
    refine AO.yld _ (Yld.assign rfl) rfl rfl rfl ?_
    refine AO.nil ?_
    refine AC.seq ?_
    refine AC.seq ?_
    refine AC.region ?_
    refine AO.yld _ (Yld.move rfl) rfl rfl rfl ?_
    refine AO.yld _ (Yld.move rfl) rfl rfl rfl ?_
    refine AO.yld _ (Yld.bne Try.underlying4 rfl rfl) rfl rfl rfl ?_
    refine AO.nil ?_
    refine AC.cond _ rfl (fun c21 => ?_) (fun c21 => ?_)
    · -- c21 True
      refine AC.seq ?_
      refine AC.region ?_
      refine AO.yld _ (Yld.assign rfl) rfl rfl rfl ?_
      refine AO.nil ?_
      refine Pure.ret Try.results3 (RVs.cons (RV.tmp rfl) RVs.nil) rfl ?_
      first | rfl | (simp_all; done) | (simp_all; intros; omega) | grind
    · -- c21 False
      refine AC.skip ?_
      refine AC.seq ?_
      refine AC.seq ?_
      refine AC.region ?_
      refine AO.yld _ (Yld.move rfl) rfl rfl rfl ?_
      refine AO.yld _ (Yld.move rfl) rfl rfl rfl ?_
      refine AO.callW (wantedN rfl) [2] [] [0] rfl rfl Try.call15 rfl (laws_toVersionS_c (by assumption)) (.own rfl) rfl (fun _ => rfl) trivial rfl (fun _ => rfl) (fun _ => rfl) (fun _ _ => ?_)
      refine AO.yld _ (Yld.call rfl rfl Try.call17 rfl rfl rfl (laws_eqVersionS_c (by assumption)) rfl) rfl rfl rfl ?_
      refine AO.yld _ (Yld.not rfl) rfl rfl rfl ?_
      refine AO.nil ?_
      refine AC.cond _ rfl (fun c26 => ?_) (fun c26 => ?_)
      · -- c26 True
        refine AC.seq ?_
        refine AC.region ?_
        refine AO.yld _ (Yld.assign rfl) rfl rfl rfl ?_
        refine AO.nil ?_
        refine Pure.ret Try.results3 (RVs.cons (RV.tmp rfl) RVs.nil) rfl ?_
        first | rfl | (simp_all; done) | (simp_all; intros; omega) | grind
      · -- c26 False
        refine AC.skip ?_
        refine AC.seq ?_
        refine AC.region ?_
        refine AO.yld _ (Yld.assign rfl) rfl rfl rfl ?_
        refine AO.nil ?_
        refine Pure.ret Try.results3 (RVs.cons (RV.tmp rfl) RVs.nil) rfl ?_
        first | rfl | (simp_all; done) | (simp_all; intros; omega) | grind

theorem laws_FnExactDiffStates_c {a : List NV} (hb_a : a.length ≤ 9223372036854775807) (hs_a : ∀ x ∈ a, (x.name).length ≤ 9223372036854775807) {b : List NV} (hb_b : b.length ≤ 9223372036854775807) (hs_b : ∀ x ∈ b, (x.name).length ≤ 9223372036854775807) :
    Pure Try.prog 7 [.sl 2 (a.map encNV), .sl 2 (b.map encNV)] (.v (.bool true)) := by
  have hl9 := diff_len a b
  refine Pure.intro Try.func7 rfl Try.ntmps7 rfl rfl (fun w => ?_)
  refine AC.seq ?_
  refine AC.region ?_
  refine AO.yld _ (Yld.assign rfl) rfl rfl rfl ?_
  refine AO.nil ?_
  refine AC.seq ?_
  refine AC.region ?_
  refine AO.yld _ (Yld.assign rfl) rfl rfl rfl ?_
  refine AO.nil ?_
  refine AC.seq ?_
  refine AC.region ?_
  refine AO.yld _ (Yld.move rfl) rfl rfl rfl ?_
  refine AO.yld _ (Yld.move rfl) rfl rfl rfl ?_
  refine AO.yld _ (Yld.call rfl rfl Try.call42 rfl rfl rfl (laws_szSettingS_c (by omega) (by omega) (by first | assumption | omega) (by assumption)) rfl) rfl rfl rfl ?_
  refine AO.yld _ (Yld.assign rfl) rfl rfl rfl ?_
  refine AO.nil ?_
  refine AC.seq ?_
  refine AC.seq ?_
  refine AC.region ?_
  refine AO.yld _ (Yld.move rfl) rfl rfl rfl ?_
  refine AO.yld _ (Yld.int rfl rfl rfl) rfl rfl rfl ?_
  refine AO.nil ?_
  refine AC.cond _ rfl (fun c21 => ?_) (fun c21 => ?_)
  · -- c21 True
    refine AC.seq ?_
    refine AC.region ?_
    refine AO.yld _ (Yld.assign rfl) rfl rfl rfl ?_
    refine AO.nil ?_
    refine Pure.ret Try.results7 (RVs.cons (RV.tmp rfl) RVs.nil) rfl ?_
    first | rfl | (simp_all; done) | (simp_all; intros; omega) | grind
  · -- c21 False
    have hz_a := szAll_ge c21
    have hp_a := lens_nonneg (f := NV.name) (xs := a)
    have hn_a : a.length ≤ 1048576 := by omega
    have ht_a : ∀ x ∈ a, (x.name).length ≤ 1048576 := fun x hx => by have := len_le_lens (f := NV.name) hx; omega
    refine AC.skip ?_
    refine AC.seq ?_
    refine AC.region ?_
    refine AO.yld _ (Yld.move rfl) rfl rfl rfl ?_
    refine AO.yld _ (Yld.move rfl) rfl rfl rfl ?_
    refine AO.yld _ (Yld.call rfl rfl Try.call42 rfl rfl rfl (laws_szSettingS_c (by omega) (by omega) (by first | assumption | omega) (by assumption)) rfl) rfl rfl rfl ?_
    refine AO.yld _ (Yld.assign rfl) rfl rfl rfl ?_
    refine AO.nil ?_
    refine AC.seq ?_
    refine AC.seq ?_
    refine AC.region ?_
    refine AO.yld _ (Yld.move rfl) rfl rfl rfl ?_
    refine AO.yld _ (Yld.int rfl rfl rfl) rfl rfl rfl ?_
    refine AO.nil ?_
    refine AC.cond _ rfl (fun c26 => ?_) (fun c26 => ?_)
    · -- c26 True
      refine AC.seq ?_
      refine AC.region ?_
      refine AO.yld _ (Yld.assign rfl) rfl rfl rfl ?_
      refine AO.nil ?_
      refine Pure.ret Try.results7 (RVs.cons (RV.tmp rfl) RVs.nil) rfl ?_
      first | rfl | (simp_all; done) | (simp_all; intros; omega) | grind
    · -- c26 False
      have hz_b := szAll_ge c26
      have hp_b := lens_nonneg (f := NV.name) (xs := b)
      have hn_b : b.length ≤ 1048576 := by omega
      have ht_b : ∀ x ∈ b, (x.name).length ≤ 1048576 := fun x hx => by have := len_le_lens (f := NV.name) hx; omega
      refine AC.skip ?_
      refine AC.seq ?_
      refine AC.region ?_
      refine AO.yld _ (Yld.move rfl) rfl rfl rfl ?_
      refine AO.callMk 0 rfl rfl Try.call44 rfl rfl rfl (laws_toSettingS_c (by first | assumption | omega)) (by simp [AV.Flat, AV.FlatL, PV.Flat, PV.FlatL]) (flat_map flatNV _) rfl rfl ?_
      refine AO.yld _ (Yld.move rfl) rfl rfl rfl ?_
      refine AO.callMk 1 rfl rfl Try.call44 rfl rfl rfl (laws_toSettingS_c (by first | assumption | omega)) (by simp [AV.Flat, AV.FlatL, PV.Flat, PV.FlatL]) (flat_map flatNV _) rfl rfl ?_
      refine AO.callW (wantedN rfl) [2] [] [0] rfl rfl Try.call43 rfl (spec_DiffStates_c (by first | assumption | omega) (by assumption) (by first | assumption | omega) (by assumption)) (.flat (.view rfl rfl (.view rfl rfl .nil)) (fun _ => by simp [AV.Flat, AV.FlatL, PV.Flat, PV.FlatL]) (fun _ => ⟨flat_map flatChg _, trivial⟩)) rfl (fun _ => rfl) trivial rfl (fun _ => rfl) (fun _ => rfl) (fun _ _ => ?_)
      refine AO.yld _ (Yld.move rfl) rfl rfl rfl ?_
      refine AO.yld _ (Yld.extract rfl rfl rfl) rfl rfl rfl ?_
      refine AO.yld _ (Yld.extract rfl rfl rfl) rfl rfl rfl ?_
      refine AO.yld _ (Yld.assign rfl) rfl rfl rfl ?_
      refine AO.yld _ (Yld.assign rfl) rfl rfl rfl ?_
      refine AO.nil ?_
      refine AC.seq ?_
      refine AC.region ?_
      refine AO.yld _ (Yld.move rfl) rfl rfl rfl ?_
      refine AO.callMk 3 rfl rfl Try.call44 rfl rfl rfl (laws_toSettingS_c (by first | assumption | omega)) (by simp [AV.Flat, AV.FlatL, PV.Flat, PV.FlatL]) (flat_map flatNV _) rfl rfl ?_
      refine AO.yld _ (Yld.assign rfl) rfl rfl rfl ?_
      refine AO.nil ?_
      refine AC.seq ?_
      refine AC.region ?_
      refine AO.yld _ (Yld.move rfl) rfl rfl rfl ?_
      refine AO.callMk 4 rfl rfl Try.call44 rfl rfl rfl (laws_toSettingS_c (by first | assumption | omega)) (by simp [AV.Flat, AV.FlatL, PV.Flat, PV.FlatL]) (flat_map flatNV _) rfl rfl ?_
      refine AO.yld _ (Yld.assign rfl) rfl rfl rfl ?_
      refine AO.nil ?_
      refine AC.seq ?_
      refine AC.region ?_
      refine AO.yld _ (Yld.move rfl) rfl rfl rfl ?_
      refine AO.yld _ (Yld.move rfl) rfl rfl rfl ?_
      refine AO.callW (wantedN rfl) [5] [] [0] rfl rfl Try.call45 rfl (impl_DiffStates_c (by first | assumption | omega) (by assumption) (by first | assumption | omega) (by assumption)) (.flat (.view rfl rfl (.view rfl rfl .nil)) (fun _ => by simp [AV.Flat, AV.FlatL, PV.Flat, PV.FlatL]) (fun _ => ⟨flat_map flatChg _, trivial⟩)) rfl (fun _ => rfl) trivial rfl (fun _ => rfl) (fun _ => rfl) (fun _ _ => ?_)
      refine AO.yld _ (Yld.move rfl) rfl rfl rfl ?_
      refine AO.yld _ (Yld.extract rfl rfl rfl) rfl rfl rfl ?_
      refine AO.yld _ (Yld.extract rfl rfl rfl) rfl rfl rfl ?_
      refine AO.yld _ (Yld.assign rfl) rfl rfl rfl ?_
      refine AO.yld _ (Yld.assign rfl) rfl rfl rfl ?_
      refine AO.nil ?_
      refine AC.seq ?_
      refine AC.seq ?_
      refine AC.region ?_
      refine AO.yld _ (Yld.move rfl) rfl rfl rfl ?_
      refine AO.yld _ (Yld.move rfl) rfl rfl rfl ?_
      refine AO.yld _ (Yld.call rfl rfl Try.call46 rfl rfl rfl (laws_eqChangeS_c (by first | assumption | omega)) rfl) rfl rfl rfl ?_
      refine AO.yld _ (Yld.not rfl) rfl rfl rfl ?_
      refine AO.yld _ (Yld.move rfl) rfl rfl rfl ?_
      refine AO.splitAt 49 _ rfl (fun s49 => ?_) (fun s49 => ?_)
      · -- s49 True
        refine AO.skipF rfl rfl rfl rfl rfl ?_
        refine AO.skipF rfl rfl rfl rfl rfl ?_
        refine AO.skipF rfl rfl rfl rfl rfl ?_
        refine AO.yld _ (Yld.pickT rfl rfl) rfl rfl rfl ?_
        refine AO.nil ?_
        refine AC.condT rfl ?_
        refine AC.seq ?_
        refine AC.region ?_
        refine AO.yld _ (Yld.assign rfl) rfl rfl rfl ?_
        refine AO.nil ?_
        refine Pure.ret Try.results7 (RVs.cons (RV.tmp rfl) RVs.nil) rfl ?_
        first | rfl | (simp_all; done) | (simp_all; intros; omega) | grind
      · -- s49 False
        refine AO.yldG _ (Yld.move rfl) rfl rfl rfl rfl rfl ?_
        refine AO.yldG _ (Yld.move rfl) rfl rfl rfl rfl rfl ?_
        refine AO.yldG _ (Yld.int rfl rfl rfl) rfl rfl rfl rfl rfl ?_
        refine AO.yld _ (Yld.pickF rfl rfl) rfl rfl rfl ?_
        refine AO.nil ?_
        refine AC.cond _ rfl (fun c53 => ?_) (fun c53 => ?_)
        · -- c53 True
          refine AC.seq ?_
          refine AC.region ?_
          refine AO.yld _ (Yld.assign rfl) rfl rfl rfl ?_
          refine AO.nil ?_
          refine Pure.ret Try.results7 (RVs.cons (RV.tmp rfl) RVs.nil) rfl ?_
          first | rfl | (simp_all; done) | (simp_all; intros; omega) | grind
        · -- c53 False
          refine AC.skip ?_
          refine AC.seq ?_
          refine AC.seq ?_
          refine AC.region ?_
          refine AO.yld _ (Yld.move rfl) rfl rfl rfl ?_
          refine AO.yld _ (Yld.move rfl) rfl rfl rfl ?_
          refine AO.callMk 6 rfl rfl Try.call44 rfl rfl rfl (laws_toSettingS_c (by first | assumption | omega)) (by simp [AV.Flat, AV.FlatL, PV.Flat, PV.FlatL]) (flat_map flatNV _) rfl rfl ?_
          refine AO.yld _ (Yld.call rfl rfl Try.call47 rfl rfl rfl (laws_eqSettingS_c (by first | assumption | omega)) rfl) rfl rfl rfl ?_
          refine AO.yld _ (Yld.not rfl) rfl rfl rfl ?_
          refine AO.nil ?_
          refine AC.cond _ rfl (fun c58 => ?_) (fun c58 => ?_)
          · -- c58 True
            refine AC.seq ?_
            refine AC.region ?_
            refine AO.yld _ (Yld.assign rfl) rfl rfl rfl ?_
            refine AO.nil ?_
            refine Pure.ret Try.results7 (RVs.cons (RV.tmp rfl) RVs.nil) rfl ?_
            first | rfl | (simp_all; done) | (simp_all; intros; omega) | grind
          · -- c58 False
            refine AC.skip ?_
            refine AC.seq ?_
            refine AC.seq ?_
            refine AC.region ?_
            refine AO.yld _ (Yld.move rfl) rfl rfl rfl ?_
            refine AO.yld _ (Yld.move rfl) rfl rfl rfl ?_
            refine AO.callMk 7 rfl rfl Try.call44 rfl rfl rfl (laws_toSettingS_c (by first | assumption | omega)) (by simp [AV.Flat, AV.FlatL, PV.Flat, PV.FlatL]) (flat_map flatNV _) rfl rfl ?_
            refine AO.yld _ (Yld.call rfl rfl Try.call47 rfl rfl rfl (laws_eqSettingS_c (by first | assumption | omega)) rfl) rfl rfl rfl ?_
            refine AO.yld _ (Yld.not rfl) rfl rfl rfl ?_
            refine AO.nil ?_
            refine AC.cond _ rfl (fun c63 => ?_) (fun c63 => ?_)
            · -- c63 True
              refine AC.seq ?_
              refine AC.region ?_
              refine AO.yld _ (Yld.assign rfl) rfl rfl rfl ?_
              refine AO.nil ?_
              refine Pure.ret Try.results7 (RVs.cons (RV.tmp rfl) RVs.nil) rfl ?_
              first | rfl | (simp_all; done) | (simp_all; intros; omega) | grind
            · -- c63 False
              refine AC.skip ?_
              refine AC.seq ?_
              refine AC.region ?_
              refine AO.yld _ (Yld.assign rfl) rfl rfl rfl ?_
              refine AO.nil ?_
              refine AC.seq ?_
              refine AC.region ?_
              refine AO.yld _ (Yld.move rfl) rfl rfl rfl ?_
              refine AO.yld _ (Yld.move rfl) rfl rfl rfl ?_
              refine AO.callW (wantedN rfl) [3] [0] [0] rfl rfl Try.call48 rfl (laws_markSettingS_c (by omega) (by omega) (by first | assumption | omega)) (.own rfl) rfl (fun _ => rfl) ⟨rfl, trivial⟩ rfl (fun _ => rfl) (fun _ => rfl) (fun _ _ => ?_)
              refine AO.yld _ (Yld.assign rfl) rfl rfl rfl ?_
              refine AO.nil ?_
              refine AC.seq ?_
              refine AC.region ?_
              refine AO.yld _ (Yld.move rfl) rfl rfl rfl ?_
              refine AO.yld _ (Yld.move rfl) rfl rfl rfl ?_
              refine AO.callW (wantedN rfl) [4] [0] [0] rfl rfl Try.call48 rfl (laws_markSettingS_c (by omega) (by omega) (by first | assumption | omega)) (.own rfl) rfl (fun _ => rfl) ⟨rfl, trivial⟩ rfl (fun _ => rfl) (fun _ => rfl) (fun _ _ => ?_)
              refine AO.yld _ (Yld.assign rfl) rfl rfl rfl ?_
              refine AO.nil ?_
              refine AC.seq ?_
              refine AC.seq ?_
              refine AC.region ?_
              refine AO.yld _ (Yld.move rfl) rfl rfl rfl ?_
              refine AO.yld _ (Yld.int rfl rfl rfl) rfl rfl rfl ?_
              refine AO.yld _ (Yld.move rfl) rfl rfl rfl ?_
              refine AO.splitAt 72 _ rfl (fun s72 => ?_) (fun s72 => ?_)
              · -- s72 True
                refine AO.skipF rfl rfl rfl rfl rfl ?_
                refine AO.skipF rfl rfl rfl rfl rfl ?_
                refine AO.skipF rfl rfl rfl rfl rfl ?_
                refine AO.skipF rfl rfl rfl rfl rfl ?_
                refine AO.yld _ (Yld.pickT rfl rfl) rfl rfl rfl ?_
                refine AO.yld _ (Yld.move rfl) rfl rfl rfl ?_
                refine AO.skipF rfl rfl rfl rfl rfl ?_
                refine AO.skipF rfl rfl rfl rfl rfl ?_
                refine AO.skipF rfl rfl rfl rfl rfl ?_
                refine AO.yld _ (Yld.pickT rfl rfl) rfl rfl rfl ?_
                refine AO.nil ?_
                refine AC.condT rfl ?_
                refine AC.seq ?_
                refine AC.region ?_
                refine AO.yld _ (Yld.assign rfl) rfl rfl rfl ?_
                refine AO.nil ?_
                refine Pure.ret Try.results7 (RVs.cons (RV.tmp rfl) RVs.nil) rfl ?_
                first | rfl | (simp_all; done) | (simp_all; intros; omega) | grind
              · -- s72 False
                refine AO.yldG _ (Yld.move rfl) rfl rfl rfl rfl rfl ?_
                refine AO.yldG _ (Yld.move rfl) rfl rfl rfl rfl rfl ?_
                refine AO.yldG _ (Yld.call rfl rfl Try.call46 rfl rfl rfl (laws_eqChangeS_c (by first | assumption | omega)) rfl) rfl rfl rfl rfl rfl ?_
                refine AO.yldG _ (Yld.not rfl) rfl rfl rfl rfl rfl ?_
                refine AO.yld _ (Yld.pickF rfl rfl) rfl rfl rfl ?_
                refine AO.yld _ (Yld.move rfl) rfl rfl rfl ?_
                refine AO.splitAt 78 _ rfl (fun s78 => ?_) (fun s78 => ?_)
                · -- s78 True
                  refine AO.skipF rfl rfl rfl rfl rfl ?_
                  refine AO.skipF rfl rfl rfl rfl rfl ?_
                  refine AO.skipF rfl rfl rfl rfl rfl ?_
                  refine AO.yld _ (Yld.pickT rfl rfl) rfl rfl rfl ?_
                  refine AO.nil ?_
                  refine AC.condT rfl ?_
                  refine AC.seq ?_
                  refine AC.region ?_
                  refine AO.yld _ (Yld.assign rfl) rfl rfl rfl ?_
                  refine AO.nil ?_
                  refine Pure.ret Try.results7 (RVs.cons (RV.tmp rfl) RVs.nil) rfl ?_
                  first | rfl | (simp_all; done) | (simp_all; intros; omega) | grind
                · -- s78 False
                  refine AO.yldG _ (Yld.move rfl) rfl rfl rfl rfl rfl ?_
                  refine AO.yldG _ (Yld.move rfl) rfl rfl rfl rfl rfl ?_
                  refine AO.yldG _ (Yld.int rfl rfl rfl) rfl rfl rfl rfl rfl ?_
                  refine AO.yld _ (Yld.pickF rfl rfl) rfl rfl rfl ?_
                  refine AO.nil ?_
                  refine AC.cond _ rfl (fun c82 => ?_) (fun c82 => ?_)
                  · -- c82 True
                    refine AC.seq ?_
                    refine AC.region ?_
                    refine AO.yld _ (Yld.assign rfl) rfl rfl rfl ?_
                    refine AO.nil ?_
                    refine Pure.ret Try.results7 (RVs.cons (RV.tmp rfl) RVs.nil) rfl ?_
                    first | rfl | (simp_all; done) | (simp_all; intros; omega) | grind
                  · -- c82 False
                    refine AC.skip ?_
                    refine AC.seq ?_
                    refine AC.region ?_
                    refine AO.yld _ (Yld.assign rfl) rfl rfl rfl ?_
                    refine AO.nil ?_
                    refine AC.seq ?_
                    refine AC.region ?_
                    refine AO.yld _ (Yld.move rfl) rfl rfl rfl ?_
                    refine AO.yld _ (Yld.move rfl) rfl rfl rfl ?_
                    refine AO.callW (wantedN rfl) [5] [0] [0] rfl rfl Try.call49 rfl (laws_markChangeS_c (by omega) (by omega) (by first | assumption | omega)) (.own rfl) rfl (fun _ => rfl) ⟨rfl, trivial⟩ rfl (fun _ => rfl) (fun _ => rfl) (fun _ _ => ?_)
                    refine AO.yld _ (Yld.assign rfl) rfl rfl rfl ?_
                    refine AO.nil ?_
                    refine AC.seq ?_
                    refine AC.region ?_
                    refine AO.yld _ (Yld.assign rfl) rfl rfl rfl ?_
                    refine AO.nil ?_
                    refine AC.seq ?_
                    refine AC.region ?_
                    refine AO.yld _ (Yld.move rfl) rfl rfl rfl ?_
                    refine AO.yld _ (Yld.move rfl) rfl rfl rfl ?_
                    refine AO.yld _ (Yld.call rfl rfl Try.call50 rfl rfl rfl (laws_heldChangeS_c (by omega) (by omega) (by first | assumption | omega)) rfl) rfl rfl rfl ?_
                    refine AO.yld _ (Yld.assign rfl) rfl rfl rfl ?_
                    refine AO.nil ?_
                    refine AC.seq ?_
                    refine AC.seq ?_
                    refine AC.region ?_
                    refine AO.yld _ (Yld.move rfl) rfl rfl rfl ?_
                    refine AO.yld _ (Yld.int rfl rfl rfl) rfl rfl rfl ?_
                    refine AO.nil ?_
                    refine AC.cond _ rfl (fun c90 => ?_) (fun c90 => ?_)
                    · -- c90 True
                      refine AC.seq ?_
                      refine AC.region ?_
                      refine AO.yld _ (Yld.assign rfl) rfl rfl rfl ?_
                      refine AO.nil ?_
                      refine Pure.ret Try.results7 (RVs.cons (RV.tmp rfl) RVs.nil) rfl ?_
                      first | rfl | (simp_all; done) | (simp_all; intros; omega) | grind
                    · -- c90 False
                      refine AC.skip ?_
                      refine AC.seq ?_
                      refine AC.seq ?_
                      refine AC.region ?_
                      refine AO.yld _ (Yld.move rfl) rfl rfl rfl ?_
                      refine AO.yld _ (Yld.move rfl) rfl rfl rfl ?_
                      refine AO.yld _ (Yld.int rfl rfl rfl) rfl rfl rfl ?_
                      refine AO.nil ?_
                      refine AC.cond _ rfl (fun c93 => ?_) (fun c93 => ?_)
                      · -- c93 True
                        refine AC.seq ?_
                        refine AC.region ?_
                        refine AO.yld _ (Yld.assign rfl) rfl rfl rfl ?_
                        refine AO.nil ?_
                        refine Pure.ret Try.results7 (RVs.cons (RV.tmp rfl) RVs.nil) rfl ?_
                        first | rfl | (simp_all; done) | (simp_all; intros; omega) | grind
                      · -- c93 False
                        refine AC.skip ?_
                        refine AC.seq ?_
                        refine AC.region ?_
                        refine AO.yld _ (Yld.move rfl) rfl rfl rfl ?_
                        refine AO.callMk 8 rfl rfl Try.call44 rfl rfl rfl (laws_toSettingS_c (by first | assumption | omega)) (by simp [AV.Flat, AV.FlatL, PV.Flat, PV.FlatL]) (flat_map flatNV _) rfl rfl ?_
                        refine AO.yld _ (Yld.move rfl) rfl rfl rfl ?_
                        refine AO.callMk 9 rfl rfl Try.call44 rfl rfl rfl (laws_toSettingS_c (by first | assumption | omega)) (by simp [AV.Flat, AV.FlatL, PV.Flat, PV.FlatL]) (flat_map flatNV _) rfl rfl ?_
                        refine AO.callW (wantedN rfl) [10] [] [0] rfl rfl Try.call45 rfl (impl_DiffStates_c (by first | assumption | omega) (by assumption) (by first | assumption | omega) (by assumption)) (.flat (.view rfl rfl (.view rfl rfl .nil)) (fun _ => by simp [AV.Flat, AV.FlatL, PV.Flat, PV.FlatL]) (fun _ => ⟨flat_map flatChg _, trivial⟩)) rfl (fun _ => rfl) trivial rfl (fun _ => rfl) (fun _ => rfl) (fun _ _ => ?_)
                        refine AO.yld _ (Yld.move rfl) rfl rfl rfl ?_
                        refine AO.yld _ (Yld.extract rfl rfl rfl) rfl rfl rfl ?_
                        refine AO.yld _ (Yld.extract rfl rfl rfl) rfl rfl rfl ?_
                        refine AO.yld _ (Yld.assign rfl) rfl rfl rfl ?_
                        refine AO.yld _ (Yld.assign rfl) rfl rfl rfl ?_
                        refine AO.nil ?_
                        refine AC.seq ?_
                        refine AC.seq ?_
                        refine AC.region ?_
                        refine AO.yld _ (Yld.move rfl) rfl rfl rfl ?_
                        refine AO.yld _ (Yld.move rfl) rfl rfl rfl ?_
                        refine AO.yld _ (Yld.call rfl rfl Try.call46 rfl rfl rfl (laws_eqChangeS_c (by first | assumption | omega)) rfl) rfl rfl rfl ?_
                        refine AO.yld _ (Yld.not rfl) rfl rfl rfl ?_
                        refine AO.yld _ (Yld.move rfl) rfl rfl rfl ?_
                        refine AO.splitAt 106 _ rfl (fun s106 => ?_) (fun s106 => ?_)
                        · -- s106 True
                          refine AO.skipF rfl rfl rfl rfl rfl ?_
                          refine AO.skipF rfl rfl rfl rfl rfl ?_
                          refine AO.skipF rfl rfl rfl rfl rfl ?_
                          refine AO.yld _ (Yld.pickT rfl rfl) rfl rfl rfl ?_
                          refine AO.nil ?_
                          refine AC.condT rfl ?_
                          refine AC.seq ?_
                          refine AC.region ?_
                          refine AO.yld _ (Yld.assign rfl) rfl rfl rfl ?_
                          refine AO.nil ?_
                          refine Pure.ret Try.results7 (RVs.cons (RV.tmp rfl) RVs.nil) rfl ?_
                          first | rfl | (simp_all; done) | (simp_all; intros; omega) | grind
                        · -- s106 False
                          refine AO.yldG _ (Yld.move rfl) rfl rfl rfl rfl rfl ?_
                          refine AO.yldG _ (Yld.move rfl) rfl rfl rfl rfl rfl ?_
                          refine AO.yldG _ (Yld.int rfl rfl rfl) rfl rfl rfl rfl rfl ?_
                          refine AO.yld _ (Yld.pickF rfl rfl) rfl rfl rfl ?_
                          refine AO.nil ?_
                          refine AC.cond _ rfl (fun c110 => ?_) (fun c110 => ?_)
                          · -- c110 True
                            refine AC.seq ?_
                            refine AC.region ?_
                            refine AO.yld _ (Yld.assign rfl) rfl rfl rfl ?_
                            refine AO.nil ?_
                            refine Pure.ret Try.results7 (RVs.cons (RV.tmp rfl) RVs.nil) rfl ?_
                            first | rfl | (simp_all; done) | (simp_all; intros; omega) | grind
                          · -- c110 False
                            refine AC.skip ?_
                            refine AC.seq ?_
                            refine AC.region ?_
                            refine AO.yld _ (Yld.assign rfl) rfl rfl rfl ?_
                            refine AO.nil ?_
                            refine AC.seq ?_
                            refine AC.region ?_
                            refine AO.yld _ (Yld.move rfl) rfl rfl rfl ?_
                            refine AO.yld _ (Yld.move rfl) rfl rfl rfl ?_
                            refine AO.yld _ (Yld.call rfl rfl Try.call50 rfl rfl rfl (laws_heldChangeS_c (by omega) (by omega) (by first | assumption | omega)) rfl) rfl rfl rfl ?_
                            refine AO.yld _ (Yld.assign rfl) rfl rfl rfl ?_
                            refine AO.nil ?_
                            refine AC.seq ?_
                            refine AC.seq ?_
                            refine AC.region ?_
                            refine AO.yld _ (Yld.move rfl) rfl rfl rfl ?_
                            refine AO.yld _ (Yld.int rfl rfl rfl) rfl rfl rfl ?_
                            refine AO.nil ?_
                            refine AC.cond _ rfl (fun c115 => ?_) (fun c115 => ?_)
                            · -- c115 True
                              refine AC.seq ?_
                              refine AC.region ?_
                              refine AO.yld _ (Yld.assign rfl) rfl rfl rfl ?_
                              refine AO.nil ?_
                              refine Pure.ret Try.results7 (RVs.cons (RV.tmp rfl) RVs.nil) rfl ?_
                              first | rfl | (simp_all; done) | (simp_all; intros; omega) | grind
                            · -- c115 False
                              refine AC.skip ?_
                              refine AC.seq ?_
                              refine AC.seq ?_
                              refine AC.region ?_
                              refine AO.yld _ (Yld.move rfl) rfl rfl rfl ?_
                              refine AO.yld _ (Yld.move rfl) rfl rfl rfl ?_
                              refine AO.yld _ (Yld.int rfl rfl rfl) rfl rfl rfl ?_
                              refine AO.nil ?_
                              refine AC.cond _ rfl (fun c118 => ?_) (fun c118 => ?_)
                              · -- c118 True
                                refine AC.seq ?_
                                refine AC.region ?_
                                refine AO.yld _ (Yld.assign rfl) rfl rfl rfl ?_
                                refine AO.nil ?_
                                refine Pure.ret Try.results7 (RVs.cons (RV.tmp rfl) RVs.nil) rfl ?_
                                first | rfl | (simp_all; done) | (simp_all; intros; omega) | grind
                              · -- c118 False
                                refine AC.skip ?_
                                refine AC.seq ?_
                                refine AC.region ?_
                                refine AO.yld _ (Yld.assign rfl) rfl rfl rfl ?_
                                refine AO.nil ?_
                                refine Pure.ret Try.results7 (RVs.cons (RV.tmp rfl) RVs.nil) rfl ?_
                                first | rfl | (simp_all; done) | (simp_all; intros; omega) | grind

theorem laws_FnExactValidNeeds_c {ms : List NV} (hb_ms : ms.length ≤ 9223372036854775807) (hs_ms : ∀ x ∈ ms, (x.name).length ≤ 9223372036854775807) {xs : List NV} (hb_xs : xs.length ≤ 9223372036854775807) (hs_xs : ∀ x ∈ xs, (x.name).length ≤ 9223372036854775807) :
    Pure Try.prog 5 [.sl 2 (ms.map encNV), .sl 2 (xs.map encNV)] (.v (.bool true)) := by
  refine Pure.intro Try.func5 rfl Try.ntmps5 rfl rfl (fun w => ?_)
  refine AC.seq ?_
  refine AC.region ?_
  refine AO.yld _ (Yld.assign rfl) rfl rfl rfl ?_
  refine AO.nil ?_
  refine AC.seq ?_
  refine AC.region ?_
  refine AO.yld _ (Yld.assign rfl) rfl rfl rfl ?_
  refine AO.nil ?_
  refine AC.seq ?_
  refine AC.region ?_
  refine AO.yld _ (Yld.move rfl) rfl rfl rfl ?_
  refine AO.yld _ (Yld.move rfl) rfl rfl rfl ?_
  refine AO.yld _ (Yld.call rfl rfl Try.call27 rfl rfl rfl (laws_szMediaS_c (by omega) (by omega) (by first | assumption | omega) (by assumption)) rfl) rfl rfl rfl ?_
  refine AO.yld _ (Yld.assign rfl) rfl rfl rfl ?_
  refine AO.nil ?_
  refine AC.seq ?_
  refine AC.seq ?_
  refine AC.region ?_
  refine AO.yld _ (Yld.move rfl) rfl rfl rfl ?_
  refine AO.yld _ (Yld.int rfl rfl rfl) rfl rfl rfl ?_
  refine AO.nil ?_
  refine AC.cond _ rfl (fun c14 => ?_) (fun c14 => ?_)
  · -- c14 True
    refine AC.seq ?_
    refine AC.region ?_
    refine AO.yld _ (Yld.assign rfl) rfl rfl rfl ?_
    refine AO.nil ?_
    refine Pure.ret Try.results5 (RVs.cons (RV.tmp rfl) RVs.nil) rfl ?_
    first | rfl | (simp_all; done) | (simp_all; intros; omega) | grind
  · -- c14 False
    have hz_ms := szAll_ge c14
    have hp_ms := lens_nonneg (f := NV.name) (xs := ms)
    have hn_ms : ms.length ≤ 1048576 := by omega
    have ht_ms : ∀ x ∈ ms, (x.name).length ≤ 1048576 := fun x hx => by have := len_le_lens (f := NV.name) hx; omega
    refine AC.skip ?_
    refine AC.seq ?_
    refine AC.region ?_
    refine AO.yld _ (Yld.move rfl) rfl rfl rfl ?_
    refine AO.yld _ (Yld.move rfl) rfl rfl rfl ?_
    refine AO.yld _ (Yld.call rfl rfl Try.call28 rfl rfl rfl (laws_szNeedS_c (by omega) (by omega) (by first | assumption | omega) (by assumption)) rfl) rfl rfl rfl ?_
    refine AO.yld _ (Yld.assign rfl) rfl rfl rfl ?_
    refine AO.nil ?_
    refine AC.seq ?_
    refine AC.seq ?_
    refine AC.region ?_
    refine AO.yld _ (Yld.move rfl) rfl rfl rfl ?_
    refine AO.yld _ (Yld.int rfl rfl rfl) rfl rfl rfl ?_
    refine AO.nil ?_
    refine AC.cond _ rfl (fun c19 => ?_) (fun c19 => ?_)
    · -- c19 True
      refine AC.seq ?_
      refine AC.region ?_
      refine AO.yld _ (Yld.assign rfl) rfl rfl rfl ?_
      refine AO.nil ?_
      refine Pure.ret Try.results5 (RVs.cons (RV.tmp rfl) RVs.nil) rfl ?_
      first | rfl | (simp_all; done) | (simp_all; intros; omega) | grind
    · -- c19 False
      have hz_xs := szAll_ge c19
      have hp_xs := lens_nonneg (f := NV.name) (xs := xs)
      have hn_xs : xs.length ≤ 1048576 := by omega
      have ht_xs : ∀ x ∈ xs, (x.name).length ≤ 1048576 := fun x hx => by have := len_le_lens (f := NV.name) hx; omega
      refine AC.skip ?_
      refine AC.seq ?_
      refine AC.region ?_
      refine AO.yld _ (Yld.move rfl) rfl rfl rfl ?_
      refine AO.callMk 0 rfl rfl Try.call30 rfl rfl rfl (laws_toMediaS_c (by first | assumption | omega)) (by simp [AV.Flat, AV.FlatL, PV.Flat, PV.FlatL]) (flat_map flatNV _) rfl rfl ?_
      refine AO.yld _ (Yld.move rfl) rfl rfl rfl ?_
      refine AO.callMk 1 rfl rfl Try.call31 rfl rfl rfl (laws_toNeedS_c (by first | assumption | omega)) (by simp [AV.Flat, AV.FlatL, PV.Flat, PV.FlatL]) (flat_map flatNV _) rfl rfl ?_
      refine AO.yld _ (Yld.call rfl rfl Try.call29 rfl rfl rfl (spec_ValidNeeds_c (by first | assumption | omega) (by assumption) (by first | assumption | omega) (by assumption)) rfl) rfl rfl rfl ?_
      refine AO.yld _ (Yld.assign rfl) rfl rfl rfl ?_
      refine AO.nil ?_
      refine AC.seq ?_
      refine AC.region ?_
      refine AO.yld _ (Yld.move rfl) rfl rfl rfl ?_
      refine AO.callMk 2 rfl rfl Try.call30 rfl rfl rfl (laws_toMediaS_c (by first | assumption | omega)) (by simp [AV.Flat, AV.FlatL, PV.Flat, PV.FlatL]) (flat_map flatNV _) rfl rfl ?_
      refine AO.yld _ (Yld.assign rfl) rfl rfl rfl ?_
      refine AO.nil ?_
      refine AC.seq ?_
      refine AC.region ?_
      refine AO.yld _ (Yld.move rfl) rfl rfl rfl ?_
      refine AO.callMk 3 rfl rfl Try.call31 rfl rfl rfl (laws_toNeedS_c (by first | assumption | omega)) (by simp [AV.Flat, AV.FlatL, PV.Flat, PV.FlatL]) (flat_map flatNV _) rfl rfl ?_
      refine AO.yld _ (Yld.assign rfl) rfl rfl rfl ?_
      refine AO.nil ?_
      refine AC.seq ?_
      refine AC.region ?_
      refine AO.yld _ (Yld.move rfl) rfl rfl rfl ?_
      refine AO.yld _ (Yld.move rfl) rfl rfl rfl ?_
      refine AO.yld _ (Yld.call rfl rfl Try.call32 rfl rfl rfl (impl_ValidNeeds_c (by first | assumption | omega) (by assumption) (by first | assumption | omega) (by assumption)) rfl) rfl rfl rfl ?_
      refine AO.yld _ (Yld.assign rfl) rfl rfl rfl ?_
      refine AO.nil ?_
      refine AC.seq ?_
      refine AC.seq ?_
      refine AC.region ?_
      refine AO.yld _ (Yld.move rfl) rfl rfl rfl ?_
      refine AO.yld _ (Yld.move rfl) rfl rfl rfl ?_
      refine AO.yld _ (Yld.bne Try.underlying4 rfl rfl) rfl rfl rfl ?_
      refine AO.nil ?_
      refine AC.cond _ rfl (fun c34 => ?_) (fun c34 => ?_)
      · -- c34 True
        refine AC.seq ?_
        refine AC.region ?_
        refine AO.yld _ (Yld.assign rfl) rfl rfl rfl ?_
        refine AO.nil ?_
        refine Pure.ret Try.results5 (RVs.cons (RV.tmp rfl) RVs.nil) rfl ?_
        first | rfl | (simp_all; done) | (simp_all; intros; omega) | grind
      · -- c34 False
        refine AC.skip ?_
        refine AC.seq ?_
        refine AC.seq ?_
        refine AC.region ?_
        refine AO.yld _ (Yld.move rfl) rfl rfl rfl ?_
        refine AO.yld _ (Yld.move rfl) rfl rfl rfl ?_
        refine AO.callMk 4 rfl rfl Try.call30 rfl rfl rfl (laws_toMediaS_c (by first | assumption | omega)) (by simp [AV.Flat, AV.FlatL, PV.Flat, PV.FlatL]) (flat_map flatNV _) rfl rfl ?_
        refine AO.yld _ (Yld.call rfl rfl Try.call33 rfl rfl rfl (laws_eqMediaS_c (by first | assumption | omega)) rfl) rfl rfl rfl ?_
        refine AO.yld _ (Yld.not rfl) rfl rfl rfl ?_
        refine AO.nil ?_
        refine AC.cond _ rfl (fun c39 => ?_) (fun c39 => ?_)
        · -- c39 True
          refine AC.seq ?_
          refine AC.region ?_
          refine AO.yld _ (Yld.assign rfl) rfl rfl rfl ?_
          refine AO.nil ?_
          refine Pure.ret Try.results5 (RVs.cons (RV.tmp rfl) RVs.nil) rfl ?_
          first | rfl | (simp_all; done) | (simp_all; intros; omega) | grind
        · -- c39 False
          refine AC.skip ?_
          refine AC.seq ?_
          refine AC.seq ?_
          refine AC.region ?_
          refine AO.yld _ (Yld.move rfl) rfl rfl rfl ?_
          refine AO.yld _ (Yld.move rfl) rfl rfl rfl ?_
          refine AO.callMk 5 rfl rfl Try.call31 rfl rfl rfl (laws_toNeedS_c (by first | assumption | omega)) (by simp [AV.Flat, AV.FlatL, PV.Flat, PV.FlatL]) (flat_map flatNV _) rfl rfl ?_
          refine AO.yld _ (Yld.call rfl rfl Try.call34 rfl rfl rfl (laws_eqNeedS_c (by first | assumption | omega)) rfl) rfl rfl rfl ?_
          refine AO.yld _ (Yld.not rfl) rfl rfl rfl ?_
          refine AO.nil ?_
          refine AC.cond _ rfl (fun c44 => ?_) (fun c44 => ?_)
          · -- c44 True
            refine AC.seq ?_
            refine AC.region ?_
            refine AO.yld _ (Yld.assign rfl) rfl rfl rfl ?_
            refine AO.nil ?_
            refine Pure.ret Try.results5 (RVs.cons (RV.tmp rfl) RVs.nil) rfl ?_
            first | rfl | (simp_all; done) | (simp_all; intros; omega) | grind
          · -- c44 False
            refine AC.skip ?_
            refine AC.seq ?_
            refine AC.region ?_
            refine AO.yld _ (Yld.assign rfl) rfl rfl rfl ?_
            refine AO.nil ?_
            refine Pure.ret Try.results5 (RVs.cons (RV.tmp rfl) RVs.nil) rfl ?_
            first | rfl | (simp_all; done) | (simp_all; intros; omega) | grind

theorem laws_FnExactLatenessOf_c {ms : List NV} (hb_ms : ms.length ≤ 9223372036854775807) (hs_ms : ∀ x ∈ ms, (x.name).length ≤ 9223372036854775807) {xs : List NV} (hb_xs : xs.length ≤ 9223372036854775807) (hs_xs : ∀ x ∈ xs, (x.name).length ≤ 9223372036854775807) {b : Int} (hb_b : i64b b) :
    Pure Try.prog 11 [.sl 2 (ms.map encNV), .sl 2 (xs.map encNV), .v (.int .i64 b)] (.v (.bool true)) := by
  refine Pure.intro Try.func11 rfl Try.ntmps11 rfl rfl (fun w => ?_)
  refine AC.seq ?_
  refine AC.region ?_
  refine AO.yld _ (Yld.assign rfl) rfl rfl rfl ?_
  refine AO.nil ?_
  refine AC.seq ?_
  refine AC.region ?_
  refine AO.yld _ (Yld.assign rfl) rfl rfl rfl ?_
  refine AO.nil ?_
  refine AC.seq ?_
  refine AC.region ?_
  refine AO.yld _ (Yld.move rfl) rfl rfl rfl ?_
  refine AO.yld _ (Yld.move rfl) rfl rfl rfl ?_
  refine AO.yld _ (Yld.call rfl rfl Try.call27 rfl rfl rfl (laws_szMediaS_c (by omega) (by omega) (by first | assumption | omega) (by assumption)) rfl) rfl rfl rfl ?_
  refine AO.yld _ (Yld.assign rfl) rfl rfl rfl ?_
  refine AO.nil ?_
  refine AC.seq ?_
  refine AC.seq ?_
  refine AC.region ?_
  refine AO.yld _ (Yld.move rfl) rfl rfl rfl ?_
  refine AO.yld _ (Yld.int rfl rfl rfl) rfl rfl rfl ?_
  refine AO.nil ?_
  refine AC.cond _ rfl (fun c18 => ?_) (fun c18 => ?_)
  · -- c18 True
    refine AC.seq ?_
    refine AC.region ?_
    refine AO.yld _ (Yld.assign rfl) rfl rfl rfl ?_
    refine AO.nil ?_
    refine Pure.ret Try.results11 (RVs.cons (RV.tmp rfl) RVs.nil) rfl ?_
    first | rfl | (simp_all; done) | (simp_all; intros; omega) | grind
  · -- c18 False
    have hz_ms := szAll_ge c18
    have hp_ms := lens_nonneg (f := NV.name) (xs := ms)
    have hn_ms : ms.length ≤ 1048576 := by omega
    have ht_ms : ∀ x ∈ ms, (x.name).length ≤ 1048576 := fun x hx => by have := len_le_lens (f := NV.name) hx; omega
    refine AC.skip ?_
    refine AC.seq ?_
    refine AC.region ?_
    refine AO.yld _ (Yld.move rfl) rfl rfl rfl ?_
    refine AO.yld _ (Yld.move rfl) rfl rfl rfl ?_
    refine AO.yld _ (Yld.call rfl rfl Try.call28 rfl rfl rfl (laws_szNeedS_c (by omega) (by omega) (by first | assumption | omega) (by assumption)) rfl) rfl rfl rfl ?_
    refine AO.yld _ (Yld.assign rfl) rfl rfl rfl ?_
    refine AO.nil ?_
    refine AC.seq ?_
    refine AC.seq ?_
    refine AC.region ?_
    refine AO.yld _ (Yld.move rfl) rfl rfl rfl ?_
    refine AO.yld _ (Yld.int rfl rfl rfl) rfl rfl rfl ?_
    refine AO.nil ?_
    refine AC.cond _ rfl (fun c23 => ?_) (fun c23 => ?_)
    · -- c23 True
      refine AC.seq ?_
      refine AC.region ?_
      refine AO.yld _ (Yld.assign rfl) rfl rfl rfl ?_
      refine AO.nil ?_
      refine Pure.ret Try.results11 (RVs.cons (RV.tmp rfl) RVs.nil) rfl ?_
      first | rfl | (simp_all; done) | (simp_all; intros; omega) | grind
    · -- c23 False
      have hz_xs := szAll_ge c23
      have hp_xs := lens_nonneg (f := NV.name) (xs := xs)
      have hn_xs : xs.length ≤ 1048576 := by omega
      have ht_xs : ∀ x ∈ xs, (x.name).length ≤ 1048576 := fun x hx => by have := len_le_lens (f := NV.name) hx; omega
      refine AC.skip ?_
      refine AC.seq ?_
      refine AC.region ?_
      refine AO.yld _ (Yld.move rfl) rfl rfl rfl ?_
      refine AO.callMk 0 rfl rfl Try.call30 rfl rfl rfl (laws_toMediaS_c (by first | assumption | omega)) (by simp [AV.Flat, AV.FlatL, PV.Flat, PV.FlatL]) (flat_map flatNV _) rfl rfl ?_
      refine AO.yld _ (Yld.move rfl) rfl rfl rfl ?_
      refine AO.callMk 1 rfl rfl Try.call31 rfl rfl rfl (laws_toNeedS_c (by first | assumption | omega)) (by simp [AV.Flat, AV.FlatL, PV.Flat, PV.FlatL]) (flat_map flatNV _) rfl rfl ?_
      refine AO.yld _ (Yld.move rfl) rfl rfl rfl ?_
      refine AO.yld _ (Yld.call rfl rfl Try.call63 rfl rfl rfl (spec_LatenessOf_c (by first | assumption | omega) (by assumption) (by first | assumption | omega) (by assumption)) rfl) rfl rfl rfl ?_
      refine AO.yld _ (Yld.move rfl) rfl rfl rfl ?_
      refine AO.yld _ (Yld.extract rfl rfl rfl) rfl rfl rfl ?_
      refine AO.yld _ (Yld.extract rfl rfl rfl) rfl rfl rfl ?_
      refine AO.yld _ (Yld.assign rfl) rfl rfl rfl ?_
      refine AO.yld _ (Yld.assign rfl) rfl rfl rfl ?_
      refine AO.nil ?_
      refine AC.seq ?_
      refine AC.region ?_
      refine AO.yld _ (Yld.move rfl) rfl rfl rfl ?_
      refine AO.callMk 2 rfl rfl Try.call30 rfl rfl rfl (laws_toMediaS_c (by first | assumption | omega)) (by simp [AV.Flat, AV.FlatL, PV.Flat, PV.FlatL]) (flat_map flatNV _) rfl rfl ?_
      refine AO.yld _ (Yld.assign rfl) rfl rfl rfl ?_
      refine AO.nil ?_
      refine AC.seq ?_
      refine AC.region ?_
      refine AO.yld _ (Yld.move rfl) rfl rfl rfl ?_
      refine AO.callMk 3 rfl rfl Try.call31 rfl rfl rfl (laws_toNeedS_c (by first | assumption | omega)) (by simp [AV.Flat, AV.FlatL, PV.Flat, PV.FlatL]) (flat_map flatNV _) rfl rfl ?_
      refine AO.yld _ (Yld.assign rfl) rfl rfl rfl ?_
      refine AO.nil ?_
      refine AC.seq ?_
      refine AC.region ?_
      refine AO.yld _ (Yld.move rfl) rfl rfl rfl ?_
      refine AO.yld _ (Yld.move rfl) rfl rfl rfl ?_
      refine AO.yld _ (Yld.move rfl) rfl rfl rfl ?_
      refine AO.yld _ (Yld.call rfl rfl Try.call64 rfl rfl rfl (impl_LatenessOf_c (by first | assumption | omega) (by assumption) (by first | assumption | omega) (by assumption)) rfl) rfl rfl rfl ?_
      refine AO.yld _ (Yld.move rfl) rfl rfl rfl ?_
      refine AO.yld _ (Yld.extract rfl rfl rfl) rfl rfl rfl ?_
      refine AO.yld _ (Yld.extract rfl rfl rfl) rfl rfl rfl ?_
      refine AO.yld _ (Yld.assign rfl) rfl rfl rfl ?_
      refine AO.yld _ (Yld.assign rfl) rfl rfl rfl ?_
      refine AO.nil ?_
      refine AC.seq ?_
      refine AC.seq ?_
      refine AC.region ?_
      refine AO.yld _ (Yld.move rfl) rfl rfl rfl ?_
      refine AO.yld _ (Yld.move rfl) rfl rfl rfl ?_
      refine AO.yld _ (Yld.int rfl rfl rfl) rfl rfl rfl ?_
      refine AO.yld _ (Yld.move rfl) rfl rfl rfl ?_
      refine AO.splitAt 47 _ rfl (fun s47 => ?_) (fun s47 => ?_)
      · -- s47 True
        refine AO.skipF rfl rfl rfl rfl rfl ?_
        refine AO.skipF rfl rfl rfl rfl rfl ?_
        refine AO.skipF rfl rfl rfl rfl rfl ?_
        refine AO.yld _ (Yld.pickT rfl rfl) rfl rfl rfl ?_
        refine AO.nil ?_
        refine AC.condT rfl ?_
        refine AC.seq ?_
        refine AC.region ?_
        refine AO.yld _ (Yld.assign rfl) rfl rfl rfl ?_
        refine AO.nil ?_
        refine Pure.ret Try.results11 (RVs.cons (RV.tmp rfl) RVs.nil) rfl ?_
        first | rfl | (simp_all; done) | (simp_all; intros; omega) | grind
      · -- s47 False
        refine AO.yldG _ (Yld.move rfl) rfl rfl rfl rfl rfl ?_
        refine AO.yldG _ (Yld.move rfl) rfl rfl rfl rfl rfl ?_
        refine AO.yldG _ (Yld.int rfl rfl rfl) rfl rfl rfl rfl rfl ?_
        refine AO.yld _ (Yld.pickF rfl rfl) rfl rfl rfl ?_
        refine AO.nil ?_
        refine AC.cond _ rfl (fun c51 => ?_) (fun c51 => ?_)
        · -- c51 True
          refine AC.seq ?_
          refine AC.region ?_
          refine AO.yld _ (Yld.assign rfl) rfl rfl rfl ?_
          refine AO.nil ?_
          refine Pure.ret Try.results11 (RVs.cons (RV.tmp rfl) RVs.nil) rfl ?_
          first | rfl | (simp_all; done) | (simp_all; intros; omega) | grind
        · -- c51 False
          refine AC.skip ?_
          refine AC.seq ?_
          refine AC.seq ?_
          refine AC.region ?_
          refine AO.yld _ (Yld.move rfl) rfl rfl rfl ?_
          refine AO.yld _ (Yld.move rfl) rfl rfl rfl ?_
          refine AO.callMk 4 rfl rfl Try.call30 rfl rfl rfl (laws_toMediaS_c (by first | assumption | omega)) (by simp [AV.Flat, AV.FlatL, PV.Flat, PV.FlatL]) (flat_map flatNV _) rfl rfl ?_
          refine AO.yld _ (Yld.call rfl rfl Try.call33 rfl rfl rfl (laws_eqMediaS_c (by first | assumption | omega)) rfl) rfl rfl rfl ?_
          refine AO.yld _ (Yld.not rfl) rfl rfl rfl ?_
          refine AO.nil ?_
          refine AC.cond _ rfl (fun c56 => ?_) (fun c56 => ?_)
          · -- c56 True
            refine AC.seq ?_
            refine AC.region ?_
            refine AO.yld _ (Yld.assign rfl) rfl rfl rfl ?_
            refine AO.nil ?_
            refine Pure.ret Try.results11 (RVs.cons (RV.tmp rfl) RVs.nil) rfl ?_
            first | rfl | (simp_all; done) | (simp_all; intros; omega) | grind
          · -- c56 False
            refine AC.skip ?_
            refine AC.seq ?_
            refine AC.seq ?_
            refine AC.region ?_
            refine AO.yld _ (Yld.move rfl) rfl rfl rfl ?_
            refine AO.yld _ (Yld.move rfl) rfl rfl rfl ?_
            refine AO.callMk 5 rfl rfl Try.call31 rfl rfl rfl (laws_toNeedS_c (by first | assumption | omega)) (by simp [AV.Flat, AV.FlatL, PV.Flat, PV.FlatL]) (flat_map flatNV _) rfl rfl ?_
            refine AO.yld _ (Yld.call rfl rfl Try.call34 rfl rfl rfl (laws_eqNeedS_c (by first | assumption | omega)) rfl) rfl rfl rfl ?_
            refine AO.yld _ (Yld.not rfl) rfl rfl rfl ?_
            refine AO.nil ?_
            refine AC.cond _ rfl (fun c61 => ?_) (fun c61 => ?_)
            · -- c61 True
              refine AC.seq ?_
              refine AC.region ?_
              refine AO.yld _ (Yld.assign rfl) rfl rfl rfl ?_
              refine AO.nil ?_
              refine Pure.ret Try.results11 (RVs.cons (RV.tmp rfl) RVs.nil) rfl ?_
              first | rfl | (simp_all; done) | (simp_all; intros; omega) | grind
            · -- c61 False
              refine AC.skip ?_
              refine AC.seq ?_
              refine AC.region ?_
              refine AO.yld _ (Yld.assign rfl) rfl rfl rfl ?_
              refine AO.nil ?_
              refine Pure.ret Try.results11 (RVs.cons (RV.tmp rfl) RVs.nil) rfl ?_
              first | rfl | (simp_all; done) | (simp_all; intros; omega) | grind

theorem laws_FnExactLeastBandwidth_c {ms : List NV} (hb_ms : ms.length ≤ 9223372036854775807) (hs_ms : ∀ x ∈ ms, (x.name).length ≤ 9223372036854775807) {xs : List NV} (hb_xs : xs.length ≤ 9223372036854775807) (hs_xs : ∀ x ∈ xs, (x.name).length ≤ 9223372036854775807) :
    Pure Try.prog 12 [.sl 2 (ms.map encNV), .sl 2 (xs.map encNV)] (.v (.bool true)) := by
  refine Pure.intro Try.func12 rfl Try.ntmps12 rfl rfl (fun w => ?_)
  refine AC.seq ?_
  refine AC.region ?_
  refine AO.yld _ (Yld.assign rfl) rfl rfl rfl ?_
  refine AO.nil ?_
  refine AC.seq ?_
  refine AC.region ?_
  refine AO.yld _ (Yld.assign rfl) rfl rfl rfl ?_
  refine AO.nil ?_
  refine AC.seq ?_
  refine AC.region ?_
  refine AO.yld _ (Yld.move rfl) rfl rfl rfl ?_
  refine AO.yld _ (Yld.move rfl) rfl rfl rfl ?_
  refine AO.yld _ (Yld.call rfl rfl Try.call27 rfl rfl rfl (laws_szMediaS_c (by omega) (by omega) (by first | assumption | omega) (by assumption)) rfl) rfl rfl rfl ?_
  refine AO.yld _ (Yld.assign rfl) rfl rfl rfl ?_
  refine AO.nil ?_
  refine AC.seq ?_
  refine AC.seq ?_
  refine AC.region ?_
  refine AO.yld _ (Yld.move rfl) rfl rfl rfl ?_
  refine AO.yld _ (Yld.int rfl rfl rfl) rfl rfl rfl ?_
  refine AO.nil ?_
  refine AC.cond _ rfl (fun c16 => ?_) (fun c16 => ?_)
  · -- c16 True
    refine AC.seq ?_
    refine AC.region ?_
    refine AO.yld _ (Yld.assign rfl) rfl rfl rfl ?_
    refine AO.nil ?_
    refine Pure.ret Try.results12 (RVs.cons (RV.tmp rfl) RVs.nil) rfl ?_
    first | rfl | (simp_all; done) | (simp_all; intros; omega) | grind
  · -- c16 False
    have hz_ms := szAll_ge c16
    have hp_ms := lens_nonneg (f := NV.name) (xs := ms)
    have hn_ms : ms.length ≤ 1048576 := by omega
    have ht_ms : ∀ x ∈ ms, (x.name).length ≤ 1048576 := fun x hx => by have := len_le_lens (f := NV.name) hx; omega
    refine AC.skip ?_
    refine AC.seq ?_
    refine AC.region ?_
    refine AO.yld _ (Yld.move rfl) rfl rfl rfl ?_
    refine AO.yld _ (Yld.move rfl) rfl rfl rfl ?_
    refine AO.yld _ (Yld.call rfl rfl Try.call28 rfl rfl rfl (laws_szNeedS_c (by omega) (by omega) (by first | assumption | omega) (by assumption)) rfl) rfl rfl rfl ?_
    refine AO.yld _ (Yld.assign rfl) rfl rfl rfl ?_
    refine AO.nil ?_
    refine AC.seq ?_
    refine AC.seq ?_
    refine AC.region ?_
    refine AO.yld _ (Yld.move rfl) rfl rfl rfl ?_
    refine AO.yld _ (Yld.int rfl rfl rfl) rfl rfl rfl ?_
    refine AO.nil ?_
    refine AC.cond _ rfl (fun c21 => ?_) (fun c21 => ?_)
    · -- c21 True
      refine AC.seq ?_
      refine AC.region ?_
      refine AO.yld _ (Yld.assign rfl) rfl rfl rfl ?_
      refine AO.nil ?_
      refine Pure.ret Try.results12 (RVs.cons (RV.tmp rfl) RVs.nil) rfl ?_
      first | rfl | (simp_all; done) | (simp_all; intros; omega) | grind
    · -- c21 False
      have hz_xs := szAll_ge c21
      have hp_xs := lens_nonneg (f := NV.name) (xs := xs)
      have hn_xs : xs.length ≤ 1048576 := by omega
      have ht_xs : ∀ x ∈ xs, (x.name).length ≤ 1048576 := fun x hx => by have := len_le_lens (f := NV.name) hx; omega
      refine AC.skip ?_
      refine AC.seq ?_
      refine AC.region ?_
      refine AO.yld _ (Yld.move rfl) rfl rfl rfl ?_
      refine AO.callMk 0 rfl rfl Try.call30 rfl rfl rfl (laws_toMediaS_c (by first | assumption | omega)) (by simp [AV.Flat, AV.FlatL, PV.Flat, PV.FlatL]) (flat_map flatNV _) rfl rfl ?_
      refine AO.yld _ (Yld.move rfl) rfl rfl rfl ?_
      refine AO.callMk 1 rfl rfl Try.call31 rfl rfl rfl (laws_toNeedS_c (by first | assumption | omega)) (by simp [AV.Flat, AV.FlatL, PV.Flat, PV.FlatL]) (flat_map flatNV _) rfl rfl ?_
      refine AO.yld _ (Yld.call rfl rfl Try.call65 rfl rfl rfl (spec_LeastBandwidth_c (by first | assumption | omega) (by assumption) (by first | assumption | omega) (by assumption)) rfl) rfl rfl rfl ?_
      refine AO.yld _ (Yld.move rfl) rfl rfl rfl ?_
      refine AO.yld _ (Yld.extract rfl rfl rfl) rfl rfl rfl ?_
      refine AO.yld _ (Yld.extract rfl rfl rfl) rfl rfl rfl ?_
      refine AO.yld _ (Yld.assign rfl) rfl rfl rfl ?_
      refine AO.yld _ (Yld.assign rfl) rfl rfl rfl ?_
      refine AO.nil ?_
      refine AC.seq ?_
      refine AC.region ?_
      refine AO.yld _ (Yld.move rfl) rfl rfl rfl ?_
      refine AO.callMk 2 rfl rfl Try.call30 rfl rfl rfl (laws_toMediaS_c (by first | assumption | omega)) (by simp [AV.Flat, AV.FlatL, PV.Flat, PV.FlatL]) (flat_map flatNV _) rfl rfl ?_
      refine AO.yld _ (Yld.assign rfl) rfl rfl rfl ?_
      refine AO.nil ?_
      refine AC.seq ?_
      refine AC.region ?_
      refine AO.yld _ (Yld.move rfl) rfl rfl rfl ?_
      refine AO.callMk 3 rfl rfl Try.call31 rfl rfl rfl (laws_toNeedS_c (by first | assumption | omega)) (by simp [AV.Flat, AV.FlatL, PV.Flat, PV.FlatL]) (flat_map flatNV _) rfl rfl ?_
      refine AO.yld _ (Yld.assign rfl) rfl rfl rfl ?_
      refine AO.nil ?_
      refine AC.seq ?_
      refine AC.region ?_
      refine AO.yld _ (Yld.move rfl) rfl rfl rfl ?_
      refine AO.yld _ (Yld.move rfl) rfl rfl rfl ?_
      refine AO.yld _ (Yld.call rfl rfl Try.call66 rfl rfl rfl (impl_LeastBandwidth_c (by first | assumption | omega) (by assumption) (by first | assumption | omega) (by assumption)) rfl) rfl rfl rfl ?_
      refine AO.yld _ (Yld.move rfl) rfl rfl rfl ?_
      refine AO.yld _ (Yld.extract rfl rfl rfl) rfl rfl rfl ?_
      refine AO.yld _ (Yld.extract rfl rfl rfl) rfl rfl rfl ?_
      refine AO.yld _ (Yld.assign rfl) rfl rfl rfl ?_
      refine AO.yld _ (Yld.assign rfl) rfl rfl rfl ?_
      refine AO.nil ?_
      refine AC.seq ?_
      refine AC.seq ?_
      refine AC.region ?_
      refine AO.yld _ (Yld.move rfl) rfl rfl rfl ?_
      refine AO.yld _ (Yld.move rfl) rfl rfl rfl ?_
      refine AO.yld _ (Yld.int rfl rfl rfl) rfl rfl rfl ?_
      refine AO.yld _ (Yld.move rfl) rfl rfl rfl ?_
      refine AO.splitAt 43 _ rfl (fun s43 => ?_) (fun s43 => ?_)
      · -- s43 True
        refine AO.skipF rfl rfl rfl rfl rfl ?_
        refine AO.skipF rfl rfl rfl rfl rfl ?_
        refine AO.skipF rfl rfl rfl rfl rfl ?_
        refine AO.yld _ (Yld.pickT rfl rfl) rfl rfl rfl ?_
        refine AO.nil ?_
        refine AC.condT rfl ?_
        refine AC.seq ?_
        refine AC.region ?_
        refine AO.yld _ (Yld.assign rfl) rfl rfl rfl ?_
        refine AO.nil ?_
        refine Pure.ret Try.results12 (RVs.cons (RV.tmp rfl) RVs.nil) rfl ?_
        first | rfl | (simp_all; done) | (simp_all; intros; omega) | grind
      · -- s43 False
        refine AO.yldG _ (Yld.move rfl) rfl rfl rfl rfl rfl ?_
        refine AO.yldG _ (Yld.move rfl) rfl rfl rfl rfl rfl ?_
        refine AO.yldG _ (Yld.int rfl rfl rfl) rfl rfl rfl rfl rfl ?_
        refine AO.yld _ (Yld.pickF rfl rfl) rfl rfl rfl ?_
        refine AO.nil ?_
        refine AC.cond _ rfl (fun c47 => ?_) (fun c47 => ?_)
        · -- c47 True
          refine AC.seq ?_
          refine AC.region ?_
          refine AO.yld _ (Yld.assign rfl) rfl rfl rfl ?_
          refine AO.nil ?_
          refine Pure.ret Try.results12 (RVs.cons (RV.tmp rfl) RVs.nil) rfl ?_
          first | rfl | (simp_all; done) | (simp_all; intros; omega) | grind
        · -- c47 False
          refine AC.skip ?_
          refine AC.seq ?_
          refine AC.seq ?_
          refine AC.region ?_
          refine AO.yld _ (Yld.move rfl) rfl rfl rfl ?_
          refine AO.yld _ (Yld.move rfl) rfl rfl rfl ?_
          refine AO.callMk 4 rfl rfl Try.call30 rfl rfl rfl (laws_toMediaS_c (by first | assumption | omega)) (by simp [AV.Flat, AV.FlatL, PV.Flat, PV.FlatL]) (flat_map flatNV _) rfl rfl ?_
          refine AO.yld _ (Yld.call rfl rfl Try.call33 rfl rfl rfl (laws_eqMediaS_c (by first | assumption | omega)) rfl) rfl rfl rfl ?_
          refine AO.yld _ (Yld.not rfl) rfl rfl rfl ?_
          refine AO.nil ?_
          refine AC.cond _ rfl (fun c52 => ?_) (fun c52 => ?_)
          · -- c52 True
            refine AC.seq ?_
            refine AC.region ?_
            refine AO.yld _ (Yld.assign rfl) rfl rfl rfl ?_
            refine AO.nil ?_
            refine Pure.ret Try.results12 (RVs.cons (RV.tmp rfl) RVs.nil) rfl ?_
            first | rfl | (simp_all; done) | (simp_all; intros; omega) | grind
          · -- c52 False
            refine AC.skip ?_
            refine AC.seq ?_
            refine AC.seq ?_
            refine AC.region ?_
            refine AO.yld _ (Yld.move rfl) rfl rfl rfl ?_
            refine AO.yld _ (Yld.move rfl) rfl rfl rfl ?_
            refine AO.callMk 5 rfl rfl Try.call31 rfl rfl rfl (laws_toNeedS_c (by first | assumption | omega)) (by simp [AV.Flat, AV.FlatL, PV.Flat, PV.FlatL]) (flat_map flatNV _) rfl rfl ?_
            refine AO.yld _ (Yld.call rfl rfl Try.call34 rfl rfl rfl (laws_eqNeedS_c (by first | assumption | omega)) rfl) rfl rfl rfl ?_
            refine AO.yld _ (Yld.not rfl) rfl rfl rfl ?_
            refine AO.nil ?_
            refine AC.cond _ rfl (fun c57 => ?_) (fun c57 => ?_)
            · -- c57 True
              refine AC.seq ?_
              refine AC.region ?_
              refine AO.yld _ (Yld.assign rfl) rfl rfl rfl ?_
              refine AO.nil ?_
              refine Pure.ret Try.results12 (RVs.cons (RV.tmp rfl) RVs.nil) rfl ?_
              first | rfl | (simp_all; done) | (simp_all; intros; omega) | grind
            · -- c57 False
              refine AC.skip ?_
              refine AC.seq ?_
              refine AC.region ?_
              refine AO.yld _ (Yld.assign rfl) rfl rfl rfl ?_
              refine AO.nil ?_
              refine Pure.ret Try.results12 (RVs.cons (RV.tmp rfl) RVs.nil) rfl ?_
              first | rfl | (simp_all; done) | (simp_all; intros; omega) | grind

end Go.Proofs.Ytaanabofedickaa
