/- Contracts of functions of the program, each by a walk of its text in the calculus V. -/
import Derived.Test.YtjmicabmkipomaaC1
namespace Go.Proofs.Ytjmicabmkipomaa
open Go Go.V

theorem laws_FnExactValidSample_c {x : Sample} (hb_x_sent : i64b x.sent) (hb_x_other : i64b x.other) (hb_x_back : i64b x.back) :
    Pure Try.prog 3 [.agg (encSample x)] (.v (.bool true)) := by
  refine Pure.intro Try.func3 rfl Try.ntmps3 rfl rfl (fun w => ?_)
  refine AC.seq ?_
  refine AC.region ?_
  refine AO.box 0 rfl rfl rfl rfl rfl ?_
  refine AO.yld _ (Yld.assign rfl) rfl rfl rfl ?_
  refine AO.nil ?_
  refine AC.seq ?_
  refine AC.region ?_
  refine AO.yld _ (Yld.loadAgg Try.isAgg23 Try.sizeOf23 rfl rfl rfl rfl) rfl rfl rfl ?_
  refine AO.yld _ (Yld.call rfl rfl Try.call16 rfl rfl rfl (laws_toSample_c) rfl) rfl rfl rfl ?_
  refine AO.yld _ (Yld.call rfl rfl Try.call15 rfl rfl rfl (spec_ValidSample_c) rfl) rfl rfl rfl ?_
  refine AO.yld _ (Yld.assign rfl) rfl rfl rfl ?_
  refine AO.nil ?_
  refine AC.seq ?_
  refine AC.region ?_
  refine AO.yld _ (Yld.loadAgg Try.isAgg23 Try.sizeOf23 rfl rfl rfl rfl) rfl rfl rfl ?_
  refine AO.yld _ (Yld.call rfl rfl Try.call16 rfl rfl rfl (laws_toSample_c) rfl) rfl rfl rfl ?_
  refine AO.yld _ (Yld.call rfl rfl Try.call17 rfl rfl rfl (impl_ValidSample_c) rfl) rfl rfl rfl ?_
  refine AO.yld _ (Yld.assign rfl) rfl rfl rfl ?_
  refine AO.nil ?_
  refine AC.seq ?_
  refine AC.seq ?_
  refine AC.region ?_
  refine AO.yld _ (Yld.move rfl) rfl rfl rfl ?_
  refine AO.yld _ (Yld.move rfl) rfl rfl rfl ?_
  refine AO.yld _ (Yld.bne Try.underlying4 rfl rfl) rfl rfl rfl ?_
  refine AO.nil ?_
  refine AC.cond _ rfl (fun c13 => ?_) (fun c13 => ?_)
  · -- c13 True
    refine AC.seq ?_
    refine AC.region ?_
    refine AO.yld _ (Yld.assign rfl) rfl rfl rfl ?_
    refine AO.nil ?_
    refine Pure.ret Try.results3 (RVs.cons (RV.tmp rfl) RVs.nil) rfl ?_
    first | rfl | (simp_all; done) | (simp_all; intros; omega) | grind
  · -- c13 False
    refine AC.skip ?_
    refine AC.seq ?_
    refine AC.region ?_
    refine AO.yld _ (Yld.assign rfl) rfl rfl rfl ?_
    refine AO.nil ?_
    refine Pure.ret Try.results3 (RVs.cons (RV.tmp rfl) RVs.nil) rfl ?_
    first | rfl | (simp_all; done) | (simp_all; intros; omega) | grind

theorem laws_FnExactValidSessions_c {xs : List Session} (hb_xs : xs.length ≤ 9223372036854775807) :
    Pure Try.prog 7 [.sl 4 (xs.map encSession)] (.v (.bool true)) := by
  refine Pure.intro Try.func7 rfl Try.ntmps7 rfl rfl (fun w => ?_)
  refine AC.seq ?_
  refine AC.region ?_
  refine AO.yld _ (Yld.assign rfl) rfl rfl rfl ?_
  refine AO.nil ?_
  refine AC.seq ?_
  refine AC.region ?_
  refine AO.yld _ (Yld.assign rfl) rfl rfl rfl ?_
  refine AO.nil ?_
  refine AC.seq ?_
  refine AC.region ?_
  refine AO.yld _ (Yld.move rfl) rfl rfl rfl ?_
  refine AO.yld _ (Yld.move rfl) rfl rfl rfl ?_
  refine AO.yld _ (Yld.call rfl rfl Try.call27 rfl rfl rfl (laws_szSessionS_c (by omega) (by omega) (by first | assumption | omega)) rfl) rfl rfl rfl ?_
  refine AO.yld _ (Yld.assign rfl) rfl rfl rfl ?_
  refine AO.nil ?_
  refine AC.seq ?_
  refine AC.seq ?_
  refine AC.region ?_
  refine AO.yld _ (Yld.move rfl) rfl rfl rfl ?_
  refine AO.yld _ (Yld.int rfl rfl rfl) rfl rfl rfl ?_
  refine AO.nil ?_
  refine AC.cond _ rfl (fun c11 => ?_) (fun c11 => ?_)
  · -- c11 True
    refine AC.seq ?_
    refine AC.region ?_
    refine AO.yld _ (Yld.assign rfl) rfl rfl rfl ?_
    refine AO.nil ?_
    refine Pure.ret Try.results7 (RVs.cons (RV.tmp rfl) RVs.nil) rfl ?_
    first | rfl | (simp_all; done) | (simp_all; intros; omega) | grind
  · -- c11 False
    have hz_xs := szLen_ge c11
    have hn_xs : xs.length ≤ 1048576 := by omega
    refine AC.skip ?_
    refine AC.seq ?_
    refine AC.region ?_
    refine AO.yld _ (Yld.move rfl) rfl rfl rfl ?_
    refine AO.callMk 0 rfl rfl Try.call29 rfl rfl rfl (laws_toSessionS_c (by first | assumption | omega)) (by simp [AV.Flat, AV.FlatL, PV.Flat, PV.FlatL]) (flat_map flatSession _) rfl rfl ?_
    refine AO.yld _ (Yld.call rfl rfl Try.call28 rfl rfl rfl (spec_ValidSessions_c (by first | assumption | omega)) rfl) rfl rfl rfl ?_
    refine AO.yld _ (Yld.assign rfl) rfl rfl rfl ?_
    refine AO.nil ?_
    refine AC.seq ?_
    refine AC.region ?_
    refine AO.yld _ (Yld.move rfl) rfl rfl rfl ?_
    refine AO.callMk 1 rfl rfl Try.call29 rfl rfl rfl (laws_toSessionS_c (by first | assumption | omega)) (by simp [AV.Flat, AV.FlatL, PV.Flat, PV.FlatL]) (flat_map flatSession _) rfl rfl ?_
    refine AO.yld _ (Yld.assign rfl) rfl rfl rfl ?_
    refine AO.nil ?_
    refine AC.seq ?_
    refine AC.region ?_
    refine AO.yld _ (Yld.move rfl) rfl rfl rfl ?_
    refine AO.yld _ (Yld.call rfl rfl Try.call30 rfl rfl rfl (impl_ValidSessions_c (by first | assumption | omega)) rfl) rfl rfl rfl ?_
    refine AO.yld _ (Yld.assign rfl) rfl rfl rfl ?_
    refine AO.nil ?_
    refine AC.seq ?_
    refine AC.seq ?_
    refine AC.region ?_
    refine AO.yld _ (Yld.move rfl) rfl rfl rfl ?_
    refine AO.yld _ (Yld.move rfl) rfl rfl rfl ?_
    refine AO.yld _ (Yld.bne Try.underlying4 rfl rfl) rfl rfl rfl ?_
    refine AO.nil ?_
    refine AC.cond _ rfl (fun c21 => ?_) (fun c21 => ?_)
    · -- c21 True
      refine AC.seq ?_
      refine AC.region ?_
      refine AO.yld _ (Yld.assign rfl) rfl rfl rfl ?_
      refine AO.nil ?_
      refine Pure.ret Try.results7 (RVs.cons (RV.tmp rfl) RVs.nil) rfl ?_
      first | rfl | (simp_all; done) | (simp_all; intros; omega) | grind
    · -- c21 False
      refine AC.skip ?_
      refine AC.seq ?_
      refine AC.seq ?_
      refine AC.region ?_
      refine AO.yld _ (Yld.move rfl) rfl rfl rfl ?_
      refine AO.yld _ (Yld.move rfl) rfl rfl rfl ?_
      refine AO.callMk 2 rfl rfl Try.call29 rfl rfl rfl (laws_toSessionS_c (by first | assumption | omega)) (by simp [AV.Flat, AV.FlatL, PV.Flat, PV.FlatL]) (flat_map flatSession _) rfl rfl ?_
      refine AO.yld _ (Yld.call rfl rfl Try.call31 rfl rfl rfl (laws_eqSessionS_c (by first | assumption | omega)) rfl) rfl rfl rfl ?_
      refine AO.yld _ (Yld.not rfl) rfl rfl rfl ?_
      refine AO.nil ?_
      refine AC.cond _ rfl (fun c26 => ?_) (fun c26 => ?_)
      · -- c26 True
        refine AC.seq ?_
        refine AC.region ?_
        refine AO.yld _ (Yld.assign rfl) rfl rfl rfl ?_
        refine AO.nil ?_
        refine Pure.ret Try.results7 (RVs.cons (RV.tmp rfl) RVs.nil) rfl ?_
        first | rfl | (simp_all; done) | (simp_all; intros; omega) | grind
      · -- c26 False
        refine AC.skip ?_
        refine AC.seq ?_
        refine AC.region ?_
        refine AO.yld _ (Yld.assign rfl) rfl rfl rfl ?_
        refine AO.nil ?_
        refine Pure.ret Try.results7 (RVs.cons (RV.tmp rfl) RVs.nil) rfl ?_
        first | rfl | (simp_all; done) | (simp_all; intros; omega) | grind

theorem laws_FnExactValidMachines_c {xs : List Mach} (hb_xs : xs.length ≤ 9223372036854775807) (hs_xs : ∀ x ∈ xs, (x.name).length ≤ 9223372036854775807) :
    Pure Try.prog 13 [.sl 3 (xs.map encMach)] (.v (.bool true)) := by
  refine Pure.intro Try.func13 rfl Try.ntmps13 rfl rfl (fun w => ?_)
  refine AC.seq ?_
  refine AC.region ?_
  refine AO.yld _ (Yld.assign rfl) rfl rfl rfl ?_
  refine AO.nil ?_
  refine AC.seq ?_
  refine AC.region ?_
  refine AO.yld _ (Yld.assign rfl) rfl rfl rfl ?_
  refine AO.nil ?_
  refine AC.seq ?_
  refine AC.region ?_
  refine AO.yld _ (Yld.move rfl) rfl rfl rfl ?_
  refine AO.yld _ (Yld.move rfl) rfl rfl rfl ?_
  refine AO.yld _ (Yld.call rfl rfl Try.call57 rfl rfl rfl (laws_szMachineS_c (by omega) (by omega) (by first | assumption | omega) (by assumption)) rfl) rfl rfl rfl ?_
  refine AO.yld _ (Yld.assign rfl) rfl rfl rfl ?_
  refine AO.nil ?_
  refine AC.seq ?_
  refine AC.seq ?_
  refine AC.region ?_
  refine AO.yld _ (Yld.move rfl) rfl rfl rfl ?_
  refine AO.yld _ (Yld.int rfl rfl rfl) rfl rfl rfl ?_
  refine AO.nil ?_
  refine AC.cond _ rfl (fun c11 => ?_) (fun c11 => ?_)
  · -- c11 True
    refine AC.seq ?_
    refine AC.region ?_
    refine AO.yld _ (Yld.assign rfl) rfl rfl rfl ?_
    refine AO.nil ?_
    refine Pure.ret Try.results13 (RVs.cons (RV.tmp rfl) RVs.nil) rfl ?_
    first | rfl | (simp_all; done) | (simp_all; intros; omega) | grind
  · -- c11 False
    have hz_xs := szAll_ge c11
    have hp_xs := lens_nonneg (f := Mach.name) (xs := xs)
    have hn_xs : xs.length ≤ 1048576 := by omega
    have ht_xs : ∀ x ∈ xs, (x.name).length ≤ 1048576 := fun x hx => by have := len_le_lens (f := Mach.name) hx; omega
    refine AC.skip ?_
    refine AC.seq ?_
    refine AC.region ?_
    refine AO.yld _ (Yld.move rfl) rfl rfl rfl ?_
    refine AO.callMk 0 rfl rfl Try.call59 rfl rfl rfl (laws_toMachineS_c (by first | assumption | omega)) (by simp [AV.Flat, AV.FlatL, PV.Flat, PV.FlatL]) (flat_map flatMach _) rfl rfl ?_
    refine AO.yld _ (Yld.call rfl rfl Try.call58 rfl rfl rfl (spec_ValidMachines_c (by first | assumption | omega) (by assumption)) rfl) rfl rfl rfl ?_
    refine AO.yld _ (Yld.assign rfl) rfl rfl rfl ?_
    refine AO.nil ?_
    refine AC.seq ?_
    refine AC.region ?_
    refine AO.yld _ (Yld.move rfl) rfl rfl rfl ?_
    refine AO.callMk 1 rfl rfl Try.call59 rfl rfl rfl (laws_toMachineS_c (by first | assumption | omega)) (by simp [AV.Flat, AV.FlatL, PV.Flat, PV.FlatL]) (flat_map flatMach _) rfl rfl ?_
    refine AO.yld _ (Yld.assign rfl) rfl rfl rfl ?_
    refine AO.nil ?_
    refine AC.seq ?_
    refine AC.region ?_
    refine AO.yld _ (Yld.move rfl) rfl rfl rfl ?_
    refine AO.yld _ (Yld.call rfl rfl Try.call60 rfl rfl rfl (impl_ValidMachines_c (by first | assumption | omega) (by assumption)) rfl) rfl rfl rfl ?_
    refine AO.yld _ (Yld.assign rfl) rfl rfl rfl ?_
    refine AO.nil ?_
    refine AC.seq ?_
    refine AC.seq ?_
    refine AC.region ?_
    refine AO.yld _ (Yld.move rfl) rfl rfl rfl ?_
    refine AO.yld _ (Yld.move rfl) rfl rfl rfl ?_
    refine AO.yld _ (Yld.bne Try.underlying4 rfl rfl) rfl rfl rfl ?_
    refine AO.nil ?_
    refine AC.cond _ rfl (fun c21 => ?_) (fun c21 => ?_)
    · -- c21 True
      refine AC.seq ?_
      refine AC.region ?_
      refine AO.yld _ (Yld.assign rfl) rfl rfl rfl ?_
      refine AO.nil ?_
      refine Pure.ret Try.results13 (RVs.cons (RV.tmp rfl) RVs.nil) rfl ?_
      first | rfl | (simp_all; done) | (simp_all; intros; omega) | grind
    · -- c21 False
      refine AC.skip ?_
      refine AC.seq ?_
      refine AC.seq ?_
      refine AC.region ?_
      refine AO.yld _ (Yld.move rfl) rfl rfl rfl ?_
      refine AO.yld _ (Yld.move rfl) rfl rfl rfl ?_
      refine AO.callMk 2 rfl rfl Try.call59 rfl rfl rfl (laws_toMachineS_c (by first | assumption | omega)) (by simp [AV.Flat, AV.FlatL, PV.Flat, PV.FlatL]) (flat_map flatMach _) rfl rfl ?_
      refine AO.yld _ (Yld.call rfl rfl Try.call61 rfl rfl rfl (laws_eqMachineS_c (by first | assumption | omega)) rfl) rfl rfl rfl ?_
      refine AO.yld _ (Yld.not rfl) rfl rfl rfl ?_
      refine AO.nil ?_
      refine AC.cond _ rfl (fun c26 => ?_) (fun c26 => ?_)
      · -- c26 True
        refine AC.seq ?_
        refine AC.region ?_
        refine AO.yld _ (Yld.assign rfl) rfl rfl rfl ?_
        refine AO.nil ?_
        refine Pure.ret Try.results13 (RVs.cons (RV.tmp rfl) RVs.nil) rfl ?_
        first | rfl | (simp_all; done) | (simp_all; intros; omega) | grind
      · -- c26 False
        refine AC.skip ?_
        refine AC.seq ?_
        refine AC.region ?_
        refine AO.yld _ (Yld.assign rfl) rfl rfl rfl ?_
        refine AO.nil ?_
        refine Pure.ret Try.results13 (RVs.cons (RV.tmp rfl) RVs.nil) rfl ?_
        first | rfl | (simp_all; done) | (simp_all; intros; omega) | grind

theorem laws_FnExactValidMedia_c {xs : List NV} (hb_xs : xs.length ≤ 9223372036854775807) (hs_xs : ∀ x ∈ xs, (x.name).length ≤ 9223372036854775807) :
    Pure Try.prog 11 [.sl 2 (xs.map encNV)] (.v (.bool true)) := by
  refine Pure.intro Try.func11 rfl Try.ntmps11 rfl rfl (fun w => ?_)
  refine AC.seq ?_
  refine AC.region ?_
  refine AO.yld _ (Yld.assign rfl) rfl rfl rfl ?_
  refine AO.nil ?_
  refine AC.seq ?_
  refine AC.region ?_
  refine AO.yld _ (Yld.assign rfl) rfl rfl rfl ?_
  refine AO.nil ?_
  refine AC.seq ?_
  refine AC.region ?_
  refine AO.yld _ (Yld.move rfl) rfl rfl rfl ?_
  refine AO.yld _ (Yld.move rfl) rfl rfl rfl ?_
  refine AO.yld _ (Yld.call rfl rfl Try.call50 rfl rfl rfl (laws_szMediaS_c (by omega) (by omega) (by first | assumption | omega) (by assumption)) rfl) rfl rfl rfl ?_
  refine AO.yld _ (Yld.assign rfl) rfl rfl rfl ?_
  refine AO.nil ?_
  refine AC.seq ?_
  refine AC.seq ?_
  refine AC.region ?_
  refine AO.yld _ (Yld.move rfl) rfl rfl rfl ?_
  refine AO.yld _ (Yld.int rfl rfl rfl) rfl rfl rfl ?_
  refine AO.nil ?_
  refine AC.cond _ rfl (fun c11 => ?_) (fun c11 => ?_)
  · -- c11 True
    refine AC.seq ?_
    refine AC.region ?_
    refine AO.yld _ (Yld.assign rfl) rfl rfl rfl ?_
    refine AO.nil ?_
    refine Pure.ret Try.results11 (RVs.cons (RV.tmp rfl) RVs.nil) rfl ?_
    first | rfl | (simp_all; done) | (simp_all; intros; omega) | grind
  · -- c11 False
    have hz_xs := szAll_ge c11
    have hp_xs := lens_nonneg (f := NV.name) (xs := xs)
    have hn_xs : xs.length ≤ 1048576 := by omega
    have ht_xs : ∀ x ∈ xs, (x.name).length ≤ 1048576 := fun x hx => by have := len_le_lens (f := NV.name) hx; omega
    refine AC.skip ?_
    refine AC.seq ?_
    refine AC.region ?_
    refine AO.yld _ (Yld.move rfl) rfl rfl rfl ?_
    refine AO.callMk 0 rfl rfl Try.call52 rfl rfl rfl (laws_toMediaS_c (by first | assumption | omega)) (by simp [AV.Flat, AV.FlatL, PV.Flat, PV.FlatL]) (flat_map flatNV _) rfl rfl ?_
    refine AO.yld _ (Yld.call rfl rfl Try.call51 rfl rfl rfl (spec_ValidMedia_c (by first | assumption | omega) (by assumption)) rfl) rfl rfl rfl ?_
    refine AO.yld _ (Yld.assign rfl) rfl rfl rfl ?_
    refine AO.nil ?_
    refine AC.seq ?_
    refine AC.region ?_
    refine AO.yld _ (Yld.move rfl) rfl rfl rfl ?_
    refine AO.callMk 1 rfl rfl Try.call52 rfl rfl rfl (laws_toMediaS_c (by first | assumption | omega)) (by simp [AV.Flat, AV.FlatL, PV.Flat, PV.FlatL]) (flat_map flatNV _) rfl rfl ?_
    refine AO.yld _ (Yld.assign rfl) rfl rfl rfl ?_
    refine AO.nil ?_
    refine AC.seq ?_
    refine AC.region ?_
    refine AO.yld _ (Yld.move rfl) rfl rfl rfl ?_
    refine AO.yld _ (Yld.call rfl rfl Try.call53 rfl rfl rfl (impl_ValidMedia_c (by first | assumption | omega) (by assumption)) rfl) rfl rfl rfl ?_
    refine AO.yld _ (Yld.assign rfl) rfl rfl rfl ?_
    refine AO.nil ?_
    refine AC.seq ?_
    refine AC.seq ?_
    refine AC.region ?_
    refine AO.yld _ (Yld.move rfl) rfl rfl rfl ?_
    refine AO.yld _ (Yld.move rfl) rfl rfl rfl ?_
    refine AO.yld _ (Yld.bne Try.underlying4 rfl rfl) rfl rfl rfl ?_
    refine AO.nil ?_
    refine AC.cond _ rfl (fun c21 => ?_) (fun c21 => ?_)
    · -- c21 True
      refine AC.seq ?_
      refine AC.region ?_
      refine AO.yld _ (Yld.assign rfl) rfl rfl rfl ?_
      refine AO.nil ?_
      refine Pure.ret Try.results11 (RVs.cons (RV.tmp rfl) RVs.nil) rfl ?_
      first | rfl | (simp_all; done) | (simp_all; intros; omega) | grind
    · -- c21 False
      refine AC.skip ?_
      refine AC.seq ?_
      refine AC.seq ?_
      refine AC.region ?_
      refine AO.yld _ (Yld.move rfl) rfl rfl rfl ?_
      refine AO.yld _ (Yld.move rfl) rfl rfl rfl ?_
      refine AO.callMk 2 rfl rfl Try.call52 rfl rfl rfl (laws_toMediaS_c (by first | assumption | omega)) (by simp [AV.Flat, AV.FlatL, PV.Flat, PV.FlatL]) (flat_map flatNV _) rfl rfl ?_
      refine AO.yld _ (Yld.call rfl rfl Try.call54 rfl rfl rfl (laws_eqMediaS_c (by first | assumption | omega)) rfl) rfl rfl rfl ?_
      refine AO.yld _ (Yld.not rfl) rfl rfl rfl ?_
      refine AO.nil ?_
      refine AC.cond _ rfl (fun c26 => ?_) (fun c26 => ?_)
      · -- c26 True
        refine AC.seq ?_
        refine AC.region ?_
        refine AO.yld _ (Yld.assign rfl) rfl rfl rfl ?_
        refine AO.nil ?_
        refine Pure.ret Try.results11 (RVs.cons (RV.tmp rfl) RVs.nil) rfl ?_
        first | rfl | (simp_all; done) | (simp_all; intros; omega) | grind
      · -- c26 False
        refine AC.skip ?_
        refine AC.seq ?_
        refine AC.region ?_
        refine AO.yld _ (Yld.assign rfl) rfl rfl rfl ?_
        refine AO.nil ?_
        refine Pure.ret Try.results11 (RVs.cons (RV.tmp rfl) RVs.nil) rfl ?_
        first | rfl | (simp_all; done) | (simp_all; intros; omega) | grind

theorem laws_FnExactValidState_c {xs : List NV} (hb_xs : xs.length ≤ 9223372036854775807) (hs_xs : ∀ x ∈ xs, (x.name).length ≤ 9223372036854775807) :
    Pure Try.prog 12 [.sl 2 (xs.map encNV)] (.v (.bool true)) := by
  refine Pure.intro Try.func12 rfl Try.ntmps12 rfl rfl (fun w => ?_)
  refine AC.seq ?_
  refine AC.region ?_
  refine AO.yld _ (Yld.assign rfl) rfl rfl rfl ?_
  refine AO.nil ?_
  refine AC.seq ?_
  refine AC.region ?_
  refine AO.yld _ (Yld.assign rfl) rfl rfl rfl ?_
  refine AO.nil ?_
  refine AC.seq ?_
  refine AC.region ?_
  refine AO.yld _ (Yld.move rfl) rfl rfl rfl ?_
  refine AO.yld _ (Yld.move rfl) rfl rfl rfl ?_
  refine AO.yld _ (Yld.call rfl rfl Try.call32 rfl rfl rfl (laws_szSettingS_c (by omega) (by omega) (by first | assumption | omega) (by assumption)) rfl) rfl rfl rfl ?_
  refine AO.yld _ (Yld.assign rfl) rfl rfl rfl ?_
  refine AO.nil ?_
  refine AC.seq ?_
  refine AC.seq ?_
  refine AC.region ?_
  refine AO.yld _ (Yld.move rfl) rfl rfl rfl ?_
  refine AO.yld _ (Yld.int rfl rfl rfl) rfl rfl rfl ?_
  refine AO.nil ?_
  refine AC.cond _ rfl (fun c11 => ?_) (fun c11 => ?_)
  · -- c11 True
    refine AC.seq ?_
    refine AC.region ?_
    refine AO.yld _ (Yld.assign rfl) rfl rfl rfl ?_
    refine AO.nil ?_
    refine Pure.ret Try.results12 (RVs.cons (RV.tmp rfl) RVs.nil) rfl ?_
    first | rfl | (simp_all; done) | (simp_all; intros; omega) | grind
  · -- c11 False
    have hz_xs := szAll_ge c11
    have hp_xs := lens_nonneg (f := NV.name) (xs := xs)
    have hn_xs : xs.length ≤ 1048576 := by omega
    have ht_xs : ∀ x ∈ xs, (x.name).length ≤ 1048576 := fun x hx => by have := len_le_lens (f := NV.name) hx; omega
    refine AC.skip ?_
    refine AC.seq ?_
    refine AC.region ?_
    refine AO.yld _ (Yld.move rfl) rfl rfl rfl ?_
    refine AO.callMk 0 rfl rfl Try.call34 rfl rfl rfl (laws_toSettingS_c (by first | assumption | omega)) (by simp [AV.Flat, AV.FlatL, PV.Flat, PV.FlatL]) (flat_map flatNV _) rfl rfl ?_
    refine AO.yld _ (Yld.call rfl rfl Try.call55 rfl rfl rfl (spec_ValidState_c (by first | assumption | omega) (by assumption)) rfl) rfl rfl rfl ?_
    refine AO.yld _ (Yld.assign rfl) rfl rfl rfl ?_
    refine AO.nil ?_
    refine AC.seq ?_
    refine AC.region ?_
    refine AO.yld _ (Yld.move rfl) rfl rfl rfl ?_
    refine AO.callMk 1 rfl rfl Try.call34 rfl rfl rfl (laws_toSettingS_c (by first | assumption | omega)) (by simp [AV.Flat, AV.FlatL, PV.Flat, PV.FlatL]) (flat_map flatNV _) rfl rfl ?_
    refine AO.yld _ (Yld.assign rfl) rfl rfl rfl ?_
    refine AO.nil ?_
    refine AC.seq ?_
    refine AC.region ?_
    refine AO.yld _ (Yld.move rfl) rfl rfl rfl ?_
    refine AO.yld _ (Yld.call rfl rfl Try.call56 rfl rfl rfl (impl_ValidState_c (by first | assumption | omega) (by assumption)) rfl) rfl rfl rfl ?_
    refine AO.yld _ (Yld.assign rfl) rfl rfl rfl ?_
    refine AO.nil ?_
    refine AC.seq ?_
    refine AC.seq ?_
    refine AC.region ?_
    refine AO.yld _ (Yld.move rfl) rfl rfl rfl ?_
    refine AO.yld _ (Yld.move rfl) rfl rfl rfl ?_
    refine AO.yld _ (Yld.bne Try.underlying4 rfl rfl) rfl rfl rfl ?_
    refine AO.nil ?_
    refine AC.cond _ rfl (fun c21 => ?_) (fun c21 => ?_)
    · -- c21 True
      refine AC.seq ?_
      refine AC.region ?_
      refine AO.yld _ (Yld.assign rfl) rfl rfl rfl ?_
      refine AO.nil ?_
      refine Pure.ret Try.results12 (RVs.cons (RV.tmp rfl) RVs.nil) rfl ?_
      first | rfl | (simp_all; done) | (simp_all; intros; omega) | grind
    · -- c21 False
      refine AC.skip ?_
      refine AC.seq ?_
      refine AC.seq ?_
      refine AC.region ?_
      refine AO.yld _ (Yld.move rfl) rfl rfl rfl ?_
      refine AO.yld _ (Yld.move rfl) rfl rfl rfl ?_
      refine AO.callMk 2 rfl rfl Try.call34 rfl rfl rfl (laws_toSettingS_c (by first | assumption | omega)) (by simp [AV.Flat, AV.FlatL, PV.Flat, PV.FlatL]) (flat_map flatNV _) rfl rfl ?_
      refine AO.yld _ (Yld.call rfl rfl Try.call36 rfl rfl rfl (laws_eqSettingS_c (by first | assumption | omega)) rfl) rfl rfl rfl ?_
      refine AO.yld _ (Yld.not rfl) rfl rfl rfl ?_
      refine AO.nil ?_
      refine AC.cond _ rfl (fun c26 => ?_) (fun c26 => ?_)
      · -- c26 True
        refine AC.seq ?_
        refine AC.region ?_
        refine AO.yld _ (Yld.assign rfl) rfl rfl rfl ?_
        refine AO.nil ?_
        refine Pure.ret Try.results12 (RVs.cons (RV.tmp rfl) RVs.nil) rfl ?_
        first | rfl | (simp_all; done) | (simp_all; intros; omega) | grind
      · -- c26 False
        refine AC.skip ?_
        refine AC.seq ?_
        refine AC.region ?_
        refine AO.yld _ (Yld.assign rfl) rfl rfl rfl ?_
        refine AO.nil ?_
        refine Pure.ret Try.results12 (RVs.cons (RV.tmp rfl) RVs.nil) rfl ?_
        first | rfl | (simp_all; done) | (simp_all; intros; omega) | grind

end Go.Proofs.Ytjmicabmkipomaa
