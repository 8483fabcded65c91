/- Contracts of functions of the program, each by a walk of its text in the calculus V. -/
import Derived.Test.YtglblonacmhceaaC1
set_option linter.all false
set_option linter.unusedSimpArgs false
set_option linter.unnecessarySimpa false
set_option linter.unusedVariables false
namespace Go.Proofs.Ytglblonacmhceaa
open Go Go.V
theorem ty176 : TyIs Try.prog 176 (.agg #[.int .i64 0, .int .i64 0, .int .i64 0, .int .i64 0]) 4 32 := by unfold TyIs; kernel_rfl

theorem spec_l02Normal_c {a : Int} (a1 : -9223372036854775808 ≤ a) (a2 : a ≤ 9223372036854775807) :
    Pure Try.prog 192 [.v (.int .i64 a)] (.v (.int .i64 (a % 360000))) := by
  refine Pure.intro Try.func192 rfl Try.ntmps192 rfl rfl (fun w => ?_)
  refine AC.seq ?_
  refine AC.region ?_
  refine AO.yld _ (Yld.assign rfl) rfl rfl rfl ?_
  refine AO.nil ?_
  refine AC.seq ?_
  refine AC.region ?_
  refine AO.yld _ (Yld.move rfl) rfl rfl rfl ?_
  refine AO.yld _ (Yld.rem rfl rfl (by omega)) rfl rfl rfl ?_
  refine AO.yld _ (Yld.add rfl rfl (by have := @tmod_lo a 360000 (by omega); have := @tmod_hi a 360000 (by omega); omega) (by have := @tmod_lo a 360000 (by omega); have := @tmod_hi a 360000 (by omega); omega)) rfl rfl rfl ?_
  refine AO.yld _ (Yld.rem rfl rfl (by omega)) rfl rfl rfl ?_
  refine AO.yld _ (Yld.assign rfl) rfl rfl rfl ?_
  refine AO.nil ?_
  refine Pure.ret Try.results192 (RVs.cons (RV.tmp rfl) RVs.nil) rfl ?_
  first
    | exact ci (norm_law a).symm
    | exact ci (norm_add (by simp_all)).symm
    | exact ci (norm_same (by simp_all)).symm

theorem impl_NormalAngle_c {a : Int} (a1 : -9223372036854775808 ≤ a) (a2 : a ≤ 9223372036854775807) :
    Pure Try.prog 196 [.v (.int .i64 a)] (.v (.int .i64 (a % 360000))) := by
  refine Pure.intro Try.func196 rfl Try.ntmps196 rfl rfl (fun w => ?_)
  refine AC.seq ?_
  refine AC.region ?_
  refine AO.yld _ (Yld.assign rfl) rfl rfl rfl ?_
  refine AO.nil ?_
  refine AC.seq ?_
  refine AC.region ?_
  refine AO.yld _ (Yld.move rfl) rfl rfl rfl ?_
  refine AO.yld _ (Yld.rem rfl rfl (by omega)) rfl rfl rfl ?_
  refine AO.yld _ (Yld.assign rfl) rfl rfl rfl ?_
  refine AO.nil ?_
  refine AC.seq ?_
  refine AC.seq ?_
  refine AC.region ?_
  refine AO.yld _ (Yld.move rfl) rfl rfl rfl ?_
  refine AO.yld _ (Yld.int rfl rfl rfl) rfl rfl rfl ?_
  refine AO.nil ?_
  refine AC.cond _ rfl (fun c6 => ?_) (fun c6 => ?_)
  · -- c6 True
    refine AC.region ?_
    refine AO.yld _ (Yld.move rfl) rfl rfl rfl ?_
    refine AO.yld _ (Yld.add rfl rfl (by have := @tmod_lo a 360000 (by omega); have := @tmod_hi a 360000 (by omega); omega) (by have := @tmod_lo a 360000 (by omega); have := @tmod_hi a 360000 (by omega); omega)) rfl rfl rfl ?_
    refine AO.yld _ (Yld.assign rfl) rfl rfl rfl ?_
    refine AO.nil ?_
    refine AC.seq ?_
    refine AC.region ?_
    refine AO.yld _ (Yld.move rfl) rfl rfl rfl ?_
    refine AO.yld _ (Yld.assign rfl) rfl rfl rfl ?_
    refine AO.nil ?_
    refine Pure.ret Try.results196 (RVs.cons (RV.tmp rfl) RVs.nil) rfl ?_
    first
      | exact ci (norm_law a).symm
      | exact ci (norm_add (by simp_all)).symm
      | exact ci (norm_same (by simp_all)).symm
  · -- c6 False
    refine AC.skip ?_
    refine AC.seq ?_
    refine AC.region ?_
    refine AO.yld _ (Yld.move rfl) rfl rfl rfl ?_
    refine AO.yld _ (Yld.assign rfl) rfl rfl rfl ?_
    refine AO.nil ?_
    refine Pure.ret Try.results196 (RVs.cons (RV.tmp rfl) RVs.nil) rfl ?_
    first
      | exact ci (norm_law a).symm
      | exact ci (norm_add (by simp_all)).symm
      | exact ci (norm_same (by simp_all)).symm

theorem spec_l00Min_c {a b : Int} :
    Pure Try.prog 170 [.v (.int .i64 a), .v (.int .i64 b)] (.v (.int .i64 (min a b))) := by
  refine Pure.intro Try.func170 rfl Try.ntmps170 rfl rfl (fun w => ?_)
  refine AC.seq ?_
  refine AC.region ?_
  refine AO.yld _ (Yld.assign rfl) rfl rfl rfl ?_
  refine AO.nil ?_
  refine AC.seq ?_
  refine AC.seq ?_
  refine AC.region ?_
  refine AO.yld _ (Yld.move rfl) rfl rfl rfl ?_
  refine AO.yld _ (Yld.move rfl) rfl rfl rfl ?_
  refine AO.yld _ (Yld.int rfl rfl rfl) rfl rfl rfl ?_
  refine AO.nil ?_
  refine AC.cond _ rfl (fun c7 => ?_) (fun c7 => ?_)
  · -- c7 True
    refine AC.seq ?_
    refine AC.region ?_
    refine AO.yld _ (Yld.move rfl) rfl rfl rfl ?_
    refine AO.yld _ (Yld.assign rfl) rfl rfl rfl ?_
    refine AO.nil ?_
    refine Pure.ret Try.results170 (RVs.cons (RV.tmp rfl) RVs.nil) rfl ?_
    first | (refine ci ?_; simp_all; omega) | (refine ci ?_; simp_all [Int.min_def]) | (refine ci ?_; simp_all [Int.min_def]; omega)
  · -- c7 False
    refine AC.skip ?_
    refine AC.seq ?_
    refine AC.region ?_
    refine AO.yld _ (Yld.move rfl) rfl rfl rfl ?_
    refine AO.yld _ (Yld.assign rfl) rfl rfl rfl ?_
    refine AO.nil ?_
    refine Pure.ret Try.results170 (RVs.cons (RV.tmp rfl) RVs.nil) rfl ?_
    first | (refine ci ?_; simp_all; omega) | (refine ci ?_; simp_all [Int.min_def]) | (refine ci ?_; simp_all [Int.min_def]; omega)

theorem spec_l00Max_c {a b : Int} :
    Pure Try.prog 101 [.v (.int .i64 a), .v (.int .i64 b)] (.v (.int .i64 (max a b))) := by
  refine Pure.intro Try.func101 rfl Try.ntmps101 rfl rfl (fun w => ?_)
  refine AC.seq ?_
  refine AC.region ?_
  refine AO.yld _ (Yld.assign rfl) rfl rfl rfl ?_
  refine AO.nil ?_
  refine AC.seq ?_
  refine AC.seq ?_
  refine AC.region ?_
  refine AO.yld _ (Yld.move rfl) rfl rfl rfl ?_
  refine AO.yld _ (Yld.move rfl) rfl rfl rfl ?_
  refine AO.yld _ (Yld.int rfl rfl rfl) rfl rfl rfl ?_
  refine AO.nil ?_
  refine AC.cond _ rfl (fun c7 => ?_) (fun c7 => ?_)
  · -- c7 True
    refine AC.seq ?_
    refine AC.region ?_
    refine AO.yld _ (Yld.move rfl) rfl rfl rfl ?_
    refine AO.yld _ (Yld.assign rfl) rfl rfl rfl ?_
    refine AO.nil ?_
    refine Pure.ret Try.results101 (RVs.cons (RV.tmp rfl) RVs.nil) rfl ?_
    first | (refine ci ?_; simp_all; omega) | (refine ci ?_; simp_all [Int.max_def]) | (refine ci ?_; simp_all [Int.max_def]; omega)
  · -- c7 False
    refine AC.skip ?_
    refine AC.seq ?_
    refine AC.region ?_
    refine AO.yld _ (Yld.move rfl) rfl rfl rfl ?_
    refine AO.yld _ (Yld.assign rfl) rfl rfl rfl ?_
    refine AO.nil ?_
    refine Pure.ret Try.results101 (RVs.cons (RV.tmp rfl) RVs.nil) rfl ?_
    first | (refine ci ?_; simp_all; omega) | (refine ci ?_; simp_all [Int.max_def]) | (refine ci ?_; simp_all [Int.max_def]; omega)

theorem spec_l02Between_c {a b : Int} (a1 : -9223372036854775808 ≤ a) (a2 : a ≤ 9223372036854775807) (b1 : -9223372036854775808 ≤ b) (b2 : b ≤ 9223372036854775807) :
    Pure Try.prog 191 [.v (.int .i64 a), .v (.int .i64 b)] (.v (.int .i64 (between a b))) := by
  refine Pure.intro Try.func191 rfl Try.ntmps191 rfl rfl (fun w => ?_)
  refine AC.seq ?_
  refine AC.region ?_
  refine AO.yld _ (Yld.assign rfl) rfl rfl rfl ?_
  refine AO.nil ?_
  refine AC.seq ?_
  refine AC.region ?_
  refine AO.yld _ (Yld.move rfl) rfl rfl rfl ?_
  refine AO.yld _ (Yld.call rfl rfl Try.call192 rfl rfl rfl (spec_l02Normal_c (by omega) (by omega)) rfl) rfl rfl rfl ?_
  refine AO.yld _ (Yld.move rfl) rfl rfl rfl ?_
  refine AO.yld _ (Yld.call rfl rfl Try.call192 rfl rfl rfl (spec_l02Normal_c (by omega) (by omega)) rfl) rfl rfl rfl ?_
  refine AO.yld _ (Yld.sub rfl rfl (by omega) (by omega)) rfl rfl rfl ?_
  refine AO.yld _ (Yld.call rfl rfl Try.call192 rfl rfl rfl (spec_l02Normal_c (by omega) (by omega)) rfl) rfl rfl rfl ?_
  refine AO.yld _ (Yld.assign rfl) rfl rfl rfl ?_
  refine AO.nil ?_
  refine AC.seq ?_
  refine AC.region ?_
  refine AO.yld _ (Yld.move rfl) rfl rfl rfl ?_
  refine AO.yld _ (Yld.move rfl) rfl rfl rfl ?_
  refine AO.yld _ (Yld.sub rfl rfl (by omega) (by omega)) rfl rfl rfl ?_
  refine AO.yld _ (Yld.call rfl rfl Try.call170 rfl rfl rfl (spec_l00Min_c) rfl) rfl rfl rfl ?_
  refine AO.yld _ (Yld.assign rfl) rfl rfl rfl ?_
  refine AO.nil ?_
  refine Pure.ret Try.results191 (RVs.cons (RV.tmp rfl) RVs.nil) rfl ?_
  rfl

theorem impl_AngleBetween_c {a b : Int} (a1 : -9223372036854775808 ≤ a) (a2 : a ≤ 9223372036854775807) (b1 : -9223372036854775808 ≤ b) (b2 : b ≤ 9223372036854775807) :
    Pure Try.prog 195 [.v (.int .i64 a), .v (.int .i64 b)] (.v (.int .i64 (between a b))) := by
  refine Pure.intro Try.func195 rfl Try.ntmps195 rfl rfl (fun w => ?_)
  refine AC.seq ?_
  refine AC.region ?_
  refine AO.yld _ (Yld.assign rfl) rfl rfl rfl ?_
  refine AO.nil ?_
  refine AC.seq ?_
  refine AC.region ?_
  refine AO.yld _ (Yld.move rfl) rfl rfl rfl ?_
  refine AO.yld _ (Yld.call rfl rfl Try.call196 rfl rfl rfl (impl_NormalAngle_c (by omega) (by omega)) rfl) rfl rfl rfl ?_
  refine AO.yld _ (Yld.move rfl) rfl rfl rfl ?_
  refine AO.yld _ (Yld.call rfl rfl Try.call196 rfl rfl rfl (impl_NormalAngle_c (by omega) (by omega)) rfl) rfl rfl rfl ?_
  refine AO.yld _ (Yld.sub rfl rfl (by omega) (by omega)) rfl rfl rfl ?_
  refine AO.yld _ (Yld.call rfl rfl Try.call196 rfl rfl rfl (impl_NormalAngle_c (by omega) (by omega)) rfl) rfl rfl rfl ?_
  refine AO.yld _ (Yld.assign rfl) rfl rfl rfl ?_
  refine AO.nil ?_
  refine AC.seq ?_
  refine AC.region ?_
  refine AO.yld _ (Yld.move rfl) rfl rfl rfl ?_
  refine AO.yld _ (Yld.move rfl) rfl rfl rfl ?_
  refine AO.yld _ (Yld.negN rfl (by omega) (by omega)) rfl rfl rfl ?_
  refine AO.yld _ (Yld.call rfl rfl Try.call196 rfl rfl rfl (impl_NormalAngle_c (by omega) (by omega)) rfl) rfl rfl rfl ?_
  refine AO.yld _ (Yld.min2 rfl rfl) rfl rfl rfl ?_
  refine AO.yld _ (Yld.assign rfl) rfl rfl rfl ?_
  refine AO.nil ?_
  refine Pure.ret Try.results195 (RVs.cons (RV.tmp rfl) RVs.nil) rfl ?_
  exact ci (between_neg a b).symm

theorem spec_l02Abs_c {n : Int} (h1 : -9223372036854775807 ≤ n) (h2 : n ≤ 9223372036854775807) :
    Pure Try.prog 140 [.v (.int .i64 n)] (.v (.int .i64 (absI n))) := by
  refine Pure.intro Try.func140 rfl Try.ntmps140 rfl rfl (fun w => ?_)
  refine AC.seq ?_
  refine AC.region ?_
  refine AO.yld _ (Yld.assign rfl) rfl rfl rfl ?_
  refine AO.nil ?_
  refine AC.seq ?_
  refine AC.seq ?_
  refine AC.region ?_
  refine AO.yld _ (Yld.move rfl) rfl rfl rfl ?_
  refine AO.yld _ (Yld.int rfl rfl rfl) rfl rfl rfl ?_
  refine AO.nil ?_
  refine AC.cond _ rfl (fun c4 => ?_) (fun c4 => ?_)
  · -- c4 True
    refine AC.seq ?_
    refine AC.region ?_
    refine AO.yld _ (Yld.move rfl) rfl rfl rfl ?_
    refine AO.yld _ (Yld.negN rfl (by omega) (by omega)) rfl rfl rfl ?_
    refine AO.yld _ (Yld.assign rfl) rfl rfl rfl ?_
    refine AO.nil ?_
    refine Pure.ret Try.results140 (RVs.cons (RV.tmp rfl) RVs.nil) rfl ?_
    refine ci ?_; simp_all [absI]; try omega
  · -- c4 False
    refine AC.skip ?_
    refine AC.seq ?_
    refine AC.region ?_
    refine AO.yld _ (Yld.move rfl) rfl rfl rfl ?_
    refine AO.yld _ (Yld.assign rfl) rfl rfl rfl ?_
    refine AO.nil ?_
    refine Pure.ret Try.results140 (RVs.cons (RV.tmp rfl) RVs.nil) rfl ?_
    refine ci ?_; simp_all [absI]; try omega

theorem impl_absOf_c {n : Int} (h1 : -9223372036854775807 ≤ n) (h2 : n ≤ 9223372036854775807) :
    Pure Try.prog 143 [.v (.int .i64 n)] (.v (.int .i64 (absI n))) := by
  refine Pure.intro Try.func143 rfl Try.ntmps143 rfl rfl (fun w => ?_)
  refine AC.seq ?_
  refine AC.region ?_
  refine AO.yld _ (Yld.assign rfl) rfl rfl rfl ?_
  refine AO.nil ?_
  refine AC.seq ?_
  refine AC.seq ?_
  refine AC.region ?_
  refine AO.yld _ (Yld.move rfl) rfl rfl rfl ?_
  refine AO.yld _ (Yld.int rfl rfl rfl) rfl rfl rfl ?_
  refine AO.nil ?_
  refine AC.cond _ rfl (fun c4 => ?_) (fun c4 => ?_)
  · -- c4 True
    refine AC.seq ?_
    refine AC.region ?_
    refine AO.yld _ (Yld.move rfl) rfl rfl rfl ?_
    refine AO.yld _ (Yld.negN rfl (by omega) (by omega)) rfl rfl rfl ?_
    refine AO.yld _ (Yld.assign rfl) rfl rfl rfl ?_
    refine AO.nil ?_
    refine Pure.ret Try.results143 (RVs.cons (RV.tmp rfl) RVs.nil) rfl ?_
    refine ci ?_; simp_all [absI]; try omega
  · -- c4 False
    refine AC.skip ?_
    refine AC.seq ?_
    refine AC.region ?_
    refine AO.yld _ (Yld.move rfl) rfl rfl rfl ?_
    refine AO.yld _ (Yld.assign rfl) rfl rfl rfl ?_
    refine AO.nil ?_
    refine Pure.ret Try.results143 (RVs.cons (RV.tmp rfl) RVs.nil) rfl ?_
    refine ci ?_; simp_all [absI]; try omega

theorem spec_l26Half_c {n : Int} (n1 : -9223372036854775808 ≤ n) (n2 : n ≤ 9223372036854775807) :
    Pure Try.prog 164 [.v (.int .i64 n)] (.v (.int .i64 (n / 2))) := by
  refine Pure.intro Try.func164 rfl Try.ntmps164 rfl rfl (fun w => ?_)
  refine AC.seq ?_
  refine AC.region ?_
  refine AO.yld _ (Yld.assign rfl) rfl rfl rfl ?_
  refine AO.nil ?_
  refine AC.seq ?_
  refine AC.seq ?_
  refine AC.region ?_
  refine AO.yld _ (Yld.move rfl) rfl rfl rfl ?_
  refine AO.yld _ (Yld.int rfl rfl rfl) rfl rfl rfl ?_
  refine AO.yld _ (Yld.move rfl) rfl rfl rfl ?_
  refine AO.splitAt 5 _ rfl (fun s5 => ?_) (fun s5 => ?_)
  · -- s5 True
    refine AO.yldG _ (Yld.move rfl) rfl rfl rfl rfl rfl ?_
    refine AO.yldG _ (Yld.rem rfl rfl (by omega)) rfl rfl rfl rfl rfl ?_
    refine AO.yldG _ (Yld.int rfl rfl rfl) rfl rfl rfl rfl rfl ?_
    refine AO.yld _ (Yld.pickT rfl rfl) rfl rfl rfl ?_
    refine AO.nil ?_
    refine AC.cond _ rfl (fun c9 => ?_) (fun c9 => ?_)
    · -- c9 True
      refine AC.seq ?_
      refine AC.region ?_
      refine AO.yld _ (Yld.move rfl) rfl rfl rfl ?_
      refine AO.yld _ (Yld.quoP rfl rfl (by omega) (by omega) (by omega)) rfl rfl rfl ?_
      refine AO.yld _ (Yld.sub rfl rfl (by have := @tdiv_range n 2 (by omega) (by omega) (by omega); have := @half_odd n (by simp_all) (by simp_all); omega) (by have := @tdiv_range n 2 (by omega) (by omega) (by omega); have := @half_odd n (by simp_all) (by simp_all); omega)) rfl rfl rfl ?_
      refine AO.yld _ (Yld.assign rfl) rfl rfl rfl ?_
      refine AO.nil ?_
      refine Pure.ret Try.results164 (RVs.cons (RV.tmp rfl) RVs.nil) rfl ?_
      first
        | exact ci (half_odd (by simp_all) (by simp_all)).symm
        | exact ci (half_even (by rintro ⟨h8, h9⟩; first | (simp_all; done) | (simp_all; omega))).symm
    · -- c9 False
      refine AC.skip ?_
      refine AC.seq ?_
      refine AC.region ?_
      refine AO.yld _ (Yld.move rfl) rfl rfl rfl ?_
      refine AO.yld _ (Yld.quoP rfl rfl (by omega) (by omega) (by omega)) rfl rfl rfl ?_
      refine AO.yld _ (Yld.assign rfl) rfl rfl rfl ?_
      refine AO.nil ?_
      refine Pure.ret Try.results164 (RVs.cons (RV.tmp rfl) RVs.nil) rfl ?_
      first
        | exact ci (half_odd (by simp_all) (by simp_all)).symm
        | exact ci (half_even (by rintro ⟨h8, h9⟩; first | (simp_all; done) | (simp_all; omega))).symm
  · -- s5 False
    refine AO.skipT rfl rfl rfl rfl rfl ?_
    refine AO.skipT rfl rfl rfl rfl rfl ?_
    refine AO.skipT rfl rfl rfl rfl rfl ?_
    refine AO.yld _ (Yld.pickF rfl rfl) rfl rfl rfl ?_
    refine AO.nil ?_
    refine AC.condF rfl ?_
    refine AC.skip ?_
    refine AC.seq ?_
    refine AC.region ?_
    refine AO.yld _ (Yld.move rfl) rfl rfl rfl ?_
    refine AO.yld _ (Yld.quoP rfl rfl (by omega) (by omega) (by omega)) rfl rfl rfl ?_
    refine AO.yld _ (Yld.assign rfl) rfl rfl rfl ?_
    refine AO.nil ?_
    refine Pure.ret Try.results164 (RVs.cons (RV.tmp rfl) RVs.nil) rfl ?_
    first
      | exact ci (half_odd (by simp_all) (by simp_all)).symm
      | exact ci (half_even (by rintro ⟨h8, h9⟩; first | (simp_all; done) | (simp_all; omega))).symm

theorem impl_floorDiv_c {a b : Int} (hb : 0 < b) (a1 : -9223372036854775808 ≤ a) (a2 : a ≤ 9223372036854775807) :
    Pure Try.prog 168 [.v (.int .i64 a), .v (.int .i64 b)] (.v (.int .i64 (a / b))) := by
  refine Pure.intro Try.func168 rfl Try.ntmps168 rfl rfl (fun w => ?_)
  refine AC.seq ?_
  refine AC.region ?_
  refine AO.yld _ (Yld.assign rfl) rfl rfl rfl ?_
  refine AO.nil ?_
  refine AC.seq ?_
  refine AC.region ?_
  refine AO.yld _ (Yld.move rfl) rfl rfl rfl ?_
  refine AO.yld _ (Yld.move rfl) rfl rfl rfl ?_
  refine AO.yld _ (Yld.quoP rfl rfl (by omega) (by omega) (by omega)) rfl rfl rfl ?_
  refine AO.yld _ (Yld.assign rfl) rfl rfl rfl ?_
  refine AO.nil ?_
  refine AC.seq ?_
  refine AC.seq ?_
  refine AC.region ?_
  refine AO.yld _ (Yld.move rfl) rfl rfl rfl ?_
  refine AO.yld _ (Yld.move rfl) rfl rfl rfl ?_
  refine AO.yld _ (Yld.rem rfl rfl (by omega)) rfl rfl rfl ?_
  refine AO.yld _ (Yld.int rfl rfl rfl) rfl rfl rfl ?_
  refine AO.nil ?_
  refine AC.cond _ rfl (fun c12 => ?_) (fun c12 => ?_)
  · -- c12 True
    refine AC.region ?_
    refine AO.yld _ (Yld.move rfl) rfl rfl rfl ?_
    refine AO.yld _ (Yld.sub rfl rfl (by have := floor_range hb a1 (by simpa using c12); omega) (by have := floor_range hb a1 (by simpa using c12); omega)) rfl rfl rfl ?_
    refine AO.yld _ (Yld.assign rfl) rfl rfl rfl ?_
    refine AO.nil ?_
    refine AC.seq ?_
    refine AC.region ?_
    refine AO.yld _ (Yld.move rfl) rfl rfl rfl ?_
    refine AO.yld _ (Yld.assign rfl) rfl rfl rfl ?_
    refine AO.nil ?_
    refine Pure.ret Try.results168 (RVs.cons (RV.tmp rfl) RVs.nil) rfl ?_
    first
      | exact ci (floor_low hb (by simp_all)).symm
      | exact ci (floor_up hb (by simp_all)).symm
  · -- c12 False
    refine AC.skip ?_
    refine AC.seq ?_
    refine AC.region ?_
    refine AO.yld _ (Yld.move rfl) rfl rfl rfl ?_
    refine AO.yld _ (Yld.assign rfl) rfl rfl rfl ?_
    refine AO.nil ?_
    refine Pure.ret Try.results168 (RVs.cons (RV.tmp rfl) RVs.nil) rfl ?_
    first
      | exact ci (floor_low hb (by simp_all)).symm
      | exact ci (floor_up hb (by simp_all)).symm

theorem spec_l06Turn_c {n : Int} :
    Pure Try.prog 199 [.v (.int .i64 n)] (.v (.bool (decide (0 ≤ n) && decide (n ≤ 359999)))) := by
  refine Pure.intro Try.func199 rfl Try.ntmps199 rfl rfl (fun w => ?_)
  refine AC.seq ?_
  refine AC.region ?_
  refine AO.yld _ (Yld.assign rfl) rfl rfl rfl ?_
  refine AO.nil ?_
  refine AC.seq ?_
  refine AC.region ?_
  refine AO.yld _ (Yld.move rfl) rfl rfl rfl ?_
  refine AO.yld _ (Yld.call rfl rfl Try.call77 rfl rfl rfl (spec_l00In_c) rfl) rfl rfl rfl ?_
  refine AO.yld _ (Yld.assign rfl) rfl rfl rfl ?_
  refine AO.nil ?_
  refine Pure.ret Try.results199 (RVs.cons (RV.tmp rfl) RVs.nil) rfl ?_
  first | rfl | (simp_all; done) | (simp_all; intros; omega) | grind

theorem spec_l10Spot_c {a b : Int} :
    Pure Try.prog 190 [.v (.int .i64 a), .v (.int .i64 b)] (.v (.bool (spotB a b))) := by
  refine Pure.intro Try.func190 rfl Try.ntmps190 rfl rfl (fun w => ?_)
  refine AC.seq ?_
  refine AC.region ?_
  refine AO.yld _ (Yld.assign rfl) rfl rfl rfl ?_
  refine AO.nil ?_
  refine AC.seq ?_
  refine AC.region ?_
  refine AO.yld _ (Yld.move rfl) rfl rfl rfl ?_
  refine AO.yld _ (Yld.call rfl rfl Try.call199 rfl rfl rfl (spec_l06Turn_c) rfl) rfl rfl rfl ?_
  refine AO.yld _ (Yld.move rfl) rfl rfl rfl ?_
  refine AO.splitAt 7 _ rfl (fun s7 => ?_) (fun s7 => ?_)
  · -- s7 True
    refine AO.yldG _ (Yld.move rfl) rfl rfl rfl rfl rfl ?_
    refine AO.yldG _ (Yld.call rfl rfl Try.call77 rfl rfl rfl (spec_l00In_c) rfl) rfl rfl rfl rfl rfl ?_
    refine AO.yld _ (Yld.pickT rfl rfl) rfl rfl rfl ?_
    refine AO.yld _ (Yld.assign rfl) rfl rfl rfl ?_
    refine AO.nil ?_
    refine Pure.ret Try.results190 (RVs.cons (RV.tmp rfl) RVs.nil) rfl ?_
    first | rfl | (simp_all [spotB]; done) | (simp_all [spotB]; intros; omega) | grind [spotB]
  · -- s7 False
    refine AO.skipT rfl rfl rfl rfl rfl ?_
    refine AO.skipT rfl rfl rfl rfl rfl ?_
    refine AO.yld _ (Yld.pickF rfl rfl) rfl rfl rfl ?_
    refine AO.yld _ (Yld.assign rfl) rfl rfl rfl ?_
    refine AO.nil ?_
    refine Pure.ret Try.results190 (RVs.cons (RV.tmp rfl) RVs.nil) rfl ?_
    first | rfl | (simp_all [spotB]; done) | (simp_all [spotB]; intros; omega) | grind [spotB]

theorem impl_isDomeUp_c {a b : Int} :
    Pure Try.prog 194 [.v (.int .i64 a), .v (.int .i64 b)] (.v (.bool (spotB a b))) := by
  refine Pure.intro Try.func194 rfl Try.ntmps194 rfl rfl (fun w => ?_)
  refine AC.seq ?_
  refine AC.region ?_
  refine AO.yld _ (Yld.assign rfl) rfl rfl rfl ?_
  refine AO.nil ?_
  refine AC.seq ?_
  refine AC.region ?_
  refine AO.yld _ (Yld.move rfl) rfl rfl rfl ?_
  refine AO.yld _ (Yld.call rfl rfl Try.call72 rfl rfl rfl (impl_within_c) rfl) rfl rfl rfl ?_
  refine AO.yld _ (Yld.move rfl) rfl rfl rfl ?_
  refine AO.splitAt 7 _ rfl (fun s7 => ?_) (fun s7 => ?_)
  · -- s7 True
    refine AO.yldG _ (Yld.move rfl) rfl rfl rfl rfl rfl ?_
    refine AO.yldG _ (Yld.call rfl rfl Try.call72 rfl rfl rfl (impl_within_c) rfl) rfl rfl rfl rfl rfl ?_
    refine AO.yld _ (Yld.pickT rfl rfl) rfl rfl rfl ?_
    refine AO.yld _ (Yld.assign rfl) rfl rfl rfl ?_
    refine AO.nil ?_
    refine Pure.ret Try.results194 (RVs.cons (RV.tmp rfl) RVs.nil) rfl ?_
    first | rfl | (simp_all [spotB]; done) | (simp_all [spotB]; intros; omega) | grind [spotB]
  · -- s7 False
    refine AO.skipT rfl rfl rfl rfl rfl ?_
    refine AO.skipT rfl rfl rfl rfl rfl ?_
    refine AO.yld _ (Yld.pickF rfl rfl) rfl rfl rfl ?_
    refine AO.yld _ (Yld.assign rfl) rfl rfl rfl ?_
    refine AO.nil ?_
    refine Pure.ret Try.results194 (RVs.cons (RV.tmp rfl) RVs.nil) rfl ?_
    first | rfl | (simp_all [spotB]; done) | (simp_all [spotB]; intros; omega) | grind [spotB]

theorem spec_l14Up_c {a b : Int} (hb : 0 < b) (ha : 0 ≤ a) (hc : a + b ≤ 9223372036854775807) :
    Pure Try.prog 141 [.v (.int .i64 a), .v (.int .i64 b)] (.v (.int .i64 ((a + b - 1) / b))) := by
  refine Pure.intro Try.func141 rfl Try.ntmps141 rfl rfl (fun w => ?_)
  refine AC.seq ?_
  refine AC.region ?_
  refine AO.yld _ (Yld.assign rfl) rfl rfl rfl ?_
  refine AO.nil ?_
  refine AC.seq ?_
  refine AC.region ?_
  refine AO.yld _ (Yld.move rfl) rfl rfl rfl ?_
  refine AO.yld _ (Yld.move rfl) rfl rfl rfl ?_
  refine AO.yld _ (Yld.add rfl rfl (by omega) (by omega)) rfl rfl rfl ?_
  refine AO.yld _ (Yld.sub rfl rfl (by omega) (by omega)) rfl rfl rfl ?_
  refine AO.yld _ (Yld.move rfl) rfl rfl rfl ?_
  refine AO.yld _ (Yld.quoP rfl rfl (by omega) (by omega) (by omega)) rfl rfl rfl ?_
  refine AO.yld _ (Yld.assign rfl) rfl rfl rfl ?_
  refine AO.nil ?_
  refine Pure.ret Try.results141 (RVs.cons (RV.tmp rfl) RVs.nil) rfl ?_
  exact ci (up_one hb ha).symm

theorem impl_quotientUp_c {a b : Int} (hb : 0 < b) (ha : 0 ≤ a) (hc : a + b ≤ 9223372036854775807) :
    Pure Try.prog 74 [.v (.int .i64 a), .v (.int .i64 b)] (.v (.int .i64 ((a + b - 1) / b))) := by
  refine Pure.intro Try.func74 rfl Try.ntmps74 rfl rfl (fun w => ?_)
  refine AC.seq ?_
  refine AC.region ?_
  refine AO.yld _ (Yld.assign rfl) rfl rfl rfl ?_
  refine AO.nil ?_
  refine AC.seq ?_
  refine AC.region ?_
  refine AO.yld _ (Yld.move rfl) rfl rfl rfl ?_
  refine AO.yld _ (Yld.move rfl) rfl rfl rfl ?_
  refine AO.yld _ (Yld.add rfl rfl (by omega) (by omega)) rfl rfl rfl ?_
  refine AO.yld _ (Yld.sub rfl rfl (by omega) (by omega)) rfl rfl rfl ?_
  refine AO.yld _ (Yld.move rfl) rfl rfl rfl ?_
  refine AO.yld _ (Yld.quoP rfl rfl (by omega) (by omega) (by omega)) rfl rfl rfl ?_
  refine AO.yld _ (Yld.assign rfl) rfl rfl rfl ?_
  refine AO.nil ?_
  refine Pure.ret Try.results74 (RVs.cons (RV.tmp rfl) RVs.nil) rfl ?_
  exact ci (up_one hb ha).symm

theorem laws_toMark_c {x : CMark} :
    Pure Try.prog 133 [.agg (encCMark x)] (.agg (encCMark x)) := by
  refine Pure.intro Try.func133 rfl Try.ntmps133 rfl rfl (fun w => ?_)
  refine AC.seq ?_
  refine AC.region ?_
  refine AO.box 0 rfl rfl rfl rfl rfl ?_
  refine AO.alloc 1 Try.zeroValue176 rfl rfl rfl ?_
  refine AO.nil ?_
  refine AC.seq ?_
  refine AC.region ?_
  refine AO.alloc 2 Try.zeroValue176 rfl rfl rfl ?_
  refine AO.nil ?_
  refine AC.seq ?_
  refine AC.region ?_
  refine AO.yld _ (Yld.fieldAddr Try.underlying178 rfl rfl Try.sizeOf2 rfl rfl rfl) rfl rfl rfl ?_
  refine AO.yld _ (Yld.load Try.isAgg2 rfl rfl) rfl rfl rfl ?_
  refine AO.yld _ (Yld.fieldAddr Try.underlying176 rfl rfl Try.sizeOf2 rfl rfl rfl) rfl rfl rfl ?_
  refine AO.store Try.sizeOf2 rfl rfl rfl rfl rfl rfl ?_
  refine AO.nil ?_
  refine AC.seq ?_
  refine AC.region ?_
  refine AO.yld _ (Yld.fieldAddr Try.underlying178 rfl rfl Try.sizeOf2 rfl rfl rfl) rfl rfl rfl ?_
  refine AO.yld _ (Yld.load Try.isAgg2 rfl rfl) rfl rfl rfl ?_
  refine AO.yld _ (Yld.fieldAddr Try.underlying176 rfl rfl Try.sizeOf2 rfl rfl rfl) rfl rfl rfl ?_
  refine AO.store Try.sizeOf2 rfl rfl rfl rfl rfl rfl ?_
  refine AO.nil ?_
  refine AC.seq ?_
  refine AC.region ?_
  refine AO.yld _ (Yld.fieldAddr Try.underlying178 rfl rfl Try.sizeOf2 rfl rfl rfl) rfl rfl rfl ?_
  refine AO.yld _ (Yld.load Try.isAgg2 rfl rfl) rfl rfl rfl ?_
  refine AO.yld _ (Yld.fieldAddr Try.underlying176 rfl rfl Try.sizeOf2 rfl rfl rfl) rfl rfl rfl ?_
  refine AO.store Try.sizeOf2 rfl rfl rfl rfl rfl rfl ?_
  refine AO.nil ?_
  refine AC.seq ?_
  refine AC.region ?_
  refine AO.yld _ (Yld.fieldAddr Try.underlying178 rfl rfl Try.sizeOf2 rfl rfl rfl) rfl rfl rfl ?_
  refine AO.yld _ (Yld.load Try.isAgg2 rfl rfl) rfl rfl rfl ?_
  refine AO.yld _ (Yld.fieldAddr Try.underlying176 rfl rfl Try.sizeOf2 rfl rfl rfl) rfl rfl rfl ?_
  refine AO.store Try.sizeOf2 rfl rfl rfl rfl rfl rfl ?_
  refine AO.nil ?_
  refine AC.seq ?_
  refine AC.region ?_
  refine AO.yld _ (Yld.loadAgg Try.isAgg176 Try.sizeOf176 rfl rfl rfl rfl) rfl rfl rfl ?_
  refine AO.store Try.sizeOf176 rfl rfl rfl rfl rfl rfl ?_
  refine AO.nil ?_
  refine Pure.ret Try.results133 (RVs.cons (RV.cell Try.isAgg176 Try.sizeOf176 rfl rfl rfl rfl) RVs.nil) rfl ?_
  first | rfl | (simp_all; done) | (simp_all; intros; omega) | grind

theorem laws_toMarkS_c {xs : List CMark} (hn : xs.length ≤ 1048576) :
    Mk Try.prog 62 [.sl 4 (xs.map encCMark)] (.h 0) 176 4 (xs.map encCMark) := by
  have hM : (xs.map encCMark).length = xs.length := List.length_map ..
  refine Mk.intro Try.func62 rfl Try.ntmps62 rfl rfl (fun w => ?_)
  refine AC.seq ?_
  refine AC.region ?_
  refine AO.yld _ (Yld.assign rfl) rfl rfl rfl ?_
  refine AO.nil ?_
  refine AC.seq ?_
  refine AC.region ?_
  refine AO.yld _ (Yld.move rfl) rfl rfl rfl ?_
  refine AO.yld _ (Yld.len Try.underlying90 rfl rfl) rfl rfl rfl ?_
  refine AO.make 0 Try.underlying94 ty176 rfl rfl rfl rfl rfl (Nat.le_refl _) (by rw [hM]; omega) (by rw [hM]; omega) rfl rfl ?_
  refine AO.yld _ (Yld.assign rfl) rfl rfl rfl ?_
  refine AO.nil ?_
  refine AC.seq ?_
  refine AC.seq ?_
  refine AC.region ?_
  refine AO.yld _ (Yld.assign rfl) rfl rfl rfl ?_
  refine AO.nil ?_
  refine AC.block ?_
  refine AC.loopC [(0, _), (2, _), (3, _)] [] (fun (k : Nat) => [(4, .p (.v (.int .i64 (k : Int))))]) (fun (k : Nat) => [(0, .vec 176 4 (filled encCMark [.v (.int .i64 0), .v (.int .i64 0), .v (.int .i64 0), .v (.int .i64 0)] xs k))]) (fun (k : Nat) => k ≤ xs.length) (fun (k : Nat) => xs.length - k) 0 ⟨rfl, rfl, rfl, trivial⟩ trivial ⟨rfl, trivial⟩ ⟨by rw [filled_zero, ← hM]; rfl, trivial⟩ ?_ (fun k hJ => ?_)
  · simp
  · -- round
    refine AC.seq ?_
    refine AC.seq ?_
    refine AC.region ?_
    refine AO.yld _ (Yld.move rfl) rfl rfl rfl ?_
    refine AO.yld _ (Yld.move rfl) rfl rfl rfl ?_
    refine AO.yld _ (Yld.len Try.underlying90 rfl rfl) rfl rfl rfl ?_
    refine AO.yld _ (Yld.int rfl rfl rfl) rfl rfl rfl ?_
    refine AO.nil ?_
    refine AC.cond _ rfl (fun c11 => ?_) (fun c11 => ?_)
    · -- c11 True
      have hk := lt_of_decM c11
      obtain ⟨x, hx⟩ := get_some hk
      have hrow := map_row (enc := encCMark) hx
      refine AC.skip ?_
      refine AC.seq ?_
      refine AC.block ?_
      refine AC.region ?_
      refine AO.yld _ (Yld.move rfl) rfl rfl rfl ?_
      refine AO.yld _ (Yld.move rfl) rfl rfl rfl ?_
      refine AO.yld _ (Yld.move rfl) rfl rfl rfl ?_
      refine AO.yld _ (Yld.move rfl) rfl rfl rfl ?_
      refine AO.yld _ (Yld.indexSl Try.underlying90 Try.sizeOf178 rfl rfl hrow rfl) rfl rfl rfl ?_
      refine AO.yld _ (Yld.loadAgg Try.isAgg178 Try.sizeOf178 rfl rfl rfl rfl) rfl rfl rfl ?_
      refine AO.yld _ (Yld.call rfl rfl Try.call133 rfl rfl rfl (laws_toMark_c) rfl) rfl rfl rfl ?_
      refine AO.yld _ (Yld.indexVec Try.underlying94 Try.sizeOf176 rfl rfl rfl rfl (by rw [filled_length (by omega)]; exact hk)) rfl rfl rfl ?_
      refine AO.store Try.sizeOf176 rfl rfl rfl rfl rfl (store_el rfl (filled_get hk) rfl rfl) ?_
      refine AO.nil ?_
      refine AC.mark ?_
      refine AC.region ?_
      refine AO.yld _ (Yld.move rfl) rfl rfl rfl ?_
      refine AO.yld _ (Yld.add rfl rfl (by omega) (by omega)) rfl rfl rfl ?_
      refine AO.yld _ (Yld.assign rfl) rfl rfl rfl ?_
      refine AO.nil ?_
      refine AC.back ⟨k + 1, ?_, ?_, ⟨?_, trivial⟩, ⟨?_, trivial⟩, ⟨rfl, rfl, rfl, trivial⟩, trivial⟩
      · omega
      · omega
      · rfl
      · rw [← filled_set hx]; rfl
    · -- c11 False
      obtain rfl : k = xs.length := by have := ge_of_decM c11; omega
      refine AC.exit rfl ?_
      refine AC.seq ?_
      refine AC.region ?_
      refine AO.yld _ (Yld.move rfl) rfl rfl rfl ?_
      refine AO.yld _ (Yld.assign rfl) rfl rfl rfl ?_
      refine AO.nil ?_
      refine Mk.ret 0 Try.results62 (RVs.cons (RV.tmp rfl) RVs.nil) rfl rfl ?_
      exact filled_end

theorem laws_eqMark_c {x y : CMark} :
    Pure Try.prog 136 [.agg (encCMark x), .agg (encCMark y)] (.v (.bool (decide (x = y)))) := by
  refine Pure.intro Try.func136 rfl Try.ntmps136 rfl rfl (fun w => ?_)
  refine AC.seq ?_
  refine AC.region ?_
  refine AO.box 0 rfl rfl rfl rfl rfl ?_
  refine AO.box 1 rfl rfl rfl rfl rfl ?_
  refine AO.yld _ (Yld.assign rfl) rfl rfl rfl ?_
  refine AO.nil ?_
  refine AC.seq ?_
  refine AC.seq ?_
  refine AC.region ?_
  refine AO.yld _ (Yld.fieldAddr Try.underlying176 rfl rfl Try.sizeOf2 rfl rfl rfl) rfl rfl rfl ?_
  refine AO.yld _ (Yld.load Try.isAgg2 rfl rfl) rfl rfl rfl ?_
  refine AO.yld _ (Yld.fieldAddr Try.underlying176 rfl rfl Try.sizeOf2 rfl rfl rfl) rfl rfl rfl ?_
  refine AO.yld _ (Yld.load Try.isAgg2 rfl rfl) rfl rfl rfl ?_
  refine AO.yld _ (Yld.int rfl rfl rfl) rfl rfl rfl ?_
  refine AO.nil ?_
  refine AC.cond _ rfl (fun c9 => ?_) (fun c9 => ?_)
  · -- c9 True
    refine AC.seq ?_
    refine AC.region ?_
    refine AO.yld _ (Yld.assign rfl) rfl rfl rfl ?_
    refine AO.nil ?_
    refine Pure.ret Try.results136 (RVs.cons (RV.tmp rfl) RVs.nil) rfl ?_
    cases x; cases y; simp_all
  · -- c9 False
    refine AC.skip ?_
    refine AC.seq ?_
    refine AC.seq ?_
    refine AC.region ?_
    refine AO.yld _ (Yld.fieldAddr Try.underlying176 rfl rfl Try.sizeOf2 rfl rfl rfl) rfl rfl rfl ?_
    refine AO.yld _ (Yld.load Try.isAgg2 rfl rfl) rfl rfl rfl ?_
    refine AO.yld _ (Yld.fieldAddr Try.underlying176 rfl rfl Try.sizeOf2 rfl rfl rfl) rfl rfl rfl ?_
    refine AO.yld _ (Yld.load Try.isAgg2 rfl rfl) rfl rfl rfl ?_
    refine AO.yld _ (Yld.int rfl rfl rfl) rfl rfl rfl ?_
    refine AO.nil ?_
    refine AC.cond _ rfl (fun c14 => ?_) (fun c14 => ?_)
    · -- c14 True
      refine AC.seq ?_
      refine AC.region ?_
      refine AO.yld _ (Yld.assign rfl) rfl rfl rfl ?_
      refine AO.nil ?_
      refine Pure.ret Try.results136 (RVs.cons (RV.tmp rfl) RVs.nil) rfl ?_
      cases x; cases y; simp_all
    · -- c14 False
      refine AC.skip ?_
      refine AC.seq ?_
      refine AC.seq ?_
      refine AC.region ?_
      refine AO.yld _ (Yld.fieldAddr Try.underlying176 rfl rfl Try.sizeOf2 rfl rfl rfl) rfl rfl rfl ?_
      refine AO.yld _ (Yld.load Try.isAgg2 rfl rfl) rfl rfl rfl ?_
      refine AO.yld _ (Yld.fieldAddr Try.underlying176 rfl rfl Try.sizeOf2 rfl rfl rfl) rfl rfl rfl ?_
      refine AO.yld _ (Yld.load Try.isAgg2 rfl rfl) rfl rfl rfl ?_
      refine AO.yld _ (Yld.int rfl rfl rfl) rfl rfl rfl ?_
      refine AO.nil ?_
      refine AC.cond _ rfl (fun c19 => ?_) (fun c19 => ?_)
      · -- c19 True
        refine AC.seq ?_
        refine AC.region ?_
        refine AO.yld _ (Yld.assign rfl) rfl rfl rfl ?_
        refine AO.nil ?_
        refine Pure.ret Try.results136 (RVs.cons (RV.tmp rfl) RVs.nil) rfl ?_
        cases x; cases y; simp_all
      · -- c19 False
        refine AC.skip ?_
        refine AC.seq ?_
        refine AC.seq ?_
        refine AC.region ?_
        refine AO.yld _ (Yld.fieldAddr Try.underlying176 rfl rfl Try.sizeOf2 rfl rfl rfl) rfl rfl rfl ?_
        refine AO.yld _ (Yld.load Try.isAgg2 rfl rfl) rfl rfl rfl ?_
        refine AO.yld _ (Yld.fieldAddr Try.underlying176 rfl rfl Try.sizeOf2 rfl rfl rfl) rfl rfl rfl ?_
        refine AO.yld _ (Yld.load Try.isAgg2 rfl rfl) rfl rfl rfl ?_
        refine AO.yld _ (Yld.int rfl rfl rfl) rfl rfl rfl ?_
        refine AO.nil ?_
        refine AC.cond _ rfl (fun c24 => ?_) (fun c24 => ?_)
        · -- c24 True
          refine AC.seq ?_
          refine AC.region ?_
          refine AO.yld _ (Yld.assign rfl) rfl rfl rfl ?_
          refine AO.nil ?_
          refine Pure.ret Try.results136 (RVs.cons (RV.tmp rfl) RVs.nil) rfl ?_
          cases x; cases y; simp_all
        · -- c24 False
          refine AC.skip ?_
          refine AC.seq ?_
          refine AC.region ?_
          refine AO.yld _ (Yld.assign rfl) rfl rfl rfl ?_
          refine AO.nil ?_
          refine Pure.ret Try.results136 (RVs.cons (RV.tmp rfl) RVs.nil) rfl ?_
          cases x; cases y; simp_all

theorem laws_eqMarkS_c {xs ys : List CMark} (hn : xs.length ≤ 1048576) :
    Pure Try.prog 64 [.sl 4 (xs.map encCMark), .sl 4 (ys.map encCMark)] (.v (.bool (decide (xs = ys)))) := by
  refine Pure.intro Try.func64 rfl Try.ntmps64 rfl rfl (fun w => ?_)
  refine AC.seq ?_
  refine AC.region ?_
  refine AO.yld _ (Yld.assign rfl) rfl rfl rfl ?_
  refine AO.nil ?_
  refine AC.seq ?_
  refine AC.seq ?_
  refine AC.region ?_
  refine AO.yld _ (Yld.move rfl) rfl rfl rfl ?_
  refine AO.yld _ (Yld.len Try.underlying94 rfl rfl) rfl rfl rfl ?_
  refine AO.yld _ (Yld.move rfl) rfl rfl rfl ?_
  refine AO.yld _ (Yld.len Try.underlying94 rfl rfl) rfl rfl rfl ?_
  refine AO.yld _ (Yld.int rfl rfl rfl) rfl rfl rfl ?_
  refine AO.nil ?_
  refine AC.cond _ rfl (fun c10 => ?_) (fun c10 => ?_)
  · -- c10 True
    have hl : xs.length ≠ ys.length := by have h := c10; simp only [List.length_map, bne_iff_ne, ne_eq] at h; omega
    refine AC.seq ?_
    refine AC.region ?_
    refine AO.yld _ (Yld.assign rfl) rfl rfl rfl ?_
    refine AO.nil ?_
    refine Pure.ret Try.results64 (RVs.cons (RV.tmp rfl) RVs.nil) rfl ?_
    first
      | (exact congrArg (fun b => PV.v (.bool b)) (decide_eq_false (fun e => hl (congrArg List.length e))).symm)
      | (refine congrArg (fun b => PV.v (.bool b)) (decide_eq_false (fun e => ?_)).symm; subst e; rw [hx] at hy; simp_all)
      | (refine congrArg (fun b => PV.v (.bool b)) (decide_eq_true ?_).symm; have := hJ.2; rw [List.take_of_length_le (Nat.le_refl _), List.take_of_length_le (by omega)] at this; exact this)
  · -- c10 False
    have hl : xs.length = ys.length := by have h := c10; simp only [List.length_map, bne_eq_false_iff_eq] at h; omega
    refine AC.skip ?_
    refine AC.seq ?_
    refine AC.seq ?_
    refine AC.region ?_
    refine AO.yld _ (Yld.assign rfl) rfl rfl rfl ?_
    refine AO.nil ?_
    refine AC.block ?_
    refine AC.loopC [(0, _), (1, _)] [] (fun (k : Nat) => [(5, .p (.v (.int .i64 (k : Int))))]) (fun (k : Nat) => []) (fun (k : Nat) => k ≤ xs.length ∧ xs.take k = ys.take k) (fun (k : Nat) => xs.length - k) 0 ⟨rfl, rfl, trivial⟩ trivial ⟨rfl, trivial⟩ trivial ?_ (fun k hJ => ?_)
    · simp
    · -- round
      refine AC.seq ?_
      refine AC.seq ?_
      refine AC.region ?_
      refine AO.yld _ (Yld.move rfl) rfl rfl rfl ?_
      refine AO.yld _ (Yld.move rfl) rfl rfl rfl ?_
      refine AO.yld _ (Yld.len Try.underlying94 rfl rfl) rfl rfl rfl ?_
      refine AO.yld _ (Yld.int rfl rfl rfl) rfl rfl rfl ?_
      refine AO.nil ?_
      refine AC.cond _ rfl (fun c14 => ?_) (fun c14 => ?_)
      · -- c14 True
        have hk := lt_of_decM c14
        obtain ⟨x, hx⟩ := get_some hk
        have hrow := map_row (enc := encCMark) hx
        obtain ⟨y, hy⟩ := get_some (xs := ys) (k := k) (by omega)
        have hrow2 := map_row (enc := encCMark) hy
        refine AC.skip ?_
        refine AC.seq ?_
        refine AC.block ?_
        refine AC.seq ?_
        refine AC.draw (by kernel_rfl) (by kernel_rfl) ?_
        refine AO.yld _ (Yld.move rfl) rfl rfl rfl ?_
        refine AO.yld _ (Yld.move rfl) rfl rfl rfl ?_
        refine AO.yld _ (Yld.indexSl Try.underlying94 Try.sizeOf176 rfl rfl hrow rfl) rfl rfl rfl ?_
        refine AO.yld _ (Yld.loadAgg Try.isAgg176 Try.sizeOf176 rfl rfl rfl rfl) rfl rfl rfl ?_
        refine AO.yld _ (Yld.move rfl) rfl rfl rfl ?_
        refine AO.yld _ (Yld.move rfl) rfl rfl rfl ?_
        refine AO.yld _ (Yld.indexSl Try.underlying94 Try.sizeOf176 rfl rfl hrow2 rfl) rfl rfl rfl ?_
        refine AO.yld _ (Yld.loadAgg Try.isAgg176 Try.sizeOf176 rfl rfl rfl rfl) rfl rfl rfl ?_
        refine AO.yld _ (Yld.call rfl rfl Try.call136 rfl rfl rfl (laws_eqMark_c) rfl) rfl rfl rfl ?_
        refine AO.yld _ (Yld.not rfl) rfl rfl rfl ?_
        refine AO.nil ?_
        refine AC.cond _ rfl (fun c26 => ?_) (fun c26 => ?_)
        · -- c26 True
          refine AC.seq ?_
          refine AC.region ?_
          refine AO.yld _ (Yld.assign rfl) rfl rfl rfl ?_
          refine AO.nil ?_
          refine Pure.ret Try.results64 (RVs.cons (RV.tmp rfl) RVs.nil) rfl ?_
          first
            | (exact congrArg (fun b => PV.v (.bool b)) (decide_eq_false (fun e => hl (congrArg List.length e))).symm)
            | (refine congrArg (fun b => PV.v (.bool b)) (decide_eq_false (fun e => ?_)).symm; subst e; rw [hx] at hy; simp_all)
            | (refine congrArg (fun b => PV.v (.bool b)) (decide_eq_true ?_).symm; have := hJ.2; rw [List.take_of_length_le (Nat.le_refl _), List.take_of_length_le (by omega)] at this; exact this)
        · -- c26 False
          refine AC.skip ?_
          refine AC.mark ?_
          refine AC.region ?_
          refine AO.yld _ (Yld.move rfl) rfl rfl rfl ?_
          refine AO.yld _ (Yld.add rfl rfl (by omega) (by omega)) rfl rfl rfl ?_
          refine AO.yld _ (Yld.assign rfl) rfl rfl rfl ?_
          refine AO.nil ?_
          refine AC.back ⟨k + 1, ?_, ?_, ⟨?_, trivial⟩, trivial, ⟨rfl, rfl, trivial⟩, trivial⟩
          · exact ⟨hk, by rw [take_snoc hx, take_snoc hy, hJ.2, show x = y by simpa using c26]⟩
          · omega
          · rfl
      · -- c14 False
        obtain rfl : k = xs.length := by have := ge_of_decM c14; omega
        refine AC.exit rfl ?_
        refine AC.seq ?_
        refine AC.region ?_
        refine AO.yld _ (Yld.assign rfl) rfl rfl rfl ?_
        refine AO.nil ?_
        refine Pure.ret Try.results64 (RVs.cons (RV.tmp rfl) RVs.nil) rfl ?_
        first
          | (exact congrArg (fun b => PV.v (.bool b)) (decide_eq_false (fun e => hl (congrArg List.length e))).symm)
          | (refine congrArg (fun b => PV.v (.bool b)) (decide_eq_false (fun e => ?_)).symm; subst e; rw [hx] at hy; simp_all)
          | (refine congrArg (fun b => PV.v (.bool b)) (decide_eq_true ?_).symm; have := hJ.2; rw [List.take_of_length_le (Nat.le_refl _), List.take_of_length_le (by omega)] at this; exact this)

theorem laws_szMarkS_c {xs : List CMark} {left : Int} (h0 : 0 ≤ left) (h1 : left ≤ 1048576) (hn : xs.length ≤ 9223372036854775807) :
    Pure Try.prog 60 [.sl 4 (xs.map encCMark), .v (.int .i64 left)] (.v (.int .i64 (szLen xs.length left))) := by
  refine Pure.intro Try.func60 rfl Try.ntmps60 rfl rfl (fun w => ?_)
  refine AC.seq ?_
  refine AC.region ?_
  refine AO.yld _ (Yld.assign rfl) rfl rfl rfl ?_
  refine AO.nil ?_
  refine AC.seq ?_
  refine AC.region ?_
  refine AO.yld _ (Yld.move rfl) rfl rfl rfl ?_
  refine AO.yld _ (Yld.move rfl) rfl rfl rfl ?_
  refine AO.yld _ (Yld.len Try.underlying90 rfl rfl) rfl rfl rfl ?_
  refine AO.yld _ (Yld.sub rfl rfl (by simp only [List.length_map]; omega) (by simp only [List.length_map]; omega)) rfl rfl rfl ?_
  refine AO.yld _ (Yld.assign rfl) rfl rfl rfl ?_
  refine AO.nil ?_
  refine AC.seq ?_
  refine AC.seq ?_
  refine AC.region ?_
  refine AO.yld _ (Yld.move rfl) rfl rfl rfl ?_
  refine AO.yld _ (Yld.int rfl rfl rfl) rfl rfl rfl ?_
  refine AO.nil ?_
  refine AC.cond _ rfl (fun c10 => ?_) (fun c10 => ?_)
  · -- c10 True
    refine AC.seq ?_
    refine AC.region ?_
    refine AO.yld _ (Yld.assign rfl) rfl rfl rfl ?_
    refine AO.nil ?_
    refine Pure.ret Try.results60 (RVs.cons (RV.tmp rfl) RVs.nil) rfl ?_
    first | (simp_all [szLen]; done) | (simp_all [szLen]; intros; omega)
  · -- c10 False
    refine AC.skip ?_
    refine AC.seq ?_
    refine AC.region ?_
    refine AO.yld _ (Yld.move rfl) rfl rfl rfl ?_
    refine AO.yld _ (Yld.assign rfl) rfl rfl rfl ?_
    refine AO.nil ?_
    refine Pure.ret Try.results60 (RVs.cons (RV.tmp rfl) RVs.nil) rfl ?_
    first | (simp_all [szLen]; done) | (simp_all [szLen]; intros; omega)

theorem spec_l28One_c {x : CMark} (w1 : i64b x.az) (w2 : i64b x.al) (w3 : i64b x.found) (w4 : i64b x.height) :
    Pure Try.prog 171 [.ptr (encCMark x)] (.v (.bool (okMark x))) := by
  refine Pure.intro Try.func171 rfl Try.ntmps171 rfl rfl (fun w => ?_)
  refine AC.seq ?_
  refine AC.region ?_
  refine AO.yld _ (Yld.assign rfl) rfl rfl rfl ?_
  refine AO.nil ?_
  refine AC.seq ?_
  refine AC.draw (by kernel_rfl) (by kernel_rfl) ?_
  refine AO.yld _ (Yld.move rfl) rfl rfl rfl ?_
  refine AO.yld _ (Yld.nilCheck rfl rfl) rfl rfl rfl ?_
  refine AO.yld _ (Yld.fieldAddr Try.underlying176 rfl rfl Try.sizeOf2 rfl rfl rfl) rfl rfl rfl ?_
  refine AO.yld _ (Yld.load Try.isAgg2 rfl rfl) rfl rfl rfl ?_
  refine AO.yld _ (Yld.move rfl) rfl rfl rfl ?_
  refine AO.yld _ (Yld.nilCheck rfl rfl) rfl rfl rfl ?_
  refine AO.yld _ (Yld.fieldAddr Try.underlying176 rfl rfl Try.sizeOf2 rfl rfl rfl) rfl rfl rfl ?_
  refine AO.yld _ (Yld.load Try.isAgg2 rfl rfl) rfl rfl rfl ?_
  refine AO.yld _ (Yld.call rfl rfl Try.call190 rfl rfl rfl (spec_l10Spot_c) rfl) rfl rfl rfl ?_
  refine AO.yld _ (Yld.move rfl) rfl rfl rfl ?_
  refine AO.splitAt 12 _ rfl (fun s12 => ?_) (fun s12 => ?_)
  · -- s12 True
    have la := spot_lim s12
    refine AO.yldG _ (Yld.move rfl) rfl rfl rfl rfl rfl ?_
    refine AO.yldG _ (Yld.nilCheck rfl rfl) rfl rfl rfl rfl rfl ?_
    refine AO.yldG _ (Yld.fieldAddr Try.underlying176 rfl rfl Try.sizeOf2 rfl rfl rfl) rfl rfl rfl rfl rfl ?_
    refine AO.yldG _ (Yld.load Try.isAgg2 rfl rfl) rfl rfl rfl rfl rfl ?_
    refine AO.yldG _ (Yld.move rfl) rfl rfl rfl rfl rfl ?_
    refine AO.yldG _ (Yld.nilCheck rfl rfl) rfl rfl rfl rfl rfl ?_
    refine AO.yldG _ (Yld.fieldAddr Try.underlying176 rfl rfl Try.sizeOf2 rfl rfl rfl) rfl rfl rfl rfl rfl ?_
    refine AO.yldG _ (Yld.load Try.isAgg2 rfl rfl) rfl rfl rfl rfl rfl ?_
    refine AO.yldG _ (Yld.call rfl rfl Try.call190 rfl rfl rfl (spec_l10Spot_c) rfl) rfl rfl rfl rfl rfl ?_
    refine AO.yld _ (Yld.pickT rfl rfl) rfl rfl rfl ?_
    refine AO.yld _ (Yld.move rfl) rfl rfl rfl ?_
    refine AO.splitAt 23 _ rfl (fun s23 => ?_) (fun s23 => ?_)
    · -- s23 True
      have lb := spot_lim s23
      refine AO.yldG _ (Yld.move rfl) rfl rfl rfl rfl rfl ?_
      refine AO.yldG _ (Yld.nilCheck rfl rfl) rfl rfl rfl rfl rfl ?_
      refine AO.yldG _ (Yld.fieldAddr Try.underlying176 rfl rfl Try.sizeOf2 rfl rfl rfl) rfl rfl rfl rfl rfl ?_
      refine AO.yldG _ (Yld.load Try.isAgg2 rfl rfl) rfl rfl rfl rfl rfl ?_
      refine AO.yldG _ (Yld.move rfl) rfl rfl rfl rfl rfl ?_
      refine AO.yldG _ (Yld.nilCheck rfl rfl) rfl rfl rfl rfl rfl ?_
      refine AO.yldG _ (Yld.fieldAddr Try.underlying176 rfl rfl Try.sizeOf2 rfl rfl rfl) rfl rfl rfl rfl rfl ?_
      refine AO.yldG _ (Yld.load Try.isAgg2 rfl rfl) rfl rfl rfl rfl rfl ?_
      refine AO.yldG _ (Yld.call rfl rfl Try.call191 rfl rfl rfl (spec_l02Between_c (by omega) (by omega) (by omega) (by omega)) rfl) rfl rfl rfl rfl rfl ?_
      refine AO.yldG _ (Yld.int rfl rfl rfl) rfl rfl rfl rfl rfl ?_
      refine AO.yld _ (Yld.pickT rfl rfl) rfl rfl rfl ?_
      refine AO.yld _ (Yld.move rfl) rfl rfl rfl ?_
      refine AO.splitAt 35 _ rfl (fun s35 => ?_) (fun s35 => ?_)
      · -- s35 True
        refine AO.yldG _ (Yld.move rfl) rfl rfl rfl rfl rfl ?_
        refine AO.yldG _ (Yld.nilCheck rfl rfl) rfl rfl rfl rfl rfl ?_
        refine AO.yldG _ (Yld.fieldAddr Try.underlying176 rfl rfl Try.sizeOf2 rfl rfl rfl) rfl rfl rfl rfl rfl ?_
        refine AO.yldG _ (Yld.load Try.isAgg2 rfl rfl) rfl rfl rfl rfl rfl ?_
        refine AO.yldG _ (Yld.move rfl) rfl rfl rfl rfl rfl ?_
        refine AO.yldG _ (Yld.nilCheck rfl rfl) rfl rfl rfl rfl rfl ?_
        refine AO.yldG _ (Yld.fieldAddr Try.underlying176 rfl rfl Try.sizeOf2 rfl rfl rfl) rfl rfl rfl rfl rfl ?_
        refine AO.yldG _ (Yld.load Try.isAgg2 rfl rfl) rfl rfl rfl rfl rfl ?_
        refine AO.yldG _ (Yld.sub rfl rfl (by omega) (by omega)) rfl rfl rfl rfl rfl ?_
        refine AO.yldG _ (Yld.call rfl rfl Try.call140 rfl rfl rfl (spec_l02Abs_c (by omega) (by omega)) rfl) rfl rfl rfl rfl rfl ?_
        refine AO.yldG _ (Yld.int rfl rfl rfl) rfl rfl rfl rfl rfl ?_
        refine AO.yld _ (Yld.pickT rfl rfl) rfl rfl rfl ?_
        refine AO.yld _ (Yld.assign rfl) rfl rfl rfl ?_
        refine AO.nil ?_
        refine Pure.ret Try.results171 (RVs.cons (RV.tmp rfl) RVs.nil) rfl ?_
        first | rfl | (simp_all [okMark]; done) | (simp_all [okMark]; intros; omega) | grind [okMark]
      · -- s35 False
        refine AO.skipT rfl rfl rfl rfl rfl ?_
        refine AO.skipT rfl rfl rfl rfl rfl ?_
        refine AO.skipT rfl rfl rfl rfl rfl ?_
        refine AO.skipT rfl rfl rfl rfl rfl ?_
        refine AO.skipT rfl rfl rfl rfl rfl ?_
        refine AO.skipT rfl rfl rfl rfl rfl ?_
        refine AO.skipT rfl rfl rfl rfl rfl ?_
        refine AO.skipT rfl rfl rfl rfl rfl ?_
        refine AO.skipT rfl rfl rfl rfl rfl ?_
        refine AO.skipT rfl rfl rfl rfl rfl ?_
        refine AO.skipT rfl rfl rfl rfl rfl ?_
        refine AO.yld _ (Yld.pickF rfl rfl) rfl rfl rfl ?_
        refine AO.yld _ (Yld.assign rfl) rfl rfl rfl ?_
        refine AO.nil ?_
        refine Pure.ret Try.results171 (RVs.cons (RV.tmp rfl) RVs.nil) rfl ?_
        first | rfl | (simp_all [okMark]; done) | (simp_all [okMark]; intros; omega) | grind [okMark]
    · -- s23 False
      refine AO.skipT rfl rfl rfl rfl rfl ?_
      refine AO.skipT rfl rfl rfl rfl rfl ?_
      refine AO.skipT rfl rfl rfl rfl rfl ?_
      refine AO.skipT rfl rfl rfl rfl rfl ?_
      refine AO.skipT rfl rfl rfl rfl rfl ?_
      refine AO.skipT rfl rfl rfl rfl rfl ?_
      refine AO.skipT rfl rfl rfl rfl rfl ?_
      refine AO.skipT rfl rfl rfl rfl rfl ?_
      refine AO.skipT rfl rfl rfl rfl rfl ?_
      refine AO.skipT rfl rfl rfl rfl rfl ?_
      refine AO.yld _ (Yld.pickF rfl rfl) rfl rfl rfl ?_
      refine AO.yld _ (Yld.move rfl) rfl rfl rfl ?_
      refine AO.skipT rfl rfl rfl rfl rfl ?_
      refine AO.skipT rfl rfl rfl rfl rfl ?_
      refine AO.skipT rfl rfl rfl rfl rfl ?_
      refine AO.skipT rfl rfl rfl rfl rfl ?_
      refine AO.skipT rfl rfl rfl rfl rfl ?_
      refine AO.skipT rfl rfl rfl rfl rfl ?_
      refine AO.skipT rfl rfl rfl rfl rfl ?_
      refine AO.skipT rfl rfl rfl rfl rfl ?_
      refine AO.skipT rfl rfl rfl rfl rfl ?_
      refine AO.skipT rfl rfl rfl rfl rfl ?_
      refine AO.skipT rfl rfl rfl rfl rfl ?_
      refine AO.yld _ (Yld.pickF rfl rfl) rfl rfl rfl ?_
      refine AO.yld _ (Yld.assign rfl) rfl rfl rfl ?_
      refine AO.nil ?_
      refine Pure.ret Try.results171 (RVs.cons (RV.tmp rfl) RVs.nil) rfl ?_
      first | rfl | (simp_all [okMark]; done) | (simp_all [okMark]; intros; omega) | grind [okMark]
  · -- s12 False
    refine AO.skipT rfl rfl rfl rfl rfl ?_
    refine AO.skipT rfl rfl rfl rfl rfl ?_
    refine AO.skipT rfl rfl rfl rfl rfl ?_
    refine AO.skipT rfl rfl rfl rfl rfl ?_
    refine AO.skipT rfl rfl rfl rfl rfl ?_
    refine AO.skipT rfl rfl rfl rfl rfl ?_
    refine AO.skipT rfl rfl rfl rfl rfl ?_
    refine AO.skipT rfl rfl rfl rfl rfl ?_
    refine AO.skipT rfl rfl rfl rfl rfl ?_
    refine AO.yld _ (Yld.pickF rfl rfl) rfl rfl rfl ?_
    refine AO.yld _ (Yld.move rfl) rfl rfl rfl ?_
    refine AO.skipT rfl rfl rfl rfl rfl ?_
    refine AO.skipT rfl rfl rfl rfl rfl ?_
    refine AO.skipT rfl rfl rfl rfl rfl ?_
    refine AO.skipT rfl rfl rfl rfl rfl ?_
    refine AO.skipT rfl rfl rfl rfl rfl ?_
    refine AO.skipT rfl rfl rfl rfl rfl ?_
    refine AO.skipT rfl rfl rfl rfl rfl ?_
    refine AO.skipT rfl rfl rfl rfl rfl ?_
    refine AO.skipT rfl rfl rfl rfl rfl ?_
    refine AO.skipT rfl rfl rfl rfl rfl ?_
    refine AO.yld _ (Yld.pickF rfl rfl) rfl rfl rfl ?_
    refine AO.yld _ (Yld.move rfl) rfl rfl rfl ?_
    refine AO.skipT rfl rfl rfl rfl rfl ?_
    refine AO.skipT rfl rfl rfl rfl rfl ?_
    refine AO.skipT rfl rfl rfl rfl rfl ?_
    refine AO.skipT rfl rfl rfl rfl rfl ?_
    refine AO.skipT rfl rfl rfl rfl rfl ?_
    refine AO.skipT rfl rfl rfl rfl rfl ?_
    refine AO.skipT rfl rfl rfl rfl rfl ?_
    refine AO.skipT rfl rfl rfl rfl rfl ?_
    refine AO.skipT rfl rfl rfl rfl rfl ?_
    refine AO.skipT rfl rfl rfl rfl rfl ?_
    refine AO.skipT rfl rfl rfl rfl rfl ?_
    refine AO.yld _ (Yld.pickF rfl rfl) rfl rfl rfl ?_
    refine AO.yld _ (Yld.assign rfl) rfl rfl rfl ?_
    refine AO.nil ?_
    refine Pure.ret Try.results171 (RVs.cons (RV.tmp rfl) RVs.nil) rfl ?_
    first | rfl | (simp_all [okMark]; done) | (simp_all [okMark]; intros; omega) | grind [okMark]

theorem impl_ValidMark_c {x : CMark} (w1 : i64b x.az) (w2 : i64b x.al) (w3 : i64b x.found) (w4 : i64b x.height) :
    Pure Try.prog 176 [.agg (encCMark x)] (.v (.bool (okMark x))) := by
  refine Pure.intro Try.func176 rfl Try.ntmps176 rfl rfl (fun w => ?_)
  refine AC.seq ?_
  refine AC.region ?_
  refine AO.box 0 rfl rfl rfl rfl rfl ?_
  refine AO.yld _ (Yld.assign rfl) rfl rfl rfl ?_
  refine AO.nil ?_
  refine AC.seq ?_
  refine AC.seq ?_
  refine AC.region ?_
  refine AO.yld _ (Yld.fieldAddr Try.underlying176 rfl rfl Try.sizeOf2 rfl rfl rfl) rfl rfl rfl ?_
  refine AO.yld _ (Yld.load Try.isAgg2 rfl rfl) rfl rfl rfl ?_
  refine AO.yld _ (Yld.fieldAddr Try.underlying176 rfl rfl Try.sizeOf2 rfl rfl rfl) rfl rfl rfl ?_
  refine AO.yld _ (Yld.load Try.isAgg2 rfl rfl) rfl rfl rfl ?_
  refine AO.yld _ (Yld.call rfl rfl Try.call194 rfl rfl rfl (impl_isDomeUp_c) rfl) rfl rfl rfl ?_
  refine AO.yld _ (Yld.not rfl) rfl rfl rfl ?_
  refine AO.yld _ (Yld.move rfl) rfl rfl rfl ?_
  refine AO.splitAt 9 _ rfl (fun s9 => ?_) (fun s9 => ?_)
  · -- s9 True
    refine AO.skipF rfl rfl rfl rfl rfl ?_
    refine AO.skipF rfl rfl rfl rfl rfl ?_
    refine AO.skipF rfl rfl rfl rfl rfl ?_
    refine AO.skipF rfl rfl rfl rfl rfl ?_
    refine AO.skipF rfl rfl rfl rfl rfl ?_
    refine AO.skipF rfl rfl rfl rfl rfl ?_
    refine AO.yld _ (Yld.pickT rfl rfl) rfl rfl rfl ?_
    refine AO.nil ?_
    refine AC.condT rfl ?_
    refine AC.seq ?_
    refine AC.region ?_
    refine AO.yld _ (Yld.assign rfl) rfl rfl rfl ?_
    refine AO.nil ?_
    refine Pure.ret Try.results176 (RVs.cons (RV.tmp rfl) RVs.nil) rfl ?_
    first | rfl | (simp_all [okMark]; done) | (simp_all [okMark]; intros; omega) | grind [okMark]
  · -- s9 False
    have la := spot_lim (by simpa using s9)
    refine AO.yldG _ (Yld.fieldAddr Try.underlying176 rfl rfl Try.sizeOf2 rfl rfl rfl) rfl rfl rfl rfl rfl ?_
    refine AO.yldG _ (Yld.load Try.isAgg2 rfl rfl) rfl rfl rfl rfl rfl ?_
    refine AO.yldG _ (Yld.fieldAddr Try.underlying176 rfl rfl Try.sizeOf2 rfl rfl rfl) rfl rfl rfl rfl rfl ?_
    refine AO.yldG _ (Yld.load Try.isAgg2 rfl rfl) rfl rfl rfl rfl rfl ?_
    refine AO.yldG _ (Yld.call rfl rfl Try.call194 rfl rfl rfl (impl_isDomeUp_c) rfl) rfl rfl rfl rfl rfl ?_
    refine AO.yldG _ (Yld.not rfl) rfl rfl rfl rfl rfl ?_
    refine AO.yld _ (Yld.pickF rfl rfl) rfl rfl rfl ?_
    refine AO.nil ?_
    refine AC.cond _ rfl (fun c16 => ?_) (fun c16 => ?_)
    · -- c16 True
      refine AC.seq ?_
      refine AC.region ?_
      refine AO.yld _ (Yld.assign rfl) rfl rfl rfl ?_
      refine AO.nil ?_
      refine Pure.ret Try.results176 (RVs.cons (RV.tmp rfl) RVs.nil) rfl ?_
      first | rfl | (simp_all [okMark]; done) | (simp_all [okMark]; intros; omega) | grind [okMark]
    · -- c16 False
      have lb := spot_lim (by simpa using c16)
      refine AC.skip ?_
      refine AC.seq ?_
      refine AC.region ?_
      refine AO.yld _ (Yld.fieldAddr Try.underlying176 rfl rfl Try.sizeOf2 rfl rfl rfl) rfl rfl rfl ?_
      refine AO.yld _ (Yld.load Try.isAgg2 rfl rfl) rfl rfl rfl ?_
      refine AO.yld _ (Yld.fieldAddr Try.underlying176 rfl rfl Try.sizeOf2 rfl rfl rfl) rfl rfl rfl ?_
      refine AO.yld _ (Yld.load Try.isAgg2 rfl rfl) rfl rfl rfl ?_
      refine AO.yld _ (Yld.call rfl rfl Try.call195 rfl rfl rfl (impl_AngleBetween_c (by omega) (by omega) (by omega) (by omega)) rfl) rfl rfl rfl ?_
      refine AO.yld _ (Yld.int rfl rfl rfl) rfl rfl rfl ?_
      refine AO.yld _ (Yld.move rfl) rfl rfl rfl ?_
      refine AO.splitAt 23 _ rfl (fun s23 => ?_) (fun s23 => ?_)
      · -- s23 True
        refine AO.yldG _ (Yld.fieldAddr Try.underlying176 rfl rfl Try.sizeOf2 rfl rfl rfl) rfl rfl rfl rfl rfl ?_
        refine AO.yldG _ (Yld.load Try.isAgg2 rfl rfl) rfl rfl rfl rfl rfl ?_
        refine AO.yldG _ (Yld.fieldAddr Try.underlying176 rfl rfl Try.sizeOf2 rfl rfl rfl) rfl rfl rfl rfl rfl ?_
        refine AO.yldG _ (Yld.load Try.isAgg2 rfl rfl) rfl rfl rfl rfl rfl ?_
        refine AO.yldG _ (Yld.sub rfl rfl (by omega) (by omega)) rfl rfl rfl rfl rfl ?_
        refine AO.yldG _ (Yld.call rfl rfl Try.call143 rfl rfl rfl (impl_absOf_c (by omega) (by omega)) rfl) rfl rfl rfl rfl rfl ?_
        refine AO.yldG _ (Yld.int rfl rfl rfl) rfl rfl rfl rfl rfl ?_
        refine AO.yld _ (Yld.pickT rfl rfl) rfl rfl rfl ?_
        refine AO.yld _ (Yld.assign rfl) rfl rfl rfl ?_
        refine AO.nil ?_
        refine Pure.ret Try.results176 (RVs.cons (RV.tmp rfl) RVs.nil) rfl ?_
        first | rfl | (simp_all [okMark]; done) | (simp_all [okMark]; intros; omega) | grind [okMark]
      · -- s23 False
        refine AO.skipT rfl rfl rfl rfl rfl ?_
        refine AO.skipT rfl rfl rfl rfl rfl ?_
        refine AO.skipT rfl rfl rfl rfl rfl ?_
        refine AO.skipT rfl rfl rfl rfl rfl ?_
        refine AO.skipT rfl rfl rfl rfl rfl ?_
        refine AO.skipT rfl rfl rfl rfl rfl ?_
        refine AO.skipT rfl rfl rfl rfl rfl ?_
        refine AO.yld _ (Yld.pickF rfl rfl) rfl rfl rfl ?_
        refine AO.yld _ (Yld.assign rfl) rfl rfl rfl ?_
        refine AO.nil ?_
        refine Pure.ret Try.results176 (RVs.cons (RV.tmp rfl) RVs.nil) rfl ?_
        first | rfl | (simp_all [okMark]; done) | (simp_all [okMark]; intros; omega) | grind [okMark]

theorem spec_OffsetOf_c {x : Sample} :
    Pure Try.prog 121 [.agg (encSample x)] (.tup [.v (.int .i64 (offsetOf x).1), .v (.int .i64 (offsetOf x).2.1), .v (.int .i64 (offsetOf x).2.2)]) := by
  refine Pure.intro Try.func121 rfl Try.ntmps121 rfl rfl (fun w => ?_)
  refine AC.seq ?_
  refine AC.region ?_
  refine AO.box 0 rfl rfl rfl rfl rfl ?_
  refine AO.yld _ (Yld.assign rfl) rfl rfl rfl ?_
  refine AO.yld _ (Yld.assign rfl) rfl rfl rfl ?_
  refine AO.yld _ (Yld.assign rfl) rfl rfl rfl ?_
  refine AO.nil ?_
  refine AC.seq ?_
  refine AC.seq ?_
  refine AC.region ?_
  refine AO.yld _ (Yld.call rfl rfl Try.call161 rfl rfl rfl (spec_l26Sample_c) rfl) rfl rfl rfl ?_
  refine AO.yld _ (Yld.not rfl) rfl rfl rfl ?_
  refine AO.nil ?_
  refine AC.cond _ rfl (fun c6 => ?_) (fun c6 => ?_)
  · -- c6 True
    refine AC.seq ?_
    refine AC.region ?_
    refine AO.yld _ (Yld.assign rfl) rfl rfl rfl ?_
    refine AO.yld _ (Yld.assign rfl) rfl rfl rfl ?_
    refine AO.yld _ (Yld.assign rfl) rfl rfl rfl ?_
    refine AO.nil ?_
    refine Pure.retT Try.results121 (RVs.cons (RV.tmp rfl) (RVs.cons (RV.tmp rfl) (RVs.cons (RV.tmp rfl) RVs.nil))) rfl ?_
    simp_all [offsetOf, okSample]
  · -- c6 False
    have hl := sample_lim (x := x) (by simpa [okSample] using c6)
    refine AC.skip ?_
    refine AC.seq ?_
    refine AC.draw (by kernel_rfl) (by kernel_rfl) ?_
    refine AO.yld _ (Yld.fieldAddr Try.underlying165 rfl rfl Try.sizeOf2 rfl rfl rfl) rfl rfl rfl ?_
    refine AO.yld _ (Yld.load Try.isAgg2 rfl rfl) rfl rfl rfl ?_
    refine AO.yld _ (Yld.mul rfl rfl (by omega) (by omega)) rfl rfl rfl ?_
    refine AO.yld _ (Yld.fieldAddr Try.underlying165 rfl rfl Try.sizeOf2 rfl rfl rfl) rfl rfl rfl ?_
    refine AO.yld _ (Yld.load Try.isAgg2 rfl rfl) rfl rfl rfl ?_
    refine AO.yld _ (Yld.sub rfl rfl (by omega) (by omega)) rfl rfl rfl ?_
    refine AO.yld _ (Yld.fieldAddr Try.underlying165 rfl rfl Try.sizeOf2 rfl rfl rfl) rfl rfl rfl ?_
    refine AO.yld _ (Yld.load Try.isAgg2 rfl rfl) rfl rfl rfl ?_
    refine AO.yld _ (Yld.sub rfl rfl (by omega) (by omega)) rfl rfl rfl ?_
    refine AO.yld _ (Yld.call rfl rfl Try.call164 rfl rfl rfl (spec_l26Half_c (by omega) (by omega)) rfl) rfl rfl rfl ?_
    refine AO.yld _ (Yld.fieldAddr Try.underlying165 rfl rfl Try.sizeOf2 rfl rfl rfl) rfl rfl rfl ?_
    refine AO.yld _ (Yld.load Try.isAgg2 rfl rfl) rfl rfl rfl ?_
    refine AO.yld _ (Yld.fieldAddr Try.underlying165 rfl rfl Try.sizeOf2 rfl rfl rfl) rfl rfl rfl ?_
    refine AO.yld _ (Yld.load Try.isAgg2 rfl rfl) rfl rfl rfl ?_
    refine AO.yld _ (Yld.sub rfl rfl (by omega) (by omega)) rfl rfl rfl ?_
    refine AO.yld _ (Yld.assign rfl) rfl rfl rfl ?_
    refine AO.yld _ (Yld.assign rfl) rfl rfl rfl ?_
    refine AO.yld _ (Yld.assign rfl) rfl rfl rfl ?_
    refine AO.nil ?_
    refine Pure.retT Try.results121 (RVs.cons (RV.tmp rfl) (RVs.cons (RV.tmp rfl) (RVs.cons (RV.tmp rfl) RVs.nil))) rfl ?_
    simp_all [offsetOf, okSample]

theorem impl_OffsetOf_c {x : Sample} :
    Pure Try.prog 125 [.agg (encSample x)] (.tup [.v (.int .i64 (offsetOf x).1), .v (.int .i64 (offsetOf x).2.1), .v (.int .i64 (offsetOf x).2.2)]) := by
  refine Pure.intro Try.func125 rfl Try.ntmps125 rfl rfl (fun w => ?_)
  refine AC.seq ?_
  refine AC.region ?_
  refine AO.box 0 rfl rfl rfl rfl rfl ?_
  refine AO.yld _ (Yld.assign rfl) rfl rfl rfl ?_
  refine AO.yld _ (Yld.assign rfl) rfl rfl rfl ?_
  refine AO.yld _ (Yld.assign rfl) rfl rfl rfl ?_
  refine AO.nil ?_
  refine AC.seq ?_
  refine AC.seq ?_
  refine AC.region ?_
  refine AO.yld _ (Yld.loadAgg Try.isAgg165 Try.sizeOf165 rfl rfl rfl rfl) rfl rfl rfl ?_
  refine AO.yld _ (Yld.call rfl rfl Try.call167 rfl rfl rfl (impl_ValidSample_c) rfl) rfl rfl rfl ?_
  refine AO.yld _ (Yld.not rfl) rfl rfl rfl ?_
  refine AO.nil ?_
  refine AC.cond _ rfl (fun c7 => ?_) (fun c7 => ?_)
  · -- c7 True
    refine AC.seq ?_
    refine AC.region ?_
    refine AO.yld _ (Yld.assign rfl) rfl rfl rfl ?_
    refine AO.yld _ (Yld.assign rfl) rfl rfl rfl ?_
    refine AO.yld _ (Yld.assign rfl) rfl rfl rfl ?_
    refine AO.nil ?_
    refine Pure.retT Try.results125 (RVs.cons (RV.tmp rfl) (RVs.cons (RV.tmp rfl) (RVs.cons (RV.tmp rfl) RVs.nil))) rfl ?_
    simp_all [offsetOf, okSample]
  · -- c7 False
    have hl := sample_lim (x := x) (by simpa [okSample] using c7)
    refine AC.skip ?_
    refine AC.seq ?_
    refine AC.draw (by kernel_rfl) (by kernel_rfl) ?_
    refine AO.yld _ (Yld.fieldAddr Try.underlying165 rfl rfl Try.sizeOf2 rfl rfl rfl) rfl rfl rfl ?_
    refine AO.yld _ (Yld.load Try.isAgg2 rfl rfl) rfl rfl rfl ?_
    refine AO.yld _ (Yld.mul rfl rfl (by omega) (by omega)) rfl rfl rfl ?_
    refine AO.yld _ (Yld.fieldAddr Try.underlying165 rfl rfl Try.sizeOf2 rfl rfl rfl) rfl rfl rfl ?_
    refine AO.yld _ (Yld.load Try.isAgg2 rfl rfl) rfl rfl rfl ?_
    refine AO.yld _ (Yld.sub rfl rfl (by omega) (by omega)) rfl rfl rfl ?_
    refine AO.yld _ (Yld.fieldAddr Try.underlying165 rfl rfl Try.sizeOf2 rfl rfl rfl) rfl rfl rfl ?_
    refine AO.yld _ (Yld.load Try.isAgg2 rfl rfl) rfl rfl rfl ?_
    refine AO.yld _ (Yld.sub rfl rfl (by omega) (by omega)) rfl rfl rfl ?_
    refine AO.yld _ (Yld.call rfl rfl Try.call168 rfl rfl rfl (impl_floorDiv_c (by omega) (by omega) (by omega)) rfl) rfl rfl rfl ?_
    refine AO.yld _ (Yld.fieldAddr Try.underlying165 rfl rfl Try.sizeOf2 rfl rfl rfl) rfl rfl rfl ?_
    refine AO.yld _ (Yld.load Try.isAgg2 rfl rfl) rfl rfl rfl ?_
    refine AO.yld _ (Yld.fieldAddr Try.underlying165 rfl rfl Try.sizeOf2 rfl rfl rfl) rfl rfl rfl ?_
    refine AO.yld _ (Yld.load Try.isAgg2 rfl rfl) rfl rfl rfl ?_
    refine AO.yld _ (Yld.sub rfl rfl (by omega) (by omega)) rfl rfl rfl ?_
    refine AO.yld _ (Yld.assign rfl) rfl rfl rfl ?_
    refine AO.yld _ (Yld.assign rfl) rfl rfl rfl ?_
    refine AO.yld _ (Yld.assign rfl) rfl rfl rfl ?_
    refine AO.nil ?_
    refine Pure.retT Try.results125 (RVs.cons (RV.tmp rfl) (RVs.cons (RV.tmp rfl) (RVs.cons (RV.tmp rfl) RVs.nil))) rfl ?_
    simp_all [offsetOf, okSample]

theorem indexFuncSample_c {xs : List Sample} {f : FuncId} {caps : List PV} {p : Sample → Bool} (hn : xs.length ≤ 1048576) (hf : Enters Try.prog f) (hp : ∀ x ∈ xs, Pure Try.prog f (.agg (encSample x) :: caps) (.v (.bool (p x)))) :
    Pure Try.prog 189 [.sl 3 (xs.map encSample), .clo f caps] (.v (.int .i64 (idxOf p xs))) := by
  refine Pure.intro Try.func189 rfl Try.ntmps189 rfl rfl (fun w => ?_)
  refine AC.seq ?_
  refine AC.region ?_
  refine AO.yld _ (Yld.assign rfl) rfl rfl rfl ?_
  refine AO.nil ?_
  refine AC.seq ?_
  refine AC.seq ?_
  refine AC.region ?_
  refine AO.yld _ (Yld.move rfl) rfl rfl rfl ?_
  refine AO.yld _ (Yld.len Try.underlying76 rfl rfl) rfl rfl rfl ?_
  refine AO.yld _ (Yld.move rfl) rfl rfl rfl ?_
  refine AO.nil ?_
  refine AC.block ?_
  refine AC.loopC [(0, _), (1, _), (7, _)] [] (fun (k : Nat) => [(8, .p (.v (.int .i64 (k : Int))))]) (fun (k : Nat) => []) (fun (k : Nat) => k ≤ xs.length ∧ anyTo p xs k = false) (fun (k : Nat) => xs.length - k) 0 ⟨rfl, rfl, rfl, trivial⟩ trivial ⟨rfl, trivial⟩ trivial ?_ (fun k hJ => ?_)
  · exact ⟨Nat.zero_le _, rfl⟩
  · -- round
    refine AC.seq ?_
    refine AC.region ?_
    refine AO.yld _ (Yld.int rfl rfl rfl) rfl rfl rfl ?_
    refine AO.nil ?_
    refine AC.seq ?_
    refine AC.cond _ rfl (fun c9 => ?_) (fun c9 => ?_)
    · -- c9 True
      have hk := lt_of_decM c9
      obtain ⟨x, hx⟩ := get_some hk
      have hrow := map_row (enc := encSample) hx
      refine AC.skip ?_
      refine AC.seq ?_
      refine AC.block ?_
      refine AC.seq ?_
      refine AC.region ?_
      refine AO.yld _ (Yld.move rfl) rfl rfl rfl ?_
      refine AO.yld _ (Yld.assign rfl) rfl rfl rfl ?_
      refine AO.nil ?_
      refine AC.seq ?_
      refine AC.region ?_
      refine AO.yld _ (Yld.move rfl) rfl rfl rfl ?_
      refine AO.yld _ (Yld.move rfl) rfl rfl rfl ?_
      refine AO.yld _ (Yld.move rfl) rfl rfl rfl ?_
      refine AO.yld _ (Yld.indexSl Try.underlying76 Try.sizeOf165 rfl rfl hrow rfl) rfl rfl rfl ?_
      refine AO.yld _ (Yld.loadAgg Try.isAgg165 Try.sizeOf165 rfl rfl rfl rfl) rfl rfl rfl ?_
      refine AO.yld _ (Yld.call rfl rfl hf rfl rfl (viewL_p _) (hp x (List.mem_of_getElem? hx)) rfl) rfl rfl rfl ?_
      refine AO.nil ?_
      refine AC.cond _ rfl (fun c16 => ?_) (fun c16 => ?_)
      · -- c16 True
        refine AC.seq ?_
        refine AC.region ?_
        refine AO.yld _ (Yld.move rfl) rfl rfl rfl ?_
        refine AO.yld _ (Yld.assign rfl) rfl rfl rfl ?_
        refine AO.nil ?_
        refine Pure.ret Try.results189 (RVs.cons (RV.tmp rfl) RVs.nil) rfl ?_
        first
          | exact ci (idx_hit hJ.2 hx (by simpa using c16))
          | exact ci (idx_miss hJ.2)
      · -- c16 False
        refine AC.skip ?_
        refine AC.mark ?_
        refine AC.region ?_
        refine AO.yld _ (Yld.add rfl rfl (by omega) (by omega)) rfl rfl rfl ?_
        refine AO.yld _ (Yld.move rfl) rfl rfl rfl ?_
        refine AO.nil ?_
        refine AC.back ⟨k + 1, ?_, ?_, ⟨?_, trivial⟩, trivial, ⟨rfl, rfl, rfl, trivial⟩, trivial⟩
        · exact ⟨hk, by rw [anyTo_succ hx, hJ.2]; simpa using c16⟩
        · omega
        · rfl
    · -- c9 False
      obtain rfl : k = xs.length := by have := ge_of_decM c9; omega
      refine AC.exit rfl ?_
      refine AC.seq ?_
      refine AC.region ?_
      refine AO.yld _ (Yld.assign rfl) rfl rfl rfl ?_
      refine AO.nil ?_
      refine Pure.ret Try.results189 (RVs.cons (RV.tmp rfl) RVs.nil) rfl ?_
      first
        | exact ci (idx_hit hJ.2 hx (by simpa using c16))
        | exact ci (idx_miss hJ.2)

theorem containsFuncSample_c {xs : List Sample} {f : FuncId} {caps : List PV} {p : Sample → Bool} (hn : xs.length ≤ 1048576) (hf : Enters Try.prog f) (hp : ∀ x ∈ xs, Pure Try.prog f (.agg (encSample x) :: caps) (.v (.bool (p x)))) :
    Pure Try.prog 165 [.sl 3 (xs.map encSample), .clo f caps] (.v (.bool (xs.any p))) := by
  refine Pure.intro Try.func165 rfl Try.ntmps165 rfl rfl (fun w => ?_)
  refine AC.seq ?_
  refine AC.region ?_
  refine AO.yld _ (Yld.assign rfl) rfl rfl rfl ?_
  refine AO.nil ?_
  refine AC.seq ?_
  refine AC.region ?_
  refine AO.yld _ (Yld.move rfl) rfl rfl rfl ?_
  refine AO.yld _ (Yld.move rfl) rfl rfl rfl ?_
  refine AO.yld _ (Yld.call rfl rfl Try.call189 rfl rfl rfl (indexFuncSample_c (by first | assumption | omega) hf hp) rfl) rfl rfl rfl ?_
  refine AO.yld _ (Yld.int rfl rfl rfl) rfl rfl rfl ?_
  refine AO.yld _ (Yld.assign rfl) rfl rfl rfl ?_
  refine AO.nil ?_
  refine Pure.ret Try.results165 (RVs.cons (RV.tmp rfl) RVs.nil) rfl ?_
  exact cb idx_any.symm

theorem neSetting {x y : NV} {X Y : Operand} (w : World) : (do eqGuard .neq 159 X Y (.agg [str x.name, .int .i64 x.val].toArray) (.agg [str y.name, .int .i64 y.val].toArray); binOp .neq 159 (.agg [str x.name, .int .i64 x.val].toArray) (.agg [str y.name, .int .i64 y.val].toArray) : Sem Value).run Try.prog w = .ok (.bool (!decide (x = y))) w := by
  have g1 : Try.prog.eqGuardType Try.prog.depth 159 = false := by kernel_rfl
  have g2 : Try.prog.stoodInHeld 159 = false := by kernel_rfl
  have g3 : Try.prog.underlying 159 = some (.struct (Try.prog.fieldsOf 159)) := by kernel_rfl
  have g4 : (Try.prog.fieldsOf 159).toList = [⟨ "Name", 9, 0, false, "", "", 0⟩, ⟨ "Value", 2, 1, false, "", "", 16⟩] := by kernel_rfl
  rw [Sem.run_bind, run_eqGuard_agg _ _ _ _ _ _ _ g1, Result.andThen_ok, run_neq_struct, run_equalIn_struct _ _ _ _ _ g3 g2, g4]
  have e : decide (x = y) = (decide (x.name = y.name) && decide (x.val = y.val)) := by cases x; cases y; simp
  rw [e]
  clear g1 g2 g3 g4 e
  simp [Op.eqFields, go_sem, part, str, Try.sizeOf2, Try.isAgg2, Try.sizeOf9, Try.isAgg9, run_equalIn_int (h := Try.underlying2), run_equalIn_string (h := Try.underlying9)]
  by_cases h0 : x.name = y.name <;> by_cases h1 : x.val = y.val <;> simp_all

theorem slicesEqualSetting_c {xs ys : List NV} (hn : xs.length ≤ 1048576) :
    Pure Try.prog 117 [.sl 2 (xs.map encNV), .sl 2 (ys.map encNV)] (.v (.bool (decide (xs = ys)))) := by
  refine Pure.intro Try.func117 rfl Try.ntmps117 rfl rfl (fun w => ?_)
  refine AC.seq ?_
  refine AC.region ?_
  refine AO.yld _ (Yld.assign rfl) rfl rfl rfl ?_
  refine AO.nil ?_
  refine AC.seq ?_
  refine AC.seq ?_
  refine AC.region ?_
  refine AO.yld _ (Yld.move rfl) rfl rfl rfl ?_
  refine AO.yld _ (Yld.len Try.underlying152 rfl rfl) rfl rfl rfl ?_
  refine AO.yld _ (Yld.move rfl) rfl rfl rfl ?_
  refine AO.yld _ (Yld.len Try.underlying152 rfl rfl) rfl rfl rfl ?_
  refine AO.yld _ (Yld.int rfl rfl rfl) rfl rfl rfl ?_
  refine AO.nil ?_
  refine AC.cond _ rfl (fun c10 => ?_) (fun c10 => ?_)
  · -- c10 True
    have hl : xs.length ≠ ys.length := by have h := c10; simp only [List.length_map, bne_iff_ne, ne_eq, decide_eq_true_eq] at h; omega
    refine AC.seq ?_
    refine AC.region ?_
    refine AO.yld _ (Yld.assign rfl) rfl rfl rfl ?_
    refine AO.nil ?_
    refine Pure.ret Try.results117 (RVs.cons (RV.tmp rfl) RVs.nil) rfl ?_
    first
      | (exact congrArg (fun b => PV.v (.bool b)) (decide_eq_false (fun e => hl (congrArg List.length e))).symm)
      | (refine congrArg (fun b => PV.v (.bool b)) (decide_eq_false (fun e => ?_)).symm; subst e; rw [hx] at hy; simp_all)
      | (refine congrArg (fun b => PV.v (.bool b)) (decide_eq_true ?_).symm; have := hJ.2; rw [List.take_of_length_le (Nat.le_refl _), List.take_of_length_le (by omega)] at this; exact this)
  · -- c10 False
    have hl : xs.length = ys.length := by have h := c10; simp only [List.length_map, bne_eq_false_iff_eq, decide_eq_false_iff_not, ne_eq, Decidable.not_not] at h; omega
    refine AC.skip ?_
    refine AC.seq ?_
    refine AC.seq ?_
    refine AC.region ?_
    refine AO.yld _ (Yld.move rfl) rfl rfl rfl ?_
    refine AO.yld _ (Yld.len Try.underlying152 rfl rfl) rfl rfl rfl ?_
    refine AO.yld _ (Yld.move rfl) rfl rfl rfl ?_
    refine AO.nil ?_
    refine AC.block ?_
    refine AC.loopC [(0, _), (1, _), (12, _)] [] (fun (k : Nat) => [(13, .p (.v (.int .i64 (k : Int))))]) (fun (k : Nat) => []) (fun (k : Nat) => k ≤ xs.length ∧ xs.take k = ys.take k) (fun (k : Nat) => xs.length - k) 0 ⟨rfl, rfl, rfl, trivial⟩ trivial ⟨rfl, trivial⟩ trivial ?_ (fun k hJ => ?_)
    · simp
    · -- round
      refine AC.seq ?_
      refine AC.region ?_
      refine AO.yld _ (Yld.int rfl rfl rfl) rfl rfl rfl ?_
      refine AO.nil ?_
      refine AC.seq ?_
      refine AC.cond _ rfl (fun c14 => ?_) (fun c14 => ?_)
      · -- c14 True
        have hk := lt_of_decM c14
        obtain ⟨x, hx⟩ := get_some hk
        have hrow := map_row (enc := encNV) hx
        obtain ⟨y, hy⟩ := get_some (xs := ys) (k := k) (by omega)
        have hrow2 := map_row (enc := encNV) hy
        refine AC.skip ?_
        refine AC.seq ?_
        refine AC.block ?_
        refine AC.seq ?_
        refine AC.region ?_
        refine AO.yld _ (Yld.move rfl) rfl rfl rfl ?_
        refine AO.yld _ (Yld.assign rfl) rfl rfl rfl ?_
        refine AO.nil ?_
        refine AC.seq ?_
        refine AC.draw (by kernel_rfl) (by kernel_rfl) ?_
        refine AO.yld _ (Yld.move rfl) rfl rfl rfl ?_
        refine AO.yld _ (Yld.move rfl) rfl rfl rfl ?_
        refine AO.yld _ (Yld.indexSl Try.underlying152 Try.sizeOf159 rfl rfl hrow rfl) rfl rfl rfl ?_
        refine AO.yld _ (Yld.loadAgg Try.isAgg159 Try.sizeOf159 rfl rfl rfl rfl) rfl rfl rfl ?_
        refine AO.yld _ (Yld.move rfl) rfl rfl rfl ?_
        refine AO.yld _ (Yld.move rfl) rfl rfl rfl ?_
        refine AO.yld _ (Yld.indexSl Try.underlying152 Try.sizeOf159 rfl rfl hrow2 rfl) rfl rfl rfl ?_
        refine AO.yld _ (Yld.loadAgg Try.isAgg159 Try.sizeOf159 rfl rfl rfl rfl) rfl rfl rfl ?_
        refine AO.yld _ (Yld.binV rfl rfl rfl rfl rfl rfl (by exact neSetting)) rfl rfl rfl ?_
        refine AO.nil ?_
        refine AC.cond _ rfl (fun c24 => ?_) (fun c24 => ?_)
        · -- c24 True
          refine AC.seq ?_
          refine AC.region ?_
          refine AO.yld _ (Yld.assign rfl) rfl rfl rfl ?_
          refine AO.nil ?_
          refine Pure.ret Try.results117 (RVs.cons (RV.tmp rfl) RVs.nil) rfl ?_
          first
            | (exact congrArg (fun b => PV.v (.bool b)) (decide_eq_false (fun e => hl (congrArg List.length e))).symm)
            | (refine congrArg (fun b => PV.v (.bool b)) (decide_eq_false (fun e => ?_)).symm; subst e; rw [hx] at hy; simp_all)
            | (refine congrArg (fun b => PV.v (.bool b)) (decide_eq_true ?_).symm; have := hJ.2; rw [List.take_of_length_le (Nat.le_refl _), List.take_of_length_le (by omega)] at this; exact this)
        · -- c24 False
          refine AC.skip ?_
          refine AC.mark ?_
          refine AC.region ?_
          refine AO.yld _ (Yld.add rfl rfl (by omega) (by omega)) rfl rfl rfl ?_
          refine AO.yld _ (Yld.move rfl) rfl rfl rfl ?_
          refine AO.nil ?_
          refine AC.back ⟨k + 1, ?_, ?_, ⟨?_, trivial⟩, trivial, ⟨rfl, rfl, rfl, trivial⟩, trivial⟩
          · exact ⟨hk, by rw [take_snoc hx, take_snoc hy, hJ.2, show x = y by simpa using c24]⟩
          · omega
          · rfl
      · -- c14 False
        obtain rfl : k = xs.length := by have := ge_of_decM c14; omega
        refine AC.exit rfl ?_
        refine AC.seq ?_
        refine AC.region ?_
        refine AO.yld _ (Yld.assign rfl) rfl rfl rfl ?_
        refine AO.nil ?_
        refine Pure.ret Try.results117 (RVs.cons (RV.tmp rfl) RVs.nil) rfl ?_
        first
          | (exact congrArg (fun b => PV.v (.bool b)) (decide_eq_false (fun e => hl (congrArg List.length e))).symm)
          | (refine congrArg (fun b => PV.v (.bool b)) (decide_eq_false (fun e => ?_)).symm; subst e; rw [hx] at hy; simp_all)
          | (refine congrArg (fun b => PV.v (.bool b)) (decide_eq_true ?_).symm; have := hJ.2; rw [List.take_of_length_le (Nat.le_refl _), List.take_of_length_le (by omega)] at this; exact this)

theorem spec_l27Same_c {xs ys : List NV} (hn : xs.length ≤ 1048576) :
    Pure Try.prog 113 [.sl 2 (xs.map encNV), .sl 2 (ys.map encNV)] (.v (.bool (decide (xs = ys)))) := by
  refine Pure.intro Try.func113 rfl Try.ntmps113 rfl rfl (fun w => ?_)
  refine AC.seq ?_
  refine AC.region ?_
  refine AO.yld _ (Yld.assign rfl) rfl rfl rfl ?_
  refine AO.nil ?_
  refine AC.seq ?_
  refine AC.seq ?_
  refine AC.region ?_
  refine AO.yld _ (Yld.move rfl) rfl rfl rfl ?_
  refine AO.yld _ (Yld.len Try.underlying152 rfl rfl) rfl rfl rfl ?_
  refine AO.yld _ (Yld.move rfl) rfl rfl rfl ?_
  refine AO.yld _ (Yld.len Try.underlying152 rfl rfl) rfl rfl rfl ?_
  refine AO.yld _ (Yld.int rfl rfl rfl) rfl rfl rfl ?_
  refine AO.nil ?_
  refine AC.cond _ rfl (fun c10 => ?_) (fun c10 => ?_)
  · -- c10 True
    have hl : xs.length ≠ ys.length := by have h := c10; simp only [List.length_map, bne_iff_ne, ne_eq, decide_eq_true_eq] at h; omega
    refine AC.seq ?_
    refine AC.region ?_
    refine AO.yld _ (Yld.assign rfl) rfl rfl rfl ?_
    refine AO.nil ?_
    refine Pure.ret Try.results113 (RVs.cons (RV.tmp rfl) RVs.nil) rfl ?_
    first
      | (exact congrArg (fun b => PV.v (.bool b)) (decide_eq_false (fun e => hl (congrArg List.length e))).symm)
      | (refine congrArg (fun b => PV.v (.bool b)) (decide_eq_false (fun e => ?_)).symm; subst e; rw [hx] at hy; simp_all)
      | (refine congrArg (fun b => PV.v (.bool b)) (decide_eq_true ?_).symm; have := hJ.2; rw [List.take_of_length_le (Nat.le_refl _), List.take_of_length_le (by omega)] at this; exact this)
  · -- c10 False
    have hl : xs.length = ys.length := by have h := c10; simp only [List.length_map, bne_eq_false_iff_eq, decide_eq_false_iff_not, ne_eq, Decidable.not_not] at h; omega
    refine AC.skip ?_
    refine AC.seq ?_
    refine AC.seq ?_
    refine AC.region ?_
    refine AO.yld _ (Yld.assign rfl) rfl rfl rfl ?_
    refine AO.nil ?_
    refine AC.block ?_
    refine AC.loopC [(0, _), (1, _)] [] (fun (k : Nat) => [(5, .p (.v (.int .i64 (k : Int))))]) (fun (k : Nat) => []) (fun (k : Nat) => k ≤ xs.length ∧ xs.take k = ys.take k) (fun (k : Nat) => xs.length - k) 0 ⟨rfl, rfl, trivial⟩ trivial ⟨rfl, trivial⟩ trivial ?_ (fun k hJ => ?_)
    · simp
    · -- round
      refine AC.seq ?_
      refine AC.seq ?_
      refine AC.region ?_
      refine AO.yld _ (Yld.move rfl) rfl rfl rfl ?_
      refine AO.yld _ (Yld.move rfl) rfl rfl rfl ?_
      refine AO.yld _ (Yld.len Try.underlying152 rfl rfl) rfl rfl rfl ?_
      refine AO.yld _ (Yld.int rfl rfl rfl) rfl rfl rfl ?_
      refine AO.nil ?_
      refine AC.cond _ rfl (fun c14 => ?_) (fun c14 => ?_)
      · -- c14 True
        have hk := lt_of_decM c14
        obtain ⟨x, hx⟩ := get_some hk
        have hrow := map_row (enc := encNV) hx
        obtain ⟨y, hy⟩ := get_some (xs := ys) (k := k) (by omega)
        have hrow2 := map_row (enc := encNV) hy
        refine AC.skip ?_
        refine AC.seq ?_
        refine AC.block ?_
        refine AC.seq ?_
        refine AC.draw (by kernel_rfl) (by kernel_rfl) ?_
        refine AO.yld _ (Yld.move rfl) rfl rfl rfl ?_
        refine AO.yld _ (Yld.move rfl) rfl rfl rfl ?_
        refine AO.yld _ (Yld.indexSl Try.underlying152 Try.sizeOf159 rfl rfl hrow rfl) rfl rfl rfl ?_
        refine AO.yld _ (Yld.loadAgg Try.isAgg159 Try.sizeOf159 rfl rfl rfl rfl) rfl rfl rfl ?_
        refine AO.yld _ (Yld.move rfl) rfl rfl rfl ?_
        refine AO.yld _ (Yld.move rfl) rfl rfl rfl ?_
        refine AO.yld _ (Yld.indexSl Try.underlying152 Try.sizeOf159 rfl rfl hrow2 rfl) rfl rfl rfl ?_
        refine AO.yld _ (Yld.loadAgg Try.isAgg159 Try.sizeOf159 rfl rfl rfl rfl) rfl rfl rfl ?_
        refine AO.yld _ (Yld.binV rfl rfl rfl rfl rfl rfl (by exact neSetting)) rfl rfl rfl ?_
        refine AO.nil ?_
        refine AC.cond _ rfl (fun c25 => ?_) (fun c25 => ?_)
        · -- c25 True
          refine AC.seq ?_
          refine AC.region ?_
          refine AO.yld _ (Yld.assign rfl) rfl rfl rfl ?_
          refine AO.nil ?_
          refine Pure.ret Try.results113 (RVs.cons (RV.tmp rfl) RVs.nil) rfl ?_
          first
            | (exact congrArg (fun b => PV.v (.bool b)) (decide_eq_false (fun e => hl (congrArg List.length e))).symm)
            | (refine congrArg (fun b => PV.v (.bool b)) (decide_eq_false (fun e => ?_)).symm; subst e; rw [hx] at hy; simp_all)
            | (refine congrArg (fun b => PV.v (.bool b)) (decide_eq_true ?_).symm; have := hJ.2; rw [List.take_of_length_le (Nat.le_refl _), List.take_of_length_le (by omega)] at this; exact this)
        · -- c25 False
          refine AC.skip ?_
          refine AC.mark ?_
          refine AC.region ?_
          refine AO.yld _ (Yld.move rfl) rfl rfl rfl ?_
          refine AO.yld _ (Yld.add rfl rfl (by omega) (by omega)) rfl rfl rfl ?_
          refine AO.yld _ (Yld.assign rfl) rfl rfl rfl ?_
          refine AO.nil ?_
          refine AC.back ⟨k + 1, ?_, ?_, ⟨?_, trivial⟩, trivial, ⟨rfl, rfl, trivial⟩, trivial⟩
          · exact ⟨hk, by rw [take_snoc hx, take_snoc hy, hJ.2, show x = y by simpa using c25]⟩
          · omega
          · rfl
      · -- c14 False
        obtain rfl : k = xs.length := by have := ge_of_decM c14; omega
        refine AC.exit rfl ?_
        refine AC.seq ?_
        refine AC.region ?_
        refine AO.yld _ (Yld.assign rfl) rfl rfl rfl ?_
        refine AO.nil ?_
        refine Pure.ret Try.results113 (RVs.cons (RV.tmp rfl) RVs.nil) rfl ?_
        first
          | (exact congrArg (fun b => PV.v (.bool b)) (decide_eq_false (fun e => hl (congrArg List.length e))).symm)
          | (refine congrArg (fun b => PV.v (.bool b)) (decide_eq_false (fun e => ?_)).symm; subst e; rw [hx] at hy; simp_all)
          | (refine congrArg (fun b => PV.v (.bool b)) (decide_eq_true ?_).symm; have := hJ.2; rw [List.take_of_length_le (Nat.le_refl _), List.take_of_length_le (by omega)] at this; exact this)

end Go.Proofs.Ytglblonacmhceaa
