/- Contracts of functions of the program, each by a walk of its text in the calculus V. -/
import Derived.Test.YtjifkcajmmchdaaD18
import Derived.Test.YtjifkcajmmchdaaD14
import Derived.Test.YtjifkcajmmchdaaD15
import Derived.Test.YtjifkcajmmchdaaD17
import Derived.Test.YtjifkcajmmchdaaD13
import Derived.Test.YtjifkcajmmchdaaD12
import Derived.Test.YtjifkcajmmchdaaD11
import Derived.Test.YtjifkcajmmchdaaD10
import Derived.Test.YtjifkcajmmchdaaD9
import Derived.Test.YtjifkcajmmchdaaV12
import Derived.Test.YtjifkcajmmchdaaV15
import Derived.Test.YtjifkcajmmchdaaV16
import Derived.Test.YtjifkcajmmchdaaProg
set_option linter.all false
set_option linter.unusedSimpArgs false
set_option linter.unnecessarySimpa false
set_option linter.unusedVariables false
namespace Go.Proofs.Ytjifkcajmmchdaa
open Go Go.V
theorem ty2 : TyIs Try.prog 2 (.int .i64 0) 1 8 := by unfold TyIs; kernel_rfl
theorem ty5 : TyIs Try.prog 5 (.int .u8 0) 1 1 := by unfold TyIs; kernel_rfl
theorem ty66 : TyIs Try.prog 66 (.agg #[.string ⟨#[]⟩, .int .i64 0]) 2 24 := by unfold TyIs; kernel_rfl
theorem ty107 : TyIs Try.prog 107 (.agg #[.int .i64 0, .int .i64 0, .string ⟨#[]⟩, .slice none 0 0]) 4 56 := by unfold TyIs; kernel_rfl
theorem bld107 : BuildIs Try.prog 107 [(0, 1), (1, 1), (2, 1), (3, 1)] (.agg #[.int .i64 0, .int .i64 0, .string ⟨#[]⟩, .slice none 0 0]) := by
  intro ps cells w h
  have h2 : Instr.fill (fun i => ([(0, 1), (1, 1), (2, 1), (3, 1)] : List (Nat × Nat))[i]?) #[.int .i64 0, .int .i64 0, .string ⟨#[]⟩, .slice none 0 0] ps.toList = some cells := h
  simp [Instr.build, go_sem, Try.zeroValue107, run_underlying Try.underlying107, Try.sizeOf2, Try.sizeOf9, Try.sizeOf24, h2]

theorem impl_within_c {n lo hi : Int} :
    Pure Try.prog 72 [.v (.int .i64 n), .v (.int .i64 lo), .v (.int .i64 hi)] (.v (.bool (decide (lo ≤ n) && decide (n ≤ hi)))) := by
  refine Pure.intro Try.func72 rfl Try.ntmps72 rfl rfl (fun w => ?_)
  refine AC.seq ?_
  refine AC.region ?_
  refine AO.yld _ (Yld.assign rfl) rfl rfl rfl ?_
  refine AO.nil ?_
  refine AC.seq ?_
  refine AC.region ?_
  refine AO.yld _ (Yld.move rfl) rfl rfl rfl ?_
  refine AO.yld _ (Yld.move rfl) rfl rfl rfl ?_
  refine AO.yld _ (Yld.int rfl rfl rfl) rfl rfl rfl ?_
  refine AO.yld _ (Yld.move rfl) rfl rfl rfl ?_
  refine AO.splitAt 10 _ rfl (fun s10 => ?_) (fun s10 => ?_)
  · -- s10 True
    refine AO.yldG _ (Yld.move rfl) rfl rfl rfl rfl rfl ?_
    refine AO.yldG _ (Yld.move rfl) rfl rfl rfl rfl rfl ?_
    refine AO.yldG _ (Yld.int rfl rfl rfl) rfl rfl rfl rfl rfl ?_
    refine AO.yld _ (Yld.pickT rfl rfl) rfl rfl rfl ?_
    refine AO.yld _ (Yld.assign rfl) rfl rfl rfl ?_
    refine AO.nil ?_
    refine Pure.ret Try.results72 (RVs.cons (RV.tmp rfl) RVs.nil) rfl ?_
    first | rfl | (simp_all; done) | (simp_all; intros; omega) | grind
  · -- s10 False
    refine AO.skipT rfl rfl rfl rfl rfl ?_
    refine AO.skipT rfl rfl rfl rfl rfl ?_
    refine AO.skipT rfl rfl rfl rfl rfl ?_
    refine AO.yld _ (Yld.pickF rfl rfl) rfl rfl rfl ?_
    refine AO.yld _ (Yld.assign rfl) rfl rfl rfl ?_
    refine AO.nil ?_
    refine Pure.ret Try.results72 (RVs.cons (RV.tmp rfl) RVs.nil) rfl ?_
    first | rfl | (simp_all; done) | (simp_all; intros; omega) | grind

theorem spec_l00In_c {n lo hi : Int} :
    Pure Try.prog 93 [.v (.int .i64 n), .v (.int .i64 lo), .v (.int .i64 hi)] (.v (.bool (decide (lo ≤ n) && decide (n ≤ hi)))) := by
  refine Pure.intro Try.func93 rfl Try.ntmps93 rfl rfl (fun w => ?_)
  refine AC.seq ?_
  refine AC.region ?_
  refine AO.yld _ (Yld.assign rfl) rfl rfl rfl ?_
  refine AO.nil ?_
  refine AC.seq ?_
  refine AC.region ?_
  refine AO.yld _ (Yld.move rfl) rfl rfl rfl ?_
  refine AO.yld _ (Yld.move rfl) rfl rfl rfl ?_
  refine AO.yld _ (Yld.int rfl rfl rfl) rfl rfl rfl ?_
  refine AO.yld _ (Yld.move rfl) rfl rfl rfl ?_
  refine AO.splitAt 10 _ rfl (fun s10 => ?_) (fun s10 => ?_)
  · -- s10 True
    refine AO.yldG _ (Yld.move rfl) rfl rfl rfl rfl rfl ?_
    refine AO.yldG _ (Yld.move rfl) rfl rfl rfl rfl rfl ?_
    refine AO.yldG _ (Yld.int rfl rfl rfl) rfl rfl rfl rfl rfl ?_
    refine AO.yld _ (Yld.pickT rfl rfl) rfl rfl rfl ?_
    refine AO.yld _ (Yld.assign rfl) rfl rfl rfl ?_
    refine AO.nil ?_
    refine Pure.ret Try.results93 (RVs.cons (RV.tmp rfl) RVs.nil) rfl ?_
    first | rfl | (simp_all; done) | (simp_all; intros; omega) | grind
  · -- s10 False
    refine AO.skipT rfl rfl rfl rfl rfl ?_
    refine AO.skipT rfl rfl rfl rfl rfl ?_
    refine AO.skipT rfl rfl rfl rfl rfl ?_
    refine AO.yld _ (Yld.pickF rfl rfl) rfl rfl rfl ?_
    refine AO.yld _ (Yld.assign rfl) rfl rfl rfl ?_
    refine AO.nil ?_
    refine Pure.ret Try.results93 (RVs.cons (RV.tmp rfl) RVs.nil) rfl ?_
    first | rfl | (simp_all; done) | (simp_all; intros; omega) | grind

theorem spec_l01Small_c {c : Int} :
    Pure Try.prog 125 [.v (.int .u8 c)] (.v (.bool (decide (97 ≤ c) && decide (c ≤ 122)))) := by
  refine Pure.intro Try.func125 rfl Try.ntmps125 rfl rfl (fun w => ?_)
  refine AC.seq ?_
  refine AC.region ?_
  refine AO.yld _ (Yld.assign rfl) rfl rfl rfl ?_
  refine AO.nil ?_
  refine AC.seq ?_
  refine AC.region ?_
  refine AO.yld _ (Yld.move rfl) rfl rfl rfl ?_
  refine AO.yld _ (Yld.int rfl rfl rfl) rfl rfl rfl ?_
  refine AO.yld _ (Yld.move rfl) rfl rfl rfl ?_
  refine AO.splitAt 5 _ rfl (fun s5 => ?_) (fun s5 => ?_)
  · -- s5 True
    refine AO.yldG _ (Yld.move rfl) rfl rfl rfl rfl rfl ?_
    refine AO.yldG _ (Yld.int rfl rfl rfl) rfl rfl rfl rfl rfl ?_
    refine AO.yld _ (Yld.pickT rfl rfl) rfl rfl rfl ?_
    refine AO.yld _ (Yld.assign rfl) rfl rfl rfl ?_
    refine AO.nil ?_
    refine Pure.ret Try.results125 (RVs.cons (RV.tmp rfl) RVs.nil) rfl ?_
    first | rfl | (simp_all; done) | (simp_all; intros; omega) | grind
  · -- s5 False
    refine AO.skipT rfl rfl rfl rfl rfl ?_
    refine AO.skipT rfl rfl rfl rfl rfl ?_
    refine AO.yld _ (Yld.pickF rfl rfl) rfl rfl rfl ?_
    refine AO.yld _ (Yld.assign rfl) rfl rfl rfl ?_
    refine AO.nil ?_
    refine Pure.ret Try.results125 (RVs.cons (RV.tmp rfl) RVs.nil) rfl ?_
    first | rfl | (simp_all; done) | (simp_all; intros; omega) | grind

theorem spec_l01Digit_c {c : Int} :
    Pure Try.prog 126 [.v (.int .u8 c)] (.v (.bool (decide (48 ≤ c) && decide (c ≤ 57)))) := by
  refine Pure.intro Try.func126 rfl Try.ntmps126 rfl rfl (fun w => ?_)
  refine AC.seq ?_
  refine AC.region ?_
  refine AO.yld _ (Yld.assign rfl) rfl rfl rfl ?_
  refine AO.nil ?_
  refine AC.seq ?_
  refine AC.region ?_
  refine AO.yld _ (Yld.move rfl) rfl rfl rfl ?_
  refine AO.yld _ (Yld.int rfl rfl rfl) rfl rfl rfl ?_
  refine AO.yld _ (Yld.move rfl) rfl rfl rfl ?_
  refine AO.splitAt 5 _ rfl (fun s5 => ?_) (fun s5 => ?_)
  · -- s5 True
    refine AO.yldG _ (Yld.move rfl) rfl rfl rfl rfl rfl ?_
    refine AO.yldG _ (Yld.int rfl rfl rfl) rfl rfl rfl rfl rfl ?_
    refine AO.yld _ (Yld.pickT rfl rfl) rfl rfl rfl ?_
    refine AO.yld _ (Yld.assign rfl) rfl rfl rfl ?_
    refine AO.nil ?_
    refine Pure.ret Try.results126 (RVs.cons (RV.tmp rfl) RVs.nil) rfl ?_
    first | rfl | (simp_all; done) | (simp_all; intros; omega) | grind
  · -- s5 False
    refine AO.skipT rfl rfl rfl rfl rfl ?_
    refine AO.skipT rfl rfl rfl rfl rfl ?_
    refine AO.yld _ (Yld.pickF rfl rfl) rfl rfl rfl ?_
    refine AO.yld _ (Yld.assign rfl) rfl rfl rfl ?_
    refine AO.nil ?_
    refine Pure.ret Try.results126 (RVs.cons (RV.tmp rfl) RVs.nil) rfl ?_
    first | rfl | (simp_all; done) | (simp_all; intros; omega) | grind

theorem spec_l01Name_c {l : List UInt8} (hn : l.length ≤ 1048576) :
    Pure Try.prog 109 [.v (str l)] (.v (.bool (isName l))) := by
  refine Pure.intro Try.func109 rfl Try.ntmps109 rfl rfl (fun w => ?_)
  refine AC.seq ?_
  refine AC.region ?_
  refine AO.yld _ (Yld.assign rfl) rfl rfl rfl ?_
  refine AO.nil ?_
  refine AC.seq ?_
  refine AC.seq ?_
  refine AC.region ?_
  refine AO.yld _ (Yld.move rfl) rfl rfl rfl ?_
  refine AO.yld _ (Yld.cmpStr rfl rfl rfl) rfl rfl rfl ?_
  refine AO.yld _ (Yld.move rfl) rfl rfl rfl ?_
  refine AO.splitAt 6 _ rfl (fun s6 => ?_) (fun s6 => ?_)
  · -- s6 True
    refine AO.skipF rfl rfl rfl rfl rfl ?_
    refine AO.skipF rfl rfl rfl rfl rfl ?_
    refine AO.skipF rfl rfl rfl rfl rfl ?_
    refine AO.yld _ (Yld.pickT rfl rfl) rfl rfl rfl ?_
    refine AO.yld _ (Yld.move rfl) rfl rfl rfl ?_
    refine AO.skipF rfl rfl rfl rfl rfl ?_
    refine AO.skipF rfl rfl rfl rfl rfl ?_
    refine AO.skipF rfl rfl rfl rfl rfl ?_
    refine AO.skipF rfl rfl rfl rfl rfl ?_
    refine AO.yld _ (Yld.pickT rfl rfl) rfl rfl rfl ?_
    refine AO.nil ?_
    refine AC.condT rfl ?_
    refine AC.seq ?_
    refine AC.region ?_
    refine AO.yld _ (Yld.assign rfl) rfl rfl rfl ?_
    refine AO.nil ?_
    refine Pure.ret Try.results109 (RVs.cons (RV.tmp rfl) RVs.nil) rfl ?_
    first
      | (exact cb (name_nil (by simpa using s6)))
      | (exact cb (name_long (by simp at s11; omega)))
      | (exact cb (name_first hc (by have h := c16; simp only [decide_eq_true_eq, decide_eq_false_iff_not, Bool.not_eq_true', Bool.not_eq_false', Bool.and_eq_true, Bool.and_eq_false_iff] at h; simp only [lowB, Bool.and_eq_false_iff, decide_eq_false_iff_not]; omega)))
      | (exact cb (name_bad hck (by have h := s28; simp only [decide_eq_true_eq, decide_eq_false_iff_not, Bool.not_eq_true', Bool.not_eq_false', Bool.and_eq_true, Bool.and_eq_false_iff] at h; simp only [lowB, Bool.and_eq_false_iff, decide_eq_false_iff_not]; omega) (by have h := c34; simp only [decide_eq_true_eq, decide_eq_false_iff_not, Bool.not_eq_true', Bool.not_eq_false', Bool.and_eq_true, Bool.and_eq_false_iff] at h; simp only [digB, Bool.and_eq_false_iff, decide_eq_false_iff_not]; omega)))
      | (exact cb (name_ok hc (by have h := c16; simp only [decide_eq_true_eq, decide_eq_false_iff_not, Bool.not_eq_true', Bool.not_eq_false', Bool.and_eq_true, Bool.and_eq_false_iff] at h; simp only [lowB, Bool.and_eq_true, decide_eq_true_eq]; omega) (by simp at s11; omega) hJ.2))
  · -- s6 False
    have hl0 : 0 < l.length := by cases l with | nil => simp at s6 | cons => simp
    refine AO.yldG _ (Yld.move rfl) rfl rfl rfl rfl rfl ?_
    refine AO.yldG _ (Yld.lenStr Try.underlying9 rfl) rfl rfl rfl rfl rfl ?_
    refine AO.yldG _ (Yld.int rfl rfl rfl) rfl rfl rfl rfl rfl ?_
    refine AO.yld _ (Yld.pickF rfl rfl) rfl rfl rfl ?_
    refine AO.yld _ (Yld.move rfl) rfl rfl rfl ?_
    refine AO.splitAt 11 _ rfl (fun s11 => ?_) (fun s11 => ?_)
    · -- s11 True
      refine AO.skipF rfl rfl rfl rfl rfl ?_
      refine AO.skipF rfl rfl rfl rfl rfl ?_
      refine AO.skipF rfl rfl rfl rfl rfl ?_
      refine AO.skipF rfl rfl rfl rfl rfl ?_
      refine AO.yld _ (Yld.pickT rfl rfl) rfl rfl rfl ?_
      refine AO.nil ?_
      refine AC.condT rfl ?_
      refine AC.seq ?_
      refine AC.region ?_
      refine AO.yld _ (Yld.assign rfl) rfl rfl rfl ?_
      refine AO.nil ?_
      refine Pure.ret Try.results109 (RVs.cons (RV.tmp rfl) RVs.nil) rfl ?_
      first
        | (exact cb (name_nil (by simpa using s6)))
        | (exact cb (name_long (by simp at s11; omega)))
        | (exact cb (name_first hc (by have h := c16; simp only [decide_eq_true_eq, decide_eq_false_iff_not, Bool.not_eq_true', Bool.not_eq_false', Bool.and_eq_true, Bool.and_eq_false_iff] at h; simp only [lowB, Bool.and_eq_false_iff, decide_eq_false_iff_not]; omega)))
        | (exact cb (name_bad hck (by have h := s28; simp only [decide_eq_true_eq, decide_eq_false_iff_not, Bool.not_eq_true', Bool.not_eq_false', Bool.and_eq_true, Bool.and_eq_false_iff] at h; simp only [lowB, Bool.and_eq_false_iff, decide_eq_false_iff_not]; omega) (by have h := c34; simp only [decide_eq_true_eq, decide_eq_false_iff_not, Bool.not_eq_true', Bool.not_eq_false', Bool.and_eq_true, Bool.and_eq_false_iff] at h; simp only [digB, Bool.and_eq_false_iff, decide_eq_false_iff_not]; omega)))
        | (exact cb (name_ok hc (by have h := c16; simp only [decide_eq_true_eq, decide_eq_false_iff_not, Bool.not_eq_true', Bool.not_eq_false', Bool.and_eq_true, Bool.and_eq_false_iff] at h; simp only [lowB, Bool.and_eq_true, decide_eq_true_eq]; omega) (by simp at s11; omega) hJ.2))
    · -- s11 False
      obtain ⟨c, hc⟩ := get_some hl0
      refine AO.yldG _ (Yld.move rfl) rfl rfl rfl rfl rfl ?_
      refine AO.yldG _ (Yld.indexStr Try.underlying9 rfl rfl (by omega) hc) rfl rfl rfl rfl rfl ?_
      refine AO.yldG _ (Yld.call rfl rfl Try.call125 rfl rfl rfl (spec_l01Small_c) rfl) rfl rfl rfl rfl rfl ?_
      refine AO.yldG _ (Yld.not rfl) rfl rfl rfl rfl rfl ?_
      refine AO.yld _ (Yld.pickF rfl rfl) rfl rfl rfl ?_
      refine AO.nil ?_
      refine AC.cond _ rfl (fun c16 => ?_) (fun c16 => ?_)
      · -- c16 True
        refine AC.seq ?_
        refine AC.region ?_
        refine AO.yld _ (Yld.assign rfl) rfl rfl rfl ?_
        refine AO.nil ?_
        refine Pure.ret Try.results109 (RVs.cons (RV.tmp rfl) RVs.nil) rfl ?_
        first
          | (exact cb (name_nil (by simpa using s6)))
          | (exact cb (name_long (by simp at s11; omega)))
          | (exact cb (name_first hc (by have h := c16; simp only [decide_eq_true_eq, decide_eq_false_iff_not, Bool.not_eq_true', Bool.not_eq_false', Bool.and_eq_true, Bool.and_eq_false_iff] at h; simp only [lowB, Bool.and_eq_false_iff, decide_eq_false_iff_not]; omega)))
          | (exact cb (name_bad hck (by have h := s28; simp only [decide_eq_true_eq, decide_eq_false_iff_not, Bool.not_eq_true', Bool.not_eq_false', Bool.and_eq_true, Bool.and_eq_false_iff] at h; simp only [lowB, Bool.and_eq_false_iff, decide_eq_false_iff_not]; omega) (by have h := c34; simp only [decide_eq_true_eq, decide_eq_false_iff_not, Bool.not_eq_true', Bool.not_eq_false', Bool.and_eq_true, Bool.and_eq_false_iff] at h; simp only [digB, Bool.and_eq_false_iff, decide_eq_false_iff_not]; omega)))
          | (exact cb (name_ok hc (by have h := c16; simp only [decide_eq_true_eq, decide_eq_false_iff_not, Bool.not_eq_true', Bool.not_eq_false', Bool.and_eq_true, Bool.and_eq_false_iff] at h; simp only [lowB, Bool.and_eq_true, decide_eq_true_eq]; omega) (by simp at s11; omega) hJ.2))
      · -- c16 False
        refine AC.skip ?_
        refine AC.seq ?_
        refine AC.seq ?_
        refine AC.region ?_
        refine AO.yld _ (Yld.assign rfl) rfl rfl rfl ?_
        refine AO.nil ?_
        refine AC.block ?_
        refine AC.loopC [(0, _)] [] (fun (k : Nat) => [(3, .p (.v (.int .i64 (k : Int))))]) (fun (k : Nat) => []) (fun (k : Nat) => k ≤ l.length ∧ nameTo l k = true) (fun (k : Nat) => l.length - k) 0 ⟨rfl, trivial⟩ trivial ⟨rfl, trivial⟩ trivial ?_ (fun k hJ => ?_)
        · exact ⟨Nat.zero_le _, rfl⟩
        · -- round
          refine AC.seq ?_
          refine AC.seq ?_
          refine AC.region ?_
          refine AO.yld _ (Yld.move rfl) rfl rfl rfl ?_
          refine AO.yld _ (Yld.move rfl) rfl rfl rfl ?_
          refine AO.yld _ (Yld.lenStr Try.underlying9 rfl) rfl rfl rfl ?_
          refine AO.yld _ (Yld.int rfl rfl rfl) rfl rfl rfl ?_
          refine AO.nil ?_
          refine AC.cond _ rfl (fun c20 => ?_) (fun c20 => ?_)
          · -- c20 True
            have hk := lt_of_dec c20
            obtain ⟨c2, hck⟩ := get_some hk
            refine AC.skip ?_
            refine AC.seq ?_
            refine AC.block ?_
            refine AC.seq ?_
            refine AC.region ?_
            refine AO.yld _ (Yld.move rfl) rfl rfl rfl ?_
            refine AO.yld _ (Yld.move rfl) rfl rfl rfl ?_
            refine AO.yld _ (Yld.indexStr Try.underlying9 rfl rfl (by omega) hck) rfl rfl rfl ?_
            refine AO.yld _ (Yld.call rfl rfl Try.call125 rfl rfl rfl (spec_l01Small_c) rfl) rfl rfl rfl ?_
            refine AO.yld _ (Yld.not rfl) rfl rfl rfl ?_
            refine AO.yld _ (Yld.move rfl) rfl rfl rfl ?_
            refine AO.splitAt 28 _ rfl (fun s28 => ?_) (fun s28 => ?_)
            · -- s28 True
              refine AO.yldG _ (Yld.move rfl) rfl rfl rfl rfl rfl ?_
              refine AO.yldG _ (Yld.move rfl) rfl rfl rfl rfl rfl ?_
              refine AO.yldG _ (Yld.indexStr Try.underlying9 rfl rfl (by omega) hck) rfl rfl rfl rfl rfl ?_
              refine AO.yldG _ (Yld.call rfl rfl Try.call126 rfl rfl rfl (spec_l01Digit_c) rfl) rfl rfl rfl rfl rfl ?_
              refine AO.yldG _ (Yld.not rfl) rfl rfl rfl rfl rfl ?_
              refine AO.yld _ (Yld.pickT rfl rfl) rfl rfl rfl ?_
              refine AO.nil ?_
              refine AC.cond _ rfl (fun c34 => ?_) (fun c34 => ?_)
              · -- c34 True
                refine AC.seq ?_
                refine AC.region ?_
                refine AO.yld _ (Yld.assign rfl) rfl rfl rfl ?_
                refine AO.nil ?_
                refine Pure.ret Try.results109 (RVs.cons (RV.tmp rfl) RVs.nil) rfl ?_
                first
                  | (exact cb (name_nil (by simpa using s6)))
                  | (exact cb (name_long (by simp at s11; omega)))
                  | (exact cb (name_first hc (by have h := c16; simp only [decide_eq_true_eq, decide_eq_false_iff_not, Bool.not_eq_true', Bool.not_eq_false', Bool.and_eq_true, Bool.and_eq_false_iff] at h; simp only [lowB, Bool.and_eq_false_iff, decide_eq_false_iff_not]; omega)))
                  | (exact cb (name_bad hck (by have h := s28; simp only [decide_eq_true_eq, decide_eq_false_iff_not, Bool.not_eq_true', Bool.not_eq_false', Bool.and_eq_true, Bool.and_eq_false_iff] at h; simp only [lowB, Bool.and_eq_false_iff, decide_eq_false_iff_not]; omega) (by have h := c34; simp only [decide_eq_true_eq, decide_eq_false_iff_not, Bool.not_eq_true', Bool.not_eq_false', Bool.and_eq_true, Bool.and_eq_false_iff] at h; simp only [digB, Bool.and_eq_false_iff, decide_eq_false_iff_not]; omega)))
                  | (exact cb (name_ok hc (by have h := c16; simp only [decide_eq_true_eq, decide_eq_false_iff_not, Bool.not_eq_true', Bool.not_eq_false', Bool.and_eq_true, Bool.and_eq_false_iff] at h; simp only [lowB, Bool.and_eq_true, decide_eq_true_eq]; omega) (by simp at s11; omega) hJ.2))
              · -- c34 False
                refine AC.skip ?_
                refine AC.mark ?_
                refine AC.region ?_
                refine AO.yld _ (Yld.move rfl) rfl rfl rfl ?_
                refine AO.yld _ (Yld.add rfl rfl (by omega) (by omega)) rfl rfl rfl ?_
                refine AO.yld _ (Yld.assign rfl) rfl rfl rfl ?_
                refine AO.nil ?_
                refine AC.back ⟨k + 1, ?_, ?_, ⟨?_, trivial⟩, trivial, ⟨rfl, trivial⟩, trivial⟩
                · exact ⟨hk, by rw [nameTo_succ hck, hJ.2]; first | (have h : lowB c2 = true := (by have h := s28; simp only [decide_eq_true_eq, decide_eq_false_iff_not, Bool.not_eq_true', Bool.not_eq_false', Bool.and_eq_true, Bool.and_eq_false_iff] at h; simp only [lowB, Bool.and_eq_true, decide_eq_true_eq]; omega); simp [h]) | (have h : digB c2 = true := (by have h := c34; simp only [decide_eq_true_eq, decide_eq_false_iff_not, Bool.not_eq_true', Bool.not_eq_false', Bool.and_eq_true, Bool.and_eq_false_iff] at h; simp only [digB, Bool.and_eq_true, decide_eq_true_eq]; omega); simp [h])⟩
                · omega
                · rfl
            · -- s28 False
              refine AO.skipT rfl rfl rfl rfl rfl ?_
              refine AO.skipT rfl rfl rfl rfl rfl ?_
              refine AO.skipT rfl rfl rfl rfl rfl ?_
              refine AO.skipT rfl rfl rfl rfl rfl ?_
              refine AO.skipT rfl rfl rfl rfl rfl ?_
              refine AO.yld _ (Yld.pickF rfl rfl) rfl rfl rfl ?_
              refine AO.nil ?_
              refine AC.condF rfl ?_
              refine AC.skip ?_
              refine AC.mark ?_
              refine AC.region ?_
              refine AO.yld _ (Yld.move rfl) rfl rfl rfl ?_
              refine AO.yld _ (Yld.add rfl rfl (by omega) (by omega)) rfl rfl rfl ?_
              refine AO.yld _ (Yld.assign rfl) rfl rfl rfl ?_
              refine AO.nil ?_
              refine AC.back ⟨k + 1, ?_, ?_, ⟨?_, trivial⟩, trivial, ⟨rfl, trivial⟩, trivial⟩
              · exact ⟨hk, by rw [nameTo_succ hck, hJ.2]; first | (have h : lowB c2 = true := (by have h := s28; simp only [decide_eq_true_eq, decide_eq_false_iff_not, Bool.not_eq_true', Bool.not_eq_false', Bool.and_eq_true, Bool.and_eq_false_iff] at h; simp only [lowB, Bool.and_eq_true, decide_eq_true_eq]; omega); simp [h]) | (have h : digB c2 = true := (by have h := c34; simp only [decide_eq_true_eq, decide_eq_false_iff_not, Bool.not_eq_true', Bool.not_eq_false', Bool.and_eq_true, Bool.and_eq_false_iff] at h; simp only [digB, Bool.and_eq_true, decide_eq_true_eq]; omega); simp [h])⟩
              · omega
              · rfl
          · -- c20 False
            obtain rfl : k = l.length := by have := ge_of_dec c20; omega
            refine AC.exit rfl ?_
            refine AC.seq ?_
            refine AC.region ?_
            refine AO.yld _ (Yld.assign rfl) rfl rfl rfl ?_
            refine AO.nil ?_
            refine Pure.ret Try.results109 (RVs.cons (RV.tmp rfl) RVs.nil) rfl ?_
            first
              | (exact cb (name_nil (by simpa using s6)))
              | (exact cb (name_long (by simp at s11; omega)))
              | (exact cb (name_first hc (by have h := c16; simp only [decide_eq_true_eq, decide_eq_false_iff_not, Bool.not_eq_true', Bool.not_eq_false', Bool.and_eq_true, Bool.and_eq_false_iff] at h; simp only [lowB, Bool.and_eq_false_iff, decide_eq_false_iff_not]; omega)))
              | (exact cb (name_bad hck (by have h := s28; simp only [decide_eq_true_eq, decide_eq_false_iff_not, Bool.not_eq_true', Bool.not_eq_false', Bool.and_eq_true, Bool.and_eq_false_iff] at h; simp only [lowB, Bool.and_eq_false_iff, decide_eq_false_iff_not]; omega) (by have h := c34; simp only [decide_eq_true_eq, decide_eq_false_iff_not, Bool.not_eq_true', Bool.not_eq_false', Bool.and_eq_true, Bool.and_eq_false_iff] at h; simp only [digB, Bool.and_eq_false_iff, decide_eq_false_iff_not]; omega)))
              | (exact cb (name_ok hc (by have h := c16; simp only [decide_eq_true_eq, decide_eq_false_iff_not, Bool.not_eq_true', Bool.not_eq_false', Bool.and_eq_true, Bool.and_eq_false_iff] at h; simp only [lowB, Bool.and_eq_true, decide_eq_true_eq]; omega) (by simp at s11; omega) hJ.2))

theorem impl_IsName_c {l : List UInt8} (hn : l.length ≤ 1048576) :
    Pure Try.prog 95 [.v (str l)] (.v (.bool (isName l))) := by
  refine Pure.intro Try.func95 rfl Try.ntmps95 rfl rfl (fun w => ?_)
  refine AC.seq ?_
  refine AC.region ?_
  refine AO.yld _ (Yld.assign rfl) rfl rfl rfl ?_
  refine AO.nil ?_
  refine AC.seq ?_
  refine AC.seq ?_
  refine AC.region ?_
  refine AO.yld _ (Yld.move rfl) rfl rfl rfl ?_
  refine AO.yld _ (Yld.lenStr Try.underlying9 rfl) rfl rfl rfl ?_
  refine AO.yld _ (Yld.int rfl rfl rfl) rfl rfl rfl ?_
  refine AO.yld _ (Yld.move rfl) rfl rfl rfl ?_
  refine AO.splitAt 7 _ rfl (fun s7 => ?_) (fun s7 => ?_)
  · -- s7 True
    refine AO.skipF rfl rfl rfl rfl rfl ?_
    refine AO.skipF rfl rfl rfl rfl rfl ?_
    refine AO.skipF rfl rfl rfl rfl rfl ?_
    refine AO.yld _ (Yld.pickT rfl rfl) rfl rfl rfl ?_
    refine AO.yld _ (Yld.move rfl) rfl rfl rfl ?_
    refine AO.skipF rfl rfl rfl rfl rfl ?_
    refine AO.skipF rfl rfl rfl rfl rfl ?_
    refine AO.skipF rfl rfl rfl rfl rfl ?_
    refine AO.yld _ (Yld.pickT rfl rfl) rfl rfl rfl ?_
    refine AO.yld _ (Yld.move rfl) rfl rfl rfl ?_
    refine AO.skipF rfl rfl rfl rfl rfl ?_
    refine AO.skipF rfl rfl rfl rfl rfl ?_
    refine AO.skipF rfl rfl rfl rfl rfl ?_
    refine AO.yld _ (Yld.pickT rfl rfl) rfl rfl rfl ?_
    refine AO.nil ?_
    refine AC.condT rfl ?_
    refine AC.seq ?_
    refine AC.region ?_
    refine AO.yld _ (Yld.assign rfl) rfl rfl rfl ?_
    refine AO.nil ?_
    refine Pure.ret Try.results95 (RVs.cons (RV.tmp rfl) RVs.nil) rfl ?_
    first
      | (exact cb (name_nil (by simp at s7; omega)))
      | (exact cb (name_long (by simp at s12; omega)))
      | (exact cb (name_first hc (by have h := s17; simp only [decide_eq_true_eq, decide_eq_false_iff_not, Bool.not_eq_true', Bool.not_eq_false', Bool.and_eq_true, Bool.and_eq_false_iff] at h; simp only [lowB, Bool.and_eq_false_iff, decide_eq_false_iff_not]; omega)))
      | (exact cb (name_first hc (by have h := c21; simp only [decide_eq_true_eq, decide_eq_false_iff_not, Bool.not_eq_true', Bool.not_eq_false', Bool.and_eq_true, Bool.and_eq_false_iff] at h; simp only [lowB, Bool.and_eq_false_iff, decide_eq_false_iff_not]; omega)))
      | (exact cb (name_ok hc (by simp only [lowB, Bool.and_eq_true, decide_eq_true_eq]; simp only [decide_eq_true_eq, decide_eq_false_iff_not, Bool.not_eq_true', Bool.not_eq_false'] at *; omega) (by simp at s12; omega) hJ.2))
      | (exact cb (name_bad hck (by simp only [lowB, Bool.and_eq_false_iff, decide_eq_false_iff_not]; simp only [decide_eq_true_eq, decide_eq_false_iff_not, Bool.not_eq_true'] at *; omega) (by simp only [digB, Bool.and_eq_false_iff, decide_eq_false_iff_not]; simp only [decide_eq_true_eq, decide_eq_false_iff_not, Bool.not_eq_true'] at *; omega)))
  · -- s7 False
    have hl0 : 0 < l.length := by simp at s7; omega
    refine AO.yldG _ (Yld.move rfl) rfl rfl rfl rfl rfl ?_
    refine AO.yldG _ (Yld.lenStr Try.underlying9 rfl) rfl rfl rfl rfl rfl ?_
    refine AO.yldG _ (Yld.int rfl rfl rfl) rfl rfl rfl rfl rfl ?_
    refine AO.yld _ (Yld.pickF rfl rfl) rfl rfl rfl ?_
    refine AO.yld _ (Yld.move rfl) rfl rfl rfl ?_
    refine AO.splitAt 12 _ rfl (fun s12 => ?_) (fun s12 => ?_)
    · -- s12 True
      refine AO.skipF rfl rfl rfl rfl rfl ?_
      refine AO.skipF rfl rfl rfl rfl rfl ?_
      refine AO.skipF rfl rfl rfl rfl rfl ?_
      refine AO.yld _ (Yld.pickT rfl rfl) rfl rfl rfl ?_
      refine AO.yld _ (Yld.move rfl) rfl rfl rfl ?_
      refine AO.skipF rfl rfl rfl rfl rfl ?_
      refine AO.skipF rfl rfl rfl rfl rfl ?_
      refine AO.skipF rfl rfl rfl rfl rfl ?_
      refine AO.yld _ (Yld.pickT rfl rfl) rfl rfl rfl ?_
      refine AO.nil ?_
      refine AC.condT rfl ?_
      refine AC.seq ?_
      refine AC.region ?_
      refine AO.yld _ (Yld.assign rfl) rfl rfl rfl ?_
      refine AO.nil ?_
      refine Pure.ret Try.results95 (RVs.cons (RV.tmp rfl) RVs.nil) rfl ?_
      first
        | (exact cb (name_nil (by simp at s7; omega)))
        | (exact cb (name_long (by simp at s12; omega)))
        | (exact cb (name_first hc (by have h := s17; simp only [decide_eq_true_eq, decide_eq_false_iff_not, Bool.not_eq_true', Bool.not_eq_false', Bool.and_eq_true, Bool.and_eq_false_iff] at h; simp only [lowB, Bool.and_eq_false_iff, decide_eq_false_iff_not]; omega)))
        | (exact cb (name_first hc (by have h := c21; simp only [decide_eq_true_eq, decide_eq_false_iff_not, Bool.not_eq_true', Bool.not_eq_false', Bool.and_eq_true, Bool.and_eq_false_iff] at h; simp only [lowB, Bool.and_eq_false_iff, decide_eq_false_iff_not]; omega)))
        | (exact cb (name_ok hc (by simp only [lowB, Bool.and_eq_true, decide_eq_true_eq]; simp only [decide_eq_true_eq, decide_eq_false_iff_not, Bool.not_eq_true', Bool.not_eq_false'] at *; omega) (by simp at s12; omega) hJ.2))
        | (exact cb (name_bad hck (by simp only [lowB, Bool.and_eq_false_iff, decide_eq_false_iff_not]; simp only [decide_eq_true_eq, decide_eq_false_iff_not, Bool.not_eq_true'] at *; omega) (by simp only [digB, Bool.and_eq_false_iff, decide_eq_false_iff_not]; simp only [decide_eq_true_eq, decide_eq_false_iff_not, Bool.not_eq_true'] at *; omega)))
    · -- s12 False
      obtain ⟨c, hc⟩ := get_some hl0
      refine AO.yldG _ (Yld.move rfl) rfl rfl rfl rfl rfl ?_
      refine AO.yldG _ (Yld.indexStr Try.underlying9 rfl rfl (by omega) hc) rfl rfl rfl rfl rfl ?_
      refine AO.yldG _ (Yld.int rfl rfl rfl) rfl rfl rfl rfl rfl ?_
      refine AO.yld _ (Yld.pickF rfl rfl) rfl rfl rfl ?_
      refine AO.yld _ (Yld.move rfl) rfl rfl rfl ?_
      refine AO.splitAt 17 _ rfl (fun s17 => ?_) (fun s17 => ?_)
      · -- s17 True
        refine AO.skipF rfl rfl rfl rfl rfl ?_
        refine AO.skipF rfl rfl rfl rfl rfl ?_
        refine AO.skipF rfl rfl rfl rfl rfl ?_
        refine AO.yld _ (Yld.pickT rfl rfl) rfl rfl rfl ?_
        refine AO.nil ?_
        refine AC.condT rfl ?_
        refine AC.seq ?_
        refine AC.region ?_
        refine AO.yld _ (Yld.assign rfl) rfl rfl rfl ?_
        refine AO.nil ?_
        refine Pure.ret Try.results95 (RVs.cons (RV.tmp rfl) RVs.nil) rfl ?_
        first
          | (exact cb (name_nil (by simp at s7; omega)))
          | (exact cb (name_long (by simp at s12; omega)))
          | (exact cb (name_first hc (by have h := s17; simp only [decide_eq_true_eq, decide_eq_false_iff_not, Bool.not_eq_true', Bool.not_eq_false', Bool.and_eq_true, Bool.and_eq_false_iff] at h; simp only [lowB, Bool.and_eq_false_iff, decide_eq_false_iff_not]; omega)))
          | (exact cb (name_first hc (by have h := c21; simp only [decide_eq_true_eq, decide_eq_false_iff_not, Bool.not_eq_true', Bool.not_eq_false', Bool.and_eq_true, Bool.and_eq_false_iff] at h; simp only [lowB, Bool.and_eq_false_iff, decide_eq_false_iff_not]; omega)))
          | (exact cb (name_ok hc (by simp only [lowB, Bool.and_eq_true, decide_eq_true_eq]; simp only [decide_eq_true_eq, decide_eq_false_iff_not, Bool.not_eq_true', Bool.not_eq_false'] at *; omega) (by simp at s12; omega) hJ.2))
          | (exact cb (name_bad hck (by simp only [lowB, Bool.and_eq_false_iff, decide_eq_false_iff_not]; simp only [decide_eq_true_eq, decide_eq_false_iff_not, Bool.not_eq_true'] at *; omega) (by simp only [digB, Bool.and_eq_false_iff, decide_eq_false_iff_not]; simp only [decide_eq_true_eq, decide_eq_false_iff_not, Bool.not_eq_true'] at *; omega)))
      · -- s17 False
        refine AO.yldG _ (Yld.move rfl) rfl rfl rfl rfl rfl ?_
        refine AO.yldG _ (Yld.indexStr Try.underlying9 rfl rfl (by omega) hc) rfl rfl rfl rfl rfl ?_
        refine AO.yldG _ (Yld.int rfl rfl rfl) rfl rfl rfl rfl rfl ?_
        refine AO.yld _ (Yld.pickF rfl rfl) rfl rfl rfl ?_
        refine AO.nil ?_
        refine AC.cond _ rfl (fun c21 => ?_) (fun c21 => ?_)
        · -- c21 True
          refine AC.seq ?_
          refine AC.region ?_
          refine AO.yld _ (Yld.assign rfl) rfl rfl rfl ?_
          refine AO.nil ?_
          refine Pure.ret Try.results95 (RVs.cons (RV.tmp rfl) RVs.nil) rfl ?_
          first
            | (exact cb (name_nil (by simp at s7; omega)))
            | (exact cb (name_long (by simp at s12; omega)))
            | (exact cb (name_first hc (by have h := s17; simp only [decide_eq_true_eq, decide_eq_false_iff_not, Bool.not_eq_true', Bool.not_eq_false', Bool.and_eq_true, Bool.and_eq_false_iff] at h; simp only [lowB, Bool.and_eq_false_iff, decide_eq_false_iff_not]; omega)))
            | (exact cb (name_first hc (by have h := c21; simp only [decide_eq_true_eq, decide_eq_false_iff_not, Bool.not_eq_true', Bool.not_eq_false', Bool.and_eq_true, Bool.and_eq_false_iff] at h; simp only [lowB, Bool.and_eq_false_iff, decide_eq_false_iff_not]; omega)))
            | (exact cb (name_ok hc (by simp only [lowB, Bool.and_eq_true, decide_eq_true_eq]; simp only [decide_eq_true_eq, decide_eq_false_iff_not, Bool.not_eq_true', Bool.not_eq_false'] at *; omega) (by simp at s12; omega) hJ.2))
            | (exact cb (name_bad hck (by simp only [lowB, Bool.and_eq_false_iff, decide_eq_false_iff_not]; simp only [decide_eq_true_eq, decide_eq_false_iff_not, Bool.not_eq_true'] at *; omega) (by simp only [digB, Bool.and_eq_false_iff, decide_eq_false_iff_not]; simp only [decide_eq_true_eq, decide_eq_false_iff_not, Bool.not_eq_true'] at *; omega)))
        · -- c21 False
          refine AC.skip ?_
          refine AC.seq ?_
          refine AC.seq ?_
          refine AC.region ?_
          refine AO.yld _ (Yld.assign rfl) rfl rfl rfl ?_
          refine AO.nil ?_
          refine AC.block ?_
          refine AC.loopC [(0, _)] [] (fun (k : Nat) => [(3, .p (.v (.int .i64 (k : Int))))]) (fun (k : Nat) => []) (fun (k : Nat) => k ≤ l.length ∧ nameTo l k = true) (fun (k : Nat) => l.length - k) 0 ⟨rfl, trivial⟩ trivial ⟨rfl, trivial⟩ trivial ?_ (fun k hJ => ?_)
          · exact ⟨Nat.zero_le _, rfl⟩
          · -- round
            refine AC.seq ?_
            refine AC.seq ?_
            refine AC.region ?_
            refine AO.yld _ (Yld.move rfl) rfl rfl rfl ?_
            refine AO.yld _ (Yld.move rfl) rfl rfl rfl ?_
            refine AO.yld _ (Yld.lenStr Try.underlying9 rfl) rfl rfl rfl ?_
            refine AO.yld _ (Yld.int rfl rfl rfl) rfl rfl rfl ?_
            refine AO.nil ?_
            refine AC.cond _ rfl (fun c25 => ?_) (fun c25 => ?_)
            · -- c25 True
              have hk := lt_of_dec c25
              obtain ⟨c2, hck⟩ := get_some hk
              refine AC.skip ?_
              refine AC.seq ?_
              refine AC.block ?_
              refine AC.seq ?_
              refine AC.region ?_
              refine AO.yld _ (Yld.move rfl) rfl rfl rfl ?_
              refine AO.yld _ (Yld.move rfl) rfl rfl rfl ?_
              refine AO.yld _ (Yld.indexStr Try.underlying9 rfl rfl (by omega) hck) rfl rfl rfl ?_
              refine AO.yld _ (Yld.int rfl rfl rfl) rfl rfl rfl ?_
              refine AO.yld _ (Yld.move rfl) rfl rfl rfl ?_
              refine AO.splitAt 32 _ rfl (fun s32 => ?_) (fun s32 => ?_)
              · -- s32 True
                refine AO.yldG _ (Yld.move rfl) rfl rfl rfl rfl rfl ?_
                refine AO.yldG _ (Yld.move rfl) rfl rfl rfl rfl rfl ?_
                refine AO.yldG _ (Yld.indexStr Try.underlying9 rfl rfl (by omega) hck) rfl rfl rfl rfl rfl ?_
                refine AO.yldG _ (Yld.int rfl rfl rfl) rfl rfl rfl rfl rfl ?_
                refine AO.yld _ (Yld.pickT rfl rfl) rfl rfl rfl ?_
                refine AO.yld _ (Yld.move rfl) rfl rfl rfl ?_
                refine AO.splitAt 38 _ rfl (fun s38 => ?_) (fun s38 => ?_)
                · -- s38 True
                  refine AO.skipF rfl rfl rfl rfl rfl ?_
                  refine AO.skipF rfl rfl rfl rfl rfl ?_
                  refine AO.skipF rfl rfl rfl rfl rfl ?_
                  refine AO.skipF rfl rfl rfl rfl rfl ?_
                  refine AO.skipF rfl rfl rfl rfl rfl ?_
                  refine AO.skipU rfl rfl rfl rfl rfl ?_
                  refine AO.skipU rfl rfl rfl rfl rfl ?_
                  refine AO.skipU rfl rfl rfl rfl rfl ?_
                  refine AO.skipU rfl rfl rfl rfl rfl ?_
                  refine AO.skipF rfl rfl rfl rfl rfl ?_
                  refine AO.yld _ (Yld.pickT rfl rfl) rfl rfl rfl ?_
                  refine AO.yld _ (Yld.not rfl) rfl rfl rfl ?_
                  refine AO.nil ?_
                  refine AC.condF rfl ?_
                  refine AC.skip ?_
                  refine AC.mark ?_
                  refine AC.region ?_
                  refine AO.yld _ (Yld.move rfl) rfl rfl rfl ?_
                  refine AO.yld _ (Yld.add rfl rfl (by omega) (by omega)) rfl rfl rfl ?_
                  refine AO.yld _ (Yld.assign rfl) rfl rfl rfl ?_
                  refine AO.nil ?_
                  refine AC.back ⟨k + 1, ?_, ?_, ⟨?_, trivial⟩, trivial, ⟨rfl, trivial⟩, trivial⟩
                  · exact ⟨hk, by rw [nameTo_succ hck, hJ.2]; first | (have h : lowB c2 = true := (by simp only [lowB, Bool.and_eq_true, decide_eq_true_eq]; simp only [decide_eq_true_eq, decide_eq_false_iff_not, Bool.not_eq_true', Bool.not_eq_false'] at *; omega); simp [h]) | (have h : digB c2 = true := (by simp only [digB, Bool.and_eq_true, decide_eq_true_eq]; simp only [decide_eq_true_eq, decide_eq_false_iff_not, Bool.not_eq_true', Bool.not_eq_false'] at *; omega); simp [h])⟩
                  · omega
                  · rfl
                · -- s38 False
                  refine AO.yldG _ (Yld.move rfl) rfl rfl rfl rfl rfl ?_
                  refine AO.yldG _ (Yld.move rfl) rfl rfl rfl rfl rfl ?_
                  refine AO.yldG _ (Yld.indexStr Try.underlying9 rfl rfl (by omega) hck) rfl rfl rfl rfl rfl ?_
                  refine AO.yldG _ (Yld.int rfl rfl rfl) rfl rfl rfl rfl rfl ?_
                  refine AO.yldG _ (Yld.move rfl) rfl rfl rfl rfl rfl ?_
                  refine AO.splitAt 43 _ rfl (fun s43 => ?_) (fun s43 => ?_)
                  · -- s43 True
                    refine AO.yldG _ (Yld.move rfl) rfl rfl rfl rfl rfl ?_
                    refine AO.yldG _ (Yld.move rfl) rfl rfl rfl rfl rfl ?_
                    refine AO.yldG _ (Yld.indexStr Try.underlying9 rfl rfl (by omega) hck) rfl rfl rfl rfl rfl ?_
                    refine AO.yldG _ (Yld.int rfl rfl rfl) rfl rfl rfl rfl rfl ?_
                    refine AO.yldG _ (Yld.pickT rfl rfl) rfl rfl rfl rfl rfl ?_
                    refine AO.yld _ (Yld.pickF rfl rfl) rfl rfl rfl ?_
                    refine AO.yld _ (Yld.not rfl) rfl rfl rfl ?_
                    refine AO.nil ?_
                    refine AC.cond _ rfl (fun c50 => ?_) (fun c50 => ?_)
                    · -- c50 True
                      refine AC.seq ?_
                      refine AC.region ?_
                      refine AO.yld _ (Yld.assign rfl) rfl rfl rfl ?_
                      refine AO.nil ?_
                      refine Pure.ret Try.results95 (RVs.cons (RV.tmp rfl) RVs.nil) rfl ?_
                      first
                        | (exact cb (name_nil (by simp at s7; omega)))
                        | (exact cb (name_long (by simp at s12; omega)))
                        | (exact cb (name_first hc (by have h := s17; simp only [decide_eq_true_eq, decide_eq_false_iff_not, Bool.not_eq_true', Bool.not_eq_false', Bool.and_eq_true, Bool.and_eq_false_iff] at h; simp only [lowB, Bool.and_eq_false_iff, decide_eq_false_iff_not]; omega)))
                        | (exact cb (name_first hc (by have h := c21; simp only [decide_eq_true_eq, decide_eq_false_iff_not, Bool.not_eq_true', Bool.not_eq_false', Bool.and_eq_true, Bool.and_eq_false_iff] at h; simp only [lowB, Bool.and_eq_false_iff, decide_eq_false_iff_not]; omega)))
                        | (exact cb (name_ok hc (by simp only [lowB, Bool.and_eq_true, decide_eq_true_eq]; simp only [decide_eq_true_eq, decide_eq_false_iff_not, Bool.not_eq_true', Bool.not_eq_false'] at *; omega) (by simp at s12; omega) hJ.2))
                        | (exact cb (name_bad hck (by simp only [lowB, Bool.and_eq_false_iff, decide_eq_false_iff_not]; simp only [decide_eq_true_eq, decide_eq_false_iff_not, Bool.not_eq_true'] at *; omega) (by simp only [digB, Bool.and_eq_false_iff, decide_eq_false_iff_not]; simp only [decide_eq_true_eq, decide_eq_false_iff_not, Bool.not_eq_true'] at *; omega)))
                    · -- c50 False
                      refine AC.skip ?_
                      refine AC.mark ?_
                      refine AC.region ?_
                      refine AO.yld _ (Yld.move rfl) rfl rfl rfl ?_
                      refine AO.yld _ (Yld.add rfl rfl (by omega) (by omega)) rfl rfl rfl ?_
                      refine AO.yld _ (Yld.assign rfl) rfl rfl rfl ?_
                      refine AO.nil ?_
                      refine AC.back ⟨k + 1, ?_, ?_, ⟨?_, trivial⟩, trivial, ⟨rfl, trivial⟩, trivial⟩
                      · exact ⟨hk, by rw [nameTo_succ hck, hJ.2]; first | (have h : lowB c2 = true := (by simp only [lowB, Bool.and_eq_true, decide_eq_true_eq]; simp only [decide_eq_true_eq, decide_eq_false_iff_not, Bool.not_eq_true', Bool.not_eq_false'] at *; omega); simp [h]) | (have h : digB c2 = true := (by simp only [digB, Bool.and_eq_true, decide_eq_true_eq]; simp only [decide_eq_true_eq, decide_eq_false_iff_not, Bool.not_eq_true', Bool.not_eq_false'] at *; omega); simp [h])⟩
                      · omega
                      · rfl
                  · -- s43 False
                    refine AO.skipT rfl rfl rfl rfl rfl ?_
                    refine AO.skipT rfl rfl rfl rfl rfl ?_
                    refine AO.skipT rfl rfl rfl rfl rfl ?_
                    refine AO.skipT rfl rfl rfl rfl rfl ?_
                    refine AO.yldG _ (Yld.pickF rfl rfl) rfl rfl rfl rfl rfl ?_
                    refine AO.yld _ (Yld.pickF rfl rfl) rfl rfl rfl ?_
                    refine AO.yld _ (Yld.not rfl) rfl rfl rfl ?_
                    refine AO.nil ?_
                    refine AC.condT rfl ?_
                    refine AC.seq ?_
                    refine AC.region ?_
                    refine AO.yld _ (Yld.assign rfl) rfl rfl rfl ?_
                    refine AO.nil ?_
                    refine Pure.ret Try.results95 (RVs.cons (RV.tmp rfl) RVs.nil) rfl ?_
                    first
                      | (exact cb (name_nil (by simp at s7; omega)))
                      | (exact cb (name_long (by simp at s12; omega)))
                      | (exact cb (name_first hc (by have h := s17; simp only [decide_eq_true_eq, decide_eq_false_iff_not, Bool.not_eq_true', Bool.not_eq_false', Bool.and_eq_true, Bool.and_eq_false_iff] at h; simp only [lowB, Bool.and_eq_false_iff, decide_eq_false_iff_not]; omega)))
                      | (exact cb (name_first hc (by have h := c21; simp only [decide_eq_true_eq, decide_eq_false_iff_not, Bool.not_eq_true', Bool.not_eq_false', Bool.and_eq_true, Bool.and_eq_false_iff] at h; simp only [lowB, Bool.and_eq_false_iff, decide_eq_false_iff_not]; omega)))
                      | (exact cb (name_ok hc (by simp only [lowB, Bool.and_eq_true, decide_eq_true_eq]; simp only [decide_eq_true_eq, decide_eq_false_iff_not, Bool.not_eq_true', Bool.not_eq_false'] at *; omega) (by simp at s12; omega) hJ.2))
                      | (exact cb (name_bad hck (by simp only [lowB, Bool.and_eq_false_iff, decide_eq_false_iff_not]; simp only [decide_eq_true_eq, decide_eq_false_iff_not, Bool.not_eq_true'] at *; omega) (by simp only [digB, Bool.and_eq_false_iff, decide_eq_false_iff_not]; simp only [decide_eq_true_eq, decide_eq_false_iff_not, Bool.not_eq_true'] at *; omega)))
              · -- s32 False
                refine AO.skipT rfl rfl rfl rfl rfl ?_
                refine AO.skipT rfl rfl rfl rfl rfl ?_
                refine AO.skipT rfl rfl rfl rfl rfl ?_
                refine AO.skipT rfl rfl rfl rfl rfl ?_
                refine AO.yld _ (Yld.pickF rfl rfl) rfl rfl rfl ?_
                refine AO.yld _ (Yld.move rfl) rfl rfl rfl ?_
                refine AO.yldG _ (Yld.move rfl) rfl rfl rfl rfl rfl ?_
                refine AO.yldG _ (Yld.move rfl) rfl rfl rfl rfl rfl ?_
                refine AO.yldG _ (Yld.indexStr Try.underlying9 rfl rfl (by omega) hck) rfl rfl rfl rfl rfl ?_
                refine AO.yldG _ (Yld.int rfl rfl rfl) rfl rfl rfl rfl rfl ?_
                refine AO.yldG _ (Yld.move rfl) rfl rfl rfl rfl rfl ?_
                refine AO.splitAt 43 _ rfl (fun s43 => ?_) (fun s43 => ?_)
                · -- s43 True
                  refine AO.yldG _ (Yld.move rfl) rfl rfl rfl rfl rfl ?_
                  refine AO.yldG _ (Yld.move rfl) rfl rfl rfl rfl rfl ?_
                  refine AO.yldG _ (Yld.indexStr Try.underlying9 rfl rfl (by omega) hck) rfl rfl rfl rfl rfl ?_
                  refine AO.yldG _ (Yld.int rfl rfl rfl) rfl rfl rfl rfl rfl ?_
                  refine AO.yldG _ (Yld.pickT rfl rfl) rfl rfl rfl rfl rfl ?_
                  refine AO.yld _ (Yld.pickF rfl rfl) rfl rfl rfl ?_
                  refine AO.yld _ (Yld.not rfl) rfl rfl rfl ?_
                  refine AO.nil ?_
                  refine AC.cond _ rfl (fun c50 => ?_) (fun c50 => ?_)
                  · -- c50 True
                    refine AC.seq ?_
                    refine AC.region ?_
                    refine AO.yld _ (Yld.assign rfl) rfl rfl rfl ?_
                    refine AO.nil ?_
                    refine Pure.ret Try.results95 (RVs.cons (RV.tmp rfl) RVs.nil) rfl ?_
                    first
                      | (exact cb (name_nil (by simp at s7; omega)))
                      | (exact cb (name_long (by simp at s12; omega)))
                      | (exact cb (name_first hc (by have h := s17; simp only [decide_eq_true_eq, decide_eq_false_iff_not, Bool.not_eq_true', Bool.not_eq_false', Bool.and_eq_true, Bool.and_eq_false_iff] at h; simp only [lowB, Bool.and_eq_false_iff, decide_eq_false_iff_not]; omega)))
                      | (exact cb (name_first hc (by have h := c21; simp only [decide_eq_true_eq, decide_eq_false_iff_not, Bool.not_eq_true', Bool.not_eq_false', Bool.and_eq_true, Bool.and_eq_false_iff] at h; simp only [lowB, Bool.and_eq_false_iff, decide_eq_false_iff_not]; omega)))
                      | (exact cb (name_ok hc (by simp only [lowB, Bool.and_eq_true, decide_eq_true_eq]; simp only [decide_eq_true_eq, decide_eq_false_iff_not, Bool.not_eq_true', Bool.not_eq_false'] at *; omega) (by simp at s12; omega) hJ.2))
                      | (exact cb (name_bad hck (by simp only [lowB, Bool.and_eq_false_iff, decide_eq_false_iff_not]; simp only [decide_eq_true_eq, decide_eq_false_iff_not, Bool.not_eq_true'] at *; omega) (by simp only [digB, Bool.and_eq_false_iff, decide_eq_false_iff_not]; simp only [decide_eq_true_eq, decide_eq_false_iff_not, Bool.not_eq_true'] at *; omega)))
                  · -- c50 False
                    refine AC.skip ?_
                    refine AC.mark ?_
                    refine AC.region ?_
                    refine AO.yld _ (Yld.move rfl) rfl rfl rfl ?_
                    refine AO.yld _ (Yld.add rfl rfl (by omega) (by omega)) rfl rfl rfl ?_
                    refine AO.yld _ (Yld.assign rfl) rfl rfl rfl ?_
                    refine AO.nil ?_
                    refine AC.back ⟨k + 1, ?_, ?_, ⟨?_, trivial⟩, trivial, ⟨rfl, trivial⟩, trivial⟩
                    · exact ⟨hk, by rw [nameTo_succ hck, hJ.2]; first | (have h : lowB c2 = true := (by simp only [lowB, Bool.and_eq_true, decide_eq_true_eq]; simp only [decide_eq_true_eq, decide_eq_false_iff_not, Bool.not_eq_true', Bool.not_eq_false'] at *; omega); simp [h]) | (have h : digB c2 = true := (by simp only [digB, Bool.and_eq_true, decide_eq_true_eq]; simp only [decide_eq_true_eq, decide_eq_false_iff_not, Bool.not_eq_true', Bool.not_eq_false'] at *; omega); simp [h])⟩
                    · omega
                    · rfl
                · -- s43 False
                  refine AO.skipT rfl rfl rfl rfl rfl ?_
                  refine AO.skipT rfl rfl rfl rfl rfl ?_
                  refine AO.skipT rfl rfl rfl rfl rfl ?_
                  refine AO.skipT rfl rfl rfl rfl rfl ?_
                  refine AO.yldG _ (Yld.pickF rfl rfl) rfl rfl rfl rfl rfl ?_
                  refine AO.yld _ (Yld.pickF rfl rfl) rfl rfl rfl ?_
                  refine AO.yld _ (Yld.not rfl) rfl rfl rfl ?_
                  refine AO.nil ?_
                  refine AC.condT rfl ?_
                  refine AC.seq ?_
                  refine AC.region ?_
                  refine AO.yld _ (Yld.assign rfl) rfl rfl rfl ?_
                  refine AO.nil ?_
                  refine Pure.ret Try.results95 (RVs.cons (RV.tmp rfl) RVs.nil) rfl ?_
                  first
                    | (exact cb (name_nil (by simp at s7; omega)))
                    | (exact cb (name_long (by simp at s12; omega)))
                    | (exact cb (name_first hc (by have h := s17; simp only [decide_eq_true_eq, decide_eq_false_iff_not, Bool.not_eq_true', Bool.not_eq_false', Bool.and_eq_true, Bool.and_eq_false_iff] at h; simp only [lowB, Bool.and_eq_false_iff, decide_eq_false_iff_not]; omega)))
                    | (exact cb (name_first hc (by have h := c21; simp only [decide_eq_true_eq, decide_eq_false_iff_not, Bool.not_eq_true', Bool.not_eq_false', Bool.and_eq_true, Bool.and_eq_false_iff] at h; simp only [lowB, Bool.and_eq_false_iff, decide_eq_false_iff_not]; omega)))
                    | (exact cb (name_ok hc (by simp only [lowB, Bool.and_eq_true, decide_eq_true_eq]; simp only [decide_eq_true_eq, decide_eq_false_iff_not, Bool.not_eq_true', Bool.not_eq_false'] at *; omega) (by simp at s12; omega) hJ.2))
                    | (exact cb (name_bad hck (by simp only [lowB, Bool.and_eq_false_iff, decide_eq_false_iff_not]; simp only [decide_eq_true_eq, decide_eq_false_iff_not, Bool.not_eq_true'] at *; omega) (by simp only [digB, Bool.and_eq_false_iff, decide_eq_false_iff_not]; simp only [decide_eq_true_eq, decide_eq_false_iff_not, Bool.not_eq_true'] at *; omega)))
            · -- c25 False
              obtain rfl : k = l.length := by have := ge_of_dec c25; omega
              refine AC.exit rfl ?_
              refine AC.seq ?_
              refine AC.region ?_
              refine AO.yld _ (Yld.assign rfl) rfl rfl rfl ?_
              refine AO.nil ?_
              refine Pure.ret Try.results95 (RVs.cons (RV.tmp rfl) RVs.nil) rfl ?_
              first
                | (exact cb (name_nil (by simp at s7; omega)))
                | (exact cb (name_long (by simp at s12; omega)))
                | (exact cb (name_first hc (by have h := s17; simp only [decide_eq_true_eq, decide_eq_false_iff_not, Bool.not_eq_true', Bool.not_eq_false', Bool.and_eq_true, Bool.and_eq_false_iff] at h; simp only [lowB, Bool.and_eq_false_iff, decide_eq_false_iff_not]; omega)))
                | (exact cb (name_first hc (by have h := c21; simp only [decide_eq_true_eq, decide_eq_false_iff_not, Bool.not_eq_true', Bool.not_eq_false', Bool.and_eq_true, Bool.and_eq_false_iff] at h; simp only [lowB, Bool.and_eq_false_iff, decide_eq_false_iff_not]; omega)))
                | (exact cb (name_ok hc (by simp only [lowB, Bool.and_eq_true, decide_eq_true_eq]; simp only [decide_eq_true_eq, decide_eq_false_iff_not, Bool.not_eq_true', Bool.not_eq_false'] at *; omega) (by simp at s12; omega) hJ.2))
                | (exact cb (name_bad hck (by simp only [lowB, Bool.and_eq_false_iff, decide_eq_false_iff_not]; simp only [decide_eq_true_eq, decide_eq_false_iff_not, Bool.not_eq_true'] at *; omega) (by simp only [digB, Bool.and_eq_false_iff, decide_eq_false_iff_not]; simp only [decide_eq_true_eq, decide_eq_false_iff_not, Bool.not_eq_true'] at *; omega)))

theorem laws_toSetting_c {x : NV} :
    Pure Try.prog 45 [.agg (encNV x)] (.agg (encNV x)) := by
  refine Pure.intro Try.func45 rfl Try.ntmps45 rfl rfl (fun w => ?_)
  refine AC.seq ?_
  refine AC.region ?_
  refine AO.box 0 rfl rfl rfl rfl rfl ?_
  refine AO.alloc 1 Try.zeroValue66 rfl rfl rfl ?_
  refine AO.nil ?_
  refine AC.seq ?_
  refine AC.region ?_
  refine AO.alloc 2 Try.zeroValue66 rfl rfl rfl ?_
  refine AO.nil ?_
  refine AC.seq ?_
  refine AC.region ?_
  refine AO.yld _ (Yld.fieldAddr Try.underlying65 rfl rfl Try.sizeOf9 rfl rfl rfl) rfl rfl rfl ?_
  refine AO.yld _ (Yld.load Try.isAgg9 rfl rfl) rfl rfl rfl ?_
  refine AO.yld _ (Yld.fieldAddr Try.underlying66 rfl rfl Try.sizeOf9 rfl rfl rfl) rfl rfl rfl ?_
  refine AO.store Try.sizeOf9 rfl rfl rfl rfl rfl rfl ?_
  refine AO.nil ?_
  refine AC.seq ?_
  refine AC.region ?_
  refine AO.yld _ (Yld.fieldAddr Try.underlying65 rfl rfl Try.sizeOf2 rfl rfl rfl) rfl rfl rfl ?_
  refine AO.yld _ (Yld.load Try.isAgg2 rfl rfl) rfl rfl rfl ?_
  refine AO.yld _ (Yld.fieldAddr Try.underlying66 rfl rfl Try.sizeOf2 rfl rfl rfl) rfl rfl rfl ?_
  refine AO.store Try.sizeOf2 rfl rfl rfl rfl rfl rfl ?_
  refine AO.nil ?_
  refine AC.seq ?_
  refine AC.region ?_
  refine AO.yld _ (Yld.loadAgg Try.isAgg66 Try.sizeOf66 rfl rfl rfl rfl) rfl rfl rfl ?_
  refine AO.store Try.sizeOf66 rfl rfl rfl rfl rfl rfl ?_
  refine AO.nil ?_
  refine Pure.ret Try.results45 (RVs.cons (RV.cell Try.isAgg66 Try.sizeOf66 rfl rfl rfl rfl) RVs.nil) rfl ?_
  first | rfl | (simp_all; done) | (simp_all; intros; omega) | grind

theorem laws_toSettingS_c {xs : List NV} (hn : xs.length ≤ 1048576) :
    Mk Try.prog 10 [.sl 2 (xs.map encNV)] (.h 0) 66 2 (xs.map encNV) := by
  have hM : (xs.map encNV).length = xs.length := List.length_map ..
  refine Mk.intro Try.func10 rfl Try.ntmps10 rfl rfl (fun w => ?_)
  refine AC.seq ?_
  refine AC.region ?_
  refine AO.yld _ (Yld.assign rfl) rfl rfl rfl ?_
  refine AO.nil ?_
  refine AC.seq ?_
  refine AC.region ?_
  refine AO.yld _ (Yld.move rfl) rfl rfl rfl ?_
  refine AO.yld _ (Yld.len Try.underlying22 rfl rfl) rfl rfl rfl ?_
  refine AO.make 0 Try.underlying24 ty66 rfl rfl rfl rfl rfl (Nat.le_refl _) (by rw [hM]; omega) (by rw [hM]; omega) rfl rfl ?_
  refine AO.yld _ (Yld.assign rfl) rfl rfl rfl ?_
  refine AO.nil ?_
  refine AC.seq ?_
  refine AC.seq ?_
  refine AC.region ?_
  refine AO.yld _ (Yld.assign rfl) rfl rfl rfl ?_
  refine AO.nil ?_
  refine AC.block ?_
  refine AC.loopC [(0, _), (2, _), (3, _)] [] (fun (k : Nat) => [(4, .p (.v (.int .i64 (k : Int))))]) (fun (k : Nat) => [(0, .vec 66 2 (filled encNV [.v (.string ⟨#[]⟩), .v (.int .i64 0)] xs k))]) (fun (k : Nat) => k ≤ xs.length) (fun (k : Nat) => xs.length - k) 0 ⟨rfl, rfl, rfl, trivial⟩ trivial ⟨rfl, trivial⟩ ⟨by rw [filled_zero, ← hM]; rfl, trivial⟩ ?_ (fun k hJ => ?_)
  · simp
  · -- round
    refine AC.seq ?_
    refine AC.seq ?_
    refine AC.region ?_
    refine AO.yld _ (Yld.move rfl) rfl rfl rfl ?_
    refine AO.yld _ (Yld.move rfl) rfl rfl rfl ?_
    refine AO.yld _ (Yld.len Try.underlying22 rfl rfl) rfl rfl rfl ?_
    refine AO.yld _ (Yld.int rfl rfl rfl) rfl rfl rfl ?_
    refine AO.nil ?_
    refine AC.cond _ rfl (fun c11 => ?_) (fun c11 => ?_)
    · -- c11 True
      have hk := lt_of_decM c11
      obtain ⟨x, hx⟩ := get_some hk
      have hrow := map_row (enc := encNV) hx
      refine AC.skip ?_
      refine AC.seq ?_
      refine AC.block ?_
      refine AC.region ?_
      refine AO.yld _ (Yld.move rfl) rfl rfl rfl ?_
      refine AO.yld _ (Yld.move rfl) rfl rfl rfl ?_
      refine AO.yld _ (Yld.move rfl) rfl rfl rfl ?_
      refine AO.yld _ (Yld.move rfl) rfl rfl rfl ?_
      refine AO.yld _ (Yld.indexSl Try.underlying22 Try.sizeOf65 rfl rfl hrow rfl) rfl rfl rfl ?_
      refine AO.yld _ (Yld.loadAgg Try.isAgg65 Try.sizeOf65 rfl rfl rfl rfl) rfl rfl rfl ?_
      refine AO.yld _ (Yld.call rfl rfl Try.call45 rfl rfl rfl (laws_toSetting_c) rfl) rfl rfl rfl ?_
      refine AO.yld _ (Yld.indexVec Try.underlying24 Try.sizeOf66 rfl rfl rfl rfl (by rw [filled_length (by omega)]; exact hk)) rfl rfl rfl ?_
      refine AO.store Try.sizeOf66 rfl rfl rfl rfl rfl (store_el rfl (filled_get hk) rfl rfl) ?_
      refine AO.nil ?_
      refine AC.mark ?_
      refine AC.region ?_
      refine AO.yld _ (Yld.move rfl) rfl rfl rfl ?_
      refine AO.yld _ (Yld.add rfl rfl (by omega) (by omega)) rfl rfl rfl ?_
      refine AO.yld _ (Yld.assign rfl) rfl rfl rfl ?_
      refine AO.nil ?_
      refine AC.back ⟨k + 1, ?_, ?_, ⟨?_, trivial⟩, ⟨?_, trivial⟩, ⟨rfl, rfl, rfl, trivial⟩, trivial⟩
      · omega
      · omega
      · rfl
      · rw [← filled_set hx]; rfl
    · -- c11 False
      obtain rfl : k = xs.length := by have := ge_of_decM c11; omega
      refine AC.exit rfl ?_
      refine AC.seq ?_
      refine AC.region ?_
      refine AO.yld _ (Yld.move rfl) rfl rfl rfl ?_
      refine AO.yld _ (Yld.assign rfl) rfl rfl rfl ?_
      refine AO.nil ?_
      refine Mk.ret 0 Try.results10 (RVs.cons (RV.tmp rfl) RVs.nil) rfl rfl ?_
      exact filled_end

theorem laws_eqSetting_c {x y : NV} :
    Pure Try.prog 48 [.agg (encNV x), .agg (encNV y)] (.v (.bool (decide (x = y)))) := by
  refine Pure.intro Try.func48 rfl Try.ntmps48 rfl rfl (fun w => ?_)
  refine AC.seq ?_
  refine AC.region ?_
  refine AO.box 0 rfl rfl rfl rfl rfl ?_
  refine AO.box 1 rfl rfl rfl rfl rfl ?_
  refine AO.yld _ (Yld.assign rfl) rfl rfl rfl ?_
  refine AO.nil ?_
  refine AC.seq ?_
  refine AC.seq ?_
  refine AC.region ?_
  refine AO.yld _ (Yld.fieldAddr Try.underlying66 rfl rfl Try.sizeOf9 rfl rfl rfl) rfl rfl rfl ?_
  refine AO.yld _ (Yld.load Try.isAgg9 rfl rfl) rfl rfl rfl ?_
  refine AO.yld _ (Yld.fieldAddr Try.underlying66 rfl rfl Try.sizeOf9 rfl rfl rfl) rfl rfl rfl ?_
  refine AO.yld _ (Yld.load Try.isAgg9 rfl rfl) rfl rfl rfl ?_
  refine AO.yld _ (Yld.cmpStr rfl rfl rfl) rfl rfl rfl ?_
  refine AO.nil ?_
  refine AC.cond _ rfl (fun c9 => ?_) (fun c9 => ?_)
  · -- c9 True
    refine AC.seq ?_
    refine AC.region ?_
    refine AO.yld _ (Yld.assign rfl) rfl rfl rfl ?_
    refine AO.nil ?_
    refine Pure.ret Try.results48 (RVs.cons (RV.tmp rfl) RVs.nil) rfl ?_
    cases x; cases y; simp_all
  · -- c9 False
    refine AC.skip ?_
    refine AC.seq ?_
    refine AC.seq ?_
    refine AC.region ?_
    refine AO.yld _ (Yld.fieldAddr Try.underlying66 rfl rfl Try.sizeOf2 rfl rfl rfl) rfl rfl rfl ?_
    refine AO.yld _ (Yld.load Try.isAgg2 rfl rfl) rfl rfl rfl ?_
    refine AO.yld _ (Yld.fieldAddr Try.underlying66 rfl rfl Try.sizeOf2 rfl rfl rfl) rfl rfl rfl ?_
    refine AO.yld _ (Yld.load Try.isAgg2 rfl rfl) rfl rfl rfl ?_
    refine AO.yld _ (Yld.int rfl rfl rfl) rfl rfl rfl ?_
    refine AO.nil ?_
    refine AC.cond _ rfl (fun c14 => ?_) (fun c14 => ?_)
    · -- c14 True
      refine AC.seq ?_
      refine AC.region ?_
      refine AO.yld _ (Yld.assign rfl) rfl rfl rfl ?_
      refine AO.nil ?_
      refine Pure.ret Try.results48 (RVs.cons (RV.tmp rfl) RVs.nil) rfl ?_
      cases x; cases y; simp_all
    · -- c14 False
      refine AC.skip ?_
      refine AC.seq ?_
      refine AC.region ?_
      refine AO.yld _ (Yld.assign rfl) rfl rfl rfl ?_
      refine AO.nil ?_
      refine Pure.ret Try.results48 (RVs.cons (RV.tmp rfl) RVs.nil) rfl ?_
      cases x; cases y; simp_all

theorem laws_eqSettingS_c {xs ys : List NV} (hn : xs.length ≤ 1048576) :
    Pure Try.prog 12 [.sl 2 (xs.map encNV), .sl 2 (ys.map encNV)] (.v (.bool (decide (xs = ys)))) := by
  refine Pure.intro Try.func12 rfl Try.ntmps12 rfl rfl (fun w => ?_)
  refine AC.seq ?_
  refine AC.region ?_
  refine AO.yld _ (Yld.assign rfl) rfl rfl rfl ?_
  refine AO.nil ?_
  refine AC.seq ?_
  refine AC.seq ?_
  refine AC.region ?_
  refine AO.yld _ (Yld.move rfl) rfl rfl rfl ?_
  refine AO.yld _ (Yld.len Try.underlying24 rfl rfl) rfl rfl rfl ?_
  refine AO.yld _ (Yld.move rfl) rfl rfl rfl ?_
  refine AO.yld _ (Yld.len Try.underlying24 rfl rfl) rfl rfl rfl ?_
  refine AO.yld _ (Yld.int rfl rfl rfl) rfl rfl rfl ?_
  refine AO.nil ?_
  refine AC.cond _ rfl (fun c10 => ?_) (fun c10 => ?_)
  · -- c10 True
    have hl : xs.length ≠ ys.length := by have h := c10; simp only [List.length_map, bne_iff_ne, ne_eq] at h; omega
    refine AC.seq ?_
    refine AC.region ?_
    refine AO.yld _ (Yld.assign rfl) rfl rfl rfl ?_
    refine AO.nil ?_
    refine Pure.ret Try.results12 (RVs.cons (RV.tmp rfl) RVs.nil) rfl ?_
    first
      | (exact congrArg (fun b => PV.v (.bool b)) (decide_eq_false (fun e => hl (congrArg List.length e))).symm)
      | (refine congrArg (fun b => PV.v (.bool b)) (decide_eq_false (fun e => ?_)).symm; subst e; rw [hx] at hy; simp_all)
      | (refine congrArg (fun b => PV.v (.bool b)) (decide_eq_true ?_).symm; have := hJ.2; rw [List.take_of_length_le (Nat.le_refl _), List.take_of_length_le (by omega)] at this; exact this)
  · -- c10 False
    have hl : xs.length = ys.length := by have h := c10; simp only [List.length_map, bne_eq_false_iff_eq] at h; omega
    refine AC.skip ?_
    refine AC.seq ?_
    refine AC.seq ?_
    refine AC.region ?_
    refine AO.yld _ (Yld.assign rfl) rfl rfl rfl ?_
    refine AO.nil ?_
    refine AC.block ?_
    refine AC.loopC [(0, _), (1, _)] [] (fun (k : Nat) => [(5, .p (.v (.int .i64 (k : Int))))]) (fun (k : Nat) => []) (fun (k : Nat) => k ≤ xs.length ∧ xs.take k = ys.take k) (fun (k : Nat) => xs.length - k) 0 ⟨rfl, rfl, trivial⟩ trivial ⟨rfl, trivial⟩ trivial ?_ (fun k hJ => ?_)
    · simp
    · -- round
      refine AC.seq ?_
      refine AC.seq ?_
      refine AC.region ?_
      refine AO.yld _ (Yld.move rfl) rfl rfl rfl ?_
      refine AO.yld _ (Yld.move rfl) rfl rfl rfl ?_
      refine AO.yld _ (Yld.len Try.underlying24 rfl rfl) rfl rfl rfl ?_
      refine AO.yld _ (Yld.int rfl rfl rfl) rfl rfl rfl ?_
      refine AO.nil ?_
      refine AC.cond _ rfl (fun c14 => ?_) (fun c14 => ?_)
      · -- c14 True
        have hk := lt_of_decM c14
        obtain ⟨x, hx⟩ := get_some hk
        have hrow := map_row (enc := encNV) hx
        obtain ⟨y, hy⟩ := get_some (xs := ys) (k := k) (by omega)
        have hrow2 := map_row (enc := encNV) hy
        refine AC.skip ?_
        refine AC.seq ?_
        refine AC.block ?_
        refine AC.seq ?_
        refine AC.draw (by kernel_rfl) (by kernel_rfl) ?_
        refine AO.yld _ (Yld.move rfl) rfl rfl rfl ?_
        refine AO.yld _ (Yld.move rfl) rfl rfl rfl ?_
        refine AO.yld _ (Yld.indexSl Try.underlying24 Try.sizeOf66 rfl rfl hrow rfl) rfl rfl rfl ?_
        refine AO.yld _ (Yld.loadAgg Try.isAgg66 Try.sizeOf66 rfl rfl rfl rfl) rfl rfl rfl ?_
        refine AO.yld _ (Yld.move rfl) rfl rfl rfl ?_
        refine AO.yld _ (Yld.move rfl) rfl rfl rfl ?_
        refine AO.yld _ (Yld.indexSl Try.underlying24 Try.sizeOf66 rfl rfl hrow2 rfl) rfl rfl rfl ?_
        refine AO.yld _ (Yld.loadAgg Try.isAgg66 Try.sizeOf66 rfl rfl rfl rfl) rfl rfl rfl ?_
        refine AO.yld _ (Yld.call rfl rfl Try.call48 rfl rfl rfl (laws_eqSetting_c) rfl) rfl rfl rfl ?_
        refine AO.yld _ (Yld.not rfl) rfl rfl rfl ?_
        refine AO.nil ?_
        refine AC.cond _ rfl (fun c26 => ?_) (fun c26 => ?_)
        · -- c26 True
          refine AC.seq ?_
          refine AC.region ?_
          refine AO.yld _ (Yld.assign rfl) rfl rfl rfl ?_
          refine AO.nil ?_
          refine Pure.ret Try.results12 (RVs.cons (RV.tmp rfl) RVs.nil) rfl ?_
          first
            | (exact congrArg (fun b => PV.v (.bool b)) (decide_eq_false (fun e => hl (congrArg List.length e))).symm)
            | (refine congrArg (fun b => PV.v (.bool b)) (decide_eq_false (fun e => ?_)).symm; subst e; rw [hx] at hy; simp_all)
            | (refine congrArg (fun b => PV.v (.bool b)) (decide_eq_true ?_).symm; have := hJ.2; rw [List.take_of_length_le (Nat.le_refl _), List.take_of_length_le (by omega)] at this; exact this)
        · -- c26 False
          refine AC.skip ?_
          refine AC.mark ?_
          refine AC.region ?_
          refine AO.yld _ (Yld.move rfl) rfl rfl rfl ?_
          refine AO.yld _ (Yld.add rfl rfl (by omega) (by omega)) rfl rfl rfl ?_
          refine AO.yld _ (Yld.assign rfl) rfl rfl rfl ?_
          refine AO.nil ?_
          refine AC.back ⟨k + 1, ?_, ?_, ⟨?_, trivial⟩, trivial, ⟨rfl, rfl, trivial⟩, trivial⟩
          · exact ⟨hk, by rw [take_snoc hx, take_snoc hy, hJ.2, show x = y by simpa using c26]⟩
          · omega
          · rfl
      · -- c14 False
        obtain rfl : k = xs.length := by have := ge_of_decM c14; omega
        refine AC.exit rfl ?_
        refine AC.seq ?_
        refine AC.region ?_
        refine AO.yld _ (Yld.assign rfl) rfl rfl rfl ?_
        refine AO.nil ?_
        refine Pure.ret Try.results12 (RVs.cons (RV.tmp rfl) RVs.nil) rfl ?_
        first
          | (exact congrArg (fun b => PV.v (.bool b)) (decide_eq_false (fun e => hl (congrArg List.length e))).symm)
          | (refine congrArg (fun b => PV.v (.bool b)) (decide_eq_false (fun e => ?_)).symm; subst e; rw [hx] at hy; simp_all)
          | (refine congrArg (fun b => PV.v (.bool b)) (decide_eq_true ?_).symm; have := hJ.2; rw [List.take_of_length_le (Nat.le_refl _), List.take_of_length_le (by omega)] at this; exact this)

theorem laws_szSetting_c {x : NV} {left : Int} (h0 : 0 ≤ left) (h1 : left ≤ 1048576) (hs : x.name.length ≤ 9223372036854775807) :
    Pure Try.prog 42 [.agg (encNV x), .v (.int .i64 left)] (.v (.int .i64 (szOne x.name left))) := by
  refine Pure.intro Try.func42 rfl Try.ntmps42 rfl rfl (fun w => ?_)
  refine AC.seq ?_
  refine AC.region ?_
  refine AO.box 0 rfl rfl rfl rfl rfl ?_
  refine AO.yld _ (Yld.assign rfl) rfl rfl rfl ?_
  refine AO.nil ?_
  refine AC.seq ?_
  refine AC.region ?_
  refine AO.yld _ (Yld.move rfl) rfl rfl rfl ?_
  refine AO.yld _ (Yld.fieldAddr Try.underlying65 rfl rfl Try.sizeOf9 rfl rfl rfl) rfl rfl rfl ?_
  refine AO.yld _ (Yld.load Try.isAgg9 rfl rfl) rfl rfl rfl ?_
  refine AO.yld _ (Yld.lenStr Try.underlying9 rfl) rfl rfl rfl ?_
  refine AO.yld _ (Yld.sub rfl rfl (by omega) (by omega)) rfl rfl rfl ?_
  refine AO.yld _ (Yld.assign rfl) rfl rfl rfl ?_
  refine AO.nil ?_
  refine AC.seq ?_
  refine AC.seq ?_
  refine AC.region ?_
  refine AO.yld _ (Yld.move rfl) rfl rfl rfl ?_
  refine AO.yld _ (Yld.int rfl rfl rfl) rfl rfl rfl ?_
  refine AO.nil ?_
  refine AC.cond _ rfl (fun c11 => ?_) (fun c11 => ?_)
  · -- c11 True
    refine AC.seq ?_
    refine AC.region ?_
    refine AO.yld _ (Yld.assign rfl) rfl rfl rfl ?_
    refine AO.nil ?_
    refine Pure.ret Try.results42 (RVs.cons (RV.tmp rfl) RVs.nil) rfl ?_
    simp only [szOne]; split <;> simp_all <;> omega
  · -- c11 False
    refine AC.skip ?_
    refine AC.seq ?_
    refine AC.region ?_
    refine AO.yld _ (Yld.move rfl) rfl rfl rfl ?_
    refine AO.yld _ (Yld.assign rfl) rfl rfl rfl ?_
    refine AO.nil ?_
    refine Pure.ret Try.results42 (RVs.cons (RV.tmp rfl) RVs.nil) rfl ?_
    simp only [szOne]; split <;> simp_all <;> omega

theorem laws_szSettingS_c {xs : List NV} {left : Int} (h0 : 0 ≤ left) (h1 : left ≤ 1048576) (hn : xs.length ≤ 9223372036854775807) (hs : ∀ x ∈ xs, (x.name).length ≤ 9223372036854775807) :
    Pure Try.prog 8 [.sl 2 (xs.map encNV), .v (.int .i64 left)] (.v (.int .i64 (szAll (NV.name) xs left))) := by
  refine Pure.intro Try.func8 rfl Try.ntmps8 rfl rfl (fun w => ?_)
  refine AC.seq ?_
  refine AC.region ?_
  refine AO.yld _ (Yld.assign rfl) rfl rfl rfl ?_
  refine AO.nil ?_
  refine AC.seq ?_
  refine AC.region ?_
  refine AO.yld _ (Yld.move rfl) rfl rfl rfl ?_
  refine AO.yld _ (Yld.move rfl) rfl rfl rfl ?_
  refine AO.yld _ (Yld.len Try.underlying22 rfl rfl) rfl rfl rfl ?_
  refine AO.yld _ (Yld.sub rfl rfl (by simp only [List.length_map]; omega) (by simp only [List.length_map]; omega)) rfl rfl rfl ?_
  refine AO.yld _ (Yld.assign rfl) rfl rfl rfl ?_
  refine AO.nil ?_
  refine AC.seq ?_
  refine AC.seq ?_
  refine AC.region ?_
  refine AO.yld _ (Yld.move rfl) rfl rfl rfl ?_
  refine AO.yld _ (Yld.int rfl rfl rfl) rfl rfl rfl ?_
  refine AO.nil ?_
  refine AC.cond _ rfl (fun c11 => ?_) (fun c11 => ?_)
  · -- c11 True
    refine AC.seq ?_
    refine AC.region ?_
    refine AO.yld _ (Yld.assign rfl) rfl rfl rfl ?_
    refine AO.nil ?_
    refine Pure.ret Try.results8 (RVs.cons (RV.tmp rfl) RVs.nil) rfl ?_
    first
      | (refine ci ?_; have h := c11; have hl := lens_nonneg (f := (NV.name)) (xs := xs); simp only [List.length_map, decide_eq_true_eq] at h; unfold szAll; rw [if_pos (by omega)])
      | (refine ci ?_; have h := szOne_lt c25; unfold szAll; rw [if_pos (by omega)])
      | (refine ci ?_; rw [lensTo_all] at hJ ⊢; unfold szAll; rw [if_neg (by omega)])
  · -- c11 False
    refine AC.skip ?_
    refine AC.seq ?_
    refine AC.seq ?_
    refine AC.region ?_
    refine AO.yld _ (Yld.assign rfl) rfl rfl rfl ?_
    refine AO.nil ?_
    refine AC.block ?_
    refine AC.loopC [(0, _)] [] (fun (k : Nat) => [(5, .p (.v (.int .i64 (k : Int)))), (1, .p (.v (.int .i64 (left - xs.length - lensTo (NV.name) xs k))))]) (fun (k : Nat) => []) (fun (k : Nat) => k ≤ xs.length ∧ 0 ≤ left - xs.length - lensTo (NV.name) xs k) (fun (k : Nat) => xs.length - k) 0 ⟨rfl, trivial⟩ trivial ⟨rfl, by show some (AV.p (PV.v (Value.int IntKind.i64 _))) = _; simp only [List.length_map, lensTo_zero, Int.sub_zero], trivial⟩ trivial ?_ (fun k hJ => ?_)
    · refine ⟨Nat.zero_le _, ?_⟩; rw [lensTo_zero]; simp only [List.length_map, decide_eq_false_iff_not] at c11; omega
    · -- round
      refine AC.seq ?_
      refine AC.seq ?_
      refine AC.region ?_
      refine AO.yld _ (Yld.move rfl) rfl rfl rfl ?_
      refine AO.yld _ (Yld.move rfl) rfl rfl rfl ?_
      refine AO.yld _ (Yld.len Try.underlying22 rfl rfl) rfl rfl rfl ?_
      refine AO.yld _ (Yld.int rfl rfl rfl) rfl rfl rfl ?_
      refine AO.nil ?_
      refine AC.cond _ rfl (fun c15 => ?_) (fun c15 => ?_)
      · -- c15 True
        have hk := lt_of_decM c15
        obtain ⟨x, hx⟩ := get_some hk
        have hrow := map_row (enc := encNV) hx
        have hsx := hs x (List.mem_of_getElem? hx)
        have hle := lens_ge (f := (NV.name)) (xs := xs) (k + 1)
        rw [lensTo_succ hx] at hle
        have hnn := lensTo_nonneg (f := (NV.name)) (xs := xs) (k := k)
        refine AC.skip ?_
        refine AC.seq ?_
        refine AC.block ?_
        refine AC.seq ?_
        refine AC.region ?_
        refine AO.yld _ (Yld.move rfl) rfl rfl rfl ?_
        refine AO.yld _ (Yld.move rfl) rfl rfl rfl ?_
        refine AO.yld _ (Yld.indexSl Try.underlying22 Try.sizeOf65 rfl rfl hrow rfl) rfl rfl rfl ?_
        refine AO.yld _ (Yld.loadAgg Try.isAgg65 Try.sizeOf65 rfl rfl rfl rfl) rfl rfl rfl ?_
        refine AO.yld _ (Yld.move rfl) rfl rfl rfl ?_
        refine AO.yld _ (Yld.call rfl rfl Try.call42 rfl rfl rfl (laws_szSetting_c (by omega) (by omega) (by first | assumption | omega)) rfl) rfl rfl rfl ?_
        refine AO.yld _ (Yld.assign rfl) rfl rfl rfl ?_
        refine AO.nil ?_
        refine AC.seq ?_
        refine AC.region ?_
        refine AO.yld _ (Yld.move rfl) rfl rfl rfl ?_
        refine AO.yld _ (Yld.int rfl rfl rfl) rfl rfl rfl ?_
        refine AO.nil ?_
        refine AC.cond _ rfl (fun c25 => ?_) (fun c25 => ?_)
        · -- c25 True
          refine AC.seq ?_
          refine AC.region ?_
          refine AO.yld _ (Yld.assign rfl) rfl rfl rfl ?_
          refine AO.nil ?_
          refine Pure.ret Try.results8 (RVs.cons (RV.tmp rfl) RVs.nil) rfl ?_
          first
            | (refine ci ?_; have h := c11; have hl := lens_nonneg (f := (NV.name)) (xs := xs); simp only [List.length_map, decide_eq_true_eq] at h; unfold szAll; rw [if_pos (by omega)])
            | (refine ci ?_; have h := szOne_lt c25; unfold szAll; rw [if_pos (by omega)])
            | (refine ci ?_; rw [lensTo_all] at hJ ⊢; unfold szAll; rw [if_neg (by omega)])
        · -- c25 False
          refine AC.skip ?_
          refine AC.mark ?_
          refine AC.region ?_
          refine AO.yld _ (Yld.move rfl) rfl rfl rfl ?_
          refine AO.yld _ (Yld.add rfl rfl (by omega) (by omega)) rfl rfl rfl ?_
          refine AO.yld _ (Yld.assign rfl) rfl rfl rfl ?_
          refine AO.nil ?_
          refine AC.back ⟨k + 1, ?_, ?_, ⟨?_, ?_, trivial⟩, trivial, ⟨rfl, trivial⟩, trivial⟩
          · refine ⟨hk, ?_⟩; rw [lensTo_succ hx]; have h := szOne_ge c25; omega
          · omega
          · rfl
          · show some (AV.p (PV.v (Value.int IntKind.i64 _))) = _; rw [lensTo_succ hx, (szOne_ge c25).1]; congr 4; omega
      · -- c15 False
        obtain rfl : k = xs.length := by have := ge_of_decM c15; omega
        refine AC.exit rfl ?_
        refine AC.seq ?_
        refine AC.region ?_
        refine AO.yld _ (Yld.move rfl) rfl rfl rfl ?_
        refine AO.yld _ (Yld.assign rfl) rfl rfl rfl ?_
        refine AO.nil ?_
        refine Pure.ret Try.results8 (RVs.cons (RV.tmp rfl) RVs.nil) rfl ?_
        first
          | (refine ci ?_; have h := c11; have hl := lens_nonneg (f := (NV.name)) (xs := xs); simp only [List.length_map, decide_eq_true_eq] at h; unfold szAll; rw [if_pos (by omega)])
          | (refine ci ?_; have h := szOne_lt c25; unfold szAll; rw [if_pos (by omega)])
          | (refine ci ?_; rw [lensTo_all] at hJ ⊢; unfold szAll; rw [if_neg (by omega)])

theorem spec_l27Setting_c {x : NV} (hs : x.name.length ≤ 1048576) :
    Pure Try.prog 86 [.ptr (encNV x)] (.v (.bool (okSetting x))) := by
  refine Pure.intro Try.func86 rfl Try.ntmps86 rfl rfl (fun w => ?_)
  refine AC.seq ?_
  refine AC.region ?_
  refine AO.yld _ (Yld.assign rfl) rfl rfl rfl ?_
  refine AO.nil ?_
  refine AC.seq ?_
  refine AC.region ?_
  refine AO.yld _ (Yld.move rfl) rfl rfl rfl ?_
  refine AO.yld _ (Yld.nilCheck rfl rfl) rfl rfl rfl ?_
  refine AO.yld _ (Yld.fieldAddr Try.underlying66 rfl rfl Try.sizeOf9 rfl rfl rfl) rfl rfl rfl ?_
  refine AO.yld _ (Yld.load Try.isAgg9 rfl rfl) rfl rfl rfl ?_
  refine AO.yld _ (Yld.call rfl rfl Try.call109 rfl rfl rfl (spec_l01Name_c (by first | assumption | omega)) rfl) rfl rfl rfl ?_
  refine AO.yld _ (Yld.move rfl) rfl rfl rfl ?_
  refine AO.splitAt 8 _ rfl (fun s8 => ?_) (fun s8 => ?_)
  · -- s8 True
    refine AO.yldG _ (Yld.move rfl) rfl rfl rfl rfl rfl ?_
    refine AO.yldG _ (Yld.nilCheck rfl rfl) rfl rfl rfl rfl rfl ?_
    refine AO.yldG _ (Yld.fieldAddr Try.underlying66 rfl rfl Try.sizeOf2 rfl rfl rfl) rfl rfl rfl rfl rfl ?_
    refine AO.yldG _ (Yld.load Try.isAgg2 rfl rfl) rfl rfl rfl rfl rfl ?_
    refine AO.yldG _ (Yld.call rfl rfl Try.call93 rfl rfl rfl (spec_l00In_c) rfl) rfl rfl rfl rfl rfl ?_
    refine AO.yld _ (Yld.pickT rfl rfl) rfl rfl rfl ?_
    refine AO.yld _ (Yld.assign rfl) rfl rfl rfl ?_
    refine AO.nil ?_
    refine Pure.ret Try.results86 (RVs.cons (RV.tmp rfl) RVs.nil) rfl ?_
    first | rfl | (simp_all [okSetting]; done) | (simp_all [okSetting]; intros; omega) | grind [okSetting]
  · -- s8 False
    refine AO.skipT rfl rfl rfl rfl rfl ?_
    refine AO.skipT rfl rfl rfl rfl rfl ?_
    refine AO.skipT rfl rfl rfl rfl rfl ?_
    refine AO.skipT rfl rfl rfl rfl rfl ?_
    refine AO.skipT rfl rfl rfl rfl rfl ?_
    refine AO.yld _ (Yld.pickF rfl rfl) rfl rfl rfl ?_
    refine AO.yld _ (Yld.assign rfl) rfl rfl rfl ?_
    refine AO.nil ?_
    refine Pure.ret Try.results86 (RVs.cons (RV.tmp rfl) RVs.nil) rfl ?_
    first | rfl | (simp_all [okSetting]; done) | (simp_all [okSetting]; intros; omega) | grind [okSetting]

theorem impl_validSetting_c {x : NV} (hs : x.name.length ≤ 1048576) :
    Pure Try.prog 58 [.agg (encNV x)] (.v (.bool (okSetting x))) := by
  refine Pure.intro Try.func58 rfl Try.ntmps58 rfl rfl (fun w => ?_)
  refine AC.seq ?_
  refine AC.region ?_
  refine AO.box 0 rfl rfl rfl rfl rfl ?_
  refine AO.yld _ (Yld.assign rfl) rfl rfl rfl ?_
  refine AO.nil ?_
  refine AC.seq ?_
  refine AC.region ?_
  refine AO.yld _ (Yld.fieldAddr Try.underlying66 rfl rfl Try.sizeOf9 rfl rfl rfl) rfl rfl rfl ?_
  refine AO.yld _ (Yld.load Try.isAgg9 rfl rfl) rfl rfl rfl ?_
  refine AO.yld _ (Yld.call rfl rfl Try.call95 rfl rfl rfl (impl_IsName_c (by first | assumption | omega)) rfl) rfl rfl rfl ?_
  refine AO.yld _ (Yld.move rfl) rfl rfl rfl ?_
  refine AO.splitAt 6 _ rfl (fun s6 => ?_) (fun s6 => ?_)
  · -- s6 True
    refine AO.yldG _ (Yld.fieldAddr Try.underlying66 rfl rfl Try.sizeOf2 rfl rfl rfl) rfl rfl rfl rfl rfl ?_
    refine AO.yldG _ (Yld.load Try.isAgg2 rfl rfl) rfl rfl rfl rfl rfl ?_
    refine AO.yldG _ (Yld.call rfl rfl Try.call72 rfl rfl rfl (impl_within_c) rfl) rfl rfl rfl rfl rfl ?_
    refine AO.yld _ (Yld.pickT rfl rfl) rfl rfl rfl ?_
    refine AO.yld _ (Yld.assign rfl) rfl rfl rfl ?_
    refine AO.nil ?_
    refine Pure.ret Try.results58 (RVs.cons (RV.tmp rfl) RVs.nil) rfl ?_
    first | rfl | (simp_all [okSetting]; done) | (simp_all [okSetting]; intros; omega) | grind [okSetting]
  · -- s6 False
    refine AO.skipT rfl rfl rfl rfl rfl ?_
    refine AO.skipT rfl rfl rfl rfl rfl ?_
    refine AO.skipT rfl rfl rfl rfl rfl ?_
    refine AO.yld _ (Yld.pickF rfl rfl) rfl rfl rfl ?_
    refine AO.yld _ (Yld.assign rfl) rfl rfl rfl ?_
    refine AO.nil ?_
    refine Pure.ret Try.results58 (RVs.cons (RV.tmp rfl) RVs.nil) rfl ?_
    first | rfl | (simp_all [okSetting]; done) | (simp_all [okSetting]; intros; omega) | grind [okSetting]

theorem spec_l27State_c {xs : List NV} (hn : xs.length ≤ 1048576) (hs : ∀ x ∈ xs, x.name.length ≤ 1048576) :
    Pure Try.prog 43 [.sl 2 (xs.map encNV)] (.v (.bool (okState xs))) := by
  refine Pure.intro Try.func43 rfl Try.ntmps43 rfl rfl (fun w => ?_)
  refine AC.seq ?_
  refine AC.region ?_
  refine AO.yld _ (Yld.assign rfl) rfl rfl rfl ?_
  refine AO.nil ?_
  refine AC.seq ?_
  refine AC.seq ?_
  refine AC.region ?_
  refine AO.yld _ (Yld.assign rfl) rfl rfl rfl ?_
  refine AO.nil ?_
  refine AC.block ?_
  refine AC.loopC [(0, _)] [] (fun (k : Nat) => [(3, .p (.v (.int .i64 (k : Int))))]) (fun (k : Nat) => []) (fun (k : Nat) => k ≤ xs.length ∧ okTo okSetting geNV xs k = true) (fun (k : Nat) => xs.length - k) 0 ⟨rfl, trivial⟩ trivial ⟨rfl, trivial⟩ trivial ?_ (fun k hJ => ?_)
  · exact ⟨Nat.zero_le _, rfl⟩
  · -- round
    refine AC.seq ?_
    refine AC.seq ?_
    refine AC.region ?_
    refine AO.yld _ (Yld.move rfl) rfl rfl rfl ?_
    refine AO.yld _ (Yld.move rfl) rfl rfl rfl ?_
    refine AO.yld _ (Yld.len Try.underlying24 rfl rfl) rfl rfl rfl ?_
    refine AO.yld _ (Yld.int rfl rfl rfl) rfl rfl rfl ?_
    refine AO.nil ?_
    refine AC.cond _ rfl (fun c7 => ?_) (fun c7 => ?_)
    · -- c7 True
      have hk := lt_of_decM c7
      obtain ⟨x, hx⟩ := get_some hk
      have hrow := map_row (enc := encNV) hx
      have hsx := hs x (List.mem_of_getElem? hx)
      refine AC.skip ?_
      refine AC.seq ?_
      refine AC.block ?_
      refine AC.seq ?_
      refine AC.draw (by kernel_rfl) (by kernel_rfl) ?_
      refine AO.yld _ (Yld.move rfl) rfl rfl rfl ?_
      refine AO.yld _ (Yld.move rfl) rfl rfl rfl ?_
      refine AO.yld _ (Yld.indexSl Try.underlying24 Try.sizeOf66 rfl rfl hrow rfl) rfl rfl rfl ?_
      refine AO.yld _ (Yld.call rfl rfl Try.call86 rfl rfl rfl (spec_l27Setting_c (by first | assumption | omega)) rfl) rfl rfl rfl ?_
      refine AO.yld _ (Yld.not rfl) rfl rfl rfl ?_
      refine AO.yld _ (Yld.move rfl) rfl rfl rfl ?_
      refine AO.splitAt 15 _ rfl (fun s15 => ?_) (fun s15 => ?_)
      · -- s15 True
        refine AO.skipF rfl rfl rfl rfl rfl ?_
        refine AO.skipF rfl rfl rfl rfl rfl ?_
        refine AO.skipF rfl rfl rfl rfl rfl ?_
        refine AO.skipU rfl rfl rfl rfl rfl ?_
        refine AO.skipU rfl rfl rfl rfl rfl ?_
        refine AO.skipU rfl rfl rfl rfl rfl ?_
        refine AO.skipU rfl rfl rfl rfl rfl ?_
        refine AO.skipU rfl rfl rfl rfl rfl ?_
        refine AO.skipU rfl rfl rfl rfl rfl ?_
        refine AO.skipU rfl rfl rfl rfl rfl ?_
        refine AO.skipU rfl rfl rfl rfl rfl ?_
        refine AO.skipU rfl rfl rfl rfl rfl ?_
        refine AO.skipU rfl rfl rfl rfl rfl ?_
        refine AO.skipU rfl rfl rfl rfl rfl ?_
        refine AO.skipU rfl rfl rfl rfl rfl ?_
        refine AO.skipF rfl rfl rfl rfl rfl ?_
        refine AO.yld _ (Yld.pickT rfl rfl) rfl rfl rfl ?_
        refine AO.nil ?_
        refine AC.condT rfl ?_
        refine AC.seq ?_
        refine AC.region ?_
        refine AO.yld _ (Yld.assign rfl) rfl rfl rfl ?_
        refine AO.nil ?_
        refine Pure.ret Try.results43 (RVs.cons (RV.tmp rfl) RVs.nil) rfl ?_
        first
          | (exact cb (by unfold okState; rw [ok_one (one := okSetting) (ge := geNV) hx (by simpa using s15)]; simp))
          | (exact cb (by unfold okState; rw [ok_ge (one := okSetting) (ge := geNV) hx hk0 hy c32]; simp))
          | (exact cb (by rw [okState, ok_all hJ.2]; grind))
          | (exact cb (by unfold okState; grind))
          | (exact cb (by simp_all [okState]))
      · -- s15 False
        refine AO.yldG _ (Yld.move rfl) rfl rfl rfl rfl rfl ?_
        refine AO.yldG _ (Yld.int rfl rfl rfl) rfl rfl rfl rfl rfl ?_
        refine AO.yldG _ (Yld.move rfl) rfl rfl rfl rfl rfl ?_
        refine AO.splitAt 18 _ rfl (fun s18 => ?_) (fun s18 => ?_)
        · -- s18 True
          have hk0 : 0 < k := by simpa using s18
          obtain ⟨y, hy⟩ := get_some (xs := xs) (k := k - 1) (by omega)
          have hrow2 := map_row (enc := encNV) hy
          refine AO.yldG _ (Yld.move rfl) rfl rfl rfl rfl rfl ?_
          refine AO.yldG _ (Yld.move rfl) rfl rfl rfl rfl rfl ?_
          refine AO.yldG _ (Yld.sub rfl rfl (by omega) (by omega)) rfl rfl rfl rfl rfl ?_
          refine AO.yldG _ (Yld.indexSl Try.underlying24 Try.sizeOf66 rfl rfl hrow2 (by omega)) rfl rfl rfl rfl rfl ?_
          refine AO.yldG _ (Yld.fieldAddr Try.underlying66 rfl rfl Try.sizeOf9 rfl rfl rfl) rfl rfl rfl rfl rfl ?_
          refine AO.yldG _ (Yld.load Try.isAgg9 rfl rfl) rfl rfl rfl rfl rfl ?_
          refine AO.yldG _ (Yld.move rfl) rfl rfl rfl rfl rfl ?_
          refine AO.yldG _ (Yld.move rfl) rfl rfl rfl rfl rfl ?_
          refine AO.yldG _ (Yld.indexSl Try.underlying24 Try.sizeOf66 rfl rfl hrow rfl) rfl rfl rfl rfl rfl ?_
          refine AO.yldG _ (Yld.fieldAddr Try.underlying66 rfl rfl Try.sizeOf9 rfl rfl rfl) rfl rfl rfl rfl rfl ?_
          refine AO.yldG _ (Yld.load Try.isAgg9 rfl rfl) rfl rfl rfl rfl rfl ?_
          refine AO.yldG _ (Yld.cmpStr rfl rfl rfl) rfl rfl rfl rfl rfl ?_
          refine AO.yldG _ (Yld.pickT rfl rfl) rfl rfl rfl rfl rfl ?_
          refine AO.yld _ (Yld.pickF rfl rfl) rfl rfl rfl ?_
          refine AO.nil ?_
          refine AC.cond _ rfl (fun c32 => ?_) (fun c32 => ?_)
          · -- c32 True
            refine AC.seq ?_
            refine AC.region ?_
            refine AO.yld _ (Yld.assign rfl) rfl rfl rfl ?_
            refine AO.nil ?_
            refine Pure.ret Try.results43 (RVs.cons (RV.tmp rfl) RVs.nil) rfl ?_
            first
              | (exact cb (by unfold okState; rw [ok_one (one := okSetting) (ge := geNV) hx (by simpa using s15)]; simp))
              | (exact cb (by unfold okState; rw [ok_ge (one := okSetting) (ge := geNV) hx hk0 hy c32]; simp))
              | (exact cb (by rw [okState, ok_all hJ.2]; grind))
              | (exact cb (by unfold okState; grind))
              | (exact cb (by simp_all [okState]))
          · -- c32 False
            refine AC.skip ?_
            refine AC.mark ?_
            refine AC.region ?_
            refine AO.yld _ (Yld.move rfl) rfl rfl rfl ?_
            refine AO.yld _ (Yld.add rfl rfl (by omega) (by omega)) rfl rfl rfl ?_
            refine AO.yld _ (Yld.assign rfl) rfl rfl rfl ?_
            refine AO.nil ?_
            refine AC.back ⟨k + 1, ?_, ?_, ⟨?_, trivial⟩, trivial, ⟨rfl, trivial⟩, trivial⟩
            · exact ⟨hk, by first | exact ok_first hJ.2 hx (by simpa using s15) (by simp at s18; omega) | exact ok_next hJ.2 hx (by simpa using s15) hk0 hy c32⟩
            · omega
            · rfl
        · -- s18 False
          refine AO.skipT rfl rfl rfl rfl rfl ?_
          refine AO.skipT rfl rfl rfl rfl rfl ?_
          refine AO.skipT rfl rfl rfl rfl rfl ?_
          refine AO.skipT rfl rfl rfl rfl rfl ?_
          refine AO.skipT rfl rfl rfl rfl rfl ?_
          refine AO.skipT rfl rfl rfl rfl rfl ?_
          refine AO.skipT rfl rfl rfl rfl rfl ?_
          refine AO.skipT rfl rfl rfl rfl rfl ?_
          refine AO.skipT rfl rfl rfl rfl rfl ?_
          refine AO.skipT rfl rfl rfl rfl rfl ?_
          refine AO.skipT rfl rfl rfl rfl rfl ?_
          refine AO.skipT rfl rfl rfl rfl rfl ?_
          refine AO.yldG _ (Yld.pickF rfl rfl) rfl rfl rfl rfl rfl ?_
          refine AO.yld _ (Yld.pickF rfl rfl) rfl rfl rfl ?_
          refine AO.nil ?_
          refine AC.condF rfl ?_
          refine AC.skip ?_
          refine AC.mark ?_
          refine AC.region ?_
          refine AO.yld _ (Yld.move rfl) rfl rfl rfl ?_
          refine AO.yld _ (Yld.add rfl rfl (by omega) (by omega)) rfl rfl rfl ?_
          refine AO.yld _ (Yld.assign rfl) rfl rfl rfl ?_
          refine AO.nil ?_
          refine AC.back ⟨k + 1, ?_, ?_, ⟨?_, trivial⟩, trivial, ⟨rfl, trivial⟩, trivial⟩
          · exact ⟨hk, by first | exact ok_first hJ.2 hx (by simpa using s15) (by simp at s18; omega) | exact ok_next hJ.2 hx (by simpa using s15) hk0 hy c32⟩
          · omega
          · rfl
    · -- c7 False
      obtain rfl : k = xs.length := by have := ge_of_decM c7; omega
      refine AC.exit rfl ?_
      refine AC.seq ?_
      refine AC.region ?_
      refine AO.yld _ (Yld.move rfl) rfl rfl rfl ?_
      refine AO.yld _ (Yld.len Try.underlying24 rfl rfl) rfl rfl rfl ?_
      refine AO.yld _ (Yld.int rfl rfl rfl) rfl rfl rfl ?_
      refine AO.yld _ (Yld.assign rfl) rfl rfl rfl ?_
      refine AO.nil ?_
      refine Pure.ret Try.results43 (RVs.cons (RV.tmp rfl) RVs.nil) rfl ?_
      first
        | (exact cb (by unfold okState; rw [ok_one (one := okSetting) (ge := geNV) hx (by simpa using s15)]; simp))
        | (exact cb (by unfold okState; rw [ok_ge (one := okSetting) (ge := geNV) hx hk0 hy c32]; simp))
        | (exact cb (by rw [okState, ok_all hJ.2]; grind))
        | (exact cb (by unfold okState; grind))
        | (exact cb (by simp_all [okState]))

theorem impl_ValidState_c {xs : List NV} (hn : xs.length ≤ 1048576) (hs : ∀ x ∈ xs, x.name.length ≤ 1048576) :
    Pure Try.prog 46 [.sl 2 (xs.map encNV)] (.v (.bool (okState xs))) := by
  refine Pure.intro Try.func46 rfl Try.ntmps46 rfl rfl (fun w => ?_)
  refine AC.seq ?_
  refine AC.region ?_
  refine AO.yld _ (Yld.assign rfl) rfl rfl rfl ?_
  refine AO.nil ?_
  refine AC.seq ?_
  refine AC.seq ?_
  refine AC.region ?_
  refine AO.yld _ (Yld.move rfl) rfl rfl rfl ?_
  refine AO.yld _ (Yld.len Try.underlying24 rfl rfl) rfl rfl rfl ?_
  refine AO.yld _ (Yld.int rfl rfl rfl) rfl rfl rfl ?_
  refine AO.nil ?_
  refine AC.cond _ rfl (fun c7 => ?_) (fun c7 => ?_)
  · -- c7 True
    refine AC.seq ?_
    refine AC.region ?_
    refine AO.yld _ (Yld.assign rfl) rfl rfl rfl ?_
    refine AO.nil ?_
    refine Pure.ret Try.results46 (RVs.cons (RV.tmp rfl) RVs.nil) rfl ?_
    first
      | (exact cb (by unfold okState; rw [ok_one (one := okSetting) (ge := geNV) hx (by simpa using s18)]; simp))
      | (exact cb (by unfold okState; rw [ok_ge (one := okSetting) (ge := geNV) hx hk0 hy c32]; simp))
      | (exact cb (by rw [okState, ok_all hJ.2]; grind))
      | (exact cb (by unfold okState; grind))
      | (exact cb (by simp_all [okState]))
  · -- c7 False
    refine AC.skip ?_
    refine AC.seq ?_
    refine AC.seq ?_
    refine AC.region ?_
    refine AO.yld _ (Yld.move rfl) rfl rfl rfl ?_
    refine AO.yld _ (Yld.len Try.underlying24 rfl rfl) rfl rfl rfl ?_
    refine AO.yld _ (Yld.move rfl) rfl rfl rfl ?_
    refine AO.nil ?_
    refine AC.block ?_
    refine AC.loopC [(0, _), (8, _), (9, _)] [] (fun (k : Nat) => [(10, .p (.v (.int .i64 (k : Int))))]) (fun (k : Nat) => []) (fun (k : Nat) => k ≤ xs.length ∧ okTo okSetting geNV xs k = true) (fun (k : Nat) => xs.length - k) 0 ⟨rfl, rfl, rfl, trivial⟩ trivial ⟨rfl, trivial⟩ trivial ?_ (fun k hJ => ?_)
    · exact ⟨Nat.zero_le _, rfl⟩
    · -- round
      refine AC.seq ?_
      refine AC.region ?_
      refine AO.yld _ (Yld.int rfl rfl rfl) rfl rfl rfl ?_
      refine AO.nil ?_
      refine AC.seq ?_
      refine AC.cond _ rfl (fun c11 => ?_) (fun c11 => ?_)
      · -- c11 True
        have hk := lt_of_decM c11
        obtain ⟨x, hx⟩ := get_some hk
        have hrow := map_row (enc := encNV) hx
        have hsx := hs x (List.mem_of_getElem? hx)
        refine AC.skip ?_
        refine AC.seq ?_
        refine AC.block ?_
        refine AC.seq ?_
        refine AC.region ?_
        refine AO.yld _ (Yld.move rfl) rfl rfl rfl ?_
        refine AO.yld _ (Yld.indexSl Try.underlying24 Try.sizeOf66 rfl rfl hrow rfl) rfl rfl rfl ?_
        refine AO.yld _ (Yld.loadAgg Try.isAgg66 Try.sizeOf66 rfl rfl rfl rfl) rfl rfl rfl ?_
        refine AO.alloc 0 Try.zeroValue66 rfl rfl rfl ?_
        refine AO.yld _ (Yld.assign rfl) rfl rfl rfl ?_
        refine AO.store Try.sizeOf66 rfl rfl rfl rfl rfl rfl ?_
        refine AO.nil ?_
        refine AC.seq ?_
        refine AC.draw (by kernel_rfl) (by kernel_rfl) ?_
        refine AO.yld _ (Yld.loadAgg Try.isAgg66 Try.sizeOf66 rfl rfl rfl rfl) rfl rfl rfl ?_
        refine AO.yld _ (Yld.call rfl rfl Try.call58 rfl rfl rfl (impl_validSetting_c (by first | assumption | omega)) rfl) rfl rfl rfl ?_
        refine AO.yld _ (Yld.not rfl) rfl rfl rfl ?_
        refine AO.yld _ (Yld.move rfl) rfl rfl rfl ?_
        refine AO.splitAt 18 _ rfl (fun s18 => ?_) (fun s18 => ?_)
        · -- s18 True
          refine AO.skipF rfl rfl rfl rfl rfl ?_
          refine AO.skipF rfl rfl rfl rfl rfl ?_
          refine AO.skipF rfl rfl rfl rfl rfl ?_
          refine AO.skipU rfl rfl rfl rfl rfl ?_
          refine AO.skipU rfl rfl rfl rfl rfl ?_
          refine AO.skipU rfl rfl rfl rfl rfl ?_
          refine AO.skipU rfl rfl rfl rfl rfl ?_
          refine AO.skipU rfl rfl rfl rfl rfl ?_
          refine AO.skipU rfl rfl rfl rfl rfl ?_
          refine AO.skipU rfl rfl rfl rfl rfl ?_
          refine AO.skipU rfl rfl rfl rfl rfl ?_
          refine AO.skipU rfl rfl rfl rfl rfl ?_
          refine AO.skipF rfl rfl rfl rfl rfl ?_
          refine AO.yld _ (Yld.pickT rfl rfl) rfl rfl rfl ?_
          refine AO.nil ?_
          refine AC.condT rfl ?_
          refine AC.seq ?_
          refine AC.region ?_
          refine AO.yld _ (Yld.assign rfl) rfl rfl rfl ?_
          refine AO.nil ?_
          refine Pure.ret Try.results46 (RVs.cons (RV.tmp rfl) RVs.nil) rfl ?_
          first
            | (exact cb (by unfold okState; rw [ok_one (one := okSetting) (ge := geNV) hx (by simpa using s18)]; simp))
            | (exact cb (by unfold okState; rw [ok_ge (one := okSetting) (ge := geNV) hx hk0 hy c32]; simp))
            | (exact cb (by rw [okState, ok_all hJ.2]; grind))
            | (exact cb (by unfold okState; grind))
            | (exact cb (by simp_all [okState]))
        · -- s18 False
          refine AO.yldG _ (Yld.move rfl) rfl rfl rfl rfl rfl ?_
          refine AO.yldG _ (Yld.int rfl rfl rfl) rfl rfl rfl rfl rfl ?_
          refine AO.yldG _ (Yld.move rfl) rfl rfl rfl rfl rfl ?_
          refine AO.splitAt 21 _ rfl (fun s21 => ?_) (fun s21 => ?_)
          · -- s21 True
            have hk0 : 0 < k := by simpa using s21
            obtain ⟨y, hy⟩ := get_some (xs := xs) (k := k - 1) (by omega)
            have hrow2 := map_row (enc := encNV) hy
            refine AO.yldG _ (Yld.move rfl) rfl rfl rfl rfl rfl ?_
            refine AO.yldG _ (Yld.move rfl) rfl rfl rfl rfl rfl ?_
            refine AO.yldG _ (Yld.sub rfl rfl (by omega) (by omega)) rfl rfl rfl rfl rfl ?_
            refine AO.yldG _ (Yld.indexSl Try.underlying24 Try.sizeOf66 rfl rfl hrow2 (by omega)) rfl rfl rfl rfl rfl ?_
            refine AO.yldG _ (Yld.fieldAddr Try.underlying66 rfl rfl Try.sizeOf9 rfl rfl rfl) rfl rfl rfl rfl rfl ?_
            refine AO.yldG _ (Yld.load Try.isAgg9 rfl rfl) rfl rfl rfl rfl rfl ?_
            refine AO.yldG _ (Yld.fieldAddr Try.underlying66 rfl rfl Try.sizeOf9 rfl rfl rfl) rfl rfl rfl rfl rfl ?_
            refine AO.yldG _ (Yld.load Try.isAgg9 rfl rfl) rfl rfl rfl rfl rfl ?_
            refine AO.yldG _ (Yld.cmpStr rfl rfl rfl) rfl rfl rfl rfl rfl ?_
            refine AO.yldG _ (Yld.pickT rfl rfl) rfl rfl rfl rfl rfl ?_
            refine AO.yld _ (Yld.pickF rfl rfl) rfl rfl rfl ?_
            refine AO.nil ?_
            refine AC.cond _ rfl (fun c32 => ?_) (fun c32 => ?_)
            · -- c32 True
              refine AC.seq ?_
              refine AC.region ?_
              refine AO.yld _ (Yld.assign rfl) rfl rfl rfl ?_
              refine AO.nil ?_
              refine Pure.ret Try.results46 (RVs.cons (RV.tmp rfl) RVs.nil) rfl ?_
              first
                | (exact cb (by unfold okState; rw [ok_one (one := okSetting) (ge := geNV) hx (by simpa using s18)]; simp))
                | (exact cb (by unfold okState; rw [ok_ge (one := okSetting) (ge := geNV) hx hk0 hy c32]; simp))
                | (exact cb (by rw [okState, ok_all hJ.2]; grind))
                | (exact cb (by unfold okState; grind))
                | (exact cb (by simp_all [okState]))
            · -- c32 False
              refine AC.skip ?_
              refine AC.mark ?_
              refine AC.region ?_
              refine AO.yld _ (Yld.add rfl rfl (by omega) (by omega)) rfl rfl rfl ?_
              refine AO.yld _ (Yld.move rfl) rfl rfl rfl ?_
              refine AO.nil ?_
              refine AC.back ⟨k + 1, ?_, ?_, ⟨?_, trivial⟩, trivial, ⟨rfl, rfl, rfl, trivial⟩, trivial⟩
              · exact ⟨hk, by first | exact ok_first hJ.2 hx (by simpa using s18) (by simp at s21; omega) | exact ok_next hJ.2 hx (by simpa using s18) hk0 hy c32⟩
              · omega
              · rfl
          · -- s21 False
            refine AO.skipT rfl rfl rfl rfl rfl ?_
            refine AO.skipT rfl rfl rfl rfl rfl ?_
            refine AO.skipT rfl rfl rfl rfl rfl ?_
            refine AO.skipT rfl rfl rfl rfl rfl ?_
            refine AO.skipT rfl rfl rfl rfl rfl ?_
            refine AO.skipT rfl rfl rfl rfl rfl ?_
            refine AO.skipT rfl rfl rfl rfl rfl ?_
            refine AO.skipT rfl rfl rfl rfl rfl ?_
            refine AO.skipT rfl rfl rfl rfl rfl ?_
            refine AO.yldG _ (Yld.pickF rfl rfl) rfl rfl rfl rfl rfl ?_
            refine AO.yld _ (Yld.pickF rfl rfl) rfl rfl rfl ?_
            refine AO.nil ?_
            refine AC.condF rfl ?_
            refine AC.skip ?_
            refine AC.mark ?_
            refine AC.region ?_
            refine AO.yld _ (Yld.add rfl rfl (by omega) (by omega)) rfl rfl rfl ?_
            refine AO.yld _ (Yld.move rfl) rfl rfl rfl ?_
            refine AO.nil ?_
            refine AC.back ⟨k + 1, ?_, ?_, ⟨?_, trivial⟩, trivial, ⟨rfl, rfl, rfl, trivial⟩, trivial⟩
            · exact ⟨hk, by first | exact ok_first hJ.2 hx (by simpa using s18) (by simp at s21; omega) | exact ok_next hJ.2 hx (by simpa using s18) hk0 hy c32⟩
            · omega
            · rfl
      · -- c11 False
        obtain rfl : k = xs.length := by have := ge_of_decM c11; omega
        refine AC.exit rfl ?_
        refine AC.seq ?_
        refine AC.region ?_
        refine AO.yld _ (Yld.assign rfl) rfl rfl rfl ?_
        refine AO.nil ?_
        refine Pure.ret Try.results46 (RVs.cons (RV.tmp rfl) RVs.nil) rfl ?_
        first
          | (exact cb (by unfold okState; rw [ok_one (one := okSetting) (ge := geNV) hx (by simpa using s18)]; simp))
          | (exact cb (by unfold okState; rw [ok_ge (one := okSetting) (ge := geNV) hx hk0 hy c32]; simp))
          | (exact cb (by rw [okState, ok_all hJ.2]; grind))
          | (exact cb (by unfold okState; grind))
          | (exact cb (by simp_all [okState]))

theorem spec_ValidState_c {xs : List NV} (hn : xs.length ≤ 1048576) (hs : ∀ x ∈ xs, x.name.length ≤ 1048576) :
    Pure Try.prog 30 [.sl 2 (xs.map encNV)] (.v (.bool (okState xs))) := by
  refine Pure.intro Try.func30 rfl Try.ntmps30 rfl rfl (fun w => ?_)
  refine AC.seq ?_
  refine AC.region ?_
  refine AO.yld _ (Yld.assign rfl) rfl rfl rfl ?_
  refine AO.nil ?_
  refine AC.seq ?_
  refine AC.region ?_
  refine AO.yld _ (Yld.move rfl) rfl rfl rfl ?_
  refine AO.yld _ (Yld.call rfl rfl Try.call43 rfl rfl rfl (spec_l27State_c (by first | assumption | omega) (by assumption)) rfl) rfl rfl rfl ?_
  refine AO.yld _ (Yld.assign rfl) rfl rfl rfl ?_
  refine AO.nil ?_
  refine Pure.ret Try.results30 (RVs.cons (RV.tmp rfl) RVs.nil) rfl ?_
  first | rfl | (simp_all; done) | (simp_all; intros; omega) | grind

theorem neSetting {x y : NV} {X Y : Operand} (w : World) : (do eqGuard .neq 66 X Y (.agg [str x.name, .int .i64 x.val].toArray) (.agg [str y.name, .int .i64 y.val].toArray); binOp .neq 66 (.agg [str x.name, .int .i64 x.val].toArray) (.agg [str y.name, .int .i64 y.val].toArray) : Sem Value).run Try.prog w = .ok (.bool (!decide (x = y))) w := by
  have g1 : Try.prog.eqGuardType Try.prog.depth 66 = false := by kernel_rfl
  have g2 : Try.prog.stoodInHeld 66 = false := by kernel_rfl
  have g3 : Try.prog.underlying 66 = some (.struct (Try.prog.fieldsOf 66)) := by kernel_rfl
  have g4 : (Try.prog.fieldsOf 66).toList = [⟨ "Name", 9, 0, false, "", "", 0⟩, ⟨ "Value", 2, 1, false, "", "", 16⟩] := by kernel_rfl
  rw [Sem.run_bind, run_eqGuard_agg _ _ _ _ _ _ _ g1, Result.andThen_ok, run_neq_struct, run_equalIn_struct _ _ _ _ _ g3 g2, g4]
  have e : decide (x = y) = (decide (x.name = y.name) && decide (x.val = y.val)) := by cases x; cases y; simp
  rw [e]
  clear g1 g2 g3 g4 e
  simp [Op.eqFields, go_sem, part, str, Try.sizeOf2, Try.isAgg2, Try.sizeOf9, Try.isAgg9, run_equalIn_int (h := Try.underlying2), run_equalIn_string (h := Try.underlying9)]
  by_cases h0 : x.name = y.name <;> by_cases h1 : x.val = y.val <;> simp_all

theorem spec_l27Same_c {xs ys : List NV} (hn : xs.length ≤ 1048576) :
    Pure Try.prog 69 [.sl 2 (xs.map encNV), .sl 2 (ys.map encNV)] (.v (.bool (decide (xs = ys)))) := by
  refine Pure.intro Try.func69 rfl Try.ntmps69 rfl rfl (fun w => ?_)
  refine AC.seq ?_
  refine AC.region ?_
  refine AO.yld _ (Yld.assign rfl) rfl rfl rfl ?_
  refine AO.nil ?_
  refine AC.seq ?_
  refine AC.seq ?_
  refine AC.region ?_
  refine AO.yld _ (Yld.move rfl) rfl rfl rfl ?_
  refine AO.yld _ (Yld.len Try.underlying24 rfl rfl) rfl rfl rfl ?_
  refine AO.yld _ (Yld.move rfl) rfl rfl rfl ?_
  refine AO.yld _ (Yld.len Try.underlying24 rfl rfl) rfl rfl rfl ?_
  refine AO.yld _ (Yld.int rfl rfl rfl) rfl rfl rfl ?_
  refine AO.nil ?_
  refine AC.cond _ rfl (fun c10 => ?_) (fun c10 => ?_)
  · -- c10 True
    have hl : xs.length ≠ ys.length := by have h := c10; simp only [List.length_map, bne_iff_ne, ne_eq, decide_eq_true_eq] at h; omega
    refine AC.seq ?_
    refine AC.region ?_
    refine AO.yld _ (Yld.assign rfl) rfl rfl rfl ?_
    refine AO.nil ?_
    refine Pure.ret Try.results69 (RVs.cons (RV.tmp rfl) RVs.nil) rfl ?_
    first
      | (exact congrArg (fun b => PV.v (.bool b)) (decide_eq_false (fun e => hl (congrArg List.length e))).symm)
      | (refine congrArg (fun b => PV.v (.bool b)) (decide_eq_false (fun e => ?_)).symm; subst e; rw [hx] at hy; simp_all)
      | (refine congrArg (fun b => PV.v (.bool b)) (decide_eq_true ?_).symm; have := hJ.2; rw [List.take_of_length_le (Nat.le_refl _), List.take_of_length_le (by omega)] at this; exact this)
  · -- c10 False
    have hl : xs.length = ys.length := by have h := c10; simp only [List.length_map, bne_eq_false_iff_eq, decide_eq_false_iff_not, ne_eq, Decidable.not_not] at h; omega
    refine AC.skip ?_
    refine AC.seq ?_
    refine AC.seq ?_
    refine AC.region ?_
    refine AO.yld _ (Yld.assign rfl) rfl rfl rfl ?_
    refine AO.nil ?_
    refine AC.block ?_
    refine AC.loopC [(0, _), (1, _)] [] (fun (k : Nat) => [(5, .p (.v (.int .i64 (k : Int))))]) (fun (k : Nat) => []) (fun (k : Nat) => k ≤ xs.length ∧ xs.take k = ys.take k) (fun (k : Nat) => xs.length - k) 0 ⟨rfl, rfl, trivial⟩ trivial ⟨rfl, trivial⟩ trivial ?_ (fun k hJ => ?_)
    · simp
    · -- round
      refine AC.seq ?_
      refine AC.seq ?_
      refine AC.region ?_
      refine AO.yld _ (Yld.move rfl) rfl rfl rfl ?_
      refine AO.yld _ (Yld.move rfl) rfl rfl rfl ?_
      refine AO.yld _ (Yld.len Try.underlying24 rfl rfl) rfl rfl rfl ?_
      refine AO.yld _ (Yld.int rfl rfl rfl) rfl rfl rfl ?_
      refine AO.nil ?_
      refine AC.cond _ rfl (fun c14 => ?_) (fun c14 => ?_)
      · -- c14 True
        have hk := lt_of_decM c14
        obtain ⟨x, hx⟩ := get_some hk
        have hrow := map_row (enc := encNV) hx
        obtain ⟨y, hy⟩ := get_some (xs := ys) (k := k) (by omega)
        have hrow2 := map_row (enc := encNV) hy
        refine AC.skip ?_
        refine AC.seq ?_
        refine AC.block ?_
        refine AC.seq ?_
        refine AC.draw (by kernel_rfl) (by kernel_rfl) ?_
        refine AO.yld _ (Yld.move rfl) rfl rfl rfl ?_
        refine AO.yld _ (Yld.move rfl) rfl rfl rfl ?_
        refine AO.yld _ (Yld.indexSl Try.underlying24 Try.sizeOf66 rfl rfl hrow rfl) rfl rfl rfl ?_
        refine AO.yld _ (Yld.loadAgg Try.isAgg66 Try.sizeOf66 rfl rfl rfl rfl) rfl rfl rfl ?_
        refine AO.yld _ (Yld.move rfl) rfl rfl rfl ?_
        refine AO.yld _ (Yld.move rfl) rfl rfl rfl ?_
        refine AO.yld _ (Yld.indexSl Try.underlying24 Try.sizeOf66 rfl rfl hrow2 rfl) rfl rfl rfl ?_
        refine AO.yld _ (Yld.loadAgg Try.isAgg66 Try.sizeOf66 rfl rfl rfl rfl) rfl rfl rfl ?_
        refine AO.yld _ (Yld.binV rfl rfl rfl rfl rfl rfl (by exact neSetting)) rfl rfl rfl ?_
        refine AO.nil ?_
        refine AC.cond _ rfl (fun c25 => ?_) (fun c25 => ?_)
        · -- c25 True
          refine AC.seq ?_
          refine AC.region ?_
          refine AO.yld _ (Yld.assign rfl) rfl rfl rfl ?_
          refine AO.nil ?_
          refine Pure.ret Try.results69 (RVs.cons (RV.tmp rfl) RVs.nil) rfl ?_
          first
            | (exact congrArg (fun b => PV.v (.bool b)) (decide_eq_false (fun e => hl (congrArg List.length e))).symm)
            | (refine congrArg (fun b => PV.v (.bool b)) (decide_eq_false (fun e => ?_)).symm; subst e; rw [hx] at hy; simp_all)
            | (refine congrArg (fun b => PV.v (.bool b)) (decide_eq_true ?_).symm; have := hJ.2; rw [List.take_of_length_le (Nat.le_refl _), List.take_of_length_le (by omega)] at this; exact this)
        · -- c25 False
          refine AC.skip ?_
          refine AC.mark ?_
          refine AC.region ?_
          refine AO.yld _ (Yld.move rfl) rfl rfl rfl ?_
          refine AO.yld _ (Yld.add rfl rfl (by omega) (by omega)) rfl rfl rfl ?_
          refine AO.yld _ (Yld.assign rfl) rfl rfl rfl ?_
          refine AO.nil ?_
          refine AC.back ⟨k + 1, ?_, ?_, ⟨?_, trivial⟩, trivial, ⟨rfl, rfl, trivial⟩, trivial⟩
          · exact ⟨hk, by rw [take_snoc hx, take_snoc hy, hJ.2, show x = y by simpa using c25]⟩
          · omega
          · rfl
      · -- c14 False
        obtain rfl : k = xs.length := by have := ge_of_decM c14; omega
        refine AC.exit rfl ?_
        refine AC.seq ?_
        refine AC.region ?_
        refine AO.yld _ (Yld.assign rfl) rfl rfl rfl ?_
        refine AO.nil ?_
        refine Pure.ret Try.results69 (RVs.cons (RV.tmp rfl) RVs.nil) rfl ?_
        first
          | (exact congrArg (fun b => PV.v (.bool b)) (decide_eq_false (fun e => hl (congrArg List.length e))).symm)
          | (refine congrArg (fun b => PV.v (.bool b)) (decide_eq_false (fun e => ?_)).symm; subst e; rw [hx] at hy; simp_all)
          | (refine congrArg (fun b => PV.v (.bool b)) (decide_eq_true ?_).symm; have := hJ.2; rw [List.take_of_length_le (Nat.le_refl _), List.take_of_length_le (by omega)] at this; exact this)

theorem spec_SameState_c {xs ys : List NV} (hn : xs.length ≤ 1048576) :
    Pure Try.prog 29 [.sl 2 (xs.map encNV), .sl 2 (ys.map encNV)] (.v (.bool (decide (xs = ys)))) := by
  refine Pure.intro Try.func29 rfl Try.ntmps29 rfl rfl (fun w => ?_)
  refine AC.seq ?_
  refine AC.region ?_
  refine AO.yld _ (Yld.assign rfl) rfl rfl rfl ?_
  refine AO.nil ?_
  refine AC.seq ?_
  refine AC.region ?_
  refine AO.yld _ (Yld.move rfl) rfl rfl rfl ?_
  refine AO.yld _ (Yld.move rfl) rfl rfl rfl ?_
  refine AO.yld _ (Yld.call rfl rfl Try.call69 rfl rfl rfl (spec_l27Same_c (by first | assumption | omega)) rfl) rfl rfl rfl ?_
  refine AO.yld _ (Yld.assign rfl) rfl rfl rfl ?_
  refine AO.nil ?_
  refine Pure.ret Try.results29 (RVs.cons (RV.tmp rfl) RVs.nil) rfl ?_
  first | rfl | (simp_all; done) | (simp_all; intros; omega) | grind

theorem laws_eqStringS_c {xs ys : List (List UInt8)} (hn : xs.length ≤ 1048576) :
    Pure Try.prog 17 [.sl 1 (xs.map Go.V.encS), .sl 1 (ys.map Go.V.encS)] (.v (.bool (decide (xs = ys)))) := by
  refine Pure.intro Try.func17 rfl Try.ntmps17 rfl rfl (fun w => ?_)
  refine AC.seq ?_
  refine AC.region ?_
  refine AO.yld _ (Yld.assign rfl) rfl rfl rfl ?_
  refine AO.nil ?_
  refine AC.seq ?_
  refine AC.seq ?_
  refine AC.region ?_
  refine AO.yld _ (Yld.move rfl) rfl rfl rfl ?_
  refine AO.yld _ (Yld.len Try.underlying31 rfl rfl) rfl rfl rfl ?_
  refine AO.yld _ (Yld.move rfl) rfl rfl rfl ?_
  refine AO.yld _ (Yld.len Try.underlying31 rfl rfl) rfl rfl rfl ?_
  refine AO.yld _ (Yld.int rfl rfl rfl) rfl rfl rfl ?_
  refine AO.nil ?_
  refine AC.cond _ rfl (fun c10 => ?_) (fun c10 => ?_)
  · -- c10 True
    have hl : xs.length ≠ ys.length := by have h := c10; simp only [List.length_map, bne_iff_ne, ne_eq, decide_eq_true_eq] at h; omega
    refine AC.seq ?_
    refine AC.region ?_
    refine AO.yld _ (Yld.assign rfl) rfl rfl rfl ?_
    refine AO.nil ?_
    refine Pure.ret Try.results17 (RVs.cons (RV.tmp rfl) RVs.nil) rfl ?_
    first
      | (exact congrArg (fun b => PV.v (.bool b)) (decide_eq_false (fun e => hl (congrArg List.length e))).symm)
      | (refine congrArg (fun b => PV.v (.bool b)) (decide_eq_false (fun e => ?_)).symm; subst e; rw [hx] at hy; simp_all)
      | (refine congrArg (fun b => PV.v (.bool b)) (decide_eq_true ?_).symm; have := hJ.2; rw [List.take_of_length_le (Nat.le_refl _), List.take_of_length_le (by omega)] at this; exact this)
  · -- c10 False
    have hl : xs.length = ys.length := by have h := c10; simp only [List.length_map, bne_eq_false_iff_eq, decide_eq_false_iff_not, ne_eq, Decidable.not_not] at h; omega
    refine AC.skip ?_
    refine AC.seq ?_
    refine AC.seq ?_
    refine AC.region ?_
    refine AO.yld _ (Yld.assign rfl) rfl rfl rfl ?_
    refine AO.nil ?_
    refine AC.block ?_
    refine AC.loopC [(0, _), (1, _)] [] (fun (k : Nat) => [(5, .p (.v (.int .i64 (k : Int))))]) (fun (k : Nat) => []) (fun (k : Nat) => k ≤ xs.length ∧ xs.take k = ys.take k) (fun (k : Nat) => xs.length - k) 0 ⟨rfl, rfl, trivial⟩ trivial ⟨rfl, trivial⟩ trivial ?_ (fun k hJ => ?_)
    · simp
    · -- round
      refine AC.seq ?_
      refine AC.seq ?_
      refine AC.region ?_
      refine AO.yld _ (Yld.move rfl) rfl rfl rfl ?_
      refine AO.yld _ (Yld.move rfl) rfl rfl rfl ?_
      refine AO.yld _ (Yld.len Try.underlying31 rfl rfl) rfl rfl rfl ?_
      refine AO.yld _ (Yld.int rfl rfl rfl) rfl rfl rfl ?_
      refine AO.nil ?_
      refine AC.cond _ rfl (fun c14 => ?_) (fun c14 => ?_)
      · -- c14 True
        have hk := lt_of_decM c14
        obtain ⟨x, hx⟩ := get_some hk
        have hrow := map_row (enc := Go.V.encS) hx
        obtain ⟨y, hy⟩ := get_some (xs := ys) (k := k) (by omega)
        have hrow2 := map_row (enc := Go.V.encS) hy
        refine AC.skip ?_
        refine AC.seq ?_
        refine AC.block ?_
        refine AC.seq ?_
        refine AC.draw (by kernel_rfl) (by kernel_rfl) ?_
        refine AO.yld _ (Yld.move rfl) rfl rfl rfl ?_
        refine AO.yld _ (Yld.move rfl) rfl rfl rfl ?_
        refine AO.yld _ (Yld.indexSl Try.underlying31 Try.sizeOf9 rfl rfl hrow rfl) rfl rfl rfl ?_
        refine AO.yld _ (Yld.load Try.isAgg9 rfl rfl) rfl rfl rfl ?_
        refine AO.yld _ (Yld.move rfl) rfl rfl rfl ?_
        refine AO.yld _ (Yld.move rfl) rfl rfl rfl ?_
        refine AO.yld _ (Yld.indexSl Try.underlying31 Try.sizeOf9 rfl rfl hrow2 rfl) rfl rfl rfl ?_
        refine AO.yld _ (Yld.load Try.isAgg9 rfl rfl) rfl rfl rfl ?_
        refine AO.yld _ (Yld.cmpStr rfl rfl rfl) rfl rfl rfl ?_
        refine AO.nil ?_
        refine AC.cond _ rfl (fun c25 => ?_) (fun c25 => ?_)
        · -- c25 True
          refine AC.seq ?_
          refine AC.region ?_
          refine AO.yld _ (Yld.assign rfl) rfl rfl rfl ?_
          refine AO.nil ?_
          refine Pure.ret Try.results17 (RVs.cons (RV.tmp rfl) RVs.nil) rfl ?_
          first
            | (exact congrArg (fun b => PV.v (.bool b)) (decide_eq_false (fun e => hl (congrArg List.length e))).symm)
            | (refine congrArg (fun b => PV.v (.bool b)) (decide_eq_false (fun e => ?_)).symm; subst e; rw [hx] at hy; simp_all)
            | (refine congrArg (fun b => PV.v (.bool b)) (decide_eq_true ?_).symm; have := hJ.2; rw [List.take_of_length_le (Nat.le_refl _), List.take_of_length_le (by omega)] at this; exact this)
        · -- c25 False
          refine AC.skip ?_
          refine AC.mark ?_
          refine AC.region ?_
          refine AO.yld _ (Yld.move rfl) rfl rfl rfl ?_
          refine AO.yld _ (Yld.add rfl rfl (by omega) (by omega)) rfl rfl rfl ?_
          refine AO.yld _ (Yld.assign rfl) rfl rfl rfl ?_
          refine AO.nil ?_
          refine AC.back ⟨k + 1, ?_, ?_, ⟨?_, trivial⟩, trivial, ⟨rfl, rfl, trivial⟩, trivial⟩
          · exact ⟨hk, by rw [take_snoc hx, take_snoc hy, hJ.2, show x = y by simpa using c25]⟩
          · omega
          · rfl
      · -- c14 False
        obtain rfl : k = xs.length := by have := ge_of_decM c14; omega
        refine AC.exit rfl ?_
        refine AC.seq ?_
        refine AC.region ?_
        refine AO.yld _ (Yld.assign rfl) rfl rfl rfl ?_
        refine AO.nil ?_
        refine Pure.ret Try.results17 (RVs.cons (RV.tmp rfl) RVs.nil) rfl ?_
        first
          | (exact congrArg (fun b => PV.v (.bool b)) (decide_eq_false (fun e => hl (congrArg List.length e))).symm)
          | (refine congrArg (fun b => PV.v (.bool b)) (decide_eq_false (fun e => ?_)).symm; subst e; rw [hx] at hy; simp_all)
          | (refine congrArg (fun b => PV.v (.bool b)) (decide_eq_true ?_).symm; have := hJ.2; rw [List.take_of_length_le (Nat.le_refl _), List.take_of_length_le (by omega)] at this; exact this)

theorem laws_szVersion_c {x : Ver} {l : Int} (hw : VerWf x) (h0 : 0 ≤ l) (h1 : l ≤ 1048576) :
    FnE (α := Int) Try.prog 78 [.agg ((encVer x).map .p), .p (.v (.int .i64 l))] [] [] (fun r => r < 0 ∨ (VerGood x ∧ 0 ≤ r ∧ r ≤ l)) (fun r => .p (.v (.int .i64 r))) (fun r => []) := by
  obtain ⟨w1, w2, w3, w4, w5⟩ := hw
  refine FnE.intro Try.func78 rfl Try.ntmps78 rfl rfl (fun w0 F0 η φ w => ?_)
  refine AC.seq ?_
  refine AC.region ?_
  refine AO.box 0 rfl rfl rfl rfl rfl ?_
  refine AO.yld _ (Yld.assign rfl) rfl rfl rfl ?_
  refine AO.nil ?_
  refine AC.seq ?_
  refine AC.region ?_
  refine AO.yld _ (Yld.move rfl) rfl rfl rfl ?_
  refine AO.yld _ (Yld.fieldAddr Try.underlying104 rfl rfl Try.sizeOf9 rfl rfl rfl) rfl rfl rfl ?_
  refine AO.yld _ (Yld.load Try.isAgg9 rfl rfl) rfl rfl rfl ?_
  refine AO.yld _ (Yld.lenStr Try.underlying9 rfl) rfl rfl rfl ?_
  refine AO.yld _ (Yld.sub rfl rfl (by omega) (by omega)) rfl rfl rfl ?_
  refine AO.yld _ (Yld.assign rfl) rfl rfl rfl ?_
  refine AO.nil ?_
  refine AC.seq ?_
  refine AC.seq ?_
  refine AC.region ?_
  refine AO.yld _ (Yld.move rfl) rfl rfl rfl ?_
  refine AO.yld _ (Yld.int rfl rfl rfl) rfl rfl rfl ?_
  refine AO.nil ?_
  refine AC.cond _ rfl (fun c11 => ?_) (fun c11 => ?_)
  · -- c11 True
    refine AC.seq ?_
    refine AC.region ?_
    refine AO.yld _ (Yld.assign rfl) rfl rfl rfl ?_
    refine AO.nil ?_
    refine FnE.ret _ [] [] Try.results78 (RVs.cons (RV.tmp rfl) RVs.nil) rfl rfl rfl ?_ rfl trivial
    · -- holds
      first | exact .inl (by omega) | exact .inr (good_one h0 h1 rfl (by assumption) rfl (by assumption))
  · -- c11 False
    have hl1 : ¬ l - x.memo.length < 0 := by simpa using c11
    refine AC.skip ?_
    refine AC.seq ?_
    refine AC.region ?_
    refine AO.yld _ (Yld.fieldAddr Try.underlying104 rfl rfl Try.sizeOf22 rfl rfl rfl) rfl rfl rfl ?_
    refine AO.yld _ (Yld.load Try.isAgg22 rfl rfl) rfl rfl rfl ?_
    refine AO.yld _ (Yld.move rfl) rfl rfl rfl ?_
    refine AO.yld _ (Yld.call rfl rfl Try.call8 rfl rfl rfl (laws_szSettingS_c (by omega) (by omega) (by first | assumption | omega) (by assumption)) rfl) rfl rfl rfl ?_
    refine AO.yld _ (Yld.assign rfl) rfl rfl rfl ?_
    refine AO.nil ?_
    refine AC.seq ?_
    refine AC.seq ?_
    refine AC.region ?_
    refine AO.yld _ (Yld.move rfl) rfl rfl rfl ?_
    refine AO.yld _ (Yld.int rfl rfl rfl) rfl rfl rfl ?_
    refine AO.nil ?_
    refine AC.cond _ rfl (fun c17 => ?_) (fun c17 => ?_)
    · -- c17 True
      refine AC.seq ?_
      refine AC.region ?_
      refine AO.yld _ (Yld.assign rfl) rfl rfl rfl ?_
      refine AO.nil ?_
      refine FnE.ret _ [] [] Try.results78 (RVs.cons (RV.tmp rfl) RVs.nil) rfl rfl rfl ?_ rfl trivial
      · -- holds
        first | exact .inl (by omega) | exact .inr (good_one h0 h1 rfl (by assumption) rfl (by assumption))
    · -- c17 False
      have hl2 : ¬ szAll NV.name x.state (l - x.memo.length) < 0 := by simpa using c17
      refine AC.skip ?_
      refine AC.seq ?_
      refine AC.region ?_
      refine AO.yld _ (Yld.move rfl) rfl rfl rfl ?_
      refine AO.yld _ (Yld.assign rfl) rfl rfl rfl ?_
      refine AO.nil ?_
      refine FnE.ret _ [] [] Try.results78 (RVs.cons (RV.tmp rfl) RVs.nil) rfl rfl rfl ?_ rfl trivial
      · -- holds
        first | exact .inl (by omega) | exact .inr (good_one h0 h1 rfl (by assumption) rfl (by assumption))

theorem laws_szVersionS_c {xs : List Ver} {left : Int} (hb : xs.length ≤ 9223372036854775807) (hw : ∀ x ∈ xs, VerWf x) (h0 : 0 ≤ left) (h1 : left ≤ 1048576) :
    FnE (α := Int) Try.prog 36 [.p (.sl 4 (xs.map encVer)), .p (.v (.int .i64 left))] [] [] (fun r => r < 0 ∨ (VersGood xs ∧ 0 ≤ r ∧ r ≤ left)) (fun r => .p (.v (.int .i64 r))) (fun r => []) := by
  refine FnE.intro Try.func36 rfl Try.ntmps36 rfl rfl (fun w0 F0 η φ w => ?_)
  refine AC.seq ?_
  refine AC.region ?_
  refine AO.yld _ (Yld.assign rfl) rfl rfl rfl ?_
  refine AO.nil ?_
  refine AC.seq ?_
  refine AC.region ?_
  refine AO.yld _ (Yld.move rfl) rfl rfl rfl ?_
  refine AO.yld _ (Yld.move rfl) rfl rfl rfl ?_
  refine AO.yld _ (Yld.len Try.underlying57 rfl rfl) rfl rfl rfl ?_
  refine AO.yld _ (Yld.sub rfl rfl (by simp only [List.length_map]; omega) (by simp only [List.length_map]; omega)) rfl rfl rfl ?_
  refine AO.yld _ (Yld.assign rfl) rfl rfl rfl ?_
  refine AO.nil ?_
  refine AC.seq ?_
  refine AC.seq ?_
  refine AC.region ?_
  refine AO.yld _ (Yld.move rfl) rfl rfl rfl ?_
  refine AO.yld _ (Yld.int rfl rfl rfl) rfl rfl rfl ?_
  refine AO.nil ?_
  refine AC.cond _ rfl (fun c11 => ?_) (fun c11 => ?_)
  · -- c11 True
    have hl1 : left - xs.length < 0 := by have h := c11; simp only [List.length_map] at h; simpa using h
    refine AC.seq ?_
    refine AC.region ?_
    refine AO.yld _ (Yld.assign rfl) rfl rfl rfl ?_
    refine AO.nil ?_
    refine FnE.ret _ [] [] Try.results36 (RVs.cons (RV.tmp rfl) RVs.nil) rfl rfl rfl ?_ rfl trivial
    · -- holds
      first | exact .inl (by omega) | exact .inr ⟨⟨by omega, by have := hJ.1; rw [List.take_of_length_le (Nat.le_refl _)] at this; exact this⟩, by omega, by omega⟩
  · -- c11 False
    have hl1 : ¬ left - xs.length < 0 := by have h := c11; simp only [List.length_map] at h; simpa using h
    refine AC.skip ?_
    refine AC.seq ?_
    refine AC.seq ?_
    refine AC.region ?_
    refine AO.yld _ (Yld.assign rfl) rfl rfl rfl ?_
    refine AO.nil ?_
    refine AC.block ?_
    refine AC.loopC2 [(0, _)] [(900, _)] (fun (k : Nat) (l : Int) => [(5, .p (.v (.int .i64 (k : Int)))), (1, .p (.v (.int .i64 l)))]) (fun (k : Nat) (l : Int) => []) (fun (k : Nat) (l : Int) => (∀ v ∈ xs.take k, VerGood v) ∧ k ≤ xs.length ∧ 0 ≤ l ∧ l ≤ left - xs.length) (fun (k : Nat) (l : Int) => xs.length - k) 0 (left - xs.length) ⟨rfl, trivial⟩ ⟨rfl, trivial⟩ ⟨rfl, by show some (AV.p (PV.v (Value.int IntKind.i64 _))) = _; simp only [List.length_map], trivial⟩ trivial ?_ (fun k l hJ => ?_)
    · exact ⟨by simp, Nat.zero_le _, by omega, by omega⟩
    · -- round
      refine AC.seq ?_
      refine AC.seq ?_
      refine AC.region ?_
      refine AO.yld _ (Yld.move rfl) rfl rfl rfl ?_
      refine AO.yld _ (Yld.move rfl) rfl rfl rfl ?_
      refine AO.yld _ (Yld.len Try.underlying57 rfl rfl) rfl rfl rfl ?_
      refine AO.yld _ (Yld.int rfl rfl rfl) rfl rfl rfl ?_
      refine AO.nil ?_
      refine AC.cond _ rfl (fun c15 => ?_) (fun c15 => ?_)
      · -- c15 True
        have hk := lt_of_decM c15
        obtain ⟨x, hx⟩ := get_some hk
        have hrow := map_row (enc := encVer) hx
        have hwx := hw x (List.mem_of_getElem? hx)
        refine AC.skip ?_
        refine AC.seq ?_
        refine AC.block ?_
        refine AC.seq ?_
        refine AC.region ?_
        refine AO.yld _ (Yld.move rfl) rfl rfl rfl ?_
        refine AO.yld _ (Yld.move rfl) rfl rfl rfl ?_
        refine AO.yld _ (Yld.indexSl Try.underlying57 Try.sizeOf104 rfl rfl hrow rfl) rfl rfl rfl ?_
        refine AO.yld _ (Yld.loadAgg Try.isAgg104 Try.sizeOf104 rfl rfl rfl rfl) rfl rfl rfl ?_
        refine AO.yld _ (Yld.move rfl) rfl rfl rfl ?_
        refine AO.callW (wantedN rfl) [] [] [] rfl rfl Try.call78 rfl (laws_szVersion_c (by assumption) (by omega) (by omega)) (.own rfl) rfl (fun _ => rfl) trivial rfl (fun _ => rfl) (fun _ => rfl) (fun r23 hr23 => ?_)
        refine AO.yld _ (Yld.assign rfl) rfl rfl rfl ?_
        refine AO.nil ?_
        refine AC.seq ?_
        refine AC.region ?_
        refine AO.yld _ (Yld.move rfl) rfl rfl rfl ?_
        refine AO.yld _ (Yld.int rfl rfl rfl) rfl rfl rfl ?_
        refine AO.nil ?_
        refine AC.cond _ rfl (fun c25 => ?_) (fun c25 => ?_)
        · -- c25 True
          have hl3 : r23 < 0 := by simpa using c25
          refine AC.seq ?_
          refine AC.region ?_
          refine AO.yld _ (Yld.assign rfl) rfl rfl rfl ?_
          refine AO.nil ?_
          refine FnE.ret _ [] [] Try.results36 (RVs.cons (RV.tmp rfl) RVs.nil) rfl rfl rfl ?_ rfl trivial
          · -- holds
            first | exact .inl (by omega) | exact .inr ⟨⟨by omega, by have := hJ.1; rw [List.take_of_length_le (Nat.le_refl _)] at this; exact this⟩, by omega, by omega⟩
        · -- c25 False
          have hg1 : VerGood x ∧ 0 ≤ r23 ∧ r23 ≤ l := by rcases hr23 with h | h; exact absurd h (by simpa using c25); exact h
          refine AC.skip ?_
          refine AC.mark ?_
          refine AC.region ?_
          refine AO.yld _ (Yld.move rfl) rfl rfl rfl ?_
          refine AO.yld _ (Yld.add rfl rfl (by omega) (by omega)) rfl rfl rfl ?_
          refine AO.yld _ (Yld.assign rfl) rfl rfl rfl ?_
          refine AO.nil ?_
          refine AC.back ⟨k + 1, r23, ?_, ?_, ⟨?_, ?_, trivial⟩, trivial, ⟨rfl, trivial⟩, ⟨rfl, trivial⟩⟩
          · exact ⟨good_snoc hx hJ.1 hg1.1, hk, by omega, by omega⟩
          · omega
          · rfl
          · rfl
      · -- c15 False
        obtain rfl : k = xs.length := by have := ge_of_decM c15; omega
        refine AC.exit rfl ?_
        refine AC.seq ?_
        refine AC.region ?_
        refine AO.yld _ (Yld.move rfl) rfl rfl rfl ?_
        refine AO.yld _ (Yld.assign rfl) rfl rfl rfl ?_
        refine AO.nil ?_
        refine FnE.ret _ [] [] Try.results36 (RVs.cons (RV.tmp rfl) RVs.nil) rfl rfl rfl ?_ rfl trivial
        · -- holds
          first | exact .inl (by omega) | exact .inr ⟨⟨by omega, by have := hJ.1; rw [List.take_of_length_le (Nat.le_refl _)] at this; exact this⟩, by omega, by omega⟩

theorem laws_toVersion_c {x : Ver} (hg : VerGood x) :
    FnE (α := Unit) Try.prog 84 [.agg ((encVer x).map .p)] [] [] (fun _ => True) (fun _ => .agg [.p (.v (.int .i64 x.number)), .p (.v (.int .i64 x.parent)), .p (.v (str x.memo)), .h 0]) (fun _ => [(0, .vec 66 2 (x.state.map encNV))]) := by
  obtain ⟨g1, g2, g3⟩ := hg
  refine FnE.intro Try.func84 rfl Try.ntmps84 rfl rfl (fun w0 F0 η φ w => ?_)
  refine AC.seq ?_
  refine AC.region ?_
  refine AO.box 0 rfl rfl rfl rfl rfl ?_
  refine AO.alloc 1 Try.zeroValue107 rfl rfl rfl ?_
  refine AO.nil ?_
  refine AC.seq ?_
  refine AC.region ?_
  refine AO.alloc 2 Try.zeroValue107 rfl rfl rfl ?_
  refine AO.nil ?_
  refine AC.seq ?_
  refine AC.region ?_
  refine AO.yld _ (Yld.fieldAddr Try.underlying104 rfl rfl Try.sizeOf2 rfl rfl rfl) rfl rfl rfl ?_
  refine AO.yld _ (Yld.load Try.isAgg2 rfl rfl) rfl rfl rfl ?_
  refine AO.yld _ (Yld.fieldAddr Try.underlying107 rfl rfl Try.sizeOf2 rfl rfl rfl) rfl rfl rfl ?_
  refine AO.store Try.sizeOf2 rfl rfl rfl rfl rfl rfl ?_
  refine AO.nil ?_
  refine AC.seq ?_
  refine AC.region ?_
  refine AO.yld _ (Yld.fieldAddr Try.underlying104 rfl rfl Try.sizeOf2 rfl rfl rfl) rfl rfl rfl ?_
  refine AO.yld _ (Yld.load Try.isAgg2 rfl rfl) rfl rfl rfl ?_
  refine AO.yld _ (Yld.fieldAddr Try.underlying107 rfl rfl Try.sizeOf2 rfl rfl rfl) rfl rfl rfl ?_
  refine AO.store Try.sizeOf2 rfl rfl rfl rfl rfl rfl ?_
  refine AO.nil ?_
  refine AC.seq ?_
  refine AC.region ?_
  refine AO.yld _ (Yld.fieldAddr Try.underlying104 rfl rfl Try.sizeOf9 rfl rfl rfl) rfl rfl rfl ?_
  refine AO.yld _ (Yld.load Try.isAgg9 rfl rfl) rfl rfl rfl ?_
  refine AO.yld _ (Yld.fieldAddr Try.underlying107 rfl rfl Try.sizeOf9 rfl rfl rfl) rfl rfl rfl ?_
  refine AO.store Try.sizeOf9 rfl rfl rfl rfl rfl rfl ?_
  refine AO.nil ?_
  refine AC.seq ?_
  refine AC.region ?_
  refine AO.yld _ (Yld.fieldAddr Try.underlying104 rfl rfl Try.sizeOf22 rfl rfl rfl) rfl rfl rfl ?_
  refine AO.yld _ (Yld.load Try.isAgg22 rfl rfl) rfl rfl rfl ?_
  refine AO.callMk 3 rfl rfl Try.call10 rfl rfl rfl (laws_toSettingS_c (by first | assumption | omega)) (by simp [AV.Flat, AV.FlatL, PV.Flat, PV.FlatL]) (flat_map flatNV _) rfl rfl ?_
  refine AO.yld _ (Yld.fieldAddr Try.underlying107 rfl rfl Try.sizeOf24 rfl rfl rfl) rfl rfl rfl ?_
  refine AO.store Try.sizeOf24 rfl rfl rfl rfl rfl rfl ?_
  refine AO.nil ?_
  refine AC.seq ?_
  refine AC.region ?_
  refine AO.yld _ (Yld.loadAgg Try.isAgg107 Try.sizeOf107 rfl rfl rfl rfl) rfl rfl rfl ?_
  refine AO.store Try.sizeOf107 rfl rfl rfl rfl rfl rfl ?_
  refine AO.nil ?_
  refine FnE.ret () [3] [0] Try.results84 (RVs.cons (RV.cell Try.isAgg107 Try.sizeOf107 rfl rfl rfl rfl) RVs.nil) rfl rfl rfl ?_ ?_ ⟨⟨_, rfl, ?_⟩, trivial⟩
  · -- holds
    trivial
  · -- value
    rfl
  · -- thing 0
    first | rfl | exact vecE (by first | rfl | (simp_all; done) | grind) | (simp_all; done)

theorem laws_toVersionS_c {xs : List Ver} (hg : VersGood xs) :
    FnE (α := Unit) Try.prog 38 [.p (.sl 4 (xs.map encVer))] [] [] (fun _ => True) (fun _ => .h 0) (fun _ => [(0, .vec 107 4 (xs.map encVer))]) := by
  have hM : (xs.map encVer).length = xs.length := List.length_map ..
  have hn := hg.1
  refine FnE.intro Try.func38 rfl Try.ntmps38 rfl rfl (fun w0 F0 η φ w => ?_)
  refine AC.seq ?_
  refine AC.region ?_
  refine AO.yld _ (Yld.assign rfl) rfl rfl rfl ?_
  refine AO.nil ?_
  refine AC.seq ?_
  refine AC.region ?_
  refine AO.yld _ (Yld.move rfl) rfl rfl rfl ?_
  refine AO.yld _ (Yld.len Try.underlying57 rfl rfl) rfl rfl rfl ?_
  refine AO.make 0 Try.underlying49 ty107 rfl rfl rfl rfl rfl (Nat.le_refl _) (by rw [hM]; omega) (by rw [hM]; omega) rfl rfl ?_
  refine AO.yld _ (Yld.assign rfl) rfl rfl rfl ?_
  refine AO.nil ?_
  refine AC.seq ?_
  refine AC.seq ?_
  refine AC.region ?_
  refine AO.yld _ (Yld.assign rfl) rfl rfl rfl ?_
  refine AO.nil ?_
  refine AC.block ?_
  refine AC.loopC [(0, _), (2, _), (3, _)] [(900, _)] (fun (k : Nat) => [(4, .p (.v (.int .i64 (k : Int))))]) (fun (k : Nat) => [(0, .vec 107 4 (filled encVer [.v (.int .i64 0), .v (.int .i64 0), .v (.string ⟨#[]⟩), .sl 0 []] xs k))]) (fun (k : Nat) => k ≤ xs.length) (fun (k : Nat) => xs.length - k) 0 ⟨rfl, rfl, rfl, trivial⟩ ⟨rfl, trivial⟩ ⟨rfl, trivial⟩ ⟨by rw [filled_zero, ← hM]; rfl, trivial⟩ ?_ (fun k hJ => ?_)
  · exact Nat.zero_le _
  · -- round
    refine AC.seq ?_
    refine AC.seq ?_
    refine AC.region ?_
    refine AO.yld _ (Yld.move rfl) rfl rfl rfl ?_
    refine AO.yld _ (Yld.move rfl) rfl rfl rfl ?_
    refine AO.yld _ (Yld.len Try.underlying57 rfl rfl) rfl rfl rfl ?_
    refine AO.yld _ (Yld.int rfl rfl rfl) rfl rfl rfl ?_
    refine AO.nil ?_
    refine AC.cond _ rfl (fun c11 => ?_) (fun c11 => ?_)
    · -- c11 True
      have hk := lt_of_decM c11
      obtain ⟨x, hx⟩ := get_some hk
      have hrow := map_row (enc := encVer) hx
      have hgx := hg.2 x (List.mem_of_getElem? hx)
      refine AC.skip ?_
      refine AC.seq ?_
      refine AC.block ?_
      refine AC.region ?_
      refine AO.yld _ (Yld.move rfl) rfl rfl rfl ?_
      refine AO.yld _ (Yld.move rfl) rfl rfl rfl ?_
      refine AO.yld _ (Yld.move rfl) rfl rfl rfl ?_
      refine AO.yld _ (Yld.move rfl) rfl rfl rfl ?_
      refine AO.yld _ (Yld.indexSl Try.underlying57 Try.sizeOf104 rfl rfl hrow rfl) rfl rfl rfl ?_
      refine AO.yld _ (Yld.loadAgg Try.isAgg104 Try.sizeOf104 rfl rfl rfl rfl) rfl rfl rfl ?_
      refine AO.callW (wantedN rfl) [1] [] [0] rfl rfl Try.call84 rfl (laws_toVersion_c (by assumption)) (.own rfl) rfl (fun _ => rfl) trivial rfl (fun _ => rfl) (fun _ => rfl) (fun _ _ => ?_)
      refine AO.freeze 1 rfl ?_
      refine AO.yld _ (Yld.indexVec Try.underlying49 Try.sizeOf107 rfl rfl rfl rfl (by rw [filled_length (by omega)]; exact hk)) rfl rfl rfl ?_
      refine AO.store Try.sizeOf107 rfl rfl rfl rfl rfl (store_el rfl (filled_get hk) rfl rfl) ?_
      refine AO.nil ?_
      refine AC.mark ?_
      refine AC.region ?_
      refine AO.yld _ (Yld.move rfl) rfl rfl rfl ?_
      refine AO.yld _ (Yld.add rfl rfl (by omega) (by omega)) rfl rfl rfl ?_
      refine AO.yld _ (Yld.assign rfl) rfl rfl rfl ?_
      refine AO.nil ?_
      refine AC.back ⟨k + 1, ?_, ?_, ⟨?_, trivial⟩, ⟨?_, trivial⟩, ⟨rfl, rfl, rfl, trivial⟩, ⟨rfl, trivial⟩⟩
      · exact hk
      · omega
      · rfl
      · rw [← filled_set hx]; rfl
    · -- c11 False
      obtain rfl : k = xs.length := by have := ge_of_decM c11; omega
      refine AC.exit rfl ?_
      refine AC.seq ?_
      refine AC.region ?_
      refine AO.yld _ (Yld.move rfl) rfl rfl rfl ?_
      refine AO.yld _ (Yld.assign rfl) rfl rfl rfl ?_
      refine AO.nil ?_
      refine FnE.ret () [0] [0] Try.results38 (RVs.cons (RV.tmp rfl) RVs.nil) rfl rfl rfl ?_ ?_ ⟨⟨_, rfl, ?_⟩, trivial⟩
      · -- holds
        trivial
      · -- value
        rfl
      · -- thing 0
        exact vecE filled_end

theorem laws_eqVersion_c {x y : Ver} (hg : VerGood x) :
    Pure Try.prog 85 [.agg (encVer x), .agg (encVer y)] (.v (.bool (decide (x = y)))) := by
  obtain ⟨g1, g2, g3⟩ := hg
  refine Pure.intro Try.func85 rfl Try.ntmps85 rfl rfl (fun w => ?_)
  refine AC.seq ?_
  refine AC.region ?_
  refine AO.box 0 rfl rfl rfl rfl rfl ?_
  refine AO.box 1 rfl rfl rfl rfl rfl ?_
  refine AO.yld _ (Yld.assign rfl) rfl rfl rfl ?_
  refine AO.nil ?_
  refine AC.seq ?_
  refine AC.seq ?_
  refine AC.region ?_
  refine AO.yld _ (Yld.fieldAddr Try.underlying107 rfl rfl Try.sizeOf2 rfl rfl rfl) rfl rfl rfl ?_
  refine AO.yld _ (Yld.load Try.isAgg2 rfl rfl) rfl rfl rfl ?_
  refine AO.yld _ (Yld.fieldAddr Try.underlying107 rfl rfl Try.sizeOf2 rfl rfl rfl) rfl rfl rfl ?_
  refine AO.yld _ (Yld.load Try.isAgg2 rfl rfl) rfl rfl rfl ?_
  refine AO.yld _ (Yld.int rfl rfl rfl) rfl rfl rfl ?_
  refine AO.nil ?_
  refine AC.cond _ rfl (fun c9 => ?_) (fun c9 => ?_)
  · -- c9 True
    refine AC.seq ?_
    refine AC.region ?_
    refine AO.yld _ (Yld.assign rfl) rfl rfl rfl ?_
    refine AO.nil ?_
    refine Pure.ret Try.results85 (RVs.cons (RV.tmp rfl) RVs.nil) rfl ?_
    cases x; cases y; simp_all
  · -- c9 False
    refine AC.skip ?_
    refine AC.seq ?_
    refine AC.seq ?_
    refine AC.region ?_
    refine AO.yld _ (Yld.fieldAddr Try.underlying107 rfl rfl Try.sizeOf2 rfl rfl rfl) rfl rfl rfl ?_
    refine AO.yld _ (Yld.load Try.isAgg2 rfl rfl) rfl rfl rfl ?_
    refine AO.yld _ (Yld.fieldAddr Try.underlying107 rfl rfl Try.sizeOf2 rfl rfl rfl) rfl rfl rfl ?_
    refine AO.yld _ (Yld.load Try.isAgg2 rfl rfl) rfl rfl rfl ?_
    refine AO.yld _ (Yld.int rfl rfl rfl) rfl rfl rfl ?_
    refine AO.nil ?_
    refine AC.cond _ rfl (fun c14 => ?_) (fun c14 => ?_)
    · -- c14 True
      refine AC.seq ?_
      refine AC.region ?_
      refine AO.yld _ (Yld.assign rfl) rfl rfl rfl ?_
      refine AO.nil ?_
      refine Pure.ret Try.results85 (RVs.cons (RV.tmp rfl) RVs.nil) rfl ?_
      cases x; cases y; simp_all
    · -- c14 False
      refine AC.skip ?_
      refine AC.seq ?_
      refine AC.seq ?_
      refine AC.region ?_
      refine AO.yld _ (Yld.fieldAddr Try.underlying107 rfl rfl Try.sizeOf9 rfl rfl rfl) rfl rfl rfl ?_
      refine AO.yld _ (Yld.load Try.isAgg9 rfl rfl) rfl rfl rfl ?_
      refine AO.yld _ (Yld.fieldAddr Try.underlying107 rfl rfl Try.sizeOf9 rfl rfl rfl) rfl rfl rfl ?_
      refine AO.yld _ (Yld.load Try.isAgg9 rfl rfl) rfl rfl rfl ?_
      refine AO.yld _ (Yld.cmpStr rfl rfl rfl) rfl rfl rfl ?_
      refine AO.nil ?_
      refine AC.cond _ rfl (fun c19 => ?_) (fun c19 => ?_)
      · -- c19 True
        refine AC.seq ?_
        refine AC.region ?_
        refine AO.yld _ (Yld.assign rfl) rfl rfl rfl ?_
        refine AO.nil ?_
        refine Pure.ret Try.results85 (RVs.cons (RV.tmp rfl) RVs.nil) rfl ?_
        cases x; cases y; simp_all
      · -- c19 False
        refine AC.skip ?_
        refine AC.seq ?_
        refine AC.seq ?_
        refine AC.region ?_
        refine AO.yld _ (Yld.fieldAddr Try.underlying107 rfl rfl Try.sizeOf24 rfl rfl rfl) rfl rfl rfl ?_
        refine AO.yld _ (Yld.load Try.isAgg24 rfl rfl) rfl rfl rfl ?_
        refine AO.yld _ (Yld.fieldAddr Try.underlying107 rfl rfl Try.sizeOf24 rfl rfl rfl) rfl rfl rfl ?_
        refine AO.yld _ (Yld.load Try.isAgg24 rfl rfl) rfl rfl rfl ?_
        refine AO.yld _ (Yld.call rfl rfl Try.call12 rfl rfl rfl (laws_eqSettingS_c (by first | assumption | omega)) rfl) rfl rfl rfl ?_
        refine AO.yld _ (Yld.not rfl) rfl rfl rfl ?_
        refine AO.nil ?_
        refine AC.cond _ rfl (fun c25 => ?_) (fun c25 => ?_)
        · -- c25 True
          refine AC.seq ?_
          refine AC.region ?_
          refine AO.yld _ (Yld.assign rfl) rfl rfl rfl ?_
          refine AO.nil ?_
          refine Pure.ret Try.results85 (RVs.cons (RV.tmp rfl) RVs.nil) rfl ?_
          cases x; cases y; simp_all
        · -- c25 False
          refine AC.skip ?_
          refine AC.seq ?_
          refine AC.region ?_
          refine AO.yld _ (Yld.assign rfl) rfl rfl rfl ?_
          refine AO.nil ?_
          refine Pure.ret Try.results85 (RVs.cons (RV.tmp rfl) RVs.nil) rfl ?_
          cases x; cases y; simp_all

theorem laws_eqVersionS_c {xs ys : List Ver} (hg : VersGood xs) :
    Pure Try.prog 39 [.sl 4 (xs.map encVer), .sl 4 (ys.map encVer)] (.v (.bool (decide (xs = ys)))) := by
  have hn := hg.1
  refine Pure.intro Try.func39 rfl Try.ntmps39 rfl rfl (fun w => ?_)
  refine AC.seq ?_
  refine AC.region ?_
  refine AO.yld _ (Yld.assign rfl) rfl rfl rfl ?_
  refine AO.nil ?_
  refine AC.seq ?_
  refine AC.seq ?_
  refine AC.region ?_
  refine AO.yld _ (Yld.move rfl) rfl rfl rfl ?_
  refine AO.yld _ (Yld.len Try.underlying49 rfl rfl) rfl rfl rfl ?_
  refine AO.yld _ (Yld.move rfl) rfl rfl rfl ?_
  refine AO.yld _ (Yld.len Try.underlying49 rfl rfl) rfl rfl rfl ?_
  refine AO.yld _ (Yld.int rfl rfl rfl) rfl rfl rfl ?_
  refine AO.nil ?_
  refine AC.cond _ rfl (fun c10 => ?_) (fun c10 => ?_)
  · -- c10 True
    have hl : xs.length ≠ ys.length := by have h := c10; simp only [List.length_map, bne_iff_ne, ne_eq] at h; omega
    refine AC.seq ?_
    refine AC.region ?_
    refine AO.yld _ (Yld.assign rfl) rfl rfl rfl ?_
    refine AO.nil ?_
    refine Pure.ret Try.results39 (RVs.cons (RV.tmp rfl) RVs.nil) rfl ?_
    first
      | (exact congrArg (fun b => PV.v (.bool b)) (decide_eq_false (fun e => hl (congrArg List.length e))).symm)
      | (refine congrArg (fun b => PV.v (.bool b)) (decide_eq_false (fun e => ?_)).symm; subst e; rw [hx] at hy; simp_all)
      | (refine congrArg (fun b => PV.v (.bool b)) (decide_eq_true ?_).symm; have := hJ.2; rw [List.take_of_length_le (Nat.le_refl _), List.take_of_length_le (by omega)] at this; exact this)
  · -- c10 False
    have hl : xs.length = ys.length := by have h := c10; simp only [List.length_map, bne_eq_false_iff_eq] at h; omega
    refine AC.skip ?_
    refine AC.seq ?_
    refine AC.seq ?_
    refine AC.region ?_
    refine AO.yld _ (Yld.assign rfl) rfl rfl rfl ?_
    refine AO.nil ?_
    refine AC.block ?_
    refine AC.loopC [(0, _), (1, _)] [] (fun (k : Nat) => [(5, .p (.v (.int .i64 (k : Int))))]) (fun (k : Nat) => []) (fun (k : Nat) => k ≤ xs.length ∧ xs.take k = ys.take k) (fun (k : Nat) => xs.length - k) 0 ⟨rfl, rfl, trivial⟩ trivial ⟨rfl, trivial⟩ trivial ?_ (fun k hJ => ?_)
    · exact ⟨Nat.zero_le _, rfl⟩
    · -- round
      refine AC.seq ?_
      refine AC.seq ?_
      refine AC.region ?_
      refine AO.yld _ (Yld.move rfl) rfl rfl rfl ?_
      refine AO.yld _ (Yld.move rfl) rfl rfl rfl ?_
      refine AO.yld _ (Yld.len Try.underlying49 rfl rfl) rfl rfl rfl ?_
      refine AO.yld _ (Yld.int rfl rfl rfl) rfl rfl rfl ?_
      refine AO.nil ?_
      refine AC.cond _ rfl (fun c14 => ?_) (fun c14 => ?_)
      · -- c14 True
        have hk := lt_of_decM c14
        obtain ⟨x, hx⟩ := get_some hk
        have hrow := map_row (enc := encVer) hx
        have hgx := hg.2 x (List.mem_of_getElem? hx)
        obtain ⟨y, hy⟩ := get_some (xs := ys) (k := k) (by omega)
        have hrow2 := map_row (enc := encVer) hy
        refine AC.skip ?_
        refine AC.seq ?_
        refine AC.block ?_
        refine AC.seq ?_
        refine AC.draw (by kernel_rfl) (by kernel_rfl) ?_
        refine AO.yld _ (Yld.move rfl) rfl rfl rfl ?_
        refine AO.yld _ (Yld.move rfl) rfl rfl rfl ?_
        refine AO.yld _ (Yld.indexSl Try.underlying49 Try.sizeOf107 rfl rfl hrow rfl) rfl rfl rfl ?_
        refine AO.yld _ (Yld.loadAgg Try.isAgg107 Try.sizeOf107 rfl rfl rfl rfl) rfl rfl rfl ?_
        refine AO.yld _ (Yld.move rfl) rfl rfl rfl ?_
        refine AO.yld _ (Yld.move rfl) rfl rfl rfl ?_
        refine AO.yld _ (Yld.indexSl Try.underlying49 Try.sizeOf107 rfl rfl hrow2 rfl) rfl rfl rfl ?_
        refine AO.yld _ (Yld.loadAgg Try.isAgg107 Try.sizeOf107 rfl rfl rfl rfl) rfl rfl rfl ?_
        refine AO.yld _ (Yld.call rfl rfl Try.call85 rfl rfl rfl (laws_eqVersion_c (by assumption)) rfl) rfl rfl rfl ?_
        refine AO.yld _ (Yld.not rfl) rfl rfl rfl ?_
        refine AO.nil ?_
        refine AC.cond _ rfl (fun c26 => ?_) (fun c26 => ?_)
        · -- c26 True
          refine AC.seq ?_
          refine AC.region ?_
          refine AO.yld _ (Yld.assign rfl) rfl rfl rfl ?_
          refine AO.nil ?_
          refine Pure.ret Try.results39 (RVs.cons (RV.tmp rfl) RVs.nil) rfl ?_
          first
            | (exact congrArg (fun b => PV.v (.bool b)) (decide_eq_false (fun e => hl (congrArg List.length e))).symm)
            | (refine congrArg (fun b => PV.v (.bool b)) (decide_eq_false (fun e => ?_)).symm; subst e; rw [hx] at hy; simp_all)
            | (refine congrArg (fun b => PV.v (.bool b)) (decide_eq_true ?_).symm; have := hJ.2; rw [List.take_of_length_le (Nat.le_refl _), List.take_of_length_le (by omega)] at this; exact this)
        · -- c26 False
          refine AC.skip ?_
          refine AC.mark ?_
          refine AC.region ?_
          refine AO.yld _ (Yld.move rfl) rfl rfl rfl ?_
          refine AO.yld _ (Yld.add rfl rfl (by omega) (by omega)) rfl rfl rfl ?_
          refine AO.yld _ (Yld.assign rfl) rfl rfl rfl ?_
          refine AO.nil ?_
          refine AC.back ⟨k + 1, ?_, ?_, ⟨?_, trivial⟩, trivial, ⟨rfl, rfl, trivial⟩, trivial⟩
          · exact ⟨hk, by rw [take_snoc hx, take_snoc hy, hJ.2, show x = y by simpa using c26]⟩
          · omega
          · rfl
      · -- c14 False
        obtain rfl : k = xs.length := by have := ge_of_decM c14; omega
        refine AC.exit rfl ?_
        refine AC.seq ?_
        refine AC.region ?_
        refine AO.yld _ (Yld.assign rfl) rfl rfl rfl ?_
        refine AO.nil ?_
        refine Pure.ret Try.results39 (RVs.cons (RV.tmp rfl) RVs.nil) rfl ?_
        first
          | (exact congrArg (fun b => PV.v (.bool b)) (decide_eq_false (fun e => hl (congrArg List.length e))).symm)
          | (refine congrArg (fun b => PV.v (.bool b)) (decide_eq_false (fun e => ?_)).symm; subst e; rw [hx] at hy; simp_all)
          | (refine congrArg (fun b => PV.v (.bool b)) (decide_eq_true ?_).symm; have := hJ.2; rw [List.take_of_length_le (Nat.le_refl _), List.take_of_length_le (by omega)] at this; exact this)

theorem laws_markText_c {k : Int} (h1 : k ≤ 100000000000000) :
    Pure Try.prog 49 [.v (.int .i64 k)] (.v (str (mText k))) := by
  refine Pure.intro Try.func49 rfl Try.ntmps49 rfl rfl (fun w => ?_)
  refine AC.seq ?_
  refine AC.region ?_
  refine AO.yld _ (Yld.assign rfl) rfl rfl rfl ?_
  refine AO.nil ?_
  refine AC.seq ?_
  refine AC.seq ?_
  refine AC.region ?_
  refine AO.yld _ (Yld.move rfl) rfl rfl rfl ?_
  refine AO.yld _ (Yld.int rfl rfl rfl) rfl rfl rfl ?_
  refine AO.nil ?_
  refine AC.cond _ rfl (fun c5 => ?_) (fun c5 => ?_)
  · -- c5 True
    refine AC.seq ?_
    refine AC.region ?_
    refine AO.yld _ (Yld.assign rfl) rfl rfl rfl ?_
    refine AO.nil ?_
    refine Pure.ret Try.results49 (RVs.cons (RV.tmp rfl) RVs.nil) rfl ?_
    first
      | (refine congrArg (fun s => PV.v (str s)) ?_; have h := hJ.1; rw [mt_zero] at h; rw [h, mText, if_neg (by omega)]; rfl)
      | (refine congrArg (fun s => PV.v (str s)) ?_; rw [mText, if_pos (by simpa using c5)])
  · -- c5 False
    have hk0 : 0 < k := by simpa using c5
    refine AC.skip ?_
    refine AC.seq ?_
    refine AC.region ?_
    refine AO.yld _ (Yld.assign rfl) rfl rfl rfl ?_
    refine AO.nil ?_
    refine AC.seq ?_
    refine AC.block ?_
    refine AC.loopC2 [(2, _)] [] (fun (j : Nat) (acc : List UInt8) => [(0, .p (.v (.int .i64 (j : Int)))), (3, .p (.v (str acc)))]) (fun (j : Nat) (acc : List UInt8) => []) (fun (j : Nat) (acc : List UInt8) => mt j acc = mt k.toNat [] ∧ acc.length ≤ 40 ∧ j < 10 ^ (40 - acc.length) ∧ j ≤ 100000000000000) (fun (j : Nat) (acc : List UInt8) => j) k.toNat [] ⟨rfl, trivial⟩ trivial ⟨by show some (AV.p (PV.v (Value.int IntKind.i64 _))) = _; rw [Int.toNat_of_nonneg (by omega)], rfl, trivial⟩ trivial ?_ (fun j acc hJ => ?_)
    · exact ⟨rfl, by simp, by simp; omega, by omega⟩
    · -- round
      refine AC.seq ?_
      refine AC.seq ?_
      refine AC.region ?_
      refine AO.yld _ (Yld.move rfl) rfl rfl rfl ?_
      refine AO.yld _ (Yld.int rfl rfl rfl) rfl rfl rfl ?_
      refine AO.nil ?_
      refine AC.cond _ rfl (fun c7 => ?_) (fun c7 => ?_)
      · -- c7 True
        have hj : 0 < j := by simpa using c7
        have hps := pow_step hJ.2.2.1 (by omega)
        have htm : ((j : Int)).tmod 10 = ((j % 10 : Nat) : Int) := by rw [Int.tmod_eq_emod_of_nonneg (by omega)]; omega
        refine AC.skip ?_
        refine AC.block ?_
        refine AC.seq ?_
        refine AC.region ?_
        refine AO.yld _ (Yld.move rfl) rfl rfl rfl ?_
        refine AO.yld _ (Yld.rem rfl rfl (by omega)) rfl rfl rfl ?_
        refine AO.yld _ (Yld.add rfl rfl (by omega) (by omega)) rfl rfl rfl ?_
        refine AO.yld _ (Yld.convInt Try.underlying3 Try.underlying5 rfl) rfl rfl rfl ?_
        refine AO.buildSlice (rows := [[_]]) 0 Try.underlying44 ty5 rfl rfl rfl rfl rfl rfl rfl rfl rfl ?_
        refine AO.yld _ (Yld.convBytes (l := [UInt8.ofNat (48 + j % 10)]) Try.underlying44 Try.underlying5 Try.underlying9 rfl (by show some (PV.sl 1 [[PV.v (.int .u8 (IntKind.u8.wrap (48 + (j : Int).tmod 10)))]]) = _; rw [digit_u8 rfl]; rfl)) rfl rfl rfl ?_
        refine AO.yld _ (Yld.move rfl) rfl rfl rfl ?_
        refine AO.yld _ (Yld.cat rfl rfl (by simp only [List.length_singleton]; omega)) rfl rfl rfl ?_
        refine AO.yld _ (Yld.assign rfl) rfl rfl rfl ?_
        refine AO.nil ?_
        refine AC.region ?_
        refine AO.yld _ (Yld.move rfl) rfl rfl rfl ?_
        refine AO.yld _ (Yld.quoP rfl rfl (by omega) (by omega) (by omega)) rfl rfl rfl ?_
        refine AO.yld _ (Yld.assign rfl) rfl rfl rfl ?_
        refine AO.nil ?_
        refine AC.mark ?_
        refine AC.back ⟨j / 10, UInt8.ofNat (48 + j % 10) :: acc, ?_, ?_, ⟨?_, ?_, trivial⟩, trivial, ⟨rfl, trivial⟩, trivial⟩
        · exact ⟨(mt_step (by omega) acc).symm.trans hJ.1, by simp only [List.length_cons]; omega, hps.2, by omega⟩
        · omega
        · show some (AV.p (PV.v (Value.int IntKind.i64 _))) = _; rw [Int.tdiv_eq_ediv_of_nonneg (by omega)]; rfl
        · rfl
      · -- c7 False
        obtain rfl : j = 0 := by have h := c7; simp at h; exact h
        refine AC.exit rfl ?_
        refine AC.seq ?_
        refine AC.region ?_
        refine AO.yld _ (Yld.move rfl) rfl rfl rfl ?_
        refine AO.yld _ (Yld.cat rfl rfl (by have := hJ.2.1; show [(109 : UInt8)].length + _ < _; simp only [List.length_singleton]; omega)) rfl rfl rfl ?_
        refine AO.yld _ (Yld.assign rfl) rfl rfl rfl ?_
        refine AO.nil ?_
        refine Pure.ret Try.results49 (RVs.cons (RV.tmp rfl) RVs.nil) rfl ?_
        first
          | (refine congrArg (fun s => PV.v (str s)) ?_; have h := hJ.1; rw [mt_zero] at h; rw [h, mText, if_neg (by omega)]; rfl)
          | (refine congrArg (fun s => PV.v (str s)) ?_; rw [mText, if_pos (by simpa using c5)])

theorem laws_markSettingS_c {xs : List NV} {k0 : Int} (h0 : 0 ≤ k0) (h1 : k0 ≤ 10000000000000) (hn : xs.length ≤ 1048576) :
    FnE (α := Unit) Try.prog 13 [.h 0, .p (.v (.int .i64 k0))] [(0, .vec 66 2 (xs.map encNV))] [0] (fun _ => True) (fun _ => .p (.v (.int .i64 (k0 + ((xs.length * 2 : Nat) : Int))))) (fun _ => [(0, .vec 66 2 (mkAll [true, false] k0 xs.length))]) := by
  have hM : (xs.map encNV).length = xs.length := List.length_map ..
  refine FnE.intro Try.func13 rfl Try.ntmps13 rfl rfl (fun w0 F0 η φ w => ?_)
  refine AC.seq ?_
  refine AC.region ?_
  refine AO.yld _ (Yld.assign rfl) rfl rfl rfl ?_
  refine AO.nil ?_
  refine AC.seq ?_
  refine AC.seq ?_
  refine AC.region ?_
  refine AO.yld _ (Yld.assign rfl) rfl rfl rfl ?_
  refine AO.nil ?_
  refine AC.block ?_
  refine AC.loopC [(0, _), (4, _)] [(900, _)] (fun (k : Nat) => [(5, .p (.v (.int .i64 (k : Int)))), (1, .p (.v (.int .i64 (k0 + ((k * 2 : Nat) : Int)))))]) (fun (k : Nat) => [(0, .vec 66 2 (mkd [true, false] k0 (xs.map encNV) k))]) (fun (k : Nat) => k ≤ xs.length) (fun (k : Nat) => xs.length - k) 0 ⟨rfl, rfl, trivial⟩ ⟨rfl, trivial⟩ ⟨rfl, by show some (AV.p (PV.v (Value.int IntKind.i64 _))) = _; simp, trivial⟩ ⟨by rw [mkd_zero]; rfl, trivial⟩ ?_ (fun k hJ => ?_)
  · exact Nat.zero_le _
  · -- round
    refine AC.seq ?_
    refine AC.seq ?_
    refine AC.region ?_
    refine AO.yld _ (Yld.move rfl) rfl rfl rfl ?_
    refine AO.yld _ (Yld.move rfl) rfl rfl rfl ?_
    refine AO.yld _ (Yld.len Try.underlying24 rfl rfl) rfl rfl rfl ?_
    refine AO.yld _ (Yld.int rfl rfl rfl) rfl rfl rfl ?_
    refine AO.nil ?_
    refine AC.cond _ rfl (fun c9 => ?_) (fun c9 => ?_)
    · -- c9 True
      have hk : k < xs.length := by have h := c9; rw [mkd_length (by omega), hM] at h; simpa using h
      obtain ⟨x, hx⟩ := get_some hk
      have hrow := map_row (enc := encNV) hx
      refine AC.skip ?_
      refine AC.seq ?_
      refine AC.block ?_
      refine AC.seq ?_
      refine AC.region ?_
      refine AO.yld _ (Yld.move rfl) rfl rfl rfl ?_
      refine AO.yld _ (Yld.move rfl) rfl rfl rfl ?_
      refine AO.yld _ (Yld.move rfl) rfl rfl rfl ?_
      refine AO.yld _ (Yld.call rfl rfl Try.call49 rfl rfl rfl (laws_markText_c (by omega)) rfl) rfl rfl rfl ?_
      refine AO.yld _ (Yld.indexVec Try.underlying24 Try.sizeOf66 rfl rfl rfl rfl (by first | (rw [mkd_length (by omega), hM]; exact hk) | (simp only [List.length_set]; rw [mkd_length (by omega), hM]; exact hk))) rfl rfl rfl ?_
      refine AO.yld _ (Yld.fieldAddr Try.underlying66 rfl rfl Try.sizeOf9 rfl (behind_el rfl (mkd_get hrow)) rfl) rfl rfl rfl ?_
      refine AO.store Try.sizeOf9 rfl rfl rfl rfl rfl (store_el rfl (mkd_get hrow) rfl rfl) ?_
      refine AO.nil ?_
      refine AC.seq ?_
      refine AC.region ?_
      refine AO.yld _ (Yld.move rfl) rfl rfl rfl ?_
      refine AO.yld _ (Yld.add rfl rfl (by omega) (by omega)) rfl rfl rfl ?_
      refine AO.yld _ (Yld.assign rfl) rfl rfl rfl ?_
      refine AO.nil ?_
      refine AC.seq ?_
      refine AC.region ?_
      refine AO.yld _ (Yld.move rfl) rfl rfl rfl ?_
      refine AO.yld _ (Yld.move rfl) rfl rfl rfl ?_
      refine AO.yld _ (Yld.move rfl) rfl rfl rfl ?_
      refine AO.yld _ (Yld.indexVec Try.underlying24 Try.sizeOf66 rfl rfl rfl rfl (by first | (rw [mkd_length (by omega), hM]; exact hk) | (simp only [List.length_set]; rw [mkd_length (by omega), hM]; exact hk))) rfl rfl rfl ?_
      refine AO.yld _ (Yld.fieldAddr Try.underlying66 rfl rfl Try.sizeOf2 rfl (behind_el rfl (set_get (by first | (rw [mkd_length (by omega), hM]; exact hk) | (simp only [List.length_set]; rw [mkd_length (by omega), hM]; exact hk)))) rfl) rfl rfl rfl ?_
      refine AO.store Try.sizeOf2 rfl rfl rfl rfl rfl (store_el rfl (set_get (by first | (rw [mkd_length (by omega), hM]; exact hk) | (simp only [List.length_set]; rw [mkd_length (by omega), hM]; exact hk))) rfl rfl) ?_
      refine AO.nil ?_
      refine AC.region ?_
      refine AO.yld _ (Yld.move rfl) rfl rfl rfl ?_
      refine AO.yld _ (Yld.add rfl rfl (by omega) (by omega)) rfl rfl rfl ?_
      refine AO.yld _ (Yld.assign rfl) rfl rfl rfl ?_
      refine AO.nil ?_
      refine AC.mark ?_
      refine AC.region ?_
      refine AO.yld _ (Yld.move rfl) rfl rfl rfl ?_
      refine AO.yld _ (Yld.add rfl rfl (by omega) (by omega)) rfl rfl rfl ?_
      refine AO.yld _ (Yld.assign rfl) rfl rfl rfl ?_
      refine AO.nil ?_
      refine AC.back ⟨k + 1, ?_, ?_, ⟨?_, ?_, trivial⟩, ⟨?_, trivial⟩, ⟨rfl, rfl, trivial⟩, ⟨rfl, trivial⟩⟩
      · exact hk
      · omega
      · rfl
      · show some (AV.p (PV.v (Value.int IntKind.i64 _))) = _; congr 4; omega
      · try simp only [List.set_set]
        rw [← mkd_set (by rw [hM]; exact hk)]; rfl
    · -- c9 False
      obtain rfl : k = xs.length := by have h := c9; rw [mkd_length (by omega), hM] at h; simp at h; omega
      refine AC.exit rfl ?_
      refine AC.seq ?_
      refine AC.region ?_
      refine AO.yld _ (Yld.move rfl) rfl rfl rfl ?_
      refine AO.yld _ (Yld.assign rfl) rfl rfl rfl ?_
      refine AO.nil ?_
      refine FnE.ret () [0] [0] Try.results13 (RVs.cons (RV.tmp rfl) RVs.nil) rfl rfl rfl ?_ ?_ ⟨⟨_, rfl, ?_⟩, trivial⟩
      · -- holds
        trivial
      · -- value
        rfl
      · -- thing 0
        exact vecE (by rw [← hM, mkd_end])

theorem laws_heldSettingS_c {k0 : Int} {n : Nat} (h0 : 0 ≤ k0) (h1 : k0 ≤ 10000000000000) (hn : n ≤ 1048576) :
    Pure Try.prog 14 [.sl 2 (mkAll [true, false] k0 n), .v (.int .i64 k0)] (.v (.int .i64 (k0 + ((n * 2 : Nat) : Int)))) := by
  refine Pure.intro Try.func14 rfl Try.ntmps14 rfl rfl (fun w => ?_)
  refine AC.seq ?_
  refine AC.region ?_
  refine AO.yld _ (Yld.assign rfl) rfl rfl rfl ?_
  refine AO.nil ?_
  refine AC.seq ?_
  refine AC.seq ?_
  refine AC.region ?_
  refine AO.yld _ (Yld.assign rfl) rfl rfl rfl ?_
  refine AO.nil ?_
  refine AC.block ?_
  refine AC.loopC [(0, _)] [] (fun (k : Nat) => [(5, .p (.v (.int .i64 (k : Int)))), (1, .p (.v (.int .i64 (k0 + ((k * 2 : Nat) : Int)))))]) (fun (k : Nat) => []) (fun (k : Nat) => k ≤ n) (fun (k : Nat) => n - k) 0 ⟨rfl, trivial⟩ trivial ⟨rfl, by show some (AV.p (PV.v (Value.int IntKind.i64 _))) = _; simp, trivial⟩ trivial ?_ (fun k hJ => ?_)
  · exact Nat.zero_le _
  · -- round
    refine AC.seq ?_
    refine AC.seq ?_
    refine AC.region ?_
    refine AO.yld _ (Yld.move rfl) rfl rfl rfl ?_
    refine AO.yld _ (Yld.move rfl) rfl rfl rfl ?_
    refine AO.yld _ (Yld.len Try.underlying24 rfl rfl) rfl rfl rfl ?_
    refine AO.yld _ (Yld.int rfl rfl rfl) rfl rfl rfl ?_
    refine AO.nil ?_
    refine AC.cond _ rfl (fun c9 => ?_) (fun c9 => ?_)
    · -- c9 True
      have hk : k < n := by have h := c9; rw [mkAll_length] at h; simpa using h
      have hrow := mkAll_get (ks := [true, false]) (k0 := k0) hk
      refine AC.skip ?_
      refine AC.seq ?_
      refine AC.block ?_
      refine AC.seq ?_
      refine AC.seq ?_
      refine AC.draw (by kernel_rfl) (by kernel_rfl) ?_
      refine AO.yld _ (Yld.move rfl) rfl rfl rfl ?_
      refine AO.yld _ (Yld.move rfl) rfl rfl rfl ?_
      refine AO.yld _ (Yld.indexSl Try.underlying24 Try.sizeOf66 rfl rfl hrow rfl) rfl rfl rfl ?_
      refine AO.yld _ (Yld.fieldAddr Try.underlying66 rfl rfl Try.sizeOf9 rfl rfl rfl) rfl rfl rfl ?_
      refine AO.yld _ (Yld.load Try.isAgg9 rfl rfl) rfl rfl rfl ?_
      refine AO.yld _ (Yld.move rfl) rfl rfl rfl ?_
      refine AO.yld _ (Yld.call rfl rfl Try.call49 rfl rfl rfl (laws_markText_c (by omega)) rfl) rfl rfl rfl ?_
      refine AO.yld _ (Yld.cmpStr rfl rfl rfl) rfl rfl rfl ?_
      refine AO.nil ?_
      refine AC.cond _ rfl (fun c19 => ?_) (fun c19 => ?_)
      · -- c19 True
        exfalso; simp at c19
      · -- c19 False
        refine AC.skip ?_
        refine AC.seq ?_
        refine AC.region ?_
        refine AO.yld _ (Yld.move rfl) rfl rfl rfl ?_
        refine AO.yld _ (Yld.add rfl rfl (by omega) (by omega)) rfl rfl rfl ?_
        refine AO.yld _ (Yld.assign rfl) rfl rfl rfl ?_
        refine AO.nil ?_
        refine AC.seq ?_
        refine AC.seq ?_
        refine AC.region ?_
        refine AO.yld _ (Yld.move rfl) rfl rfl rfl ?_
        refine AO.yld _ (Yld.move rfl) rfl rfl rfl ?_
        refine AO.yld _ (Yld.indexSl Try.underlying24 Try.sizeOf66 rfl rfl hrow rfl) rfl rfl rfl ?_
        refine AO.yld _ (Yld.fieldAddr Try.underlying66 rfl rfl Try.sizeOf2 rfl rfl rfl) rfl rfl rfl ?_
        refine AO.yld _ (Yld.load Try.isAgg2 rfl rfl) rfl rfl rfl ?_
        refine AO.yld _ (Yld.move rfl) rfl rfl rfl ?_
        refine AO.yld _ (Yld.int rfl rfl rfl) rfl rfl rfl ?_
        refine AO.nil ?_
        refine AC.cond _ rfl (fun c28 => ?_) (fun c28 => ?_)
        · -- c28 True
          exfalso; simp at c28
        · -- c28 False
          refine AC.skip ?_
          refine AC.region ?_
          refine AO.yld _ (Yld.move rfl) rfl rfl rfl ?_
          refine AO.yld _ (Yld.add rfl rfl (by omega) (by omega)) rfl rfl rfl ?_
          refine AO.yld _ (Yld.assign rfl) rfl rfl rfl ?_
          refine AO.nil ?_
          refine AC.mark ?_
          refine AC.region ?_
          refine AO.yld _ (Yld.move rfl) rfl rfl rfl ?_
          refine AO.yld _ (Yld.add rfl rfl (by omega) (by omega)) rfl rfl rfl ?_
          refine AO.yld _ (Yld.assign rfl) rfl rfl rfl ?_
          refine AO.nil ?_
          refine AC.back ⟨k + 1, ?_, ?_, ⟨?_, ?_, trivial⟩, trivial, ⟨rfl, trivial⟩, trivial⟩
          · exact hk
          · omega
          · rfl
          · show some (AV.p (PV.v (Value.int IntKind.i64 _))) = _; congr 4; omega
    · -- c9 False
      obtain rfl : k = n := by have h := c9; rw [mkAll_length] at h; simp at h; omega
      refine AC.exit rfl ?_
      refine AC.seq ?_
      refine AC.region ?_
      refine AO.yld _ (Yld.move rfl) rfl rfl rfl ?_
      refine AO.yld _ (Yld.assign rfl) rfl rfl rfl ?_
      refine AO.nil ?_
      refine Pure.ret Try.results14 (RVs.cons (RV.tmp rfl) RVs.nil) rfl ?_
      rfl

theorem laws_markStringS_c {xs : List (List UInt8)} {k0 : Int} (h0 : 0 ≤ k0) (h1 : k0 ≤ 10000000000000) (hn : xs.length ≤ 1048576) :
    FnE (α := Unit) Try.prog 18 [.h 0, .p (.v (.int .i64 k0))] [(0, .vec 9 1 (xs.map Go.V.encS))] [0] (fun _ => True) (fun _ => .p (.v (.int .i64 (k0 + ((xs.length * 1 : Nat) : Int))))) (fun _ => [(0, .vec 9 1 (mkAll [true] k0 xs.length))]) := by
  have hM : (xs.map Go.V.encS).length = xs.length := List.length_map ..
  refine FnE.intro Try.func18 rfl Try.ntmps18 rfl rfl (fun w0 F0 η φ w => ?_)
  refine AC.seq ?_
  refine AC.region ?_
  refine AO.yld _ (Yld.assign rfl) rfl rfl rfl ?_
  refine AO.nil ?_
  refine AC.seq ?_
  refine AC.seq ?_
  refine AC.region ?_
  refine AO.yld _ (Yld.assign rfl) rfl rfl rfl ?_
  refine AO.nil ?_
  refine AC.block ?_
  refine AC.loopC [(0, _), (4, _)] [(900, _)] (fun (k : Nat) => [(5, .p (.v (.int .i64 (k : Int)))), (1, .p (.v (.int .i64 (k0 + ((k * 1 : Nat) : Int)))))]) (fun (k : Nat) => [(0, .vec 9 1 (mkd [true] k0 (xs.map Go.V.encS) k))]) (fun (k : Nat) => k ≤ xs.length) (fun (k : Nat) => xs.length - k) 0 ⟨rfl, rfl, trivial⟩ ⟨rfl, trivial⟩ ⟨rfl, by show some (AV.p (PV.v (Value.int IntKind.i64 _))) = _; simp, trivial⟩ ⟨by rw [mkd_zero]; rfl, trivial⟩ ?_ (fun k hJ => ?_)
  · exact Nat.zero_le _
  · -- round
    refine AC.seq ?_
    refine AC.seq ?_
    refine AC.region ?_
    refine AO.yld _ (Yld.move rfl) rfl rfl rfl ?_
    refine AO.yld _ (Yld.move rfl) rfl rfl rfl ?_
    refine AO.yld _ (Yld.len Try.underlying31 rfl rfl) rfl rfl rfl ?_
    refine AO.yld _ (Yld.int rfl rfl rfl) rfl rfl rfl ?_
    refine AO.nil ?_
    refine AC.cond _ rfl (fun c9 => ?_) (fun c9 => ?_)
    · -- c9 True
      have hk : k < xs.length := by have h := c9; rw [mkd_length (by omega), hM] at h; simpa using h
      obtain ⟨x, hx⟩ := get_some hk
      have hrow := map_row (enc := Go.V.encS) hx
      refine AC.skip ?_
      refine AC.seq ?_
      refine AC.block ?_
      refine AC.seq ?_
      refine AC.region ?_
      refine AO.yld _ (Yld.move rfl) rfl rfl rfl ?_
      refine AO.yld _ (Yld.move rfl) rfl rfl rfl ?_
      refine AO.yld _ (Yld.move rfl) rfl rfl rfl ?_
      refine AO.yld _ (Yld.call rfl rfl Try.call49 rfl rfl rfl (laws_markText_c (by omega)) rfl) rfl rfl rfl ?_
      refine AO.yld _ (Yld.indexVec Try.underlying31 Try.sizeOf9 rfl rfl rfl rfl (by first | (rw [mkd_length (by omega), hM]; exact hk) | (simp only [List.length_set]; rw [mkd_length (by omega), hM]; exact hk))) rfl rfl rfl ?_
      refine AO.store Try.sizeOf9 rfl rfl rfl rfl rfl (store_el rfl (mkd_get hrow) rfl rfl) ?_
      refine AO.nil ?_
      refine AC.region ?_
      refine AO.yld _ (Yld.move rfl) rfl rfl rfl ?_
      refine AO.yld _ (Yld.add rfl rfl (by omega) (by omega)) rfl rfl rfl ?_
      refine AO.yld _ (Yld.assign rfl) rfl rfl rfl ?_
      refine AO.nil ?_
      refine AC.mark ?_
      refine AC.region ?_
      refine AO.yld _ (Yld.move rfl) rfl rfl rfl ?_
      refine AO.yld _ (Yld.add rfl rfl (by omega) (by omega)) rfl rfl rfl ?_
      refine AO.yld _ (Yld.assign rfl) rfl rfl rfl ?_
      refine AO.nil ?_
      refine AC.back ⟨k + 1, ?_, ?_, ⟨?_, ?_, trivial⟩, ⟨?_, trivial⟩, ⟨rfl, rfl, trivial⟩, ⟨rfl, trivial⟩⟩
      · exact hk
      · omega
      · rfl
      · show some (AV.p (PV.v (Value.int IntKind.i64 _))) = _; congr 4; omega
      · try simp only [List.set_set]
        rw [← mkd_set (by rw [hM]; exact hk)]; rfl
    · -- c9 False
      obtain rfl : k = xs.length := by have h := c9; rw [mkd_length (by omega), hM] at h; simp at h; omega
      refine AC.exit rfl ?_
      refine AC.seq ?_
      refine AC.region ?_
      refine AO.yld _ (Yld.move rfl) rfl rfl rfl ?_
      refine AO.yld _ (Yld.assign rfl) rfl rfl rfl ?_
      refine AO.nil ?_
      refine FnE.ret () [0] [0] Try.results18 (RVs.cons (RV.tmp rfl) RVs.nil) rfl rfl rfl ?_ ?_ ⟨⟨_, rfl, ?_⟩, trivial⟩
      · -- holds
        trivial
      · -- value
        rfl
      · -- thing 0
        exact vecE (by rw [← hM, mkd_end])

theorem laws_heldStringS_c {k0 : Int} {n : Nat} (h0 : 0 ≤ k0) (h1 : k0 ≤ 10000000000000) (hn : n ≤ 1048576) :
    Pure Try.prog 19 [.sl 1 (mkAll [true] k0 n), .v (.int .i64 k0)] (.v (.int .i64 (k0 + ((n * 1 : Nat) : Int)))) := by
  refine Pure.intro Try.func19 rfl Try.ntmps19 rfl rfl (fun w => ?_)
  refine AC.seq ?_
  refine AC.region ?_
  refine AO.yld _ (Yld.assign rfl) rfl rfl rfl ?_
  refine AO.nil ?_
  refine AC.seq ?_
  refine AC.seq ?_
  refine AC.region ?_
  refine AO.yld _ (Yld.assign rfl) rfl rfl rfl ?_
  refine AO.nil ?_
  refine AC.block ?_
  refine AC.loopC [(0, _)] [] (fun (k : Nat) => [(5, .p (.v (.int .i64 (k : Int)))), (1, .p (.v (.int .i64 (k0 + ((k * 1 : Nat) : Int)))))]) (fun (k : Nat) => []) (fun (k : Nat) => k ≤ n) (fun (k : Nat) => n - k) 0 ⟨rfl, trivial⟩ trivial ⟨rfl, by show some (AV.p (PV.v (Value.int IntKind.i64 _))) = _; simp, trivial⟩ trivial ?_ (fun k hJ => ?_)
  · exact Nat.zero_le _
  · -- round
    refine AC.seq ?_
    refine AC.seq ?_
    refine AC.region ?_
    refine AO.yld _ (Yld.move rfl) rfl rfl rfl ?_
    refine AO.yld _ (Yld.move rfl) rfl rfl rfl ?_
    refine AO.yld _ (Yld.len Try.underlying31 rfl rfl) rfl rfl rfl ?_
    refine AO.yld _ (Yld.int rfl rfl rfl) rfl rfl rfl ?_
    refine AO.nil ?_
    refine AC.cond _ rfl (fun c9 => ?_) (fun c9 => ?_)
    · -- c9 True
      have hk : k < n := by have h := c9; rw [mkAll_length] at h; simpa using h
      have hrow := mkAll_get (ks := [true]) (k0 := k0) hk
      refine AC.skip ?_
      refine AC.seq ?_
      refine AC.block ?_
      refine AC.seq ?_
      refine AC.seq ?_
      refine AC.draw (by kernel_rfl) (by kernel_rfl) ?_
      refine AO.yld _ (Yld.move rfl) rfl rfl rfl ?_
      refine AO.yld _ (Yld.move rfl) rfl rfl rfl ?_
      refine AO.yld _ (Yld.indexSl Try.underlying31 Try.sizeOf9 rfl rfl hrow rfl) rfl rfl rfl ?_
      refine AO.yld _ (Yld.load Try.isAgg9 rfl rfl) rfl rfl rfl ?_
      refine AO.yld _ (Yld.move rfl) rfl rfl rfl ?_
      refine AO.yld _ (Yld.call rfl rfl Try.call49 rfl rfl rfl (laws_markText_c (by omega)) rfl) rfl rfl rfl ?_
      refine AO.yld _ (Yld.cmpStr rfl rfl rfl) rfl rfl rfl ?_
      refine AO.nil ?_
      refine AC.cond _ rfl (fun c18 => ?_) (fun c18 => ?_)
      · -- c18 True
        exfalso; simp at c18
      · -- c18 False
        refine AC.skip ?_
        refine AC.region ?_
        refine AO.yld _ (Yld.move rfl) rfl rfl rfl ?_
        refine AO.yld _ (Yld.add rfl rfl (by omega) (by omega)) rfl rfl rfl ?_
        refine AO.yld _ (Yld.assign rfl) rfl rfl rfl ?_
        refine AO.nil ?_
        refine AC.mark ?_
        refine AC.region ?_
        refine AO.yld _ (Yld.move rfl) rfl rfl rfl ?_
        refine AO.yld _ (Yld.add rfl rfl (by omega) (by omega)) rfl rfl rfl ?_
        refine AO.yld _ (Yld.assign rfl) rfl rfl rfl ?_
        refine AO.nil ?_
        refine AC.back ⟨k + 1, ?_, ?_, ⟨?_, ?_, trivial⟩, trivial, ⟨rfl, trivial⟩, trivial⟩
        · exact hk
        · omega
        · rfl
        · show some (AV.p (PV.v (Value.int IntKind.i64 _))) = _; congr 4; omega
    · -- c9 False
      obtain rfl : k = n := by have h := c9; rw [mkAll_length] at h; simp at h; omega
      refine AC.exit rfl ?_
      refine AC.seq ?_
      refine AC.region ?_
      refine AO.yld _ (Yld.move rfl) rfl rfl rfl ?_
      refine AO.yld _ (Yld.assign rfl) rfl rfl rfl ?_
      refine AO.nil ?_
      refine Pure.ret Try.results19 (RVs.cons (RV.tmp rfl) RVs.nil) rfl ?_
      rfl

theorem spec_l27Memo_c {s : List UInt8} (hn : s.length ≤ 1048576) :
    Pure Try.prog 79 [.v (str s)] (.v (.bool (okMemo s))) := by
  refine Pure.intro Try.func79 rfl Try.ntmps79 rfl rfl (fun w => ?_)
  refine AC.seq ?_
  refine AC.region ?_
  refine AO.yld _ (Yld.assign rfl) rfl rfl rfl ?_
  refine AO.nil ?_
  refine AC.seq ?_
  refine AC.seq ?_
  refine AC.region ?_
  refine AO.yld _ (Yld.assign rfl) rfl rfl rfl ?_
  refine AO.nil ?_
  refine AC.block ?_
  refine AC.loopC [(0, _)] [] (fun (k : Nat) => [(3, .p (.v (.int .i64 (k : Int))))]) (fun (k : Nat) => []) (fun (k : Nat) => k ≤ s.length ∧ allTo memoByte s k = true) (fun (k : Nat) => s.length - k) 0 ⟨rfl, trivial⟩ trivial ⟨rfl, trivial⟩ trivial ?_ (fun k hJ => ?_)
  · exact ⟨Nat.zero_le _, rfl⟩
  · -- round
    refine AC.seq ?_
    refine AC.seq ?_
    refine AC.region ?_
    refine AO.yld _ (Yld.move rfl) rfl rfl rfl ?_
    refine AO.yld _ (Yld.move rfl) rfl rfl rfl ?_
    refine AO.yld _ (Yld.lenStr Try.underlying9 rfl) rfl rfl rfl ?_
    refine AO.yld _ (Yld.int rfl rfl rfl) rfl rfl rfl ?_
    refine AO.nil ?_
    refine AC.cond _ rfl (fun c7 => ?_) (fun c7 => ?_)
    · -- c7 True
      have hk := lt_of_dec c7
      obtain ⟨x, hx⟩ := get_some hk
      refine AC.skip ?_
      refine AC.seq ?_
      refine AC.block ?_
      refine AC.seq ?_
      refine AC.region ?_
      refine AO.yld _ (Yld.move rfl) rfl rfl rfl ?_
      refine AO.yld _ (Yld.move rfl) rfl rfl rfl ?_
      refine AO.yld _ (Yld.indexStr Try.underlying9 rfl rfl (by omega) (by simpa using hx)) rfl rfl rfl ?_
      refine AO.yld _ (Yld.int rfl rfl rfl) rfl rfl rfl ?_
      refine AO.yld _ (Yld.move rfl) rfl rfl rfl ?_
      refine AO.splitAt 14 _ rfl (fun s14 => ?_) (fun s14 => ?_)
      · -- s14 True
        refine AO.skipF rfl rfl rfl rfl rfl ?_
        refine AO.skipF rfl rfl rfl rfl rfl ?_
        refine AO.skipF rfl rfl rfl rfl rfl ?_
        refine AO.skipF rfl rfl rfl rfl rfl ?_
        refine AO.yld _ (Yld.pickT rfl rfl) rfl rfl rfl ?_
        refine AO.nil ?_
        refine AC.condT rfl ?_
        refine AC.seq ?_
        refine AC.region ?_
        refine AO.yld _ (Yld.assign rfl) rfl rfl rfl ?_
        refine AO.nil ?_
        refine Pure.ret Try.results79 (RVs.cons (RV.tmp rfl) RVs.nil) rfl ?_
        first
          | (refine cb ?_; rw [okMemo, all_miss hx (by simp only [memoByte]; first | (simp_all; done) | (simp_all; omega) | (simp_all; intros; omega)), Bool.false_and])
          | (refine cb ?_; rw [okMemo, all_memo hJ.2, Bool.true_and]; exact decide_eq_decide.2 (by omega))
      · -- s14 False
        refine AO.yldG _ (Yld.move rfl) rfl rfl rfl rfl rfl ?_
        refine AO.yldG _ (Yld.move rfl) rfl rfl rfl rfl rfl ?_
        refine AO.yldG _ (Yld.indexStr Try.underlying9 rfl rfl (by omega) (by simpa using hx)) rfl rfl rfl rfl rfl ?_
        refine AO.yldG _ (Yld.int rfl rfl rfl) rfl rfl rfl rfl rfl ?_
        refine AO.yld _ (Yld.pickF rfl rfl) rfl rfl rfl ?_
        refine AO.nil ?_
        refine AC.cond _ rfl (fun c19 => ?_) (fun c19 => ?_)
        · -- c19 True
          refine AC.seq ?_
          refine AC.region ?_
          refine AO.yld _ (Yld.assign rfl) rfl rfl rfl ?_
          refine AO.nil ?_
          refine Pure.ret Try.results79 (RVs.cons (RV.tmp rfl) RVs.nil) rfl ?_
          first
            | (refine cb ?_; rw [okMemo, all_miss hx (by simp only [memoByte]; first | (simp_all; done) | (simp_all; omega) | (simp_all; intros; omega)), Bool.false_and])
            | (refine cb ?_; rw [okMemo, all_memo hJ.2, Bool.true_and]; exact decide_eq_decide.2 (by omega))
        · -- c19 False
          refine AC.skip ?_
          refine AC.mark ?_
          refine AC.region ?_
          refine AO.yld _ (Yld.move rfl) rfl rfl rfl ?_
          refine AO.yld _ (Yld.add rfl rfl (by omega) (by omega)) rfl rfl rfl ?_
          refine AO.yld _ (Yld.assign rfl) rfl rfl rfl ?_
          refine AO.nil ?_
          refine AC.back ⟨k + 1, ?_, ?_, ⟨?_, trivial⟩, trivial, ⟨rfl, trivial⟩, trivial⟩
          · exact ⟨hk, by rw [allTo_succ hx, hJ.2, Bool.true_and]; exact (by simp only [memoByte]; first | (simp_all; done) | (simp_all; omega) | (simp_all; intros; omega))⟩
          · omega
          · rfl
    · -- c7 False
      obtain rfl : k = s.length := by have := ge_of_dec c7; omega
      refine AC.exit rfl ?_
      refine AC.seq ?_
      refine AC.region ?_
      refine AO.yld _ (Yld.move rfl) rfl rfl rfl ?_
      refine AO.yld _ (Yld.lenStr Try.underlying9 rfl) rfl rfl rfl ?_
      refine AO.yld _ (Yld.int rfl rfl rfl) rfl rfl rfl ?_
      refine AO.yld _ (Yld.assign rfl) rfl rfl rfl ?_
      refine AO.nil ?_
      refine Pure.ret Try.results79 (RVs.cons (RV.tmp rfl) RVs.nil) rfl ?_
      first
        | (refine cb ?_; rw [okMemo, all_miss hx (by simp only [memoByte]; first | (simp_all; done) | (simp_all; omega) | (simp_all; intros; omega)), Bool.false_and])
        | (refine cb ?_; rw [okMemo, all_memo hJ.2, Bool.true_and]; exact decide_eq_decide.2 (by omega))

theorem impl_validMemo_c {s : List UInt8} (hn : s.length ≤ 1048576) :
    Pure Try.prog 74 [.v (str s)] (.v (.bool (okMemo s))) := by
  refine Pure.intro Try.func74 rfl Try.ntmps74 rfl rfl (fun w => ?_)
  refine AC.seq ?_
  refine AC.region ?_
  refine AO.yld _ (Yld.assign rfl) rfl rfl rfl ?_
  refine AO.nil ?_
  refine AC.seq ?_
  refine AC.seq ?_
  refine AC.region ?_
  refine AO.yld _ (Yld.move rfl) rfl rfl rfl ?_
  refine AO.yld _ (Yld.lenStr Try.underlying9 rfl) rfl rfl rfl ?_
  refine AO.yld _ (Yld.int rfl rfl rfl) rfl rfl rfl ?_
  refine AO.nil ?_
  refine AC.cond _ rfl (fun c6 => ?_) (fun c6 => ?_)
  · -- c6 True
    refine AC.seq ?_
    refine AC.region ?_
    refine AO.yld _ (Yld.assign rfl) rfl rfl rfl ?_
    refine AO.nil ?_
    refine Pure.ret Try.results74 (RVs.cons (RV.tmp rfl) RVs.nil) rfl ?_
    first
      | (refine cb ?_; rw [okMemo, all_miss hx (by simp only [memoByte]; first | (simp_all; done) | (simp_all; omega) | (simp_all; intros; omega)), Bool.false_and])
      | (refine cb ?_; rw [okMemo, lenN (K := 20) rfl c6]; simp; done)
      | (refine cb ?_; rw [okMemo, lenN (K := 20) rfl c6, all_memo hJ.2]; rfl)
  · -- c6 False
    refine AC.skip ?_
    refine AC.seq ?_
    refine AC.seq ?_
    refine AC.region ?_
    refine AO.yld _ (Yld.assign rfl) rfl rfl rfl ?_
    refine AO.nil ?_
    refine AC.block ?_
    refine AC.loopC [(0, _)] [] (fun (k : Nat) => [(3, .p (.v (.int .i64 (k : Int))))]) (fun (k : Nat) => []) (fun (k : Nat) => k ≤ s.length ∧ allTo memoByte s k = true) (fun (k : Nat) => s.length - k) 0 ⟨rfl, trivial⟩ trivial ⟨rfl, trivial⟩ trivial ?_ (fun k hJ => ?_)
    · exact ⟨Nat.zero_le _, rfl⟩
    · -- round
      refine AC.seq ?_
      refine AC.seq ?_
      refine AC.region ?_
      refine AO.yld _ (Yld.move rfl) rfl rfl rfl ?_
      refine AO.yld _ (Yld.move rfl) rfl rfl rfl ?_
      refine AO.yld _ (Yld.lenStr Try.underlying9 rfl) rfl rfl rfl ?_
      refine AO.yld _ (Yld.int rfl rfl rfl) rfl rfl rfl ?_
      refine AO.nil ?_
      refine AC.cond _ rfl (fun c10 => ?_) (fun c10 => ?_)
      · -- c10 True
        have hk := lt_of_dec c10
        obtain ⟨x, hx⟩ := get_some hk
        refine AC.skip ?_
        refine AC.seq ?_
        refine AC.block ?_
        refine AC.seq ?_
        refine AC.region ?_
        refine AO.yld _ (Yld.move rfl) rfl rfl rfl ?_
        refine AO.yld _ (Yld.move rfl) rfl rfl rfl ?_
        refine AO.yld _ (Yld.indexStr Try.underlying9 rfl rfl (by omega) (by simpa using hx)) rfl rfl rfl ?_
        refine AO.yld _ (Yld.int rfl rfl rfl) rfl rfl rfl ?_
        refine AO.yld _ (Yld.move rfl) rfl rfl rfl ?_
        refine AO.splitAt 17 _ rfl (fun s17 => ?_) (fun s17 => ?_)
        · -- s17 True
          refine AO.skipF rfl rfl rfl rfl rfl ?_
          refine AO.skipF rfl rfl rfl rfl rfl ?_
          refine AO.skipF rfl rfl rfl rfl rfl ?_
          refine AO.skipF rfl rfl rfl rfl rfl ?_
          refine AO.yld _ (Yld.pickT rfl rfl) rfl rfl rfl ?_
          refine AO.nil ?_
          refine AC.condT rfl ?_
          refine AC.seq ?_
          refine AC.region ?_
          refine AO.yld _ (Yld.assign rfl) rfl rfl rfl ?_
          refine AO.nil ?_
          refine Pure.ret Try.results74 (RVs.cons (RV.tmp rfl) RVs.nil) rfl ?_
          first
            | (refine cb ?_; rw [okMemo, all_miss hx (by simp only [memoByte]; first | (simp_all; done) | (simp_all; omega) | (simp_all; intros; omega)), Bool.false_and])
            | (refine cb ?_; rw [okMemo, lenN (K := 20) rfl c6]; simp; done)
            | (refine cb ?_; rw [okMemo, lenN (K := 20) rfl c6, all_memo hJ.2]; rfl)
        · -- s17 False
          refine AO.yldG _ (Yld.move rfl) rfl rfl rfl rfl rfl ?_
          refine AO.yldG _ (Yld.move rfl) rfl rfl rfl rfl rfl ?_
          refine AO.yldG _ (Yld.indexStr Try.underlying9 rfl rfl (by omega) (by simpa using hx)) rfl rfl rfl rfl rfl ?_
          refine AO.yldG _ (Yld.int rfl rfl rfl) rfl rfl rfl rfl rfl ?_
          refine AO.yld _ (Yld.pickF rfl rfl) rfl rfl rfl ?_
          refine AO.nil ?_
          refine AC.cond _ rfl (fun c22 => ?_) (fun c22 => ?_)
          · -- c22 True
            refine AC.seq ?_
            refine AC.region ?_
            refine AO.yld _ (Yld.assign rfl) rfl rfl rfl ?_
            refine AO.nil ?_
            refine Pure.ret Try.results74 (RVs.cons (RV.tmp rfl) RVs.nil) rfl ?_
            first
              | (refine cb ?_; rw [okMemo, all_miss hx (by simp only [memoByte]; first | (simp_all; done) | (simp_all; omega) | (simp_all; intros; omega)), Bool.false_and])
              | (refine cb ?_; rw [okMemo, lenN (K := 20) rfl c6]; simp; done)
              | (refine cb ?_; rw [okMemo, lenN (K := 20) rfl c6, all_memo hJ.2]; rfl)
          · -- c22 False
            refine AC.skip ?_
            refine AC.mark ?_
            refine AC.region ?_
            refine AO.yld _ (Yld.move rfl) rfl rfl rfl ?_
            refine AO.yld _ (Yld.add rfl rfl (by omega) (by omega)) rfl rfl rfl ?_
            refine AO.yld _ (Yld.assign rfl) rfl rfl rfl ?_
            refine AO.nil ?_
            refine AC.back ⟨k + 1, ?_, ?_, ⟨?_, trivial⟩, trivial, ⟨rfl, trivial⟩, trivial⟩
            · exact ⟨hk, by rw [allTo_succ hx, hJ.2, Bool.true_and]; exact (by simp only [memoByte]; first | (simp_all; done) | (simp_all; omega) | (simp_all; intros; omega))⟩
            · omega
            · rfl
      · -- c10 False
        obtain rfl : k = s.length := by have := ge_of_dec c10; omega
        refine AC.exit rfl ?_
        refine AC.seq ?_
        refine AC.region ?_
        refine AO.yld _ (Yld.assign rfl) rfl rfl rfl ?_
        refine AO.nil ?_
        refine Pure.ret Try.results74 (RVs.cons (RV.tmp rfl) RVs.nil) rfl ?_
        first
          | (refine cb ?_; rw [okMemo, all_miss hx (by simp only [memoByte]; first | (simp_all; done) | (simp_all; omega) | (simp_all; intros; omega)), Bool.false_and])
          | (refine cb ?_; rw [okMemo, lenN (K := 20) rfl c6]; simp; done)
          | (refine cb ?_; rw [okMemo, lenN (K := 20) rfl c6, all_memo hJ.2]; rfl)

theorem spec_l27Ok_c {xs : List Ver} (hg : VersGood xs) :
    Pure Try.prog 77 [.sl 4 (xs.map encVer)] (.v (.bool (okVers xs))) := by
  have hn := hg.1
  have hM : (xs.map encVer).length = xs.length := List.length_map ..
  refine Pure.intro Try.func77 rfl Try.ntmps77 rfl rfl (fun w => ?_)
  refine AC.seq ?_
  refine AC.region ?_
  refine AO.yld _ (Yld.assign rfl) rfl rfl rfl ?_
  refine AO.nil ?_
  refine AC.seq ?_
  refine AC.seq ?_
  refine AC.region ?_
  refine AO.yld _ (Yld.assign rfl) rfl rfl rfl ?_
  refine AO.nil ?_
  refine AC.block ?_
  refine AC.loopC [(0, _)] [] (fun (k : Nat) => [(3, .p (.v (.int .i64 (k : Int))))]) (fun (k : Nat) => []) (fun (k : Nat) => k ≤ xs.length ∧ allITo okVer xs k = true) (fun (k : Nat) => xs.length - k) 0 ⟨rfl, trivial⟩ trivial ⟨rfl, trivial⟩ trivial ?_ (fun k hJ => ?_)
  · exact ⟨Nat.zero_le _, rfl⟩
  · -- round
    refine AC.seq ?_
    refine AC.seq ?_
    refine AC.region ?_
    refine AO.yld _ (Yld.move rfl) rfl rfl rfl ?_
    refine AO.yld _ (Yld.move rfl) rfl rfl rfl ?_
    refine AO.yld _ (Yld.len Try.underlying49 rfl rfl) rfl rfl rfl ?_
    refine AO.yld _ (Yld.int rfl rfl rfl) rfl rfl rfl ?_
    refine AO.nil ?_
    refine AC.cond _ rfl (fun c8 => ?_) (fun c8 => ?_)
    · -- c8 True
      have hk := lt_of_decM c8
      obtain ⟨x, hx⟩ := get_some hk
      have hrow := map_row (enc := encVer) hx
      obtain ⟨g1, g2, g3⟩ := hg.2 x (List.mem_of_getElem? hx)
      refine AC.skip ?_
      refine AC.seq ?_
      refine AC.block ?_
      refine AC.seq ?_
      refine AC.region ?_
      refine AO.yld _ (Yld.move rfl) rfl rfl rfl ?_
      refine AO.yld _ (Yld.move rfl) rfl rfl rfl ?_
      refine AO.yld _ (Yld.indexSl Try.underlying49 Try.sizeOf107 rfl rfl hrow rfl) rfl rfl rfl ?_
      refine AO.yld _ (Yld.loadAgg Try.isAgg107 Try.sizeOf107 rfl rfl rfl rfl) rfl rfl rfl ?_
      refine AO.alloc 0 Try.zeroValue107 rfl rfl rfl ?_
      refine AO.store Try.sizeOf107 rfl rfl rfl rfl rfl rfl ?_
      refine AO.nil ?_
      refine AC.seq ?_
      refine AC.region ?_
      refine AO.yld _ (Yld.fieldAddr Try.underlying107 rfl rfl Try.sizeOf2 rfl rfl rfl) rfl rfl rfl ?_
      refine AO.yld _ (Yld.load Try.isAgg2 rfl rfl) rfl rfl rfl ?_
      refine AO.yld _ (Yld.move rfl) rfl rfl rfl ?_
      refine AO.yld _ (Yld.add rfl rfl (by omega) (by omega)) rfl rfl rfl ?_
      refine AO.yld _ (Yld.int rfl rfl rfl) rfl rfl rfl ?_
      refine AO.yld _ (Yld.move rfl) rfl rfl rfl ?_
      refine AO.splitAt 20 _ rfl (fun s20 => ?_) (fun s20 => ?_)
      · -- s20 True
        refine AO.skipF rfl rfl rfl rfl rfl ?_
        refine AO.skipF rfl rfl rfl rfl rfl ?_
        refine AO.skipF rfl rfl rfl rfl rfl ?_
        refine AO.skipF rfl rfl rfl rfl rfl ?_
        refine AO.skipF rfl rfl rfl rfl rfl ?_
        refine AO.yld _ (Yld.pickT rfl rfl) rfl rfl rfl ?_
        refine AO.yld _ (Yld.move rfl) rfl rfl rfl ?_
        refine AO.skipF rfl rfl rfl rfl rfl ?_
        refine AO.skipF rfl rfl rfl rfl rfl ?_
        refine AO.skipF rfl rfl rfl rfl rfl ?_
        refine AO.skipF rfl rfl rfl rfl rfl ?_
        refine AO.yld _ (Yld.pickT rfl rfl) rfl rfl rfl ?_
        refine AO.yld _ (Yld.move rfl) rfl rfl rfl ?_
        refine AO.skipF rfl rfl rfl rfl rfl ?_
        refine AO.skipF rfl rfl rfl rfl rfl ?_
        refine AO.skipF rfl rfl rfl rfl rfl ?_
        refine AO.skipF rfl rfl rfl rfl rfl ?_
        refine AO.yld _ (Yld.pickT rfl rfl) rfl rfl rfl ?_
        refine AO.nil ?_
        refine AC.condT rfl ?_
        refine AC.seq ?_
        refine AC.region ?_
        refine AO.yld _ (Yld.assign rfl) rfl rfl rfl ?_
        refine AO.nil ?_
        refine Pure.ret Try.results77 (RVs.cons (RV.tmp rfl) RVs.nil) rfl ?_
        first
          | (refine cb ?_; rw [okVers, allI_miss hx (by simp only [okVer]; first | grind | (simp_all; done)), Bool.false_and])
          | (refine cb ?_; rw [okVers, allI_take hJ.2, Bool.true_and, hM]; exact decide_eq_decide.2 (by omega))
      · -- s20 False
        refine AO.yldG _ (Yld.fieldAddr Try.underlying107 rfl rfl Try.sizeOf2 rfl rfl rfl) rfl rfl rfl rfl rfl ?_
        refine AO.yldG _ (Yld.load Try.isAgg2 rfl rfl) rfl rfl rfl rfl rfl ?_
        refine AO.yldG _ (Yld.move rfl) rfl rfl rfl rfl rfl ?_
        refine AO.yldG _ (Yld.call rfl rfl Try.call93 rfl rfl rfl (spec_l00In_c) rfl) rfl rfl rfl rfl rfl ?_
        refine AO.yldG _ (Yld.not rfl) rfl rfl rfl rfl rfl ?_
        refine AO.yld _ (Yld.pickF rfl rfl) rfl rfl rfl ?_
        refine AO.yld _ (Yld.move rfl) rfl rfl rfl ?_
        refine AO.splitAt 27 _ rfl (fun s27 => ?_) (fun s27 => ?_)
        · -- s27 True
          refine AO.skipF rfl rfl rfl rfl rfl ?_
          refine AO.skipF rfl rfl rfl rfl rfl ?_
          refine AO.skipF rfl rfl rfl rfl rfl ?_
          refine AO.skipF rfl rfl rfl rfl rfl ?_
          refine AO.yld _ (Yld.pickT rfl rfl) rfl rfl rfl ?_
          refine AO.yld _ (Yld.move rfl) rfl rfl rfl ?_
          refine AO.skipF rfl rfl rfl rfl rfl ?_
          refine AO.skipF rfl rfl rfl rfl rfl ?_
          refine AO.skipF rfl rfl rfl rfl rfl ?_
          refine AO.skipF rfl rfl rfl rfl rfl ?_
          refine AO.yld _ (Yld.pickT rfl rfl) rfl rfl rfl ?_
          refine AO.nil ?_
          refine AC.condT rfl ?_
          refine AC.seq ?_
          refine AC.region ?_
          refine AO.yld _ (Yld.assign rfl) rfl rfl rfl ?_
          refine AO.nil ?_
          refine Pure.ret Try.results77 (RVs.cons (RV.tmp rfl) RVs.nil) rfl ?_
          first
            | (refine cb ?_; rw [okVers, allI_miss hx (by simp only [okVer]; first | grind | (simp_all; done)), Bool.false_and])
            | (refine cb ?_; rw [okVers, allI_take hJ.2, Bool.true_and, hM]; exact decide_eq_decide.2 (by omega))
        · -- s27 False
          refine AO.yldG _ (Yld.fieldAddr Try.underlying107 rfl rfl Try.sizeOf9 rfl rfl rfl) rfl rfl rfl rfl rfl ?_
          refine AO.yldG _ (Yld.load Try.isAgg9 rfl rfl) rfl rfl rfl rfl rfl ?_
          refine AO.yldG _ (Yld.call rfl rfl Try.call79 rfl rfl rfl (spec_l27Memo_c (by first | assumption | omega)) rfl) rfl rfl rfl rfl rfl ?_
          refine AO.yldG _ (Yld.not rfl) rfl rfl rfl rfl rfl ?_
          refine AO.yld _ (Yld.pickF rfl rfl) rfl rfl rfl ?_
          refine AO.yld _ (Yld.move rfl) rfl rfl rfl ?_
          refine AO.splitAt 33 _ rfl (fun s33 => ?_) (fun s33 => ?_)
          · -- s33 True
            refine AO.skipF rfl rfl rfl rfl rfl ?_
            refine AO.skipF rfl rfl rfl rfl rfl ?_
            refine AO.skipF rfl rfl rfl rfl rfl ?_
            refine AO.skipF rfl rfl rfl rfl rfl ?_
            refine AO.yld _ (Yld.pickT rfl rfl) rfl rfl rfl ?_
            refine AO.nil ?_
            refine AC.condT rfl ?_
            refine AC.seq ?_
            refine AC.region ?_
            refine AO.yld _ (Yld.assign rfl) rfl rfl rfl ?_
            refine AO.nil ?_
            refine Pure.ret Try.results77 (RVs.cons (RV.tmp rfl) RVs.nil) rfl ?_
            first
              | (refine cb ?_; rw [okVers, allI_miss hx (by simp only [okVer]; first | grind | (simp_all; done)), Bool.false_and])
              | (refine cb ?_; rw [okVers, allI_take hJ.2, Bool.true_and, hM]; exact decide_eq_decide.2 (by omega))
          · -- s33 False
            refine AO.yldG _ (Yld.fieldAddr Try.underlying107 rfl rfl Try.sizeOf24 rfl rfl rfl) rfl rfl rfl rfl rfl ?_
            refine AO.yldG _ (Yld.load Try.isAgg24 rfl rfl) rfl rfl rfl rfl rfl ?_
            refine AO.yldG _ (Yld.call rfl rfl Try.call43 rfl rfl rfl (spec_l27State_c (by first | assumption | omega) (by assumption)) rfl) rfl rfl rfl rfl rfl ?_
            refine AO.yldG _ (Yld.not rfl) rfl rfl rfl rfl rfl ?_
            refine AO.yld _ (Yld.pickF rfl rfl) rfl rfl rfl ?_
            refine AO.nil ?_
            refine AC.cond _ rfl (fun c38 => ?_) (fun c38 => ?_)
            · -- c38 True
              refine AC.seq ?_
              refine AC.region ?_
              refine AO.yld _ (Yld.assign rfl) rfl rfl rfl ?_
              refine AO.nil ?_
              refine Pure.ret Try.results77 (RVs.cons (RV.tmp rfl) RVs.nil) rfl ?_
              first
                | (refine cb ?_; rw [okVers, allI_miss hx (by simp only [okVer]; first | grind | (simp_all; done)), Bool.false_and])
                | (refine cb ?_; rw [okVers, allI_take hJ.2, Bool.true_and, hM]; exact decide_eq_decide.2 (by omega))
            · -- c38 False
              refine AC.skip ?_
              refine AC.mark ?_
              refine AC.region ?_
              refine AO.yld _ (Yld.move rfl) rfl rfl rfl ?_
              refine AO.yld _ (Yld.add rfl rfl (by omega) (by omega)) rfl rfl rfl ?_
              refine AO.yld _ (Yld.assign rfl) rfl rfl rfl ?_
              refine AO.nil ?_
              refine AC.back ⟨k + 1, ?_, ?_, ⟨?_, trivial⟩, trivial, ⟨rfl, trivial⟩, trivial⟩
              · exact ⟨hk, by rw [allITo_succ hx, hJ.2, Bool.true_and]; exact (by simp only [okVer]; first | grind | (simp_all; done))⟩
              · omega
              · rfl
    · -- c8 False
      obtain rfl : k = xs.length := by have := ge_of_decM c8; omega
      refine AC.exit rfl ?_
      refine AC.seq ?_
      refine AC.region ?_
      refine AO.yld _ (Yld.move rfl) rfl rfl rfl ?_
      refine AO.yld _ (Yld.len Try.underlying49 rfl rfl) rfl rfl rfl ?_
      refine AO.yld _ (Yld.int rfl rfl rfl) rfl rfl rfl ?_
      refine AO.yld _ (Yld.assign rfl) rfl rfl rfl ?_
      refine AO.nil ?_
      refine Pure.ret Try.results77 (RVs.cons (RV.tmp rfl) RVs.nil) rfl ?_
      first
        | (refine cb ?_; rw [okVers, allI_miss hx (by simp only [okVer]; first | grind | (simp_all; done)), Bool.false_and])
        | (refine cb ?_; rw [okVers, allI_take hJ.2, Bool.true_and, hM]; exact decide_eq_decide.2 (by omega))

theorem impl_ValidHistory_c {xs : List Ver} (hg : VersGood xs) :
    Pure Try.prog 71 [.sl 4 (xs.map encVer)] (.v (.bool (okVers xs))) := by
  have hn := hg.1
  have hM : (xs.map encVer).length = xs.length := List.length_map ..
  refine Pure.intro Try.func71 rfl Try.ntmps71 rfl rfl (fun w => ?_)
  refine AC.seq ?_
  refine AC.region ?_
  refine AO.yld _ (Yld.assign rfl) rfl rfl rfl ?_
  refine AO.nil ?_
  refine AC.seq ?_
  refine AC.seq ?_
  refine AC.region ?_
  refine AO.yld _ (Yld.move rfl) rfl rfl rfl ?_
  refine AO.yld _ (Yld.len Try.underlying49 rfl rfl) rfl rfl rfl ?_
  refine AO.yld _ (Yld.int rfl rfl rfl) rfl rfl rfl ?_
  refine AO.nil ?_
  refine AC.cond _ rfl (fun c7 => ?_) (fun c7 => ?_)
  · -- c7 True
    refine AC.seq ?_
    refine AC.region ?_
    refine AO.yld _ (Yld.assign rfl) rfl rfl rfl ?_
    refine AO.nil ?_
    refine Pure.ret Try.results71 (RVs.cons (RV.tmp rfl) RVs.nil) rfl ?_
    first
      | (refine cb ?_; rw [okVers, allI_miss hx (by simp only [okVer]; first | grind | (simp_all; done)), Bool.false_and])
      | (refine cb ?_; rw [hM] at c7; rw [okVers, lenN (K := 32) rfl c7]; simp; done)
      | (refine cb ?_; rw [hM] at c7; rw [okVers, lenN (K := 32) rfl c7, allI_take hJ.2]; rfl)
  · -- c7 False
    refine AC.skip ?_
    refine AC.seq ?_
    refine AC.seq ?_
    refine AC.region ?_
    refine AO.yld _ (Yld.move rfl) rfl rfl rfl ?_
    refine AO.yld _ (Yld.len Try.underlying49 rfl rfl) rfl rfl rfl ?_
    refine AO.yld _ (Yld.move rfl) rfl rfl rfl ?_
    refine AO.nil ?_
    refine AC.block ?_
    refine AC.loopC [(8, _), (9, _)] [] (fun (k : Nat) => [(10, .p (.v (.int .i64 (k : Int))))]) (fun (k : Nat) => []) (fun (k : Nat) => k ≤ xs.length ∧ allITo okVer xs k = true) (fun (k : Nat) => xs.length - k) 0 ⟨rfl, rfl, trivial⟩ trivial ⟨rfl, trivial⟩ trivial ?_ (fun k hJ => ?_)
    · exact ⟨Nat.zero_le _, rfl⟩
    · -- round
      refine AC.seq ?_
      refine AC.region ?_
      refine AO.yld _ (Yld.int rfl rfl rfl) rfl rfl rfl ?_
      refine AO.nil ?_
      refine AC.seq ?_
      refine AC.cond _ rfl (fun c11 => ?_) (fun c11 => ?_)
      · -- c11 True
        have hk := lt_of_decM c11
        obtain ⟨x, hx⟩ := get_some hk
        have hrow := map_row (enc := encVer) hx
        obtain ⟨g1, g2, g3⟩ := hg.2 x (List.mem_of_getElem? hx)
        refine AC.skip ?_
        refine AC.seq ?_
        refine AC.block ?_
        refine AC.seq ?_
        refine AC.region ?_
        refine AO.yld _ (Yld.move rfl) rfl rfl rfl ?_
        refine AO.yld _ (Yld.indexSl Try.underlying49 Try.sizeOf107 rfl rfl hrow rfl) rfl rfl rfl ?_
        refine AO.yld _ (Yld.loadAgg Try.isAgg107 Try.sizeOf107 rfl rfl rfl rfl) rfl rfl rfl ?_
        refine AO.alloc 0 Try.zeroValue107 rfl rfl rfl ?_
        refine AO.yld _ (Yld.assign rfl) rfl rfl rfl ?_
        refine AO.store Try.sizeOf107 rfl rfl rfl rfl rfl rfl ?_
        refine AO.nil ?_
        refine AC.seq ?_
        refine AC.region ?_
        refine AO.yld _ (Yld.fieldAddr Try.underlying107 rfl rfl Try.sizeOf2 rfl rfl rfl) rfl rfl rfl ?_
        refine AO.yld _ (Yld.load Try.isAgg2 rfl rfl) rfl rfl rfl ?_
        refine AO.yld _ (Yld.move rfl) rfl rfl rfl ?_
        refine AO.yld _ (Yld.add rfl rfl (by omega) (by omega)) rfl rfl rfl ?_
        refine AO.yld _ (Yld.int rfl rfl rfl) rfl rfl rfl ?_
        refine AO.yld _ (Yld.move rfl) rfl rfl rfl ?_
        refine AO.splitAt 20 _ rfl (fun s20 => ?_) (fun s20 => ?_)
        · -- s20 True
          refine AO.skipF rfl rfl rfl rfl rfl ?_
          refine AO.skipF rfl rfl rfl rfl rfl ?_
          refine AO.skipF rfl rfl rfl rfl rfl ?_
          refine AO.skipF rfl rfl rfl rfl rfl ?_
          refine AO.skipF rfl rfl rfl rfl rfl ?_
          refine AO.yld _ (Yld.pickT rfl rfl) rfl rfl rfl ?_
          refine AO.yld _ (Yld.move rfl) rfl rfl rfl ?_
          refine AO.skipF rfl rfl rfl rfl rfl ?_
          refine AO.skipF rfl rfl rfl rfl rfl ?_
          refine AO.skipF rfl rfl rfl rfl rfl ?_
          refine AO.skipF rfl rfl rfl rfl rfl ?_
          refine AO.yld _ (Yld.pickT rfl rfl) rfl rfl rfl ?_
          refine AO.yld _ (Yld.move rfl) rfl rfl rfl ?_
          refine AO.skipF rfl rfl rfl rfl rfl ?_
          refine AO.skipF rfl rfl rfl rfl rfl ?_
          refine AO.skipF rfl rfl rfl rfl rfl ?_
          refine AO.skipF rfl rfl rfl rfl rfl ?_
          refine AO.yld _ (Yld.pickT rfl rfl) rfl rfl rfl ?_
          refine AO.nil ?_
          refine AC.condT rfl ?_
          refine AC.seq ?_
          refine AC.region ?_
          refine AO.yld _ (Yld.assign rfl) rfl rfl rfl ?_
          refine AO.nil ?_
          refine Pure.ret Try.results71 (RVs.cons (RV.tmp rfl) RVs.nil) rfl ?_
          first
            | (refine cb ?_; rw [okVers, allI_miss hx (by simp only [okVer]; first | grind | (simp_all; done)), Bool.false_and])
            | (refine cb ?_; rw [hM] at c7; rw [okVers, lenN (K := 32) rfl c7]; simp; done)
            | (refine cb ?_; rw [hM] at c7; rw [okVers, lenN (K := 32) rfl c7, allI_take hJ.2]; rfl)
        · -- s20 False
          refine AO.yldG _ (Yld.fieldAddr Try.underlying107 rfl rfl Try.sizeOf2 rfl rfl rfl) rfl rfl rfl rfl rfl ?_
          refine AO.yldG _ (Yld.load Try.isAgg2 rfl rfl) rfl rfl rfl rfl rfl ?_
          refine AO.yldG _ (Yld.move rfl) rfl rfl rfl rfl rfl ?_
          refine AO.yldG _ (Yld.call rfl rfl Try.call72 rfl rfl rfl (impl_within_c) rfl) rfl rfl rfl rfl rfl ?_
          refine AO.yldG _ (Yld.not rfl) rfl rfl rfl rfl rfl ?_
          refine AO.yld _ (Yld.pickF rfl rfl) rfl rfl rfl ?_
          refine AO.yld _ (Yld.move rfl) rfl rfl rfl ?_
          refine AO.splitAt 27 _ rfl (fun s27 => ?_) (fun s27 => ?_)
          · -- s27 True
            refine AO.skipF rfl rfl rfl rfl rfl ?_
            refine AO.skipF rfl rfl rfl rfl rfl ?_
            refine AO.skipF rfl rfl rfl rfl rfl ?_
            refine AO.skipF rfl rfl rfl rfl rfl ?_
            refine AO.yld _ (Yld.pickT rfl rfl) rfl rfl rfl ?_
            refine AO.yld _ (Yld.move rfl) rfl rfl rfl ?_
            refine AO.skipF rfl rfl rfl rfl rfl ?_
            refine AO.skipF rfl rfl rfl rfl rfl ?_
            refine AO.skipF rfl rfl rfl rfl rfl ?_
            refine AO.skipF rfl rfl rfl rfl rfl ?_
            refine AO.yld _ (Yld.pickT rfl rfl) rfl rfl rfl ?_
            refine AO.nil ?_
            refine AC.condT rfl ?_
            refine AC.seq ?_
            refine AC.region ?_
            refine AO.yld _ (Yld.assign rfl) rfl rfl rfl ?_
            refine AO.nil ?_
            refine Pure.ret Try.results71 (RVs.cons (RV.tmp rfl) RVs.nil) rfl ?_
            first
              | (refine cb ?_; rw [okVers, allI_miss hx (by simp only [okVer]; first | grind | (simp_all; done)), Bool.false_and])
              | (refine cb ?_; rw [hM] at c7; rw [okVers, lenN (K := 32) rfl c7]; simp; done)
              | (refine cb ?_; rw [hM] at c7; rw [okVers, lenN (K := 32) rfl c7, allI_take hJ.2]; rfl)
          · -- s27 False
            refine AO.yldG _ (Yld.fieldAddr Try.underlying107 rfl rfl Try.sizeOf9 rfl rfl rfl) rfl rfl rfl rfl rfl ?_
            refine AO.yldG _ (Yld.load Try.isAgg9 rfl rfl) rfl rfl rfl rfl rfl ?_
            refine AO.yldG _ (Yld.call rfl rfl Try.call74 rfl rfl rfl (impl_validMemo_c (by first | assumption | omega)) rfl) rfl rfl rfl rfl rfl ?_
            refine AO.yldG _ (Yld.not rfl) rfl rfl rfl rfl rfl ?_
            refine AO.yld _ (Yld.pickF rfl rfl) rfl rfl rfl ?_
            refine AO.yld _ (Yld.move rfl) rfl rfl rfl ?_
            refine AO.splitAt 33 _ rfl (fun s33 => ?_) (fun s33 => ?_)
            · -- s33 True
              refine AO.skipF rfl rfl rfl rfl rfl ?_
              refine AO.skipF rfl rfl rfl rfl rfl ?_
              refine AO.skipF rfl rfl rfl rfl rfl ?_
              refine AO.skipF rfl rfl rfl rfl rfl ?_
              refine AO.yld _ (Yld.pickT rfl rfl) rfl rfl rfl ?_
              refine AO.nil ?_
              refine AC.condT rfl ?_
              refine AC.seq ?_
              refine AC.region ?_
              refine AO.yld _ (Yld.assign rfl) rfl rfl rfl ?_
              refine AO.nil ?_
              refine Pure.ret Try.results71 (RVs.cons (RV.tmp rfl) RVs.nil) rfl ?_
              first
                | (refine cb ?_; rw [okVers, allI_miss hx (by simp only [okVer]; first | grind | (simp_all; done)), Bool.false_and])
                | (refine cb ?_; rw [hM] at c7; rw [okVers, lenN (K := 32) rfl c7]; simp; done)
                | (refine cb ?_; rw [hM] at c7; rw [okVers, lenN (K := 32) rfl c7, allI_take hJ.2]; rfl)
            · -- s33 False
              refine AO.yldG _ (Yld.fieldAddr Try.underlying107 rfl rfl Try.sizeOf24 rfl rfl rfl) rfl rfl rfl rfl rfl ?_
              refine AO.yldG _ (Yld.load Try.isAgg24 rfl rfl) rfl rfl rfl rfl rfl ?_
              refine AO.yldG _ (Yld.call rfl rfl Try.call46 rfl rfl rfl (impl_ValidState_c (by first | assumption | omega) (by assumption)) rfl) rfl rfl rfl rfl rfl ?_
              refine AO.yldG _ (Yld.not rfl) rfl rfl rfl rfl rfl ?_
              refine AO.yld _ (Yld.pickF rfl rfl) rfl rfl rfl ?_
              refine AO.nil ?_
              refine AC.cond _ rfl (fun c38 => ?_) (fun c38 => ?_)
              · -- c38 True
                refine AC.seq ?_
                refine AC.region ?_
                refine AO.yld _ (Yld.assign rfl) rfl rfl rfl ?_
                refine AO.nil ?_
                refine Pure.ret Try.results71 (RVs.cons (RV.tmp rfl) RVs.nil) rfl ?_
                first
                  | (refine cb ?_; rw [okVers, allI_miss hx (by simp only [okVer]; first | grind | (simp_all; done)), Bool.false_and])
                  | (refine cb ?_; rw [hM] at c7; rw [okVers, lenN (K := 32) rfl c7]; simp; done)
                  | (refine cb ?_; rw [hM] at c7; rw [okVers, lenN (K := 32) rfl c7, allI_take hJ.2]; rfl)
              · -- c38 False
                refine AC.skip ?_
                refine AC.mark ?_
                refine AC.region ?_
                refine AO.yld _ (Yld.add rfl rfl (by omega) (by omega)) rfl rfl rfl ?_
                refine AO.yld _ (Yld.move rfl) rfl rfl rfl ?_
                refine AO.nil ?_
                refine AC.back ⟨k + 1, ?_, ?_, ⟨?_, trivial⟩, trivial, ⟨rfl, rfl, trivial⟩, trivial⟩
                · exact ⟨hk, by rw [allITo_succ hx, hJ.2, Bool.true_and]; exact (by simp only [okVer]; first | grind | (simp_all; done))⟩
                · omega
                · rfl
      · -- c11 False
        obtain rfl : k = xs.length := by have := ge_of_decM c11; omega
        refine AC.exit rfl ?_
        refine AC.seq ?_
        refine AC.region ?_
        refine AO.yld _ (Yld.assign rfl) rfl rfl rfl ?_
        refine AO.nil ?_
        refine Pure.ret Try.results71 (RVs.cons (RV.tmp rfl) RVs.nil) rfl ?_
        first
          | (refine cb ?_; rw [okVers, allI_miss hx (by simp only [okVer]; first | grind | (simp_all; done)), Bool.false_and])
          | (refine cb ?_; rw [hM] at c7; rw [okVers, lenN (K := 32) rfl c7]; simp; done)
          | (refine cb ?_; rw [hM] at c7; rw [okVers, lenN (K := 32) rfl c7, allI_take hJ.2]; rfl)

theorem spec_ValidHistory_c {xs : List Ver} (hg : VersGood xs) :
    Pure Try.prog 35 [.sl 4 (xs.map encVer)] (.v (.bool (okVers xs))) := by
  refine Pure.intro Try.func35 rfl Try.ntmps35 rfl rfl (fun w => ?_)
  refine AC.seq ?_
  refine AC.region ?_
  refine AO.yld _ (Yld.assign rfl) rfl rfl rfl ?_
  refine AO.nil ?_
  refine AC.seq ?_
  refine AC.region ?_
  refine AO.yld _ (Yld.move rfl) rfl rfl rfl ?_
  refine AO.yld _ (Yld.call rfl rfl Try.call77 rfl rfl rfl (spec_l27Ok_c (by assumption)) rfl) rfl rfl rfl ?_
  refine AO.yld _ (Yld.assign rfl) rfl rfl rfl ?_
  refine AO.nil ?_
  refine Pure.ret Try.results35 (RVs.cons (RV.tmp rfl) RVs.nil) rfl ?_
  first | rfl | (simp_all; done) | (simp_all; intros; omega) | grind

theorem spec_l27At_c {xs : List NV} {n : List UInt8} (hn : xs.length ≤ 1048576) :
    Pure Try.prog 54 [.sl 2 (xs.map encNV), .v (str n)] (.v (.int .i64 (idxOf (nameIs n) xs))) := by
  refine Pure.intro Try.func54 rfl Try.ntmps54 rfl rfl (fun w => ?_)
  refine AC.seq ?_
  refine AC.region ?_
  refine AO.yld _ (Yld.assign rfl) rfl rfl rfl ?_
  refine AO.nil ?_
  refine AC.seq ?_
  refine AC.seq ?_
  refine AC.region ?_
  refine AO.yld _ (Yld.assign rfl) rfl rfl rfl ?_
  refine AO.nil ?_
  refine AC.block ?_
  refine AC.loopC [(0, _), (1, _)] [] (fun (k : Nat) => [(5, .p (.v (.int .i64 (k : Int))))]) (fun (k : Nat) => []) (fun (k : Nat) => k ≤ xs.length ∧ anyTo (nameIs n) xs k = false) (fun (k : Nat) => xs.length - k) 0 ⟨rfl, rfl, trivial⟩ trivial ⟨rfl, trivial⟩ trivial ?_ (fun k hJ => ?_)
  · exact ⟨Nat.zero_le _, rfl⟩
  · -- round
    refine AC.seq ?_
    refine AC.seq ?_
    refine AC.region ?_
    refine AO.yld _ (Yld.move rfl) rfl rfl rfl ?_
    refine AO.yld _ (Yld.move rfl) rfl rfl rfl ?_
    refine AO.yld _ (Yld.len Try.underlying24 rfl rfl) rfl rfl rfl ?_
    refine AO.yld _ (Yld.int rfl rfl rfl) rfl rfl rfl ?_
    refine AO.nil ?_
    refine AC.cond _ rfl (fun c9 => ?_) (fun c9 => ?_)
    · -- c9 True
      have hk := lt_of_decM c9
      obtain ⟨x, hx⟩ := get_some hk
      have hrow := map_row (enc := encNV) hx
      refine AC.skip ?_
      refine AC.seq ?_
      refine AC.block ?_
      refine AC.seq ?_
      refine AC.region ?_
      refine AO.yld _ (Yld.move rfl) rfl rfl rfl ?_
      refine AO.yld _ (Yld.move rfl) rfl rfl rfl ?_
      refine AO.yld _ (Yld.indexSl Try.underlying24 Try.sizeOf66 rfl rfl hrow rfl) rfl rfl rfl ?_
      refine AO.yld _ (Yld.fieldAddr Try.underlying66 rfl rfl Try.sizeOf9 rfl rfl rfl) rfl rfl rfl ?_
      refine AO.yld _ (Yld.load Try.isAgg9 rfl rfl) rfl rfl rfl ?_
      refine AO.yld _ (Yld.move rfl) rfl rfl rfl ?_
      refine AO.yld _ (Yld.cmpStr rfl rfl rfl) rfl rfl rfl ?_
      refine AO.nil ?_
      refine AC.cond _ rfl (fun c18 => ?_) (fun c18 => ?_)
      · -- c18 True
        refine AC.seq ?_
        refine AC.region ?_
        refine AO.yld _ (Yld.move rfl) rfl rfl rfl ?_
        refine AO.yld _ (Yld.assign rfl) rfl rfl rfl ?_
        refine AO.nil ?_
        refine Pure.ret Try.results54 (RVs.cons (RV.tmp rfl) RVs.nil) rfl ?_
        first
          | exact ci (idx_hit hJ.2 hx (by simpa [nameIs] using c18)).symm
          | exact ci (idx_hit hJ.2 hx (by simpa [nameIs] using c18))
          | exact ci (idx_miss hJ.2).symm
          | exact ci (idx_miss hJ.2)
      · -- c18 False
        refine AC.skip ?_
        refine AC.mark ?_
        refine AC.region ?_
        refine AO.yld _ (Yld.move rfl) rfl rfl rfl ?_
        refine AO.yld _ (Yld.add rfl rfl (by omega) (by omega)) rfl rfl rfl ?_
        refine AO.yld _ (Yld.assign rfl) rfl rfl rfl ?_
        refine AO.nil ?_
        refine AC.back ⟨k + 1, ?_, ?_, ⟨?_, trivial⟩, trivial, ⟨rfl, rfl, trivial⟩, trivial⟩
        · exact ⟨hk, by rw [anyTo_succ hx, hJ.2]; simpa [nameIs] using c18⟩
        · omega
        · rfl
    · -- c9 False
      obtain rfl : k = xs.length := by have := ge_of_decM c9; omega
      refine AC.exit rfl ?_
      refine AC.seq ?_
      refine AC.region ?_
      refine AO.yld _ (Yld.assign rfl) rfl rfl rfl ?_
      refine AO.nil ?_
      refine Pure.ret Try.results54 (RVs.cons (RV.tmp rfl) RVs.nil) rfl ?_
      first
        | exact ci (idx_hit hJ.2 hx (by simpa [nameIs] using c18)).symm
        | exact ci (idx_hit hJ.2 hx (by simpa [nameIs] using c18))
        | exact ci (idx_miss hJ.2).symm
        | exact ci (idx_miss hJ.2)

theorem indexFuncSetting_c {xs : List NV} {f : FuncId} {caps : List PV} {p : NV → Bool} (hn : xs.length ≤ 1048576) (hf : Enters Try.prog f) (hp : ∀ x ∈ xs, Pure Try.prog f (.agg (encNV x) :: caps) (.v (.bool (p x)))) :
    Pure Try.prog 96 [.sl 2 (xs.map encNV), .clo f caps] (.v (.int .i64 (idxOf p xs))) := by
  refine Pure.intro Try.func96 rfl Try.ntmps96 rfl rfl (fun w => ?_)
  refine AC.seq ?_
  refine AC.region ?_
  refine AO.yld _ (Yld.assign rfl) rfl rfl rfl ?_
  refine AO.nil ?_
  refine AC.seq ?_
  refine AC.seq ?_
  refine AC.region ?_
  refine AO.yld _ (Yld.move rfl) rfl rfl rfl ?_
  refine AO.yld _ (Yld.len Try.underlying24 rfl rfl) rfl rfl rfl ?_
  refine AO.yld _ (Yld.move rfl) rfl rfl rfl ?_
  refine AO.nil ?_
  refine AC.block ?_
  refine AC.loopC [(0, _), (1, _), (7, _)] [] (fun (k : Nat) => [(8, .p (.v (.int .i64 (k : Int))))]) (fun (k : Nat) => []) (fun (k : Nat) => k ≤ xs.length ∧ anyTo p xs k = false) (fun (k : Nat) => xs.length - k) 0 ⟨rfl, rfl, rfl, trivial⟩ trivial ⟨rfl, trivial⟩ trivial ?_ (fun k hJ => ?_)
  · exact ⟨Nat.zero_le _, rfl⟩
  · -- round
    refine AC.seq ?_
    refine AC.region ?_
    refine AO.yld _ (Yld.int rfl rfl rfl) rfl rfl rfl ?_
    refine AO.nil ?_
    refine AC.seq ?_
    refine AC.cond _ rfl (fun c9 => ?_) (fun c9 => ?_)
    · -- c9 True
      have hk := lt_of_decM c9
      obtain ⟨x, hx⟩ := get_some hk
      have hrow := map_row (enc := encNV) hx
      refine AC.skip ?_
      refine AC.seq ?_
      refine AC.block ?_
      refine AC.seq ?_
      refine AC.region ?_
      refine AO.yld _ (Yld.move rfl) rfl rfl rfl ?_
      refine AO.yld _ (Yld.assign rfl) rfl rfl rfl ?_
      refine AO.nil ?_
      refine AC.seq ?_
      refine AC.region ?_
      refine AO.yld _ (Yld.move rfl) rfl rfl rfl ?_
      refine AO.yld _ (Yld.move rfl) rfl rfl rfl ?_
      refine AO.yld _ (Yld.move rfl) rfl rfl rfl ?_
      refine AO.yld _ (Yld.indexSl Try.underlying24 Try.sizeOf66 rfl rfl hrow rfl) rfl rfl rfl ?_
      refine AO.yld _ (Yld.loadAgg Try.isAgg66 Try.sizeOf66 rfl rfl rfl rfl) rfl rfl rfl ?_
      refine AO.yld _ (Yld.call rfl rfl hf rfl rfl (viewL_p _) (hp x (List.mem_of_getElem? hx)) rfl) rfl rfl rfl ?_
      refine AO.nil ?_
      refine AC.cond _ rfl (fun c16 => ?_) (fun c16 => ?_)
      · -- c16 True
        refine AC.seq ?_
        refine AC.region ?_
        refine AO.yld _ (Yld.move rfl) rfl rfl rfl ?_
        refine AO.yld _ (Yld.assign rfl) rfl rfl rfl ?_
        refine AO.nil ?_
        refine Pure.ret Try.results96 (RVs.cons (RV.tmp rfl) RVs.nil) rfl ?_
        first
          | exact ci (idx_hit hJ.2 hx (by simpa using c16))
          | exact ci (idx_miss hJ.2)
      · -- c16 False
        refine AC.skip ?_
        refine AC.mark ?_
        refine AC.region ?_
        refine AO.yld _ (Yld.add rfl rfl (by omega) (by omega)) rfl rfl rfl ?_
        refine AO.yld _ (Yld.move rfl) rfl rfl rfl ?_
        refine AO.nil ?_
        refine AC.back ⟨k + 1, ?_, ?_, ⟨?_, trivial⟩, trivial, ⟨rfl, rfl, rfl, trivial⟩, trivial⟩
        · exact ⟨hk, by rw [anyTo_succ hx, hJ.2]; simpa using c16⟩
        · omega
        · rfl
    · -- c9 False
      obtain rfl : k = xs.length := by have := ge_of_decM c9; omega
      refine AC.exit rfl ?_
      refine AC.seq ?_
      refine AC.region ?_
      refine AO.yld _ (Yld.assign rfl) rfl rfl rfl ?_
      refine AO.nil ?_
      refine Pure.ret Try.results96 (RVs.cons (RV.tmp rfl) RVs.nil) rfl ?_
      first
        | exact ci (idx_hit hJ.2 hx (by simpa using c16))
        | exact ci (idx_miss hJ.2)

theorem settingIndex1_c {x : NV} {n : List UInt8} :
    Pure Try.prog 97 [.agg (encNV x), .ptr [.v (str n)]] (.v (.bool (nameIs n x))) := by
  refine Pure.intro Try.func97 rfl Try.ntmps97 rfl rfl (fun w => ?_)
  refine AC.seq ?_
  refine AC.region ?_
  refine AO.box 0 rfl rfl rfl rfl rfl ?_
  refine AO.yld _ (Yld.assign rfl) rfl rfl rfl ?_
  refine AO.nil ?_
  refine AC.seq ?_
  refine AC.region ?_
  refine AO.yld _ (Yld.fieldAddr Try.underlying66 rfl rfl Try.sizeOf9 rfl rfl rfl) rfl rfl rfl ?_
  refine AO.yld _ (Yld.load Try.isAgg9 rfl rfl) rfl rfl rfl ?_
  refine AO.yld _ (Yld.load Try.isAgg9 rfl rfl) rfl rfl rfl ?_
  refine AO.yld _ (Yld.cmpStr rfl rfl rfl) rfl rfl rfl ?_
  refine AO.yld _ (Yld.assign rfl) rfl rfl rfl ?_
  refine AO.nil ?_
  refine Pure.ret Try.results97 (RVs.cons (RV.tmp rfl) RVs.nil) rfl ?_
  refine cb ?_; unfold nameIs; by_cases h : x.name = n <;> simp [h]

theorem impl_settingIndex_c {xs : List NV} {n : List UInt8} (hn : xs.length ≤ 1048576) :
    Pure Try.prog 60 [.sl 2 (xs.map encNV), .v (str n)] (.v (.int .i64 (idxOf (nameIs n) xs))) := by
  refine Pure.intro Try.func60 rfl Try.ntmps60 rfl rfl (fun w => ?_)
  refine AC.seq ?_
  refine AC.region ?_
  refine AO.box 0 rfl rfl rfl rfl rfl ?_
  refine AO.yld _ (Yld.assign rfl) rfl rfl rfl ?_
  refine AO.nil ?_
  refine AC.seq ?_
  refine AC.region ?_
  refine AO.yld _ (Yld.move rfl) rfl rfl rfl ?_
  refine AO.yld _ (Yld.makeFunc rfl) rfl rfl rfl ?_
  refine AO.yld _ (Yld.call rfl rfl Try.call96 rfl rfl rfl (indexFuncSetting_c (p := nameIs n) (by omega) Try.call97 (fun x hx => settingIndex1_c)) rfl) rfl rfl rfl ?_
  refine AO.yld _ (Yld.assign rfl) rfl rfl rfl ?_
  refine AO.nil ?_
  refine Pure.ret Try.results60 (RVs.cons (RV.tmp rfl) RVs.nil) rfl ?_
  rfl

theorem laws_markChangeS_c {xs : List Chg} {k0 : Int} (h0 : 0 ≤ k0) (h1 : k0 ≤ 10000000000000) (hn : xs.length ≤ 1048576) :
    FnE (α := Unit) Try.prog 25 [.h 0, .p (.v (.int .i64 k0))] [(0, .vec 79 3 (xs.map encChg))] [0] (fun _ => True) (fun _ => .p (.v (.int .i64 (k0 + ((xs.length * 3 : Nat) : Int))))) (fun _ => [(0, .vec 79 3 (mkAll [false, true, false] k0 xs.length))]) := by
  have hM : (xs.map encChg).length = xs.length := List.length_map ..
  refine FnE.intro Try.func25 rfl Try.ntmps25 rfl rfl (fun w0 F0 η φ w => ?_)
  refine AC.seq ?_
  refine AC.region ?_
  refine AO.yld _ (Yld.assign rfl) rfl rfl rfl ?_
  refine AO.nil ?_
  refine AC.seq ?_
  refine AC.seq ?_
  refine AC.region ?_
  refine AO.yld _ (Yld.assign rfl) rfl rfl rfl ?_
  refine AO.nil ?_
  refine AC.block ?_
  refine AC.loopC [(0, _), (4, _)] [(900, _)] (fun (k : Nat) => [(5, .p (.v (.int .i64 (k : Int)))), (1, .p (.v (.int .i64 (k0 + ((k * 3 : Nat) : Int)))))]) (fun (k : Nat) => [(0, .vec 79 3 (mkd [false, true, false] k0 (xs.map encChg) k))]) (fun (k : Nat) => k ≤ xs.length) (fun (k : Nat) => xs.length - k) 0 ⟨rfl, rfl, trivial⟩ ⟨rfl, trivial⟩ ⟨rfl, by show some (AV.p (PV.v (Value.int IntKind.i64 _))) = _; simp, trivial⟩ ⟨by rw [mkd_zero]; rfl, trivial⟩ ?_ (fun k hJ => ?_)
  · exact Nat.zero_le _
  · -- round
    refine AC.seq ?_
    refine AC.seq ?_
    refine AC.region ?_
    refine AO.yld _ (Yld.move rfl) rfl rfl rfl ?_
    refine AO.yld _ (Yld.move rfl) rfl rfl rfl ?_
    refine AO.yld _ (Yld.len Try.underlying39 rfl rfl) rfl rfl rfl ?_
    refine AO.yld _ (Yld.int rfl rfl rfl) rfl rfl rfl ?_
    refine AO.nil ?_
    refine AC.cond _ rfl (fun c9 => ?_) (fun c9 => ?_)
    · -- c9 True
      have hk : k < xs.length := by have h := c9; rw [mkd_length (by omega), hM] at h; simpa using h
      obtain ⟨x, hx⟩ := get_some hk
      have hrow := map_row (enc := encChg) hx
      refine AC.skip ?_
      refine AC.seq ?_
      refine AC.block ?_
      refine AC.seq ?_
      refine AC.region ?_
      refine AO.yld _ (Yld.move rfl) rfl rfl rfl ?_
      refine AO.yld _ (Yld.move rfl) rfl rfl rfl ?_
      refine AO.yld _ (Yld.move rfl) rfl rfl rfl ?_
      refine AO.yld _ (Yld.indexVec Try.underlying39 Try.sizeOf79 rfl rfl rfl rfl (by first | (rw [mkd_length (by omega), hM]; exact hk) | (simp only [List.length_set]; rw [mkd_length (by omega), hM]; exact hk))) rfl rfl rfl ?_
      refine AO.yld _ (Yld.fieldAddr Try.underlying79 rfl rfl Try.sizeOf2 rfl (behind_el rfl (mkd_get hrow)) rfl) rfl rfl rfl ?_
      refine AO.store Try.sizeOf2 rfl rfl rfl rfl rfl (store_el rfl (mkd_get hrow) rfl rfl) ?_
      refine AO.nil ?_
      refine AC.seq ?_
      refine AC.region ?_
      refine AO.yld _ (Yld.move rfl) rfl rfl rfl ?_
      refine AO.yld _ (Yld.add rfl rfl (by omega) (by omega)) rfl rfl rfl ?_
      refine AO.yld _ (Yld.assign rfl) rfl rfl rfl ?_
      refine AO.nil ?_
      refine AC.seq ?_
      refine AC.region ?_
      refine AO.yld _ (Yld.move rfl) rfl rfl rfl ?_
      refine AO.yld _ (Yld.move rfl) rfl rfl rfl ?_
      refine AO.yld _ (Yld.move rfl) rfl rfl rfl ?_
      refine AO.yld _ (Yld.call rfl rfl Try.call49 rfl rfl rfl (laws_markText_c (by omega)) rfl) rfl rfl rfl ?_
      refine AO.yld _ (Yld.indexVec Try.underlying39 Try.sizeOf79 rfl rfl rfl rfl (by first | (rw [mkd_length (by omega), hM]; exact hk) | (simp only [List.length_set]; rw [mkd_length (by omega), hM]; exact hk))) rfl rfl rfl ?_
      refine AO.yld _ (Yld.fieldAddr Try.underlying79 rfl rfl Try.sizeOf66 rfl (behind_el rfl (set_get (by first | (rw [mkd_length (by omega), hM]; exact hk) | (simp only [List.length_set]; rw [mkd_length (by omega), hM]; exact hk)))) rfl) rfl rfl rfl ?_
      refine AO.yld _ (Yld.fieldAddr Try.underlying66 rfl rfl Try.sizeOf9 rfl (behind_el rfl (set_get (by first | (rw [mkd_length (by omega), hM]; exact hk) | (simp only [List.length_set]; rw [mkd_length (by omega), hM]; exact hk)))) rfl) rfl rfl rfl ?_
      refine AO.store Try.sizeOf9 rfl rfl rfl rfl rfl (store_el rfl (set_get (by first | (rw [mkd_length (by omega), hM]; exact hk) | (simp only [List.length_set]; rw [mkd_length (by omega), hM]; exact hk))) rfl rfl) ?_
      refine AO.nil ?_
      refine AC.seq ?_
      refine AC.region ?_
      refine AO.yld _ (Yld.move rfl) rfl rfl rfl ?_
      refine AO.yld _ (Yld.add rfl rfl (by omega) (by omega)) rfl rfl rfl ?_
      refine AO.yld _ (Yld.assign rfl) rfl rfl rfl ?_
      refine AO.nil ?_
      refine AC.seq ?_
      refine AC.region ?_
      refine AO.yld _ (Yld.move rfl) rfl rfl rfl ?_
      refine AO.yld _ (Yld.move rfl) rfl rfl rfl ?_
      refine AO.yld _ (Yld.move rfl) rfl rfl rfl ?_
      refine AO.yld _ (Yld.indexVec Try.underlying39 Try.sizeOf79 rfl rfl rfl rfl (by first | (rw [mkd_length (by omega), hM]; exact hk) | (simp only [List.length_set]; rw [mkd_length (by omega), hM]; exact hk))) rfl rfl rfl ?_
      refine AO.yld _ (Yld.fieldAddr Try.underlying79 rfl rfl Try.sizeOf66 rfl (behind_el rfl (set_get (by first | (rw [mkd_length (by omega), hM]; exact hk) | (simp only [List.length_set]; rw [mkd_length (by omega), hM]; exact hk)))) rfl) rfl rfl rfl ?_
      refine AO.yld _ (Yld.fieldAddr Try.underlying66 rfl rfl Try.sizeOf2 rfl (behind_el rfl (set_get (by first | (rw [mkd_length (by omega), hM]; exact hk) | (simp only [List.length_set]; rw [mkd_length (by omega), hM]; exact hk)))) rfl) rfl rfl rfl ?_
      refine AO.store Try.sizeOf2 rfl rfl rfl rfl rfl (store_el rfl (set_get (by first | (rw [mkd_length (by omega), hM]; exact hk) | (simp only [List.length_set]; rw [mkd_length (by omega), hM]; exact hk))) rfl rfl) ?_
      refine AO.nil ?_
      refine AC.region ?_
      refine AO.yld _ (Yld.move rfl) rfl rfl rfl ?_
      refine AO.yld _ (Yld.add rfl rfl (by omega) (by omega)) rfl rfl rfl ?_
      refine AO.yld _ (Yld.assign rfl) rfl rfl rfl ?_
      refine AO.nil ?_
      refine AC.mark ?_
      refine AC.region ?_
      refine AO.yld _ (Yld.move rfl) rfl rfl rfl ?_
      refine AO.yld _ (Yld.add rfl rfl (by omega) (by omega)) rfl rfl rfl ?_
      refine AO.yld _ (Yld.assign rfl) rfl rfl rfl ?_
      refine AO.nil ?_
      refine AC.back ⟨k + 1, ?_, ?_, ⟨?_, ?_, trivial⟩, ⟨?_, trivial⟩, ⟨rfl, rfl, trivial⟩, ⟨rfl, trivial⟩⟩
      · exact hk
      · omega
      · rfl
      · show some (AV.p (PV.v (Value.int IntKind.i64 _))) = _; congr 4; omega
      · try simp only [List.set_set]
        rw [← mkd_set (by rw [hM]; exact hk)]; rfl
    · -- c9 False
      obtain rfl : k = xs.length := by have h := c9; rw [mkd_length (by omega), hM] at h; simp at h; omega
      refine AC.exit rfl ?_
      refine AC.seq ?_
      refine AC.region ?_
      refine AO.yld _ (Yld.move rfl) rfl rfl rfl ?_
      refine AO.yld _ (Yld.assign rfl) rfl rfl rfl ?_
      refine AO.nil ?_
      refine FnE.ret () [0] [0] Try.results25 (RVs.cons (RV.tmp rfl) RVs.nil) rfl rfl rfl ?_ ?_ ⟨⟨_, rfl, ?_⟩, trivial⟩
      · -- holds
        trivial
      · -- value
        rfl
      · -- thing 0
        exact vecE (by rw [← hM, mkd_end])

theorem laws_eqChange_c {x y : Chg} :
    Pure Try.prog 65 [.agg (encChg x), .agg (encChg y)] (.v (.bool (decide (x = y)))) := by
  refine Pure.intro Try.func65 rfl Try.ntmps65 rfl rfl (fun w => ?_)
  refine AC.seq ?_
  refine AC.region ?_
  refine AO.box 0 rfl rfl rfl rfl rfl ?_
  refine AO.box 1 rfl rfl rfl rfl rfl ?_
  refine AO.yld _ (Yld.assign rfl) rfl rfl rfl ?_
  refine AO.nil ?_
  refine AC.seq ?_
  refine AC.seq ?_
  refine AC.region ?_
  refine AO.yld _ (Yld.fieldAddr Try.underlying79 rfl rfl Try.sizeOf2 rfl rfl rfl) rfl rfl rfl ?_
  refine AO.yld _ (Yld.load Try.isAgg2 rfl rfl) rfl rfl rfl ?_
  refine AO.yld _ (Yld.fieldAddr Try.underlying79 rfl rfl Try.sizeOf2 rfl rfl rfl) rfl rfl rfl ?_
  refine AO.yld _ (Yld.load Try.isAgg2 rfl rfl) rfl rfl rfl ?_
  refine AO.yld _ (Yld.int rfl rfl rfl) rfl rfl rfl ?_
  refine AO.nil ?_
  refine AC.cond _ rfl (fun c9 => ?_) (fun c9 => ?_)
  · -- c9 True
    refine AC.seq ?_
    refine AC.region ?_
    refine AO.yld _ (Yld.assign rfl) rfl rfl rfl ?_
    refine AO.nil ?_
    refine Pure.ret Try.results65 (RVs.cons (RV.tmp rfl) RVs.nil) rfl ?_
    obtain ⟨xk, ⟨xn, xv⟩⟩ := x; obtain ⟨yk, ⟨yn, yv⟩⟩ := y; first | (simp_all; done) | (simp_all; grind) | grind
  · -- c9 False
    refine AC.skip ?_
    refine AC.seq ?_
    refine AC.seq ?_
    refine AC.region ?_
    refine AO.yld _ (Yld.fieldAddr Try.underlying79 rfl rfl Try.sizeOf66 rfl rfl rfl) rfl rfl rfl ?_
    refine AO.yld _ (Yld.loadAgg Try.isAgg66 Try.sizeOf66 rfl rfl rfl rfl) rfl rfl rfl ?_
    refine AO.yld _ (Yld.fieldAddr Try.underlying79 rfl rfl Try.sizeOf66 rfl rfl rfl) rfl rfl rfl ?_
    refine AO.yld _ (Yld.loadAgg Try.isAgg66 Try.sizeOf66 rfl rfl rfl rfl) rfl rfl rfl ?_
    refine AO.yld _ (Yld.call rfl rfl Try.call48 rfl rfl rfl (laws_eqSetting_c) rfl) rfl rfl rfl ?_
    refine AO.yld _ (Yld.not rfl) rfl rfl rfl ?_
    refine AO.nil ?_
    refine AC.cond _ rfl (fun c15 => ?_) (fun c15 => ?_)
    · -- c15 True
      refine AC.seq ?_
      refine AC.region ?_
      refine AO.yld _ (Yld.assign rfl) rfl rfl rfl ?_
      refine AO.nil ?_
      refine Pure.ret Try.results65 (RVs.cons (RV.tmp rfl) RVs.nil) rfl ?_
      obtain ⟨xk, ⟨xn, xv⟩⟩ := x; obtain ⟨yk, ⟨yn, yv⟩⟩ := y; first | (simp_all; done) | (simp_all; grind) | grind
    · -- c15 False
      refine AC.skip ?_
      refine AC.seq ?_
      refine AC.region ?_
      refine AO.yld _ (Yld.assign rfl) rfl rfl rfl ?_
      refine AO.nil ?_
      refine Pure.ret Try.results65 (RVs.cons (RV.tmp rfl) RVs.nil) rfl ?_
      obtain ⟨xk, ⟨xn, xv⟩⟩ := x; obtain ⟨yk, ⟨yn, yv⟩⟩ := y; first | (simp_all; done) | (simp_all; grind) | grind

theorem laws_eqChangeS_c {xs ys : List Chg} (hg : xs.length ≤ 1048576) :
    Pure Try.prog 24 [.sl 3 (xs.map encChg), .sl 3 (ys.map encChg)] (.v (.bool (decide (xs = ys)))) := by
  have hn := hg
  refine Pure.intro Try.func24 rfl Try.ntmps24 rfl rfl (fun w => ?_)
  refine AC.seq ?_
  refine AC.region ?_
  refine AO.yld _ (Yld.assign rfl) rfl rfl rfl ?_
  refine AO.nil ?_
  refine AC.seq ?_
  refine AC.seq ?_
  refine AC.region ?_
  refine AO.yld _ (Yld.move rfl) rfl rfl rfl ?_
  refine AO.yld _ (Yld.len Try.underlying39 rfl rfl) rfl rfl rfl ?_
  refine AO.yld _ (Yld.move rfl) rfl rfl rfl ?_
  refine AO.yld _ (Yld.len Try.underlying39 rfl rfl) rfl rfl rfl ?_
  refine AO.yld _ (Yld.int rfl rfl rfl) rfl rfl rfl ?_
  refine AO.nil ?_
  refine AC.cond _ rfl (fun c10 => ?_) (fun c10 => ?_)
  · -- c10 True
    have hl : xs.length ≠ ys.length := by have h := c10; simp only [List.length_map, bne_iff_ne, ne_eq] at h; omega
    refine AC.seq ?_
    refine AC.region ?_
    refine AO.yld _ (Yld.assign rfl) rfl rfl rfl ?_
    refine AO.nil ?_
    refine Pure.ret Try.results24 (RVs.cons (RV.tmp rfl) RVs.nil) rfl ?_
    first
      | (exact congrArg (fun b => PV.v (.bool b)) (decide_eq_false (fun e => hl (congrArg List.length e))).symm)
      | (refine congrArg (fun b => PV.v (.bool b)) (decide_eq_false (fun e => ?_)).symm; subst e; rw [hx] at hy; simp_all)
      | (refine congrArg (fun b => PV.v (.bool b)) (decide_eq_true ?_).symm; have := hJ.2; rw [List.take_of_length_le (Nat.le_refl _), List.take_of_length_le (by omega)] at this; exact this)
  · -- c10 False
    have hl : xs.length = ys.length := by have h := c10; simp only [List.length_map, bne_eq_false_iff_eq] at h; omega
    refine AC.skip ?_
    refine AC.seq ?_
    refine AC.seq ?_
    refine AC.region ?_
    refine AO.yld _ (Yld.assign rfl) rfl rfl rfl ?_
    refine AO.nil ?_
    refine AC.block ?_
    refine AC.loopC [(0, _), (1, _)] [] (fun (k : Nat) => [(5, .p (.v (.int .i64 (k : Int))))]) (fun (k : Nat) => []) (fun (k : Nat) => k ≤ xs.length ∧ xs.take k = ys.take k) (fun (k : Nat) => xs.length - k) 0 ⟨rfl, rfl, trivial⟩ trivial ⟨rfl, trivial⟩ trivial ?_ (fun k hJ => ?_)
    · exact ⟨Nat.zero_le _, rfl⟩
    · -- round
      refine AC.seq ?_
      refine AC.seq ?_
      refine AC.region ?_
      refine AO.yld _ (Yld.move rfl) rfl rfl rfl ?_
      refine AO.yld _ (Yld.move rfl) rfl rfl rfl ?_
      refine AO.yld _ (Yld.len Try.underlying39 rfl rfl) rfl rfl rfl ?_
      refine AO.yld _ (Yld.int rfl rfl rfl) rfl rfl rfl ?_
      refine AO.nil ?_
      refine AC.cond _ rfl (fun c14 => ?_) (fun c14 => ?_)
      · -- c14 True
        have hk := lt_of_decM c14
        obtain ⟨x, hx⟩ := get_some hk
        have hrow := map_row (enc := encChg) hx
        have hgx := hg
        obtain ⟨y, hy⟩ := get_some (xs := ys) (k := k) (by omega)
        have hrow2 := map_row (enc := encChg) hy
        refine AC.skip ?_
        refine AC.seq ?_
        refine AC.block ?_
        refine AC.seq ?_
        refine AC.draw (by kernel_rfl) (by kernel_rfl) ?_
        refine AO.yld _ (Yld.move rfl) rfl rfl rfl ?_
        refine AO.yld _ (Yld.move rfl) rfl rfl rfl ?_
        refine AO.yld _ (Yld.indexSl Try.underlying39 Try.sizeOf79 rfl rfl hrow rfl) rfl rfl rfl ?_
        refine AO.yld _ (Yld.loadAgg Try.isAgg79 Try.sizeOf79 rfl rfl rfl rfl) rfl rfl rfl ?_
        refine AO.yld _ (Yld.move rfl) rfl rfl rfl ?_
        refine AO.yld _ (Yld.move rfl) rfl rfl rfl ?_
        refine AO.yld _ (Yld.indexSl Try.underlying39 Try.sizeOf79 rfl rfl hrow2 rfl) rfl rfl rfl ?_
        refine AO.yld _ (Yld.loadAgg Try.isAgg79 Try.sizeOf79 rfl rfl rfl rfl) rfl rfl rfl ?_
        refine AO.yld _ (Yld.call rfl rfl Try.call65 rfl rfl rfl (laws_eqChange_c) rfl) rfl rfl rfl ?_
        refine AO.yld _ (Yld.not rfl) rfl rfl rfl ?_
        refine AO.nil ?_
        refine AC.cond _ rfl (fun c26 => ?_) (fun c26 => ?_)
        · -- c26 True
          refine AC.seq ?_
          refine AC.region ?_
          refine AO.yld _ (Yld.assign rfl) rfl rfl rfl ?_
          refine AO.nil ?_
          refine Pure.ret Try.results24 (RVs.cons (RV.tmp rfl) RVs.nil) rfl ?_
          first
            | (exact congrArg (fun b => PV.v (.bool b)) (decide_eq_false (fun e => hl (congrArg List.length e))).symm)
            | (refine congrArg (fun b => PV.v (.bool b)) (decide_eq_false (fun e => ?_)).symm; subst e; rw [hx] at hy; simp_all)
            | (refine congrArg (fun b => PV.v (.bool b)) (decide_eq_true ?_).symm; have := hJ.2; rw [List.take_of_length_le (Nat.le_refl _), List.take_of_length_le (by omega)] at this; exact this)
        · -- c26 False
          refine AC.skip ?_
          refine AC.mark ?_
          refine AC.region ?_
          refine AO.yld _ (Yld.move rfl) rfl rfl rfl ?_
          refine AO.yld _ (Yld.add rfl rfl (by omega) (by omega)) rfl rfl rfl ?_
          refine AO.yld _ (Yld.assign rfl) rfl rfl rfl ?_
          refine AO.nil ?_
          refine AC.back ⟨k + 1, ?_, ?_, ⟨?_, trivial⟩, trivial, ⟨rfl, rfl, trivial⟩, trivial⟩
          · exact ⟨hk, by rw [take_snoc hx, take_snoc hy, hJ.2, show x = y by simpa using c26]⟩
          · omega
          · rfl
      · -- c14 False
        obtain rfl : k = xs.length := by have := ge_of_decM c14; omega
        refine AC.exit rfl ?_
        refine AC.seq ?_
        refine AC.region ?_
        refine AO.yld _ (Yld.assign rfl) rfl rfl rfl ?_
        refine AO.nil ?_
        refine Pure.ret Try.results24 (RVs.cons (RV.tmp rfl) RVs.nil) rfl ?_
        first
          | (exact congrArg (fun b => PV.v (.bool b)) (decide_eq_false (fun e => hl (congrArg List.length e))).symm)
          | (refine congrArg (fun b => PV.v (.bool b)) (decide_eq_false (fun e => ?_)).symm; subst e; rw [hx] at hy; simp_all)
          | (refine congrArg (fun b => PV.v (.bool b)) (decide_eq_true ?_).symm; have := hJ.2; rw [List.take_of_length_le (Nat.le_refl _), List.take_of_length_le (by omega)] at this; exact this)

theorem spec_l00Has_c {xs : List Int} {n : Int} (hn : xs.length ≤ 1048576) :
    Pure Try.prog 107 [.sl 1 (xs.map encI), .v (.int .i64 n)] (.v (.bool (decide (n ∈ xs)))) := by
  refine Pure.intro Try.func107 rfl Try.ntmps107 rfl rfl (fun w => ?_)
  refine AC.seq ?_
  refine AC.region ?_
  refine AO.yld _ (Yld.assign rfl) rfl rfl rfl ?_
  refine AO.nil ?_
  refine AC.seq ?_
  refine AC.seq ?_
  refine AC.region ?_
  refine AO.yld _ (Yld.assign rfl) rfl rfl rfl ?_
  refine AO.nil ?_
  refine AC.block ?_
  refine AC.loopC [(0, _), (1, _)] [] (fun (k : Nat) => [(5, .p (.v (.int .i64 (k : Int))))]) (fun (k : Nat) => []) (fun (k : Nat) => k ≤ xs.length ∧ n ∉ xs.take k) (fun (k : Nat) => xs.length - k) 0 ⟨rfl, rfl, trivial⟩ trivial ⟨rfl, trivial⟩ trivial ?_ (fun k hJ => ?_)
  · exact ⟨Nat.zero_le _, by simp⟩
  · -- round
    refine AC.seq ?_
    refine AC.seq ?_
    refine AC.region ?_
    refine AO.yld _ (Yld.move rfl) rfl rfl rfl ?_
    refine AO.yld _ (Yld.move rfl) rfl rfl rfl ?_
    refine AO.yld _ (Yld.len Try.underlying128 rfl rfl) rfl rfl rfl ?_
    refine AO.yld _ (Yld.int rfl rfl rfl) rfl rfl rfl ?_
    refine AO.nil ?_
    refine AC.cond _ rfl (fun c9 => ?_) (fun c9 => ?_)
    · -- c9 True
      have hk := lt_of_decM c9
      obtain ⟨x, hx⟩ := get_some hk
      have hrow := map_row (enc := encI) hx
      refine AC.skip ?_
      refine AC.seq ?_
      refine AC.block ?_
      refine AC.seq ?_
      refine AC.region ?_
      refine AO.yld _ (Yld.move rfl) rfl rfl rfl ?_
      refine AO.yld _ (Yld.move rfl) rfl rfl rfl ?_
      refine AO.yld _ (Yld.indexSl Try.underlying128 Try.sizeOf2 rfl rfl hrow rfl) rfl rfl rfl ?_
      refine AO.yld _ (Yld.load Try.isAgg2 rfl rfl) rfl rfl rfl ?_
      refine AO.yld _ (Yld.move rfl) rfl rfl rfl ?_
      refine AO.yld _ (Yld.int rfl rfl rfl) rfl rfl rfl ?_
      refine AO.nil ?_
      refine AC.cond _ rfl (fun c17 => ?_) (fun c17 => ?_)
      · -- c17 True
        refine AC.seq ?_
        refine AC.region ?_
        refine AO.yld _ (Yld.assign rfl) rfl rfl rfl ?_
        refine AO.nil ?_
        refine Pure.ret Try.results107 (RVs.cons (RV.tmp rfl) RVs.nil) rfl ?_
        first
          | (refine cb ?_; have h9 := hJ.2; rw [List.take_of_length_le (Nat.le_refl _)] at h9; exact decide_eq_false h9)
          | (refine cb ?_; have h9 := c17; simp at h9; subst h9; exact decide_eq_true (List.mem_of_getElem? hx))
      · -- c17 False
        refine AC.skip ?_
        refine AC.mark ?_
        refine AC.region ?_
        refine AO.yld _ (Yld.move rfl) rfl rfl rfl ?_
        refine AO.yld _ (Yld.add rfl rfl (by omega) (by omega)) rfl rfl rfl ?_
        refine AO.yld _ (Yld.assign rfl) rfl rfl rfl ?_
        refine AO.nil ?_
        refine AC.back ⟨k + 1, ?_, ?_, ⟨?_, trivial⟩, trivial, ⟨rfl, rfl, trivial⟩, trivial⟩
        · exact ⟨hk, by rw [take_snoc hx]; have h9 := c17; simp at h9; simp only [List.mem_append, List.mem_singleton, not_or]; exact ⟨hJ.2, fun e => h9 e.symm⟩⟩
        · omega
        · rfl
    · -- c9 False
      obtain rfl : k = xs.length := by have := ge_of_decM c9; omega
      refine AC.exit rfl ?_
      refine AC.seq ?_
      refine AC.region ?_
      refine AO.yld _ (Yld.assign rfl) rfl rfl rfl ?_
      refine AO.nil ?_
      refine Pure.ret Try.results107 (RVs.cons (RV.tmp rfl) RVs.nil) rfl ?_
      first
        | (refine cb ?_; have h9 := hJ.2; rw [List.take_of_length_le (Nat.le_refl _)] at h9; exact decide_eq_false h9)
        | (refine cb ?_; have h9 := c17; simp at h9; subst h9; exact decide_eq_true (List.mem_of_getElem? hx))

theorem indexInt_c {xs : List Int} {n : Int} (hn : xs.length ≤ 1048576) :
    Pure Try.prog 124 [.sl 1 (xs.map encI), .v (.int .i64 n)] (.v (.int .i64 (idxOf (fun x => decide (n = x)) xs))) := by
  refine Pure.intro Try.func124 rfl Try.ntmps124 rfl rfl (fun w => ?_)
  refine AC.seq ?_
  refine AC.region ?_
  refine AO.yld _ (Yld.assign rfl) rfl rfl rfl ?_
  refine AO.nil ?_
  refine AC.seq ?_
  refine AC.seq ?_
  refine AC.region ?_
  refine AO.yld _ (Yld.move rfl) rfl rfl rfl ?_
  refine AO.yld _ (Yld.len Try.underlying128 rfl rfl) rfl rfl rfl ?_
  refine AO.yld _ (Yld.move rfl) rfl rfl rfl ?_
  refine AO.nil ?_
  refine AC.block ?_
  refine AC.loopC [(0, _), (1, _), (7, _)] [] (fun (k : Nat) => [(8, .p (.v (.int .i64 (k : Int))))]) (fun (k : Nat) => []) (fun (k : Nat) => k ≤ xs.length ∧ anyTo (fun x => decide (n = x)) xs k = false) (fun (k : Nat) => xs.length - k) 0 ⟨rfl, rfl, rfl, trivial⟩ trivial ⟨rfl, trivial⟩ trivial ?_ (fun k hJ => ?_)
  · exact ⟨Nat.zero_le _, rfl⟩
  · -- round
    refine AC.seq ?_
    refine AC.region ?_
    refine AO.yld _ (Yld.int rfl rfl rfl) rfl rfl rfl ?_
    refine AO.nil ?_
    refine AC.seq ?_
    refine AC.cond _ rfl (fun c9 => ?_) (fun c9 => ?_)
    · -- c9 True
      have hk := lt_of_decM c9
      obtain ⟨x, hx⟩ := get_some hk
      have hrow := map_row (enc := encI) hx
      refine AC.skip ?_
      refine AC.seq ?_
      refine AC.block ?_
      refine AC.seq ?_
      refine AC.region ?_
      refine AO.yld _ (Yld.move rfl) rfl rfl rfl ?_
      refine AO.yld _ (Yld.assign rfl) rfl rfl rfl ?_
      refine AO.nil ?_
      refine AC.seq ?_
      refine AC.region ?_
      refine AO.yld _ (Yld.move rfl) rfl rfl rfl ?_
      refine AO.yld _ (Yld.move rfl) rfl rfl rfl ?_
      refine AO.yld _ (Yld.move rfl) rfl rfl rfl ?_
      refine AO.yld _ (Yld.indexSl Try.underlying128 Try.sizeOf2 rfl rfl hrow rfl) rfl rfl rfl ?_
      refine AO.yld _ (Yld.load Try.isAgg2 rfl rfl) rfl rfl rfl ?_
      refine AO.yld _ (Yld.int rfl rfl rfl) rfl rfl rfl ?_
      refine AO.nil ?_
      refine AC.cond _ rfl (fun c16 => ?_) (fun c16 => ?_)
      · -- c16 True
        refine AC.seq ?_
        refine AC.region ?_
        refine AO.yld _ (Yld.move rfl) rfl rfl rfl ?_
        refine AO.yld _ (Yld.assign rfl) rfl rfl rfl ?_
        refine AO.nil ?_
        refine Pure.ret Try.results124 (RVs.cons (RV.tmp rfl) RVs.nil) rfl ?_
        first
          | exact ci (idx_hit hJ.2 hx (by simpa using c16))
          | exact ci (idx_miss hJ.2)
          | exact ci (idx_hit hJ.2 hx (by simpa using c16)).symm
          | exact ci (idx_miss hJ.2).symm
      · -- c16 False
        refine AC.skip ?_
        refine AC.mark ?_
        refine AC.region ?_
        refine AO.yld _ (Yld.add rfl rfl (by omega) (by omega)) rfl rfl rfl ?_
        refine AO.yld _ (Yld.move rfl) rfl rfl rfl ?_
        refine AO.nil ?_
        refine AC.back ⟨k + 1, ?_, ?_, ⟨?_, trivial⟩, trivial, ⟨rfl, rfl, rfl, trivial⟩, trivial⟩
        · exact ⟨hk, by rw [anyTo_succ hx, hJ.2]; simpa using c16⟩
        · omega
        · rfl
    · -- c9 False
      obtain rfl : k = xs.length := by have := ge_of_decM c9; omega
      refine AC.exit rfl ?_
      refine AC.seq ?_
      refine AC.region ?_
      refine AO.yld _ (Yld.assign rfl) rfl rfl rfl ?_
      refine AO.nil ?_
      refine Pure.ret Try.results124 (RVs.cons (RV.tmp rfl) RVs.nil) rfl ?_
      first
        | exact ci (idx_hit hJ.2 hx (by simpa using c16))
        | exact ci (idx_miss hJ.2)
        | exact ci (idx_hit hJ.2 hx (by simpa using c16)).symm
        | exact ci (idx_miss hJ.2).symm

theorem containsInt_c {xs : List Int} {n : Int} (hn : xs.length ≤ 1048576) :
    Pure Try.prog 105 [.sl 1 (xs.map encI), .v (.int .i64 n)] (.v (.bool (decide (n ∈ xs)))) := by
  refine Pure.intro Try.func105 rfl Try.ntmps105 rfl rfl (fun w => ?_)
  refine AC.seq ?_
  refine AC.region ?_
  refine AO.yld _ (Yld.assign rfl) rfl rfl rfl ?_
  refine AO.nil ?_
  refine AC.seq ?_
  refine AC.region ?_
  refine AO.yld _ (Yld.move rfl) rfl rfl rfl ?_
  refine AO.yld _ (Yld.move rfl) rfl rfl rfl ?_
  refine AO.yld _ (Yld.call rfl rfl Try.call124 rfl rfl rfl (indexInt_c (by first | assumption | omega)) rfl) rfl rfl rfl ?_
  refine AO.yld _ (Yld.int rfl rfl rfl) rfl rfl rfl ?_
  refine AO.yld _ (Yld.assign rfl) rfl rfl rfl ?_
  refine AO.nil ?_
  refine Pure.ret Try.results105 (RVs.cons (RV.tmp rfl) RVs.nil) rfl ?_
  refine cb ?_; rw [idx_any]; simp [List.any_eq, eq_comm]

theorem impl_lineOf_c {xs : List Ver} {n : Int} (hg : VersGood xs) (hok : okVers xs = true) (h0 : 0 ≤ n) (h1 : n ≤ xs.length) :
    FnE (α := Unit) Try.prog 104 [.p (.sl 4 (xs.map encVer)), .p (.v (.int .i64 n))] [] [] (fun _ => True) (fun _ => .h 0) (fun _ => [(0, .vec 2 1 ((line xs n).map encI))]) := by
  have hl32 := vers_len hok
  refine FnE.intro Try.func104 rfl Try.ntmps104 rfl rfl (fun w0 F0 η φ w => ?_)
  refine AC.seq ?_
  refine AC.region ?_
  refine AO.yld _ (Yld.assign rfl) rfl rfl rfl ?_
  refine AO.nil ?_
  refine AC.seq ?_
  refine AC.region ?_
  refine AO.yld _ (Yld.assign rfl) rfl rfl rfl ?_
  refine AO.nil ?_
  refine AC.seq ?_
  refine AC.block ?_
  refine AC.nilVec 5 0 2 1 rfl rfl ?_
  refine AC.loopC2 [(0, _), (4, _)] [(900, _)] (fun (m : Int) (acc : List Int) => [(1, .p (.v (.int .i64 m))), (5, .h 0)]) (fun (m : Int) (acc : List Int) => [(0, .vec 2 1 (acc.map encI))]) (fun (m : Int) (acc : List Int) => acc ++ line xs m = line xs n ∧ 0 ≤ m ∧ m ≤ n ∧ acc.length + m.toNat ≤ n.toNat) (fun (m : Int) (acc : List Int) => m.toNat) n [] ⟨rfl, rfl, trivial⟩ ⟨rfl, trivial⟩ ⟨rfl, rfl, trivial⟩ ⟨rfl, trivial⟩ ?_ (fun m acc hJ => ?_)
  · exact ⟨rfl, by omega, by omega, by simp⟩
  · -- round
    refine AC.seq ?_
    refine AC.seq ?_
    refine AC.region ?_
    refine AO.yld _ (Yld.move rfl) rfl rfl rfl ?_
    refine AO.yld _ (Yld.int rfl rfl rfl) rfl rfl rfl ?_
    refine AO.nil ?_
    refine AC.cond _ rfl (fun c7 => ?_) (fun c7 => ?_)
    · -- c7 True
      have hm0 : 0 < m := by simpa using c7
      obtain ⟨x, hx⟩ := get_some (xs := xs) (k := (m - 1).toNat) (by omega)
      have hrow := map_row (enc := encVer) hx
      have hvl := ver_lim (ver_at hok hx)
      have hpe := par_eq hx
      refine AC.skip ?_
      refine AC.seq ?_
      refine AC.block ?_
      refine AC.region ?_
      refine AO.yld _ (Yld.move rfl) rfl rfl rfl ?_
      refine AO.yld _ (Yld.move rfl) rfl rfl rfl ?_
      refine AO.buildSlice (rows := [[_]]) 1 Try.underlying128 ty2 rfl rfl rfl rfl rfl rfl rfl rfl rfl ?_
      refine AO.append 0 Try.underlying128 ty2 rfl rfl rfl rfl rfl rfl rfl (by simp [pvOne]) (by simp only [List.length_map, List.length_cons, List.length_nil]; omega) (by simp only [List.length_map, List.length_cons, List.length_nil]; omega) rfl ?_
      refine AO.yld _ (Yld.assign rfl) rfl rfl rfl ?_
      refine AO.nil ?_
      refine AC.mark ?_
      refine AC.region ?_
      refine AO.yld _ (Yld.move rfl) rfl rfl rfl ?_
      refine AO.yld _ (Yld.move rfl) rfl rfl rfl ?_
      refine AO.yld _ (Yld.sub rfl rfl (by omega) (by omega)) rfl rfl rfl ?_
      refine AO.yld _ (Yld.indexSl Try.underlying49 Try.sizeOf107 rfl rfl hrow (by omega)) rfl rfl rfl ?_
      refine AO.yld _ (Yld.fieldAddr Try.underlying107 rfl rfl Try.sizeOf2 rfl rfl rfl) rfl rfl rfl ?_
      refine AO.yld _ (Yld.load Try.isAgg2 rfl rfl) rfl rfl rfl ?_
      refine AO.yld _ (Yld.assign rfl) rfl rfl rfl ?_
      refine AO.nil ?_
      refine AC.back ⟨x.parent, acc ++ [m], ?_, ?_, ⟨?_, ?_, trivial⟩, ⟨?_, trivial⟩, ⟨rfl, rfl, trivial⟩, ⟨rfl, trivial⟩⟩
      · exact ⟨by rw [List.append_assoc, ← hJ.1, line_pos hok (n := m) (by omega), hpe]; rfl, by omega, by omega, by simp only [List.length_append, List.length_singleton]; omega⟩
      · omega
      · rfl
      · rfl
      · rw [map_snoc]; rfl
    · -- c7 False
      have hm0 : ¬ 0 < m := by simpa using c7
      refine AC.exit rfl ?_
      refine AC.seq ?_
      refine AC.region ?_
      refine AO.yld _ (Yld.move rfl) rfl rfl rfl ?_
      refine AO.yld _ (Yld.assign rfl) rfl rfl rfl ?_
      refine AO.nil ?_
      refine FnE.ret () [0] [0] Try.results104 (RVs.cons (RV.tmp rfl) RVs.nil) rfl rfl rfl ?_ ?_ ⟨⟨_, rfl, ?_⟩, trivial⟩
      · -- holds
        trivial
      · -- value
        rfl
      · -- thing 0
        refine vecE ?_; have h9 := hJ.1; rw [line_zero (by omega), List.append_nil] at h9; rw [h9]

theorem spec_l27Above_c {xs : List Ver} {n : Int} (hg : VersGood xs) (hok : okVers xs = true) (h0 : 0 ≤ n) (h1 : n ≤ xs.length) :
    FnE (α := Unit) Try.prog 106 [.p (.sl 4 (xs.map encVer)), .p (.v (.int .i64 n))] [] [] (fun _ => True) (fun _ => .h 0) (fun _ => [(0, .vec 2 1 ((line xs n).tail.map encI))]) := by
  have hl32 := vers_len hok
  refine FnE.intro Try.func106 rfl Try.ntmps106 rfl rfl (fun w0 F0 η φ w => ?_)
  refine AC.seq ?_
  refine AC.region ?_
  refine AO.yld _ (Yld.assign rfl) rfl rfl rfl ?_
  refine AO.nil ?_
  refine AC.seq ?_
  refine AC.region ?_
  refine AO.buildSlice (rows := []) 0 Try.underlying128 ty2 rfl rfl rfl rfl rfl rfl rfl rfl rfl ?_
  refine AO.yld _ (Yld.assign rfl) rfl rfl rfl ?_
  refine AO.nil ?_
  refine AC.seq ?_
  refine AC.block ?_
  refine AC.loopC2 [(0, _), (4, _)] [(900, _)] (fun (m : Int) (acc : List Int) => [(1, .p (.v (.int .i64 m))), (5, .h 0)]) (fun (m : Int) (acc : List Int) => [(0, .vec 2 1 (acc.map encI))]) (fun (m : Int) (acc : List Int) => acc ++ (line xs m).tail = (line xs n).tail ∧ 0 ≤ m ∧ m ≤ n ∧ acc.length + m.toNat ≤ n.toNat) (fun (m : Int) (acc : List Int) => m.toNat) n [] ⟨rfl, rfl, trivial⟩ ⟨rfl, trivial⟩ ⟨rfl, rfl, trivial⟩ ⟨rfl, trivial⟩ ?_ (fun m acc hJ => ?_)
  · exact ⟨rfl, by omega, by omega, by simp⟩
  · -- round
    refine AC.seq ?_
    refine AC.seq ?_
    refine AC.region ?_
    refine AO.yld _ (Yld.move rfl) rfl rfl rfl ?_
    refine AO.yld _ (Yld.int rfl rfl rfl) rfl rfl rfl ?_
    refine AO.nil ?_
    refine AC.cond _ rfl (fun c8 => ?_) (fun c8 => ?_)
    · -- c8 True
      have hm0 : 0 < m := by have h := c8; simp at h; omega
      obtain ⟨x, hx⟩ := get_some (xs := xs) (k := (m - 1).toNat) (by omega)
      have hrow := map_row (enc := encVer) hx
      have hvl := ver_lim (ver_at hok hx)
      have hpe := par_eq hx
      refine AC.skip ?_
      refine AC.block ?_
      refine AC.seq ?_
      refine AC.region ?_
      refine AO.yld _ (Yld.move rfl) rfl rfl rfl ?_
      refine AO.yld _ (Yld.move rfl) rfl rfl rfl ?_
      refine AO.yld _ (Yld.sub rfl rfl (by omega) (by omega)) rfl rfl rfl ?_
      refine AO.yld _ (Yld.indexSl Try.underlying49 Try.sizeOf107 rfl rfl hrow (by omega)) rfl rfl rfl ?_
      refine AO.yld _ (Yld.fieldAddr Try.underlying107 rfl rfl Try.sizeOf2 rfl rfl rfl) rfl rfl rfl ?_
      refine AO.yld _ (Yld.load Try.isAgg2 rfl rfl) rfl rfl rfl ?_
      refine AO.yld _ (Yld.assign rfl) rfl rfl rfl ?_
      refine AO.nil ?_
      refine AC.seq ?_
      refine AC.region ?_
      refine AO.yld _ (Yld.move rfl) rfl rfl rfl ?_
      refine AO.yld _ (Yld.int rfl rfl rfl) rfl rfl rfl ?_
      refine AO.nil ?_
      refine AC.cond _ rfl (fun c16 => ?_) (fun c16 => ?_)
      · -- c16 True
        have hp0 : x.parent ≠ 0 := by simpa using c16
        obtain ⟨na, hna⟩ : ∃ z, z = acc ++ [x.parent] := ⟨_, rfl⟩
        refine AC.region ?_
        refine AO.yld _ (Yld.move rfl) rfl rfl rfl ?_
        refine AO.yld _ (Yld.move rfl) rfl rfl rfl ?_
        refine AO.buildSlice (rows := [[_]]) 1 Try.underlying128 ty2 rfl rfl rfl rfl rfl rfl rfl rfl rfl ?_
        refine AO.append 0 Try.underlying128 ty2 rfl rfl rfl rfl rfl rfl rfl (by simp [pvOne]) (by simp only [List.length_map, List.length_cons, List.length_nil]; omega) (by simp only [List.length_map, List.length_cons, List.length_nil]; omega) rfl ?_
        refine AO.yld _ (Yld.assign rfl) rfl rfl rfl ?_
        refine AO.nil ?_
        refine AC.mark ?_
        refine AC.back ⟨x.parent, na, ?_, ?_, ⟨?_, ?_, trivial⟩, ⟨?_, trivial⟩, ⟨rfl, rfl, trivial⟩, ⟨rfl, trivial⟩⟩
        · subst hna; first | exact ⟨by rw [List.append_assoc, ← hJ.1, line_pos hok (n := m) (by omega), hpe, List.tail_cons, line_pos hok (n := x.parent) (by omega)]; rfl, by omega, by omega, by simp only [List.length_append, List.length_singleton]; omega⟩ | exact ⟨by rw [← hJ.1, line_pos hok (n := m) (by omega), hpe, List.tail_cons, line_zero (n := x.parent) (by omega)]; rfl, by omega, by omega, by omega⟩
        · omega
        · rfl
        · rfl
        · subst hna; first | (rw [map_snoc]; rfl) | rfl
      · -- c16 False
        have hp0 : x.parent = 0 := by simpa using c16
        obtain ⟨na, hna⟩ : ∃ z, z = acc := ⟨_, rfl⟩
        refine AC.skip ?_
        refine AC.mark ?_
        refine AC.back ⟨x.parent, na, ?_, ?_, ⟨?_, ?_, trivial⟩, ⟨?_, trivial⟩, ⟨rfl, rfl, trivial⟩, ⟨rfl, trivial⟩⟩
        · subst hna; first | exact ⟨by rw [List.append_assoc, ← hJ.1, line_pos hok (n := m) (by omega), hpe, List.tail_cons, line_pos hok (n := x.parent) (by omega)]; rfl, by omega, by omega, by simp only [List.length_append, List.length_singleton]; omega⟩ | exact ⟨by rw [← hJ.1, line_pos hok (n := m) (by omega), hpe, List.tail_cons, line_zero (n := x.parent) (by omega)]; rfl, by omega, by omega, by omega⟩
        · omega
        · rfl
        · rfl
        · subst hna; first | (rw [map_snoc]; rfl) | rfl
    · -- c8 False
      have hm0 : m = 0 := by simpa using c8
      refine AC.exit rfl ?_
      refine AC.seq ?_
      refine AC.region ?_
      refine AO.yld _ (Yld.move rfl) rfl rfl rfl ?_
      refine AO.yld _ (Yld.assign rfl) rfl rfl rfl ?_
      refine AO.nil ?_
      refine FnE.ret () [0] [0] Try.results106 (RVs.cons (RV.tmp rfl) RVs.nil) rfl rfl rfl ?_ ?_ ⟨⟨_, rfl, ?_⟩, trivial⟩
      · -- holds
        trivial
      · -- value
        rfl
      · -- thing 0
        refine vecE ?_; have h9 := hJ.1; rw [line_zero (by omega), List.tail_nil, List.append_nil] at h9; rw [h9]

theorem impl_commonAncestor_c {xs : List Ver} {a b : Int} (hg : VersGood xs) (hok : okVers xs = true) (ha : 1 ≤ a ∧ a ≤ xs.length) (hb : 1 ≤ b ∧ b ≤ xs.length) :
    Pure Try.prog 73 [.sl 4 (xs.map encVer), .v (.int .i64 a), .v (.int .i64 b)] (.v (.int .i64 (commonA xs a b))) := by
  have hl32 := vers_len hok
  have hla := line_lim (xs := xs) a
  have hlb := line_lim (xs := xs) b
  refine Pure.intro Try.func73 rfl Try.ntmps73 rfl rfl (fun w => ?_)
  refine AC.seq ?_
  refine AC.region ?_
  refine AO.yld _ (Yld.assign rfl) rfl rfl rfl ?_
  refine AO.nil ?_
  refine AC.seq ?_
  refine AC.region ?_
  refine AO.yld _ (Yld.move rfl) rfl rfl rfl ?_
  refine AO.yld _ (Yld.move rfl) rfl rfl rfl ?_
  refine AO.callW (wantedN rfl) [0] [] [0] rfl rfl Try.call104 rfl (impl_lineOf_c (by assumption) (by assumption) (by omega) (by omega)) (.flat (.view rfl rfl (.view rfl rfl .nil)) (fun _ => by simp [AV.Flat, AV.FlatL, PV.Flat, PV.FlatL]) (fun _ => ⟨flat_map flatI _, trivial⟩)) rfl (fun _ => rfl) trivial rfl (fun _ => rfl) (fun _ => rfl) (fun _ _ => ?_)
  refine AO.yld _ (Yld.assign rfl) rfl rfl rfl ?_
  refine AO.nil ?_
  refine AC.seq ?_
  refine AC.seq ?_
  refine AC.region ?_
  refine AO.yld _ (Yld.move rfl) rfl rfl rfl ?_
  refine AO.yld _ (Yld.move rfl) rfl rfl rfl ?_
  refine AO.callW (wantedN rfl) [1] [] [0] rfl rfl Try.call104 rfl (impl_lineOf_c (by assumption) (by assumption) (by omega) (by omega)) (.flat (.view rfl rfl (.view rfl rfl .nil)) (fun _ => by simp [AV.Flat, AV.FlatL, PV.Flat, PV.FlatL]) (fun _ => ⟨flat_map flatI _, trivial⟩)) rfl (fun _ => rfl) trivial rfl (fun _ => rfl) (fun _ => rfl) (fun _ _ => ?_)
  refine AO.yld _ (Yld.len Try.underlying128 rfl rfl) rfl rfl rfl ?_
  refine AO.yld _ (Yld.move rfl) rfl rfl rfl ?_
  refine AO.nil ?_
  refine AC.block ?_
  refine AC.loopC [(7, _), (15, _), (16, _)] [(0, _), (1, _)] (fun (k : Nat) => [(17, .p (.v (.int .i64 (k : Int))))]) (fun (k : Nat) => []) (fun (k : Nat) => k ≤ (line xs a).length ∧ anyTo (fun n => decide (n ∈ line xs b)) (line xs a) k = false) (fun (k : Nat) => (line xs a).length - k) 0 ⟨rfl, rfl, rfl, trivial⟩ ⟨rfl, rfl, trivial⟩ ⟨rfl, trivial⟩ trivial ?_ (fun k hJ => ?_)
  · exact ⟨Nat.zero_le _, rfl⟩
  · -- round
    refine AC.seq ?_
    refine AC.region ?_
    refine AO.yld _ (Yld.int rfl rfl rfl) rfl rfl rfl ?_
    refine AO.nil ?_
    refine AC.seq ?_
    refine AC.cond _ rfl (fun c18 => ?_) (fun c18 => ?_)
    · -- c18 True
      have hk := lt_of_decM c18
      obtain ⟨x, hx⟩ := get_some hk
      have hrow := map_row (enc := encI) hx
      refine AC.skip ?_
      refine AC.seq ?_
      refine AC.block ?_
      refine AC.seq ?_
      refine AC.region ?_
      refine AO.yld _ (Yld.indexVec Try.underlying128 Try.sizeOf2 rfl rfl rfl rfl (by simpa using hk)) rfl rfl rfl ?_
      refine AO.yld _ (Yld.load Try.isAgg2 rfl (behind_el rfl hrow)) rfl rfl rfl ?_
      refine AO.yld _ (Yld.assign rfl) rfl rfl rfl ?_
      refine AO.nil ?_
      refine AC.seq ?_
      refine AC.region ?_
      refine AO.yld _ (Yld.move rfl) rfl rfl rfl ?_
      refine AO.yld _ (Yld.move rfl) rfl rfl rfl ?_
      refine AO.yld _ (Yld.call rfl rfl Try.call105 rfl rfl rfl (containsInt_c (by first | assumption | omega)) rfl) rfl rfl rfl ?_
      refine AO.nil ?_
      refine AC.cond _ rfl (fun c23 => ?_) (fun c23 => ?_)
      · -- c23 True
        refine AC.seq ?_
        refine AC.region ?_
        refine AO.yld _ (Yld.move rfl) rfl rfl rfl ?_
        refine AO.yld _ (Yld.assign rfl) rfl rfl rfl ?_
        refine AO.nil ?_
        refine Pure.ret Try.results73 (RVs.cons (RV.tmp rfl) RVs.nil) rfl ?_
        first
          | exact ci (find_hit hJ.2 hx (by simpa using c23))
          | exact ci (find_miss hJ.2)
      · -- c23 False
        refine AC.skip ?_
        refine AC.mark ?_
        refine AC.region ?_
        refine AO.yld _ (Yld.add rfl rfl (by omega) (by omega)) rfl rfl rfl ?_
        refine AO.yld _ (Yld.move rfl) rfl rfl rfl ?_
        refine AO.nil ?_
        refine AC.back ⟨k + 1, ?_, ?_, ⟨?_, trivial⟩, trivial, ⟨rfl, rfl, rfl, trivial⟩, ⟨rfl, rfl, trivial⟩⟩
        · exact ⟨hk, by rw [anyTo_succ hx, hJ.2]; simpa using c23⟩
        · omega
        · rfl
    · -- c18 False
      obtain rfl : k = (line xs a).length := by have := ge_of_decM c18; omega
      refine AC.exit rfl ?_
      refine AC.seq ?_
      refine AC.region ?_
      refine AO.yld _ (Yld.assign rfl) rfl rfl rfl ?_
      refine AO.nil ?_
      refine Pure.ret Try.results73 (RVs.cons (RV.tmp rfl) RVs.nil) rfl ?_
      first
        | exact ci (find_hit hJ.2 hx (by simpa using c23))
        | exact ci (find_miss hJ.2)

theorem spec_l27Common_c {xs : List Ver} {a b : Int} (hg : VersGood xs) (hok : okVers xs = true) (ha : 1 ≤ a ∧ a ≤ xs.length) (hb : 1 ≤ b ∧ b ≤ xs.length) :
    Pure Try.prog 82 [.sl 4 (xs.map encVer), .v (.int .i64 a), .v (.int .i64 b)] (.v (.int .i64 (commonA xs a b))) := by
  have hl32 := vers_len hok
  have hla := line_lim (xs := xs) a
  have hlb := line_lim (xs := xs) b
  have hA : (a :: (line xs a).tail) = line xs a := by rw [line_pos hok (n := a) (by omega)]; rfl
  have hB : (b :: (line xs b).tail) = line xs b := by rw [line_pos hok (n := b) (by omega)]; rfl
  have hlA := congrArg List.length hA
  have hlB := congrArg List.length hB
  refine Pure.intro Try.func82 rfl Try.ntmps82 rfl rfl (fun w => ?_)
  refine AC.seq ?_
  refine AC.region ?_
  refine AO.yld _ (Yld.assign rfl) rfl rfl rfl ?_
  refine AO.nil ?_
  refine AC.seq ?_
  refine AC.region ?_
  refine AO.yld _ (Yld.move rfl) rfl rfl rfl ?_
  refine AO.buildSlice (rows := [[_]]) 0 Try.underlying128 ty2 rfl rfl rfl rfl rfl rfl rfl rfl rfl ?_
  refine AO.yld _ (Yld.move rfl) rfl rfl rfl ?_
  refine AO.yld _ (Yld.move rfl) rfl rfl rfl ?_
  refine AO.callW (wantedN rfl) [1] [] [0] rfl rfl Try.call106 rfl (spec_l27Above_c (by assumption) (by assumption) (by omega) (by omega)) (.flat (.view rfl rfl (.view rfl rfl .nil)) (fun _ => by simp [AV.Flat, AV.FlatL, PV.Flat, PV.FlatL]) (fun _ => ⟨flat_map flatI _, trivial⟩)) rfl (fun _ => rfl) trivial rfl (fun _ => rfl) (fun _ => rfl) (fun _ _ => ?_)
  refine AO.append 0 Try.underlying128 ty2 rfl rfl rfl rfl rfl rfl rfl (fun r hr q hq => by obtain ⟨y, _, rfl⟩ := List.mem_map.1 hr; simp only [encI, List.mem_cons, List.not_mem_nil, or_false] at hq; rcases hq with rfl; rfl) (by simp only [List.length_map, List.length_cons, List.length_nil, List.length_tail]; omega) (by simp only [List.length_map, List.length_cons, List.length_nil, List.length_tail]; omega) rfl ?_
  refine AO.yld _ (Yld.assign rfl) rfl rfl rfl ?_
  refine AO.nil ?_
  refine AC.seq ?_
  refine AC.region ?_
  refine AO.yld _ (Yld.move rfl) rfl rfl rfl ?_
  refine AO.buildSlice (rows := [[_]]) 2 Try.underlying128 ty2 rfl rfl rfl rfl rfl rfl rfl rfl rfl ?_
  refine AO.yld _ (Yld.move rfl) rfl rfl rfl ?_
  refine AO.yld _ (Yld.move rfl) rfl rfl rfl ?_
  refine AO.callW (wantedN rfl) [3] [] [0] rfl rfl Try.call106 rfl (spec_l27Above_c (by assumption) (by assumption) (by omega) (by omega)) (.flat (.view rfl rfl (.view rfl rfl .nil)) (fun _ => by simp [AV.Flat, AV.FlatL, PV.Flat, PV.FlatL]) (fun _ => ⟨flat_map flatI _, trivial⟩)) rfl (fun _ => rfl) trivial rfl (fun _ => rfl) (fun _ => rfl) (fun _ _ => ?_)
  refine AO.append 2 Try.underlying128 ty2 rfl rfl rfl rfl rfl rfl rfl (fun r hr q hq => by obtain ⟨y, _, rfl⟩ := List.mem_map.1 hr; simp only [encI, List.mem_cons, List.not_mem_nil, or_false] at hq; rcases hq with rfl; rfl) (by simp only [List.length_map, List.length_cons, List.length_nil, List.length_tail]; omega) (by simp only [List.length_map, List.length_cons, List.length_nil, List.length_tail]; omega) rfl ?_
  refine AO.yld _ (Yld.assign rfl) rfl rfl rfl ?_
  refine AO.nil ?_
  refine AC.seq ?_
  refine AC.seq ?_
  refine AC.region ?_
  refine AO.yld _ (Yld.assign rfl) rfl rfl rfl ?_
  refine AO.nil ?_
  refine AC.block ?_
  refine AC.loopC [(7, _), (8, _)] [(0, _), (1, _), (2, _), (3, _)] (fun (k : Nat) => [(9, .p (.v (.int .i64 (k : Int))))]) (fun (k : Nat) => []) (fun (k : Nat) => k ≤ (a :: (line xs a).tail).length ∧ anyTo (fun n => decide (n ∈ line xs b)) (a :: (line xs a).tail) k = false) (fun (k : Nat) => (a :: (line xs a).tail).length - k) 0 ⟨rfl, rfl, trivial⟩ ⟨rfl, rfl, rfl, rfl, trivial⟩ ⟨rfl, trivial⟩ trivial ?_ (fun k hJ => ?_)
  · exact ⟨Nat.zero_le _, rfl⟩
  · -- round
    refine AC.seq ?_
    refine AC.seq ?_
    refine AC.region ?_
    refine AO.yld _ (Yld.move rfl) rfl rfl rfl ?_
    refine AO.yld _ (Yld.move rfl) rfl rfl rfl ?_
    refine AO.yld _ (Yld.len Try.underlying128 rfl rfl) rfl rfl rfl ?_
    refine AO.yld _ (Yld.int rfl rfl rfl) rfl rfl rfl ?_
    refine AO.nil ?_
    refine AC.cond _ rfl (fun c25 => ?_) (fun c25 => ?_)
    · -- c25 True
      have hk : k < (a :: (line xs a).tail).length := lt_of_decM (f := encI) c25
      obtain ⟨x, hx⟩ := get_some hk
      have hrow := map_row (enc := encI) hx
      refine AC.skip ?_
      refine AC.seq ?_
      refine AC.block ?_
      refine AC.seq ?_
      refine AC.region ?_
      refine AO.yld _ (Yld.move rfl) rfl rfl rfl ?_
      refine AO.yld _ (Yld.move rfl) rfl rfl rfl ?_
      refine AO.yld _ (Yld.move rfl) rfl rfl rfl ?_
      refine AO.yld _ (Yld.indexVec Try.underlying128 Try.sizeOf2 rfl rfl rfl rfl (show k < ((a :: (line xs a).tail).map encI).length by simpa using hk)) rfl rfl rfl ?_
      refine AO.yld _ (Yld.load Try.isAgg2 rfl (behind_el (rows := (a :: (line xs a).tail).map encI) rfl hrow)) rfl rfl rfl ?_
      refine AO.yld _ (Yld.call rfl rfl Try.call107 rfl rfl rfl (spec_l00Has_c (xs := (b :: (line xs b).tail)) (by omega)) rfl) rfl rfl rfl ?_
      refine AO.nil ?_
      refine AC.cond _ rfl (fun c33 => ?_) (fun c33 => ?_)
      · -- c33 True
        refine AC.seq ?_
        refine AC.region ?_
        refine AO.yld _ (Yld.move rfl) rfl rfl rfl ?_
        refine AO.yld _ (Yld.move rfl) rfl rfl rfl ?_
        refine AO.yld _ (Yld.indexVec Try.underlying128 Try.sizeOf2 rfl rfl rfl rfl (show k < ((a :: (line xs a).tail).map encI).length by simpa using hk)) rfl rfl rfl ?_
        refine AO.yld _ (Yld.load Try.isAgg2 rfl (behind_el (rows := (a :: (line xs a).tail).map encI) rfl hrow)) rfl rfl rfl ?_
        refine AO.yld _ (Yld.assign rfl) rfl rfl rfl ?_
        refine AO.nil ?_
        refine Pure.ret Try.results82 (RVs.cons (RV.tmp rfl) RVs.nil) rfl ?_
        first
          | (refine ci ?_; rw [commonA, ← hA]; exact find_hit hJ.2 hx (by rw [← hB]; simpa using c33))
          | (refine ci ?_; rw [commonA, ← hA]; exact find_miss hJ.2)
      · -- c33 False
        refine AC.skip ?_
        refine AC.mark ?_
        refine AC.region ?_
        refine AO.yld _ (Yld.move rfl) rfl rfl rfl ?_
        refine AO.yld _ (Yld.add rfl rfl (by omega) (by omega)) rfl rfl rfl ?_
        refine AO.yld _ (Yld.assign rfl) rfl rfl rfl ?_
        refine AO.nil ?_
        refine AC.back ⟨k + 1, ?_, ?_, ⟨?_, trivial⟩, trivial, ⟨rfl, rfl, trivial⟩, ⟨rfl, rfl, rfl, rfl, trivial⟩⟩
        · exact ⟨hk, by rw [anyTo_succ hx, hJ.2, ← hB]; simpa using c33⟩
        · omega
        · rfl
    · -- c25 False
      obtain rfl : k = (a :: (line xs a).tail).length := by have h9 := ge_of_decM (xs := (a :: (line xs a).tail)) (f := encI) c25; omega
      refine AC.exit rfl ?_
      refine AC.seq ?_
      refine AC.region ?_
      refine AO.yld _ (Yld.assign rfl) rfl rfl rfl ?_
      refine AO.nil ?_
      refine Pure.ret Try.results82 (RVs.cons (RV.tmp rfl) RVs.nil) rfl ?_
      first
        | (refine ci ?_; rw [commonA, ← hA]; exact find_hit hJ.2 hx (by rw [← hB]; simpa using c33))
        | (refine ci ?_; rw [commonA, ← hA]; exact find_miss hJ.2)

theorem spec_l27Number_c {xs : List Ver} {n : Int} (hg : VersGood xs) :
    Pure Try.prog 80 [.sl 4 (xs.map encVer), .v (.int .i64 n)] (.v (.bool (inVers xs n))) := by
  have hn := hg.1
  refine Pure.intro Try.func80 rfl Try.ntmps80 rfl rfl (fun w => ?_)
  refine AC.seq ?_
  refine AC.region ?_
  refine AO.yld _ (Yld.assign rfl) rfl rfl rfl ?_
  refine AO.nil ?_
  refine AC.seq ?_
  refine AC.region ?_
  refine AO.yld _ (Yld.move rfl) rfl rfl rfl ?_
  refine AO.yld _ (Yld.move rfl) rfl rfl rfl ?_
  refine AO.yld _ (Yld.len Try.underlying49 rfl rfl) rfl rfl rfl ?_
  refine AO.yld _ (Yld.call rfl rfl Try.call93 rfl rfl rfl (spec_l00In_c) rfl) rfl rfl rfl ?_
  refine AO.yld _ (Yld.assign rfl) rfl rfl rfl ?_
  refine AO.nil ?_
  refine Pure.ret Try.results80 (RVs.cons (RV.tmp rfl) RVs.nil) rfl ?_
  refine cb ?_; simp only [inVers, List.length_map]

theorem impl_CommonAncestor_c {xs : List Ver} {a b : Int} (hg : VersGood xs) :
    Pure Try.prog 33 [.sl 4 (xs.map encVer), .v (.int .i64 a), .v (.int .i64 b)] (.tup [.v (.int .i64 (commonAncestor xs a b).1), .v (.int .i64 (commonAncestor xs a b).2)]) := by
  have hn := hg.1
  have hM : (xs.map encVer).length = xs.length := List.length_map ..
  refine Pure.intro Try.func33 rfl Try.ntmps33 rfl rfl (fun w => ?_)
  refine AC.seq ?_
  refine AC.region ?_
  refine AO.yld _ (Yld.assign rfl) rfl rfl rfl ?_
  refine AO.yld _ (Yld.assign rfl) rfl rfl rfl ?_
  refine AO.nil ?_
  refine AC.seq ?_
  refine AC.seq ?_
  refine AC.region ?_
  refine AO.yld _ (Yld.move rfl) rfl rfl rfl ?_
  refine AO.yld _ (Yld.call rfl rfl Try.call71 rfl rfl rfl (impl_ValidHistory_c (by assumption)) rfl) rfl rfl rfl ?_
  refine AO.yld _ (Yld.not rfl) rfl rfl rfl ?_
  refine AO.nil ?_
  refine AC.cond _ rfl (fun c10 => ?_) (fun c10 => ?_)
  · -- c10 True
    refine AC.seq ?_
    refine AC.region ?_
    refine AO.yld _ (Yld.assign rfl) rfl rfl rfl ?_
    refine AO.yld _ (Yld.assign rfl) rfl rfl rfl ?_
    refine AO.nil ?_
    refine Pure.retT Try.results33 (RVs.cons (RV.tmp rfl) (RVs.cons (RV.tmp rfl) RVs.nil)) rfl ?_
    first
      | (simp_all [commonAncestor]; done)
      | (simp only [commonAncestor, if_pos hok, hin.1, hin.2]; rfl)
      | (have hno : ¬ (inVers xs a && inVers xs b) = true := (by (try simp only [hM] at *); unfold inVers; first | grind | simp_all); simp only [commonAncestor, if_pos hok, if_neg hno])
  · -- c10 False
    have hok : okVers xs = true := by simpa using c10
    refine AC.skip ?_
    refine AC.seq ?_
    refine AC.seq ?_
    refine AC.region ?_
    refine AO.yld _ (Yld.move rfl) rfl rfl rfl ?_
    refine AO.yld _ (Yld.move rfl) rfl rfl rfl ?_
    refine AO.yld _ (Yld.len Try.underlying49 rfl rfl) rfl rfl rfl ?_
    refine AO.yld _ (Yld.call rfl rfl Try.call72 rfl rfl rfl (impl_within_c) rfl) rfl rfl rfl ?_
    refine AO.yld _ (Yld.not rfl) rfl rfl rfl ?_
    refine AO.yld _ (Yld.move rfl) rfl rfl rfl ?_
    refine AO.splitAt 16 _ rfl (fun s16 => ?_) (fun s16 => ?_)
    · -- s16 True
      refine AO.skipF rfl rfl rfl rfl rfl ?_
      refine AO.skipF rfl rfl rfl rfl rfl ?_
      refine AO.skipF rfl rfl rfl rfl rfl ?_
      refine AO.skipF rfl rfl rfl rfl rfl ?_
      refine AO.skipF rfl rfl rfl rfl rfl ?_
      refine AO.yld _ (Yld.pickT rfl rfl) rfl rfl rfl ?_
      refine AO.nil ?_
      refine AC.condT rfl ?_
      refine AC.seq ?_
      refine AC.region ?_
      refine AO.yld _ (Yld.assign rfl) rfl rfl rfl ?_
      refine AO.yld _ (Yld.assign rfl) rfl rfl rfl ?_
      refine AO.nil ?_
      refine Pure.retT Try.results33 (RVs.cons (RV.tmp rfl) (RVs.cons (RV.tmp rfl) RVs.nil)) rfl ?_
      first
        | (simp_all [commonAncestor]; done)
        | (simp only [commonAncestor, if_pos hok, hin.1, hin.2]; rfl)
        | (have hno : ¬ (inVers xs a && inVers xs b) = true := (by (try simp only [hM] at *); unfold inVers; first | grind | simp_all); simp only [commonAncestor, if_pos hok, if_neg hno])
    · -- s16 False
      refine AO.yldG _ (Yld.move rfl) rfl rfl rfl rfl rfl ?_
      refine AO.yldG _ (Yld.move rfl) rfl rfl rfl rfl rfl ?_
      refine AO.yldG _ (Yld.len Try.underlying49 rfl rfl) rfl rfl rfl rfl rfl ?_
      refine AO.yldG _ (Yld.call rfl rfl Try.call72 rfl rfl rfl (impl_within_c) rfl) rfl rfl rfl rfl rfl ?_
      refine AO.yldG _ (Yld.not rfl) rfl rfl rfl rfl rfl ?_
      refine AO.yld _ (Yld.pickF rfl rfl) rfl rfl rfl ?_
      refine AO.nil ?_
      refine AC.cond _ rfl (fun c22 => ?_) (fun c22 => ?_)
      · -- c22 True
        refine AC.seq ?_
        refine AC.region ?_
        refine AO.yld _ (Yld.assign rfl) rfl rfl rfl ?_
        refine AO.yld _ (Yld.assign rfl) rfl rfl rfl ?_
        refine AO.nil ?_
        refine Pure.retT Try.results33 (RVs.cons (RV.tmp rfl) (RVs.cons (RV.tmp rfl) RVs.nil)) rfl ?_
        first
          | (simp_all [commonAncestor]; done)
          | (simp only [commonAncestor, if_pos hok, hin.1, hin.2]; rfl)
          | (have hno : ¬ (inVers xs a && inVers xs b) = true := (by (try simp only [hM] at *); unfold inVers; first | grind | simp_all); simp only [commonAncestor, if_pos hok, if_neg hno])
      · -- c22 False
        have hin : inVers xs a = true ∧ inVers xs b = true := by (try simp only [hM] at *); first | (simp_all; done) | (unfold inVers; simp_all; done) | (unfold inVers; grind)
        have ha : 1 ≤ a ∧ a ≤ xs.length := by simpa [inVers] using hin.1
        have hb : 1 ≤ b ∧ b ≤ xs.length := by simpa [inVers] using hin.2
        refine AC.skip ?_
        refine AC.seq ?_
        refine AC.region ?_
        refine AO.yld _ (Yld.move rfl) rfl rfl rfl ?_
        refine AO.yld _ (Yld.move rfl) rfl rfl rfl ?_
        refine AO.yld _ (Yld.move rfl) rfl rfl rfl ?_
        refine AO.yld _ (Yld.call rfl rfl Try.call73 rfl rfl rfl (impl_commonAncestor_c (by assumption) (by assumption) (by omega) (by omega)) rfl) rfl rfl rfl ?_
        refine AO.yld _ (Yld.assign rfl) rfl rfl rfl ?_
        refine AO.yld _ (Yld.assign rfl) rfl rfl rfl ?_
        refine AO.nil ?_
        refine Pure.retT Try.results33 (RVs.cons (RV.tmp rfl) (RVs.cons (RV.tmp rfl) RVs.nil)) rfl ?_
        first
          | (simp_all [commonAncestor]; done)
          | (simp only [commonAncestor, if_pos hok, hin.1, hin.2]; rfl)
          | (have hno : ¬ (inVers xs a && inVers xs b) = true := (by (try simp only [hM] at *); unfold inVers; first | grind | simp_all); simp only [commonAncestor, if_pos hok, if_neg hno])

theorem laws_toVersionS_n {xs : List Ver} (hg : VersGood xs) :
    FnE (α := Unit) Try.prog 38 [.p (.sl 4 (xs.map encVer))] [] [] (fun _ => True) (fun _ => .h 0) (fun _ => [(0, .cust (nestC 107 4 66 2 (xs.map verC) (xs.map verI) (xs.map encVer) ver_nest))]) := by
  have hM : (xs.map encVer).length = xs.length := List.length_map ..
  have hn := hg.1
  refine FnE.intro Try.func38 rfl Try.ntmps38 rfl rfl (fun w0 F0 η φ w => ?_)
  refine AC.seq ?_
  refine AC.region ?_
  refine AO.yld _ (Yld.assign rfl) rfl rfl rfl ?_
  refine AO.nil ?_
  refine AC.seq ?_
  refine AC.region ?_
  refine AO.yld _ (Yld.move rfl) rfl rfl rfl ?_
  refine AO.yld _ (Yld.len Try.underlying57 rfl rfl) rfl rfl rfl ?_
  refine AO.make 0 Try.underlying49 ty107 rfl rfl rfl rfl rfl (Nat.le_refl _) (by rw [hM]; omega) (by rw [hM]; omega) rfl rfl ?_
  refine AO.yld _ (Yld.assign rfl) rfl rfl rfl ?_
  refine AO.nil ?_
  refine AC.seq ?_
  refine AC.seq ?_
  refine AC.region ?_
  refine AO.yld _ (Yld.assign rfl) rfl rfl rfl ?_
  refine AO.nil ?_
  refine AC.block ?_
  refine AC.poolNew 1 66 2 rfl ?_
  refine AC.loopC2 [(0, _), (2, _), (3, _)] [(900, _)] (fun (k : Nat) (vs : List Value) => [(4, .p (.v (.int .i64 (k : Int)))), (3, .h 0)]) (fun (k : Nat) (vs : List Value) => [(0, .vec 107 4 (nfill [.v (.int .i64 0), .v (.int .i64 0), .v (.string ⟨#[]⟩), .sl 0 []] xs vs)), (1, .cust (poolC 66 2 (poolL vs ((xs.take k).map verI))))]) (fun (k : Nat) (vs : List Value) => k ≤ xs.length ∧ vs.length = k) (fun (k : Nat) (vs : List Value) => xs.length - k) 0 [] ⟨rfl, rfl, rfl, trivial⟩ ⟨rfl, trivial⟩ ⟨rfl, rfl, trivial⟩ ⟨by rw [nfill_zero, ← hM]; rfl, rfl, trivial⟩ ?_ (fun k vs hJ => ?_)
  · exact ⟨Nat.zero_le _, rfl⟩
  · -- round
    refine AC.seq ?_
    refine AC.seq ?_
    refine AC.region ?_
    refine AO.yld _ (Yld.move rfl) rfl rfl rfl ?_
    refine AO.yld _ (Yld.move rfl) rfl rfl rfl ?_
    refine AO.yld _ (Yld.len Try.underlying57 rfl rfl) rfl rfl rfl ?_
    refine AO.yld _ (Yld.int rfl rfl rfl) rfl rfl rfl ?_
    refine AO.nil ?_
    refine AC.cond _ rfl (fun c11 => ?_) (fun c11 => ?_)
    · -- c11 True
      have hk := lt_of_decM c11
      obtain ⟨x, hx⟩ := get_some hk
      have hrow := map_row (enc := encVer) hx
      have hgx := hg.2 x (List.mem_of_getElem? hx)
      refine AC.skip ?_
      refine AC.seq ?_
      refine AC.block ?_
      refine AC.region ?_
      refine AO.yld _ (Yld.move rfl) rfl rfl rfl ?_
      refine AO.yld _ (Yld.move rfl) rfl rfl rfl ?_
      refine AO.yld _ (Yld.move rfl) rfl rfl rfl ?_
      refine AO.yld _ (Yld.move rfl) rfl rfl rfl ?_
      refine AO.yld _ (Yld.indexSl Try.underlying57 Try.sizeOf104 rfl rfl hrow rfl) rfl rfl rfl ?_
      refine AO.yld _ (Yld.loadAgg Try.isAgg104 Try.sizeOf104 rfl rfl rfl rfl) rfl rfl rfl ?_
      refine AO.callW (wantedN rfl) [2] [] [0] rfl rfl Try.call84 rfl (laws_toVersion_c (by assumption)) (.own rfl) rfl (fun _ => rfl) trivial rfl (fun _ => rfl) (fun _ => rfl) (fun _ _ => ?_)
      refine AO.poolAdd 2 1 rfl rfl rfl (fun va vn vc => ?_)
      refine AO.yld _ (Yld.indexVec Try.underlying49 Try.sizeOf107 rfl rfl rfl rfl (by rw [nfill_length (by omega)]; exact hk)) rfl rfl rfl ?_
      refine AO.store Try.sizeOf107 rfl rfl rfl rfl rfl (store_el rfl (nfill_get hJ.2 hk) rfl rfl) ?_
      refine AO.nil ?_
      refine AC.mark ?_
      refine AC.region ?_
      refine AO.yld _ (Yld.move rfl) rfl rfl rfl ?_
      refine AO.yld _ (Yld.add rfl rfl (by omega) (by omega)) rfl rfl rfl ?_
      refine AO.yld _ (Yld.assign rfl) rfl rfl rfl ?_
      refine AO.nil ?_
      refine AC.back ⟨k + 1, vs ++ [.slice va vn vc], ?_, ?_, ⟨?_, ?_, trivial⟩, ⟨?_, ?_, trivial⟩, ⟨rfl, rfl, rfl, trivial⟩, ⟨rfl, trivial⟩⟩
      · exact ⟨hk, by simp [hJ.2]⟩
      · omega
      · rfl
      · rfl
      · rw [← nfill_set hJ.2 hx]; rfl
      · rw [← pool_snoc hJ.2 hx]; rfl
    · -- c11 False
      obtain rfl : k = xs.length := by have := ge_of_decM c11; omega
      refine AC.exit rfl ?_
      refine AC.seq ?_
      refine AC.region ?_
      refine AO.yld _ (Yld.move rfl) rfl rfl rfl ?_
      refine AO.yld _ (Yld.assign rfl) rfl rfl rfl ?_
      refine AO.nil ?_
      refine AC.nestJoin 0 1 (cs := xs.map verC) (ins := xs.map verI) (hV := ver_nest) (vs := vs) rfl rfl rfl (nfill_end hJ.2) (by rw [List.take_of_length_le (Nat.le_refl _)]) (by simp; exact hJ.2) (by simp) ?_
      refine FnE.ret () [0] [0] Try.results38 (RVs.cons (RV.tmp rfl) RVs.nil) rfl rfl rfl ?_ ?_ ⟨⟨_, rfl, ?_⟩, trivial⟩
      · -- holds
        trivial
      · -- value
        rfl
      · -- thing 0
        rfl

theorem laws_markVersionS_c {xs : List Ver} {k0 : Int} (hg : VersGood xs) (h0 : 0 ≤ k0) (h1 : k0 ≤ 100000000000) :
    FnE (α := Unit) Try.prog 40 [.h 0, .p (.v (.int .i64 k0))] [(0, .cust (nestC 107 4 66 2 (xs.map verC) (xs.map verI) (xs.map encVer) ver_nest))] [0] (fun _ => True) (fun _ => .p (.v (.int .i64 (mkK k0 (stL xs))))) (fun _ => [(0, .cust (nestC 107 4 66 2 (mkC k0 (stL xs)) (mkI k0 (stL xs)) (mkV k0 (stL xs)) rfl))]) := by
  have hn := hg.1
  refine FnE.intro Try.func40 rfl Try.ntmps40 rfl rfl (fun w0 F0 η φ w => ?_)
  refine AC.seq ?_
  refine AC.region ?_
  refine AO.yld _ (Yld.assign rfl) rfl rfl rfl ?_
  refine AO.nil ?_
  refine AC.seq ?_
  refine AC.seq ?_
  refine AC.region ?_
  refine AO.yld _ (Yld.assign rfl) rfl rfl rfl ?_
  refine AO.nil ?_
  refine AC.block ?_
  refine AC.nestSplit 0 1 rfl rfl (fun vs hvl hil => ?_)
  refine AC.loopC [(0, _), (4, _)] [(900, _)] (fun (k : Nat) => [(5, .p (.v (.int .i64 (k : Int)))), (1, .p (.v (.int .i64 (markK k0 xs k))))]) (fun (k : Nat) => [(0, .vec 107 4 (rowsV (markC k0 xs k) vs)), (1, .cust (poolC 66 2 (poolL vs (markI k0 xs k))))]) (fun (k : Nat) => k ≤ xs.length) (fun (k : Nat) => xs.length - k) 0 ⟨rfl, rfl, trivial⟩ ⟨rfl, trivial⟩ ⟨rfl, by rw [markK_zero]; rfl, trivial⟩ ⟨by rw [markC_zero]; rfl, by rw [markI_zero]; rfl, trivial⟩ ?_ (fun k hJ => ?_)
  · exact Nat.zero_le _
  · -- round
    refine AC.seq ?_
    refine AC.seq ?_
    refine AC.region ?_
    refine AO.yld _ (Yld.move rfl) rfl rfl rfl ?_
    refine AO.yld _ (Yld.move rfl) rfl rfl rfl ?_
    refine AO.yld _ (Yld.len Try.underlying49 rfl rfl) rfl rfl rfl ?_
    refine AO.yld _ (Yld.int rfl rfl rfl) rfl rfl rfl ?_
    refine AO.nil ?_
    refine AC.cond _ rfl (fun c9 => ?_) (fun c9 => ?_)
    · -- c9 True
      have hvl2 : vs.length = xs.length := by simpa using hvl
      have hk : k < xs.length := by have h := c9; rw [markRows_len hvl2 (by omega)] at h; simpa using h
      obtain ⟨x, hx⟩ := get_some hk
      obtain ⟨v, hv⟩ := get_some (xs := vs) (k := k) (by omega)
      obtain ⟨g1, g2, g3⟩ := hg.2 x (List.mem_of_getElem? hx)
      have hkl := markK_lim (k0 := k0) (k := k) hg
      have e3 : markK k0 xs k + 1 + 1 + 1 = markK k0 xs k + 3 := by omega
      have e2 : markK k0 xs k + 1 + 1 = markK k0 xs k + 2 := by omega
      refine AC.skip ?_
      refine AC.seq ?_
      refine AC.block ?_
      refine AC.seq ?_
      refine AC.region ?_
      refine AO.yld _ (Yld.move rfl) rfl rfl rfl ?_
      refine AO.yld _ (Yld.move rfl) rfl rfl rfl ?_
      refine AO.yld _ (Yld.move rfl) rfl rfl rfl ?_
      refine AO.yld _ (Yld.indexVec Try.underlying49 Try.sizeOf107 rfl rfl rfl rfl (by first | (rw [markRows_len (by omega) (by omega)]; exact hk) | (simp only [List.length_set]; rw [markRows_len (by omega) (by omega)]; exact hk))) rfl rfl rfl ?_
      refine AO.yld _ (Yld.fieldAddr Try.underlying107 rfl rfl Try.sizeOf2 rfl (behind_el rfl (markRows_get hx hv)) rfl) rfl rfl rfl ?_
      refine AO.store Try.sizeOf2 rfl rfl rfl rfl rfl (store_el rfl (markRows_get hx hv) rfl rfl) ?_
      refine AO.nil ?_
      refine AC.seq ?_
      refine AC.region ?_
      refine AO.yld _ (Yld.move rfl) rfl rfl rfl ?_
      refine AO.yld _ (Yld.add rfl rfl (by omega) (by omega)) rfl rfl rfl ?_
      refine AO.yld _ (Yld.assign rfl) rfl rfl rfl ?_
      refine AO.nil ?_
      refine AC.seq ?_
      refine AC.region ?_
      refine AO.yld _ (Yld.move rfl) rfl rfl rfl ?_
      refine AO.yld _ (Yld.move rfl) rfl rfl rfl ?_
      refine AO.yld _ (Yld.move rfl) rfl rfl rfl ?_
      refine AO.yld _ (Yld.indexVec Try.underlying49 Try.sizeOf107 rfl rfl rfl rfl (by first | (rw [markRows_len (by omega) (by omega)]; exact hk) | (simp only [List.length_set]; rw [markRows_len (by omega) (by omega)]; exact hk))) rfl rfl rfl ?_
      refine AO.yld _ (Yld.fieldAddr Try.underlying107 rfl rfl Try.sizeOf2 rfl (behind_el rfl (set_get (by first | (rw [markRows_len (by omega) (by omega)]; exact hk) | (simp only [List.length_set]; rw [markRows_len (by omega) (by omega)]; exact hk)))) rfl) rfl rfl rfl ?_
      refine AO.store Try.sizeOf2 rfl rfl rfl rfl rfl (store_el rfl (set_get (by first | (rw [markRows_len (by omega) (by omega)]; exact hk) | (simp only [List.length_set]; rw [markRows_len (by omega) (by omega)]; exact hk))) rfl rfl) ?_
      refine AO.nil ?_
      refine AC.seq ?_
      refine AC.region ?_
      refine AO.yld _ (Yld.move rfl) rfl rfl rfl ?_
      refine AO.yld _ (Yld.add rfl rfl (by omega) (by omega)) rfl rfl rfl ?_
      refine AO.yld _ (Yld.assign rfl) rfl rfl rfl ?_
      refine AO.nil ?_
      refine AC.seq ?_
      refine AC.region ?_
      refine AO.yld _ (Yld.move rfl) rfl rfl rfl ?_
      refine AO.yld _ (Yld.move rfl) rfl rfl rfl ?_
      refine AO.yld _ (Yld.move rfl) rfl rfl rfl ?_
      refine AO.yld _ (Yld.call rfl rfl Try.call49 rfl rfl rfl (laws_markText_c (by omega)) rfl) rfl rfl rfl ?_
      refine AO.yld _ (Yld.indexVec Try.underlying49 Try.sizeOf107 rfl rfl rfl rfl (by first | (rw [markRows_len (by omega) (by omega)]; exact hk) | (simp only [List.length_set]; rw [markRows_len (by omega) (by omega)]; exact hk))) rfl rfl rfl ?_
      refine AO.yld _ (Yld.fieldAddr Try.underlying107 rfl rfl Try.sizeOf9 rfl (behind_el rfl (set_get (by first | (rw [markRows_len (by omega) (by omega)]; exact hk) | (simp only [List.length_set]; rw [markRows_len (by omega) (by omega)]; exact hk)))) rfl) rfl rfl rfl ?_
      refine AO.store Try.sizeOf9 rfl rfl rfl rfl rfl (store_el rfl (set_get (by first | (rw [markRows_len (by omega) (by omega)]; exact hk) | (simp only [List.length_set]; rw [markRows_len (by omega) (by omega)]; exact hk))) rfl rfl) ?_
      refine AO.nil ?_
      refine AC.seq ?_
      refine AC.region ?_
      refine AO.yld _ (Yld.move rfl) rfl rfl rfl ?_
      refine AO.yld _ (Yld.add rfl rfl (by omega) (by omega)) rfl rfl rfl ?_
      refine AO.yld _ (Yld.assign rfl) rfl rfl rfl ?_
      refine AO.nil ?_
      refine AC.region ?_
      refine AO.yld _ (Yld.move rfl) rfl rfl rfl ?_
      refine AO.yld _ (Yld.move rfl) rfl rfl rfl ?_
      refine AO.yld _ (Yld.indexVec Try.underlying49 Try.sizeOf107 rfl rfl rfl rfl (by first | (rw [markRows_len (by omega) (by omega)]; exact hk) | (simp only [List.length_set]; rw [markRows_len (by omega) (by omega)]; exact hk))) rfl rfl rfl ?_
      refine AO.yld _ (Yld.fieldAddr Try.underlying107 rfl rfl Try.sizeOf24 rfl (behind_el rfl (set_get (by first | (rw [markRows_len (by omega) (by omega)]; exact hk) | (simp only [List.length_set]; rw [markRows_len (by omega) (by omega)]; exact hk)))) rfl) rfl rfl rfl ?_
      refine AO.yld _ (Yld.load Try.isAgg24 rfl (Eq.trans (behind_el rfl (set_get (by first | (rw [markRows_len (by omega) (by omega)]; exact hk) | (simp only [List.length_set]; rw [markRows_len (by omega) (by omega)]; exact hk)))) rfl)) rfl rfl rfl ?_
      refine AO.poolTake 38 1 2 rfl rfl (markPool_get hx hv) rfl ?_
      refine AO.yld _ (Yld.move rfl) rfl rfl rfl ?_
      refine AO.callW (wantedN rfl) [2] [0] [0] rfl rfl Try.call13 rfl ((laws_markSettingS_c (xs := x.state) (k0 := markK k0 xs k + 1 + 1 + 1) (by omega) (by omega) (by omega)).at v) (.own rfl) rfl (fun _ => rfl) ⟨rfl, trivial⟩ rfl (fun _ => rfl) (fun _ => rfl) (fun _ _ => ?_)
      refine AO.poolGive 1 2 rfl rfl rfl (pool_get_set (by rw [markPool_len (by omega) (by omega)]; exact hk)) ?_
      refine AO.yld _ (Yld.assign rfl) rfl rfl rfl ?_
      refine AO.nil ?_
      refine AC.mark ?_
      refine AC.region ?_
      refine AO.yld _ (Yld.move rfl) rfl rfl rfl ?_
      refine AO.yld _ (Yld.add rfl rfl (by omega) (by omega)) rfl rfl rfl ?_
      refine AO.yld _ (Yld.assign rfl) rfl rfl rfl ?_
      refine AO.nil ?_
      refine AC.back ⟨k + 1, ?_, ?_, ⟨?_, ?_, trivial⟩, ⟨?_, ?_, trivial⟩, ⟨rfl, rfl, trivial⟩, ⟨rfl, trivial⟩⟩
      · exact hk
      · omega
      · rfl
      · show some (AV.p (PV.v (Value.int IntKind.i64 _))) = _; rw [markK_succ hx, ← e3]; try rfl
      · try simp only [List.set_set]
        rw [← markRows_set hx hv, ← e2]; rfl
      · rw [← markPool_set hx hv, ← e3]; rfl
    · -- c9 False
      have hvl2 : vs.length = xs.length := by simpa using hvl
      obtain rfl : k = xs.length := by have h := c9; rw [markRows_len hvl2 (by omega)] at h; simp at h; omega
      refine AC.exit rfl ?_
      refine AC.seq ?_
      refine AC.region ?_
      refine AO.yld _ (Yld.move rfl) rfl rfl rfl ?_
      refine AO.yld _ (Yld.assign rfl) rfl rfl rfl ?_
      refine AO.nil ?_
      refine AC.nestJoin 0 1 (cs := mkC k0 (stL xs)) (ins := mkI k0 (stL xs)) (hV := rfl) (vs := vs) rfl rfl rfl (by rw [markC_end]) (by rw [markI_end]) (by rw [mkC_length, stL_len]; omega) (by rw [mkI_length, mkC_length]) ?_
      refine FnE.ret () [0] [0] Try.results40 (RVs.cons (RV.tmp rfl) RVs.nil) rfl rfl rfl ?_ ?_ ⟨⟨_, rfl, ?_⟩, trivial⟩
      · -- holds
        trivial
      · -- value
        first | rfl | (simp only [markK, List.take_length]; rfl)
      · -- thing 0
        rfl

theorem cloneSetting_c {xs : List NV} (hn : xs.length ≤ 1048576) :
    FnE (α := Unit) Try.prog 59 [.p (.sl 2 (xs.map encNV))] [] [] (fun _ => True) (fun _ => .h 0) (fun _ => [(0, .vec 66 2 (xs.map encNV))]) := by
  refine FnE.intro Try.func59 rfl Try.ntmps59 rfl rfl (fun w0 F0 η φ w => ?_)
  refine AC.seq ?_
  refine AC.region ?_
  refine AO.yld _ (Yld.assign rfl) rfl rfl rfl ?_
  refine AO.nil ?_
  refine AC.seq ?_
  refine AC.seq ?_
  refine AC.region ?_
  refine AO.yld _ (Yld.move rfl) rfl rfl rfl ?_
  refine AO.eqNil Try.underlying24 rfl rfl rfl (fun z4 hz4 => ?_)
  refine AO.nil ?_
  refine AC.cond _ rfl (fun c4 => ?_) (fun c4 => ?_)
  · -- c4 True
    refine AC.seq ?_
    refine AC.region ?_
    refine AO.yld _ (Yld.assign rfl) rfl rfl rfl ?_
    refine AO.nil ?_
    refine AC.nilVec 2 0 66 2 rfl rfl ?_
    refine FnE.ret () [0] [0] Try.results59 (RVs.cons (RV.tmp rfl) RVs.nil) rfl rfl rfl ?_ ?_ ⟨⟨_, rfl, ?_⟩, trivial⟩
    · -- holds
      trivial
    · -- value
      rfl
    · -- thing 0
      first | rfl | (refine vecE ?_; first | rfl | (obtain rfl : xs = [] := List.eq_nil_of_length_eq_zero (by simpa using hz4 c4); rfl))
  · -- c4 False
    refine AC.skip ?_
    refine AC.seq ?_
    refine AC.region ?_
    refine AO.buildSlice (rows := []) 0 Try.underlying24 ty66 rfl rfl rfl rfl rfl rfl rfl rfl rfl ?_
    refine AO.yld _ (Yld.move rfl) rfl rfl rfl ?_
    refine AO.append 0 Try.underlying24 ty66 rfl rfl rfl rfl rfl rfl rfl (fun r hr q hq => by obtain ⟨y, _, rfl⟩ := List.mem_map.1 hr; simp only [encNV, List.mem_cons, List.not_mem_nil, or_false] at hq; rcases hq with rfl | rfl <;> rfl) (by simp only [List.length_map, List.length_cons, List.length_nil]; omega) (by simp only [List.length_map, List.length_cons, List.length_nil]; omega) rfl ?_
    refine AO.yld _ (Yld.assign rfl) rfl rfl rfl ?_
    refine AO.nil ?_
    refine FnE.ret () [0] [0] Try.results59 (RVs.cons (RV.tmp rfl) RVs.nil) rfl rfl rfl ?_ ?_ ⟨⟨_, rfl, ?_⟩, trivial⟩
    · -- holds
      trivial
    · -- value
      rfl
    · -- thing 0
      first | rfl | (refine vecE ?_; first | rfl | (obtain rfl : xs = [] := List.eq_nil_of_length_eq_zero (by simpa using hz4 c4); rfl))

theorem spec_l27Own_c {xs : List Ver} (hg : VersGood xs) :
    FnE (α := List Value) Try.prog 108 [.p (.sl 4 (xs.map encVer))] [] [] (fun vs => vs.length = xs.length) (fun vs => .h 0) (fun vs => [(0, .vec 107 4 (rowsV (xs.map verC) vs)), (1, .cust (poolC 66 2 (poolL vs (xs.map verI))))]) := by
  have hn := hg.1
  have hM : (xs.map encVer).length = xs.length := List.length_map ..
  refine FnE.intro Try.func108 rfl Try.ntmps108 rfl rfl (fun w0 F0 η φ w => ?_)
  refine AC.seq ?_
  refine AC.region ?_
  refine AO.yld _ (Yld.assign rfl) rfl rfl rfl ?_
  refine AO.nil ?_
  refine AC.seq ?_
  refine AC.region ?_
  refine AO.buildSlice (rows := []) 0 Try.underlying49 ty107 rfl rfl rfl rfl rfl rfl rfl rfl rfl ?_
  refine AO.yld _ (Yld.assign rfl) rfl rfl rfl ?_
  refine AO.nil ?_
  refine AC.seq ?_
  refine AC.seq ?_
  refine AC.region ?_
  refine AO.yld _ (Yld.assign rfl) rfl rfl rfl ?_
  refine AO.nil ?_
  refine AC.block ?_
  refine AC.poolNew 1 66 2 rfl ?_
  refine AC.loopC2 [(0, _), (2, _)] [(900, _)] (fun (k : Nat) (vs : List Value) => [(4, .p (.v (.int .i64 (k : Int)))), (3, .h 0)]) (fun (k : Nat) (vs : List Value) => [(1, .cust (poolC 66 2 (poolL vs ((xs.take k).map verI)))), (0, .vec 107 4 (rowsV ((xs.take k).map verC) vs))]) (fun (k : Nat) (vs : List Value) => k ≤ xs.length ∧ vs.length = k) (fun (k : Nat) (vs : List Value) => xs.length - k) 0 [] ⟨rfl, rfl, trivial⟩ ⟨rfl, trivial⟩ ⟨rfl, rfl, trivial⟩ ⟨rfl, rfl, trivial⟩ ?_ (fun k vs hJ => ?_)
  · exact ⟨Nat.zero_le _, rfl⟩
  · -- round
    refine AC.seq ?_
    refine AC.seq ?_
    refine AC.region ?_
    refine AO.yld _ (Yld.move rfl) rfl rfl rfl ?_
    refine AO.yld _ (Yld.move rfl) rfl rfl rfl ?_
    refine AO.yld _ (Yld.len Try.underlying49 rfl rfl) rfl rfl rfl ?_
    refine AO.yld _ (Yld.int rfl rfl rfl) rfl rfl rfl ?_
    refine AO.nil ?_
    refine AC.cond _ rfl (fun c10 => ?_) (fun c10 => ?_)
    · -- c10 True
      have hk := lt_of_decM c10
      obtain ⟨x, hx⟩ := get_some hk
      have hrow := map_row (enc := encVer) hx
      obtain ⟨g1, g2, g3⟩ := hg.2 x (List.mem_of_getElem? hx)
      have hrl := rowsT_len (xs := xs) hJ.2 hJ.1
      refine AC.skip ?_
      refine AC.seq ?_
      refine AC.block ?_
      refine AC.seq ?_
      refine AC.region ?_
      refine AO.yld _ (Yld.move rfl) rfl rfl rfl ?_
      refine AO.yld _ (Yld.move rfl) rfl rfl rfl ?_
      refine AO.yld _ (Yld.indexSl Try.underlying49 Try.sizeOf107 rfl rfl hrow rfl) rfl rfl rfl ?_
      refine AO.yld _ (Yld.loadAgg Try.isAgg107 Try.sizeOf107 rfl rfl rfl rfl) rfl rfl rfl ?_
      refine AO.alloc 2 Try.zeroValue107 rfl rfl rfl ?_
      refine AO.store Try.sizeOf107 rfl rfl rfl rfl rfl rfl ?_
      refine AO.nil ?_
      refine AC.seq ?_
      refine AC.region ?_
      refine AO.buildSlice (rows := []) 3 Try.underlying24 ty66 rfl rfl rfl rfl rfl rfl rfl rfl rfl ?_
      refine AO.yld _ (Yld.fieldAddr Try.underlying107 rfl rfl Try.sizeOf24 rfl rfl rfl) rfl rfl rfl ?_
      refine AO.yld _ (Yld.load Try.isAgg24 rfl rfl) rfl rfl rfl ?_
      refine AO.append 3 Try.underlying24 ty66 rfl rfl rfl rfl rfl rfl rfl (fun r hr q hq => by obtain ⟨y, _, rfl⟩ := List.mem_map.1 hr; simp only [encNV, List.mem_cons, List.not_mem_nil, or_false] at hq; rcases hq with rfl | rfl <;> rfl) (by simp only [List.length_map, List.length_cons, List.length_nil]; omega) (by simp only [List.length_map, List.length_cons, List.length_nil]; omega) rfl ?_
      refine AO.poolAdd 3 1 rfl rfl rfl (fun va vn vc => ?_)
      refine AO.yld _ (Yld.fieldAddr Try.underlying107 rfl rfl Try.sizeOf24 rfl rfl rfl) rfl rfl rfl ?_
      refine AO.store Try.sizeOf24 rfl rfl rfl rfl rfl rfl ?_
      refine AO.nil ?_
      refine AC.region ?_
      refine AO.yld _ (Yld.move rfl) rfl rfl rfl ?_
      refine AO.yld _ (Yld.loadAgg Try.isAgg107 Try.sizeOf107 rfl rfl rfl rfl) rfl rfl rfl ?_
      refine AO.buildSlice (rows := [[_, _, _, _]]) 4 Try.underlying49 ty107 rfl rfl rfl rfl rfl rfl rfl rfl rfl ?_
      refine AO.append 0 Try.underlying49 ty107 rfl rfl rfl rfl rfl rfl rfl (by simp [pvOne, str]) (by simp only [hrl, List.length_cons, List.length_nil]; omega) (by simp only [hrl, List.length_cons, List.length_nil]; omega) rfl ?_
      refine AO.yld _ (Yld.assign rfl) rfl rfl rfl ?_
      refine AO.nil ?_
      refine AC.mark ?_
      refine AC.region ?_
      refine AO.yld _ (Yld.move rfl) rfl rfl rfl ?_
      refine AO.yld _ (Yld.add rfl rfl (by omega) (by omega)) rfl rfl rfl ?_
      refine AO.yld _ (Yld.assign rfl) rfl rfl rfl ?_
      refine AO.nil ?_
      refine AC.back ⟨k + 1, vs ++ [.slice va vn vc], ?_, ?_, ⟨?_, ?_, trivial⟩, ⟨?_, ?_, trivial⟩, ⟨rfl, rfl, trivial⟩, ⟨rfl, trivial⟩⟩
      · exact ⟨hk, by simp [hJ.2]⟩
      · omega
      · rfl
      · rfl
      · rw [← pool_snoc hJ.2 hx]; rfl
      · rw [← rows_snoc hJ.2 hx]; rfl
    · -- c10 False
      obtain rfl : k = xs.length := by have := ge_of_decM c10; omega
      refine AC.exit rfl ?_
      refine AC.seq ?_
      refine AC.region ?_
      refine AO.yld _ (Yld.move rfl) rfl rfl rfl ?_
      refine AO.yld _ (Yld.assign rfl) rfl rfl rfl ?_
      refine AO.nil ?_
      refine FnE.ret vs [0, 1] [0, 1] Try.results108 (RVs.cons (RV.tmp rfl) RVs.nil) rfl rfl rfl ?_ ?_ ⟨⟨_, rfl, ?_⟩, ⟨_, rfl, ?_⟩, trivial⟩
      · -- holds
        exact hJ.2
      · -- value
        rfl
      · -- thing 0
        have h9 : rowsV ((xs.take xs.length).map verC) vs = rowsV (xs.map verC) vs := by rw [List.take_length]
        rw [h9]; rfl
      · -- thing 1
        have h9 : poolL vs ((xs.take xs.length).map verI) = poolL vs (xs.map verI) := by rw [List.take_length]
        rw [h9]; rfl

theorem spec_l27Add_c {xs : List Ver} {p : Int} {memo : List UInt8} {st : List NV} (hg : VersGood xs) (hst : st.length ≤ 1048576) :
    FnE (α := Unit) Try.prog 83 [.p (.sl 4 (xs.map encVer)), .p (.v (.int .i64 p)), .p (.v (str memo)), .p (.sl 2 (st.map encNV))] [] [] (fun _ => True) (fun _ => .tup [.h 0, .p (.v (.int .i64 (addV xs p memo st).2))]) (fun _ => [(0, .cust (nestC 107 4 66 2 (((addV xs p memo st).1).map verC) (((addV xs p memo st).1).map verI) (((addV xs p memo st).1).map encVer) ver_nest))]) := by
  have hn := hg.1
  have hM : (xs.map encVer).length = xs.length := List.length_map ..
  refine FnE.intro Try.func83 rfl Try.ntmps83 rfl rfl (fun w0 F0 η φ w => ?_)
  refine AC.seq ?_
  refine AC.region ?_
  refine AO.yld _ (Yld.assign rfl) rfl rfl rfl ?_
  refine AO.yld _ (Yld.assign rfl) rfl rfl rfl ?_
  refine AO.nil ?_
  refine AC.seq ?_
  refine AC.seq ?_
  refine AC.region ?_
  refine AO.yld _ (Yld.move rfl) rfl rfl rfl ?_
  refine AO.yld _ (Yld.len Try.underlying49 rfl rfl) rfl rfl rfl ?_
  refine AO.yld _ (Yld.int rfl rfl rfl) rfl rfl rfl ?_
  refine AO.nil ?_
  refine AC.cond _ rfl (fun c13 => ?_) (fun c13 => ?_)
  · -- c13 True
    have h32 : xs.length = 32 := by have h := c13; rw [hM] at h; simp at h; omega
    refine AC.seq ?_
    refine AC.region ?_
    refine AO.yld _ (Yld.assign rfl) rfl rfl rfl ?_
    refine AO.yld _ (Yld.assign rfl) rfl rfl rfl ?_
    refine AO.nil ?_
    refine AC.nilVec 8 0 107 4 rfl rfl ?_
    refine AC.poolNew 1 66 2 rfl ?_
    refine AC.nestJoin 0 1 (cs := ([] : List Ver).map verC) (ins := ([] : List Ver).map verI) (hV := ver_nest) (vs := []) rfl rfl rfl rfl rfl rfl rfl ?_
    refine FnE.ret () [0] [0] Try.results83 (RVs.cons (RV.tmp rfl) (RVs.cons (RV.tmp rfl) RVs.nil)) rfl rfl rfl ?_ ?_ ⟨⟨_, rfl, ?_⟩, trivial⟩
    · -- holds
      trivial
    · -- value
      refine tupE ?_; simp [addV, h32]
    · -- thing 0
      exact nestE (by simp [addV, h32])
  · -- c13 False
    have h32 : ¬ xs.length = 32 := by have h := c13; rw [hM] at h; simp at h; omega
    refine AC.skip ?_
    refine AC.seq ?_
    refine AC.region ?_
    refine AO.yld _ (Yld.move rfl) rfl rfl rfl ?_
    refine AO.yld _ (Yld.len Try.underlying49 rfl rfl) rfl rfl rfl ?_
    refine AO.yld _ (Yld.add rfl rfl (by omega) (by omega)) rfl rfl rfl ?_
    refine AO.yld _ (Yld.move rfl) rfl rfl rfl ?_
    refine AO.yld _ (Yld.move rfl) rfl rfl rfl ?_
    refine AO.buildSlice (rows := []) 0 Try.underlying24 ty66 rfl rfl rfl rfl rfl rfl rfl rfl rfl ?_
    refine AO.yld _ (Yld.move rfl) rfl rfl rfl ?_
    refine AO.append 0 Try.underlying24 ty66 rfl rfl rfl rfl rfl rfl rfl (fun r hr q hq => by obtain ⟨y, _, rfl⟩ := List.mem_map.1 hr; simp only [encNV, List.mem_cons, List.not_mem_nil, or_false] at hq; rcases hq with rfl | rfl <;> rfl) (by simp only [List.length_map, List.length_cons, List.length_nil]; omega) (by simp only [List.length_map, List.length_cons, List.length_nil]; omega) rfl ?_
    refine AO.poolNew 1 66 2 rfl ?_
    refine AO.poolAdd 0 1 rfl rfl rfl (fun va vn vc => ?_)
    refine AO.yld _ (Yld.buildA (zs := [.v (.int .i64 0), .v (.int .i64 0), .v (str []), .sl 0 []]) bld107 rfl rfl) rfl rfl rfl ?_
    refine AO.alloc 2 Try.zeroValue107 rfl rfl rfl ?_
    refine AO.store Try.sizeOf107 rfl rfl rfl rfl rfl rfl ?_
    refine AO.nil ?_
    refine AC.seq ?_
    apply AC.drawAnyC (α := { vs : List Value // vs.length = xs.length }) [(0, _), (1, _), (2, _), (3, _), (10, _), (11, _), (12, _), (13, _), (14, _), (15, _), (16, _), (17, _), (18, _), (19, _), (20, _), (21, _), (22, _)] [(1, _), (2, _), (900, _)] (fun y => [(8, .h 3), (9, .p (.v (.int .i64 0)))]) (fun y => [(3, .vec 107 4 (rowsV (xs.map verC) y.1 ++ [verC (newVer xs p memo st) ++ [.v (.slice va vn vc)]])), (4, .cust (poolC 66 2 (poolL y.1 (xs.map verI))))]) (by kernel_rfl)
    · -- orders
      refine ANx.take 0 rfl (by kernel_rfl) (by kernel_rfl) (by kernel_rfl) rfl rfl rfl (YldA.move rfl) ?_
      refine ANx.all (rs := [1, 2]) (by kernel_rfl) rfl ⟨?_, ?_, trivial⟩
      · -- 1
        refine Stpx.effX rfl rfl (EffX.callW [3, 4] [] [0, 1] rfl rfl Try.call108 rfl (spec_l27Own_c (by assumption)) (.own rfl) rfl (fun _ => rfl) trivial rfl (fun _ => rfl) (fun _ => rfl)) ?_
        rintro _ ⟨x24, hx24, rfl⟩
        refine ANx.all (rs := [2]) (by kernel_rfl) rfl ⟨?_, trivial⟩
        refine Stpx.eff rfl rfl (Eff.yld (Yld.loadAgg Try.isAgg107 Try.sizeOf107 rfl rfl rfl rfl) rfl rfl) ?_
        refine ANx.all (rs := [3]) (by kernel_rfl) rfl ⟨?_, trivial⟩
        refine Stpx.eff rfl rfl (Eff.buildSlice (rows := [[_, _, _, _]]) 5 Try.underlying49 ty107 rfl rfl rfl rfl rfl rfl rfl rfl rfl) ?_
        refine ANx.all (rs := [4]) (by kernel_rfl) rfl ⟨?_, trivial⟩
        refine Stpx.eff rfl rfl (Eff.append 3 Try.underlying49 ty107 rfl rfl rfl rfl rfl rfl rfl (by simp [pvOne, str]) (by simp only [rowsV_len (xs := xs) (by assumption), List.length_cons, List.length_nil]; omega) (by simp only [rowsV_len (xs := xs) (by assumption), List.length_cons, List.length_nil]; omega) rfl) ?_
        refine ANx.take 5 rfl (by kernel_rfl) (by kernel_rfl) (by kernel_rfl) rfl rfl rfl (YldA.assign rfl) ?_
        refine ANx.take 6 rfl (by kernel_rfl) (by kernel_rfl) (by kernel_rfl) rfl rfl rfl (YldA.assign rfl) ?_
        exact ANx.doneC ⟨x24, hx24⟩ (by kernel_rfl) ⟨rfl, rfl, trivial⟩ ⟨rfl, rfl, trivial⟩ ⟨rfl, rfl, rfl, rfl, rfl, rfl, rfl, rfl, rfl, rfl, rfl, rfl, rfl, rfl, rfl, rfl, rfl, trivial⟩ ⟨rfl, rfl, rfl, trivial⟩
      · -- 2
        refine Stpx.eff rfl rfl (Eff.yld (Yld.loadAgg Try.isAgg107 Try.sizeOf107 rfl rfl rfl rfl) rfl rfl) ?_
        refine ANx.all (rs := [1, 3]) (by kernel_rfl) rfl ⟨?_, ?_, trivial⟩
        · -- 1
          refine Stpx.effX rfl rfl (EffX.callW [3, 4] [] [0, 1] rfl rfl Try.call108 rfl (spec_l27Own_c (by assumption)) (.own rfl) rfl (fun _ => rfl) trivial rfl (fun _ => rfl) (fun _ => rfl)) ?_
          rintro _ ⟨x24, hx24, rfl⟩
          refine ANx.all (rs := [3]) (by kernel_rfl) rfl ⟨?_, trivial⟩
          refine Stpx.eff rfl rfl (Eff.buildSlice (rows := [[_, _, _, _]]) 5 Try.underlying49 ty107 rfl rfl rfl rfl rfl rfl rfl rfl rfl) ?_
          refine ANx.all (rs := [4]) (by kernel_rfl) rfl ⟨?_, trivial⟩
          refine Stpx.eff rfl rfl (Eff.append 3 Try.underlying49 ty107 rfl rfl rfl rfl rfl rfl rfl (by simp [pvOne, str]) (by simp only [rowsV_len (xs := xs) (by assumption), List.length_cons, List.length_nil]; omega) (by simp only [rowsV_len (xs := xs) (by assumption), List.length_cons, List.length_nil]; omega) rfl) ?_
          refine ANx.take 5 rfl (by kernel_rfl) (by kernel_rfl) (by kernel_rfl) rfl rfl rfl (YldA.assign rfl) ?_
          refine ANx.take 6 rfl (by kernel_rfl) (by kernel_rfl) (by kernel_rfl) rfl rfl rfl (YldA.assign rfl) ?_
          exact ANx.doneC ⟨x24, hx24⟩ (by kernel_rfl) ⟨rfl, rfl, trivial⟩ ⟨rfl, rfl, trivial⟩ ⟨rfl, rfl, rfl, rfl, rfl, rfl, rfl, rfl, rfl, rfl, rfl, rfl, rfl, rfl, rfl, rfl, rfl, trivial⟩ ⟨rfl, rfl, rfl, trivial⟩
        · -- 3
          refine Stpx.eff rfl rfl (Eff.buildSlice (rows := [[_, _, _, _]]) 5 Try.underlying49 ty107 rfl rfl rfl rfl rfl rfl rfl rfl rfl) ?_
          refine ANx.all (rs := [1]) (by kernel_rfl) rfl ⟨?_, trivial⟩
          refine Stpx.effX rfl rfl (EffX.callW [3, 4] [] [0, 1] rfl rfl Try.call108 rfl (spec_l27Own_c (by assumption)) (.own rfl) rfl (fun _ => rfl) trivial rfl (fun _ => rfl) (fun _ => rfl)) ?_
          rintro _ ⟨x24, hx24, rfl⟩
          refine ANx.all (rs := [4]) (by kernel_rfl) rfl ⟨?_, trivial⟩
          refine Stpx.eff rfl rfl (Eff.append 3 Try.underlying49 ty107 rfl rfl rfl rfl rfl rfl rfl (by simp [pvOne, str]) (by simp only [rowsV_len (xs := xs) (by assumption), List.length_cons, List.length_nil]; omega) (by simp only [rowsV_len (xs := xs) (by assumption), List.length_cons, List.length_nil]; omega) rfl) ?_
          refine ANx.take 5 rfl (by kernel_rfl) (by kernel_rfl) (by kernel_rfl) rfl rfl rfl (YldA.assign rfl) ?_
          refine ANx.take 6 rfl (by kernel_rfl) (by kernel_rfl) (by kernel_rfl) rfl rfl rfl (YldA.assign rfl) ?_
          exact ANx.doneC ⟨x24, hx24⟩ (by kernel_rfl) ⟨rfl, rfl, trivial⟩ ⟨rfl, rfl, trivial⟩ ⟨rfl, rfl, rfl, rfl, rfl, rfl, rfl, rfl, rfl, rfl, rfl, rfl, rfl, rfl, rfl, rfl, rfl, trivial⟩ ⟨rfl, rfl, rfl, trivial⟩
    · -- behind
      rintro ⟨vs, hvs⟩
      dsimp only
      refine AC.poolMerge 4 1 rfl rfl rfl ?_
      refine AC.nestJoin 3 4 (cs := (xs ++ [newVer xs p memo st]).map verC) (ins := (xs ++ [newVer xs p memo st]).map verI) (hV := ver_nest) (vs := vs ++ [.slice va vn vc]) rfl rfl rfl (by exact rows_add (y := newVer xs p memo st) (v := .slice va vn vc) hvs) (by exact pool_add (y := newVer xs p memo st) (v := .slice va vn vc) hvs) (by simp [hvs]) (by simp) ?_
      refine FnE.ret () [3] [0] Try.results83 (RVs.cons (RV.tmp rfl) (RVs.cons (RV.tmp rfl) RVs.nil)) rfl rfl rfl ?_ ?_ ⟨⟨_, rfl, ?_⟩, trivial⟩
      · -- holds
        trivial
      · -- value
        refine tupE ?_; simp [addV, h32]
      · -- thing 0
        exact nestE (by simp [addV, h32])

theorem impl_addVersion_c {xs : List Ver} {p : Int} {memo : List UInt8} {st : List NV} (hg : VersGood xs) (hst : st.length ≤ 1048576) :
    FnE (α := Unit) Try.prog 76 [.p (.sl 4 (xs.map encVer)), .p (.v (.int .i64 p)), .p (.v (str memo)), .p (.sl 2 (st.map encNV))] [] [] (fun _ => True) (fun _ => .tup [.h 0, .p (.v (.int .i64 (addV xs p memo st).2))]) (fun _ => [(0, .cust (nestC 107 4 66 2 (((addV xs p memo st).1).map verC) (((addV xs p memo st).1).map verI) (((addV xs p memo st).1).map encVer) ver_nest))]) := by
  have hn := hg.1
  have hM : (xs.map encVer).length = xs.length := List.length_map ..
  refine FnE.intro Try.func76 rfl Try.ntmps76 rfl rfl (fun w0 F0 η φ w => ?_)
  refine AC.seq ?_
  refine AC.region ?_
  refine AO.yld _ (Yld.assign rfl) rfl rfl rfl ?_
  refine AO.yld _ (Yld.assign rfl) rfl rfl rfl ?_
  refine AO.nil ?_
  refine AC.seq ?_
  refine AC.seq ?_
  refine AC.region ?_
  refine AO.yld _ (Yld.move rfl) rfl rfl rfl ?_
  refine AO.yld _ (Yld.len Try.underlying49 rfl rfl) rfl rfl rfl ?_
  refine AO.yld _ (Yld.int rfl rfl rfl) rfl rfl rfl ?_
  refine AO.nil ?_
  refine AC.cond _ rfl (fun c15 => ?_) (fun c15 => ?_)
  · -- c15 True
    have h32 : xs.length = 32 := by have h := c15; rw [hM] at h; simp at h; omega
    refine AC.seq ?_
    refine AC.region ?_
    refine AO.yld _ (Yld.assign rfl) rfl rfl rfl ?_
    refine AO.yld _ (Yld.assign rfl) rfl rfl rfl ?_
    refine AO.nil ?_
    refine AC.nilVec 8 0 107 4 rfl rfl ?_
    refine AC.poolNew 1 66 2 rfl ?_
    refine AC.nestJoin 0 1 (cs := ([] : List Ver).map verC) (ins := ([] : List Ver).map verI) (hV := ver_nest) (vs := []) rfl rfl rfl rfl rfl rfl rfl ?_
    refine FnE.ret () [0] [0] Try.results76 (RVs.cons (RV.tmp rfl) (RVs.cons (RV.tmp rfl) RVs.nil)) rfl rfl rfl ?_ ?_ ⟨⟨_, rfl, ?_⟩, trivial⟩
    · -- holds
      trivial
    · -- value
      refine tupE ?_; simp [addV, h32]
    · -- thing 0
      exact nestE (by simp [addV, h32])
  · -- c15 False
    have h32 : ¬ xs.length = 32 := by have h := c15; rw [hM] at h; simp at h; omega
    refine AC.skip ?_
    refine AC.seq ?_
    refine AC.region ?_
    refine AO.yld _ (Yld.move rfl) rfl rfl rfl ?_
    refine AO.yld _ (Yld.len Try.underlying49 rfl rfl) rfl rfl rfl ?_
    refine AO.yld _ (Yld.move rfl) rfl rfl rfl ?_
    refine AO.yld _ (Yld.len Try.underlying49 rfl rfl) rfl rfl rfl ?_
    refine AO.yld _ (Yld.add rfl rfl (by omega) (by omega)) rfl rfl rfl ?_
    refine AO.make (m := (xs.map encVer).length + 1) 0 Try.underlying49 ty107 rfl rfl rfl rfl rfl (Nat.le_succ _) (by rw [hM]; omega) (by rw [hM]; omega) rfl rfl ?_
    refine AO.yld _ (Yld.assign rfl) rfl rfl rfl ?_
    refine AO.nil ?_
    refine AC.seq ?_
    refine AC.seq ?_
    refine AC.region ?_
    refine AO.yld _ (Yld.move rfl) rfl rfl rfl ?_
    refine AO.yld _ (Yld.len Try.underlying49 rfl rfl) rfl rfl rfl ?_
    refine AO.yld _ (Yld.move rfl) rfl rfl rfl ?_
    refine AO.nil ?_
    refine AC.block ?_
    refine AC.poolNew 1 66 2 rfl ?_
    refine AC.loopC2 [(0, _), (1, _), (2, _), (3, _), (8, _), (9, _), (10, _), (22, _), (23, _)] [(900, _)] (fun (k : Nat) (vs : List Value) => [(24, .p (.v (.int .i64 (k : Int)))), (10, .h 0)]) (fun (k : Nat) (vs : List Value) => [(0, .vec 107 4 (nfill [.v (.int .i64 0), .v (.int .i64 0), .v (.string ⟨#[]⟩), .sl 0 []] xs vs)), (1, .cust (poolC 66 2 (poolL vs ((xs.take k).map verI))))]) (fun (k : Nat) (vs : List Value) => k ≤ xs.length ∧ vs.length = k) (fun (k : Nat) (vs : List Value) => xs.length - k) 0 [] ⟨rfl, rfl, rfl, rfl, rfl, rfl, rfl, rfl, rfl, trivial⟩ ⟨rfl, trivial⟩ ⟨rfl, rfl, trivial⟩ ⟨by rw [nfill_zero, ← hM]; rfl, rfl, trivial⟩ ?_ (fun k vs hJ => ?_)
    · exact ⟨Nat.zero_le _, rfl⟩
    · -- round
      refine AC.seq ?_
      refine AC.region ?_
      refine AO.yld _ (Yld.int rfl rfl rfl) rfl rfl rfl ?_
      refine AO.nil ?_
      refine AC.seq ?_
      refine AC.cond _ rfl (fun c25 => ?_) (fun c25 => ?_)
      · -- c25 True
        have hk := lt_of_decM c25
        obtain ⟨x, hx⟩ := get_some hk
        have hrow := map_row (enc := encVer) hx
        obtain ⟨g1, g2, g3⟩ := hg.2 x (List.mem_of_getElem? hx)
        refine AC.skip ?_
        refine AC.seq ?_
        refine AC.block ?_
        refine AC.seq ?_
        refine AC.region ?_
        refine AO.yld _ (Yld.move rfl) rfl rfl rfl ?_
        refine AO.yld _ (Yld.indexSl Try.underlying49 Try.sizeOf107 rfl rfl hrow rfl) rfl rfl rfl ?_
        refine AO.yld _ (Yld.loadAgg Try.isAgg107 Try.sizeOf107 rfl rfl rfl rfl) rfl rfl rfl ?_
        refine AO.alloc 2 Try.zeroValue107 rfl rfl rfl ?_
        refine AO.yld _ (Yld.assign rfl) rfl rfl rfl ?_
        refine AO.store Try.sizeOf107 rfl rfl rfl rfl rfl rfl ?_
        refine AO.nil ?_
        refine AC.seq ?_
        refine AC.region ?_
        refine AO.yld _ (Yld.fieldAddr Try.underlying107 rfl rfl Try.sizeOf24 rfl rfl rfl) rfl rfl rfl ?_
        refine AO.yld _ (Yld.load Try.isAgg24 rfl rfl) rfl rfl rfl ?_
        refine AO.callW (wantedN rfl) [3] [] [0] rfl rfl Try.call59 rfl (cloneSetting_c (by first | assumption | omega)) (.flat (.view rfl rfl .nil) (fun _ => by simp [AV.Flat, AV.FlatL, PV.Flat, PV.FlatL]) (fun _ => ⟨flat_map flatNV _, trivial⟩)) rfl (fun _ => rfl) trivial rfl (fun _ => rfl) (fun _ => rfl) (fun _ _ => ?_)
        refine AO.poolAdd 3 1 rfl rfl rfl (fun va vn vc => ?_)
        refine AO.yld _ (Yld.fieldAddr Try.underlying107 rfl rfl Try.sizeOf24 rfl rfl rfl) rfl rfl rfl ?_
        refine AO.store Try.sizeOf24 rfl rfl rfl rfl rfl rfl ?_
        refine AO.nil ?_
        refine AC.region ?_
        refine AO.yld _ (Yld.move rfl) rfl rfl rfl ?_
        refine AO.yld _ (Yld.move rfl) rfl rfl rfl ?_
        refine AO.yld _ (Yld.loadAgg Try.isAgg107 Try.sizeOf107 rfl rfl rfl rfl) rfl rfl rfl ?_
        refine AO.yld _ (Yld.indexVec Try.underlying49 Try.sizeOf107 rfl rfl rfl rfl (by rw [nfill_length (by omega)]; exact hk)) rfl rfl rfl ?_
        refine AO.store Try.sizeOf107 rfl rfl rfl rfl rfl (store_el rfl (nfill_get hJ.2 hk) rfl rfl) ?_
        refine AO.nil ?_
        refine AC.mark ?_
        refine AC.region ?_
        refine AO.yld _ (Yld.add rfl rfl (by omega) (by omega)) rfl rfl rfl ?_
        refine AO.yld _ (Yld.move rfl) rfl rfl rfl ?_
        refine AO.nil ?_
        refine AC.back ⟨k + 1, vs ++ [.slice va vn vc], ?_, ?_, ⟨?_, ?_, trivial⟩, ⟨?_, ?_, trivial⟩, ⟨rfl, rfl, rfl, rfl, rfl, rfl, rfl, rfl, rfl, trivial⟩, ⟨rfl, trivial⟩⟩
        · exact ⟨hk, by simp [hJ.2]⟩
        · omega
        · rfl
        · rfl
        · rw [← nfill_set hJ.2 hx]; rfl
        · rw [← pool_snoc hJ.2 hx]; rfl
      · -- c25 False
        obtain rfl : k = xs.length := by have := ge_of_decM c25; omega
        refine AC.exit rfl ?_
        refine AC.seq ?_
        refine AC.region ?_
        refine AO.yld _ (Yld.move rfl) rfl rfl rfl ?_
        refine AO.yld _ (Yld.move rfl) rfl rfl rfl ?_
        refine AO.yld _ (Yld.len Try.underlying49 rfl rfl) rfl rfl rfl ?_
        refine AO.yld _ (Yld.add rfl rfl (by omega) (by omega)) rfl rfl rfl ?_
        refine AO.yld _ (Yld.move rfl) rfl rfl rfl ?_
        refine AO.yld _ (Yld.move rfl) rfl rfl rfl ?_
        refine AO.yld _ (Yld.move rfl) rfl rfl rfl ?_
        refine AO.callW (wantedN rfl) [2] [] [0] rfl rfl Try.call59 rfl (cloneSetting_c (by first | assumption | omega)) (.flat (.view rfl rfl .nil) (fun _ => by simp [AV.Flat, AV.FlatL, PV.Flat, PV.FlatL]) (fun _ => ⟨flat_map flatNV _, trivial⟩)) rfl (fun _ => rfl) trivial rfl (fun _ => rfl) (fun _ => rfl) (fun _ _ => ?_)
        refine AO.poolAdd 2 1 rfl rfl rfl (fun wa wn wc => ?_)
        refine AO.yld _ (Yld.buildA (zs := [.v (.int .i64 0), .v (.int .i64 0), .v (str []), .sl 0 []]) bld107 rfl rfl) rfl rfl rfl ?_
        refine AO.buildSlice (rows := [[_, _, _, _]]) 3 Try.underlying49 ty107 rfl rfl rfl rfl rfl rfl rfl rfl rfl ?_
        refine AO.append 0 Try.underlying49 ty107 rfl rfl rfl rfl rfl rfl rfl (by simp [pvOne, str]) (by simp only [nfill_length (vs := vs) (xs := xs) (by omega), List.length_cons, List.length_nil]; omega) (by simp only [nfill_length (vs := vs) (xs := xs) (by omega), List.length_cons, List.length_nil]; omega) rfl ?_
        refine AO.yld _ (Yld.assign rfl) rfl rfl rfl ?_
        refine AO.yld _ (Yld.assign rfl) rfl rfl rfl ?_
        refine AO.nil ?_
        refine AC.nestJoin 0 1 (cs := (xs ++ [newVer xs p memo st]).map verC) (ins := (xs ++ [newVer xs p memo st]).map verI) (hV := ver_nest) (vs := vs ++ [.slice wa wn wc]) rfl rfl rfl (by rw [nfill_end hJ.2]; exact rows_add (y := newVer xs p memo st) (v := .slice wa wn wc) hJ.2) (by rw [List.take_length]; exact pool_add (y := newVer xs p memo st) (v := .slice wa wn wc) hJ.2) (by simp [hJ.2]) (by simp) ?_
        refine FnE.ret () [0] [0] Try.results76 (RVs.cons (RV.tmp rfl) (RVs.cons (RV.tmp rfl) RVs.nil)) rfl rfl rfl ?_ ?_ ⟨⟨_, rfl, ?_⟩, trivial⟩
        · -- holds
          trivial
        · -- value
          refine tupE ?_; simp [addV, h32]
        · -- thing 0
          exact nestE (by simp [addV, h32])

theorem laws_heldVersionS_c {k0 : Int} {ns : List Nat} (h0 : 0 ≤ k0) (h1 : k0 ≤ 100000000000) (hl : ns.length ≤ 1048576) (hn : ∀ n ∈ ns, n ≤ 1048576) :
    Pure Try.prog 41 [.sl 4 (mkV k0 ns), .v (.int .i64 k0)] (.v (.int .i64 (mkK k0 ns))) := by
  refine Pure.intro Try.func41 rfl Try.ntmps41 rfl rfl (fun w => ?_)
  refine AC.seq ?_
  refine AC.region ?_
  refine AO.yld _ (Yld.assign rfl) rfl rfl rfl ?_
  refine AO.nil ?_
  refine AC.seq ?_
  refine AC.seq ?_
  refine AC.region ?_
  refine AO.yld _ (Yld.assign rfl) rfl rfl rfl ?_
  refine AO.nil ?_
  refine AC.block ?_
  refine AC.loopC [(0, _)] [] (fun (k : Nat) => [(5, .p (.v (.int .i64 (k : Int)))), (1, .p (.v (.int .i64 (mkK k0 (ns.take k)))))]) (fun (k : Nat) => []) (fun (k : Nat) => k ≤ ns.length) (fun (k : Nat) => ns.length - k) 0 ⟨rfl, trivial⟩ trivial ⟨rfl, rfl, trivial⟩ trivial ?_ (fun k hJ => ?_)
  · exact Nat.zero_le _
  · -- round
    refine AC.seq ?_
    refine AC.seq ?_
    refine AC.region ?_
    refine AO.yld _ (Yld.move rfl) rfl rfl rfl ?_
    refine AO.yld _ (Yld.move rfl) rfl rfl rfl ?_
    refine AO.yld _ (Yld.len Try.underlying49 rfl rfl) rfl rfl rfl ?_
    refine AO.yld _ (Yld.int rfl rfl rfl) rfl rfl rfl ?_
    refine AO.nil ?_
    refine AC.cond _ rfl (fun c9 => ?_) (fun c9 => ?_)
    · -- c9 True
      have hk : k < ns.length := by have h := c9; rw [mkV_length] at h; simpa using h
      obtain ⟨n, hx⟩ := get_some hk
      have hnn := hn n (List.mem_of_getElem? hx)
      have hkb := mkK_bound (k0 := k0) hl hn k
      have e3 : (mkK k0 (ns.take k)) + 1 + 1 + 1 = (mkK k0 (ns.take k)) + 3 := by omega
      have e2 : (mkK k0 (ns.take k)) + 1 + 1 = (mkK k0 (ns.take k)) + 2 := by omega
      have hrow := mkV_get (k0 := k0) hx
      rw [← e2, ← e3] at hrow
      refine AC.skip ?_
      refine AC.seq ?_
      refine AC.block ?_
      refine AC.seq ?_
      refine AC.seq ?_
      refine AC.region ?_
      refine AO.yld _ (Yld.move rfl) rfl rfl rfl ?_
      refine AO.yld _ (Yld.move rfl) rfl rfl rfl ?_
      refine AO.yld _ (Yld.indexSl Try.underlying49 Try.sizeOf107 rfl rfl hrow rfl) rfl rfl rfl ?_
      refine AO.yld _ (Yld.fieldAddr Try.underlying107 rfl rfl Try.sizeOf2 rfl rfl rfl) rfl rfl rfl ?_
      refine AO.yld _ (Yld.load Try.isAgg2 rfl rfl) rfl rfl rfl ?_
      refine AO.yld _ (Yld.move rfl) rfl rfl rfl ?_
      refine AO.yld _ (Yld.int rfl rfl rfl) rfl rfl rfl ?_
      refine AO.nil ?_
      refine AC.cond _ rfl (fun c18 => ?_) (fun c18 => ?_)
      · -- c18 True
        exfalso; simp [← e2] at c18
      · -- c18 False
        refine AC.skip ?_
        refine AC.seq ?_
        refine AC.region ?_
        refine AO.yld _ (Yld.move rfl) rfl rfl rfl ?_
        refine AO.yld _ (Yld.add rfl rfl (by omega) (by omega)) rfl rfl rfl ?_
        refine AO.yld _ (Yld.assign rfl) rfl rfl rfl ?_
        refine AO.nil ?_
        refine AC.seq ?_
        refine AC.seq ?_
        refine AC.region ?_
        refine AO.yld _ (Yld.move rfl) rfl rfl rfl ?_
        refine AO.yld _ (Yld.move rfl) rfl rfl rfl ?_
        refine AO.yld _ (Yld.indexSl Try.underlying49 Try.sizeOf107 rfl rfl hrow rfl) rfl rfl rfl ?_
        refine AO.yld _ (Yld.fieldAddr Try.underlying107 rfl rfl Try.sizeOf2 rfl rfl rfl) rfl rfl rfl ?_
        refine AO.yld _ (Yld.load Try.isAgg2 rfl rfl) rfl rfl rfl ?_
        refine AO.yld _ (Yld.move rfl) rfl rfl rfl ?_
        refine AO.yld _ (Yld.int rfl rfl rfl) rfl rfl rfl ?_
        refine AO.nil ?_
        refine AC.cond _ rfl (fun c27 => ?_) (fun c27 => ?_)
        · -- c27 True
          exfalso; simp [← e2] at c27
        · -- c27 False
          refine AC.skip ?_
          refine AC.seq ?_
          refine AC.region ?_
          refine AO.yld _ (Yld.move rfl) rfl rfl rfl ?_
          refine AO.yld _ (Yld.add rfl rfl (by omega) (by omega)) rfl rfl rfl ?_
          refine AO.yld _ (Yld.assign rfl) rfl rfl rfl ?_
          refine AO.nil ?_
          refine AC.seq ?_
          refine AC.seq ?_
          refine AC.draw (by kernel_rfl) (by kernel_rfl) ?_
          refine AO.yld _ (Yld.move rfl) rfl rfl rfl ?_
          refine AO.yld _ (Yld.move rfl) rfl rfl rfl ?_
          refine AO.yld _ (Yld.indexSl Try.underlying49 Try.sizeOf107 rfl rfl hrow rfl) rfl rfl rfl ?_
          refine AO.yld _ (Yld.fieldAddr Try.underlying107 rfl rfl Try.sizeOf9 rfl rfl rfl) rfl rfl rfl ?_
          refine AO.yld _ (Yld.load Try.isAgg9 rfl rfl) rfl rfl rfl ?_
          refine AO.yld _ (Yld.move rfl) rfl rfl rfl ?_
          refine AO.yld _ (Yld.call rfl rfl Try.call49 rfl rfl rfl (laws_markText_c (by omega)) rfl) rfl rfl rfl ?_
          refine AO.yld _ (Yld.cmpStr rfl rfl rfl) rfl rfl rfl ?_
          refine AO.nil ?_
          refine AC.cond _ rfl (fun c37 => ?_) (fun c37 => ?_)
          · -- c37 True
            exfalso; simp [← e2] at c37
          · -- c37 False
            refine AC.skip ?_
            refine AC.seq ?_
            refine AC.region ?_
            refine AO.yld _ (Yld.move rfl) rfl rfl rfl ?_
            refine AO.yld _ (Yld.add rfl rfl (by omega) (by omega)) rfl rfl rfl ?_
            refine AO.yld _ (Yld.assign rfl) rfl rfl rfl ?_
            refine AO.nil ?_
            refine AC.seq ?_
            refine AC.region ?_
            refine AO.yld _ (Yld.move rfl) rfl rfl rfl ?_
            refine AO.yld _ (Yld.move rfl) rfl rfl rfl ?_
            refine AO.yld _ (Yld.indexSl Try.underlying49 Try.sizeOf107 rfl rfl hrow rfl) rfl rfl rfl ?_
            refine AO.yld _ (Yld.fieldAddr Try.underlying107 rfl rfl Try.sizeOf24 rfl rfl rfl) rfl rfl rfl ?_
            refine AO.yld _ (Yld.load Try.isAgg24 rfl rfl) rfl rfl rfl ?_
            refine AO.yld _ (Yld.move rfl) rfl rfl rfl ?_
            refine AO.yld _ (Yld.call rfl rfl Try.call14 rfl rfl rfl (laws_heldSettingS_c (k0 := (mkK k0 (ns.take k)) + 1 + 1 + 1) (n := n) (by omega) (by omega) (by omega)) rfl) rfl rfl rfl ?_
            refine AO.yld _ (Yld.assign rfl) rfl rfl rfl ?_
            refine AO.nil ?_
            refine AC.seq ?_
            refine AC.region ?_
            refine AO.yld _ (Yld.move rfl) rfl rfl rfl ?_
            refine AO.yld _ (Yld.int rfl rfl rfl) rfl rfl rfl ?_
            refine AO.nil ?_
            refine AC.cond _ rfl (fun c48 => ?_) (fun c48 => ?_)
            · -- c48 True
              exfalso; have h9 := c48; simp at h9; omega
            · -- c48 False
              refine AC.skip ?_
              refine AC.mark ?_
              refine AC.region ?_
              refine AO.yld _ (Yld.move rfl) rfl rfl rfl ?_
              refine AO.yld _ (Yld.add rfl rfl (by omega) (by omega)) rfl rfl rfl ?_
              refine AO.yld _ (Yld.assign rfl) rfl rfl rfl ?_
              refine AO.nil ?_
              refine AC.back ⟨k + 1, ?_, ?_, ⟨?_, ?_, trivial⟩, trivial, ⟨rfl, trivial⟩, trivial⟩
              · exact hk
              · omega
              · rfl
              · show some (AV.p (PV.v (Value.int IntKind.i64 _))) = _; rw [mkK_step hx, ← e3]; try rfl
    · -- c9 False
      obtain rfl : k = ns.length := by have h := c9; rw [mkV_length] at h; simp at h; omega
      refine AC.exit rfl ?_
      refine AC.seq ?_
      refine AC.region ?_
      refine AO.yld _ (Yld.move rfl) rfl rfl rfl ?_
      refine AO.yld _ (Yld.assign rfl) rfl rfl rfl ?_
      refine AO.nil ?_
      refine Pure.ret Try.results41 (RVs.cons (RV.tmp rfl) RVs.nil) rfl ?_
      first | rfl | (refine ci ?_; rw [List.take_length])

end Go.Proofs.Ytjifkcajmmchdaa
