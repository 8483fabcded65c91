/- Contracts of functions of the program, each by a walk of its text in the calculus V. -/
import Derived.Test.YtdgjlkdcklfieaaDoorD12
import Derived.Test.YtdgjlkdcklfieaaDoorD11
import Derived.Test.YtdgjlkdcklfieaaDoorD10
import Derived.Test.YtdgjlkdcklfieaaDoorD9
import Derived.Test.YtdgjlkdcklfieaaDoorV12
import Derived.Test.YtdgjlkdcklfieaaDoorV15
import Derived.Test.YtdgjlkdcklfieaaDoorProg
set_option linter.all false
set_option linter.unusedSimpArgs false
set_option linter.unnecessarySimpa false
set_option linter.unusedVariables false
namespace Go.Proofs.YtdgjlkdcklfieaaDoor
open Go Go.V
theorem ty5 : TyIs Tryd.prog 5 (.int .u8 0) 1 1 := by unfold TyIs; kernel_rfl
theorem ty74 : TyIs Tryd.prog 74 (.agg #[.int .i64 0, .int .i64 0, .string ⟨#[]⟩, .slice none 0 0]) 4 56 := by unfold TyIs; kernel_rfl
theorem ty146 : TyIs Tryd.prog 146 (.agg #[.string ⟨#[]⟩, .int .i64 0]) 2 24 := by unfold TyIs; kernel_rfl
theorem bld33 : BuildIs Tryd.prog 33 [(0, 1), (1, 1), (2, 1)] (.agg #[.string ⟨#[]⟩, .int .i64 0, .int .i64 0]) := by
  intro ps cells w h
  have h2 : Instr.fill (fun i => ([(0, 1), (1, 1), (2, 1)] : List (Nat × Nat))[i]?) #[.string ⟨#[]⟩, .int .i64 0, .int .i64 0] ps.toList = some cells := h
  simp [Instr.build, go_sem, Tryd.zeroValue33, run_underlying Tryd.underlying33, Tryd.sizeOf2, Tryd.sizeOf9, h2]

theorem impl_within_c {n lo hi : Int} :
    Pure Tryd.prog 80 [.v (.int .i64 n), .v (.int .i64 lo), .v (.int .i64 hi)] (.v (.bool (decide (lo ≤ n) && decide (n ≤ hi)))) := by
  refine Pure.intro Tryd.func80 rfl Tryd.ntmps80 rfl rfl (fun w => ?_)
  refine AC.seq ?_
  refine AC.region ?_
  refine AO.yld _ (Yld.assign rfl) rfl rfl rfl ?_
  refine AO.nil ?_
  refine AC.seq ?_
  refine AC.region ?_
  refine AO.yld _ (Yld.move rfl) rfl rfl rfl ?_
  refine AO.yld _ (Yld.move rfl) rfl rfl rfl ?_
  refine AO.yld _ (Yld.int rfl rfl rfl) rfl rfl rfl ?_
  refine AO.yld _ (Yld.move rfl) rfl rfl rfl ?_
  refine AO.splitAt 10 _ rfl (fun s10 => ?_) (fun s10 => ?_)
  · -- s10 True
    refine AO.yldG _ (Yld.move rfl) rfl rfl rfl rfl rfl ?_
    refine AO.yldG _ (Yld.move rfl) rfl rfl rfl rfl rfl ?_
    refine AO.yldG _ (Yld.int rfl rfl rfl) rfl rfl rfl rfl rfl ?_
    refine AO.yld _ (Yld.pickT rfl rfl) rfl rfl rfl ?_
    refine AO.yld _ (Yld.assign rfl) rfl rfl rfl ?_
    refine AO.nil ?_
    refine Pure.ret Tryd.results80 (RVs.cons (RV.tmp rfl) RVs.nil) rfl ?_
    first | rfl | (simp_all; done) | (simp_all; intros; omega) | grind
  · -- s10 False
    refine AO.skipT rfl rfl rfl rfl rfl ?_
    refine AO.skipT rfl rfl rfl rfl rfl ?_
    refine AO.skipT rfl rfl rfl rfl rfl ?_
    refine AO.yld _ (Yld.pickF rfl rfl) rfl rfl rfl ?_
    refine AO.yld _ (Yld.assign rfl) rfl rfl rfl ?_
    refine AO.nil ?_
    refine Pure.ret Tryd.results80 (RVs.cons (RV.tmp rfl) RVs.nil) rfl ?_
    first | rfl | (simp_all; done) | (simp_all; intros; omega) | grind

theorem spec_l00In_c {n lo hi : Int} :
    Pure Tryd.prog 97 [.v (.int .i64 n), .v (.int .i64 lo), .v (.int .i64 hi)] (.v (.bool (decide (lo ≤ n) && decide (n ≤ hi)))) := by
  refine Pure.intro Tryd.func97 rfl Tryd.ntmps97 rfl rfl (fun w => ?_)
  refine AC.seq ?_
  refine AC.region ?_
  refine AO.yld _ (Yld.assign rfl) rfl rfl rfl ?_
  refine AO.nil ?_
  refine AC.seq ?_
  refine AC.region ?_
  refine AO.yld _ (Yld.move rfl) rfl rfl rfl ?_
  refine AO.yld _ (Yld.move rfl) rfl rfl rfl ?_
  refine AO.yld _ (Yld.int rfl rfl rfl) rfl rfl rfl ?_
  refine AO.yld _ (Yld.move rfl) rfl rfl rfl ?_
  refine AO.splitAt 10 _ rfl (fun s10 => ?_) (fun s10 => ?_)
  · -- s10 True
    refine AO.yldG _ (Yld.move rfl) rfl rfl rfl rfl rfl ?_
    refine AO.yldG _ (Yld.move rfl) rfl rfl rfl rfl rfl ?_
    refine AO.yldG _ (Yld.int rfl rfl rfl) rfl rfl rfl rfl rfl ?_
    refine AO.yld _ (Yld.pickT rfl rfl) rfl rfl rfl ?_
    refine AO.yld _ (Yld.assign rfl) rfl rfl rfl ?_
    refine AO.nil ?_
    refine Pure.ret Tryd.results97 (RVs.cons (RV.tmp rfl) RVs.nil) rfl ?_
    first | rfl | (simp_all; done) | (simp_all; intros; omega) | grind
  · -- s10 False
    refine AO.skipT rfl rfl rfl rfl rfl ?_
    refine AO.skipT rfl rfl rfl rfl rfl ?_
    refine AO.skipT rfl rfl rfl rfl rfl ?_
    refine AO.yld _ (Yld.pickF rfl rfl) rfl rfl rfl ?_
    refine AO.yld _ (Yld.assign rfl) rfl rfl rfl ?_
    refine AO.nil ?_
    refine Pure.ret Tryd.results97 (RVs.cons (RV.tmp rfl) RVs.nil) rfl ?_
    first | rfl | (simp_all; done) | (simp_all; intros; omega) | grind

theorem spec_l01Small_c {c : Int} :
    Pure Tryd.prog 181 [.v (.int .u8 c)] (.v (.bool (decide (97 ≤ c) && decide (c ≤ 122)))) := by
  refine Pure.intro Tryd.func181 rfl Tryd.ntmps181 rfl rfl (fun w => ?_)
  refine AC.seq ?_
  refine AC.region ?_
  refine AO.yld _ (Yld.assign rfl) rfl rfl rfl ?_
  refine AO.nil ?_
  refine AC.seq ?_
  refine AC.region ?_
  refine AO.yld _ (Yld.move rfl) rfl rfl rfl ?_
  refine AO.yld _ (Yld.int rfl rfl rfl) rfl rfl rfl ?_
  refine AO.yld _ (Yld.move rfl) rfl rfl rfl ?_
  refine AO.splitAt 5 _ rfl (fun s5 => ?_) (fun s5 => ?_)
  · -- s5 True
    refine AO.yldG _ (Yld.move rfl) rfl rfl rfl rfl rfl ?_
    refine AO.yldG _ (Yld.int rfl rfl rfl) rfl rfl rfl rfl rfl ?_
    refine AO.yld _ (Yld.pickT rfl rfl) rfl rfl rfl ?_
    refine AO.yld _ (Yld.assign rfl) rfl rfl rfl ?_
    refine AO.nil ?_
    refine Pure.ret Tryd.results181 (RVs.cons (RV.tmp rfl) RVs.nil) rfl ?_
    first | rfl | (simp_all; done) | (simp_all; intros; omega) | grind
  · -- s5 False
    refine AO.skipT rfl rfl rfl rfl rfl ?_
    refine AO.skipT rfl rfl rfl rfl rfl ?_
    refine AO.yld _ (Yld.pickF rfl rfl) rfl rfl rfl ?_
    refine AO.yld _ (Yld.assign rfl) rfl rfl rfl ?_
    refine AO.nil ?_
    refine Pure.ret Tryd.results181 (RVs.cons (RV.tmp rfl) RVs.nil) rfl ?_
    first | rfl | (simp_all; done) | (simp_all; intros; omega) | grind

theorem spec_l01Digit_c {c : Int} :
    Pure Tryd.prog 162 [.v (.int .u8 c)] (.v (.bool (decide (48 ≤ c) && decide (c ≤ 57)))) := by
  refine Pure.intro Tryd.func162 rfl Tryd.ntmps162 rfl rfl (fun w => ?_)
  refine AC.seq ?_
  refine AC.region ?_
  refine AO.yld _ (Yld.assign rfl) rfl rfl rfl ?_
  refine AO.nil ?_
  refine AC.seq ?_
  refine AC.region ?_
  refine AO.yld _ (Yld.move rfl) rfl rfl rfl ?_
  refine AO.yld _ (Yld.int rfl rfl rfl) rfl rfl rfl ?_
  refine AO.yld _ (Yld.move rfl) rfl rfl rfl ?_
  refine AO.splitAt 5 _ rfl (fun s5 => ?_) (fun s5 => ?_)
  · -- s5 True
    refine AO.yldG _ (Yld.move rfl) rfl rfl rfl rfl rfl ?_
    refine AO.yldG _ (Yld.int rfl rfl rfl) rfl rfl rfl rfl rfl ?_
    refine AO.yld _ (Yld.pickT rfl rfl) rfl rfl rfl ?_
    refine AO.yld _ (Yld.assign rfl) rfl rfl rfl ?_
    refine AO.nil ?_
    refine Pure.ret Tryd.results162 (RVs.cons (RV.tmp rfl) RVs.nil) rfl ?_
    first | rfl | (simp_all; done) | (simp_all; intros; omega) | grind
  · -- s5 False
    refine AO.skipT rfl rfl rfl rfl rfl ?_
    refine AO.skipT rfl rfl rfl rfl rfl ?_
    refine AO.yld _ (Yld.pickF rfl rfl) rfl rfl rfl ?_
    refine AO.yld _ (Yld.assign rfl) rfl rfl rfl ?_
    refine AO.nil ?_
    refine Pure.ret Tryd.results162 (RVs.cons (RV.tmp rfl) RVs.nil) rfl ?_
    first | rfl | (simp_all; done) | (simp_all; intros; omega) | grind

theorem spec_l01Name_c {l : List UInt8} (hn : l.length ≤ 1048576) :
    Pure Tryd.prog 151 [.v (str l)] (.v (.bool (isName l))) := by
  refine Pure.intro Tryd.func151 rfl Tryd.ntmps151 rfl rfl (fun w => ?_)
  refine AC.seq ?_
  refine AC.region ?_
  refine AO.yld _ (Yld.assign rfl) rfl rfl rfl ?_
  refine AO.nil ?_
  refine AC.seq ?_
  refine AC.seq ?_
  refine AC.region ?_
  refine AO.yld _ (Yld.move rfl) rfl rfl rfl ?_
  refine AO.yld _ (Yld.cmpStr rfl rfl rfl) rfl rfl rfl ?_
  refine AO.yld _ (Yld.move rfl) rfl rfl rfl ?_
  refine AO.splitAt 6 _ rfl (fun s6 => ?_) (fun s6 => ?_)
  · -- s6 True
    refine AO.skipF rfl rfl rfl rfl rfl ?_
    refine AO.skipF rfl rfl rfl rfl rfl ?_
    refine AO.skipF rfl rfl rfl rfl rfl ?_
    refine AO.yld _ (Yld.pickT rfl rfl) rfl rfl rfl ?_
    refine AO.yld _ (Yld.move rfl) rfl rfl rfl ?_
    refine AO.skipF rfl rfl rfl rfl rfl ?_
    refine AO.skipF rfl rfl rfl rfl rfl ?_
    refine AO.skipF rfl rfl rfl rfl rfl ?_
    refine AO.skipF rfl rfl rfl rfl rfl ?_
    refine AO.yld _ (Yld.pickT rfl rfl) rfl rfl rfl ?_
    refine AO.nil ?_
    refine AC.condT rfl ?_
    refine AC.seq ?_
    refine AC.region ?_
    refine AO.yld _ (Yld.assign rfl) rfl rfl rfl ?_
    refine AO.nil ?_
    refine Pure.ret Tryd.results151 (RVs.cons (RV.tmp rfl) RVs.nil) rfl ?_
    first
      | (exact cb (name_nil (by simpa using s6)))
      | (exact cb (name_long (by simp at s11; omega)))
      | (exact cb (name_first hc (by have h := c16; simp only [decide_eq_true_eq, decide_eq_false_iff_not, Bool.not_eq_true', Bool.not_eq_false', Bool.and_eq_true, Bool.and_eq_false_iff] at h; simp only [lowB, Bool.and_eq_false_iff, decide_eq_false_iff_not]; omega)))
      | (exact cb (name_bad hck (by have h := s28; simp only [decide_eq_true_eq, decide_eq_false_iff_not, Bool.not_eq_true', Bool.not_eq_false', Bool.and_eq_true, Bool.and_eq_false_iff] at h; simp only [lowB, Bool.and_eq_false_iff, decide_eq_false_iff_not]; omega) (by have h := c34; simp only [decide_eq_true_eq, decide_eq_false_iff_not, Bool.not_eq_true', Bool.not_eq_false', Bool.and_eq_true, Bool.and_eq_false_iff] at h; simp only [digB, Bool.and_eq_false_iff, decide_eq_false_iff_not]; omega)))
      | (exact cb (name_ok hc (by have h := c16; simp only [decide_eq_true_eq, decide_eq_false_iff_not, Bool.not_eq_true', Bool.not_eq_false', Bool.and_eq_true, Bool.and_eq_false_iff] at h; simp only [lowB, Bool.and_eq_true, decide_eq_true_eq]; omega) (by simp at s11; omega) hJ.2))
  · -- s6 False
    have hl0 : 0 < l.length := by cases l with | nil => simp at s6 | cons => simp
    refine AO.yldG _ (Yld.move rfl) rfl rfl rfl rfl rfl ?_
    refine AO.yldG _ (Yld.lenStr Tryd.underlying9 rfl) rfl rfl rfl rfl rfl ?_
    refine AO.yldG _ (Yld.int rfl rfl rfl) rfl rfl rfl rfl rfl ?_
    refine AO.yld _ (Yld.pickF rfl rfl) rfl rfl rfl ?_
    refine AO.yld _ (Yld.move rfl) rfl rfl rfl ?_
    refine AO.splitAt 11 _ rfl (fun s11 => ?_) (fun s11 => ?_)
    · -- s11 True
      refine AO.skipF rfl rfl rfl rfl rfl ?_
      refine AO.skipF rfl rfl rfl rfl rfl ?_
      refine AO.skipF rfl rfl rfl rfl rfl ?_
      refine AO.skipF rfl rfl rfl rfl rfl ?_
      refine AO.yld _ (Yld.pickT rfl rfl) rfl rfl rfl ?_
      refine AO.nil ?_
      refine AC.condT rfl ?_
      refine AC.seq ?_
      refine AC.region ?_
      refine AO.yld _ (Yld.assign rfl) rfl rfl rfl ?_
      refine AO.nil ?_
      refine Pure.ret Tryd.results151 (RVs.cons (RV.tmp rfl) RVs.nil) rfl ?_
      first
        | (exact cb (name_nil (by simpa using s6)))
        | (exact cb (name_long (by simp at s11; omega)))
        | (exact cb (name_first hc (by have h := c16; simp only [decide_eq_true_eq, decide_eq_false_iff_not, Bool.not_eq_true', Bool.not_eq_false', Bool.and_eq_true, Bool.and_eq_false_iff] at h; simp only [lowB, Bool.and_eq_false_iff, decide_eq_false_iff_not]; omega)))
        | (exact cb (name_bad hck (by have h := s28; simp only [decide_eq_true_eq, decide_eq_false_iff_not, Bool.not_eq_true', Bool.not_eq_false', Bool.and_eq_true, Bool.and_eq_false_iff] at h; simp only [lowB, Bool.and_eq_false_iff, decide_eq_false_iff_not]; omega) (by have h := c34; simp only [decide_eq_true_eq, decide_eq_false_iff_not, Bool.not_eq_true', Bool.not_eq_false', Bool.and_eq_true, Bool.and_eq_false_iff] at h; simp only [digB, Bool.and_eq_false_iff, decide_eq_false_iff_not]; omega)))
        | (exact cb (name_ok hc (by have h := c16; simp only [decide_eq_true_eq, decide_eq_false_iff_not, Bool.not_eq_true', Bool.not_eq_false', Bool.and_eq_true, Bool.and_eq_false_iff] at h; simp only [lowB, Bool.and_eq_true, decide_eq_true_eq]; omega) (by simp at s11; omega) hJ.2))
    · -- s11 False
      obtain ⟨c, hc⟩ := get_some hl0
      refine AO.yldG _ (Yld.move rfl) rfl rfl rfl rfl rfl ?_
      refine AO.yldG _ (Yld.indexStr Tryd.underlying9 rfl rfl (by omega) hc) rfl rfl rfl rfl rfl ?_
      refine AO.yldG _ (Yld.call rfl rfl Tryd.call181 rfl rfl rfl (spec_l01Small_c) rfl) rfl rfl rfl rfl rfl ?_
      refine AO.yldG _ (Yld.not rfl) rfl rfl rfl rfl rfl ?_
      refine AO.yld _ (Yld.pickF rfl rfl) rfl rfl rfl ?_
      refine AO.nil ?_
      refine AC.cond _ rfl (fun c16 => ?_) (fun c16 => ?_)
      · -- c16 True
        refine AC.seq ?_
        refine AC.region ?_
        refine AO.yld _ (Yld.assign rfl) rfl rfl rfl ?_
        refine AO.nil ?_
        refine Pure.ret Tryd.results151 (RVs.cons (RV.tmp rfl) RVs.nil) rfl ?_
        first
          | (exact cb (name_nil (by simpa using s6)))
          | (exact cb (name_long (by simp at s11; omega)))
          | (exact cb (name_first hc (by have h := c16; simp only [decide_eq_true_eq, decide_eq_false_iff_not, Bool.not_eq_true', Bool.not_eq_false', Bool.and_eq_true, Bool.and_eq_false_iff] at h; simp only [lowB, Bool.and_eq_false_iff, decide_eq_false_iff_not]; omega)))
          | (exact cb (name_bad hck (by have h := s28; simp only [decide_eq_true_eq, decide_eq_false_iff_not, Bool.not_eq_true', Bool.not_eq_false', Bool.and_eq_true, Bool.and_eq_false_iff] at h; simp only [lowB, Bool.and_eq_false_iff, decide_eq_false_iff_not]; omega) (by have h := c34; simp only [decide_eq_true_eq, decide_eq_false_iff_not, Bool.not_eq_true', Bool.not_eq_false', Bool.and_eq_true, Bool.and_eq_false_iff] at h; simp only [digB, Bool.and_eq_false_iff, decide_eq_false_iff_not]; omega)))
          | (exact cb (name_ok hc (by have h := c16; simp only [decide_eq_true_eq, decide_eq_false_iff_not, Bool.not_eq_true', Bool.not_eq_false', Bool.and_eq_true, Bool.and_eq_false_iff] at h; simp only [lowB, Bool.and_eq_true, decide_eq_true_eq]; omega) (by simp at s11; omega) hJ.2))
      · -- c16 False
        refine AC.skip ?_
        refine AC.seq ?_
        refine AC.seq ?_
        refine AC.region ?_
        refine AO.yld _ (Yld.assign rfl) rfl rfl rfl ?_
        refine AO.nil ?_
        refine AC.block ?_
        refine AC.loopC [(0, _)] [] (fun (k : Nat) => [(3, .p (.v (.int .i64 (k : Int))))]) (fun (k : Nat) => []) (fun (k : Nat) => k ≤ l.length ∧ nameTo l k = true) (fun (k : Nat) => l.length - k) 0 ⟨rfl, trivial⟩ trivial ⟨rfl, trivial⟩ trivial ?_ (fun k hJ => ?_)
        · exact ⟨Nat.zero_le _, rfl⟩
        · -- round
          refine AC.seq ?_
          refine AC.seq ?_
          refine AC.region ?_
          refine AO.yld _ (Yld.move rfl) rfl rfl rfl ?_
          refine AO.yld _ (Yld.move rfl) rfl rfl rfl ?_
          refine AO.yld _ (Yld.lenStr Tryd.underlying9 rfl) rfl rfl rfl ?_
          refine AO.yld _ (Yld.int rfl rfl rfl) rfl rfl rfl ?_
          refine AO.nil ?_
          refine AC.cond _ rfl (fun c20 => ?_) (fun c20 => ?_)
          · -- c20 True
            have hk := lt_of_dec c20
            obtain ⟨c2, hck⟩ := get_some hk
            refine AC.skip ?_
            refine AC.seq ?_
            refine AC.block ?_
            refine AC.seq ?_
            refine AC.region ?_
            refine AO.yld _ (Yld.move rfl) rfl rfl rfl ?_
            refine AO.yld _ (Yld.move rfl) rfl rfl rfl ?_
            refine AO.yld _ (Yld.indexStr Tryd.underlying9 rfl rfl (by omega) hck) rfl rfl rfl ?_
            refine AO.yld _ (Yld.call rfl rfl Tryd.call181 rfl rfl rfl (spec_l01Small_c) rfl) rfl rfl rfl ?_
            refine AO.yld _ (Yld.not rfl) rfl rfl rfl ?_
            refine AO.yld _ (Yld.move rfl) rfl rfl rfl ?_
            refine AO.splitAt 28 _ rfl (fun s28 => ?_) (fun s28 => ?_)
            · -- s28 True
              refine AO.yldG _ (Yld.move rfl) rfl rfl rfl rfl rfl ?_
              refine AO.yldG _ (Yld.move rfl) rfl rfl rfl rfl rfl ?_
              refine AO.yldG _ (Yld.indexStr Tryd.underlying9 rfl rfl (by omega) hck) rfl rfl rfl rfl rfl ?_
              refine AO.yldG _ (Yld.call rfl rfl Tryd.call162 rfl rfl rfl (spec_l01Digit_c) rfl) rfl rfl rfl rfl rfl ?_
              refine AO.yldG _ (Yld.not rfl) rfl rfl rfl rfl rfl ?_
              refine AO.yld _ (Yld.pickT rfl rfl) rfl rfl rfl ?_
              refine AO.nil ?_
              refine AC.cond _ rfl (fun c34 => ?_) (fun c34 => ?_)
              · -- c34 True
                refine AC.seq ?_
                refine AC.region ?_
                refine AO.yld _ (Yld.assign rfl) rfl rfl rfl ?_
                refine AO.nil ?_
                refine Pure.ret Tryd.results151 (RVs.cons (RV.tmp rfl) RVs.nil) rfl ?_
                first
                  | (exact cb (name_nil (by simpa using s6)))
                  | (exact cb (name_long (by simp at s11; omega)))
                  | (exact cb (name_first hc (by have h := c16; simp only [decide_eq_true_eq, decide_eq_false_iff_not, Bool.not_eq_true', Bool.not_eq_false', Bool.and_eq_true, Bool.and_eq_false_iff] at h; simp only [lowB, Bool.and_eq_false_iff, decide_eq_false_iff_not]; omega)))
                  | (exact cb (name_bad hck (by have h := s28; simp only [decide_eq_true_eq, decide_eq_false_iff_not, Bool.not_eq_true', Bool.not_eq_false', Bool.and_eq_true, Bool.and_eq_false_iff] at h; simp only [lowB, Bool.and_eq_false_iff, decide_eq_false_iff_not]; omega) (by have h := c34; simp only [decide_eq_true_eq, decide_eq_false_iff_not, Bool.not_eq_true', Bool.not_eq_false', Bool.and_eq_true, Bool.and_eq_false_iff] at h; simp only [digB, Bool.and_eq_false_iff, decide_eq_false_iff_not]; omega)))
                  | (exact cb (name_ok hc (by have h := c16; simp only [decide_eq_true_eq, decide_eq_false_iff_not, Bool.not_eq_true', Bool.not_eq_false', Bool.and_eq_true, Bool.and_eq_false_iff] at h; simp only [lowB, Bool.and_eq_true, decide_eq_true_eq]; omega) (by simp at s11; omega) hJ.2))
              · -- c34 False
                refine AC.skip ?_
                refine AC.mark ?_
                refine AC.region ?_
                refine AO.yld _ (Yld.move rfl) rfl rfl rfl ?_
                refine AO.yld _ (Yld.add rfl rfl (by omega) (by omega)) rfl rfl rfl ?_
                refine AO.yld _ (Yld.assign rfl) rfl rfl rfl ?_
                refine AO.nil ?_
                refine AC.back ⟨k + 1, ?_, ?_, ⟨?_, trivial⟩, trivial, ⟨rfl, trivial⟩, trivial⟩
                · exact ⟨hk, by rw [nameTo_succ hck, hJ.2]; first | (have h : lowB c2 = true := (by have h := s28; simp only [decide_eq_true_eq, decide_eq_false_iff_not, Bool.not_eq_true', Bool.not_eq_false', Bool.and_eq_true, Bool.and_eq_false_iff] at h; simp only [lowB, Bool.and_eq_true, decide_eq_true_eq]; omega); simp [h]) | (have h : digB c2 = true := (by have h := c34; simp only [decide_eq_true_eq, decide_eq_false_iff_not, Bool.not_eq_true', Bool.not_eq_false', Bool.and_eq_true, Bool.and_eq_false_iff] at h; simp only [digB, Bool.and_eq_true, decide_eq_true_eq]; omega); simp [h])⟩
                · omega
                · rfl
            · -- s28 False
              refine AO.skipT rfl rfl rfl rfl rfl ?_
              refine AO.skipT rfl rfl rfl rfl rfl ?_
              refine AO.skipT rfl rfl rfl rfl rfl ?_
              refine AO.skipT rfl rfl rfl rfl rfl ?_
              refine AO.skipT rfl rfl rfl rfl rfl ?_
              refine AO.yld _ (Yld.pickF rfl rfl) rfl rfl rfl ?_
              refine AO.nil ?_
              refine AC.condF rfl ?_
              refine AC.skip ?_
              refine AC.mark ?_
              refine AC.region ?_
              refine AO.yld _ (Yld.move rfl) rfl rfl rfl ?_
              refine AO.yld _ (Yld.add rfl rfl (by omega) (by omega)) rfl rfl rfl ?_
              refine AO.yld _ (Yld.assign rfl) rfl rfl rfl ?_
              refine AO.nil ?_
              refine AC.back ⟨k + 1, ?_, ?_, ⟨?_, trivial⟩, trivial, ⟨rfl, trivial⟩, trivial⟩
              · exact ⟨hk, by rw [nameTo_succ hck, hJ.2]; first | (have h : lowB c2 = true := (by have h := s28; simp only [decide_eq_true_eq, decide_eq_false_iff_not, Bool.not_eq_true', Bool.not_eq_false', Bool.and_eq_true, Bool.and_eq_false_iff] at h; simp only [lowB, Bool.and_eq_true, decide_eq_true_eq]; omega); simp [h]) | (have h : digB c2 = true := (by have h := c34; simp only [decide_eq_true_eq, decide_eq_false_iff_not, Bool.not_eq_true', Bool.not_eq_false', Bool.and_eq_true, Bool.and_eq_false_iff] at h; simp only [digB, Bool.and_eq_true, decide_eq_true_eq]; omega); simp [h])⟩
              · omega
              · rfl
          · -- c20 False
            obtain rfl : k = l.length := by have := ge_of_dec c20; omega
            refine AC.exit rfl ?_
            refine AC.seq ?_
            refine AC.region ?_
            refine AO.yld _ (Yld.assign rfl) rfl rfl rfl ?_
            refine AO.nil ?_
            refine Pure.ret Tryd.results151 (RVs.cons (RV.tmp rfl) RVs.nil) rfl ?_
            first
              | (exact cb (name_nil (by simpa using s6)))
              | (exact cb (name_long (by simp at s11; omega)))
              | (exact cb (name_first hc (by have h := c16; simp only [decide_eq_true_eq, decide_eq_false_iff_not, Bool.not_eq_true', Bool.not_eq_false', Bool.and_eq_true, Bool.and_eq_false_iff] at h; simp only [lowB, Bool.and_eq_false_iff, decide_eq_false_iff_not]; omega)))
              | (exact cb (name_bad hck (by have h := s28; simp only [decide_eq_true_eq, decide_eq_false_iff_not, Bool.not_eq_true', Bool.not_eq_false', Bool.and_eq_true, Bool.and_eq_false_iff] at h; simp only [lowB, Bool.and_eq_false_iff, decide_eq_false_iff_not]; omega) (by have h := c34; simp only [decide_eq_true_eq, decide_eq_false_iff_not, Bool.not_eq_true', Bool.not_eq_false', Bool.and_eq_true, Bool.and_eq_false_iff] at h; simp only [digB, Bool.and_eq_false_iff, decide_eq_false_iff_not]; omega)))
              | (exact cb (name_ok hc (by have h := c16; simp only [decide_eq_true_eq, decide_eq_false_iff_not, Bool.not_eq_true', Bool.not_eq_false', Bool.and_eq_true, Bool.and_eq_false_iff] at h; simp only [lowB, Bool.and_eq_true, decide_eq_true_eq]; omega) (by simp at s11; omega) hJ.2))

theorem impl_IsName_c {l : List UInt8} (hn : l.length ≤ 1048576) :
    Pure Tryd.prog 76 [.v (str l)] (.v (.bool (isName l))) := by
  refine Pure.intro Tryd.func76 rfl Tryd.ntmps76 rfl rfl (fun w => ?_)
  refine AC.seq ?_
  refine AC.region ?_
  refine AO.yld _ (Yld.assign rfl) rfl rfl rfl ?_
  refine AO.nil ?_
  refine AC.seq ?_
  refine AC.seq ?_
  refine AC.region ?_
  refine AO.yld _ (Yld.move rfl) rfl rfl rfl ?_
  refine AO.yld _ (Yld.lenStr Tryd.underlying9 rfl) rfl rfl rfl ?_
  refine AO.yld _ (Yld.int rfl rfl rfl) rfl rfl rfl ?_
  refine AO.yld _ (Yld.move rfl) rfl rfl rfl ?_
  refine AO.splitAt 7 _ rfl (fun s7 => ?_) (fun s7 => ?_)
  · -- s7 True
    refine AO.skipF rfl rfl rfl rfl rfl ?_
    refine AO.skipF rfl rfl rfl rfl rfl ?_
    refine AO.skipF rfl rfl rfl rfl rfl ?_
    refine AO.yld _ (Yld.pickT rfl rfl) rfl rfl rfl ?_
    refine AO.yld _ (Yld.move rfl) rfl rfl rfl ?_
    refine AO.skipF rfl rfl rfl rfl rfl ?_
    refine AO.skipF rfl rfl rfl rfl rfl ?_
    refine AO.skipF rfl rfl rfl rfl rfl ?_
    refine AO.yld _ (Yld.pickT rfl rfl) rfl rfl rfl ?_
    refine AO.yld _ (Yld.move rfl) rfl rfl rfl ?_
    refine AO.skipF rfl rfl rfl rfl rfl ?_
    refine AO.skipF rfl rfl rfl rfl rfl ?_
    refine AO.skipF rfl rfl rfl rfl rfl ?_
    refine AO.yld _ (Yld.pickT rfl rfl) rfl rfl rfl ?_
    refine AO.nil ?_
    refine AC.condT rfl ?_
    refine AC.seq ?_
    refine AC.region ?_
    refine AO.yld _ (Yld.assign rfl) rfl rfl rfl ?_
    refine AO.nil ?_
    refine Pure.ret Tryd.results76 (RVs.cons (RV.tmp rfl) RVs.nil) rfl ?_
    first
      | (exact cb (name_nil (by simp at s7; omega)))
      | (exact cb (name_long (by simp at s12; omega)))
      | (exact cb (name_first hc (by have h := s17; simp only [decide_eq_true_eq, decide_eq_false_iff_not, Bool.not_eq_true', Bool.not_eq_false', Bool.and_eq_true, Bool.and_eq_false_iff] at h; simp only [lowB, Bool.and_eq_false_iff, decide_eq_false_iff_not]; omega)))
      | (exact cb (name_first hc (by have h := c21; simp only [decide_eq_true_eq, decide_eq_false_iff_not, Bool.not_eq_true', Bool.not_eq_false', Bool.and_eq_true, Bool.and_eq_false_iff] at h; simp only [lowB, Bool.and_eq_false_iff, decide_eq_false_iff_not]; omega)))
      | (exact cb (name_ok hc (by simp only [lowB, Bool.and_eq_true, decide_eq_true_eq]; simp only [decide_eq_true_eq, decide_eq_false_iff_not, Bool.not_eq_true', Bool.not_eq_false'] at *; omega) (by simp at s12; omega) hJ.2))
      | (exact cb (name_bad hck (by simp only [lowB, Bool.and_eq_false_iff, decide_eq_false_iff_not]; simp only [decide_eq_true_eq, decide_eq_false_iff_not, Bool.not_eq_true'] at *; omega) (by simp only [digB, Bool.and_eq_false_iff, decide_eq_false_iff_not]; simp only [decide_eq_true_eq, decide_eq_false_iff_not, Bool.not_eq_true'] at *; omega)))
  · -- s7 False
    have hl0 : 0 < l.length := by simp at s7; omega
    refine AO.yldG _ (Yld.move rfl) rfl rfl rfl rfl rfl ?_
    refine AO.yldG _ (Yld.lenStr Tryd.underlying9 rfl) rfl rfl rfl rfl rfl ?_
    refine AO.yldG _ (Yld.int rfl rfl rfl) rfl rfl rfl rfl rfl ?_
    refine AO.yld _ (Yld.pickF rfl rfl) rfl rfl rfl ?_
    refine AO.yld _ (Yld.move rfl) rfl rfl rfl ?_
    refine AO.splitAt 12 _ rfl (fun s12 => ?_) (fun s12 => ?_)
    · -- s12 True
      refine AO.skipF rfl rfl rfl rfl rfl ?_
      refine AO.skipF rfl rfl rfl rfl rfl ?_
      refine AO.skipF rfl rfl rfl rfl rfl ?_
      refine AO.yld _ (Yld.pickT rfl rfl) rfl rfl rfl ?_
      refine AO.yld _ (Yld.move rfl) rfl rfl rfl ?_
      refine AO.skipF rfl rfl rfl rfl rfl ?_
      refine AO.skipF rfl rfl rfl rfl rfl ?_
      refine AO.skipF rfl rfl rfl rfl rfl ?_
      refine AO.yld _ (Yld.pickT rfl rfl) rfl rfl rfl ?_
      refine AO.nil ?_
      refine AC.condT rfl ?_
      refine AC.seq ?_
      refine AC.region ?_
      refine AO.yld _ (Yld.assign rfl) rfl rfl rfl ?_
      refine AO.nil ?_
      refine Pure.ret Tryd.results76 (RVs.cons (RV.tmp rfl) RVs.nil) rfl ?_
      first
        | (exact cb (name_nil (by simp at s7; omega)))
        | (exact cb (name_long (by simp at s12; omega)))
        | (exact cb (name_first hc (by have h := s17; simp only [decide_eq_true_eq, decide_eq_false_iff_not, Bool.not_eq_true', Bool.not_eq_false', Bool.and_eq_true, Bool.and_eq_false_iff] at h; simp only [lowB, Bool.and_eq_false_iff, decide_eq_false_iff_not]; omega)))
        | (exact cb (name_first hc (by have h := c21; simp only [decide_eq_true_eq, decide_eq_false_iff_not, Bool.not_eq_true', Bool.not_eq_false', Bool.and_eq_true, Bool.and_eq_false_iff] at h; simp only [lowB, Bool.and_eq_false_iff, decide_eq_false_iff_not]; omega)))
        | (exact cb (name_ok hc (by simp only [lowB, Bool.and_eq_true, decide_eq_true_eq]; simp only [decide_eq_true_eq, decide_eq_false_iff_not, Bool.not_eq_true', Bool.not_eq_false'] at *; omega) (by simp at s12; omega) hJ.2))
        | (exact cb (name_bad hck (by simp only [lowB, Bool.and_eq_false_iff, decide_eq_false_iff_not]; simp only [decide_eq_true_eq, decide_eq_false_iff_not, Bool.not_eq_true'] at *; omega) (by simp only [digB, Bool.and_eq_false_iff, decide_eq_false_iff_not]; simp only [decide_eq_true_eq, decide_eq_false_iff_not, Bool.not_eq_true'] at *; omega)))
    · -- s12 False
      obtain ⟨c, hc⟩ := get_some hl0
      refine AO.yldG _ (Yld.move rfl) rfl rfl rfl rfl rfl ?_
      refine AO.yldG _ (Yld.indexStr Tryd.underlying9 rfl rfl (by omega) hc) rfl rfl rfl rfl rfl ?_
      refine AO.yldG _ (Yld.int rfl rfl rfl) rfl rfl rfl rfl rfl ?_
      refine AO.yld _ (Yld.pickF rfl rfl) rfl rfl rfl ?_
      refine AO.yld _ (Yld.move rfl) rfl rfl rfl ?_
      refine AO.splitAt 17 _ rfl (fun s17 => ?_) (fun s17 => ?_)
      · -- s17 True
        refine AO.skipF rfl rfl rfl rfl rfl ?_
        refine AO.skipF rfl rfl rfl rfl rfl ?_
        refine AO.skipF rfl rfl rfl rfl rfl ?_
        refine AO.yld _ (Yld.pickT rfl rfl) rfl rfl rfl ?_
        refine AO.nil ?_
        refine AC.condT rfl ?_
        refine AC.seq ?_
        refine AC.region ?_
        refine AO.yld _ (Yld.assign rfl) rfl rfl rfl ?_
        refine AO.nil ?_
        refine Pure.ret Tryd.results76 (RVs.cons (RV.tmp rfl) RVs.nil) rfl ?_
        first
          | (exact cb (name_nil (by simp at s7; omega)))
          | (exact cb (name_long (by simp at s12; omega)))
          | (exact cb (name_first hc (by have h := s17; simp only [decide_eq_true_eq, decide_eq_false_iff_not, Bool.not_eq_true', Bool.not_eq_false', Bool.and_eq_true, Bool.and_eq_false_iff] at h; simp only [lowB, Bool.and_eq_false_iff, decide_eq_false_iff_not]; omega)))
          | (exact cb (name_first hc (by have h := c21; simp only [decide_eq_true_eq, decide_eq_false_iff_not, Bool.not_eq_true', Bool.not_eq_false', Bool.and_eq_true, Bool.and_eq_false_iff] at h; simp only [lowB, Bool.and_eq_false_iff, decide_eq_false_iff_not]; omega)))
          | (exact cb (name_ok hc (by simp only [lowB, Bool.and_eq_true, decide_eq_true_eq]; simp only [decide_eq_true_eq, decide_eq_false_iff_not, Bool.not_eq_true', Bool.not_eq_false'] at *; omega) (by simp at s12; omega) hJ.2))
          | (exact cb (name_bad hck (by simp only [lowB, Bool.and_eq_false_iff, decide_eq_false_iff_not]; simp only [decide_eq_true_eq, decide_eq_false_iff_not, Bool.not_eq_true'] at *; omega) (by simp only [digB, Bool.and_eq_false_iff, decide_eq_false_iff_not]; simp only [decide_eq_true_eq, decide_eq_false_iff_not, Bool.not_eq_true'] at *; omega)))
      · -- s17 False
        refine AO.yldG _ (Yld.move rfl) rfl rfl rfl rfl rfl ?_
        refine AO.yldG _ (Yld.indexStr Tryd.underlying9 rfl rfl (by omega) hc) rfl rfl rfl rfl rfl ?_
        refine AO.yldG _ (Yld.int rfl rfl rfl) rfl rfl rfl rfl rfl ?_
        refine AO.yld _ (Yld.pickF rfl rfl) rfl rfl rfl ?_
        refine AO.nil ?_
        refine AC.cond _ rfl (fun c21 => ?_) (fun c21 => ?_)
        · -- c21 True
          refine AC.seq ?_
          refine AC.region ?_
          refine AO.yld _ (Yld.assign rfl) rfl rfl rfl ?_
          refine AO.nil ?_
          refine Pure.ret Tryd.results76 (RVs.cons (RV.tmp rfl) RVs.nil) rfl ?_
          first
            | (exact cb (name_nil (by simp at s7; omega)))
            | (exact cb (name_long (by simp at s12; omega)))
            | (exact cb (name_first hc (by have h := s17; simp only [decide_eq_true_eq, decide_eq_false_iff_not, Bool.not_eq_true', Bool.not_eq_false', Bool.and_eq_true, Bool.and_eq_false_iff] at h; simp only [lowB, Bool.and_eq_false_iff, decide_eq_false_iff_not]; omega)))
            | (exact cb (name_first hc (by have h := c21; simp only [decide_eq_true_eq, decide_eq_false_iff_not, Bool.not_eq_true', Bool.not_eq_false', Bool.and_eq_true, Bool.and_eq_false_iff] at h; simp only [lowB, Bool.and_eq_false_iff, decide_eq_false_iff_not]; omega)))
            | (exact cb (name_ok hc (by simp only [lowB, Bool.and_eq_true, decide_eq_true_eq]; simp only [decide_eq_true_eq, decide_eq_false_iff_not, Bool.not_eq_true', Bool.not_eq_false'] at *; omega) (by simp at s12; omega) hJ.2))
            | (exact cb (name_bad hck (by simp only [lowB, Bool.and_eq_false_iff, decide_eq_false_iff_not]; simp only [decide_eq_true_eq, decide_eq_false_iff_not, Bool.not_eq_true'] at *; omega) (by simp only [digB, Bool.and_eq_false_iff, decide_eq_false_iff_not]; simp only [decide_eq_true_eq, decide_eq_false_iff_not, Bool.not_eq_true'] at *; omega)))
        · -- c21 False
          refine AC.skip ?_
          refine AC.seq ?_
          refine AC.seq ?_
          refine AC.region ?_
          refine AO.yld _ (Yld.assign rfl) rfl rfl rfl ?_
          refine AO.nil ?_
          refine AC.block ?_
          refine AC.loopC [(0, _)] [] (fun (k : Nat) => [(3, .p (.v (.int .i64 (k : Int))))]) (fun (k : Nat) => []) (fun (k : Nat) => k ≤ l.length ∧ nameTo l k = true) (fun (k : Nat) => l.length - k) 0 ⟨rfl, trivial⟩ trivial ⟨rfl, trivial⟩ trivial ?_ (fun k hJ => ?_)
          · exact ⟨Nat.zero_le _, rfl⟩
          · -- round
            refine AC.seq ?_
            refine AC.seq ?_
            refine AC.region ?_
            refine AO.yld _ (Yld.move rfl) rfl rfl rfl ?_
            refine AO.yld _ (Yld.move rfl) rfl rfl rfl ?_
            refine AO.yld _ (Yld.lenStr Tryd.underlying9 rfl) rfl rfl rfl ?_
            refine AO.yld _ (Yld.int rfl rfl rfl) rfl rfl rfl ?_
            refine AO.nil ?_
            refine AC.cond _ rfl (fun c25 => ?_) (fun c25 => ?_)
            · -- c25 True
              have hk := lt_of_dec c25
              obtain ⟨c2, hck⟩ := get_some hk
              refine AC.skip ?_
              refine AC.seq ?_
              refine AC.block ?_
              refine AC.seq ?_
              refine AC.region ?_
              refine AO.yld _ (Yld.move rfl) rfl rfl rfl ?_
              refine AO.yld _ (Yld.move rfl) rfl rfl rfl ?_
              refine AO.yld _ (Yld.indexStr Tryd.underlying9 rfl rfl (by omega) hck) rfl rfl rfl ?_
              refine AO.yld _ (Yld.int rfl rfl rfl) rfl rfl rfl ?_
              refine AO.yld _ (Yld.move rfl) rfl rfl rfl ?_
              refine AO.splitAt 32 _ rfl (fun s32 => ?_) (fun s32 => ?_)
              · -- s32 True
                refine AO.yldG _ (Yld.move rfl) rfl rfl rfl rfl rfl ?_
                refine AO.yldG _ (Yld.move rfl) rfl rfl rfl rfl rfl ?_
                refine AO.yldG _ (Yld.indexStr Tryd.underlying9 rfl rfl (by omega) hck) rfl rfl rfl rfl rfl ?_
                refine AO.yldG _ (Yld.int rfl rfl rfl) rfl rfl rfl rfl rfl ?_
                refine AO.yld _ (Yld.pickT rfl rfl) rfl rfl rfl ?_
                refine AO.yld _ (Yld.move rfl) rfl rfl rfl ?_
                refine AO.splitAt 38 _ rfl (fun s38 => ?_) (fun s38 => ?_)
                · -- s38 True
                  refine AO.skipF rfl rfl rfl rfl rfl ?_
                  refine AO.skipF rfl rfl rfl rfl rfl ?_
                  refine AO.skipF rfl rfl rfl rfl rfl ?_
                  refine AO.skipF rfl rfl rfl rfl rfl ?_
                  refine AO.skipF rfl rfl rfl rfl rfl ?_
                  refine AO.skipU rfl rfl rfl rfl rfl ?_
                  refine AO.skipU rfl rfl rfl rfl rfl ?_
                  refine AO.skipU rfl rfl rfl rfl rfl ?_
                  refine AO.skipU rfl rfl rfl rfl rfl ?_
                  refine AO.skipF rfl rfl rfl rfl rfl ?_
                  refine AO.yld _ (Yld.pickT rfl rfl) rfl rfl rfl ?_
                  refine AO.yld _ (Yld.not rfl) rfl rfl rfl ?_
                  refine AO.nil ?_
                  refine AC.condF rfl ?_
                  refine AC.skip ?_
                  refine AC.mark ?_
                  refine AC.region ?_
                  refine AO.yld _ (Yld.move rfl) rfl rfl rfl ?_
                  refine AO.yld _ (Yld.add rfl rfl (by omega) (by omega)) rfl rfl rfl ?_
                  refine AO.yld _ (Yld.assign rfl) rfl rfl rfl ?_
                  refine AO.nil ?_
                  refine AC.back ⟨k + 1, ?_, ?_, ⟨?_, trivial⟩, trivial, ⟨rfl, trivial⟩, trivial⟩
                  · exact ⟨hk, by rw [nameTo_succ hck, hJ.2]; first | (have h : lowB c2 = true := (by simp only [lowB, Bool.and_eq_true, decide_eq_true_eq]; simp only [decide_eq_true_eq, decide_eq_false_iff_not, Bool.not_eq_true', Bool.not_eq_false'] at *; omega); simp [h]) | (have h : digB c2 = true := (by simp only [digB, Bool.and_eq_true, decide_eq_true_eq]; simp only [decide_eq_true_eq, decide_eq_false_iff_not, Bool.not_eq_true', Bool.not_eq_false'] at *; omega); simp [h])⟩
                  · omega
                  · rfl
                · -- s38 False
                  refine AO.yldG _ (Yld.move rfl) rfl rfl rfl rfl rfl ?_
                  refine AO.yldG _ (Yld.move rfl) rfl rfl rfl rfl rfl ?_
                  refine AO.yldG _ (Yld.indexStr Tryd.underlying9 rfl rfl (by omega) hck) rfl rfl rfl rfl rfl ?_
                  refine AO.yldG _ (Yld.int rfl rfl rfl) rfl rfl rfl rfl rfl ?_
                  refine AO.yldG _ (Yld.move rfl) rfl rfl rfl rfl rfl ?_
                  refine AO.splitAt 43 _ rfl (fun s43 => ?_) (fun s43 => ?_)
                  · -- s43 True
                    refine AO.yldG _ (Yld.move rfl) rfl rfl rfl rfl rfl ?_
                    refine AO.yldG _ (Yld.move rfl) rfl rfl rfl rfl rfl ?_
                    refine AO.yldG _ (Yld.indexStr Tryd.underlying9 rfl rfl (by omega) hck) rfl rfl rfl rfl rfl ?_
                    refine AO.yldG _ (Yld.int rfl rfl rfl) rfl rfl rfl rfl rfl ?_
                    refine AO.yldG _ (Yld.pickT rfl rfl) rfl rfl rfl rfl rfl ?_
                    refine AO.yld _ (Yld.pickF rfl rfl) rfl rfl rfl ?_
                    refine AO.yld _ (Yld.not rfl) rfl rfl rfl ?_
                    refine AO.nil ?_
                    refine AC.cond _ rfl (fun c50 => ?_) (fun c50 => ?_)
                    · -- c50 True
                      refine AC.seq ?_
                      refine AC.region ?_
                      refine AO.yld _ (Yld.assign rfl) rfl rfl rfl ?_
                      refine AO.nil ?_
                      refine Pure.ret Tryd.results76 (RVs.cons (RV.tmp rfl) RVs.nil) rfl ?_
                      first
                        | (exact cb (name_nil (by simp at s7; omega)))
                        | (exact cb (name_long (by simp at s12; omega)))
                        | (exact cb (name_first hc (by have h := s17; simp only [decide_eq_true_eq, decide_eq_false_iff_not, Bool.not_eq_true', Bool.not_eq_false', Bool.and_eq_true, Bool.and_eq_false_iff] at h; simp only [lowB, Bool.and_eq_false_iff, decide_eq_false_iff_not]; omega)))
                        | (exact cb (name_first hc (by have h := c21; simp only [decide_eq_true_eq, decide_eq_false_iff_not, Bool.not_eq_true', Bool.not_eq_false', Bool.and_eq_true, Bool.and_eq_false_iff] at h; simp only [lowB, Bool.and_eq_false_iff, decide_eq_false_iff_not]; omega)))
                        | (exact cb (name_ok hc (by simp only [lowB, Bool.and_eq_true, decide_eq_true_eq]; simp only [decide_eq_true_eq, decide_eq_false_iff_not, Bool.not_eq_true', Bool.not_eq_false'] at *; omega) (by simp at s12; omega) hJ.2))
                        | (exact cb (name_bad hck (by simp only [lowB, Bool.and_eq_false_iff, decide_eq_false_iff_not]; simp only [decide_eq_true_eq, decide_eq_false_iff_not, Bool.not_eq_true'] at *; omega) (by simp only [digB, Bool.and_eq_false_iff, decide_eq_false_iff_not]; simp only [decide_eq_true_eq, decide_eq_false_iff_not, Bool.not_eq_true'] at *; omega)))
                    · -- c50 False
                      refine AC.skip ?_
                      refine AC.mark ?_
                      refine AC.region ?_
                      refine AO.yld _ (Yld.move rfl) rfl rfl rfl ?_
                      refine AO.yld _ (Yld.add rfl rfl (by omega) (by omega)) rfl rfl rfl ?_
                      refine AO.yld _ (Yld.assign rfl) rfl rfl rfl ?_
                      refine AO.nil ?_
                      refine AC.back ⟨k + 1, ?_, ?_, ⟨?_, trivial⟩, trivial, ⟨rfl, trivial⟩, trivial⟩
                      · exact ⟨hk, by rw [nameTo_succ hck, hJ.2]; first | (have h : lowB c2 = true := (by simp only [lowB, Bool.and_eq_true, decide_eq_true_eq]; simp only [decide_eq_true_eq, decide_eq_false_iff_not, Bool.not_eq_true', Bool.not_eq_false'] at *; omega); simp [h]) | (have h : digB c2 = true := (by simp only [digB, Bool.and_eq_true, decide_eq_true_eq]; simp only [decide_eq_true_eq, decide_eq_false_iff_not, Bool.not_eq_true', Bool.not_eq_false'] at *; omega); simp [h])⟩
                      · omega
                      · rfl
                  · -- s43 False
                    refine AO.skipT rfl rfl rfl rfl rfl ?_
                    refine AO.skipT rfl rfl rfl rfl rfl ?_
                    refine AO.skipT rfl rfl rfl rfl rfl ?_
                    refine AO.skipT rfl rfl rfl rfl rfl ?_
                    refine AO.yldG _ (Yld.pickF rfl rfl) rfl rfl rfl rfl rfl ?_
                    refine AO.yld _ (Yld.pickF rfl rfl) rfl rfl rfl ?_
                    refine AO.yld _ (Yld.not rfl) rfl rfl rfl ?_
                    refine AO.nil ?_
                    refine AC.condT rfl ?_
                    refine AC.seq ?_
                    refine AC.region ?_
                    refine AO.yld _ (Yld.assign rfl) rfl rfl rfl ?_
                    refine AO.nil ?_
                    refine Pure.ret Tryd.results76 (RVs.cons (RV.tmp rfl) RVs.nil) rfl ?_
                    first
                      | (exact cb (name_nil (by simp at s7; omega)))
                      | (exact cb (name_long (by simp at s12; omega)))
                      | (exact cb (name_first hc (by have h := s17; simp only [decide_eq_true_eq, decide_eq_false_iff_not, Bool.not_eq_true', Bool.not_eq_false', Bool.and_eq_true, Bool.and_eq_false_iff] at h; simp only [lowB, Bool.and_eq_false_iff, decide_eq_false_iff_not]; omega)))
                      | (exact cb (name_first hc (by have h := c21; simp only [decide_eq_true_eq, decide_eq_false_iff_not, Bool.not_eq_true', Bool.not_eq_false', Bool.and_eq_true, Bool.and_eq_false_iff] at h; simp only [lowB, Bool.and_eq_false_iff, decide_eq_false_iff_not]; omega)))
                      | (exact cb (name_ok hc (by simp only [lowB, Bool.and_eq_true, decide_eq_true_eq]; simp only [decide_eq_true_eq, decide_eq_false_iff_not, Bool.not_eq_true', Bool.not_eq_false'] at *; omega) (by simp at s12; omega) hJ.2))
                      | (exact cb (name_bad hck (by simp only [lowB, Bool.and_eq_false_iff, decide_eq_false_iff_not]; simp only [decide_eq_true_eq, decide_eq_false_iff_not, Bool.not_eq_true'] at *; omega) (by simp only [digB, Bool.and_eq_false_iff, decide_eq_false_iff_not]; simp only [decide_eq_true_eq, decide_eq_false_iff_not, Bool.not_eq_true'] at *; omega)))
              · -- s32 False
                refine AO.skipT rfl rfl rfl rfl rfl ?_
                refine AO.skipT rfl rfl rfl rfl rfl ?_
                refine AO.skipT rfl rfl rfl rfl rfl ?_
                refine AO.skipT rfl rfl rfl rfl rfl ?_
                refine AO.yld _ (Yld.pickF rfl rfl) rfl rfl rfl ?_
                refine AO.yld _ (Yld.move rfl) rfl rfl rfl ?_
                refine AO.yldG _ (Yld.move rfl) rfl rfl rfl rfl rfl ?_
                refine AO.yldG _ (Yld.move rfl) rfl rfl rfl rfl rfl ?_
                refine AO.yldG _ (Yld.indexStr Tryd.underlying9 rfl rfl (by omega) hck) rfl rfl rfl rfl rfl ?_
                refine AO.yldG _ (Yld.int rfl rfl rfl) rfl rfl rfl rfl rfl ?_
                refine AO.yldG _ (Yld.move rfl) rfl rfl rfl rfl rfl ?_
                refine AO.splitAt 43 _ rfl (fun s43 => ?_) (fun s43 => ?_)
                · -- s43 True
                  refine AO.yldG _ (Yld.move rfl) rfl rfl rfl rfl rfl ?_
                  refine AO.yldG _ (Yld.move rfl) rfl rfl rfl rfl rfl ?_
                  refine AO.yldG _ (Yld.indexStr Tryd.underlying9 rfl rfl (by omega) hck) rfl rfl rfl rfl rfl ?_
                  refine AO.yldG _ (Yld.int rfl rfl rfl) rfl rfl rfl rfl rfl ?_
                  refine AO.yldG _ (Yld.pickT rfl rfl) rfl rfl rfl rfl rfl ?_
                  refine AO.yld _ (Yld.pickF rfl rfl) rfl rfl rfl ?_
                  refine AO.yld _ (Yld.not rfl) rfl rfl rfl ?_
                  refine AO.nil ?_
                  refine AC.cond _ rfl (fun c50 => ?_) (fun c50 => ?_)
                  · -- c50 True
                    refine AC.seq ?_
                    refine AC.region ?_
                    refine AO.yld _ (Yld.assign rfl) rfl rfl rfl ?_
                    refine AO.nil ?_
                    refine Pure.ret Tryd.results76 (RVs.cons (RV.tmp rfl) RVs.nil) rfl ?_
                    first
                      | (exact cb (name_nil (by simp at s7; omega)))
                      | (exact cb (name_long (by simp at s12; omega)))
                      | (exact cb (name_first hc (by have h := s17; simp only [decide_eq_true_eq, decide_eq_false_iff_not, Bool.not_eq_true', Bool.not_eq_false', Bool.and_eq_true, Bool.and_eq_false_iff] at h; simp only [lowB, Bool.and_eq_false_iff, decide_eq_false_iff_not]; omega)))
                      | (exact cb (name_first hc (by have h := c21; simp only [decide_eq_true_eq, decide_eq_false_iff_not, Bool.not_eq_true', Bool.not_eq_false', Bool.and_eq_true, Bool.and_eq_false_iff] at h; simp only [lowB, Bool.and_eq_false_iff, decide_eq_false_iff_not]; omega)))
                      | (exact cb (name_ok hc (by simp only [lowB, Bool.and_eq_true, decide_eq_true_eq]; simp only [decide_eq_true_eq, decide_eq_false_iff_not, Bool.not_eq_true', Bool.not_eq_false'] at *; omega) (by simp at s12; omega) hJ.2))
                      | (exact cb (name_bad hck (by simp only [lowB, Bool.and_eq_false_iff, decide_eq_false_iff_not]; simp only [decide_eq_true_eq, decide_eq_false_iff_not, Bool.not_eq_true'] at *; omega) (by simp only [digB, Bool.and_eq_false_iff, decide_eq_false_iff_not]; simp only [decide_eq_true_eq, decide_eq_false_iff_not, Bool.not_eq_true'] at *; omega)))
                  · -- c50 False
                    refine AC.skip ?_
                    refine AC.mark ?_
                    refine AC.region ?_
                    refine AO.yld _ (Yld.move rfl) rfl rfl rfl ?_
                    refine AO.yld _ (Yld.add rfl rfl (by omega) (by omega)) rfl rfl rfl ?_
                    refine AO.yld _ (Yld.assign rfl) rfl rfl rfl ?_
                    refine AO.nil ?_
                    refine AC.back ⟨k + 1, ?_, ?_, ⟨?_, trivial⟩, trivial, ⟨rfl, trivial⟩, trivial⟩
                    · exact ⟨hk, by rw [nameTo_succ hck, hJ.2]; first | (have h : lowB c2 = true := (by simp only [lowB, Bool.and_eq_true, decide_eq_true_eq]; simp only [decide_eq_true_eq, decide_eq_false_iff_not, Bool.not_eq_true', Bool.not_eq_false'] at *; omega); simp [h]) | (have h : digB c2 = true := (by simp only [digB, Bool.and_eq_true, decide_eq_true_eq]; simp only [decide_eq_true_eq, decide_eq_false_iff_not, Bool.not_eq_true', Bool.not_eq_false'] at *; omega); simp [h])⟩
                    · omega
                    · rfl
                · -- s43 False
                  refine AO.skipT rfl rfl rfl rfl rfl ?_
                  refine AO.skipT rfl rfl rfl rfl rfl ?_
                  refine AO.skipT rfl rfl rfl rfl rfl ?_
                  refine AO.skipT rfl rfl rfl rfl rfl ?_
                  refine AO.yldG _ (Yld.pickF rfl rfl) rfl rfl rfl rfl rfl ?_
                  refine AO.yld _ (Yld.pickF rfl rfl) rfl rfl rfl ?_
                  refine AO.yld _ (Yld.not rfl) rfl rfl rfl ?_
                  refine AO.nil ?_
                  refine AC.condT rfl ?_
                  refine AC.seq ?_
                  refine AC.region ?_
                  refine AO.yld _ (Yld.assign rfl) rfl rfl rfl ?_
                  refine AO.nil ?_
                  refine Pure.ret Tryd.results76 (RVs.cons (RV.tmp rfl) RVs.nil) rfl ?_
                  first
                    | (exact cb (name_nil (by simp at s7; omega)))
                    | (exact cb (name_long (by simp at s12; omega)))
                    | (exact cb (name_first hc (by have h := s17; simp only [decide_eq_true_eq, decide_eq_false_iff_not, Bool.not_eq_true', Bool.not_eq_false', Bool.and_eq_true, Bool.and_eq_false_iff] at h; simp only [lowB, Bool.and_eq_false_iff, decide_eq_false_iff_not]; omega)))
                    | (exact cb (name_first hc (by have h := c21; simp only [decide_eq_true_eq, decide_eq_false_iff_not, Bool.not_eq_true', Bool.not_eq_false', Bool.and_eq_true, Bool.and_eq_false_iff] at h; simp only [lowB, Bool.and_eq_false_iff, decide_eq_false_iff_not]; omega)))
                    | (exact cb (name_ok hc (by simp only [lowB, Bool.and_eq_true, decide_eq_true_eq]; simp only [decide_eq_true_eq, decide_eq_false_iff_not, Bool.not_eq_true', Bool.not_eq_false'] at *; omega) (by simp at s12; omega) hJ.2))
                    | (exact cb (name_bad hck (by simp only [lowB, Bool.and_eq_false_iff, decide_eq_false_iff_not]; simp only [decide_eq_true_eq, decide_eq_false_iff_not, Bool.not_eq_true'] at *; omega) (by simp only [digB, Bool.and_eq_false_iff, decide_eq_false_iff_not]; simp only [decide_eq_true_eq, decide_eq_false_iff_not, Bool.not_eq_true'] at *; omega)))
            · -- c25 False
              obtain rfl : k = l.length := by have := ge_of_dec c25; omega
              refine AC.exit rfl ?_
              refine AC.seq ?_
              refine AC.region ?_
              refine AO.yld _ (Yld.assign rfl) rfl rfl rfl ?_
              refine AO.nil ?_
              refine Pure.ret Tryd.results76 (RVs.cons (RV.tmp rfl) RVs.nil) rfl ?_
              first
                | (exact cb (name_nil (by simp at s7; omega)))
                | (exact cb (name_long (by simp at s12; omega)))
                | (exact cb (name_first hc (by have h := s17; simp only [decide_eq_true_eq, decide_eq_false_iff_not, Bool.not_eq_true', Bool.not_eq_false', Bool.and_eq_true, Bool.and_eq_false_iff] at h; simp only [lowB, Bool.and_eq_false_iff, decide_eq_false_iff_not]; omega)))
                | (exact cb (name_first hc (by have h := c21; simp only [decide_eq_true_eq, decide_eq_false_iff_not, Bool.not_eq_true', Bool.not_eq_false', Bool.and_eq_true, Bool.and_eq_false_iff] at h; simp only [lowB, Bool.and_eq_false_iff, decide_eq_false_iff_not]; omega)))
                | (exact cb (name_ok hc (by simp only [lowB, Bool.and_eq_true, decide_eq_true_eq]; simp only [decide_eq_true_eq, decide_eq_false_iff_not, Bool.not_eq_true', Bool.not_eq_false'] at *; omega) (by simp at s12; omega) hJ.2))
                | (exact cb (name_bad hck (by simp only [lowB, Bool.and_eq_false_iff, decide_eq_false_iff_not]; simp only [decide_eq_true_eq, decide_eq_false_iff_not, Bool.not_eq_true'] at *; omega) (by simp only [digB, Bool.and_eq_false_iff, decide_eq_false_iff_not]; simp only [decide_eq_true_eq, decide_eq_false_iff_not, Bool.not_eq_true'] at *; omega)))

theorem laws_toSession_c {x : Session} :
    Pure Tryd.prog 33 [.agg (encSession x)] (.agg (encSession x)) := by
  refine Pure.intro Tryd.func33 rfl Tryd.ntmps33 rfl rfl (fun w => ?_)
  refine AC.seq ?_
  refine AC.region ?_
  refine AO.box 0 rfl rfl rfl rfl rfl ?_
  refine AO.alloc 1 Tryd.zeroValue64 rfl rfl rfl ?_
  refine AO.nil ?_
  refine AC.seq ?_
  refine AC.region ?_
  refine AO.alloc 2 Tryd.zeroValue64 rfl rfl rfl ?_
  refine AO.nil ?_
  refine AC.seq ?_
  refine AC.region ?_
  refine AO.yld _ (Yld.fieldAddr Tryd.underlying62 rfl rfl Tryd.sizeOf2 rfl rfl rfl) rfl rfl rfl ?_
  refine AO.yld _ (Yld.load Tryd.isAgg2 rfl rfl) rfl rfl rfl ?_
  refine AO.yld _ (Yld.fieldAddr Tryd.underlying64 rfl rfl Tryd.sizeOf2 rfl rfl rfl) rfl rfl rfl ?_
  refine AO.store Tryd.sizeOf2 rfl rfl rfl rfl rfl rfl ?_
  refine AO.nil ?_
  refine AC.seq ?_
  refine AC.region ?_
  refine AO.yld _ (Yld.fieldAddr Tryd.underlying62 rfl rfl Tryd.sizeOf2 rfl rfl rfl) rfl rfl rfl ?_
  refine AO.yld _ (Yld.load Tryd.isAgg2 rfl rfl) rfl rfl rfl ?_
  refine AO.yld _ (Yld.fieldAddr Tryd.underlying64 rfl rfl Tryd.sizeOf2 rfl rfl rfl) rfl rfl rfl ?_
  refine AO.store Tryd.sizeOf2 rfl rfl rfl rfl rfl rfl ?_
  refine AO.nil ?_
  refine AC.seq ?_
  refine AC.region ?_
  refine AO.yld _ (Yld.fieldAddr Tryd.underlying62 rfl rfl Tryd.sizeOf2 rfl rfl rfl) rfl rfl rfl ?_
  refine AO.yld _ (Yld.load Tryd.isAgg2 rfl rfl) rfl rfl rfl ?_
  refine AO.yld _ (Yld.fieldAddr Tryd.underlying64 rfl rfl Tryd.sizeOf2 rfl rfl rfl) rfl rfl rfl ?_
  refine AO.store Tryd.sizeOf2 rfl rfl rfl rfl rfl rfl ?_
  refine AO.nil ?_
  refine AC.seq ?_
  refine AC.region ?_
  refine AO.yld _ (Yld.fieldAddr Tryd.underlying62 rfl rfl Tryd.sizeOf2 rfl rfl rfl) rfl rfl rfl ?_
  refine AO.yld _ (Yld.load Tryd.isAgg2 rfl rfl) rfl rfl rfl ?_
  refine AO.yld _ (Yld.fieldAddr Tryd.underlying64 rfl rfl Tryd.sizeOf2 rfl rfl rfl) rfl rfl rfl ?_
  refine AO.store Tryd.sizeOf2 rfl rfl rfl rfl rfl rfl ?_
  refine AO.nil ?_
  refine AC.seq ?_
  refine AC.region ?_
  refine AO.yld _ (Yld.loadAgg Tryd.isAgg64 Tryd.sizeOf64 rfl rfl rfl rfl) rfl rfl rfl ?_
  refine AO.store Tryd.sizeOf64 rfl rfl rfl rfl rfl rfl ?_
  refine AO.nil ?_
  refine Pure.ret Tryd.results33 (RVs.cons (RV.cell Tryd.isAgg64 Tryd.sizeOf64 rfl rfl rfl rfl) RVs.nil) rfl ?_
  first | rfl | (simp_all; done) | (simp_all; intros; omega) | grind

theorem laws_toMachine_c {x : Mach} :
    Pure Tryd.prog 31 [.agg (encMach x)] (.agg (encMach x)) := by
  refine Pure.intro Tryd.func31 rfl Tryd.ntmps31 rfl rfl (fun w => ?_)
  refine AC.seq ?_
  refine AC.region ?_
  refine AO.box 0 rfl rfl rfl rfl rfl ?_
  refine AO.alloc 1 Tryd.zeroValue33 rfl rfl rfl ?_
  refine AO.nil ?_
  refine AC.seq ?_
  refine AC.region ?_
  refine AO.alloc 2 Tryd.zeroValue33 rfl rfl rfl ?_
  refine AO.nil ?_
  refine AC.seq ?_
  refine AC.region ?_
  refine AO.yld _ (Yld.fieldAddr Tryd.underlying57 rfl rfl Tryd.sizeOf9 rfl rfl rfl) rfl rfl rfl ?_
  refine AO.yld _ (Yld.load Tryd.isAgg9 rfl rfl) rfl rfl rfl ?_
  refine AO.yld _ (Yld.fieldAddr Tryd.underlying33 rfl rfl Tryd.sizeOf9 rfl rfl rfl) rfl rfl rfl ?_
  refine AO.store Tryd.sizeOf9 rfl rfl rfl rfl rfl rfl ?_
  refine AO.nil ?_
  refine AC.seq ?_
  refine AC.region ?_
  refine AO.yld _ (Yld.fieldAddr Tryd.underlying57 rfl rfl Tryd.sizeOf2 rfl rfl rfl) rfl rfl rfl ?_
  refine AO.yld _ (Yld.load Tryd.isAgg2 rfl rfl) rfl rfl rfl ?_
  refine AO.yld _ (Yld.fieldAddr Tryd.underlying33 rfl rfl Tryd.sizeOf2 rfl rfl rfl) rfl rfl rfl ?_
  refine AO.store Tryd.sizeOf2 rfl rfl rfl rfl rfl rfl ?_
  refine AO.nil ?_
  refine AC.seq ?_
  refine AC.region ?_
  refine AO.yld _ (Yld.fieldAddr Tryd.underlying57 rfl rfl Tryd.sizeOf2 rfl rfl rfl) rfl rfl rfl ?_
  refine AO.yld _ (Yld.load Tryd.isAgg2 rfl rfl) rfl rfl rfl ?_
  refine AO.yld _ (Yld.fieldAddr Tryd.underlying33 rfl rfl Tryd.sizeOf2 rfl rfl rfl) rfl rfl rfl ?_
  refine AO.store Tryd.sizeOf2 rfl rfl rfl rfl rfl rfl ?_
  refine AO.nil ?_
  refine AC.seq ?_
  refine AC.region ?_
  refine AO.yld _ (Yld.loadAgg Tryd.isAgg33 Tryd.sizeOf33 rfl rfl rfl rfl) rfl rfl rfl ?_
  refine AO.store Tryd.sizeOf33 rfl rfl rfl rfl rfl rfl ?_
  refine AO.nil ?_
  refine Pure.ret Tryd.results31 (RVs.cons (RV.cell Tryd.isAgg33 Tryd.sizeOf33 rfl rfl rfl rfl) RVs.nil) rfl ?_
  first | rfl | (simp_all; done) | (simp_all; intros; omega) | grind

theorem laws_eqMachine_c {x y : Mach} :
    Pure Tryd.prog 54 [.agg (encMach x), .agg (encMach y)] (.v (.bool (decide (x = y)))) := by
  refine Pure.intro Tryd.func54 rfl Tryd.ntmps54 rfl rfl (fun w => ?_)
  refine AC.seq ?_
  refine AC.region ?_
  refine AO.box 0 rfl rfl rfl rfl rfl ?_
  refine AO.box 1 rfl rfl rfl rfl rfl ?_
  refine AO.yld _ (Yld.assign rfl) rfl rfl rfl ?_
  refine AO.nil ?_
  refine AC.seq ?_
  refine AC.seq ?_
  refine AC.region ?_
  refine AO.yld _ (Yld.fieldAddr Tryd.underlying33 rfl rfl Tryd.sizeOf9 rfl rfl rfl) rfl rfl rfl ?_
  refine AO.yld _ (Yld.load Tryd.isAgg9 rfl rfl) rfl rfl rfl ?_
  refine AO.yld _ (Yld.fieldAddr Tryd.underlying33 rfl rfl Tryd.sizeOf9 rfl rfl rfl) rfl rfl rfl ?_
  refine AO.yld _ (Yld.load Tryd.isAgg9 rfl rfl) rfl rfl rfl ?_
  refine AO.yld _ (Yld.cmpStr rfl rfl rfl) rfl rfl rfl ?_
  refine AO.nil ?_
  refine AC.cond _ rfl (fun c9 => ?_) (fun c9 => ?_)
  · -- c9 True
    refine AC.seq ?_
    refine AC.region ?_
    refine AO.yld _ (Yld.assign rfl) rfl rfl rfl ?_
    refine AO.nil ?_
    refine Pure.ret Tryd.results54 (RVs.cons (RV.tmp rfl) RVs.nil) rfl ?_
    cases x; cases y; simp_all
  · -- c9 False
    refine AC.skip ?_
    refine AC.seq ?_
    refine AC.seq ?_
    refine AC.region ?_
    refine AO.yld _ (Yld.fieldAddr Tryd.underlying33 rfl rfl Tryd.sizeOf2 rfl rfl rfl) rfl rfl rfl ?_
    refine AO.yld _ (Yld.load Tryd.isAgg2 rfl rfl) rfl rfl rfl ?_
    refine AO.yld _ (Yld.fieldAddr Tryd.underlying33 rfl rfl Tryd.sizeOf2 rfl rfl rfl) rfl rfl rfl ?_
    refine AO.yld _ (Yld.load Tryd.isAgg2 rfl rfl) rfl rfl rfl ?_
    refine AO.yld _ (Yld.int rfl rfl rfl) rfl rfl rfl ?_
    refine AO.nil ?_
    refine AC.cond _ rfl (fun c14 => ?_) (fun c14 => ?_)
    · -- c14 True
      refine AC.seq ?_
      refine AC.region ?_
      refine AO.yld _ (Yld.assign rfl) rfl rfl rfl ?_
      refine AO.nil ?_
      refine Pure.ret Tryd.results54 (RVs.cons (RV.tmp rfl) RVs.nil) rfl ?_
      cases x; cases y; simp_all
    · -- c14 False
      refine AC.skip ?_
      refine AC.seq ?_
      refine AC.seq ?_
      refine AC.region ?_
      refine AO.yld _ (Yld.fieldAddr Tryd.underlying33 rfl rfl Tryd.sizeOf2 rfl rfl rfl) rfl rfl rfl ?_
      refine AO.yld _ (Yld.load Tryd.isAgg2 rfl rfl) rfl rfl rfl ?_
      refine AO.yld _ (Yld.fieldAddr Tryd.underlying33 rfl rfl Tryd.sizeOf2 rfl rfl rfl) rfl rfl rfl ?_
      refine AO.yld _ (Yld.load Tryd.isAgg2 rfl rfl) rfl rfl rfl ?_
      refine AO.yld _ (Yld.int rfl rfl rfl) rfl rfl rfl ?_
      refine AO.nil ?_
      refine AC.cond _ rfl (fun c19 => ?_) (fun c19 => ?_)
      · -- c19 True
        refine AC.seq ?_
        refine AC.region ?_
        refine AO.yld _ (Yld.assign rfl) rfl rfl rfl ?_
        refine AO.nil ?_
        refine Pure.ret Tryd.results54 (RVs.cons (RV.tmp rfl) RVs.nil) rfl ?_
        cases x; cases y; simp_all
      · -- c19 False
        refine AC.skip ?_
        refine AC.seq ?_
        refine AC.region ?_
        refine AO.yld _ (Yld.assign rfl) rfl rfl rfl ?_
        refine AO.nil ?_
        refine Pure.ret Tryd.results54 (RVs.cons (RV.tmp rfl) RVs.nil) rfl ?_
        cases x; cases y; simp_all

theorem laws_szMachine_c {x : Mach} {left : Int} (h0 : 0 ≤ left) (h1 : left ≤ 1048576) (hs : x.name.length ≤ 9223372036854775807) :
    Pure Tryd.prog 29 [.agg (encMach x), .v (.int .i64 left)] (.v (.int .i64 (szOne x.name left))) := by
  refine Pure.intro Tryd.func29 rfl Tryd.ntmps29 rfl rfl (fun w => ?_)
  refine AC.seq ?_
  refine AC.region ?_
  refine AO.box 0 rfl rfl rfl rfl rfl ?_
  refine AO.yld _ (Yld.assign rfl) rfl rfl rfl ?_
  refine AO.nil ?_
  refine AC.seq ?_
  refine AC.region ?_
  refine AO.yld _ (Yld.move rfl) rfl rfl rfl ?_
  refine AO.yld _ (Yld.fieldAddr Tryd.underlying57 rfl rfl Tryd.sizeOf9 rfl rfl rfl) rfl rfl rfl ?_
  refine AO.yld _ (Yld.load Tryd.isAgg9 rfl rfl) rfl rfl rfl ?_
  refine AO.yld _ (Yld.lenStr Tryd.underlying9 rfl) rfl rfl rfl ?_
  refine AO.yld _ (Yld.sub rfl rfl (by omega) (by omega)) rfl rfl rfl ?_
  refine AO.yld _ (Yld.assign rfl) rfl rfl rfl ?_
  refine AO.nil ?_
  refine AC.seq ?_
  refine AC.seq ?_
  refine AC.region ?_
  refine AO.yld _ (Yld.move rfl) rfl rfl rfl ?_
  refine AO.yld _ (Yld.int rfl rfl rfl) rfl rfl rfl ?_
  refine AO.nil ?_
  refine AC.cond _ rfl (fun c11 => ?_) (fun c11 => ?_)
  · -- c11 True
    refine AC.seq ?_
    refine AC.region ?_
    refine AO.yld _ (Yld.assign rfl) rfl rfl rfl ?_
    refine AO.nil ?_
    refine Pure.ret Tryd.results29 (RVs.cons (RV.tmp rfl) RVs.nil) rfl ?_
    simp only [szOne]; split <;> simp_all <;> omega
  · -- c11 False
    refine AC.skip ?_
    refine AC.seq ?_
    refine AC.region ?_
    refine AO.yld _ (Yld.move rfl) rfl rfl rfl ?_
    refine AO.yld _ (Yld.assign rfl) rfl rfl rfl ?_
    refine AO.nil ?_
    refine Pure.ret Tryd.results29 (RVs.cons (RV.tmp rfl) RVs.nil) rfl ?_
    simp only [szOne]; split <;> simp_all <;> omega

theorem laws_toSetting_c {x : NV} :
    Pure Tryd.prog 159 [.agg (encNV x)] (.agg (encNV x)) := by
  refine Pure.intro Tryd.func159 rfl Tryd.ntmps159 rfl rfl (fun w => ?_)
  refine AC.seq ?_
  refine AC.region ?_
  refine AO.box 0 rfl rfl rfl rfl rfl ?_
  refine AO.alloc 1 Tryd.zeroValue146 rfl rfl rfl ?_
  refine AO.nil ?_
  refine AC.seq ?_
  refine AC.region ?_
  refine AO.alloc 2 Tryd.zeroValue146 rfl rfl rfl ?_
  refine AO.nil ?_
  refine AC.seq ?_
  refine AC.region ?_
  refine AO.yld _ (Yld.fieldAddr Tryd.underlying192 rfl rfl Tryd.sizeOf9 rfl rfl rfl) rfl rfl rfl ?_
  refine AO.yld _ (Yld.load Tryd.isAgg9 rfl rfl) rfl rfl rfl ?_
  refine AO.yld _ (Yld.fieldAddr Tryd.underlying146 rfl rfl Tryd.sizeOf9 rfl rfl rfl) rfl rfl rfl ?_
  refine AO.store Tryd.sizeOf9 rfl rfl rfl rfl rfl rfl ?_
  refine AO.nil ?_
  refine AC.seq ?_
  refine AC.region ?_
  refine AO.yld _ (Yld.fieldAddr Tryd.underlying192 rfl rfl Tryd.sizeOf2 rfl rfl rfl) rfl rfl rfl ?_
  refine AO.yld _ (Yld.load Tryd.isAgg2 rfl rfl) rfl rfl rfl ?_
  refine AO.yld _ (Yld.fieldAddr Tryd.underlying146 rfl rfl Tryd.sizeOf2 rfl rfl rfl) rfl rfl rfl ?_
  refine AO.store Tryd.sizeOf2 rfl rfl rfl rfl rfl rfl ?_
  refine AO.nil ?_
  refine AC.seq ?_
  refine AC.region ?_
  refine AO.yld _ (Yld.loadAgg Tryd.isAgg146 Tryd.sizeOf146 rfl rfl rfl rfl) rfl rfl rfl ?_
  refine AO.store Tryd.sizeOf146 rfl rfl rfl rfl rfl rfl ?_
  refine AO.nil ?_
  refine Pure.ret Tryd.results159 (RVs.cons (RV.cell Tryd.isAgg146 Tryd.sizeOf146 rfl rfl rfl rfl) RVs.nil) rfl ?_
  first | rfl | (simp_all; done) | (simp_all; intros; omega) | grind

theorem laws_toSettingS_c {xs : List NV} (hn : xs.length ≤ 1048576) :
    Mk Tryd.prog 101 [.sl 2 (xs.map encNV)] (.h 0) 146 2 (xs.map encNV) := by
  have hM : (xs.map encNV).length = xs.length := List.length_map ..
  refine Mk.intro Tryd.func101 rfl Tryd.ntmps101 rfl rfl (fun w => ?_)
  refine AC.seq ?_
  refine AC.region ?_
  refine AO.yld _ (Yld.assign rfl) rfl rfl rfl ?_
  refine AO.nil ?_
  refine AC.seq ?_
  refine AC.region ?_
  refine AO.yld _ (Yld.move rfl) rfl rfl rfl ?_
  refine AO.yld _ (Yld.len Tryd.underlying67 rfl rfl) rfl rfl rfl ?_
  refine AO.make 0 Tryd.underlying72 ty146 rfl rfl rfl rfl rfl (Nat.le_refl _) (by rw [hM]; omega) (by rw [hM]; omega) rfl rfl ?_
  refine AO.yld _ (Yld.assign rfl) rfl rfl rfl ?_
  refine AO.nil ?_
  refine AC.seq ?_
  refine AC.seq ?_
  refine AC.region ?_
  refine AO.yld _ (Yld.assign rfl) rfl rfl rfl ?_
  refine AO.nil ?_
  refine AC.block ?_
  refine AC.loopC [(0, _), (2, _), (3, _)] [] (fun (k : Nat) => [(4, .p (.v (.int .i64 (k : Int))))]) (fun (k : Nat) => [(0, .vec 146 2 (filled encNV [.v (.string ⟨#[]⟩), .v (.int .i64 0)] xs k))]) (fun (k : Nat) => k ≤ xs.length) (fun (k : Nat) => xs.length - k) 0 ⟨rfl, rfl, rfl, trivial⟩ trivial ⟨rfl, trivial⟩ ⟨by rw [filled_zero, ← hM]; rfl, trivial⟩ ?_ (fun k hJ => ?_)
  · simp
  · -- round
    refine AC.seq ?_
    refine AC.seq ?_
    refine AC.region ?_
    refine AO.yld _ (Yld.move rfl) rfl rfl rfl ?_
    refine AO.yld _ (Yld.move rfl) rfl rfl rfl ?_
    refine AO.yld _ (Yld.len Tryd.underlying67 rfl rfl) rfl rfl rfl ?_
    refine AO.yld _ (Yld.int rfl rfl rfl) rfl rfl rfl ?_
    refine AO.nil ?_
    refine AC.cond _ rfl (fun c11 => ?_) (fun c11 => ?_)
    · -- c11 True
      have hk := lt_of_decM c11
      obtain ⟨x, hx⟩ := get_some hk
      have hrow := map_row (enc := encNV) hx
      refine AC.skip ?_
      refine AC.seq ?_
      refine AC.block ?_
      refine AC.region ?_
      refine AO.yld _ (Yld.move rfl) rfl rfl rfl ?_
      refine AO.yld _ (Yld.move rfl) rfl rfl rfl ?_
      refine AO.yld _ (Yld.move rfl) rfl rfl rfl ?_
      refine AO.yld _ (Yld.move rfl) rfl rfl rfl ?_
      refine AO.yld _ (Yld.indexSl Tryd.underlying67 Tryd.sizeOf192 rfl rfl hrow rfl) rfl rfl rfl ?_
      refine AO.yld _ (Yld.loadAgg Tryd.isAgg192 Tryd.sizeOf192 rfl rfl rfl rfl) rfl rfl rfl ?_
      refine AO.yld _ (Yld.call rfl rfl Tryd.call159 rfl rfl rfl (laws_toSetting_c) rfl) rfl rfl rfl ?_
      refine AO.yld _ (Yld.indexVec Tryd.underlying72 Tryd.sizeOf146 rfl rfl rfl rfl (by rw [filled_length (by omega)]; exact hk)) rfl rfl rfl ?_
      refine AO.store Tryd.sizeOf146 rfl rfl rfl rfl rfl (store_el rfl (filled_get hk) rfl rfl) ?_
      refine AO.nil ?_
      refine AC.mark ?_
      refine AC.region ?_
      refine AO.yld _ (Yld.move rfl) rfl rfl rfl ?_
      refine AO.yld _ (Yld.add rfl rfl (by omega) (by omega)) rfl rfl rfl ?_
      refine AO.yld _ (Yld.assign rfl) rfl rfl rfl ?_
      refine AO.nil ?_
      refine AC.back ⟨k + 1, ?_, ?_, ⟨?_, trivial⟩, ⟨?_, trivial⟩, ⟨rfl, rfl, rfl, trivial⟩, trivial⟩
      · omega
      · omega
      · rfl
      · rw [← filled_set hx]; rfl
    · -- c11 False
      obtain rfl : k = xs.length := by have := ge_of_decM c11; omega
      refine AC.exit rfl ?_
      refine AC.seq ?_
      refine AC.region ?_
      refine AO.yld _ (Yld.move rfl) rfl rfl rfl ?_
      refine AO.yld _ (Yld.assign rfl) rfl rfl rfl ?_
      refine AO.nil ?_
      refine Mk.ret 0 Tryd.results101 (RVs.cons (RV.tmp rfl) RVs.nil) rfl rfl ?_
      exact filled_end

theorem laws_eqSetting_c {x y : NV} :
    Pure Tryd.prog 160 [.agg (encNV x), .agg (encNV y)] (.v (.bool (decide (x = y)))) := by
  refine Pure.intro Tryd.func160 rfl Tryd.ntmps160 rfl rfl (fun w => ?_)
  refine AC.seq ?_
  refine AC.region ?_
  refine AO.box 0 rfl rfl rfl rfl rfl ?_
  refine AO.box 1 rfl rfl rfl rfl rfl ?_
  refine AO.yld _ (Yld.assign rfl) rfl rfl rfl ?_
  refine AO.nil ?_
  refine AC.seq ?_
  refine AC.seq ?_
  refine AC.region ?_
  refine AO.yld _ (Yld.fieldAddr Tryd.underlying146 rfl rfl Tryd.sizeOf9 rfl rfl rfl) rfl rfl rfl ?_
  refine AO.yld _ (Yld.load Tryd.isAgg9 rfl rfl) rfl rfl rfl ?_
  refine AO.yld _ (Yld.fieldAddr Tryd.underlying146 rfl rfl Tryd.sizeOf9 rfl rfl rfl) rfl rfl rfl ?_
  refine AO.yld _ (Yld.load Tryd.isAgg9 rfl rfl) rfl rfl rfl ?_
  refine AO.yld _ (Yld.cmpStr rfl rfl rfl) rfl rfl rfl ?_
  refine AO.nil ?_
  refine AC.cond _ rfl (fun c9 => ?_) (fun c9 => ?_)
  · -- c9 True
    refine AC.seq ?_
    refine AC.region ?_
    refine AO.yld _ (Yld.assign rfl) rfl rfl rfl ?_
    refine AO.nil ?_
    refine Pure.ret Tryd.results160 (RVs.cons (RV.tmp rfl) RVs.nil) rfl ?_
    cases x; cases y; simp_all
  · -- c9 False
    refine AC.skip ?_
    refine AC.seq ?_
    refine AC.seq ?_
    refine AC.region ?_
    refine AO.yld _ (Yld.fieldAddr Tryd.underlying146 rfl rfl Tryd.sizeOf2 rfl rfl rfl) rfl rfl rfl ?_
    refine AO.yld _ (Yld.load Tryd.isAgg2 rfl rfl) rfl rfl rfl ?_
    refine AO.yld _ (Yld.fieldAddr Tryd.underlying146 rfl rfl Tryd.sizeOf2 rfl rfl rfl) rfl rfl rfl ?_
    refine AO.yld _ (Yld.load Tryd.isAgg2 rfl rfl) rfl rfl rfl ?_
    refine AO.yld _ (Yld.int rfl rfl rfl) rfl rfl rfl ?_
    refine AO.nil ?_
    refine AC.cond _ rfl (fun c14 => ?_) (fun c14 => ?_)
    · -- c14 True
      refine AC.seq ?_
      refine AC.region ?_
      refine AO.yld _ (Yld.assign rfl) rfl rfl rfl ?_
      refine AO.nil ?_
      refine Pure.ret Tryd.results160 (RVs.cons (RV.tmp rfl) RVs.nil) rfl ?_
      cases x; cases y; simp_all
    · -- c14 False
      refine AC.skip ?_
      refine AC.seq ?_
      refine AC.region ?_
      refine AO.yld _ (Yld.assign rfl) rfl rfl rfl ?_
      refine AO.nil ?_
      refine Pure.ret Tryd.results160 (RVs.cons (RV.tmp rfl) RVs.nil) rfl ?_
      cases x; cases y; simp_all

theorem laws_eqSettingS_c {xs ys : List NV} (hn : xs.length ≤ 1048576) :
    Pure Tryd.prog 104 [.sl 2 (xs.map encNV), .sl 2 (ys.map encNV)] (.v (.bool (decide (xs = ys)))) := by
  refine Pure.intro Tryd.func104 rfl Tryd.ntmps104 rfl rfl (fun w => ?_)
  refine AC.seq ?_
  refine AC.region ?_
  refine AO.yld _ (Yld.assign rfl) rfl rfl rfl ?_
  refine AO.nil ?_
  refine AC.seq ?_
  refine AC.seq ?_
  refine AC.region ?_
  refine AO.yld _ (Yld.move rfl) rfl rfl rfl ?_
  refine AO.yld _ (Yld.len Tryd.underlying72 rfl rfl) rfl rfl rfl ?_
  refine AO.yld _ (Yld.move rfl) rfl rfl rfl ?_
  refine AO.yld _ (Yld.len Tryd.underlying72 rfl rfl) rfl rfl rfl ?_
  refine AO.yld _ (Yld.int rfl rfl rfl) rfl rfl rfl ?_
  refine AO.nil ?_
  refine AC.cond _ rfl (fun c10 => ?_) (fun c10 => ?_)
  · -- c10 True
    have hl : xs.length ≠ ys.length := by have h := c10; simp only [List.length_map, bne_iff_ne, ne_eq] at h; omega
    refine AC.seq ?_
    refine AC.region ?_
    refine AO.yld _ (Yld.assign rfl) rfl rfl rfl ?_
    refine AO.nil ?_
    refine Pure.ret Tryd.results104 (RVs.cons (RV.tmp rfl) RVs.nil) rfl ?_
    first
      | (exact congrArg (fun b => PV.v (.bool b)) (decide_eq_false (fun e => hl (congrArg List.length e))).symm)
      | (refine congrArg (fun b => PV.v (.bool b)) (decide_eq_false (fun e => ?_)).symm; subst e; rw [hx] at hy; simp_all)
      | (refine congrArg (fun b => PV.v (.bool b)) (decide_eq_true ?_).symm; have := hJ.2; rw [List.take_of_length_le (Nat.le_refl _), List.take_of_length_le (by omega)] at this; exact this)
  · -- c10 False
    have hl : xs.length = ys.length := by have h := c10; simp only [List.length_map, bne_eq_false_iff_eq] at h; omega
    refine AC.skip ?_
    refine AC.seq ?_
    refine AC.seq ?_
    refine AC.region ?_
    refine AO.yld _ (Yld.assign rfl) rfl rfl rfl ?_
    refine AO.nil ?_
    refine AC.block ?_
    refine AC.loopC [(0, _), (1, _)] [] (fun (k : Nat) => [(5, .p (.v (.int .i64 (k : Int))))]) (fun (k : Nat) => []) (fun (k : Nat) => k ≤ xs.length ∧ xs.take k = ys.take k) (fun (k : Nat) => xs.length - k) 0 ⟨rfl, rfl, trivial⟩ trivial ⟨rfl, trivial⟩ trivial ?_ (fun k hJ => ?_)
    · simp
    · -- round
      refine AC.seq ?_
      refine AC.seq ?_
      refine AC.region ?_
      refine AO.yld _ (Yld.move rfl) rfl rfl rfl ?_
      refine AO.yld _ (Yld.move rfl) rfl rfl rfl ?_
      refine AO.yld _ (Yld.len Tryd.underlying72 rfl rfl) rfl rfl rfl ?_
      refine AO.yld _ (Yld.int rfl rfl rfl) rfl rfl rfl ?_
      refine AO.nil ?_
      refine AC.cond _ rfl (fun c14 => ?_) (fun c14 => ?_)
      · -- c14 True
        have hk := lt_of_decM c14
        obtain ⟨x, hx⟩ := get_some hk
        have hrow := map_row (enc := encNV) hx
        obtain ⟨y, hy⟩ := get_some (xs := ys) (k := k) (by omega)
        have hrow2 := map_row (enc := encNV) hy
        refine AC.skip ?_
        refine AC.seq ?_
        refine AC.block ?_
        refine AC.seq ?_
        refine AC.draw (by kernel_rfl) (by kernel_rfl) ?_
        refine AO.yld _ (Yld.move rfl) rfl rfl rfl ?_
        refine AO.yld _ (Yld.move rfl) rfl rfl rfl ?_
        refine AO.yld _ (Yld.indexSl Tryd.underlying72 Tryd.sizeOf146 rfl rfl hrow rfl) rfl rfl rfl ?_
        refine AO.yld _ (Yld.loadAgg Tryd.isAgg146 Tryd.sizeOf146 rfl rfl rfl rfl) rfl rfl rfl ?_
        refine AO.yld _ (Yld.move rfl) rfl rfl rfl ?_
        refine AO.yld _ (Yld.move rfl) rfl rfl rfl ?_
        refine AO.yld _ (Yld.indexSl Tryd.underlying72 Tryd.sizeOf146 rfl rfl hrow2 rfl) rfl rfl rfl ?_
        refine AO.yld _ (Yld.loadAgg Tryd.isAgg146 Tryd.sizeOf146 rfl rfl rfl rfl) rfl rfl rfl ?_
        refine AO.yld _ (Yld.call rfl rfl Tryd.call160 rfl rfl rfl (laws_eqSetting_c) rfl) rfl rfl rfl ?_
        refine AO.yld _ (Yld.not rfl) rfl rfl rfl ?_
        refine AO.nil ?_
        refine AC.cond _ rfl (fun c26 => ?_) (fun c26 => ?_)
        · -- c26 True
          refine AC.seq ?_
          refine AC.region ?_
          refine AO.yld _ (Yld.assign rfl) rfl rfl rfl ?_
          refine AO.nil ?_
          refine Pure.ret Tryd.results104 (RVs.cons (RV.tmp rfl) RVs.nil) rfl ?_
          first
            | (exact congrArg (fun b => PV.v (.bool b)) (decide_eq_false (fun e => hl (congrArg List.length e))).symm)
            | (refine congrArg (fun b => PV.v (.bool b)) (decide_eq_false (fun e => ?_)).symm; subst e; rw [hx] at hy; simp_all)
            | (refine congrArg (fun b => PV.v (.bool b)) (decide_eq_true ?_).symm; have := hJ.2; rw [List.take_of_length_le (Nat.le_refl _), List.take_of_length_le (by omega)] at this; exact this)
        · -- c26 False
          refine AC.skip ?_
          refine AC.mark ?_
          refine AC.region ?_
          refine AO.yld _ (Yld.move rfl) rfl rfl rfl ?_
          refine AO.yld _ (Yld.add rfl rfl (by omega) (by omega)) rfl rfl rfl ?_
          refine AO.yld _ (Yld.assign rfl) rfl rfl rfl ?_
          refine AO.nil ?_
          refine AC.back ⟨k + 1, ?_, ?_, ⟨?_, trivial⟩, trivial, ⟨rfl, rfl, trivial⟩, trivial⟩
          · exact ⟨hk, by rw [take_snoc hx, take_snoc hy, hJ.2, show x = y by simpa using c26]⟩
          · omega
          · rfl
      · -- c14 False
        obtain rfl : k = xs.length := by have := ge_of_decM c14; omega
        refine AC.exit rfl ?_
        refine AC.seq ?_
        refine AC.region ?_
        refine AO.yld _ (Yld.assign rfl) rfl rfl rfl ?_
        refine AO.nil ?_
        refine Pure.ret Tryd.results104 (RVs.cons (RV.tmp rfl) RVs.nil) rfl ?_
        first
          | (exact congrArg (fun b => PV.v (.bool b)) (decide_eq_false (fun e => hl (congrArg List.length e))).symm)
          | (refine congrArg (fun b => PV.v (.bool b)) (decide_eq_false (fun e => ?_)).symm; subst e; rw [hx] at hy; simp_all)
          | (refine congrArg (fun b => PV.v (.bool b)) (decide_eq_true ?_).symm; have := hJ.2; rw [List.take_of_length_le (Nat.le_refl _), List.take_of_length_le (by omega)] at this; exact this)

theorem laws_szSetting_c {x : NV} {left : Int} (h0 : 0 ≤ left) (h1 : left ≤ 1048576) (hs : x.name.length ≤ 9223372036854775807) :
    Pure Tryd.prog 157 [.agg (encNV x), .v (.int .i64 left)] (.v (.int .i64 (szOne x.name left))) := by
  refine Pure.intro Tryd.func157 rfl Tryd.ntmps157 rfl rfl (fun w => ?_)
  refine AC.seq ?_
  refine AC.region ?_
  refine AO.box 0 rfl rfl rfl rfl rfl ?_
  refine AO.yld _ (Yld.assign rfl) rfl rfl rfl ?_
  refine AO.nil ?_
  refine AC.seq ?_
  refine AC.region ?_
  refine AO.yld _ (Yld.move rfl) rfl rfl rfl ?_
  refine AO.yld _ (Yld.fieldAddr Tryd.underlying192 rfl rfl Tryd.sizeOf9 rfl rfl rfl) rfl rfl rfl ?_
  refine AO.yld _ (Yld.load Tryd.isAgg9 rfl rfl) rfl rfl rfl ?_
  refine AO.yld _ (Yld.lenStr Tryd.underlying9 rfl) rfl rfl rfl ?_
  refine AO.yld _ (Yld.sub rfl rfl (by omega) (by omega)) rfl rfl rfl ?_
  refine AO.yld _ (Yld.assign rfl) rfl rfl rfl ?_
  refine AO.nil ?_
  refine AC.seq ?_
  refine AC.seq ?_
  refine AC.region ?_
  refine AO.yld _ (Yld.move rfl) rfl rfl rfl ?_
  refine AO.yld _ (Yld.int rfl rfl rfl) rfl rfl rfl ?_
  refine AO.nil ?_
  refine AC.cond _ rfl (fun c11 => ?_) (fun c11 => ?_)
  · -- c11 True
    refine AC.seq ?_
    refine AC.region ?_
    refine AO.yld _ (Yld.assign rfl) rfl rfl rfl ?_
    refine AO.nil ?_
    refine Pure.ret Tryd.results157 (RVs.cons (RV.tmp rfl) RVs.nil) rfl ?_
    simp only [szOne]; split <;> simp_all <;> omega
  · -- c11 False
    refine AC.skip ?_
    refine AC.seq ?_
    refine AC.region ?_
    refine AO.yld _ (Yld.move rfl) rfl rfl rfl ?_
    refine AO.yld _ (Yld.assign rfl) rfl rfl rfl ?_
    refine AO.nil ?_
    refine Pure.ret Tryd.results157 (RVs.cons (RV.tmp rfl) RVs.nil) rfl ?_
    simp only [szOne]; split <;> simp_all <;> omega

theorem laws_toMedia_c {x : NV} :
    Pure Tryd.prog 27 [.agg (encNV x)] (.agg (encNV x)) := by
  refine Pure.intro Tryd.func27 rfl Tryd.ntmps27 rfl rfl (fun w => ?_)
  refine AC.seq ?_
  refine AC.region ?_
  refine AO.box 0 rfl rfl rfl rfl rfl ?_
  refine AO.alloc 1 Tryd.zeroValue54 rfl rfl rfl ?_
  refine AO.nil ?_
  refine AC.seq ?_
  refine AC.region ?_
  refine AO.alloc 2 Tryd.zeroValue54 rfl rfl rfl ?_
  refine AO.nil ?_
  refine AC.seq ?_
  refine AC.region ?_
  refine AO.yld _ (Yld.fieldAddr Tryd.underlying51 rfl rfl Tryd.sizeOf9 rfl rfl rfl) rfl rfl rfl ?_
  refine AO.yld _ (Yld.load Tryd.isAgg9 rfl rfl) rfl rfl rfl ?_
  refine AO.yld _ (Yld.fieldAddr Tryd.underlying54 rfl rfl Tryd.sizeOf9 rfl rfl rfl) rfl rfl rfl ?_
  refine AO.store Tryd.sizeOf9 rfl rfl rfl rfl rfl rfl ?_
  refine AO.nil ?_
  refine AC.seq ?_
  refine AC.region ?_
  refine AO.yld _ (Yld.fieldAddr Tryd.underlying51 rfl rfl Tryd.sizeOf2 rfl rfl rfl) rfl rfl rfl ?_
  refine AO.yld _ (Yld.load Tryd.isAgg2 rfl rfl) rfl rfl rfl ?_
  refine AO.yld _ (Yld.fieldAddr Tryd.underlying54 rfl rfl Tryd.sizeOf2 rfl rfl rfl) rfl rfl rfl ?_
  refine AO.store Tryd.sizeOf2 rfl rfl rfl rfl rfl rfl ?_
  refine AO.nil ?_
  refine AC.seq ?_
  refine AC.region ?_
  refine AO.yld _ (Yld.loadAgg Tryd.isAgg54 Tryd.sizeOf54 rfl rfl rfl rfl) rfl rfl rfl ?_
  refine AO.store Tryd.sizeOf54 rfl rfl rfl rfl rfl rfl ?_
  refine AO.nil ?_
  refine Pure.ret Tryd.results27 (RVs.cons (RV.cell Tryd.isAgg54 Tryd.sizeOf54 rfl rfl rfl rfl) RVs.nil) rfl ?_
  first | rfl | (simp_all; done) | (simp_all; intros; omega) | grind

theorem laws_eqMedia_c {x y : NV} :
    Pure Tryd.prog 49 [.agg (encNV x), .agg (encNV y)] (.v (.bool (decide (x = y)))) := by
  refine Pure.intro Tryd.func49 rfl Tryd.ntmps49 rfl rfl (fun w => ?_)
  refine AC.seq ?_
  refine AC.region ?_
  refine AO.box 0 rfl rfl rfl rfl rfl ?_
  refine AO.box 1 rfl rfl rfl rfl rfl ?_
  refine AO.yld _ (Yld.assign rfl) rfl rfl rfl ?_
  refine AO.nil ?_
  refine AC.seq ?_
  refine AC.seq ?_
  refine AC.region ?_
  refine AO.yld _ (Yld.fieldAddr Tryd.underlying54 rfl rfl Tryd.sizeOf9 rfl rfl rfl) rfl rfl rfl ?_
  refine AO.yld _ (Yld.load Tryd.isAgg9 rfl rfl) rfl rfl rfl ?_
  refine AO.yld _ (Yld.fieldAddr Tryd.underlying54 rfl rfl Tryd.sizeOf9 rfl rfl rfl) rfl rfl rfl ?_
  refine AO.yld _ (Yld.load Tryd.isAgg9 rfl rfl) rfl rfl rfl ?_
  refine AO.yld _ (Yld.cmpStr rfl rfl rfl) rfl rfl rfl ?_
  refine AO.nil ?_
  refine AC.cond _ rfl (fun c9 => ?_) (fun c9 => ?_)
  · -- c9 True
    refine AC.seq ?_
    refine AC.region ?_
    refine AO.yld _ (Yld.assign rfl) rfl rfl rfl ?_
    refine AO.nil ?_
    refine Pure.ret Tryd.results49 (RVs.cons (RV.tmp rfl) RVs.nil) rfl ?_
    cases x; cases y; simp_all
  · -- c9 False
    refine AC.skip ?_
    refine AC.seq ?_
    refine AC.seq ?_
    refine AC.region ?_
    refine AO.yld _ (Yld.fieldAddr Tryd.underlying54 rfl rfl Tryd.sizeOf2 rfl rfl rfl) rfl rfl rfl ?_
    refine AO.yld _ (Yld.load Tryd.isAgg2 rfl rfl) rfl rfl rfl ?_
    refine AO.yld _ (Yld.fieldAddr Tryd.underlying54 rfl rfl Tryd.sizeOf2 rfl rfl rfl) rfl rfl rfl ?_
    refine AO.yld _ (Yld.load Tryd.isAgg2 rfl rfl) rfl rfl rfl ?_
    refine AO.yld _ (Yld.int rfl rfl rfl) rfl rfl rfl ?_
    refine AO.nil ?_
    refine AC.cond _ rfl (fun c14 => ?_) (fun c14 => ?_)
    · -- c14 True
      refine AC.seq ?_
      refine AC.region ?_
      refine AO.yld _ (Yld.assign rfl) rfl rfl rfl ?_
      refine AO.nil ?_
      refine Pure.ret Tryd.results49 (RVs.cons (RV.tmp rfl) RVs.nil) rfl ?_
      cases x; cases y; simp_all
    · -- c14 False
      refine AC.skip ?_
      refine AC.seq ?_
      refine AC.region ?_
      refine AO.yld _ (Yld.assign rfl) rfl rfl rfl ?_
      refine AO.nil ?_
      refine Pure.ret Tryd.results49 (RVs.cons (RV.tmp rfl) RVs.nil) rfl ?_
      cases x; cases y; simp_all

theorem laws_szMedia_c {x : NV} {left : Int} (h0 : 0 ≤ left) (h1 : left ≤ 1048576) (hs : x.name.length ≤ 9223372036854775807) :
    Pure Tryd.prog 25 [.agg (encNV x), .v (.int .i64 left)] (.v (.int .i64 (szOne x.name left))) := by
  refine Pure.intro Tryd.func25 rfl Tryd.ntmps25 rfl rfl (fun w => ?_)
  refine AC.seq ?_
  refine AC.region ?_
  refine AO.box 0 rfl rfl rfl rfl rfl ?_
  refine AO.yld _ (Yld.assign rfl) rfl rfl rfl ?_
  refine AO.nil ?_
  refine AC.seq ?_
  refine AC.region ?_
  refine AO.yld _ (Yld.move rfl) rfl rfl rfl ?_
  refine AO.yld _ (Yld.fieldAddr Tryd.underlying51 rfl rfl Tryd.sizeOf9 rfl rfl rfl) rfl rfl rfl ?_
  refine AO.yld _ (Yld.load Tryd.isAgg9 rfl rfl) rfl rfl rfl ?_
  refine AO.yld _ (Yld.lenStr Tryd.underlying9 rfl) rfl rfl rfl ?_
  refine AO.yld _ (Yld.sub rfl rfl (by omega) (by omega)) rfl rfl rfl ?_
  refine AO.yld _ (Yld.assign rfl) rfl rfl rfl ?_
  refine AO.nil ?_
  refine AC.seq ?_
  refine AC.seq ?_
  refine AC.region ?_
  refine AO.yld _ (Yld.move rfl) rfl rfl rfl ?_
  refine AO.yld _ (Yld.int rfl rfl rfl) rfl rfl rfl ?_
  refine AO.nil ?_
  refine AC.cond _ rfl (fun c11 => ?_) (fun c11 => ?_)
  · -- c11 True
    refine AC.seq ?_
    refine AC.region ?_
    refine AO.yld _ (Yld.assign rfl) rfl rfl rfl ?_
    refine AO.nil ?_
    refine Pure.ret Tryd.results25 (RVs.cons (RV.tmp rfl) RVs.nil) rfl ?_
    simp only [szOne]; split <;> simp_all <;> omega
  · -- c11 False
    refine AC.skip ?_
    refine AC.seq ?_
    refine AC.region ?_
    refine AO.yld _ (Yld.move rfl) rfl rfl rfl ?_
    refine AO.yld _ (Yld.assign rfl) rfl rfl rfl ?_
    refine AO.nil ?_
    refine Pure.ret Tryd.results25 (RVs.cons (RV.tmp rfl) RVs.nil) rfl ?_
    simp only [szOne]; split <;> simp_all <;> omega

theorem laws_szSettingS_c {xs : List NV} {left : Int} (h0 : 0 ≤ left) (h1 : left ≤ 1048576) (hn : xs.length ≤ 9223372036854775807) (hs : ∀ x ∈ xs, (x.name).length ≤ 9223372036854775807) :
    Pure Tryd.prog 96 [.sl 2 (xs.map encNV), .v (.int .i64 left)] (.v (.int .i64 (szAll (NV.name) xs left))) := by
  refine Pure.intro Tryd.func96 rfl Tryd.ntmps96 rfl rfl (fun w => ?_)
  refine AC.seq ?_
  refine AC.region ?_
  refine AO.yld _ (Yld.assign rfl) rfl rfl rfl ?_
  refine AO.nil ?_
  refine AC.seq ?_
  refine AC.region ?_
  refine AO.yld _ (Yld.move rfl) rfl rfl rfl ?_
  refine AO.yld _ (Yld.move rfl) rfl rfl rfl ?_
  refine AO.yld _ (Yld.len Tryd.underlying67 rfl rfl) rfl rfl rfl ?_
  refine AO.yld _ (Yld.sub rfl rfl (by simp only [List.length_map]; omega) (by simp only [List.length_map]; omega)) rfl rfl rfl ?_
  refine AO.yld _ (Yld.assign rfl) rfl rfl rfl ?_
  refine AO.nil ?_
  refine AC.seq ?_
  refine AC.seq ?_
  refine AC.region ?_
  refine AO.yld _ (Yld.move rfl) rfl rfl rfl ?_
  refine AO.yld _ (Yld.int rfl rfl rfl) rfl rfl rfl ?_
  refine AO.nil ?_
  refine AC.cond _ rfl (fun c11 => ?_) (fun c11 => ?_)
  · -- c11 True
    refine AC.seq ?_
    refine AC.region ?_
    refine AO.yld _ (Yld.assign rfl) rfl rfl rfl ?_
    refine AO.nil ?_
    refine Pure.ret Tryd.results96 (RVs.cons (RV.tmp rfl) RVs.nil) rfl ?_
    first
      | (refine ci ?_; have h := c11; have hl := lens_nonneg (f := (NV.name)) (xs := xs); simp only [List.length_map, decide_eq_true_eq] at h; unfold szAll; rw [if_pos (by omega)])
      | (refine ci ?_; have h := szOne_lt c25; unfold szAll; rw [if_pos (by omega)])
      | (refine ci ?_; rw [lensTo_all] at hJ ⊢; unfold szAll; rw [if_neg (by omega)])
  · -- c11 False
    refine AC.skip ?_
    refine AC.seq ?_
    refine AC.seq ?_
    refine AC.region ?_
    refine AO.yld _ (Yld.assign rfl) rfl rfl rfl ?_
    refine AO.nil ?_
    refine AC.block ?_
    refine AC.loopC [(0, _)] [] (fun (k : Nat) => [(5, .p (.v (.int .i64 (k : Int)))), (1, .p (.v (.int .i64 (left - xs.length - lensTo (NV.name) xs k))))]) (fun (k : Nat) => []) (fun (k : Nat) => k ≤ xs.length ∧ 0 ≤ left - xs.length - lensTo (NV.name) xs k) (fun (k : Nat) => xs.length - k) 0 ⟨rfl, trivial⟩ trivial ⟨rfl, by show some (AV.p (PV.v (Value.int IntKind.i64 _))) = _; simp only [List.length_map, lensTo_zero, Int.sub_zero], trivial⟩ trivial ?_ (fun k hJ => ?_)
    · refine ⟨Nat.zero_le _, ?_⟩; rw [lensTo_zero]; simp only [List.length_map, decide_eq_false_iff_not] at c11; omega
    · -- round
      refine AC.seq ?_
      refine AC.seq ?_
      refine AC.region ?_
      refine AO.yld _ (Yld.move rfl) rfl rfl rfl ?_
      refine AO.yld _ (Yld.move rfl) rfl rfl rfl ?_
      refine AO.yld _ (Yld.len Tryd.underlying67 rfl rfl) rfl rfl rfl ?_
      refine AO.yld _ (Yld.int rfl rfl rfl) rfl rfl rfl ?_
      refine AO.nil ?_
      refine AC.cond _ rfl (fun c15 => ?_) (fun c15 => ?_)
      · -- c15 True
        have hk := lt_of_decM c15
        obtain ⟨x, hx⟩ := get_some hk
        have hrow := map_row (enc := encNV) hx
        have hsx := hs x (List.mem_of_getElem? hx)
        have hle := lens_ge (f := (NV.name)) (xs := xs) (k + 1)
        rw [lensTo_succ hx] at hle
        have hnn := lensTo_nonneg (f := (NV.name)) (xs := xs) (k := k)
        refine AC.skip ?_
        refine AC.seq ?_
        refine AC.block ?_
        refine AC.seq ?_
        refine AC.region ?_
        refine AO.yld _ (Yld.move rfl) rfl rfl rfl ?_
        refine AO.yld _ (Yld.move rfl) rfl rfl rfl ?_
        refine AO.yld _ (Yld.indexSl Tryd.underlying67 Tryd.sizeOf192 rfl rfl hrow rfl) rfl rfl rfl ?_
        refine AO.yld _ (Yld.loadAgg Tryd.isAgg192 Tryd.sizeOf192 rfl rfl rfl rfl) rfl rfl rfl ?_
        refine AO.yld _ (Yld.move rfl) rfl rfl rfl ?_
        refine AO.yld _ (Yld.call rfl rfl Tryd.call157 rfl rfl rfl (laws_szSetting_c (by omega) (by omega) (by first | assumption | omega)) rfl) rfl rfl rfl ?_
        refine AO.yld _ (Yld.assign rfl) rfl rfl rfl ?_
        refine AO.nil ?_
        refine AC.seq ?_
        refine AC.region ?_
        refine AO.yld _ (Yld.move rfl) rfl rfl rfl ?_
        refine AO.yld _ (Yld.int rfl rfl rfl) rfl rfl rfl ?_
        refine AO.nil ?_
        refine AC.cond _ rfl (fun c25 => ?_) (fun c25 => ?_)
        · -- c25 True
          refine AC.seq ?_
          refine AC.region ?_
          refine AO.yld _ (Yld.assign rfl) rfl rfl rfl ?_
          refine AO.nil ?_
          refine Pure.ret Tryd.results96 (RVs.cons (RV.tmp rfl) RVs.nil) rfl ?_
          first
            | (refine ci ?_; have h := c11; have hl := lens_nonneg (f := (NV.name)) (xs := xs); simp only [List.length_map, decide_eq_true_eq] at h; unfold szAll; rw [if_pos (by omega)])
            | (refine ci ?_; have h := szOne_lt c25; unfold szAll; rw [if_pos (by omega)])
            | (refine ci ?_; rw [lensTo_all] at hJ ⊢; unfold szAll; rw [if_neg (by omega)])
        · -- c25 False
          refine AC.skip ?_
          refine AC.mark ?_
          refine AC.region ?_
          refine AO.yld _ (Yld.move rfl) rfl rfl rfl ?_
          refine AO.yld _ (Yld.add rfl rfl (by omega) (by omega)) rfl rfl rfl ?_
          refine AO.yld _ (Yld.assign rfl) rfl rfl rfl ?_
          refine AO.nil ?_
          refine AC.back ⟨k + 1, ?_, ?_, ⟨?_, ?_, trivial⟩, trivial, ⟨rfl, trivial⟩, trivial⟩
          · refine ⟨hk, ?_⟩; rw [lensTo_succ hx]; have h := szOne_ge c25; omega
          · omega
          · rfl
          · show some (AV.p (PV.v (Value.int IntKind.i64 _))) = _; rw [lensTo_succ hx, (szOne_ge c25).1]; congr 4; omega
      · -- c15 False
        obtain rfl : k = xs.length := by have := ge_of_decM c15; omega
        refine AC.exit rfl ?_
        refine AC.seq ?_
        refine AC.region ?_
        refine AO.yld _ (Yld.move rfl) rfl rfl rfl ?_
        refine AO.yld _ (Yld.assign rfl) rfl rfl rfl ?_
        refine AO.nil ?_
        refine Pure.ret Tryd.results96 (RVs.cons (RV.tmp rfl) RVs.nil) rfl ?_
        first
          | (refine ci ?_; have h := c11; have hl := lens_nonneg (f := (NV.name)) (xs := xs); simp only [List.length_map, decide_eq_true_eq] at h; unfold szAll; rw [if_pos (by omega)])
          | (refine ci ?_; have h := szOne_lt c25; unfold szAll; rw [if_pos (by omega)])
          | (refine ci ?_; rw [lensTo_all] at hJ ⊢; unfold szAll; rw [if_neg (by omega)])

theorem spec_l26Time_c {n : Int} :
    Pure Tryd.prog 152 [.v (.int .i64 n)] (.v (.bool (decide (0 ≤ n) && decide (n ≤ 1000000000)))) := by
  refine Pure.intro Tryd.func152 rfl Tryd.ntmps152 rfl rfl (fun w => ?_)
  refine AC.seq ?_
  refine AC.region ?_
  refine AO.yld _ (Yld.assign rfl) rfl rfl rfl ?_
  refine AO.nil ?_
  refine AC.seq ?_
  refine AC.region ?_
  refine AO.yld _ (Yld.move rfl) rfl rfl rfl ?_
  refine AO.yld _ (Yld.call rfl rfl Tryd.call97 rfl rfl rfl (spec_l00In_c) rfl) rfl rfl rfl ?_
  refine AO.yld _ (Yld.assign rfl) rfl rfl rfl ?_
  refine AO.nil ?_
  refine Pure.ret Tryd.results152 (RVs.cons (RV.tmp rfl) RVs.nil) rfl ?_
  first | rfl | (simp_all; done) | (simp_all; intros; omega) | grind

theorem impl_ValidSample_c {s o b : Int} :
    Pure Tryd.prog 79 [.agg [.v (.int .i64 s), .v (.int .i64 o), .v (.int .i64 b)]] (.v (.bool (sampleB s o b))) := by
  refine Pure.intro Tryd.func79 rfl Tryd.ntmps79 rfl rfl (fun w => ?_)
  refine AC.seq ?_
  refine AC.region ?_
  refine AO.box 0 rfl rfl rfl rfl rfl ?_
  refine AO.yld _ (Yld.assign rfl) rfl rfl rfl ?_
  refine AO.nil ?_
  refine AC.seq ?_
  refine AC.region ?_
  refine AO.yld _ (Yld.fieldAddr Tryd.underlying45 rfl rfl Tryd.sizeOf2 rfl rfl rfl) rfl rfl rfl ?_
  refine AO.yld _ (Yld.load Tryd.isAgg2 rfl rfl) rfl rfl rfl ?_
  refine AO.yld _ (Yld.call rfl rfl Tryd.call80 rfl rfl rfl (impl_within_c) rfl) rfl rfl rfl ?_
  refine AO.yld _ (Yld.move rfl) rfl rfl rfl ?_
  refine AO.splitAt 6 _ rfl (fun s6 => ?_) (fun s6 => ?_)
  · -- s6 True
    refine AO.yldG _ (Yld.fieldAddr Tryd.underlying45 rfl rfl Tryd.sizeOf2 rfl rfl rfl) rfl rfl rfl rfl rfl ?_
    refine AO.yldG _ (Yld.load Tryd.isAgg2 rfl rfl) rfl rfl rfl rfl rfl ?_
    refine AO.yldG _ (Yld.fieldAddr Tryd.underlying45 rfl rfl Tryd.sizeOf2 rfl rfl rfl) rfl rfl rfl rfl rfl ?_
    refine AO.yldG _ (Yld.load Tryd.isAgg2 rfl rfl) rfl rfl rfl rfl rfl ?_
    refine AO.yldG _ (Yld.call rfl rfl Tryd.call80 rfl rfl rfl (impl_within_c) rfl) rfl rfl rfl rfl rfl ?_
    refine AO.yld _ (Yld.pickT rfl rfl) rfl rfl rfl ?_
    refine AO.yld _ (Yld.move rfl) rfl rfl rfl ?_
    refine AO.splitAt 13 _ rfl (fun s13 => ?_) (fun s13 => ?_)
    · -- s13 True
      refine AO.yldG _ (Yld.fieldAddr Tryd.underlying45 rfl rfl Tryd.sizeOf2 rfl rfl rfl) rfl rfl rfl rfl rfl ?_
      refine AO.yldG _ (Yld.load Tryd.isAgg2 rfl rfl) rfl rfl rfl rfl rfl ?_
      refine AO.yldG _ (Yld.call rfl rfl Tryd.call80 rfl rfl rfl (impl_within_c) rfl) rfl rfl rfl rfl rfl ?_
      refine AO.yld _ (Yld.pickT rfl rfl) rfl rfl rfl ?_
      refine AO.yld _ (Yld.assign rfl) rfl rfl rfl ?_
      refine AO.nil ?_
      refine Pure.ret Tryd.results79 (RVs.cons (RV.tmp rfl) RVs.nil) rfl ?_
      first | rfl | (simp_all [sampleB]; done) | (simp_all [sampleB]; intros; omega) | grind
    · -- s13 False
      refine AO.skipT rfl rfl rfl rfl rfl ?_
      refine AO.skipT rfl rfl rfl rfl rfl ?_
      refine AO.skipT rfl rfl rfl rfl rfl ?_
      refine AO.yld _ (Yld.pickF rfl rfl) rfl rfl rfl ?_
      refine AO.yld _ (Yld.assign rfl) rfl rfl rfl ?_
      refine AO.nil ?_
      refine Pure.ret Tryd.results79 (RVs.cons (RV.tmp rfl) RVs.nil) rfl ?_
      first | rfl | (simp_all [sampleB]; done) | (simp_all [sampleB]; intros; omega) | grind
  · -- s6 False
    refine AO.skipT rfl rfl rfl rfl rfl ?_
    refine AO.skipT rfl rfl rfl rfl rfl ?_
    refine AO.skipT rfl rfl rfl rfl rfl ?_
    refine AO.skipT rfl rfl rfl rfl rfl ?_
    refine AO.skipT rfl rfl rfl rfl rfl ?_
    refine AO.yld _ (Yld.pickF rfl rfl) rfl rfl rfl ?_
    refine AO.yld _ (Yld.move rfl) rfl rfl rfl ?_
    refine AO.skipT rfl rfl rfl rfl rfl ?_
    refine AO.skipT rfl rfl rfl rfl rfl ?_
    refine AO.skipT rfl rfl rfl rfl rfl ?_
    refine AO.yld _ (Yld.pickF rfl rfl) rfl rfl rfl ?_
    refine AO.yld _ (Yld.assign rfl) rfl rfl rfl ?_
    refine AO.nil ?_
    refine Pure.ret Tryd.results79 (RVs.cons (RV.tmp rfl) RVs.nil) rfl ?_
    first | rfl | (simp_all [sampleB]; done) | (simp_all [sampleB]; intros; omega) | grind

theorem spec_l28Day_c {n : Int} :
    Pure Tryd.prog 153 [.v (.int .i64 n)] (.v (.bool (decide (0 ≤ n) && decide (n ≤ 100000)))) := by
  refine Pure.intro Tryd.func153 rfl Tryd.ntmps153 rfl rfl (fun w => ?_)
  refine AC.seq ?_
  refine AC.region ?_
  refine AO.yld _ (Yld.assign rfl) rfl rfl rfl ?_
  refine AO.nil ?_
  refine AC.seq ?_
  refine AC.region ?_
  refine AO.yld _ (Yld.move rfl) rfl rfl rfl ?_
  refine AO.yld _ (Yld.call rfl rfl Tryd.call97 rfl rfl rfl (spec_l00In_c) rfl) rfl rfl rfl ?_
  refine AO.yld _ (Yld.assign rfl) rfl rfl rfl ?_
  refine AO.nil ?_
  refine Pure.ret Tryd.results153 (RVs.cons (RV.tmp rfl) RVs.nil) rfl ?_
  first | rfl | (simp_all; done) | (simp_all; intros; omega) | grind

theorem spec_l28Shift_c {n : Int} :
    Pure Tryd.prog 154 [.v (.int .i64 n)] (.v (.bool (decide (-5000 ≤ n) && decide (n ≤ 5000)))) := by
  refine Pure.intro Tryd.func154 rfl Tryd.ntmps154 rfl rfl (fun w => ?_)
  refine AC.seq ?_
  refine AC.region ?_
  refine AO.yld _ (Yld.assign rfl) rfl rfl rfl ?_
  refine AO.nil ?_
  refine AC.seq ?_
  refine AC.region ?_
  refine AO.yld _ (Yld.move rfl) rfl rfl rfl ?_
  refine AO.yld _ (Yld.call rfl rfl Tryd.call97 rfl rfl rfl (spec_l00In_c) rfl) rfl rfl rfl ?_
  refine AO.yld _ (Yld.assign rfl) rfl rfl rfl ?_
  refine AO.nil ?_
  refine Pure.ret Tryd.results154 (RVs.cons (RV.tmp rfl) RVs.nil) rfl ?_
  first | rfl | (simp_all; done) | (simp_all; intros; omega) | grind

theorem spec_l28Session_c {x : Session} :
    Pure Tryd.prog 92 [.ptr (encSession x)] (.v (.bool (okSession x))) := by
  refine Pure.intro Tryd.func92 rfl Tryd.ntmps92 rfl rfl (fun w => ?_)
  refine AC.seq ?_
  refine AC.region ?_
  refine AO.yld _ (Yld.assign rfl) rfl rfl rfl ?_
  refine AO.nil ?_
  refine AC.seq ?_
  refine AC.region ?_
  refine AO.yld _ (Yld.move rfl) rfl rfl rfl ?_
  refine AO.yld _ (Yld.nilCheck rfl rfl) rfl rfl rfl ?_
  refine AO.yld _ (Yld.fieldAddr Tryd.underlying64 rfl rfl Tryd.sizeOf2 rfl rfl rfl) rfl rfl rfl ?_
  refine AO.yld _ (Yld.load Tryd.isAgg2 rfl rfl) rfl rfl rfl ?_
  refine AO.yld _ (Yld.call rfl rfl Tryd.call153 rfl rfl rfl (spec_l28Day_c) rfl) rfl rfl rfl ?_
  refine AO.yld _ (Yld.move rfl) rfl rfl rfl ?_
  refine AO.splitAt 8 _ rfl (fun s8 => ?_) (fun s8 => ?_)
  · -- s8 True
    refine AO.yldG _ (Yld.move rfl) rfl rfl rfl rfl rfl ?_
    refine AO.yldG _ (Yld.nilCheck rfl rfl) rfl rfl rfl rfl rfl ?_
    refine AO.yldG _ (Yld.fieldAddr Tryd.underlying64 rfl rfl Tryd.sizeOf2 rfl rfl rfl) rfl rfl rfl rfl rfl ?_
    refine AO.yldG _ (Yld.load Tryd.isAgg2 rfl rfl) rfl rfl rfl rfl rfl ?_
    refine AO.yldG _ (Yld.call rfl rfl Tryd.call154 rfl rfl rfl (spec_l28Shift_c) rfl) rfl rfl rfl rfl rfl ?_
    refine AO.yld _ (Yld.pickT rfl rfl) rfl rfl rfl ?_
    refine AO.yld _ (Yld.move rfl) rfl rfl rfl ?_
    refine AO.splitAt 15 _ rfl (fun s15 => ?_) (fun s15 => ?_)
    · -- s15 True
      refine AO.yldG _ (Yld.move rfl) rfl rfl rfl rfl rfl ?_
      refine AO.yldG _ (Yld.nilCheck rfl rfl) rfl rfl rfl rfl rfl ?_
      refine AO.yldG _ (Yld.fieldAddr Tryd.underlying64 rfl rfl Tryd.sizeOf2 rfl rfl rfl) rfl rfl rfl rfl rfl ?_
      refine AO.yldG _ (Yld.load Tryd.isAgg2 rfl rfl) rfl rfl rfl rfl rfl ?_
      refine AO.yldG _ (Yld.call rfl rfl Tryd.call154 rfl rfl rfl (spec_l28Shift_c) rfl) rfl rfl rfl rfl rfl ?_
      refine AO.yld _ (Yld.pickT rfl rfl) rfl rfl rfl ?_
      refine AO.yld _ (Yld.move rfl) rfl rfl rfl ?_
      refine AO.splitAt 22 _ rfl (fun s22 => ?_) (fun s22 => ?_)
      · -- s22 True
        refine AO.yldG _ (Yld.move rfl) rfl rfl rfl rfl rfl ?_
        refine AO.yldG _ (Yld.nilCheck rfl rfl) rfl rfl rfl rfl rfl ?_
        refine AO.yldG _ (Yld.fieldAddr Tryd.underlying64 rfl rfl Tryd.sizeOf2 rfl rfl rfl) rfl rfl rfl rfl rfl ?_
        refine AO.yldG _ (Yld.load Tryd.isAgg2 rfl rfl) rfl rfl rfl rfl rfl ?_
        refine AO.yldG _ (Yld.call rfl rfl Tryd.call97 rfl rfl rfl (spec_l00In_c) rfl) rfl rfl rfl rfl rfl ?_
        refine AO.yld _ (Yld.pickT rfl rfl) rfl rfl rfl ?_
        refine AO.yld _ (Yld.assign rfl) rfl rfl rfl ?_
        refine AO.nil ?_
        refine Pure.ret Tryd.results92 (RVs.cons (RV.tmp rfl) RVs.nil) rfl ?_
        first | rfl | (simp_all [okSession]; done) | (simp_all [okSession]; intros; omega) | grind [okSession]
      · -- s22 False
        refine AO.skipT rfl rfl rfl rfl rfl ?_
        refine AO.skipT rfl rfl rfl rfl rfl ?_
        refine AO.skipT rfl rfl rfl rfl rfl ?_
        refine AO.skipT rfl rfl rfl rfl rfl ?_
        refine AO.skipT rfl rfl rfl rfl rfl ?_
        refine AO.yld _ (Yld.pickF rfl rfl) rfl rfl rfl ?_
        refine AO.yld _ (Yld.assign rfl) rfl rfl rfl ?_
        refine AO.nil ?_
        refine Pure.ret Tryd.results92 (RVs.cons (RV.tmp rfl) RVs.nil) rfl ?_
        first | rfl | (simp_all [okSession]; done) | (simp_all [okSession]; intros; omega) | grind [okSession]
    · -- s15 False
      refine AO.skipT rfl rfl rfl rfl rfl ?_
      refine AO.skipT rfl rfl rfl rfl rfl ?_
      refine AO.skipT rfl rfl rfl rfl rfl ?_
      refine AO.skipT rfl rfl rfl rfl rfl ?_
      refine AO.skipT rfl rfl rfl rfl rfl ?_
      refine AO.yld _ (Yld.pickF rfl rfl) rfl rfl rfl ?_
      refine AO.yld _ (Yld.move rfl) rfl rfl rfl ?_
      refine AO.skipT rfl rfl rfl rfl rfl ?_
      refine AO.skipT rfl rfl rfl rfl rfl ?_
      refine AO.skipT rfl rfl rfl rfl rfl ?_
      refine AO.skipT rfl rfl rfl rfl rfl ?_
      refine AO.skipT rfl rfl rfl rfl rfl ?_
      refine AO.yld _ (Yld.pickF rfl rfl) rfl rfl rfl ?_
      refine AO.yld _ (Yld.assign rfl) rfl rfl rfl ?_
      refine AO.nil ?_
      refine Pure.ret Tryd.results92 (RVs.cons (RV.tmp rfl) RVs.nil) rfl ?_
      first | rfl | (simp_all [okSession]; done) | (simp_all [okSession]; intros; omega) | grind [okSession]
  · -- s8 False
    refine AO.skipT rfl rfl rfl rfl rfl ?_
    refine AO.skipT rfl rfl rfl rfl rfl ?_
    refine AO.skipT rfl rfl rfl rfl rfl ?_
    refine AO.skipT rfl rfl rfl rfl rfl ?_
    refine AO.skipT rfl rfl rfl rfl rfl ?_
    refine AO.yld _ (Yld.pickF rfl rfl) rfl rfl rfl ?_
    refine AO.yld _ (Yld.move rfl) rfl rfl rfl ?_
    refine AO.skipT rfl rfl rfl rfl rfl ?_
    refine AO.skipT rfl rfl rfl rfl rfl ?_
    refine AO.skipT rfl rfl rfl rfl rfl ?_
    refine AO.skipT rfl rfl rfl rfl rfl ?_
    refine AO.skipT rfl rfl rfl rfl rfl ?_
    refine AO.yld _ (Yld.pickF rfl rfl) rfl rfl rfl ?_
    refine AO.yld _ (Yld.move rfl) rfl rfl rfl ?_
    refine AO.skipT rfl rfl rfl rfl rfl ?_
    refine AO.skipT rfl rfl rfl rfl rfl ?_
    refine AO.skipT rfl rfl rfl rfl rfl ?_
    refine AO.skipT rfl rfl rfl rfl rfl ?_
    refine AO.skipT rfl rfl rfl rfl rfl ?_
    refine AO.yld _ (Yld.pickF rfl rfl) rfl rfl rfl ?_
    refine AO.yld _ (Yld.assign rfl) rfl rfl rfl ?_
    refine AO.nil ?_
    refine Pure.ret Tryd.results92 (RVs.cons (RV.tmp rfl) RVs.nil) rfl ?_
    first | rfl | (simp_all [okSession]; done) | (simp_all [okSession]; intros; omega) | grind [okSession]

theorem impl_validSession_c {x : Session} :
    Pure Tryd.prog 94 [.agg (encSession x)] (.v (.bool (okSession x))) := by
  refine Pure.intro Tryd.func94 rfl Tryd.ntmps94 rfl rfl (fun w => ?_)
  refine AC.seq ?_
  refine AC.region ?_
  refine AO.box 0 rfl rfl rfl rfl rfl ?_
  refine AO.yld _ (Yld.assign rfl) rfl rfl rfl ?_
  refine AO.nil ?_
  refine AC.seq ?_
  refine AC.region ?_
  refine AO.yld _ (Yld.fieldAddr Tryd.underlying64 rfl rfl Tryd.sizeOf2 rfl rfl rfl) rfl rfl rfl ?_
  refine AO.yld _ (Yld.load Tryd.isAgg2 rfl rfl) rfl rfl rfl ?_
  refine AO.yld _ (Yld.call rfl rfl Tryd.call80 rfl rfl rfl (impl_within_c) rfl) rfl rfl rfl ?_
  refine AO.yld _ (Yld.move rfl) rfl rfl rfl ?_
  refine AO.splitAt 6 _ rfl (fun s6 => ?_) (fun s6 => ?_)
  · -- s6 True
    refine AO.yldG _ (Yld.fieldAddr Tryd.underlying64 rfl rfl Tryd.sizeOf2 rfl rfl rfl) rfl rfl rfl rfl rfl ?_
    refine AO.yldG _ (Yld.load Tryd.isAgg2 rfl rfl) rfl rfl rfl rfl rfl ?_
    refine AO.yldG _ (Yld.call rfl rfl Tryd.call80 rfl rfl rfl (impl_within_c) rfl) rfl rfl rfl rfl rfl ?_
    refine AO.yld _ (Yld.pickT rfl rfl) rfl rfl rfl ?_
    refine AO.yld _ (Yld.move rfl) rfl rfl rfl ?_
    refine AO.splitAt 11 _ rfl (fun s11 => ?_) (fun s11 => ?_)
    · -- s11 True
      refine AO.yldG _ (Yld.fieldAddr Tryd.underlying64 rfl rfl Tryd.sizeOf2 rfl rfl rfl) rfl rfl rfl rfl rfl ?_
      refine AO.yldG _ (Yld.load Tryd.isAgg2 rfl rfl) rfl rfl rfl rfl rfl ?_
      refine AO.yldG _ (Yld.call rfl rfl Tryd.call80 rfl rfl rfl (impl_within_c) rfl) rfl rfl rfl rfl rfl ?_
      refine AO.yld _ (Yld.pickT rfl rfl) rfl rfl rfl ?_
      refine AO.yld _ (Yld.move rfl) rfl rfl rfl ?_
      refine AO.splitAt 16 _ rfl (fun s16 => ?_) (fun s16 => ?_)
      · -- s16 True
        refine AO.yldG _ (Yld.fieldAddr Tryd.underlying64 rfl rfl Tryd.sizeOf2 rfl rfl rfl) rfl rfl rfl rfl rfl ?_
        refine AO.yldG _ (Yld.load Tryd.isAgg2 rfl rfl) rfl rfl rfl rfl rfl ?_
        refine AO.yldG _ (Yld.call rfl rfl Tryd.call80 rfl rfl rfl (impl_within_c) rfl) rfl rfl rfl rfl rfl ?_
        refine AO.yld _ (Yld.pickT rfl rfl) rfl rfl rfl ?_
        refine AO.yld _ (Yld.assign rfl) rfl rfl rfl ?_
        refine AO.nil ?_
        refine Pure.ret Tryd.results94 (RVs.cons (RV.tmp rfl) RVs.nil) rfl ?_
        first | rfl | (simp_all [okSession]; done) | (simp_all [okSession]; intros; omega) | grind [okSession]
      · -- s16 False
        refine AO.skipT rfl rfl rfl rfl rfl ?_
        refine AO.skipT rfl rfl rfl rfl rfl ?_
        refine AO.skipT rfl rfl rfl rfl rfl ?_
        refine AO.yld _ (Yld.pickF rfl rfl) rfl rfl rfl ?_
        refine AO.yld _ (Yld.assign rfl) rfl rfl rfl ?_
        refine AO.nil ?_
        refine Pure.ret Tryd.results94 (RVs.cons (RV.tmp rfl) RVs.nil) rfl ?_
        first | rfl | (simp_all [okSession]; done) | (simp_all [okSession]; intros; omega) | grind [okSession]
    · -- s11 False
      refine AO.skipT rfl rfl rfl rfl rfl ?_
      refine AO.skipT rfl rfl rfl rfl rfl ?_
      refine AO.skipT rfl rfl rfl rfl rfl ?_
      refine AO.yld _ (Yld.pickF rfl rfl) rfl rfl rfl ?_
      refine AO.yld _ (Yld.move rfl) rfl rfl rfl ?_
      refine AO.skipT rfl rfl rfl rfl rfl ?_
      refine AO.skipT rfl rfl rfl rfl rfl ?_
      refine AO.skipT rfl rfl rfl rfl rfl ?_
      refine AO.yld _ (Yld.pickF rfl rfl) rfl rfl rfl ?_
      refine AO.yld _ (Yld.assign rfl) rfl rfl rfl ?_
      refine AO.nil ?_
      refine Pure.ret Tryd.results94 (RVs.cons (RV.tmp rfl) RVs.nil) rfl ?_
      first | rfl | (simp_all [okSession]; done) | (simp_all [okSession]; intros; omega) | grind [okSession]
  · -- s6 False
    refine AO.skipT rfl rfl rfl rfl rfl ?_
    refine AO.skipT rfl rfl rfl rfl rfl ?_
    refine AO.skipT rfl rfl rfl rfl rfl ?_
    refine AO.yld _ (Yld.pickF rfl rfl) rfl rfl rfl ?_
    refine AO.yld _ (Yld.move rfl) rfl rfl rfl ?_
    refine AO.skipT rfl rfl rfl rfl rfl ?_
    refine AO.skipT rfl rfl rfl rfl rfl ?_
    refine AO.skipT rfl rfl rfl rfl rfl ?_
    refine AO.yld _ (Yld.pickF rfl rfl) rfl rfl rfl ?_
    refine AO.yld _ (Yld.move rfl) rfl rfl rfl ?_
    refine AO.skipT rfl rfl rfl rfl rfl ?_
    refine AO.skipT rfl rfl rfl rfl rfl ?_
    refine AO.skipT rfl rfl rfl rfl rfl ?_
    refine AO.yld _ (Yld.pickF rfl rfl) rfl rfl rfl ?_
    refine AO.yld _ (Yld.assign rfl) rfl rfl rfl ?_
    refine AO.nil ?_
    refine Pure.ret Tryd.results94 (RVs.cons (RV.tmp rfl) RVs.nil) rfl ?_
    first | rfl | (simp_all [okSession]; done) | (simp_all [okSession]; intros; omega) | grind [okSession]

theorem spec_l26One_c {x : Mach} (hs : x.name.length ≤ 1048576) :
    Pure Tryd.prog 90 [.ptr (encMach x)] (.v (.bool (okMachine x))) := by
  refine Pure.intro Tryd.func90 rfl Tryd.ntmps90 rfl rfl (fun w => ?_)
  refine AC.seq ?_
  refine AC.region ?_
  refine AO.yld _ (Yld.assign rfl) rfl rfl rfl ?_
  refine AO.nil ?_
  refine AC.seq ?_
  refine AC.region ?_
  refine AO.yld _ (Yld.move rfl) rfl rfl rfl ?_
  refine AO.yld _ (Yld.nilCheck rfl rfl) rfl rfl rfl ?_
  refine AO.yld _ (Yld.fieldAddr Tryd.underlying33 rfl rfl Tryd.sizeOf9 rfl rfl rfl) rfl rfl rfl ?_
  refine AO.yld _ (Yld.load Tryd.isAgg9 rfl rfl) rfl rfl rfl ?_
  refine AO.yld _ (Yld.call rfl rfl Tryd.call151 rfl rfl rfl (spec_l01Name_c (by first | assumption | omega)) rfl) rfl rfl rfl ?_
  refine AO.yld _ (Yld.move rfl) rfl rfl rfl ?_
  refine AO.splitAt 8 _ rfl (fun s8 => ?_) (fun s8 => ?_)
  · -- s8 True
    refine AO.yldG _ (Yld.move rfl) rfl rfl rfl rfl rfl ?_
    refine AO.yldG _ (Yld.nilCheck rfl rfl) rfl rfl rfl rfl rfl ?_
    refine AO.yldG _ (Yld.fieldAddr Tryd.underlying33 rfl rfl Tryd.sizeOf2 rfl rfl rfl) rfl rfl rfl rfl rfl ?_
    refine AO.yldG _ (Yld.load Tryd.isAgg2 rfl rfl) rfl rfl rfl rfl rfl ?_
    refine AO.yldG _ (Yld.call rfl rfl Tryd.call97 rfl rfl rfl (spec_l00In_c) rfl) rfl rfl rfl rfl rfl ?_
    refine AO.yld _ (Yld.pickT rfl rfl) rfl rfl rfl ?_
    refine AO.yld _ (Yld.move rfl) rfl rfl rfl ?_
    refine AO.splitAt 15 _ rfl (fun s15 => ?_) (fun s15 => ?_)
    · -- s15 True
      refine AO.yldG _ (Yld.move rfl) rfl rfl rfl rfl rfl ?_
      refine AO.yldG _ (Yld.nilCheck rfl rfl) rfl rfl rfl rfl rfl ?_
      refine AO.yldG _ (Yld.fieldAddr Tryd.underlying33 rfl rfl Tryd.sizeOf2 rfl rfl rfl) rfl rfl rfl rfl rfl ?_
      refine AO.yldG _ (Yld.load Tryd.isAgg2 rfl rfl) rfl rfl rfl rfl rfl ?_
      refine AO.yldG _ (Yld.call rfl rfl Tryd.call152 rfl rfl rfl (spec_l26Time_c) rfl) rfl rfl rfl rfl rfl ?_
      refine AO.yld _ (Yld.pickT rfl rfl) rfl rfl rfl ?_
      refine AO.yld _ (Yld.assign rfl) rfl rfl rfl ?_
      refine AO.nil ?_
      refine Pure.ret Tryd.results90 (RVs.cons (RV.tmp rfl) RVs.nil) rfl ?_
      first | rfl | (simp_all [okMachine]; done) | (simp_all [okMachine]; intros; omega) | grind [okMachine]
    · -- s15 False
      refine AO.skipT rfl rfl rfl rfl rfl ?_
      refine AO.skipT rfl rfl rfl rfl rfl ?_
      refine AO.skipT rfl rfl rfl rfl rfl ?_
      refine AO.skipT rfl rfl rfl rfl rfl ?_
      refine AO.skipT rfl rfl rfl rfl rfl ?_
      refine AO.yld _ (Yld.pickF rfl rfl) rfl rfl rfl ?_
      refine AO.yld _ (Yld.assign rfl) rfl rfl rfl ?_
      refine AO.nil ?_
      refine Pure.ret Tryd.results90 (RVs.cons (RV.tmp rfl) RVs.nil) rfl ?_
      first | rfl | (simp_all [okMachine]; done) | (simp_all [okMachine]; intros; omega) | grind [okMachine]
  · -- s8 False
    refine AO.skipT rfl rfl rfl rfl rfl ?_
    refine AO.skipT rfl rfl rfl rfl rfl ?_
    refine AO.skipT rfl rfl rfl rfl rfl ?_
    refine AO.skipT rfl rfl rfl rfl rfl ?_
    refine AO.skipT rfl rfl rfl rfl rfl ?_
    refine AO.yld _ (Yld.pickF rfl rfl) rfl rfl rfl ?_
    refine AO.yld _ (Yld.move rfl) rfl rfl rfl ?_
    refine AO.skipT rfl rfl rfl rfl rfl ?_
    refine AO.skipT rfl rfl rfl rfl rfl ?_
    refine AO.skipT rfl rfl rfl rfl rfl ?_
    refine AO.skipT rfl rfl rfl rfl rfl ?_
    refine AO.skipT rfl rfl rfl rfl rfl ?_
    refine AO.yld _ (Yld.pickF rfl rfl) rfl rfl rfl ?_
    refine AO.yld _ (Yld.assign rfl) rfl rfl rfl ?_
    refine AO.nil ?_
    refine Pure.ret Tryd.results90 (RVs.cons (RV.tmp rfl) RVs.nil) rfl ?_
    first | rfl | (simp_all [okMachine]; done) | (simp_all [okMachine]; intros; omega) | grind [okMachine]

theorem impl_validMachine_c {x : Mach} (hs : x.name.length ≤ 1048576) :
    Pure Tryd.prog 85 [.agg (encMach x)] (.v (.bool (okMachine x))) := by
  refine Pure.intro Tryd.func85 rfl Tryd.ntmps85 rfl rfl (fun w => ?_)
  refine AC.seq ?_
  refine AC.region ?_
  refine AO.box 0 rfl rfl rfl rfl rfl ?_
  refine AO.yld _ (Yld.assign rfl) rfl rfl rfl ?_
  refine AO.nil ?_
  refine AC.seq ?_
  refine AC.region ?_
  refine AO.yld _ (Yld.fieldAddr Tryd.underlying33 rfl rfl Tryd.sizeOf9 rfl rfl rfl) rfl rfl rfl ?_
  refine AO.yld _ (Yld.load Tryd.isAgg9 rfl rfl) rfl rfl rfl ?_
  refine AO.yld _ (Yld.call rfl rfl Tryd.call76 rfl rfl rfl (impl_IsName_c (by first | assumption | omega)) rfl) rfl rfl rfl ?_
  refine AO.yld _ (Yld.move rfl) rfl rfl rfl ?_
  refine AO.splitAt 6 _ rfl (fun s6 => ?_) (fun s6 => ?_)
  · -- s6 True
    refine AO.yldG _ (Yld.fieldAddr Tryd.underlying33 rfl rfl Tryd.sizeOf2 rfl rfl rfl) rfl rfl rfl rfl rfl ?_
    refine AO.yldG _ (Yld.load Tryd.isAgg2 rfl rfl) rfl rfl rfl rfl rfl ?_
    refine AO.yldG _ (Yld.call rfl rfl Tryd.call80 rfl rfl rfl (impl_within_c) rfl) rfl rfl rfl rfl rfl ?_
    refine AO.yld _ (Yld.pickT rfl rfl) rfl rfl rfl ?_
    refine AO.yld _ (Yld.move rfl) rfl rfl rfl ?_
    refine AO.splitAt 11 _ rfl (fun s11 => ?_) (fun s11 => ?_)
    · -- s11 True
      refine AO.yldG _ (Yld.fieldAddr Tryd.underlying33 rfl rfl Tryd.sizeOf2 rfl rfl rfl) rfl rfl rfl rfl rfl ?_
      refine AO.yldG _ (Yld.load Tryd.isAgg2 rfl rfl) rfl rfl rfl rfl rfl ?_
      refine AO.yldG _ (Yld.call rfl rfl Tryd.call80 rfl rfl rfl (impl_within_c) rfl) rfl rfl rfl rfl rfl ?_
      refine AO.yld _ (Yld.pickT rfl rfl) rfl rfl rfl ?_
      refine AO.yld _ (Yld.assign rfl) rfl rfl rfl ?_
      refine AO.nil ?_
      refine Pure.ret Tryd.results85 (RVs.cons (RV.tmp rfl) RVs.nil) rfl ?_
      first | rfl | (simp_all [okMachine]; done) | (simp_all [okMachine]; intros; omega) | grind [okMachine]
    · -- s11 False
      refine AO.skipT rfl rfl rfl rfl rfl ?_
      refine AO.skipT rfl rfl rfl rfl rfl ?_
      refine AO.skipT rfl rfl rfl rfl rfl ?_
      refine AO.yld _ (Yld.pickF rfl rfl) rfl rfl rfl ?_
      refine AO.yld _ (Yld.assign rfl) rfl rfl rfl ?_
      refine AO.nil ?_
      refine Pure.ret Tryd.results85 (RVs.cons (RV.tmp rfl) RVs.nil) rfl ?_
      first | rfl | (simp_all [okMachine]; done) | (simp_all [okMachine]; intros; omega) | grind [okMachine]
  · -- s6 False
    refine AO.skipT rfl rfl rfl rfl rfl ?_
    refine AO.skipT rfl rfl rfl rfl rfl ?_
    refine AO.skipT rfl rfl rfl rfl rfl ?_
    refine AO.yld _ (Yld.pickF rfl rfl) rfl rfl rfl ?_
    refine AO.yld _ (Yld.move rfl) rfl rfl rfl ?_
    refine AO.skipT rfl rfl rfl rfl rfl ?_
    refine AO.skipT rfl rfl rfl rfl rfl ?_
    refine AO.skipT rfl rfl rfl rfl rfl ?_
    refine AO.yld _ (Yld.pickF rfl rfl) rfl rfl rfl ?_
    refine AO.yld _ (Yld.assign rfl) rfl rfl rfl ?_
    refine AO.nil ?_
    refine Pure.ret Tryd.results85 (RVs.cons (RV.tmp rfl) RVs.nil) rfl ?_
    first | rfl | (simp_all [okMachine]; done) | (simp_all [okMachine]; intros; omega) | grind [okMachine]

theorem spec_l26Ok_c {xs : List Mach} (hn : xs.length ≤ 1048576) (hs : ∀ x ∈ xs, x.name.length ≤ 1048576) :
    Pure Tryd.prog 81 [.sl 3 (xs.map encMach)] (.v (.bool (okMachines xs))) := by
  refine Pure.intro Tryd.func81 rfl Tryd.ntmps81 rfl rfl (fun w => ?_)
  refine AC.seq ?_
  refine AC.region ?_
  refine AO.yld _ (Yld.assign rfl) rfl rfl rfl ?_
  refine AO.nil ?_
  refine AC.seq ?_
  refine AC.seq ?_
  refine AC.region ?_
  refine AO.yld _ (Yld.assign rfl) rfl rfl rfl ?_
  refine AO.nil ?_
  refine AC.block ?_
  refine AC.loopC [(0, _)] [] (fun (k : Nat) => [(3, .p (.v (.int .i64 (k : Int))))]) (fun (k : Nat) => []) (fun (k : Nat) => k ≤ xs.length ∧ okTo okMachine geMachine xs k = true) (fun (k : Nat) => xs.length - k) 0 ⟨rfl, trivial⟩ trivial ⟨rfl, trivial⟩ trivial ?_ (fun k hJ => ?_)
  · exact ⟨Nat.zero_le _, rfl⟩
  · -- round
    refine AC.seq ?_
    refine AC.seq ?_
    refine AC.region ?_
    refine AO.yld _ (Yld.move rfl) rfl rfl rfl ?_
    refine AO.yld _ (Yld.move rfl) rfl rfl rfl ?_
    refine AO.yld _ (Yld.len Tryd.underlying24 rfl rfl) rfl rfl rfl ?_
    refine AO.yld _ (Yld.int rfl rfl rfl) rfl rfl rfl ?_
    refine AO.nil ?_
    refine AC.cond _ rfl (fun c7 => ?_) (fun c7 => ?_)
    · -- c7 True
      have hk := lt_of_decM c7
      obtain ⟨x, hx⟩ := get_some hk
      have hrow := map_row (enc := encMach) hx
      have hsx := hs x (List.mem_of_getElem? hx)
      refine AC.skip ?_
      refine AC.seq ?_
      refine AC.block ?_
      refine AC.seq ?_
      refine AC.draw (by kernel_rfl) (by kernel_rfl) ?_
      refine AO.yld _ (Yld.move rfl) rfl rfl rfl ?_
      refine AO.yld _ (Yld.move rfl) rfl rfl rfl ?_
      refine AO.yld _ (Yld.indexSl Tryd.underlying24 Tryd.sizeOf33 rfl rfl hrow rfl) rfl rfl rfl ?_
      refine AO.yld _ (Yld.call rfl rfl Tryd.call90 rfl rfl rfl (spec_l26One_c (by first | assumption | omega)) rfl) rfl rfl rfl ?_
      refine AO.yld _ (Yld.not rfl) rfl rfl rfl ?_
      refine AO.yld _ (Yld.move rfl) rfl rfl rfl ?_
      refine AO.splitAt 15 _ rfl (fun s15 => ?_) (fun s15 => ?_)
      · -- s15 True
        refine AO.skipF rfl rfl rfl rfl rfl ?_
        refine AO.skipF rfl rfl rfl rfl rfl ?_
        refine AO.skipF rfl rfl rfl rfl rfl ?_
        refine AO.skipU rfl rfl rfl rfl rfl ?_
        refine AO.skipU rfl rfl rfl rfl rfl ?_
        refine AO.skipU rfl rfl rfl rfl rfl ?_
        refine AO.skipU rfl rfl rfl rfl rfl ?_
        refine AO.skipU rfl rfl rfl rfl rfl ?_
        refine AO.skipU rfl rfl rfl rfl rfl ?_
        refine AO.skipU rfl rfl rfl rfl rfl ?_
        refine AO.skipU rfl rfl rfl rfl rfl ?_
        refine AO.skipU rfl rfl rfl rfl rfl ?_
        refine AO.skipU rfl rfl rfl rfl rfl ?_
        refine AO.skipU rfl rfl rfl rfl rfl ?_
        refine AO.skipU rfl rfl rfl rfl rfl ?_
        refine AO.skipF rfl rfl rfl rfl rfl ?_
        refine AO.yld _ (Yld.pickT rfl rfl) rfl rfl rfl ?_
        refine AO.nil ?_
        refine AC.condT rfl ?_
        refine AC.seq ?_
        refine AC.region ?_
        refine AO.yld _ (Yld.assign rfl) rfl rfl rfl ?_
        refine AO.nil ?_
        refine Pure.ret Tryd.results81 (RVs.cons (RV.tmp rfl) RVs.nil) rfl ?_
        first
          | (exact cb (by unfold okMachines; rw [ok_one (one := okMachine) (ge := geMachine) hx (by simpa using s15)]; simp))
          | (exact cb (by unfold okMachines; rw [ok_ge (one := okMachine) (ge := geMachine) hx hk0 hy c32]; simp))
          | (exact cb (by rw [okMachines, ok_all hJ.2]; grind))
          | (exact cb (by unfold okMachines; grind))
          | (exact cb (by simp_all [okMachines]))
      · -- s15 False
        refine AO.yldG _ (Yld.move rfl) rfl rfl rfl rfl rfl ?_
        refine AO.yldG _ (Yld.int rfl rfl rfl) rfl rfl rfl rfl rfl ?_
        refine AO.yldG _ (Yld.move rfl) rfl rfl rfl rfl rfl ?_
        refine AO.splitAt 18 _ rfl (fun s18 => ?_) (fun s18 => ?_)
        · -- s18 True
          have hk0 : 0 < k := by simpa using s18
          obtain ⟨y, hy⟩ := get_some (xs := xs) (k := k - 1) (by omega)
          have hrow2 := map_row (enc := encMach) hy
          refine AO.yldG _ (Yld.move rfl) rfl rfl rfl rfl rfl ?_
          refine AO.yldG _ (Yld.move rfl) rfl rfl rfl rfl rfl ?_
          refine AO.yldG _ (Yld.sub rfl rfl (by omega) (by omega)) rfl rfl rfl rfl rfl ?_
          refine AO.yldG _ (Yld.indexSl Tryd.underlying24 Tryd.sizeOf33 rfl rfl hrow2 (by omega)) rfl rfl rfl rfl rfl ?_
          refine AO.yldG _ (Yld.fieldAddr Tryd.underlying33 rfl rfl Tryd.sizeOf9 rfl rfl rfl) rfl rfl rfl rfl rfl ?_
          refine AO.yldG _ (Yld.load Tryd.isAgg9 rfl rfl) rfl rfl rfl rfl rfl ?_
          refine AO.yldG _ (Yld.move rfl) rfl rfl rfl rfl rfl ?_
          refine AO.yldG _ (Yld.move rfl) rfl rfl rfl rfl rfl ?_
          refine AO.yldG _ (Yld.indexSl Tryd.underlying24 Tryd.sizeOf33 rfl rfl hrow rfl) rfl rfl rfl rfl rfl ?_
          refine AO.yldG _ (Yld.fieldAddr Tryd.underlying33 rfl rfl Tryd.sizeOf9 rfl rfl rfl) rfl rfl rfl rfl rfl ?_
          refine AO.yldG _ (Yld.load Tryd.isAgg9 rfl rfl) rfl rfl rfl rfl rfl ?_
          refine AO.yldG _ (Yld.cmpStr rfl rfl rfl) rfl rfl rfl rfl rfl ?_
          refine AO.yldG _ (Yld.pickT rfl rfl) rfl rfl rfl rfl rfl ?_
          refine AO.yld _ (Yld.pickF rfl rfl) rfl rfl rfl ?_
          refine AO.nil ?_
          refine AC.cond _ rfl (fun c32 => ?_) (fun c32 => ?_)
          · -- c32 True
            refine AC.seq ?_
            refine AC.region ?_
            refine AO.yld _ (Yld.assign rfl) rfl rfl rfl ?_
            refine AO.nil ?_
            refine Pure.ret Tryd.results81 (RVs.cons (RV.tmp rfl) RVs.nil) rfl ?_
            first
              | (exact cb (by unfold okMachines; rw [ok_one (one := okMachine) (ge := geMachine) hx (by simpa using s15)]; simp))
              | (exact cb (by unfold okMachines; rw [ok_ge (one := okMachine) (ge := geMachine) hx hk0 hy c32]; simp))
              | (exact cb (by rw [okMachines, ok_all hJ.2]; grind))
              | (exact cb (by unfold okMachines; grind))
              | (exact cb (by simp_all [okMachines]))
          · -- c32 False
            refine AC.skip ?_
            refine AC.mark ?_
            refine AC.region ?_
            refine AO.yld _ (Yld.move rfl) rfl rfl rfl ?_
            refine AO.yld _ (Yld.add rfl rfl (by omega) (by omega)) rfl rfl rfl ?_
            refine AO.yld _ (Yld.assign rfl) rfl rfl rfl ?_
            refine AO.nil ?_
            refine AC.back ⟨k + 1, ?_, ?_, ⟨?_, trivial⟩, trivial, ⟨rfl, trivial⟩, trivial⟩
            · exact ⟨hk, by first | exact ok_first hJ.2 hx (by simpa using s15) (by simp at s18; omega) | exact ok_next hJ.2 hx (by simpa using s15) hk0 hy c32⟩
            · omega
            · rfl
        · -- s18 False
          refine AO.skipT rfl rfl rfl rfl rfl ?_
          refine AO.skipT rfl rfl rfl rfl rfl ?_
          refine AO.skipT rfl rfl rfl rfl rfl ?_
          refine AO.skipT rfl rfl rfl rfl rfl ?_
          refine AO.skipT rfl rfl rfl rfl rfl ?_
          refine AO.skipT rfl rfl rfl rfl rfl ?_
          refine AO.skipT rfl rfl rfl rfl rfl ?_
          refine AO.skipT rfl rfl rfl rfl rfl ?_
          refine AO.skipT rfl rfl rfl rfl rfl ?_
          refine AO.skipT rfl rfl rfl rfl rfl ?_
          refine AO.skipT rfl rfl rfl rfl rfl ?_
          refine AO.skipT rfl rfl rfl rfl rfl ?_
          refine AO.yldG _ (Yld.pickF rfl rfl) rfl rfl rfl rfl rfl ?_
          refine AO.yld _ (Yld.pickF rfl rfl) rfl rfl rfl ?_
          refine AO.nil ?_
          refine AC.condF rfl ?_
          refine AC.skip ?_
          refine AC.mark ?_
          refine AC.region ?_
          refine AO.yld _ (Yld.move rfl) rfl rfl rfl ?_
          refine AO.yld _ (Yld.add rfl rfl (by omega) (by omega)) rfl rfl rfl ?_
          refine AO.yld _ (Yld.assign rfl) rfl rfl rfl ?_
          refine AO.nil ?_
          refine AC.back ⟨k + 1, ?_, ?_, ⟨?_, trivial⟩, trivial, ⟨rfl, trivial⟩, trivial⟩
          · exact ⟨hk, by first | exact ok_first hJ.2 hx (by simpa using s15) (by simp at s18; omega) | exact ok_next hJ.2 hx (by simpa using s15) hk0 hy c32⟩
          · omega
          · rfl
    · -- c7 False
      obtain rfl : k = xs.length := by have := ge_of_decM c7; omega
      refine AC.exit rfl ?_
      refine AC.seq ?_
      refine AC.region ?_
      refine AO.yld _ (Yld.move rfl) rfl rfl rfl ?_
      refine AO.yld _ (Yld.len Tryd.underlying24 rfl rfl) rfl rfl rfl ?_
      refine AO.yld _ (Yld.int rfl rfl rfl) rfl rfl rfl ?_
      refine AO.yld _ (Yld.assign rfl) rfl rfl rfl ?_
      refine AO.nil ?_
      refine Pure.ret Tryd.results81 (RVs.cons (RV.tmp rfl) RVs.nil) rfl ?_
      first
        | (exact cb (by unfold okMachines; rw [ok_one (one := okMachine) (ge := geMachine) hx (by simpa using s15)]; simp))
        | (exact cb (by unfold okMachines; rw [ok_ge (one := okMachine) (ge := geMachine) hx hk0 hy c32]; simp))
        | (exact cb (by rw [okMachines, ok_all hJ.2]; grind))
        | (exact cb (by unfold okMachines; grind))
        | (exact cb (by simp_all [okMachines]))

theorem impl_ValidMachines_c {xs : List Mach} (hn : xs.length ≤ 1048576) (hs : ∀ x ∈ xs, x.name.length ≤ 1048576) :
    Pure Tryd.prog 146 [.sl 3 (xs.map encMach)] (.v (.bool (okMachines xs))) := by
  refine Pure.intro Tryd.func146 rfl Tryd.ntmps146 rfl rfl (fun w => ?_)
  refine AC.seq ?_
  refine AC.region ?_
  refine AO.yld _ (Yld.assign rfl) rfl rfl rfl ?_
  refine AO.nil ?_
  refine AC.seq ?_
  refine AC.seq ?_
  refine AC.region ?_
  refine AO.yld _ (Yld.move rfl) rfl rfl rfl ?_
  refine AO.yld _ (Yld.len Tryd.underlying24 rfl rfl) rfl rfl rfl ?_
  refine AO.yld _ (Yld.int rfl rfl rfl) rfl rfl rfl ?_
  refine AO.nil ?_
  refine AC.cond _ rfl (fun c7 => ?_) (fun c7 => ?_)
  · -- c7 True
    refine AC.seq ?_
    refine AC.region ?_
    refine AO.yld _ (Yld.assign rfl) rfl rfl rfl ?_
    refine AO.nil ?_
    refine Pure.ret Tryd.results146 (RVs.cons (RV.tmp rfl) RVs.nil) rfl ?_
    first
      | (exact cb (by unfold okMachines; rw [ok_one (one := okMachine) (ge := geMachine) hx (by simpa using s18)]; simp))
      | (exact cb (by unfold okMachines; rw [ok_ge (one := okMachine) (ge := geMachine) hx hk0 hy c32]; simp))
      | (exact cb (by rw [okMachines, ok_all hJ.2]; grind))
      | (exact cb (by unfold okMachines; grind))
      | (exact cb (by simp_all [okMachines]))
  · -- c7 False
    refine AC.skip ?_
    refine AC.seq ?_
    refine AC.seq ?_
    refine AC.region ?_
    refine AO.yld _ (Yld.move rfl) rfl rfl rfl ?_
    refine AO.yld _ (Yld.len Tryd.underlying24 rfl rfl) rfl rfl rfl ?_
    refine AO.yld _ (Yld.move rfl) rfl rfl rfl ?_
    refine AO.nil ?_
    refine AC.block ?_
    refine AC.loopC [(0, _), (8, _), (9, _)] [] (fun (k : Nat) => [(10, .p (.v (.int .i64 (k : Int))))]) (fun (k : Nat) => []) (fun (k : Nat) => k ≤ xs.length ∧ okTo okMachine geMachine xs k = true) (fun (k : Nat) => xs.length - k) 0 ⟨rfl, rfl, rfl, trivial⟩ trivial ⟨rfl, trivial⟩ trivial ?_ (fun k hJ => ?_)
    · exact ⟨Nat.zero_le _, rfl⟩
    · -- round
      refine AC.seq ?_
      refine AC.region ?_
      refine AO.yld _ (Yld.int rfl rfl rfl) rfl rfl rfl ?_
      refine AO.nil ?_
      refine AC.seq ?_
      refine AC.cond _ rfl (fun c11 => ?_) (fun c11 => ?_)
      · -- c11 True
        have hk := lt_of_decM c11
        obtain ⟨x, hx⟩ := get_some hk
        have hrow := map_row (enc := encMach) hx
        have hsx := hs x (List.mem_of_getElem? hx)
        refine AC.skip ?_
        refine AC.seq ?_
        refine AC.block ?_
        refine AC.seq ?_
        refine AC.region ?_
        refine AO.yld _ (Yld.move rfl) rfl rfl rfl ?_
        refine AO.yld _ (Yld.indexSl Tryd.underlying24 Tryd.sizeOf33 rfl rfl hrow rfl) rfl rfl rfl ?_
        refine AO.yld _ (Yld.loadAgg Tryd.isAgg33 Tryd.sizeOf33 rfl rfl rfl rfl) rfl rfl rfl ?_
        refine AO.alloc 0 Tryd.zeroValue33 rfl rfl rfl ?_
        refine AO.yld _ (Yld.assign rfl) rfl rfl rfl ?_
        refine AO.store Tryd.sizeOf33 rfl rfl rfl rfl rfl rfl ?_
        refine AO.nil ?_
        refine AC.seq ?_
        refine AC.draw (by kernel_rfl) (by kernel_rfl) ?_
        refine AO.yld _ (Yld.loadAgg Tryd.isAgg33 Tryd.sizeOf33 rfl rfl rfl rfl) rfl rfl rfl ?_
        refine AO.yld _ (Yld.call rfl rfl Tryd.call85 rfl rfl rfl (impl_validMachine_c (by first | assumption | omega)) rfl) rfl rfl rfl ?_
        refine AO.yld _ (Yld.not rfl) rfl rfl rfl ?_
        refine AO.yld _ (Yld.move rfl) rfl rfl rfl ?_
        refine AO.splitAt 18 _ rfl (fun s18 => ?_) (fun s18 => ?_)
        · -- s18 True
          refine AO.skipF rfl rfl rfl rfl rfl ?_
          refine AO.skipF rfl rfl rfl rfl rfl ?_
          refine AO.skipF rfl rfl rfl rfl rfl ?_
          refine AO.skipU rfl rfl rfl rfl rfl ?_
          refine AO.skipU rfl rfl rfl rfl rfl ?_
          refine AO.skipU rfl rfl rfl rfl rfl ?_
          refine AO.skipU rfl rfl rfl rfl rfl ?_
          refine AO.skipU rfl rfl rfl rfl rfl ?_
          refine AO.skipU rfl rfl rfl rfl rfl ?_
          refine AO.skipU rfl rfl rfl rfl rfl ?_
          refine AO.skipU rfl rfl rfl rfl rfl ?_
          refine AO.skipU rfl rfl rfl rfl rfl ?_
          refine AO.skipF rfl rfl rfl rfl rfl ?_
          refine AO.yld _ (Yld.pickT rfl rfl) rfl rfl rfl ?_
          refine AO.nil ?_
          refine AC.condT rfl ?_
          refine AC.seq ?_
          refine AC.region ?_
          refine AO.yld _ (Yld.assign rfl) rfl rfl rfl ?_
          refine AO.nil ?_
          refine Pure.ret Tryd.results146 (RVs.cons (RV.tmp rfl) RVs.nil) rfl ?_
          first
            | (exact cb (by unfold okMachines; rw [ok_one (one := okMachine) (ge := geMachine) hx (by simpa using s18)]; simp))
            | (exact cb (by unfold okMachines; rw [ok_ge (one := okMachine) (ge := geMachine) hx hk0 hy c32]; simp))
            | (exact cb (by rw [okMachines, ok_all hJ.2]; grind))
            | (exact cb (by unfold okMachines; grind))
            | (exact cb (by simp_all [okMachines]))
        · -- s18 False
          refine AO.yldG _ (Yld.move rfl) rfl rfl rfl rfl rfl ?_
          refine AO.yldG _ (Yld.int rfl rfl rfl) rfl rfl rfl rfl rfl ?_
          refine AO.yldG _ (Yld.move rfl) rfl rfl rfl rfl rfl ?_
          refine AO.splitAt 21 _ rfl (fun s21 => ?_) (fun s21 => ?_)
          · -- s21 True
            have hk0 : 0 < k := by simpa using s21
            obtain ⟨y, hy⟩ := get_some (xs := xs) (k := k - 1) (by omega)
            have hrow2 := map_row (enc := encMach) hy
            refine AO.yldG _ (Yld.move rfl) rfl rfl rfl rfl rfl ?_
            refine AO.yldG _ (Yld.move rfl) rfl rfl rfl rfl rfl ?_
            refine AO.yldG _ (Yld.sub rfl rfl (by omega) (by omega)) rfl rfl rfl rfl rfl ?_
            refine AO.yldG _ (Yld.indexSl Tryd.underlying24 Tryd.sizeOf33 rfl rfl hrow2 (by omega)) rfl rfl rfl rfl rfl ?_
            refine AO.yldG _ (Yld.fieldAddr Tryd.underlying33 rfl rfl Tryd.sizeOf9 rfl rfl rfl) rfl rfl rfl rfl rfl ?_
            refine AO.yldG _ (Yld.load Tryd.isAgg9 rfl rfl) rfl rfl rfl rfl rfl ?_
            refine AO.yldG _ (Yld.fieldAddr Tryd.underlying33 rfl rfl Tryd.sizeOf9 rfl rfl rfl) rfl rfl rfl rfl rfl ?_
            refine AO.yldG _ (Yld.load Tryd.isAgg9 rfl rfl) rfl rfl rfl rfl rfl ?_
            refine AO.yldG _ (Yld.cmpStr rfl rfl rfl) rfl rfl rfl rfl rfl ?_
            refine AO.yldG _ (Yld.pickT rfl rfl) rfl rfl rfl rfl rfl ?_
            refine AO.yld _ (Yld.pickF rfl rfl) rfl rfl rfl ?_
            refine AO.nil ?_
            refine AC.cond _ rfl (fun c32 => ?_) (fun c32 => ?_)
            · -- c32 True
              refine AC.seq ?_
              refine AC.region ?_
              refine AO.yld _ (Yld.assign rfl) rfl rfl rfl ?_
              refine AO.nil ?_
              refine Pure.ret Tryd.results146 (RVs.cons (RV.tmp rfl) RVs.nil) rfl ?_
              first
                | (exact cb (by unfold okMachines; rw [ok_one (one := okMachine) (ge := geMachine) hx (by simpa using s18)]; simp))
                | (exact cb (by unfold okMachines; rw [ok_ge (one := okMachine) (ge := geMachine) hx hk0 hy c32]; simp))
                | (exact cb (by rw [okMachines, ok_all hJ.2]; grind))
                | (exact cb (by unfold okMachines; grind))
                | (exact cb (by simp_all [okMachines]))
            · -- c32 False
              refine AC.skip ?_
              refine AC.mark ?_
              refine AC.region ?_
              refine AO.yld _ (Yld.add rfl rfl (by omega) (by omega)) rfl rfl rfl ?_
              refine AO.yld _ (Yld.move rfl) rfl rfl rfl ?_
              refine AO.nil ?_
              refine AC.back ⟨k + 1, ?_, ?_, ⟨?_, trivial⟩, trivial, ⟨rfl, rfl, rfl, trivial⟩, trivial⟩
              · exact ⟨hk, by first | exact ok_first hJ.2 hx (by simpa using s18) (by simp at s21; omega) | exact ok_next hJ.2 hx (by simpa using s18) hk0 hy c32⟩
              · omega
              · rfl
          · -- s21 False
            refine AO.skipT rfl rfl rfl rfl rfl ?_
            refine AO.skipT rfl rfl rfl rfl rfl ?_
            refine AO.skipT rfl rfl rfl rfl rfl ?_
            refine AO.skipT rfl rfl rfl rfl rfl ?_
            refine AO.skipT rfl rfl rfl rfl rfl ?_
            refine AO.skipT rfl rfl rfl rfl rfl ?_
            refine AO.skipT rfl rfl rfl rfl rfl ?_
            refine AO.skipT rfl rfl rfl rfl rfl ?_
            refine AO.skipT rfl rfl rfl rfl rfl ?_
            refine AO.yldG _ (Yld.pickF rfl rfl) rfl rfl rfl rfl rfl ?_
            refine AO.yld _ (Yld.pickF rfl rfl) rfl rfl rfl ?_
            refine AO.nil ?_
            refine AC.condF rfl ?_
            refine AC.skip ?_
            refine AC.mark ?_
            refine AC.region ?_
            refine AO.yld _ (Yld.add rfl rfl (by omega) (by omega)) rfl rfl rfl ?_
            refine AO.yld _ (Yld.move rfl) rfl rfl rfl ?_
            refine AO.nil ?_
            refine AC.back ⟨k + 1, ?_, ?_, ⟨?_, trivial⟩, trivial, ⟨rfl, rfl, rfl, trivial⟩, trivial⟩
            · exact ⟨hk, by first | exact ok_first hJ.2 hx (by simpa using s18) (by simp at s21; omega) | exact ok_next hJ.2 hx (by simpa using s18) hk0 hy c32⟩
            · omega
            · rfl
      · -- c11 False
        obtain rfl : k = xs.length := by have := ge_of_decM c11; omega
        refine AC.exit rfl ?_
        refine AC.seq ?_
        refine AC.region ?_
        refine AO.yld _ (Yld.assign rfl) rfl rfl rfl ?_
        refine AO.nil ?_
        refine Pure.ret Tryd.results146 (RVs.cons (RV.tmp rfl) RVs.nil) rfl ?_
        first
          | (exact cb (by unfold okMachines; rw [ok_one (one := okMachine) (ge := geMachine) hx (by simpa using s18)]; simp))
          | (exact cb (by unfold okMachines; rw [ok_ge (one := okMachine) (ge := geMachine) hx hk0 hy c32]; simp))
          | (exact cb (by rw [okMachines, ok_all hJ.2]; grind))
          | (exact cb (by unfold okMachines; grind))
          | (exact cb (by simp_all [okMachines]))

theorem spec_l25One_c {x : NV} (hs : x.name.length ≤ 1048576) :
    Pure Tryd.prog 87 [.ptr (encNV x)] (.v (.bool (okMedia x))) := by
  refine Pure.intro Tryd.func87 rfl Tryd.ntmps87 rfl rfl (fun w => ?_)
  refine AC.seq ?_
  refine AC.region ?_
  refine AO.yld _ (Yld.assign rfl) rfl rfl rfl ?_
  refine AO.nil ?_
  refine AC.seq ?_
  refine AC.region ?_
  refine AO.yld _ (Yld.move rfl) rfl rfl rfl ?_
  refine AO.yld _ (Yld.nilCheck rfl rfl) rfl rfl rfl ?_
  refine AO.yld _ (Yld.fieldAddr Tryd.underlying54 rfl rfl Tryd.sizeOf9 rfl rfl rfl) rfl rfl rfl ?_
  refine AO.yld _ (Yld.load Tryd.isAgg9 rfl rfl) rfl rfl rfl ?_
  refine AO.yld _ (Yld.call rfl rfl Tryd.call151 rfl rfl rfl (spec_l01Name_c (by first | assumption | omega)) rfl) rfl rfl rfl ?_
  refine AO.yld _ (Yld.move rfl) rfl rfl rfl ?_
  refine AO.splitAt 8 _ rfl (fun s8 => ?_) (fun s8 => ?_)
  · -- s8 True
    refine AO.yldG _ (Yld.move rfl) rfl rfl rfl rfl rfl ?_
    refine AO.yldG _ (Yld.nilCheck rfl rfl) rfl rfl rfl rfl rfl ?_
    refine AO.yldG _ (Yld.fieldAddr Tryd.underlying54 rfl rfl Tryd.sizeOf2 rfl rfl rfl) rfl rfl rfl rfl rfl ?_
    refine AO.yldG _ (Yld.load Tryd.isAgg2 rfl rfl) rfl rfl rfl rfl rfl ?_
    refine AO.yldG _ (Yld.call rfl rfl Tryd.call97 rfl rfl rfl (spec_l00In_c) rfl) rfl rfl rfl rfl rfl ?_
    refine AO.yld _ (Yld.pickT rfl rfl) rfl rfl rfl ?_
    refine AO.yld _ (Yld.assign rfl) rfl rfl rfl ?_
    refine AO.nil ?_
    refine Pure.ret Tryd.results87 (RVs.cons (RV.tmp rfl) RVs.nil) rfl ?_
    first | rfl | (simp_all [okMedia]; done) | (simp_all [okMedia]; intros; omega) | grind [okMedia]
  · -- s8 False
    refine AO.skipT rfl rfl rfl rfl rfl ?_
    refine AO.skipT rfl rfl rfl rfl rfl ?_
    refine AO.skipT rfl rfl rfl rfl rfl ?_
    refine AO.skipT rfl rfl rfl rfl rfl ?_
    refine AO.skipT rfl rfl rfl rfl rfl ?_
    refine AO.yld _ (Yld.pickF rfl rfl) rfl rfl rfl ?_
    refine AO.yld _ (Yld.assign rfl) rfl rfl rfl ?_
    refine AO.nil ?_
    refine Pure.ret Tryd.results87 (RVs.cons (RV.tmp rfl) RVs.nil) rfl ?_
    first | rfl | (simp_all [okMedia]; done) | (simp_all [okMedia]; intros; omega) | grind [okMedia]

theorem impl_validFile_c {x : NV} (hs : x.name.length ≤ 1048576) :
    Pure Tryd.prog 89 [.agg (encNV x)] (.v (.bool (okMedia x))) := by
  refine Pure.intro Tryd.func89 rfl Tryd.ntmps89 rfl rfl (fun w => ?_)
  refine AC.seq ?_
  refine AC.region ?_
  refine AO.box 0 rfl rfl rfl rfl rfl ?_
  refine AO.yld _ (Yld.assign rfl) rfl rfl rfl ?_
  refine AO.nil ?_
  refine AC.seq ?_
  refine AC.region ?_
  refine AO.yld _ (Yld.fieldAddr Tryd.underlying54 rfl rfl Tryd.sizeOf9 rfl rfl rfl) rfl rfl rfl ?_
  refine AO.yld _ (Yld.load Tryd.isAgg9 rfl rfl) rfl rfl rfl ?_
  refine AO.yld _ (Yld.call rfl rfl Tryd.call76 rfl rfl rfl (impl_IsName_c (by first | assumption | omega)) rfl) rfl rfl rfl ?_
  refine AO.yld _ (Yld.move rfl) rfl rfl rfl ?_
  refine AO.splitAt 6 _ rfl (fun s6 => ?_) (fun s6 => ?_)
  · -- s6 True
    refine AO.yldG _ (Yld.fieldAddr Tryd.underlying54 rfl rfl Tryd.sizeOf2 rfl rfl rfl) rfl rfl rfl rfl rfl ?_
    refine AO.yldG _ (Yld.load Tryd.isAgg2 rfl rfl) rfl rfl rfl rfl rfl ?_
    refine AO.yldG _ (Yld.call rfl rfl Tryd.call80 rfl rfl rfl (impl_within_c) rfl) rfl rfl rfl rfl rfl ?_
    refine AO.yld _ (Yld.pickT rfl rfl) rfl rfl rfl ?_
    refine AO.yld _ (Yld.assign rfl) rfl rfl rfl ?_
    refine AO.nil ?_
    refine Pure.ret Tryd.results89 (RVs.cons (RV.tmp rfl) RVs.nil) rfl ?_
    first | rfl | (simp_all [okMedia]; done) | (simp_all [okMedia]; intros; omega) | grind [okMedia]
  · -- s6 False
    refine AO.skipT rfl rfl rfl rfl rfl ?_
    refine AO.skipT rfl rfl rfl rfl rfl ?_
    refine AO.skipT rfl rfl rfl rfl rfl ?_
    refine AO.yld _ (Yld.pickF rfl rfl) rfl rfl rfl ?_
    refine AO.yld _ (Yld.assign rfl) rfl rfl rfl ?_
    refine AO.nil ?_
    refine Pure.ret Tryd.results89 (RVs.cons (RV.tmp rfl) RVs.nil) rfl ?_
    first | rfl | (simp_all [okMedia]; done) | (simp_all [okMedia]; intros; omega) | grind [okMedia]

theorem spec_l27Setting_c {x : NV} (hs : x.name.length ≤ 1048576) :
    Pure Tryd.prog 158 [.ptr (encNV x)] (.v (.bool (okSetting x))) := by
  refine Pure.intro Tryd.func158 rfl Tryd.ntmps158 rfl rfl (fun w => ?_)
  refine AC.seq ?_
  refine AC.region ?_
  refine AO.yld _ (Yld.assign rfl) rfl rfl rfl ?_
  refine AO.nil ?_
  refine AC.seq ?_
  refine AC.region ?_
  refine AO.yld _ (Yld.move rfl) rfl rfl rfl ?_
  refine AO.yld _ (Yld.nilCheck rfl rfl) rfl rfl rfl ?_
  refine AO.yld _ (Yld.fieldAddr Tryd.underlying146 rfl rfl Tryd.sizeOf9 rfl rfl rfl) rfl rfl rfl ?_
  refine AO.yld _ (Yld.load Tryd.isAgg9 rfl rfl) rfl rfl rfl ?_
  refine AO.yld _ (Yld.call rfl rfl Tryd.call151 rfl rfl rfl (spec_l01Name_c (by first | assumption | omega)) rfl) rfl rfl rfl ?_
  refine AO.yld _ (Yld.move rfl) rfl rfl rfl ?_
  refine AO.splitAt 8 _ rfl (fun s8 => ?_) (fun s8 => ?_)
  · -- s8 True
    refine AO.yldG _ (Yld.move rfl) rfl rfl rfl rfl rfl ?_
    refine AO.yldG _ (Yld.nilCheck rfl rfl) rfl rfl rfl rfl rfl ?_
    refine AO.yldG _ (Yld.fieldAddr Tryd.underlying146 rfl rfl Tryd.sizeOf2 rfl rfl rfl) rfl rfl rfl rfl rfl ?_
    refine AO.yldG _ (Yld.load Tryd.isAgg2 rfl rfl) rfl rfl rfl rfl rfl ?_
    refine AO.yldG _ (Yld.call rfl rfl Tryd.call97 rfl rfl rfl (spec_l00In_c) rfl) rfl rfl rfl rfl rfl ?_
    refine AO.yld _ (Yld.pickT rfl rfl) rfl rfl rfl ?_
    refine AO.yld _ (Yld.assign rfl) rfl rfl rfl ?_
    refine AO.nil ?_
    refine Pure.ret Tryd.results158 (RVs.cons (RV.tmp rfl) RVs.nil) rfl ?_
    first | rfl | (simp_all [okSetting]; done) | (simp_all [okSetting]; intros; omega) | grind [okSetting]
  · -- s8 False
    refine AO.skipT rfl rfl rfl rfl rfl ?_
    refine AO.skipT rfl rfl rfl rfl rfl ?_
    refine AO.skipT rfl rfl rfl rfl rfl ?_
    refine AO.skipT rfl rfl rfl rfl rfl ?_
    refine AO.skipT rfl rfl rfl rfl rfl ?_
    refine AO.yld _ (Yld.pickF rfl rfl) rfl rfl rfl ?_
    refine AO.yld _ (Yld.assign rfl) rfl rfl rfl ?_
    refine AO.nil ?_
    refine Pure.ret Tryd.results158 (RVs.cons (RV.tmp rfl) RVs.nil) rfl ?_
    first | rfl | (simp_all [okSetting]; done) | (simp_all [okSetting]; intros; omega) | grind [okSetting]

theorem impl_validSetting_c {x : NV} (hs : x.name.length ≤ 1048576) :
    Pure Tryd.prog 130 [.agg (encNV x)] (.v (.bool (okSetting x))) := by
  refine Pure.intro Tryd.func130 rfl Tryd.ntmps130 rfl rfl (fun w => ?_)
  refine AC.seq ?_
  refine AC.region ?_
  refine AO.box 0 rfl rfl rfl rfl rfl ?_
  refine AO.yld _ (Yld.assign rfl) rfl rfl rfl ?_
  refine AO.nil ?_
  refine AC.seq ?_
  refine AC.region ?_
  refine AO.yld _ (Yld.fieldAddr Tryd.underlying146 rfl rfl Tryd.sizeOf9 rfl rfl rfl) rfl rfl rfl ?_
  refine AO.yld _ (Yld.load Tryd.isAgg9 rfl rfl) rfl rfl rfl ?_
  refine AO.yld _ (Yld.call rfl rfl Tryd.call76 rfl rfl rfl (impl_IsName_c (by first | assumption | omega)) rfl) rfl rfl rfl ?_
  refine AO.yld _ (Yld.move rfl) rfl rfl rfl ?_
  refine AO.splitAt 6 _ rfl (fun s6 => ?_) (fun s6 => ?_)
  · -- s6 True
    refine AO.yldG _ (Yld.fieldAddr Tryd.underlying146 rfl rfl Tryd.sizeOf2 rfl rfl rfl) rfl rfl rfl rfl rfl ?_
    refine AO.yldG _ (Yld.load Tryd.isAgg2 rfl rfl) rfl rfl rfl rfl rfl ?_
    refine AO.yldG _ (Yld.call rfl rfl Tryd.call80 rfl rfl rfl (impl_within_c) rfl) rfl rfl rfl rfl rfl ?_
    refine AO.yld _ (Yld.pickT rfl rfl) rfl rfl rfl ?_
    refine AO.yld _ (Yld.assign rfl) rfl rfl rfl ?_
    refine AO.nil ?_
    refine Pure.ret Tryd.results130 (RVs.cons (RV.tmp rfl) RVs.nil) rfl ?_
    first | rfl | (simp_all [okSetting]; done) | (simp_all [okSetting]; intros; omega) | grind [okSetting]
  · -- s6 False
    refine AO.skipT rfl rfl rfl rfl rfl ?_
    refine AO.skipT rfl rfl rfl rfl rfl ?_
    refine AO.skipT rfl rfl rfl rfl rfl ?_
    refine AO.yld _ (Yld.pickF rfl rfl) rfl rfl rfl ?_
    refine AO.yld _ (Yld.assign rfl) rfl rfl rfl ?_
    refine AO.nil ?_
    refine Pure.ret Tryd.results130 (RVs.cons (RV.tmp rfl) RVs.nil) rfl ?_
    first | rfl | (simp_all [okSetting]; done) | (simp_all [okSetting]; intros; omega) | grind [okSetting]

theorem spec_l27State_c {xs : List NV} (hn : xs.length ≤ 1048576) (hs : ∀ x ∈ xs, x.name.length ≤ 1048576) :
    Pure Tryd.prog 99 [.sl 2 (xs.map encNV)] (.v (.bool (okState xs))) := by
  refine Pure.intro Tryd.func99 rfl Tryd.ntmps99 rfl rfl (fun w => ?_)
  refine AC.seq ?_
  refine AC.region ?_
  refine AO.yld _ (Yld.assign rfl) rfl rfl rfl ?_
  refine AO.nil ?_
  refine AC.seq ?_
  refine AC.seq ?_
  refine AC.region ?_
  refine AO.yld _ (Yld.assign rfl) rfl rfl rfl ?_
  refine AO.nil ?_
  refine AC.block ?_
  refine AC.loopC [(0, _)] [] (fun (k : Nat) => [(3, .p (.v (.int .i64 (k : Int))))]) (fun (k : Nat) => []) (fun (k : Nat) => k ≤ xs.length ∧ okTo okSetting geNV xs k = true) (fun (k : Nat) => xs.length - k) 0 ⟨rfl, trivial⟩ trivial ⟨rfl, trivial⟩ trivial ?_ (fun k hJ => ?_)
  · exact ⟨Nat.zero_le _, rfl⟩
  · -- round
    refine AC.seq ?_
    refine AC.seq ?_
    refine AC.region ?_
    refine AO.yld _ (Yld.move rfl) rfl rfl rfl ?_
    refine AO.yld _ (Yld.move rfl) rfl rfl rfl ?_
    refine AO.yld _ (Yld.len Tryd.underlying72 rfl rfl) rfl rfl rfl ?_
    refine AO.yld _ (Yld.int rfl rfl rfl) rfl rfl rfl ?_
    refine AO.nil ?_
    refine AC.cond _ rfl (fun c7 => ?_) (fun c7 => ?_)
    · -- c7 True
      have hk := lt_of_decM c7
      obtain ⟨x, hx⟩ := get_some hk
      have hrow := map_row (enc := encNV) hx
      have hsx := hs x (List.mem_of_getElem? hx)
      refine AC.skip ?_
      refine AC.seq ?_
      refine AC.block ?_
      refine AC.seq ?_
      refine AC.draw (by kernel_rfl) (by kernel_rfl) ?_
      refine AO.yld _ (Yld.move rfl) rfl rfl rfl ?_
      refine AO.yld _ (Yld.move rfl) rfl rfl rfl ?_
      refine AO.yld _ (Yld.indexSl Tryd.underlying72 Tryd.sizeOf146 rfl rfl hrow rfl) rfl rfl rfl ?_
      refine AO.yld _ (Yld.call rfl rfl Tryd.call158 rfl rfl rfl (spec_l27Setting_c (by first | assumption | omega)) rfl) rfl rfl rfl ?_
      refine AO.yld _ (Yld.not rfl) rfl rfl rfl ?_
      refine AO.yld _ (Yld.move rfl) rfl rfl rfl ?_
      refine AO.splitAt 15 _ rfl (fun s15 => ?_) (fun s15 => ?_)
      · -- s15 True
        refine AO.skipF rfl rfl rfl rfl rfl ?_
        refine AO.skipF rfl rfl rfl rfl rfl ?_
        refine AO.skipF rfl rfl rfl rfl rfl ?_
        refine AO.skipU rfl rfl rfl rfl rfl ?_
        refine AO.skipU rfl rfl rfl rfl rfl ?_
        refine AO.skipU rfl rfl rfl rfl rfl ?_
        refine AO.skipU rfl rfl rfl rfl rfl ?_
        refine AO.skipU rfl rfl rfl rfl rfl ?_
        refine AO.skipU rfl rfl rfl rfl rfl ?_
        refine AO.skipU rfl rfl rfl rfl rfl ?_
        refine AO.skipU rfl rfl rfl rfl rfl ?_
        refine AO.skipU rfl rfl rfl rfl rfl ?_
        refine AO.skipU rfl rfl rfl rfl rfl ?_
        refine AO.skipU rfl rfl rfl rfl rfl ?_
        refine AO.skipU rfl rfl rfl rfl rfl ?_
        refine AO.skipF rfl rfl rfl rfl rfl ?_
        refine AO.yld _ (Yld.pickT rfl rfl) rfl rfl rfl ?_
        refine AO.nil ?_
        refine AC.condT rfl ?_
        refine AC.seq ?_
        refine AC.region ?_
        refine AO.yld _ (Yld.assign rfl) rfl rfl rfl ?_
        refine AO.nil ?_
        refine Pure.ret Tryd.results99 (RVs.cons (RV.tmp rfl) RVs.nil) rfl ?_
        first
          | (exact cb (by unfold okState; rw [ok_one (one := okSetting) (ge := geNV) hx (by simpa using s15)]; simp))
          | (exact cb (by unfold okState; rw [ok_ge (one := okSetting) (ge := geNV) hx hk0 hy c32]; simp))
          | (exact cb (by rw [okState, ok_all hJ.2]; grind))
          | (exact cb (by unfold okState; grind))
          | (exact cb (by simp_all [okState]))
      · -- s15 False
        refine AO.yldG _ (Yld.move rfl) rfl rfl rfl rfl rfl ?_
        refine AO.yldG _ (Yld.int rfl rfl rfl) rfl rfl rfl rfl rfl ?_
        refine AO.yldG _ (Yld.move rfl) rfl rfl rfl rfl rfl ?_
        refine AO.splitAt 18 _ rfl (fun s18 => ?_) (fun s18 => ?_)
        · -- s18 True
          have hk0 : 0 < k := by simpa using s18
          obtain ⟨y, hy⟩ := get_some (xs := xs) (k := k - 1) (by omega)
          have hrow2 := map_row (enc := encNV) hy
          refine AO.yldG _ (Yld.move rfl) rfl rfl rfl rfl rfl ?_
          refine AO.yldG _ (Yld.move rfl) rfl rfl rfl rfl rfl ?_
          refine AO.yldG _ (Yld.sub rfl rfl (by omega) (by omega)) rfl rfl rfl rfl rfl ?_
          refine AO.yldG _ (Yld.indexSl Tryd.underlying72 Tryd.sizeOf146 rfl rfl hrow2 (by omega)) rfl rfl rfl rfl rfl ?_
          refine AO.yldG _ (Yld.fieldAddr Tryd.underlying146 rfl rfl Tryd.sizeOf9 rfl rfl rfl) rfl rfl rfl rfl rfl ?_
          refine AO.yldG _ (Yld.load Tryd.isAgg9 rfl rfl) rfl rfl rfl rfl rfl ?_
          refine AO.yldG _ (Yld.move rfl) rfl rfl rfl rfl rfl ?_
          refine AO.yldG _ (Yld.move rfl) rfl rfl rfl rfl rfl ?_
          refine AO.yldG _ (Yld.indexSl Tryd.underlying72 Tryd.sizeOf146 rfl rfl hrow rfl) rfl rfl rfl rfl rfl ?_
          refine AO.yldG _ (Yld.fieldAddr Tryd.underlying146 rfl rfl Tryd.sizeOf9 rfl rfl rfl) rfl rfl rfl rfl rfl ?_
          refine AO.yldG _ (Yld.load Tryd.isAgg9 rfl rfl) rfl rfl rfl rfl rfl ?_
          refine AO.yldG _ (Yld.cmpStr rfl rfl rfl) rfl rfl rfl rfl rfl ?_
          refine AO.yldG _ (Yld.pickT rfl rfl) rfl rfl rfl rfl rfl ?_
          refine AO.yld _ (Yld.pickF rfl rfl) rfl rfl rfl ?_
          refine AO.nil ?_
          refine AC.cond _ rfl (fun c32 => ?_) (fun c32 => ?_)
          · -- c32 True
            refine AC.seq ?_
            refine AC.region ?_
            refine AO.yld _ (Yld.assign rfl) rfl rfl rfl ?_
            refine AO.nil ?_
            refine Pure.ret Tryd.results99 (RVs.cons (RV.tmp rfl) RVs.nil) rfl ?_
            first
              | (exact cb (by unfold okState; rw [ok_one (one := okSetting) (ge := geNV) hx (by simpa using s15)]; simp))
              | (exact cb (by unfold okState; rw [ok_ge (one := okSetting) (ge := geNV) hx hk0 hy c32]; simp))
              | (exact cb (by rw [okState, ok_all hJ.2]; grind))
              | (exact cb (by unfold okState; grind))
              | (exact cb (by simp_all [okState]))
          · -- c32 False
            refine AC.skip ?_
            refine AC.mark ?_
            refine AC.region ?_
            refine AO.yld _ (Yld.move rfl) rfl rfl rfl ?_
            refine AO.yld _ (Yld.add rfl rfl (by omega) (by omega)) rfl rfl rfl ?_
            refine AO.yld _ (Yld.assign rfl) rfl rfl rfl ?_
            refine AO.nil ?_
            refine AC.back ⟨k + 1, ?_, ?_, ⟨?_, trivial⟩, trivial, ⟨rfl, trivial⟩, trivial⟩
            · exact ⟨hk, by first | exact ok_first hJ.2 hx (by simpa using s15) (by simp at s18; omega) | exact ok_next hJ.2 hx (by simpa using s15) hk0 hy c32⟩
            · omega
            · rfl
        · -- s18 False
          refine AO.skipT rfl rfl rfl rfl rfl ?_
          refine AO.skipT rfl rfl rfl rfl rfl ?_
          refine AO.skipT rfl rfl rfl rfl rfl ?_
          refine AO.skipT rfl rfl rfl rfl rfl ?_
          refine AO.skipT rfl rfl rfl rfl rfl ?_
          refine AO.skipT rfl rfl rfl rfl rfl ?_
          refine AO.skipT rfl rfl rfl rfl rfl ?_
          refine AO.skipT rfl rfl rfl rfl rfl ?_
          refine AO.skipT rfl rfl rfl rfl rfl ?_
          refine AO.skipT rfl rfl rfl rfl rfl ?_
          refine AO.skipT rfl rfl rfl rfl rfl ?_
          refine AO.skipT rfl rfl rfl rfl rfl ?_
          refine AO.yldG _ (Yld.pickF rfl rfl) rfl rfl rfl rfl rfl ?_
          refine AO.yld _ (Yld.pickF rfl rfl) rfl rfl rfl ?_
          refine AO.nil ?_
          refine AC.condF rfl ?_
          refine AC.skip ?_
          refine AC.mark ?_
          refine AC.region ?_
          refine AO.yld _ (Yld.move rfl) rfl rfl rfl ?_
          refine AO.yld _ (Yld.add rfl rfl (by omega) (by omega)) rfl rfl rfl ?_
          refine AO.yld _ (Yld.assign rfl) rfl rfl rfl ?_
          refine AO.nil ?_
          refine AC.back ⟨k + 1, ?_, ?_, ⟨?_, trivial⟩, trivial, ⟨rfl, trivial⟩, trivial⟩
          · exact ⟨hk, by first | exact ok_first hJ.2 hx (by simpa using s15) (by simp at s18; omega) | exact ok_next hJ.2 hx (by simpa using s15) hk0 hy c32⟩
          · omega
          · rfl
    · -- c7 False
      obtain rfl : k = xs.length := by have := ge_of_decM c7; omega
      refine AC.exit rfl ?_
      refine AC.seq ?_
      refine AC.region ?_
      refine AO.yld _ (Yld.move rfl) rfl rfl rfl ?_
      refine AO.yld _ (Yld.len Tryd.underlying72 rfl rfl) rfl rfl rfl ?_
      refine AO.yld _ (Yld.int rfl rfl rfl) rfl rfl rfl ?_
      refine AO.yld _ (Yld.assign rfl) rfl rfl rfl ?_
      refine AO.nil ?_
      refine Pure.ret Tryd.results99 (RVs.cons (RV.tmp rfl) RVs.nil) rfl ?_
      first
        | (exact cb (by unfold okState; rw [ok_one (one := okSetting) (ge := geNV) hx (by simpa using s15)]; simp))
        | (exact cb (by unfold okState; rw [ok_ge (one := okSetting) (ge := geNV) hx hk0 hy c32]; simp))
        | (exact cb (by rw [okState, ok_all hJ.2]; grind))
        | (exact cb (by unfold okState; grind))
        | (exact cb (by simp_all [okState]))

theorem impl_ValidState_c {xs : List NV} (hn : xs.length ≤ 1048576) (hs : ∀ x ∈ xs, x.name.length ≤ 1048576) :
    Pure Tryd.prog 103 [.sl 2 (xs.map encNV)] (.v (.bool (okState xs))) := by
  refine Pure.intro Tryd.func103 rfl Tryd.ntmps103 rfl rfl (fun w => ?_)
  refine AC.seq ?_
  refine AC.region ?_
  refine AO.yld _ (Yld.assign rfl) rfl rfl rfl ?_
  refine AO.nil ?_
  refine AC.seq ?_
  refine AC.seq ?_
  refine AC.region ?_
  refine AO.yld _ (Yld.move rfl) rfl rfl rfl ?_
  refine AO.yld _ (Yld.len Tryd.underlying72 rfl rfl) rfl rfl rfl ?_
  refine AO.yld _ (Yld.int rfl rfl rfl) rfl rfl rfl ?_
  refine AO.nil ?_
  refine AC.cond _ rfl (fun c7 => ?_) (fun c7 => ?_)
  · -- c7 True
    refine AC.seq ?_
    refine AC.region ?_
    refine AO.yld _ (Yld.assign rfl) rfl rfl rfl ?_
    refine AO.nil ?_
    refine Pure.ret Tryd.results103 (RVs.cons (RV.tmp rfl) RVs.nil) rfl ?_
    first
      | (exact cb (by unfold okState; rw [ok_one (one := okSetting) (ge := geNV) hx (by simpa using s18)]; simp))
      | (exact cb (by unfold okState; rw [ok_ge (one := okSetting) (ge := geNV) hx hk0 hy c32]; simp))
      | (exact cb (by rw [okState, ok_all hJ.2]; grind))
      | (exact cb (by unfold okState; grind))
      | (exact cb (by simp_all [okState]))
  · -- c7 False
    refine AC.skip ?_
    refine AC.seq ?_
    refine AC.seq ?_
    refine AC.region ?_
    refine AO.yld _ (Yld.move rfl) rfl rfl rfl ?_
    refine AO.yld _ (Yld.len Tryd.underlying72 rfl rfl) rfl rfl rfl ?_
    refine AO.yld _ (Yld.move rfl) rfl rfl rfl ?_
    refine AO.nil ?_
    refine AC.block ?_
    refine AC.loopC [(0, _), (8, _), (9, _)] [] (fun (k : Nat) => [(10, .p (.v (.int .i64 (k : Int))))]) (fun (k : Nat) => []) (fun (k : Nat) => k ≤ xs.length ∧ okTo okSetting geNV xs k = true) (fun (k : Nat) => xs.length - k) 0 ⟨rfl, rfl, rfl, trivial⟩ trivial ⟨rfl, trivial⟩ trivial ?_ (fun k hJ => ?_)
    · exact ⟨Nat.zero_le _, rfl⟩
    · -- round
      refine AC.seq ?_
      refine AC.region ?_
      refine AO.yld _ (Yld.int rfl rfl rfl) rfl rfl rfl ?_
      refine AO.nil ?_
      refine AC.seq ?_
      refine AC.cond _ rfl (fun c11 => ?_) (fun c11 => ?_)
      · -- c11 True
        have hk := lt_of_decM c11
        obtain ⟨x, hx⟩ := get_some hk
        have hrow := map_row (enc := encNV) hx
        have hsx := hs x (List.mem_of_getElem? hx)
        refine AC.skip ?_
        refine AC.seq ?_
        refine AC.block ?_
        refine AC.seq ?_
        refine AC.region ?_
        refine AO.yld _ (Yld.move rfl) rfl rfl rfl ?_
        refine AO.yld _ (Yld.indexSl Tryd.underlying72 Tryd.sizeOf146 rfl rfl hrow rfl) rfl rfl rfl ?_
        refine AO.yld _ (Yld.loadAgg Tryd.isAgg146 Tryd.sizeOf146 rfl rfl rfl rfl) rfl rfl rfl ?_
        refine AO.alloc 0 Tryd.zeroValue146 rfl rfl rfl ?_
        refine AO.yld _ (Yld.assign rfl) rfl rfl rfl ?_
        refine AO.store Tryd.sizeOf146 rfl rfl rfl rfl rfl rfl ?_
        refine AO.nil ?_
        refine AC.seq ?_
        refine AC.draw (by kernel_rfl) (by kernel_rfl) ?_
        refine AO.yld _ (Yld.loadAgg Tryd.isAgg146 Tryd.sizeOf146 rfl rfl rfl rfl) rfl rfl rfl ?_
        refine AO.yld _ (Yld.call rfl rfl Tryd.call130 rfl rfl rfl (impl_validSetting_c (by first | assumption | omega)) rfl) rfl rfl rfl ?_
        refine AO.yld _ (Yld.not rfl) rfl rfl rfl ?_
        refine AO.yld _ (Yld.move rfl) rfl rfl rfl ?_
        refine AO.splitAt 18 _ rfl (fun s18 => ?_) (fun s18 => ?_)
        · -- s18 True
          refine AO.skipF rfl rfl rfl rfl rfl ?_
          refine AO.skipF rfl rfl rfl rfl rfl ?_
          refine AO.skipF rfl rfl rfl rfl rfl ?_
          refine AO.skipU rfl rfl rfl rfl rfl ?_
          refine AO.skipU rfl rfl rfl rfl rfl ?_
          refine AO.skipU rfl rfl rfl rfl rfl ?_
          refine AO.skipU rfl rfl rfl rfl rfl ?_
          refine AO.skipU rfl rfl rfl rfl rfl ?_
          refine AO.skipU rfl rfl rfl rfl rfl ?_
          refine AO.skipU rfl rfl rfl rfl rfl ?_
          refine AO.skipU rfl rfl rfl rfl rfl ?_
          refine AO.skipU rfl rfl rfl rfl rfl ?_
          refine AO.skipF rfl rfl rfl rfl rfl ?_
          refine AO.yld _ (Yld.pickT rfl rfl) rfl rfl rfl ?_
          refine AO.nil ?_
          refine AC.condT rfl ?_
          refine AC.seq ?_
          refine AC.region ?_
          refine AO.yld _ (Yld.assign rfl) rfl rfl rfl ?_
          refine AO.nil ?_
          refine Pure.ret Tryd.results103 (RVs.cons (RV.tmp rfl) RVs.nil) rfl ?_
          first
            | (exact cb (by unfold okState; rw [ok_one (one := okSetting) (ge := geNV) hx (by simpa using s18)]; simp))
            | (exact cb (by unfold okState; rw [ok_ge (one := okSetting) (ge := geNV) hx hk0 hy c32]; simp))
            | (exact cb (by rw [okState, ok_all hJ.2]; grind))
            | (exact cb (by unfold okState; grind))
            | (exact cb (by simp_all [okState]))
        · -- s18 False
          refine AO.yldG _ (Yld.move rfl) rfl rfl rfl rfl rfl ?_
          refine AO.yldG _ (Yld.int rfl rfl rfl) rfl rfl rfl rfl rfl ?_
          refine AO.yldG _ (Yld.move rfl) rfl rfl rfl rfl rfl ?_
          refine AO.splitAt 21 _ rfl (fun s21 => ?_) (fun s21 => ?_)
          · -- s21 True
            have hk0 : 0 < k := by simpa using s21
            obtain ⟨y, hy⟩ := get_some (xs := xs) (k := k - 1) (by omega)
            have hrow2 := map_row (enc := encNV) hy
            refine AO.yldG _ (Yld.move rfl) rfl rfl rfl rfl rfl ?_
            refine AO.yldG _ (Yld.move rfl) rfl rfl rfl rfl rfl ?_
            refine AO.yldG _ (Yld.sub rfl rfl (by omega) (by omega)) rfl rfl rfl rfl rfl ?_
            refine AO.yldG _ (Yld.indexSl Tryd.underlying72 Tryd.sizeOf146 rfl rfl hrow2 (by omega)) rfl rfl rfl rfl rfl ?_
            refine AO.yldG _ (Yld.fieldAddr Tryd.underlying146 rfl rfl Tryd.sizeOf9 rfl rfl rfl) rfl rfl rfl rfl rfl ?_
            refine AO.yldG _ (Yld.load Tryd.isAgg9 rfl rfl) rfl rfl rfl rfl rfl ?_
            refine AO.yldG _ (Yld.fieldAddr Tryd.underlying146 rfl rfl Tryd.sizeOf9 rfl rfl rfl) rfl rfl rfl rfl rfl ?_
            refine AO.yldG _ (Yld.load Tryd.isAgg9 rfl rfl) rfl rfl rfl rfl rfl ?_
            refine AO.yldG _ (Yld.cmpStr rfl rfl rfl) rfl rfl rfl rfl rfl ?_
            refine AO.yldG _ (Yld.pickT rfl rfl) rfl rfl rfl rfl rfl ?_
            refine AO.yld _ (Yld.pickF rfl rfl) rfl rfl rfl ?_
            refine AO.nil ?_
            refine AC.cond _ rfl (fun c32 => ?_) (fun c32 => ?_)
            · -- c32 True
              refine AC.seq ?_
              refine AC.region ?_
              refine AO.yld _ (Yld.assign rfl) rfl rfl rfl ?_
              refine AO.nil ?_
              refine Pure.ret Tryd.results103 (RVs.cons (RV.tmp rfl) RVs.nil) rfl ?_
              first
                | (exact cb (by unfold okState; rw [ok_one (one := okSetting) (ge := geNV) hx (by simpa using s18)]; simp))
                | (exact cb (by unfold okState; rw [ok_ge (one := okSetting) (ge := geNV) hx hk0 hy c32]; simp))
                | (exact cb (by rw [okState, ok_all hJ.2]; grind))
                | (exact cb (by unfold okState; grind))
                | (exact cb (by simp_all [okState]))
            · -- c32 False
              refine AC.skip ?_
              refine AC.mark ?_
              refine AC.region ?_
              refine AO.yld _ (Yld.add rfl rfl (by omega) (by omega)) rfl rfl rfl ?_
              refine AO.yld _ (Yld.move rfl) rfl rfl rfl ?_
              refine AO.nil ?_
              refine AC.back ⟨k + 1, ?_, ?_, ⟨?_, trivial⟩, trivial, ⟨rfl, rfl, rfl, trivial⟩, trivial⟩
              · exact ⟨hk, by first | exact ok_first hJ.2 hx (by simpa using s18) (by simp at s21; omega) | exact ok_next hJ.2 hx (by simpa using s18) hk0 hy c32⟩
              · omega
              · rfl
          · -- s21 False
            refine AO.skipT rfl rfl rfl rfl rfl ?_
            refine AO.skipT rfl rfl rfl rfl rfl ?_
            refine AO.skipT rfl rfl rfl rfl rfl ?_
            refine AO.skipT rfl rfl rfl rfl rfl ?_
            refine AO.skipT rfl rfl rfl rfl rfl ?_
            refine AO.skipT rfl rfl rfl rfl rfl ?_
            refine AO.skipT rfl rfl rfl rfl rfl ?_
            refine AO.skipT rfl rfl rfl rfl rfl ?_
            refine AO.skipT rfl rfl rfl rfl rfl ?_
            refine AO.yldG _ (Yld.pickF rfl rfl) rfl rfl rfl rfl rfl ?_
            refine AO.yld _ (Yld.pickF rfl rfl) rfl rfl rfl ?_
            refine AO.nil ?_
            refine AC.condF rfl ?_
            refine AC.skip ?_
            refine AC.mark ?_
            refine AC.region ?_
            refine AO.yld _ (Yld.add rfl rfl (by omega) (by omega)) rfl rfl rfl ?_
            refine AO.yld _ (Yld.move rfl) rfl rfl rfl ?_
            refine AO.nil ?_
            refine AC.back ⟨k + 1, ?_, ?_, ⟨?_, trivial⟩, trivial, ⟨rfl, rfl, rfl, trivial⟩, trivial⟩
            · exact ⟨hk, by first | exact ok_first hJ.2 hx (by simpa using s18) (by simp at s21; omega) | exact ok_next hJ.2 hx (by simpa using s18) hk0 hy c32⟩
            · omega
            · rfl
      · -- c11 False
        obtain rfl : k = xs.length := by have := ge_of_decM c11; omega
        refine AC.exit rfl ?_
        refine AC.seq ?_
        refine AC.region ?_
        refine AO.yld _ (Yld.assign rfl) rfl rfl rfl ?_
        refine AO.nil ?_
        refine Pure.ret Tryd.results103 (RVs.cons (RV.tmp rfl) RVs.nil) rfl ?_
        first
          | (exact cb (by unfold okState; rw [ok_one (one := okSetting) (ge := geNV) hx (by simpa using s18)]; simp))
          | (exact cb (by unfold okState; rw [ok_ge (one := okSetting) (ge := geNV) hx hk0 hy c32]; simp))
          | (exact cb (by rw [okState, ok_all hJ.2]; grind))
          | (exact cb (by unfold okState; grind))
          | (exact cb (by simp_all [okState]))

theorem spec_ValidMachines_c {xs : List Mach} (hn : xs.length ≤ 1048576) (hs : ∀ x ∈ xs, x.name.length ≤ 1048576) :
    Pure Tryd.prog 21 [.sl 3 (xs.map encMach)] (.v (.bool (okMachines xs))) := by
  refine Pure.intro Tryd.func21 rfl Tryd.ntmps21 rfl rfl (fun w => ?_)
  refine AC.seq ?_
  refine AC.region ?_
  refine AO.yld _ (Yld.assign rfl) rfl rfl rfl ?_
  refine AO.nil ?_
  refine AC.seq ?_
  refine AC.region ?_
  refine AO.yld _ (Yld.move rfl) rfl rfl rfl ?_
  refine AO.yld _ (Yld.call rfl rfl Tryd.call81 rfl rfl rfl (spec_l26Ok_c (by first | assumption | omega) (by assumption)) rfl) rfl rfl rfl ?_
  refine AO.yld _ (Yld.assign rfl) rfl rfl rfl ?_
  refine AO.nil ?_
  refine Pure.ret Tryd.results21 (RVs.cons (RV.tmp rfl) RVs.nil) rfl ?_
  first | rfl | (simp_all; done) | (simp_all; intros; omega) | grind

theorem impl_floorDiv_c {a b : Int} (hb : 0 < b) (a1 : -9223372036854775808 ≤ a) (a2 : a ≤ 9223372036854775807) :
    Pure Tryd.prog 82 [.v (.int .i64 a), .v (.int .i64 b)] (.v (.int .i64 (a / b))) := by
  refine Pure.intro Tryd.func82 rfl Tryd.ntmps82 rfl rfl (fun w => ?_)
  refine AC.seq ?_
  refine AC.region ?_
  refine AO.yld _ (Yld.assign rfl) rfl rfl rfl ?_
  refine AO.nil ?_
  refine AC.seq ?_
  refine AC.region ?_
  refine AO.yld _ (Yld.move rfl) rfl rfl rfl ?_
  refine AO.yld _ (Yld.move rfl) rfl rfl rfl ?_
  refine AO.yld _ (Yld.quoP rfl rfl (by omega) (by omega) (by omega)) rfl rfl rfl ?_
  refine AO.yld _ (Yld.assign rfl) rfl rfl rfl ?_
  refine AO.nil ?_
  refine AC.seq ?_
  refine AC.seq ?_
  refine AC.region ?_
  refine AO.yld _ (Yld.move rfl) rfl rfl rfl ?_
  refine AO.yld _ (Yld.move rfl) rfl rfl rfl ?_
  refine AO.yld _ (Yld.rem rfl rfl (by omega)) rfl rfl rfl ?_
  refine AO.yld _ (Yld.int rfl rfl rfl) rfl rfl rfl ?_
  refine AO.nil ?_
  refine AC.cond _ rfl (fun c12 => ?_) (fun c12 => ?_)
  · -- c12 True
    refine AC.region ?_
    refine AO.yld _ (Yld.move rfl) rfl rfl rfl ?_
    refine AO.yld _ (Yld.sub rfl rfl (by have := floor_range hb a1 (by simpa using c12); omega) (by have := floor_range hb a1 (by simpa using c12); omega)) rfl rfl rfl ?_
    refine AO.yld _ (Yld.assign rfl) rfl rfl rfl ?_
    refine AO.nil ?_
    refine AC.seq ?_
    refine AC.region ?_
    refine AO.yld _ (Yld.move rfl) rfl rfl rfl ?_
    refine AO.yld _ (Yld.assign rfl) rfl rfl rfl ?_
    refine AO.nil ?_
    refine Pure.ret Tryd.results82 (RVs.cons (RV.tmp rfl) RVs.nil) rfl ?_
    first
      | exact ci (floor_low hb (by simp_all)).symm
      | exact ci (floor_up hb (by simp_all)).symm
  · -- c12 False
    refine AC.skip ?_
    refine AC.seq ?_
    refine AC.region ?_
    refine AO.yld _ (Yld.move rfl) rfl rfl rfl ?_
    refine AO.yld _ (Yld.assign rfl) rfl rfl rfl ?_
    refine AO.nil ?_
    refine Pure.ret Tryd.results82 (RVs.cons (RV.tmp rfl) RVs.nil) rfl ?_
    first
      | exact ci (floor_low hb (by simp_all)).symm
      | exact ci (floor_up hb (by simp_all)).symm

theorem impl_OffsetOf_c {x : Sample} :
    Pure Tryd.prog 22 [.agg (encSample x)] (.tup [.v (.int .i64 (offsetOf x).1), .v (.int .i64 (offsetOf x).2.1), .v (.int .i64 (offsetOf x).2.2)]) := by
  refine Pure.intro Tryd.func22 rfl Tryd.ntmps22 rfl rfl (fun w => ?_)
  refine AC.seq ?_
  refine AC.region ?_
  refine AO.box 0 rfl rfl rfl rfl rfl ?_
  refine AO.yld _ (Yld.assign rfl) rfl rfl rfl ?_
  refine AO.yld _ (Yld.assign rfl) rfl rfl rfl ?_
  refine AO.yld _ (Yld.assign rfl) rfl rfl rfl ?_
  refine AO.nil ?_
  refine AC.seq ?_
  refine AC.seq ?_
  refine AC.region ?_
  refine AO.yld _ (Yld.loadAgg Tryd.isAgg45 Tryd.sizeOf45 rfl rfl rfl rfl) rfl rfl rfl ?_
  refine AO.yld _ (Yld.call rfl rfl Tryd.call79 rfl rfl rfl (impl_ValidSample_c) rfl) rfl rfl rfl ?_
  refine AO.yld _ (Yld.not rfl) rfl rfl rfl ?_
  refine AO.nil ?_
  refine AC.cond _ rfl (fun c7 => ?_) (fun c7 => ?_)
  · -- c7 True
    refine AC.seq ?_
    refine AC.region ?_
    refine AO.yld _ (Yld.assign rfl) rfl rfl rfl ?_
    refine AO.yld _ (Yld.assign rfl) rfl rfl rfl ?_
    refine AO.yld _ (Yld.assign rfl) rfl rfl rfl ?_
    refine AO.nil ?_
    refine Pure.retT Tryd.results22 (RVs.cons (RV.tmp rfl) (RVs.cons (RV.tmp rfl) (RVs.cons (RV.tmp rfl) RVs.nil))) rfl ?_
    simp_all [offsetOf, okSample]
  · -- c7 False
    have hl := sample_lim (x := x) (by simpa [okSample] using c7)
    refine AC.skip ?_
    refine AC.seq ?_
    refine AC.draw (by kernel_rfl) (by kernel_rfl) ?_
    refine AO.yld _ (Yld.fieldAddr Tryd.underlying45 rfl rfl Tryd.sizeOf2 rfl rfl rfl) rfl rfl rfl ?_
    refine AO.yld _ (Yld.load Tryd.isAgg2 rfl rfl) rfl rfl rfl ?_
    refine AO.yld _ (Yld.mul rfl rfl (by omega) (by omega)) rfl rfl rfl ?_
    refine AO.yld _ (Yld.fieldAddr Tryd.underlying45 rfl rfl Tryd.sizeOf2 rfl rfl rfl) rfl rfl rfl ?_
    refine AO.yld _ (Yld.load Tryd.isAgg2 rfl rfl) rfl rfl rfl ?_
    refine AO.yld _ (Yld.sub rfl rfl (by omega) (by omega)) rfl rfl rfl ?_
    refine AO.yld _ (Yld.fieldAddr Tryd.underlying45 rfl rfl Tryd.sizeOf2 rfl rfl rfl) rfl rfl rfl ?_
    refine AO.yld _ (Yld.load Tryd.isAgg2 rfl rfl) rfl rfl rfl ?_
    refine AO.yld _ (Yld.sub rfl rfl (by omega) (by omega)) rfl rfl rfl ?_
    refine AO.yld _ (Yld.call rfl rfl Tryd.call82 rfl rfl rfl (impl_floorDiv_c (by omega) (by omega) (by omega)) rfl) rfl rfl rfl ?_
    refine AO.yld _ (Yld.fieldAddr Tryd.underlying45 rfl rfl Tryd.sizeOf2 rfl rfl rfl) rfl rfl rfl ?_
    refine AO.yld _ (Yld.load Tryd.isAgg2 rfl rfl) rfl rfl rfl ?_
    refine AO.yld _ (Yld.fieldAddr Tryd.underlying45 rfl rfl Tryd.sizeOf2 rfl rfl rfl) rfl rfl rfl ?_
    refine AO.yld _ (Yld.load Tryd.isAgg2 rfl rfl) rfl rfl rfl ?_
    refine AO.yld _ (Yld.sub rfl rfl (by omega) (by omega)) rfl rfl rfl ?_
    refine AO.yld _ (Yld.assign rfl) rfl rfl rfl ?_
    refine AO.yld _ (Yld.assign rfl) rfl rfl rfl ?_
    refine AO.yld _ (Yld.assign rfl) rfl rfl rfl ?_
    refine AO.nil ?_
    refine Pure.retT Tryd.results22 (RVs.cons (RV.tmp rfl) (RVs.cons (RV.tmp rfl) (RVs.cons (RV.tmp rfl) RVs.nil))) rfl ?_
    simp_all [offsetOf, okSample]

theorem indexFuncSample_c {xs : List Sample} {f : FuncId} {caps : List PV} {p : Sample → Bool} (hn : xs.length ≤ 1048576) (hf : Enters Tryd.prog f) (hp : ∀ x ∈ xs, Pure Tryd.prog f (.agg (encSample x) :: caps) (.v (.bool (p x)))) :
    Pure Tryd.prog 148 [.sl 3 (xs.map encSample), .clo f caps] (.v (.int .i64 (idxOf p xs))) := by
  refine Pure.intro Tryd.func148 rfl Tryd.ntmps148 rfl rfl (fun w => ?_)
  refine AC.seq ?_
  refine AC.region ?_
  refine AO.yld _ (Yld.assign rfl) rfl rfl rfl ?_
  refine AO.nil ?_
  refine AC.seq ?_
  refine AC.seq ?_
  refine AC.region ?_
  refine AO.yld _ (Yld.move rfl) rfl rfl rfl ?_
  refine AO.yld _ (Yld.len Tryd.underlying34 rfl rfl) rfl rfl rfl ?_
  refine AO.yld _ (Yld.move rfl) rfl rfl rfl ?_
  refine AO.nil ?_
  refine AC.block ?_
  refine AC.loopC [(0, _), (1, _), (7, _)] [] (fun (k : Nat) => [(8, .p (.v (.int .i64 (k : Int))))]) (fun (k : Nat) => []) (fun (k : Nat) => k ≤ xs.length ∧ anyTo p xs k = false) (fun (k : Nat) => xs.length - k) 0 ⟨rfl, rfl, rfl, trivial⟩ trivial ⟨rfl, trivial⟩ trivial ?_ (fun k hJ => ?_)
  · exact ⟨Nat.zero_le _, rfl⟩
  · -- round
    refine AC.seq ?_
    refine AC.region ?_
    refine AO.yld _ (Yld.int rfl rfl rfl) rfl rfl rfl ?_
    refine AO.nil ?_
    refine AC.seq ?_
    refine AC.cond _ rfl (fun c9 => ?_) (fun c9 => ?_)
    · -- c9 True
      have hk := lt_of_decM c9
      obtain ⟨x, hx⟩ := get_some hk
      have hrow := map_row (enc := encSample) hx
      refine AC.skip ?_
      refine AC.seq ?_
      refine AC.block ?_
      refine AC.seq ?_
      refine AC.region ?_
      refine AO.yld _ (Yld.move rfl) rfl rfl rfl ?_
      refine AO.yld _ (Yld.assign rfl) rfl rfl rfl ?_
      refine AO.nil ?_
      refine AC.seq ?_
      refine AC.region ?_
      refine AO.yld _ (Yld.move rfl) rfl rfl rfl ?_
      refine AO.yld _ (Yld.move rfl) rfl rfl rfl ?_
      refine AO.yld _ (Yld.move rfl) rfl rfl rfl ?_
      refine AO.yld _ (Yld.indexSl Tryd.underlying34 Tryd.sizeOf45 rfl rfl hrow rfl) rfl rfl rfl ?_
      refine AO.yld _ (Yld.loadAgg Tryd.isAgg45 Tryd.sizeOf45 rfl rfl rfl rfl) rfl rfl rfl ?_
      refine AO.yld _ (Yld.call rfl rfl hf rfl rfl (viewL_p _) (hp x (List.mem_of_getElem? hx)) rfl) rfl rfl rfl ?_
      refine AO.nil ?_
      refine AC.cond _ rfl (fun c16 => ?_) (fun c16 => ?_)
      · -- c16 True
        refine AC.seq ?_
        refine AC.region ?_
        refine AO.yld _ (Yld.move rfl) rfl rfl rfl ?_
        refine AO.yld _ (Yld.assign rfl) rfl rfl rfl ?_
        refine AO.nil ?_
        refine Pure.ret Tryd.results148 (RVs.cons (RV.tmp rfl) RVs.nil) rfl ?_
        first
          | exact ci (idx_hit hJ.2 hx (by simpa using c16))
          | exact ci (idx_miss hJ.2)
      · -- c16 False
        refine AC.skip ?_
        refine AC.mark ?_
        refine AC.region ?_
        refine AO.yld _ (Yld.add rfl rfl (by omega) (by omega)) rfl rfl rfl ?_
        refine AO.yld _ (Yld.move rfl) rfl rfl rfl ?_
        refine AO.nil ?_
        refine AC.back ⟨k + 1, ?_, ?_, ⟨?_, trivial⟩, trivial, ⟨rfl, rfl, rfl, trivial⟩, trivial⟩
        · exact ⟨hk, by rw [anyTo_succ hx, hJ.2]; simpa using c16⟩
        · omega
        · rfl
    · -- c9 False
      obtain rfl : k = xs.length := by have := ge_of_decM c9; omega
      refine AC.exit rfl ?_
      refine AC.seq ?_
      refine AC.region ?_
      refine AO.yld _ (Yld.assign rfl) rfl rfl rfl ?_
      refine AO.nil ?_
      refine Pure.ret Tryd.results148 (RVs.cons (RV.tmp rfl) RVs.nil) rfl ?_
      first
        | exact ci (idx_hit hJ.2 hx (by simpa using c16))
        | exact ci (idx_miss hJ.2)

theorem containsFuncSample_c {xs : List Sample} {f : FuncId} {caps : List PV} {p : Sample → Bool} (hn : xs.length ≤ 1048576) (hf : Enters Tryd.prog f) (hp : ∀ x ∈ xs, Pure Tryd.prog f (.agg (encSample x) :: caps) (.v (.bool (p x)))) :
    Pure Tryd.prog 77 [.sl 3 (xs.map encSample), .clo f caps] (.v (.bool (xs.any p))) := by
  refine Pure.intro Tryd.func77 rfl Tryd.ntmps77 rfl rfl (fun w => ?_)
  refine AC.seq ?_
  refine AC.region ?_
  refine AO.yld _ (Yld.assign rfl) rfl rfl rfl ?_
  refine AO.nil ?_
  refine AC.seq ?_
  refine AC.region ?_
  refine AO.yld _ (Yld.move rfl) rfl rfl rfl ?_
  refine AO.yld _ (Yld.move rfl) rfl rfl rfl ?_
  refine AO.yld _ (Yld.call rfl rfl Tryd.call148 rfl rfl rfl (indexFuncSample_c (by first | assumption | omega) hf hp) rfl) rfl rfl rfl ?_
  refine AO.yld _ (Yld.int rfl rfl rfl) rfl rfl rfl ?_
  refine AO.yld _ (Yld.assign rfl) rfl rfl rfl ?_
  refine AO.nil ?_
  refine Pure.ret Tryd.results77 (RVs.cons (RV.tmp rfl) RVs.nil) rfl ?_
  exact cb idx_any.symm

theorem neSetting {x y : NV} {X Y : Operand} (w : World) : (do eqGuard .neq 146 X Y (.agg [str x.name, .int .i64 x.val].toArray) (.agg [str y.name, .int .i64 y.val].toArray); binOp .neq 146 (.agg [str x.name, .int .i64 x.val].toArray) (.agg [str y.name, .int .i64 y.val].toArray) : Sem Value).run Tryd.prog w = .ok (.bool (!decide (x = y))) w := by
  have g1 : Tryd.prog.eqGuardType Tryd.prog.depth 146 = false := by kernel_rfl
  have g2 : Tryd.prog.stoodInHeld 146 = false := by kernel_rfl
  have g3 : Tryd.prog.underlying 146 = some (.struct (Tryd.prog.fieldsOf 146)) := by kernel_rfl
  have g4 : (Tryd.prog.fieldsOf 146).toList = [⟨ "Name", 9, 0, false, "", "", 0⟩, ⟨ "Value", 2, 1, false, "", "", 16⟩] := by kernel_rfl
  rw [Sem.run_bind, run_eqGuard_agg _ _ _ _ _ _ _ g1, Result.andThen_ok, run_neq_struct, run_equalIn_struct _ _ _ _ _ g3 g2, g4]
  have e : decide (x = y) = (decide (x.name = y.name) && decide (x.val = y.val)) := by cases x; cases y; simp
  rw [e]
  clear g1 g2 g3 g4 e
  simp [Op.eqFields, go_sem, part, str, Tryd.sizeOf2, Tryd.isAgg2, Tryd.sizeOf9, Tryd.isAgg9, run_equalIn_int (h := Tryd.underlying2), run_equalIn_string (h := Tryd.underlying9)]
  by_cases h0 : x.name = y.name <;> by_cases h1 : x.val = y.val <;> simp_all

theorem spec_l27Same_c {xs ys : List NV} (hn : xs.length ≤ 1048576) :
    Pure Tryd.prog 136 [.sl 2 (xs.map encNV), .sl 2 (ys.map encNV)] (.v (.bool (decide (xs = ys)))) := by
  refine Pure.intro Tryd.func136 rfl Tryd.ntmps136 rfl rfl (fun w => ?_)
  refine AC.seq ?_
  refine AC.region ?_
  refine AO.yld _ (Yld.assign rfl) rfl rfl rfl ?_
  refine AO.nil ?_
  refine AC.seq ?_
  refine AC.seq ?_
  refine AC.region ?_
  refine AO.yld _ (Yld.move rfl) rfl rfl rfl ?_
  refine AO.yld _ (Yld.len Tryd.underlying72 rfl rfl) rfl rfl rfl ?_
  refine AO.yld _ (Yld.move rfl) rfl rfl rfl ?_
  refine AO.yld _ (Yld.len Tryd.underlying72 rfl rfl) rfl rfl rfl ?_
  refine AO.yld _ (Yld.int rfl rfl rfl) rfl rfl rfl ?_
  refine AO.nil ?_
  refine AC.cond _ rfl (fun c10 => ?_) (fun c10 => ?_)
  · -- c10 True
    have hl : xs.length ≠ ys.length := by have h := c10; simp only [List.length_map, bne_iff_ne, ne_eq, decide_eq_true_eq] at h; omega
    refine AC.seq ?_
    refine AC.region ?_
    refine AO.yld _ (Yld.assign rfl) rfl rfl rfl ?_
    refine AO.nil ?_
    refine Pure.ret Tryd.results136 (RVs.cons (RV.tmp rfl) RVs.nil) rfl ?_
    first
      | (exact congrArg (fun b => PV.v (.bool b)) (decide_eq_false (fun e => hl (congrArg List.length e))).symm)
      | (refine congrArg (fun b => PV.v (.bool b)) (decide_eq_false (fun e => ?_)).symm; subst e; rw [hx] at hy; simp_all)
      | (refine congrArg (fun b => PV.v (.bool b)) (decide_eq_true ?_).symm; have := hJ.2; rw [List.take_of_length_le (Nat.le_refl _), List.take_of_length_le (by omega)] at this; exact this)
  · -- c10 False
    have hl : xs.length = ys.length := by have h := c10; simp only [List.length_map, bne_eq_false_iff_eq, decide_eq_false_iff_not, ne_eq, Decidable.not_not] at h; omega
    refine AC.skip ?_
    refine AC.seq ?_
    refine AC.seq ?_
    refine AC.region ?_
    refine AO.yld _ (Yld.assign rfl) rfl rfl rfl ?_
    refine AO.nil ?_
    refine AC.block ?_
    refine AC.loopC [(0, _), (1, _)] [] (fun (k : Nat) => [(5, .p (.v (.int .i64 (k : Int))))]) (fun (k : Nat) => []) (fun (k : Nat) => k ≤ xs.length ∧ xs.take k = ys.take k) (fun (k : Nat) => xs.length - k) 0 ⟨rfl, rfl, trivial⟩ trivial ⟨rfl, trivial⟩ trivial ?_ (fun k hJ => ?_)
    · simp
    · -- round
      refine AC.seq ?_
      refine AC.seq ?_
      refine AC.region ?_
      refine AO.yld _ (Yld.move rfl) rfl rfl rfl ?_
      refine AO.yld _ (Yld.move rfl) rfl rfl rfl ?_
      refine AO.yld _ (Yld.len Tryd.underlying72 rfl rfl) rfl rfl rfl ?_
      refine AO.yld _ (Yld.int rfl rfl rfl) rfl rfl rfl ?_
      refine AO.nil ?_
      refine AC.cond _ rfl (fun c14 => ?_) (fun c14 => ?_)
      · -- c14 True
        have hk := lt_of_decM c14
        obtain ⟨x, hx⟩ := get_some hk
        have hrow := map_row (enc := encNV) hx
        obtain ⟨y, hy⟩ := get_some (xs := ys) (k := k) (by omega)
        have hrow2 := map_row (enc := encNV) hy
        refine AC.skip ?_
        refine AC.seq ?_
        refine AC.block ?_
        refine AC.seq ?_
        refine AC.draw (by kernel_rfl) (by kernel_rfl) ?_
        refine AO.yld _ (Yld.move rfl) rfl rfl rfl ?_
        refine AO.yld _ (Yld.move rfl) rfl rfl rfl ?_
        refine AO.yld _ (Yld.indexSl Tryd.underlying72 Tryd.sizeOf146 rfl rfl hrow rfl) rfl rfl rfl ?_
        refine AO.yld _ (Yld.loadAgg Tryd.isAgg146 Tryd.sizeOf146 rfl rfl rfl rfl) rfl rfl rfl ?_
        refine AO.yld _ (Yld.move rfl) rfl rfl rfl ?_
        refine AO.yld _ (Yld.move rfl) rfl rfl rfl ?_
        refine AO.yld _ (Yld.indexSl Tryd.underlying72 Tryd.sizeOf146 rfl rfl hrow2 rfl) rfl rfl rfl ?_
        refine AO.yld _ (Yld.loadAgg Tryd.isAgg146 Tryd.sizeOf146 rfl rfl rfl rfl) rfl rfl rfl ?_
        refine AO.yld _ (Yld.binV rfl rfl rfl rfl rfl rfl (by exact neSetting)) rfl rfl rfl ?_
        refine AO.nil ?_
        refine AC.cond _ rfl (fun c25 => ?_) (fun c25 => ?_)
        · -- c25 True
          refine AC.seq ?_
          refine AC.region ?_
          refine AO.yld _ (Yld.assign rfl) rfl rfl rfl ?_
          refine AO.nil ?_
          refine Pure.ret Tryd.results136 (RVs.cons (RV.tmp rfl) RVs.nil) rfl ?_
          first
            | (exact congrArg (fun b => PV.v (.bool b)) (decide_eq_false (fun e => hl (congrArg List.length e))).symm)
            | (refine congrArg (fun b => PV.v (.bool b)) (decide_eq_false (fun e => ?_)).symm; subst e; rw [hx] at hy; simp_all)
            | (refine congrArg (fun b => PV.v (.bool b)) (decide_eq_true ?_).symm; have := hJ.2; rw [List.take_of_length_le (Nat.le_refl _), List.take_of_length_le (by omega)] at this; exact this)
        · -- c25 False
          refine AC.skip ?_
          refine AC.mark ?_
          refine AC.region ?_
          refine AO.yld _ (Yld.move rfl) rfl rfl rfl ?_
          refine AO.yld _ (Yld.add rfl rfl (by omega) (by omega)) rfl rfl rfl ?_
          refine AO.yld _ (Yld.assign rfl) rfl rfl rfl ?_
          refine AO.nil ?_
          refine AC.back ⟨k + 1, ?_, ?_, ⟨?_, trivial⟩, trivial, ⟨rfl, rfl, trivial⟩, trivial⟩
          · exact ⟨hk, by rw [take_snoc hx, take_snoc hy, hJ.2, show x = y by simpa using c25]⟩
          · omega
          · rfl
      · -- c14 False
        obtain rfl : k = xs.length := by have := ge_of_decM c14; omega
        refine AC.exit rfl ?_
        refine AC.seq ?_
        refine AC.region ?_
        refine AO.yld _ (Yld.assign rfl) rfl rfl rfl ?_
        refine AO.nil ?_
        refine Pure.ret Tryd.results136 (RVs.cons (RV.tmp rfl) RVs.nil) rfl ?_
        first
          | (exact congrArg (fun b => PV.v (.bool b)) (decide_eq_false (fun e => hl (congrArg List.length e))).symm)
          | (refine congrArg (fun b => PV.v (.bool b)) (decide_eq_false (fun e => ?_)).symm; subst e; rw [hx] at hy; simp_all)
          | (refine congrArg (fun b => PV.v (.bool b)) (decide_eq_true ?_).symm; have := hJ.2; rw [List.take_of_length_le (Nat.le_refl _), List.take_of_length_le (by omega)] at this; exact this)

theorem spec_SameState_c {xs ys : List NV} (hn : xs.length ≤ 1048576) :
    Pure Tryd.prog 61 [.sl 2 (xs.map encNV), .sl 2 (ys.map encNV)] (.v (.bool (decide (xs = ys)))) := by
  refine Pure.intro Tryd.func61 rfl Tryd.ntmps61 rfl rfl (fun w => ?_)
  refine AC.seq ?_
  refine AC.region ?_
  refine AO.yld _ (Yld.assign rfl) rfl rfl rfl ?_
  refine AO.nil ?_
  refine AC.seq ?_
  refine AC.region ?_
  refine AO.yld _ (Yld.move rfl) rfl rfl rfl ?_
  refine AO.yld _ (Yld.move rfl) rfl rfl rfl ?_
  refine AO.yld _ (Yld.call rfl rfl Tryd.call136 rfl rfl rfl (spec_l27Same_c (by first | assumption | omega)) rfl) rfl rfl rfl ?_
  refine AO.yld _ (Yld.assign rfl) rfl rfl rfl ?_
  refine AO.nil ?_
  refine Pure.ret Tryd.results61 (RVs.cons (RV.tmp rfl) RVs.nil) rfl ?_
  first | rfl | (simp_all; done) | (simp_all; intros; omega) | grind

theorem best1_c {x : Sample} :
    Pure Tryd.prog 78 [.agg (encSample x)] (.v (.bool (!okSample x))) := by
  refine Pure.intro Tryd.func78 rfl Tryd.ntmps78 rfl rfl (fun w => ?_)
  refine AC.seq ?_
  refine AC.region ?_
  refine AO.box 0 rfl rfl rfl rfl rfl ?_
  refine AO.yld _ (Yld.assign rfl) rfl rfl rfl ?_
  refine AO.nil ?_
  refine AC.seq ?_
  refine AC.region ?_
  refine AO.yld _ (Yld.loadAgg Tryd.isAgg45 Tryd.sizeOf45 rfl rfl rfl rfl) rfl rfl rfl ?_
  refine AO.yld _ (Yld.call rfl rfl Tryd.call79 rfl rfl rfl (impl_ValidSample_c) rfl) rfl rfl rfl ?_
  refine AO.yld _ (Yld.not rfl) rfl rfl rfl ?_
  refine AO.yld _ (Yld.assign rfl) rfl rfl rfl ?_
  refine AO.nil ?_
  refine Pure.ret Tryd.results78 (RVs.cons (RV.tmp rfl) RVs.nil) rfl ?_
  rfl

theorem impl_BestSample_c {xs : List Sample} (hn : xs.length ≤ 1048576) :
    Pure Tryd.prog 20 [.sl 3 (xs.map encSample)] (.tup [.v (.int .i64 (bestSample xs).1), .v (.int .i64 (bestSample xs).2)]) := by
  refine Pure.intro Tryd.func20 rfl Tryd.ntmps20 rfl rfl (fun w => ?_)
  refine AC.seq ?_
  refine AC.region ?_
  refine AO.yld _ (Yld.assign rfl) rfl rfl rfl ?_
  refine AO.yld _ (Yld.assign rfl) rfl rfl rfl ?_
  refine AO.nil ?_
  refine AC.seq ?_
  refine AC.seq ?_
  refine AC.region ?_
  refine AO.yld _ (Yld.move rfl) rfl rfl rfl ?_
  refine AO.yld _ (Yld.call rfl rfl Tryd.call77 rfl rfl rfl (containsFuncSample_c (p := fun x => !okSample x) (by omega) Tryd.call78 (fun x _ => best1_c)) rfl) rfl rfl rfl ?_
  refine AO.nil ?_
  refine AC.cond _ rfl (fun c8 => ?_) (fun c8 => ?_)
  · -- c8 True
    refine AC.seq ?_
    refine AC.region ?_
    refine AO.yld _ (Yld.assign rfl) rfl rfl rfl ?_
    refine AO.yld _ (Yld.assign rfl) rfl rfl rfl ?_
    refine AO.nil ?_
    refine Pure.retT Tryd.results20 (RVs.cons (RV.tmp rfl) (RVs.cons (RV.tmp rfl) RVs.nil)) rfl ?_
    first
      | (have e : xs.all okSample = false := by have h := c8; rw [all_not] at h; simpa using h
         simp [bestSample, e])
      | (have e : (decide (1 ≤ xs.length) && decide (xs.length ≤ 24)) = false := by (have h := c12; simp only [List.length_map] at h; grind)
         simp only [bestSample, hall, e]; rfl)
      | (have e : (decide (1 ≤ xs.length) && decide (xs.length ≤ 24)) = true := by (simp; omega)
         simp only [bestSample, hall, e]; rfl)
  · -- c8 False
    have hall : xs.all okSample = true := by have h := c8; rw [all_not] at h; simpa using h
    refine AC.skip ?_
    refine AC.seq ?_
    refine AC.seq ?_
    refine AC.region ?_
    refine AO.yld _ (Yld.move rfl) rfl rfl rfl ?_
    refine AO.yld _ (Yld.len Tryd.underlying34 rfl rfl) rfl rfl rfl ?_
    refine AO.yld _ (Yld.call rfl rfl Tryd.call80 rfl rfl rfl (impl_within_c) rfl) rfl rfl rfl ?_
    refine AO.yld _ (Yld.not rfl) rfl rfl rfl ?_
    refine AO.nil ?_
    refine AC.cond _ rfl (fun c12 => ?_) (fun c12 => ?_)
    · -- c12 True
      refine AC.seq ?_
      refine AC.region ?_
      refine AO.yld _ (Yld.assign rfl) rfl rfl rfl ?_
      refine AO.yld _ (Yld.assign rfl) rfl rfl rfl ?_
      refine AO.nil ?_
      refine Pure.retT Tryd.results20 (RVs.cons (RV.tmp rfl) (RVs.cons (RV.tmp rfl) RVs.nil)) rfl ?_
      first
        | (have e : xs.all okSample = false := by have h := c8; rw [all_not] at h; simpa using h
           simp [bestSample, e])
        | (have e : (decide (1 ≤ xs.length) && decide (xs.length ≤ 24)) = false := by (have h := c12; simp only [List.length_map] at h; grind)
           simp only [bestSample, hall, e]; rfl)
        | (have e : (decide (1 ≤ xs.length) && decide (xs.length ≤ 24)) = true := by (simp; omega)
           simp only [bestSample, hall, e]; rfl)
    · -- c12 False
      have hl1 : 1 ≤ xs.length ∧ xs.length ≤ 24 := by have h := c12; simp only [List.length_map] at h; grind
      refine AC.skip ?_
      refine AC.seq ?_
      refine AC.region ?_
      refine AO.yld _ (Yld.assign rfl) rfl rfl rfl ?_
      refine AO.nil ?_
      refine AC.seq ?_
      refine AC.seq ?_
      refine AC.region ?_
      refine AO.yld _ (Yld.move rfl) rfl rfl rfl ?_
      refine AO.yld _ (Yld.len Tryd.underlying34 rfl rfl) rfl rfl rfl ?_
      refine AO.yld _ (Yld.move rfl) rfl rfl rfl ?_
      refine AO.nil ?_
      refine AC.block ?_
      refine AC.loopC [(0, _), (2, _), (3, _), (13, _), (14, _)] [] (fun (k : Nat) => [(15, .p (.v (.int .i64 (k : Int)))), (4, .p (.v (.int .i64 (bestTo ltSample xs k : Int))))]) (fun (k : Nat) => []) (fun (k : Nat) => k ≤ xs.length) (fun (k : Nat) => xs.length - k) 0 ⟨rfl, rfl, rfl, rfl, rfl, trivial⟩ trivial ⟨rfl, rfl, trivial⟩ trivial ?_ (fun k hJ => ?_)
      · simp
      · -- round
        refine AC.seq ?_
        refine AC.region ?_
        refine AO.yld _ (Yld.int rfl rfl rfl) rfl rfl rfl ?_
        refine AO.nil ?_
        refine AC.seq ?_
        refine AC.cond _ rfl (fun c16 => ?_) (fun c16 => ?_)
        · -- c16 True
          have hk := lt_of_decM c16
          obtain ⟨x, hx⟩ := get_some hk
          have hrow := map_row (enc := encSample) hx
          obtain ⟨y, hy⟩ := get_some (bestTo_le (lt := ltSample) (xs := xs) (k := k) (n := xs.length) (by omega) (by omega))
          have hrow2 := map_row (enc := encSample) hy
          have hl3 := sample_lim (all_at hall hx)
          have hl4 := sample_lim (all_at hall hy)
          refine AC.skip ?_
          refine AC.seq ?_
          refine AC.block ?_
          refine AC.seq ?_
          refine AC.region ?_
          refine AO.yld _ (Yld.move rfl) rfl rfl rfl ?_
          refine AO.yld _ (Yld.indexSl Tryd.underlying34 Tryd.sizeOf45 rfl rfl hrow rfl) rfl rfl rfl ?_
          refine AO.yld _ (Yld.loadAgg Tryd.isAgg45 Tryd.sizeOf45 rfl rfl rfl rfl) rfl rfl rfl ?_
          refine AO.alloc 0 Tryd.zeroValue45 rfl rfl rfl ?_
          refine AO.yld _ (Yld.assign rfl) rfl rfl rfl ?_
          refine AO.store Tryd.sizeOf45 rfl rfl rfl rfl rfl rfl ?_
          refine AO.nil ?_
          refine AC.seq ?_
          refine AC.draw (by kernel_rfl) (by kernel_rfl) ?_
          refine AO.yld _ (Yld.fieldAddr Tryd.underlying45 rfl rfl Tryd.sizeOf2 rfl rfl rfl) rfl rfl rfl ?_
          refine AO.yld _ (Yld.load Tryd.isAgg2 rfl rfl) rfl rfl rfl ?_
          refine AO.yld _ (Yld.fieldAddr Tryd.underlying45 rfl rfl Tryd.sizeOf2 rfl rfl rfl) rfl rfl rfl ?_
          refine AO.yld _ (Yld.load Tryd.isAgg2 rfl rfl) rfl rfl rfl ?_
          refine AO.yld _ (Yld.sub rfl rfl (by omega) (by omega)) rfl rfl rfl ?_
          refine AO.yld _ (Yld.move rfl) rfl rfl rfl ?_
          refine AO.yld _ (Yld.move rfl) rfl rfl rfl ?_
          refine AO.yld _ (Yld.indexSl Tryd.underlying34 Tryd.sizeOf45 rfl rfl hrow2 rfl) rfl rfl rfl ?_
          refine AO.yld _ (Yld.fieldAddr Tryd.underlying45 rfl rfl Tryd.sizeOf2 rfl rfl rfl) rfl rfl rfl ?_
          refine AO.yld _ (Yld.load Tryd.isAgg2 rfl rfl) rfl rfl rfl ?_
          refine AO.yld _ (Yld.move rfl) rfl rfl rfl ?_
          refine AO.yld _ (Yld.move rfl) rfl rfl rfl ?_
          refine AO.yld _ (Yld.indexSl Tryd.underlying34 Tryd.sizeOf45 rfl rfl hrow2 rfl) rfl rfl rfl ?_
          refine AO.yld _ (Yld.fieldAddr Tryd.underlying45 rfl rfl Tryd.sizeOf2 rfl rfl rfl) rfl rfl rfl ?_
          refine AO.yld _ (Yld.load Tryd.isAgg2 rfl rfl) rfl rfl rfl ?_
          refine AO.yld _ (Yld.sub rfl rfl (by omega) (by omega)) rfl rfl rfl ?_
          refine AO.yld _ (Yld.int rfl rfl rfl) rfl rfl rfl ?_
          refine AO.nil ?_
          refine AC.cond _ rfl (fun c36 => ?_) (fun c36 => ?_)
          · -- c36 True
            refine AC.region ?_
            refine AO.yld _ (Yld.move rfl) rfl rfl rfl ?_
            refine AO.yld _ (Yld.assign rfl) rfl rfl rfl ?_
            refine AO.nil ?_
            refine AC.mark ?_
            refine AC.region ?_
            refine AO.yld _ (Yld.add rfl rfl (by omega) (by omega)) rfl rfl rfl ?_
            refine AO.yld _ (Yld.move rfl) rfl rfl rfl ?_
            refine AO.nil ?_
            refine AC.back ⟨k + 1, ?_, ?_, ⟨?_, ?_, trivial⟩, trivial, ⟨rfl, rfl, rfl, rfl, rfl, trivial⟩, trivial⟩
            · exact hk
            · omega
            · rfl
            · show some (AV.p (PV.v (Value.int IntKind.i64 _))) = _; first | rw [bestTo_T hx hy (by simpa [ltSample] using c36)] | rw [bestTo_F hx hy (by simpa [ltSample] using c36)]
          · -- c36 False
            refine AC.skip ?_
            refine AC.mark ?_
            refine AC.region ?_
            refine AO.yld _ (Yld.add rfl rfl (by omega) (by omega)) rfl rfl rfl ?_
            refine AO.yld _ (Yld.move rfl) rfl rfl rfl ?_
            refine AO.nil ?_
            refine AC.back ⟨k + 1, ?_, ?_, ⟨?_, ?_, trivial⟩, trivial, ⟨rfl, rfl, rfl, rfl, rfl, trivial⟩, trivial⟩
            · exact hk
            · omega
            · rfl
            · show some (AV.p (PV.v (Value.int IntKind.i64 _))) = _; first | rw [bestTo_T hx hy (by simpa [ltSample] using c36)] | rw [bestTo_F hx hy (by simpa [ltSample] using c36)]
        · -- c16 False
          obtain rfl : k = xs.length := by have := ge_of_decM c16; omega
          refine AC.exit rfl ?_
          refine AC.seq ?_
          refine AC.region ?_
          refine AO.yld _ (Yld.move rfl) rfl rfl rfl ?_
          refine AO.yld _ (Yld.assign rfl) rfl rfl rfl ?_
          refine AO.yld _ (Yld.assign rfl) rfl rfl rfl ?_
          refine AO.nil ?_
          refine Pure.retT Tryd.results20 (RVs.cons (RV.tmp rfl) (RVs.cons (RV.tmp rfl) RVs.nil)) rfl ?_
          first
            | (have e : xs.all okSample = false := by have h := c8; rw [all_not] at h; simpa using h
               simp [bestSample, e])
            | (have e : (decide (1 ≤ xs.length) && decide (xs.length ≤ 24)) = false := by (have h := c12; simp only [List.length_map] at h; grind)
               simp only [bestSample, hall, e]; rfl)
            | (have e : (decide (1 ≤ xs.length) && decide (xs.length ≤ 24)) = true := by (simp; omega)
               simp only [bestSample, hall, e]; rfl)

theorem impl_checkMachines_c {xs : List Mach} (hn : xs.length ≤ 1048576) (hs : ∀ x ∈ xs, x.name.length ≤ 1048576) :
    Pure Tryd.prog 71 [.sl 3 (xs.map encMach)] (.v (.int .i64 (askMachines xs))) := by
  refine Pure.intro Tryd.func71 rfl Tryd.ntmps71 rfl rfl (fun w => ?_)
  refine AC.seq ?_
  refine AC.region ?_
  refine AO.yld _ (Yld.assign rfl) rfl rfl rfl ?_
  refine AO.nil ?_
  refine AC.seq ?_
  refine AC.block ?_
  refine AC.seq ?_
  refine AC.region ?_
  refine AO.yld _ (Yld.move rfl) rfl rfl rfl ?_
  refine AO.yld _ (Yld.call rfl rfl Tryd.call146 rfl rfl rfl (impl_ValidMachines_c (by first | assumption | omega) (by assumption)) rfl) rfl rfl rfl ?_
  refine AO.yld _ (Yld.not rfl) rfl rfl rfl ?_
  refine AO.yld _ (Yld.assign rfl) rfl rfl rfl ?_
  refine AO.nil ?_
  refine AC.cond _ rfl (fun c3 => ?_) (fun c3 => ?_)
  · -- c3 True
    refine AC.seq ?_
    refine AC.region ?_
    refine AO.yld _ (Yld.assign rfl) rfl rfl rfl ?_
    refine AO.nil ?_
    refine Pure.ret Tryd.results71 (RVs.cons (RV.tmp rfl) RVs.nil) rfl ?_
    first | (simp_all [askMachines]; done) | grind [askMachines]
  · -- c3 False
    refine AC.seq ?_
    refine AC.region ?_
    refine AO.yld _ (Yld.move rfl) rfl rfl rfl ?_
    refine AO.yld _ (Yld.len Tryd.underlying24 rfl rfl) rfl rfl rfl ?_
    refine AO.yld _ (Yld.int rfl rfl rfl) rfl rfl rfl ?_
    refine AO.yld _ (Yld.assign rfl) rfl rfl rfl ?_
    refine AO.nil ?_
    refine AC.cond _ rfl (fun c7 => ?_) (fun c7 => ?_)
    · -- c7 True
      refine AC.seq ?_
      refine AC.region ?_
      refine AO.yld _ (Yld.assign rfl) rfl rfl rfl ?_
      refine AO.nil ?_
      refine Pure.ret Tryd.results71 (RVs.cons (RV.tmp rfl) RVs.nil) rfl ?_
      first | (simp_all [askMachines]; done) | grind [askMachines]
    · -- c7 False
      refine AC.skip ?_
      refine AC.mark ?_
      refine AC.seq ?_
      refine AC.region ?_
      refine AO.yld _ (Yld.assign rfl) rfl rfl rfl ?_
      refine AO.nil ?_
      refine Pure.ret Tryd.results71 (RVs.cons (RV.tmp rfl) RVs.nil) rfl ?_
      first | (simp_all [askMachines]; done) | grind [askMachines]

theorem impl_MachineOf_c {n : List UInt8} {xs : List Sample} (hs : n.length ≤ 1048576) (hn : xs.length ≤ 1048576) :
    Pure Tryd.prog 19 [.v (str n), .sl 3 (xs.map encSample)] (.tup [.agg (encMach (machineOf n xs).1), .v (.int .i64 (machineOf n xs).2)]) := by
  refine Pure.intro Tryd.func19 rfl Tryd.ntmps19 rfl rfl (fun w => ?_)
  refine AC.seq ?_
  refine AC.region ?_
  refine AO.alloc 0 Tryd.zeroValue33 rfl rfl rfl ?_
  refine AO.yld _ (Yld.assign rfl) rfl rfl rfl ?_
  refine AO.nil ?_
  refine AC.seq ?_
  refine AC.region ?_
  refine AO.yld _ (Yld.move rfl) rfl rfl rfl ?_
  refine AO.yld _ (Yld.call rfl rfl Tryd.call20 rfl rfl rfl (impl_BestSample_c (by first | assumption | omega)) rfl) rfl rfl rfl ?_
  refine AO.yld _ (Yld.move rfl) rfl rfl rfl ?_
  refine AO.yld _ (Yld.extract rfl rfl rfl) rfl rfl rfl ?_
  refine AO.yld _ (Yld.extract rfl rfl rfl) rfl rfl rfl ?_
  refine AO.yld _ (Yld.assign rfl) rfl rfl rfl ?_
  refine AO.yld _ (Yld.assign rfl) rfl rfl rfl ?_
  refine AO.nil ?_
  refine AC.seq ?_
  refine AC.seq ?_
  refine AC.region ?_
  refine AO.yld _ (Yld.move rfl) rfl rfl rfl ?_
  refine AO.yld _ (Yld.call rfl rfl Tryd.call76 rfl rfl rfl (impl_IsName_c (by first | assumption | omega)) rfl) rfl rfl rfl ?_
  refine AO.yld _ (Yld.not rfl) rfl rfl rfl ?_
  refine AO.nil ?_
  refine AC.cond _ rfl (fun c18 => ?_) (fun c18 => ?_)
  · -- c18 True
    refine AC.seq ?_
    refine AC.region ?_
    refine AO.yld _ (Yld.buildA (zs := [.v (str []), .v (.int .i64 0), .v (.int .i64 0)]) bld33 rfl rfl) rfl rfl rfl ?_
    refine AO.store Tryd.sizeOf33 rfl rfl rfl rfl rfl rfl ?_
    refine AO.yld _ (Yld.assign rfl) rfl rfl rfl ?_
    refine AO.nil ?_
    refine Pure.retT Tryd.results19 (RVs.cons (RV.cell Tryd.isAgg33 Tryd.sizeOf33 rfl rfl rfl rfl) (RVs.cons (RV.tmp rfl) RVs.nil)) rfl ?_
    first | (simp_all [machineOf, encMach]; done) | (simp only [machineOf, encMach]; simp_all; done) | (simp only [machineOf, encMach, hb0, hxe]; simp_all)
  · -- c18 False
    refine AC.skip ?_
    refine AC.seq ?_
    refine AC.seq ?_
    refine AC.region ?_
    refine AO.yld _ (Yld.move rfl) rfl rfl rfl ?_
    refine AO.yld _ (Yld.int rfl rfl rfl) rfl rfl rfl ?_
    refine AO.nil ?_
    refine AC.cond _ rfl (fun c21 => ?_) (fun c21 => ?_)
    · -- c21 True
      refine AC.seq ?_
      refine AC.region ?_
      refine AO.yld _ (Yld.buildA (zs := [.v (str []), .v (.int .i64 0), .v (.int .i64 0)]) bld33 rfl rfl) rfl rfl rfl ?_
      refine AO.yld _ (Yld.move rfl) rfl rfl rfl ?_
      refine AO.store Tryd.sizeOf33 rfl rfl rfl rfl rfl rfl ?_
      refine AO.yld _ (Yld.assign rfl) rfl rfl rfl ?_
      refine AO.nil ?_
      refine Pure.retT Tryd.results19 (RVs.cons (RV.cell Tryd.isAgg33 Tryd.sizeOf33 rfl rfl rfl rfl) (RVs.cons (RV.tmp rfl) RVs.nil)) rfl ?_
      first | (simp_all [machineOf, encMach]; done) | (simp only [machineOf, encMach]; simp_all; done) | (simp only [machineOf, encMach, hb0, hxe]; simp_all)
    · -- c21 False
      have hb0 : (bestSample xs).2 = 0 := by first | (have h := c21; simp at h; exact h) | (exact absurd c21 (by decide))
      obtain ⟨kb, x, hx, hbk, hxe⟩ := best_ok hb0
      have hrow := map_row (enc := encSample) hx
      refine AC.skip ?_
      refine AC.seq ?_
      refine AC.region ?_
      refine AO.yld _ (Yld.move rfl) rfl rfl rfl ?_
      refine AO.yld _ (Yld.move rfl) rfl rfl rfl ?_
      refine AO.yld _ (Yld.indexSl Tryd.underlying34 Tryd.sizeOf45 rfl rfl hrow hbk) rfl rfl rfl ?_
      refine AO.yld _ (Yld.loadAgg Tryd.isAgg45 Tryd.sizeOf45 rfl rfl rfl rfl) rfl rfl rfl ?_
      refine AO.yld _ (Yld.call rfl rfl Tryd.call22 rfl rfl rfl (impl_OffsetOf_c) rfl) rfl rfl rfl ?_
      refine AO.yld _ (Yld.move rfl) rfl rfl rfl ?_
      refine AO.yld _ (Yld.extract rfl rfl rfl) rfl rfl rfl ?_
      refine AO.yld _ (Yld.extract rfl rfl rfl) rfl rfl rfl ?_
      refine AO.yld _ (Yld.extract rfl rfl rfl) rfl rfl rfl ?_
      refine AO.yld _ (Yld.assign rfl) rfl rfl rfl ?_
      refine AO.yld _ (Yld.assign rfl) rfl rfl rfl ?_
      refine AO.yld _ (Yld.assign rfl) rfl rfl rfl ?_
      refine AO.nil ?_
      refine AC.seq ?_
      refine AC.region ?_
      refine AO.yld _ (Yld.move rfl) rfl rfl rfl ?_
      refine AO.yld _ (Yld.move rfl) rfl rfl rfl ?_
      refine AO.yld _ (Yld.move rfl) rfl rfl rfl ?_
      refine AO.yld _ (Yld.buildA (zs := [.v (str []), .v (.int .i64 0), .v (.int .i64 0)]) bld33 rfl rfl) rfl rfl rfl ?_
      refine AO.store Tryd.sizeOf33 rfl rfl rfl rfl rfl rfl ?_
      refine AO.yld _ (Yld.assign rfl) rfl rfl rfl ?_
      refine AO.nil ?_
      refine Pure.retT Tryd.results19 (RVs.cons (RV.cell Tryd.isAgg33 Tryd.sizeOf33 rfl rfl rfl rfl) (RVs.cons (RV.tmp rfl) RVs.nil)) rfl ?_
      first | (simp_all [machineOf, encMach]; done) | (simp only [machineOf, encMach]; simp_all; done) | (simp only [machineOf, encMach, hb0, hxe]; simp_all)

theorem impl_liesIn_c {x : Mach} {b : Int} (h : okMachine x = true) :
    Pure Tryd.prog 73 [.agg (encMach x), .v (.int .i64 b)] (.v (.bool (liesB x b))) := by
  have hl := mach_lim h
  refine Pure.intro Tryd.func73 rfl Tryd.ntmps73 rfl rfl (fun w => ?_)
  refine AC.seq ?_
  refine AC.region ?_
  refine AO.box 0 rfl rfl rfl rfl rfl ?_
  refine AO.yld _ (Yld.assign rfl) rfl rfl rfl ?_
  refine AO.nil ?_
  refine AC.seq ?_
  refine AC.region ?_
  refine AO.yld _ (Yld.move rfl) rfl rfl rfl ?_
  refine AO.yld _ (Yld.fieldAddr Tryd.underlying33 rfl rfl Tryd.sizeOf2 rfl rfl rfl) rfl rfl rfl ?_
  refine AO.yld _ (Yld.load Tryd.isAgg2 rfl rfl) rfl rfl rfl ?_
  refine AO.yld _ (Yld.fieldAddr Tryd.underlying33 rfl rfl Tryd.sizeOf2 rfl rfl rfl) rfl rfl rfl ?_
  refine AO.yld _ (Yld.load Tryd.isAgg2 rfl rfl) rfl rfl rfl ?_
  refine AO.yld _ (Yld.sub rfl rfl (by omega) (by omega)) rfl rfl rfl ?_
  refine AO.yld _ (Yld.fieldAddr Tryd.underlying33 rfl rfl Tryd.sizeOf2 rfl rfl rfl) rfl rfl rfl ?_
  refine AO.yld _ (Yld.load Tryd.isAgg2 rfl rfl) rfl rfl rfl ?_
  refine AO.yld _ (Yld.fieldAddr Tryd.underlying33 rfl rfl Tryd.sizeOf2 rfl rfl rfl) rfl rfl rfl ?_
  refine AO.yld _ (Yld.load Tryd.isAgg2 rfl rfl) rfl rfl rfl ?_
  refine AO.yld _ (Yld.add rfl rfl (by omega) (by omega)) rfl rfl rfl ?_
  refine AO.yld _ (Yld.call rfl rfl Tryd.call80 rfl rfl rfl (impl_within_c) rfl) rfl rfl rfl ?_
  refine AO.yld _ (Yld.assign rfl) rfl rfl rfl ?_
  refine AO.nil ?_
  refine Pure.ret Tryd.results73 (RVs.cons (RV.tmp rfl) RVs.nil) rfl ?_
  rfl

theorem impl_agreedOffset_c {xs : List Mach} (hn : xs.length ≤ 1048576) (hok : okMachines xs = true) :
    Pure Tryd.prog 72 [.sl 3 (xs.map encMach)] (.tup [.v (.int .i64 (bestB xs xs.length).1), .v (.int .i64 (bestB xs xs.length).2)]) := by
  refine Pure.intro Tryd.func72 rfl Tryd.ntmps72 rfl rfl (fun w => ?_)
  refine AC.seq ?_
  refine AC.region ?_
  refine AO.yld _ (Yld.assign rfl) rfl rfl rfl ?_
  refine AO.yld _ (Yld.assign rfl) rfl rfl rfl ?_
  refine AO.nil ?_
  refine AC.seq ?_
  refine AC.region ?_
  refine AO.yld _ (Yld.assign rfl) rfl rfl rfl ?_
  refine AO.yld _ (Yld.assign rfl) rfl rfl rfl ?_
  refine AO.nil ?_
  refine AC.seq ?_
  refine AC.seq ?_
  refine AC.region ?_
  refine AO.yld _ (Yld.move rfl) rfl rfl rfl ?_
  refine AO.yld _ (Yld.len Tryd.underlying24 rfl rfl) rfl rfl rfl ?_
  refine AO.yld _ (Yld.move rfl) rfl rfl rfl ?_
  refine AO.nil ?_
  refine AC.block ?_
  refine AC.loopC [(0, _), (2, _), (3, _), (12, _), (13, _)] [] (fun (k : Nat) => [(14, .p (.v (.int .i64 (k : Int)))), (4, .p (.v (.int .i64 (bestB xs k).1))), (5, .p (.v (.int .i64 (bestB xs k).2)))]) (fun (k : Nat) => []) (fun (k : Nat) => k ≤ xs.length) (fun (k : Nat) => xs.length - k) 0 ⟨rfl, rfl, rfl, rfl, rfl, trivial⟩ trivial ⟨rfl, rfl, rfl, trivial⟩ trivial ?_ (fun k hJ => ?_)
  · exact Nat.zero_le _
  · -- round
    refine AC.seq ?_
    refine AC.region ?_
    refine AO.yld _ (Yld.int rfl rfl rfl) rfl rfl rfl ?_
    refine AO.nil ?_
    refine AC.seq ?_
    refine AC.cond _ rfl (fun c15 => ?_) (fun c15 => ?_)
    · -- c15 True
      have hk := lt_of_decM c15
      obtain ⟨x, hx⟩ := get_some hk
      have hrow := map_row (enc := encMach) hx
      have hox := machines_at hok hx
      have hlx := mach_lim hox
      have hbx : beginOf x = x.offset - x.delay := rfl
      have hlb := bestB_lim hok k
      refine AC.skip ?_
      refine AC.seq ?_
      refine AC.block ?_
      refine AC.seq ?_
      refine AC.region ?_
      refine AO.yld _ (Yld.indexSl Tryd.underlying24 Tryd.sizeOf33 rfl rfl hrow rfl) rfl rfl rfl ?_
      refine AO.yld _ (Yld.loadAgg Tryd.isAgg33 Tryd.sizeOf33 rfl rfl rfl rfl) rfl rfl rfl ?_
      refine AO.alloc 0 Tryd.zeroValue33 rfl rfl rfl ?_
      refine AO.store Tryd.sizeOf33 rfl rfl rfl rfl rfl rfl ?_
      refine AO.nil ?_
      refine AC.seq ?_
      refine AC.region ?_
      refine AO.yld _ (Yld.fieldAddr Tryd.underlying33 rfl rfl Tryd.sizeOf2 rfl rfl rfl) rfl rfl rfl ?_
      refine AO.yld _ (Yld.load Tryd.isAgg2 rfl rfl) rfl rfl rfl ?_
      refine AO.yld _ (Yld.fieldAddr Tryd.underlying33 rfl rfl Tryd.sizeOf2 rfl rfl rfl) rfl rfl rfl ?_
      refine AO.yld _ (Yld.load Tryd.isAgg2 rfl rfl) rfl rfl rfl ?_
      refine AO.yld _ (Yld.sub rfl rfl (by omega) (by omega)) rfl rfl rfl ?_
      refine AO.yld _ (Yld.assign rfl) rfl rfl rfl ?_
      refine AO.nil ?_
      refine AC.seq ?_
      refine AC.region ?_
      refine AO.yld _ (Yld.assign rfl) rfl rfl rfl ?_
      refine AO.nil ?_
      refine AC.seq ?_
      refine AC.seq ?_
      refine AC.region ?_
      refine AO.yld _ (Yld.move rfl) rfl rfl rfl ?_
      refine AO.yld _ (Yld.len Tryd.underlying24 rfl rfl) rfl rfl rfl ?_
      refine AO.yld _ (Yld.move rfl) rfl rfl rfl ?_
      refine AO.nil ?_
      refine AC.block ?_
      refine AC.loopC [(0, _), (2, _), (3, _), (4, _), (5, _), (8, _), (12, _), (13, _), (14, _), (23, _), (24, _)] [(0, _)] (fun (j : Nat) => [(25, .p (.v (.int .i64 (j : Int)))), (9, .p (.v (.int .i64 (countTo xs (beginOf x) j))))]) (fun (j : Nat) => []) (fun (j : Nat) => j ≤ xs.length) (fun (j : Nat) => xs.length - j) 0 ⟨rfl, rfl, rfl, rfl, rfl, rfl, rfl, rfl, rfl, rfl, rfl, trivial⟩ ⟨rfl, trivial⟩ ⟨rfl, rfl, trivial⟩ trivial ?_ (fun j hI => ?_)
      · exact Nat.zero_le _
      · -- round
        refine AC.seq ?_
        refine AC.region ?_
        refine AO.yld _ (Yld.int rfl rfl rfl) rfl rfl rfl ?_
        refine AO.nil ?_
        refine AC.seq ?_
        refine AC.cond _ rfl (fun c26 => ?_) (fun c26 => ?_)
        · -- c26 True
          have hj := lt_of_decM c26
          obtain ⟨y, hy⟩ := get_some hj
          have hrowy := map_row (enc := encMach) hy
          have hoy := machines_at hok hy
          have hly := mach_lim hoy
          have hlc := countTo_lim (xs := xs) (b := beginOf x) j
          refine AC.skip ?_
          refine AC.seq ?_
          refine AC.block ?_
          refine AC.seq ?_
          refine AC.region ?_
          refine AO.yld _ (Yld.indexSl Tryd.underlying24 Tryd.sizeOf33 rfl rfl hrowy rfl) rfl rfl rfl ?_
          refine AO.yld _ (Yld.loadAgg Tryd.isAgg33 Tryd.sizeOf33 rfl rfl rfl rfl) rfl rfl rfl ?_
          refine AO.alloc 1 Tryd.zeroValue33 rfl rfl rfl ?_
          refine AO.store Tryd.sizeOf33 rfl rfl rfl rfl rfl rfl ?_
          refine AO.nil ?_
          refine AC.seq ?_
          refine AC.region ?_
          refine AO.yld _ (Yld.loadAgg Tryd.isAgg33 Tryd.sizeOf33 rfl rfl rfl rfl) rfl rfl rfl ?_
          refine AO.yld _ (Yld.move rfl) rfl rfl rfl ?_
          refine AO.yld _ (Yld.call rfl rfl Tryd.call73 rfl rfl rfl (impl_liesIn_c (by assumption)) rfl) rfl rfl rfl ?_
          refine AO.nil ?_
          refine AC.cond _ rfl (fun c31 => ?_) (fun c31 => ?_)
          · -- c31 True
            refine AC.region ?_
            refine AO.yld _ (Yld.move rfl) rfl rfl rfl ?_
            refine AO.yld _ (Yld.add rfl rfl (by omega) (by omega)) rfl rfl rfl ?_
            refine AO.yld _ (Yld.assign rfl) rfl rfl rfl ?_
            refine AO.nil ?_
            refine AC.mark ?_
            refine AC.region ?_
            refine AO.yld _ (Yld.add rfl rfl (by omega) (by omega)) rfl rfl rfl ?_
            refine AO.yld _ (Yld.move rfl) rfl rfl rfl ?_
            refine AO.nil ?_
            refine AC.back ⟨j + 1, ?_, ?_, ⟨?_, ?_, trivial⟩, trivial, ⟨rfl, rfl, rfl, rfl, rfl, rfl, rfl, rfl, rfl, rfl, rfl, trivial⟩, ⟨rfl, trivial⟩⟩
            · exact hj
            · omega
            · rfl
            · show some (AV.p (PV.v (Value.int IntKind.i64 _))) = _; first | rw [countTo_T (b := beginOf x) hy c31] | rw [countTo_F (b := beginOf x) hy c31]
          · -- c31 False
            refine AC.skip ?_
            refine AC.mark ?_
            refine AC.region ?_
            refine AO.yld _ (Yld.add rfl rfl (by omega) (by omega)) rfl rfl rfl ?_
            refine AO.yld _ (Yld.move rfl) rfl rfl rfl ?_
            refine AO.nil ?_
            refine AC.back ⟨j + 1, ?_, ?_, ⟨?_, ?_, trivial⟩, trivial, ⟨rfl, rfl, rfl, rfl, rfl, rfl, rfl, rfl, rfl, rfl, rfl, trivial⟩, ⟨rfl, trivial⟩⟩
            · exact hj
            · omega
            · rfl
            · show some (AV.p (PV.v (Value.int IntKind.i64 _))) = _; first | rw [countTo_T (b := beginOf x) hy c31] | rw [countTo_F (b := beginOf x) hy c31]
        · -- c26 False
          obtain rfl : j = xs.length := by have := ge_of_decM c26; omega
          have hlc := countTo_lim (xs := xs) (b := beginOf x) xs.length
          refine AC.exit rfl ?_
          refine AC.seq ?_
          refine AC.region ?_
          refine AO.yld _ (Yld.move rfl) rfl rfl rfl ?_
          refine AO.yld _ (Yld.move rfl) rfl rfl rfl ?_
          refine AO.yld _ (Yld.int rfl rfl rfl) rfl rfl rfl ?_
          refine AO.yld _ (Yld.move rfl) rfl rfl rfl ?_
          refine AO.splitAt 38 _ rfl (fun s38 => ?_) (fun s38 => ?_)
          · -- s38 True
            refine AO.skipF rfl rfl rfl rfl rfl ?_
            refine AO.skipF rfl rfl rfl rfl rfl ?_
            refine AO.skipF rfl rfl rfl rfl rfl ?_
            refine AO.skipF rfl rfl rfl rfl rfl ?_
            refine AO.skipU rfl rfl rfl rfl rfl ?_
            refine AO.skipU rfl rfl rfl rfl rfl ?_
            refine AO.skipU rfl rfl rfl rfl rfl ?_
            refine AO.skipF rfl rfl rfl rfl rfl ?_
            refine AO.yld _ (Yld.pickT rfl rfl) rfl rfl rfl ?_
            refine AO.nil ?_
            refine AC.condT rfl ?_
            refine AC.region ?_
            refine AO.yld _ (Yld.move rfl) rfl rfl rfl ?_
            refine AO.yld _ (Yld.move rfl) rfl rfl rfl ?_
            refine AO.yld _ (Yld.assign rfl) rfl rfl rfl ?_
            refine AO.yld _ (Yld.assign rfl) rfl rfl rfl ?_
            refine AO.nil ?_
            refine AC.mark ?_
            refine AC.region ?_
            refine AO.yld _ (Yld.add rfl rfl (by omega) (by omega)) rfl rfl rfl ?_
            refine AO.yld _ (Yld.move rfl) rfl rfl rfl ?_
            refine AO.nil ?_
            refine AC.back ⟨k + 1, ?_, ?_, ⟨?_, ?_, ?_, trivial⟩, trivial, ⟨rfl, rfl, rfl, rfl, rfl, trivial⟩, trivial⟩
            · exact hk
            · omega
            · rfl
            · show some (AV.p (PV.v (Value.int IntKind.i64 _))) = _; first | (rw [bestB_T hx (by (try simp at *); omega)]; done) | (rw [bestB_T hx (by (try simp at *); omega)]; rfl) | rw [bestB_F hx (by (try simp at *); omega)]
            · show some (AV.p (PV.v (Value.int IntKind.i64 _))) = _; first | (rw [bestB_T hx (by (try simp at *); omega)]; done) | (rw [bestB_T hx (by (try simp at *); omega)]; rfl) | rw [bestB_F hx (by (try simp at *); omega)]
          · -- s38 False
            refine AO.yldG _ (Yld.move rfl) rfl rfl rfl rfl rfl ?_
            refine AO.yldG _ (Yld.move rfl) rfl rfl rfl rfl rfl ?_
            refine AO.yldG _ (Yld.int rfl rfl rfl) rfl rfl rfl rfl rfl ?_
            refine AO.yldG _ (Yld.move rfl) rfl rfl rfl rfl rfl ?_
            refine AO.splitAt 42 _ rfl (fun s42 => ?_) (fun s42 => ?_)
            · -- s42 True
              refine AO.yldG _ (Yld.move rfl) rfl rfl rfl rfl rfl ?_
              refine AO.yldG _ (Yld.move rfl) rfl rfl rfl rfl rfl ?_
              refine AO.yldG _ (Yld.int rfl rfl rfl) rfl rfl rfl rfl rfl ?_
              refine AO.yldG _ (Yld.pickT rfl rfl) rfl rfl rfl rfl rfl ?_
              refine AO.yld _ (Yld.pickF rfl rfl) rfl rfl rfl ?_
              refine AO.nil ?_
              refine AC.cond _ rfl (fun c47 => ?_) (fun c47 => ?_)
              · -- c47 True
                refine AC.region ?_
                refine AO.yld _ (Yld.move rfl) rfl rfl rfl ?_
                refine AO.yld _ (Yld.move rfl) rfl rfl rfl ?_
                refine AO.yld _ (Yld.assign rfl) rfl rfl rfl ?_
                refine AO.yld _ (Yld.assign rfl) rfl rfl rfl ?_
                refine AO.nil ?_
                refine AC.mark ?_
                refine AC.region ?_
                refine AO.yld _ (Yld.add rfl rfl (by omega) (by omega)) rfl rfl rfl ?_
                refine AO.yld _ (Yld.move rfl) rfl rfl rfl ?_
                refine AO.nil ?_
                refine AC.back ⟨k + 1, ?_, ?_, ⟨?_, ?_, ?_, trivial⟩, trivial, ⟨rfl, rfl, rfl, rfl, rfl, trivial⟩, trivial⟩
                · exact hk
                · omega
                · rfl
                · show some (AV.p (PV.v (Value.int IntKind.i64 _))) = _; first | (rw [bestB_T hx (by (try simp at *); omega)]; done) | (rw [bestB_T hx (by (try simp at *); omega)]; rfl) | rw [bestB_F hx (by (try simp at *); omega)]
                · show some (AV.p (PV.v (Value.int IntKind.i64 _))) = _; first | (rw [bestB_T hx (by (try simp at *); omega)]; done) | (rw [bestB_T hx (by (try simp at *); omega)]; rfl) | rw [bestB_F hx (by (try simp at *); omega)]
              · -- c47 False
                refine AC.skip ?_
                refine AC.mark ?_
                refine AC.region ?_
                refine AO.yld _ (Yld.add rfl rfl (by omega) (by omega)) rfl rfl rfl ?_
                refine AO.yld _ (Yld.move rfl) rfl rfl rfl ?_
                refine AO.nil ?_
                refine AC.back ⟨k + 1, ?_, ?_, ⟨?_, ?_, ?_, trivial⟩, trivial, ⟨rfl, rfl, rfl, rfl, rfl, trivial⟩, trivial⟩
                · exact hk
                · omega
                · rfl
                · show some (AV.p (PV.v (Value.int IntKind.i64 _))) = _; first | (rw [bestB_T hx (by (try simp at *); omega)]; done) | (rw [bestB_T hx (by (try simp at *); omega)]; rfl) | rw [bestB_F hx (by (try simp at *); omega)]
                · show some (AV.p (PV.v (Value.int IntKind.i64 _))) = _; first | (rw [bestB_T hx (by (try simp at *); omega)]; done) | (rw [bestB_T hx (by (try simp at *); omega)]; rfl) | rw [bestB_F hx (by (try simp at *); omega)]
            · -- s42 False
              refine AO.skipT rfl rfl rfl rfl rfl ?_
              refine AO.skipT rfl rfl rfl rfl rfl ?_
              refine AO.skipT rfl rfl rfl rfl rfl ?_
              refine AO.yldG _ (Yld.pickF rfl rfl) rfl rfl rfl rfl rfl ?_
              refine AO.yld _ (Yld.pickF rfl rfl) rfl rfl rfl ?_
              refine AO.nil ?_
              refine AC.condF rfl ?_
              refine AC.skip ?_
              refine AC.mark ?_
              refine AC.region ?_
              refine AO.yld _ (Yld.add rfl rfl (by omega) (by omega)) rfl rfl rfl ?_
              refine AO.yld _ (Yld.move rfl) rfl rfl rfl ?_
              refine AO.nil ?_
              refine AC.back ⟨k + 1, ?_, ?_, ⟨?_, ?_, ?_, trivial⟩, trivial, ⟨rfl, rfl, rfl, rfl, rfl, trivial⟩, trivial⟩
              · exact hk
              · omega
              · rfl
              · show some (AV.p (PV.v (Value.int IntKind.i64 _))) = _; first | (rw [bestB_T hx (by (try simp at *); omega)]; done) | (rw [bestB_T hx (by (try simp at *); omega)]; rfl) | rw [bestB_F hx (by (try simp at *); omega)]
              · show some (AV.p (PV.v (Value.int IntKind.i64 _))) = _; first | (rw [bestB_T hx (by (try simp at *); omega)]; done) | (rw [bestB_T hx (by (try simp at *); omega)]; rfl) | rw [bestB_F hx (by (try simp at *); omega)]
    · -- c15 False
      obtain rfl : k = xs.length := by have := ge_of_decM c15; omega
      refine AC.exit rfl ?_
      refine AC.seq ?_
      refine AC.region ?_
      refine AO.yld _ (Yld.move rfl) rfl rfl rfl ?_
      refine AO.yld _ (Yld.move rfl) rfl rfl rfl ?_
      refine AO.yld _ (Yld.assign rfl) rfl rfl rfl ?_
      refine AO.yld _ (Yld.assign rfl) rfl rfl rfl ?_
      refine AO.nil ?_
      refine Pure.retT Tryd.results72 (RVs.cons (RV.tmp rfl) (RVs.cons (RV.tmp rfl) RVs.nil)) rfl ?_
      rfl

theorem impl_AgreedOffset_c {xs : List Mach} (hn : xs.length ≤ 1048576) (hs : ∀ x ∈ xs, x.name.length ≤ 1048576) :
    Pure Tryd.prog 15 [.sl 3 (xs.map encMach)] (.tup [.v (.int .i64 (agreedOffset xs).1), .v (.int .i64 (agreedOffset xs).2.1), .v (.int .i64 (agreedOffset xs).2.2.1), .v (.int .i64 (agreedOffset xs).2.2.2)]) := by
  refine Pure.intro Tryd.func15 rfl Tryd.ntmps15 rfl rfl (fun w => ?_)
  refine AC.seq ?_
  refine AC.region ?_
  refine AO.yld _ (Yld.assign rfl) rfl rfl rfl ?_
  refine AO.yld _ (Yld.assign rfl) rfl rfl rfl ?_
  refine AO.yld _ (Yld.assign rfl) rfl rfl rfl ?_
  refine AO.yld _ (Yld.assign rfl) rfl rfl rfl ?_
  refine AO.nil ?_
  refine AC.seq ?_
  refine AC.seq ?_
  refine AC.region ?_
  refine AO.yld _ (Yld.move rfl) rfl rfl rfl ?_
  refine AO.yld _ (Yld.call rfl rfl Tryd.call71 rfl rfl rfl (impl_checkMachines_c (by first | assumption | omega) (by assumption)) rfl) rfl rfl rfl ?_
  refine AO.yld _ (Yld.assign rfl) rfl rfl rfl ?_
  refine AO.nil ?_
  refine AC.seq ?_
  refine AC.region ?_
  refine AO.yld _ (Yld.move rfl) rfl rfl rfl ?_
  refine AO.yld _ (Yld.int rfl rfl rfl) rfl rfl rfl ?_
  refine AO.nil ?_
  refine AC.cond _ rfl (fun c15 => ?_) (fun c15 => ?_)
  · -- c15 True
    refine AC.seq ?_
    refine AC.region ?_
    refine AO.yld _ (Yld.move rfl) rfl rfl rfl ?_
    refine AO.yld _ (Yld.assign rfl) rfl rfl rfl ?_
    refine AO.yld _ (Yld.assign rfl) rfl rfl rfl ?_
    refine AO.yld _ (Yld.assign rfl) rfl rfl rfl ?_
    refine AO.yld _ (Yld.assign rfl) rfl rfl rfl ?_
    refine AO.nil ?_
    refine Pure.retT Tryd.results15 (RVs.cons (RV.tmp rfl) (RVs.cons (RV.tmp rfl) (RVs.cons (RV.tmp rfl) (RVs.cons (RV.tmp rfl) RVs.nil)))) rfl ?_
    first | (exact agreed_bad (by simpa using c15)) | (exact agreed_ok hk0 (by omega))
  · -- c15 False
    have hk0 : askMachines xs = 0 := by first | (simpa using c15) | (exact absurd c15 (by decide))
    have hok := (ask_ok hk0).1
    have hlen := (ask_ok hk0).2
    refine AC.skip ?_
    refine AC.seq ?_
    refine AC.region ?_
    refine AO.yld _ (Yld.move rfl) rfl rfl rfl ?_
    refine AO.yld _ (Yld.call rfl rfl Tryd.call72 rfl rfl rfl (impl_agreedOffset_c (by first | assumption | omega) (by assumption)) rfl) rfl rfl rfl ?_
    refine AO.yld _ (Yld.move rfl) rfl rfl rfl ?_
    refine AO.yld _ (Yld.extract rfl rfl rfl) rfl rfl rfl ?_
    refine AO.yld _ (Yld.extract rfl rfl rfl) rfl rfl rfl ?_
    refine AO.yld _ (Yld.assign rfl) rfl rfl rfl ?_
    refine AO.yld _ (Yld.assign rfl) rfl rfl rfl ?_
    refine AO.nil ?_
    refine AC.seq ?_
    refine AC.region ?_
    refine AO.yld _ (Yld.assign rfl) rfl rfl rfl ?_
    refine AO.nil ?_
    refine AC.seq ?_
    refine AC.seq ?_
    refine AC.region ?_
    refine AO.yld _ (Yld.move rfl) rfl rfl rfl ?_
    refine AO.yld _ (Yld.len Tryd.underlying24 rfl rfl) rfl rfl rfl ?_
    refine AO.yld _ (Yld.move rfl) rfl rfl rfl ?_
    refine AO.nil ?_
    refine AC.block ?_
    refine AC.loopC [(2, _), (3, _), (4, _), (5, _), (7, _), (8, _), (22, _), (23, _)] [] (fun (k : Nat) => [(24, .p (.v (.int .i64 (k : Int)))), (9, .p (.v (.int .i64 (endTo xs (bestB xs xs.length).1 3000000000 k))))]) (fun (k : Nat) => []) (fun (k : Nat) => k ≤ xs.length) (fun (k : Nat) => xs.length - k) 0 ⟨rfl, rfl, rfl, rfl, rfl, rfl, rfl, rfl, trivial⟩ trivial ⟨rfl, rfl, trivial⟩ trivial ?_ (fun k hJ => ?_)
    · exact Nat.zero_le _
    · -- round
      refine AC.seq ?_
      refine AC.region ?_
      refine AO.yld _ (Yld.int rfl rfl rfl) rfl rfl rfl ?_
      refine AO.nil ?_
      refine AC.seq ?_
      refine AC.cond _ rfl (fun c25 => ?_) (fun c25 => ?_)
      · -- c25 True
        have hk := lt_of_decM c25
        obtain ⟨x, hx⟩ := get_some hk
        have hrow := map_row (enc := encMach) hx
        have hox := machines_at hok hx
        have hlx := mach_lim hox
        refine AC.skip ?_
        refine AC.seq ?_
        refine AC.block ?_
        refine AC.seq ?_
        refine AC.region ?_
        refine AO.yld _ (Yld.indexSl Tryd.underlying24 Tryd.sizeOf33 rfl rfl hrow rfl) rfl rfl rfl ?_
        refine AO.yld _ (Yld.loadAgg Tryd.isAgg33 Tryd.sizeOf33 rfl rfl rfl rfl) rfl rfl rfl ?_
        refine AO.alloc 0 Tryd.zeroValue33 rfl rfl rfl ?_
        refine AO.store Tryd.sizeOf33 rfl rfl rfl rfl rfl rfl ?_
        refine AO.nil ?_
        refine AC.seq ?_
        refine AC.region ?_
        refine AO.yld _ (Yld.loadAgg Tryd.isAgg33 Tryd.sizeOf33 rfl rfl rfl rfl) rfl rfl rfl ?_
        refine AO.yld _ (Yld.move rfl) rfl rfl rfl ?_
        refine AO.yld _ (Yld.call rfl rfl Tryd.call73 rfl rfl rfl (impl_liesIn_c (by assumption)) rfl) rfl rfl rfl ?_
        refine AO.nil ?_
        refine AC.cond _ rfl (fun c30 => ?_) (fun c30 => ?_)
        · -- c30 True
          refine AC.region ?_
          refine AO.yld _ (Yld.move rfl) rfl rfl rfl ?_
          refine AO.yld _ (Yld.fieldAddr Tryd.underlying33 rfl rfl Tryd.sizeOf2 rfl rfl rfl) rfl rfl rfl ?_
          refine AO.yld _ (Yld.load Tryd.isAgg2 rfl rfl) rfl rfl rfl ?_
          refine AO.yld _ (Yld.fieldAddr Tryd.underlying33 rfl rfl Tryd.sizeOf2 rfl rfl rfl) rfl rfl rfl ?_
          refine AO.yld _ (Yld.load Tryd.isAgg2 rfl rfl) rfl rfl rfl ?_
          refine AO.yld _ (Yld.add rfl rfl (by omega) (by omega)) rfl rfl rfl ?_
          refine AO.yld _ (Yld.min2 rfl rfl) rfl rfl rfl ?_
          refine AO.yld _ (Yld.assign rfl) rfl rfl rfl ?_
          refine AO.nil ?_
          refine AC.mark ?_
          refine AC.region ?_
          refine AO.yld _ (Yld.add rfl rfl (by omega) (by omega)) rfl rfl rfl ?_
          refine AO.yld _ (Yld.move rfl) rfl rfl rfl ?_
          refine AO.nil ?_
          refine AC.back ⟨k + 1, ?_, ?_, ⟨?_, ?_, trivial⟩, trivial, ⟨rfl, rfl, rfl, rfl, rfl, rfl, rfl, rfl, trivial⟩, trivial⟩
          · exact hk
          · omega
          · rfl
          · show some (AV.p (PV.v (Value.int IntKind.i64 _))) = _; first | (rw [endTo_T hx c30]; rfl) | rw [endTo_F hx c30]
        · -- c30 False
          refine AC.skip ?_
          refine AC.mark ?_
          refine AC.region ?_
          refine AO.yld _ (Yld.add rfl rfl (by omega) (by omega)) rfl rfl rfl ?_
          refine AO.yld _ (Yld.move rfl) rfl rfl rfl ?_
          refine AO.nil ?_
          refine AC.back ⟨k + 1, ?_, ?_, ⟨?_, ?_, trivial⟩, trivial, ⟨rfl, rfl, rfl, rfl, rfl, rfl, rfl, rfl, trivial⟩, trivial⟩
          · exact hk
          · omega
          · rfl
          · show some (AV.p (PV.v (Value.int IntKind.i64 _))) = _; first | (rw [endTo_T hx c30]; rfl) | rw [endTo_F hx c30]
      · -- c25 False
        obtain rfl : k = xs.length := by have := ge_of_decM c25; omega
        refine AC.exit rfl ?_
        refine AC.seq ?_
        refine AC.region ?_
        refine AO.yld _ (Yld.move rfl) rfl rfl rfl ?_
        refine AO.yld _ (Yld.move rfl) rfl rfl rfl ?_
        refine AO.yld _ (Yld.move rfl) rfl rfl rfl ?_
        refine AO.yld _ (Yld.assign rfl) rfl rfl rfl ?_
        refine AO.yld _ (Yld.assign rfl) rfl rfl rfl ?_
        refine AO.yld _ (Yld.assign rfl) rfl rfl rfl ?_
        refine AO.yld _ (Yld.assign rfl) rfl rfl rfl ?_
        refine AO.nil ?_
        refine Pure.retT Tryd.results15 (RVs.cons (RV.tmp rfl) (RVs.cons (RV.tmp rfl) (RVs.cons (RV.tmp rfl) (RVs.cons (RV.tmp rfl) RVs.nil)))) rfl ?_
        first | (exact agreed_bad (by simpa using c15)) | (exact agreed_ok hk0 (by omega))

theorem laws_szVersion_c {x : Ver} {l : Int} (hw : VerWf x) (h0 : 0 ≤ l) (h1 : l ≤ 1048576) :
    FnE (α := Int) Tryd.prog 35 [.agg ((encVer x).map .p), .p (.v (.int .i64 l))] [] [] (fun r => r < 0 ∨ (VerGood x ∧ 0 ≤ r ∧ r ≤ l)) (fun r => .p (.v (.int .i64 r))) (fun r => []) := by
  obtain ⟨w1, w2, w3, w4, w5⟩ := hw
  refine FnE.intro Tryd.func35 rfl Tryd.ntmps35 rfl rfl (fun w0 F0 η φ w => ?_)
  refine AC.seq ?_
  refine AC.region ?_
  refine AO.box 0 rfl rfl rfl rfl rfl ?_
  refine AO.yld _ (Yld.assign rfl) rfl rfl rfl ?_
  refine AO.nil ?_
  refine AC.seq ?_
  refine AC.region ?_
  refine AO.yld _ (Yld.move rfl) rfl rfl rfl ?_
  refine AO.yld _ (Yld.fieldAddr Tryd.underlying69 rfl rfl Tryd.sizeOf9 rfl rfl rfl) rfl rfl rfl ?_
  refine AO.yld _ (Yld.load Tryd.isAgg9 rfl rfl) rfl rfl rfl ?_
  refine AO.yld _ (Yld.lenStr Tryd.underlying9 rfl) rfl rfl rfl ?_
  refine AO.yld _ (Yld.sub rfl rfl (by omega) (by omega)) rfl rfl rfl ?_
  refine AO.yld _ (Yld.assign rfl) rfl rfl rfl ?_
  refine AO.nil ?_
  refine AC.seq ?_
  refine AC.seq ?_
  refine AC.region ?_
  refine AO.yld _ (Yld.move rfl) rfl rfl rfl ?_
  refine AO.yld _ (Yld.int rfl rfl rfl) rfl rfl rfl ?_
  refine AO.nil ?_
  refine AC.cond _ rfl (fun c11 => ?_) (fun c11 => ?_)
  · -- c11 True
    refine AC.seq ?_
    refine AC.region ?_
    refine AO.yld _ (Yld.assign rfl) rfl rfl rfl ?_
    refine AO.nil ?_
    refine FnE.ret _ [] [] Tryd.results35 (RVs.cons (RV.tmp rfl) RVs.nil) rfl rfl rfl ?_ rfl trivial
    · -- holds
      first | exact .inl (by omega) | exact .inr (good_one h0 h1 rfl (by assumption) rfl (by assumption))
  · -- c11 False
    have hl1 : ¬ l - x.memo.length < 0 := by simpa using c11
    refine AC.skip ?_
    refine AC.seq ?_
    refine AC.region ?_
    refine AO.yld _ (Yld.fieldAddr Tryd.underlying69 rfl rfl Tryd.sizeOf67 rfl rfl rfl) rfl rfl rfl ?_
    refine AO.yld _ (Yld.load Tryd.isAgg67 rfl rfl) rfl rfl rfl ?_
    refine AO.yld _ (Yld.move rfl) rfl rfl rfl ?_
    refine AO.yld _ (Yld.call rfl rfl Tryd.call96 rfl rfl rfl (laws_szSettingS_c (by omega) (by omega) (by first | assumption | omega) (by assumption)) rfl) rfl rfl rfl ?_
    refine AO.yld _ (Yld.assign rfl) rfl rfl rfl ?_
    refine AO.nil ?_
    refine AC.seq ?_
    refine AC.seq ?_
    refine AC.region ?_
    refine AO.yld _ (Yld.move rfl) rfl rfl rfl ?_
    refine AO.yld _ (Yld.int rfl rfl rfl) rfl rfl rfl ?_
    refine AO.nil ?_
    refine AC.cond _ rfl (fun c17 => ?_) (fun c17 => ?_)
    · -- c17 True
      refine AC.seq ?_
      refine AC.region ?_
      refine AO.yld _ (Yld.assign rfl) rfl rfl rfl ?_
      refine AO.nil ?_
      refine FnE.ret _ [] [] Tryd.results35 (RVs.cons (RV.tmp rfl) RVs.nil) rfl rfl rfl ?_ rfl trivial
      · -- holds
        first | exact .inl (by omega) | exact .inr (good_one h0 h1 rfl (by assumption) rfl (by assumption))
    · -- c17 False
      have hl2 : ¬ szAll NV.name x.state (l - x.memo.length) < 0 := by simpa using c17
      refine AC.skip ?_
      refine AC.seq ?_
      refine AC.region ?_
      refine AO.yld _ (Yld.move rfl) rfl rfl rfl ?_
      refine AO.yld _ (Yld.assign rfl) rfl rfl rfl ?_
      refine AO.nil ?_
      refine FnE.ret _ [] [] Tryd.results35 (RVs.cons (RV.tmp rfl) RVs.nil) rfl rfl rfl ?_ rfl trivial
      · -- holds
        first | exact .inl (by omega) | exact .inr (good_one h0 h1 rfl (by assumption) rfl (by assumption))

theorem laws_szVersionS_c {xs : List Ver} {left : Int} (hb : xs.length ≤ 9223372036854775807) (hw : ∀ x ∈ xs, VerWf x) (h0 : 0 ≤ left) (h1 : left ≤ 1048576) :
    FnE (α := Int) Tryd.prog 40 [.p (.sl 4 (xs.map encVer)), .p (.v (.int .i64 left))] [] [] (fun r => r < 0 ∨ (VersGood xs ∧ 0 ≤ r ∧ r ≤ left)) (fun r => .p (.v (.int .i64 r))) (fun r => []) := by
  refine FnE.intro Tryd.func40 rfl Tryd.ntmps40 rfl rfl (fun w0 F0 η φ w => ?_)
  refine AC.seq ?_
  refine AC.region ?_
  refine AO.yld _ (Yld.assign rfl) rfl rfl rfl ?_
  refine AO.nil ?_
  refine AC.seq ?_
  refine AC.region ?_
  refine AO.yld _ (Yld.move rfl) rfl rfl rfl ?_
  refine AO.yld _ (Yld.move rfl) rfl rfl rfl ?_
  refine AO.yld _ (Yld.len Tryd.underlying78 rfl rfl) rfl rfl rfl ?_
  refine AO.yld _ (Yld.sub rfl rfl (by simp only [List.length_map]; omega) (by simp only [List.length_map]; omega)) rfl rfl rfl ?_
  refine AO.yld _ (Yld.assign rfl) rfl rfl rfl ?_
  refine AO.nil ?_
  refine AC.seq ?_
  refine AC.seq ?_
  refine AC.region ?_
  refine AO.yld _ (Yld.move rfl) rfl rfl rfl ?_
  refine AO.yld _ (Yld.int rfl rfl rfl) rfl rfl rfl ?_
  refine AO.nil ?_
  refine AC.cond _ rfl (fun c11 => ?_) (fun c11 => ?_)
  · -- c11 True
    have hl1 : left - xs.length < 0 := by have h := c11; simp only [List.length_map] at h; simpa using h
    refine AC.seq ?_
    refine AC.region ?_
    refine AO.yld _ (Yld.assign rfl) rfl rfl rfl ?_
    refine AO.nil ?_
    refine FnE.ret _ [] [] Tryd.results40 (RVs.cons (RV.tmp rfl) RVs.nil) rfl rfl rfl ?_ rfl trivial
    · -- holds
      first | exact .inl (by omega) | exact .inr ⟨⟨by omega, by have := hJ.1; rw [List.take_of_length_le (Nat.le_refl _)] at this; exact this⟩, by omega, by omega⟩
  · -- c11 False
    have hl1 : ¬ left - xs.length < 0 := by have h := c11; simp only [List.length_map] at h; simpa using h
    refine AC.skip ?_
    refine AC.seq ?_
    refine AC.seq ?_
    refine AC.region ?_
    refine AO.yld _ (Yld.assign rfl) rfl rfl rfl ?_
    refine AO.nil ?_
    refine AC.block ?_
    refine AC.loopC2 [(0, _)] [(900, _)] (fun (k : Nat) (l : Int) => [(5, .p (.v (.int .i64 (k : Int)))), (1, .p (.v (.int .i64 l)))]) (fun (k : Nat) (l : Int) => []) (fun (k : Nat) (l : Int) => (∀ v ∈ xs.take k, VerGood v) ∧ k ≤ xs.length ∧ 0 ≤ l ∧ l ≤ left - xs.length) (fun (k : Nat) (l : Int) => xs.length - k) 0 (left - xs.length) ⟨rfl, trivial⟩ ⟨rfl, trivial⟩ ⟨rfl, by show some (AV.p (PV.v (Value.int IntKind.i64 _))) = _; simp only [List.length_map], trivial⟩ trivial ?_ (fun k l hJ => ?_)
    · exact ⟨by simp, Nat.zero_le _, by omega, by omega⟩
    · -- round
      refine AC.seq ?_
      refine AC.seq ?_
      refine AC.region ?_
      refine AO.yld _ (Yld.move rfl) rfl rfl rfl ?_
      refine AO.yld _ (Yld.move rfl) rfl rfl rfl ?_
      refine AO.yld _ (Yld.len Tryd.underlying78 rfl rfl) rfl rfl rfl ?_
      refine AO.yld _ (Yld.int rfl rfl rfl) rfl rfl rfl ?_
      refine AO.nil ?_
      refine AC.cond _ rfl (fun c15 => ?_) (fun c15 => ?_)
      · -- c15 True
        have hk := lt_of_decM c15
        obtain ⟨x, hx⟩ := get_some hk
        have hrow := map_row (enc := encVer) hx
        have hwx := hw x (List.mem_of_getElem? hx)
        refine AC.skip ?_
        refine AC.seq ?_
        refine AC.block ?_
        refine AC.seq ?_
        refine AC.region ?_
        refine AO.yld _ (Yld.move rfl) rfl rfl rfl ?_
        refine AO.yld _ (Yld.move rfl) rfl rfl rfl ?_
        refine AO.yld _ (Yld.indexSl Tryd.underlying78 Tryd.sizeOf69 rfl rfl hrow rfl) rfl rfl rfl ?_
        refine AO.yld _ (Yld.loadAgg Tryd.isAgg69 Tryd.sizeOf69 rfl rfl rfl rfl) rfl rfl rfl ?_
        refine AO.yld _ (Yld.move rfl) rfl rfl rfl ?_
        refine AO.callW (wantedN rfl) [] [] [] rfl rfl Tryd.call35 rfl (laws_szVersion_c (by assumption) (by omega) (by omega)) (.own rfl) rfl (fun _ => rfl) trivial rfl (fun _ => rfl) (fun _ => rfl) (fun r23 hr23 => ?_)
        refine AO.yld _ (Yld.assign rfl) rfl rfl rfl ?_
        refine AO.nil ?_
        refine AC.seq ?_
        refine AC.region ?_
        refine AO.yld _ (Yld.move rfl) rfl rfl rfl ?_
        refine AO.yld _ (Yld.int rfl rfl rfl) rfl rfl rfl ?_
        refine AO.nil ?_
        refine AC.cond _ rfl (fun c25 => ?_) (fun c25 => ?_)
        · -- c25 True
          have hl3 : r23 < 0 := by simpa using c25
          refine AC.seq ?_
          refine AC.region ?_
          refine AO.yld _ (Yld.assign rfl) rfl rfl rfl ?_
          refine AO.nil ?_
          refine FnE.ret _ [] [] Tryd.results40 (RVs.cons (RV.tmp rfl) RVs.nil) rfl rfl rfl ?_ rfl trivial
          · -- holds
            first | exact .inl (by omega) | exact .inr ⟨⟨by omega, by have := hJ.1; rw [List.take_of_length_le (Nat.le_refl _)] at this; exact this⟩, by omega, by omega⟩
        · -- c25 False
          have hg1 : VerGood x ∧ 0 ≤ r23 ∧ r23 ≤ l := by rcases hr23 with h | h; exact absurd h (by simpa using c25); exact h
          refine AC.skip ?_
          refine AC.mark ?_
          refine AC.region ?_
          refine AO.yld _ (Yld.move rfl) rfl rfl rfl ?_
          refine AO.yld _ (Yld.add rfl rfl (by omega) (by omega)) rfl rfl rfl ?_
          refine AO.yld _ (Yld.assign rfl) rfl rfl rfl ?_
          refine AO.nil ?_
          refine AC.back ⟨k + 1, r23, ?_, ?_, ⟨?_, ?_, trivial⟩, trivial, ⟨rfl, trivial⟩, ⟨rfl, trivial⟩⟩
          · exact ⟨good_snoc hx hJ.1 hg1.1, hk, by omega, by omega⟩
          · omega
          · rfl
          · rfl
      · -- c15 False
        obtain rfl : k = xs.length := by have := ge_of_decM c15; omega
        refine AC.exit rfl ?_
        refine AC.seq ?_
        refine AC.region ?_
        refine AO.yld _ (Yld.move rfl) rfl rfl rfl ?_
        refine AO.yld _ (Yld.assign rfl) rfl rfl rfl ?_
        refine AO.nil ?_
        refine FnE.ret _ [] [] Tryd.results40 (RVs.cons (RV.tmp rfl) RVs.nil) rfl rfl rfl ?_ rfl trivial
        · -- holds
          first | exact .inl (by omega) | exact .inr ⟨⟨by omega, by have := hJ.1; rw [List.take_of_length_le (Nat.le_refl _)] at this; exact this⟩, by omega, by omega⟩

theorem laws_toVersion_c {x : Ver} (hg : VerGood x) :
    FnE (α := Unit) Tryd.prog 37 [.agg ((encVer x).map .p)] [] [] (fun _ => True) (fun _ => .agg [.p (.v (.int .i64 x.number)), .p (.v (.int .i64 x.parent)), .p (.v (str x.memo)), .h 0]) (fun _ => [(0, .vec 146 2 (x.state.map encNV))]) := by
  obtain ⟨g1, g2, g3⟩ := hg
  refine FnE.intro Tryd.func37 rfl Tryd.ntmps37 rfl rfl (fun w0 F0 η φ w => ?_)
  refine AC.seq ?_
  refine AC.region ?_
  refine AO.box 0 rfl rfl rfl rfl rfl ?_
  refine AO.alloc 1 Tryd.zeroValue74 rfl rfl rfl ?_
  refine AO.nil ?_
  refine AC.seq ?_
  refine AC.region ?_
  refine AO.alloc 2 Tryd.zeroValue74 rfl rfl rfl ?_
  refine AO.nil ?_
  refine AC.seq ?_
  refine AC.region ?_
  refine AO.yld _ (Yld.fieldAddr Tryd.underlying69 rfl rfl Tryd.sizeOf2 rfl rfl rfl) rfl rfl rfl ?_
  refine AO.yld _ (Yld.load Tryd.isAgg2 rfl rfl) rfl rfl rfl ?_
  refine AO.yld _ (Yld.fieldAddr Tryd.underlying74 rfl rfl Tryd.sizeOf2 rfl rfl rfl) rfl rfl rfl ?_
  refine AO.store Tryd.sizeOf2 rfl rfl rfl rfl rfl rfl ?_
  refine AO.nil ?_
  refine AC.seq ?_
  refine AC.region ?_
  refine AO.yld _ (Yld.fieldAddr Tryd.underlying69 rfl rfl Tryd.sizeOf2 rfl rfl rfl) rfl rfl rfl ?_
  refine AO.yld _ (Yld.load Tryd.isAgg2 rfl rfl) rfl rfl rfl ?_
  refine AO.yld _ (Yld.fieldAddr Tryd.underlying74 rfl rfl Tryd.sizeOf2 rfl rfl rfl) rfl rfl rfl ?_
  refine AO.store Tryd.sizeOf2 rfl rfl rfl rfl rfl rfl ?_
  refine AO.nil ?_
  refine AC.seq ?_
  refine AC.region ?_
  refine AO.yld _ (Yld.fieldAddr Tryd.underlying69 rfl rfl Tryd.sizeOf9 rfl rfl rfl) rfl rfl rfl ?_
  refine AO.yld _ (Yld.load Tryd.isAgg9 rfl rfl) rfl rfl rfl ?_
  refine AO.yld _ (Yld.fieldAddr Tryd.underlying74 rfl rfl Tryd.sizeOf9 rfl rfl rfl) rfl rfl rfl ?_
  refine AO.store Tryd.sizeOf9 rfl rfl rfl rfl rfl rfl ?_
  refine AO.nil ?_
  refine AC.seq ?_
  refine AC.region ?_
  refine AO.yld _ (Yld.fieldAddr Tryd.underlying69 rfl rfl Tryd.sizeOf67 rfl rfl rfl) rfl rfl rfl ?_
  refine AO.yld _ (Yld.load Tryd.isAgg67 rfl rfl) rfl rfl rfl ?_
  refine AO.callMk 3 rfl rfl Tryd.call101 rfl rfl rfl (laws_toSettingS_c (by first | assumption | omega)) (by simp [AV.Flat, AV.FlatL, PV.Flat, PV.FlatL]) (flat_map flatNV _) rfl rfl ?_
  refine AO.yld _ (Yld.fieldAddr Tryd.underlying74 rfl rfl Tryd.sizeOf72 rfl rfl rfl) rfl rfl rfl ?_
  refine AO.store Tryd.sizeOf72 rfl rfl rfl rfl rfl rfl ?_
  refine AO.nil ?_
  refine AC.seq ?_
  refine AC.region ?_
  refine AO.yld _ (Yld.loadAgg Tryd.isAgg74 Tryd.sizeOf74 rfl rfl rfl rfl) rfl rfl rfl ?_
  refine AO.store Tryd.sizeOf74 rfl rfl rfl rfl rfl rfl ?_
  refine AO.nil ?_
  refine FnE.ret () [3] [0] Tryd.results37 (RVs.cons (RV.cell Tryd.isAgg74 Tryd.sizeOf74 rfl rfl rfl rfl) RVs.nil) rfl rfl rfl ?_ ?_ ⟨⟨_, rfl, ?_⟩, trivial⟩
  · -- holds
    trivial
  · -- value
    rfl
  · -- thing 0
    first | rfl | exact vecE (by first | rfl | (simp_all; done) | grind) | (simp_all; done)

theorem laws_toVersionS_c {xs : List Ver} (hg : VersGood xs) :
    FnE (α := Unit) Tryd.prog 42 [.p (.sl 4 (xs.map encVer))] [] [] (fun _ => True) (fun _ => .h 0) (fun _ => [(0, .vec 74 4 (xs.map encVer))]) := by
  have hM : (xs.map encVer).length = xs.length := List.length_map ..
  have hn := hg.1
  refine FnE.intro Tryd.func42 rfl Tryd.ntmps42 rfl rfl (fun w0 F0 η φ w => ?_)
  refine AC.seq ?_
  refine AC.region ?_
  refine AO.yld _ (Yld.assign rfl) rfl rfl rfl ?_
  refine AO.nil ?_
  refine AC.seq ?_
  refine AC.region ?_
  refine AO.yld _ (Yld.move rfl) rfl rfl rfl ?_
  refine AO.yld _ (Yld.len Tryd.underlying78 rfl rfl) rfl rfl rfl ?_
  refine AO.make 0 Tryd.underlying80 ty74 rfl rfl rfl rfl rfl (Nat.le_refl _) (by rw [hM]; omega) (by rw [hM]; omega) rfl rfl ?_
  refine AO.yld _ (Yld.assign rfl) rfl rfl rfl ?_
  refine AO.nil ?_
  refine AC.seq ?_
  refine AC.seq ?_
  refine AC.region ?_
  refine AO.yld _ (Yld.assign rfl) rfl rfl rfl ?_
  refine AO.nil ?_
  refine AC.block ?_
  refine AC.loopC [(0, _), (2, _), (3, _)] [(900, _)] (fun (k : Nat) => [(4, .p (.v (.int .i64 (k : Int))))]) (fun (k : Nat) => [(0, .vec 74 4 (filled encVer [.v (.int .i64 0), .v (.int .i64 0), .v (.string ⟨#[]⟩), .sl 0 []] xs k))]) (fun (k : Nat) => k ≤ xs.length) (fun (k : Nat) => xs.length - k) 0 ⟨rfl, rfl, rfl, trivial⟩ ⟨rfl, trivial⟩ ⟨rfl, trivial⟩ ⟨by rw [filled_zero, ← hM]; rfl, trivial⟩ ?_ (fun k hJ => ?_)
  · exact Nat.zero_le _
  · -- round
    refine AC.seq ?_
    refine AC.seq ?_
    refine AC.region ?_
    refine AO.yld _ (Yld.move rfl) rfl rfl rfl ?_
    refine AO.yld _ (Yld.move rfl) rfl rfl rfl ?_
    refine AO.yld _ (Yld.len Tryd.underlying78 rfl rfl) rfl rfl rfl ?_
    refine AO.yld _ (Yld.int rfl rfl rfl) rfl rfl rfl ?_
    refine AO.nil ?_
    refine AC.cond _ rfl (fun c11 => ?_) (fun c11 => ?_)
    · -- c11 True
      have hk := lt_of_decM c11
      obtain ⟨x, hx⟩ := get_some hk
      have hrow := map_row (enc := encVer) hx
      have hgx := hg.2 x (List.mem_of_getElem? hx)
      refine AC.skip ?_
      refine AC.seq ?_
      refine AC.block ?_
      refine AC.region ?_
      refine AO.yld _ (Yld.move rfl) rfl rfl rfl ?_
      refine AO.yld _ (Yld.move rfl) rfl rfl rfl ?_
      refine AO.yld _ (Yld.move rfl) rfl rfl rfl ?_
      refine AO.yld _ (Yld.move rfl) rfl rfl rfl ?_
      refine AO.yld _ (Yld.indexSl Tryd.underlying78 Tryd.sizeOf69 rfl rfl hrow rfl) rfl rfl rfl ?_
      refine AO.yld _ (Yld.loadAgg Tryd.isAgg69 Tryd.sizeOf69 rfl rfl rfl rfl) rfl rfl rfl ?_
      refine AO.callW (wantedN rfl) [1] [] [0] rfl rfl Tryd.call37 rfl (laws_toVersion_c (by assumption)) (.own rfl) rfl (fun _ => rfl) trivial rfl (fun _ => rfl) (fun _ => rfl) (fun _ _ => ?_)
      refine AO.freeze 1 rfl ?_
      refine AO.yld _ (Yld.indexVec Tryd.underlying80 Tryd.sizeOf74 rfl rfl rfl rfl (by rw [filled_length (by omega)]; exact hk)) rfl rfl rfl ?_
      refine AO.store Tryd.sizeOf74 rfl rfl rfl rfl rfl (store_el rfl (filled_get hk) rfl rfl) ?_
      refine AO.nil ?_
      refine AC.mark ?_
      refine AC.region ?_
      refine AO.yld _ (Yld.move rfl) rfl rfl rfl ?_
      refine AO.yld _ (Yld.add rfl rfl (by omega) (by omega)) rfl rfl rfl ?_
      refine AO.yld _ (Yld.assign rfl) rfl rfl rfl ?_
      refine AO.nil ?_
      refine AC.back ⟨k + 1, ?_, ?_, ⟨?_, trivial⟩, ⟨?_, trivial⟩, ⟨rfl, rfl, rfl, trivial⟩, ⟨rfl, trivial⟩⟩
      · exact hk
      · omega
      · rfl
      · rw [← filled_set hx]; rfl
    · -- c11 False
      obtain rfl : k = xs.length := by have := ge_of_decM c11; omega
      refine AC.exit rfl ?_
      refine AC.seq ?_
      refine AC.region ?_
      refine AO.yld _ (Yld.move rfl) rfl rfl rfl ?_
      refine AO.yld _ (Yld.assign rfl) rfl rfl rfl ?_
      refine AO.nil ?_
      refine FnE.ret () [0] [0] Tryd.results42 (RVs.cons (RV.tmp rfl) RVs.nil) rfl rfl rfl ?_ ?_ ⟨⟨_, rfl, ?_⟩, trivial⟩
      · -- holds
        trivial
      · -- value
        rfl
      · -- thing 0
        exact vecE filled_end

theorem laws_eqVersion_c {x y : Ver} (hg : VerGood x) :
    Pure Tryd.prog 39 [.agg (encVer x), .agg (encVer y)] (.v (.bool (decide (x = y)))) := by
  obtain ⟨g1, g2, g3⟩ := hg
  refine Pure.intro Tryd.func39 rfl Tryd.ntmps39 rfl rfl (fun w => ?_)
  refine AC.seq ?_
  refine AC.region ?_
  refine AO.box 0 rfl rfl rfl rfl rfl ?_
  refine AO.box 1 rfl rfl rfl rfl rfl ?_
  refine AO.yld _ (Yld.assign rfl) rfl rfl rfl ?_
  refine AO.nil ?_
  refine AC.seq ?_
  refine AC.seq ?_
  refine AC.region ?_
  refine AO.yld _ (Yld.fieldAddr Tryd.underlying74 rfl rfl Tryd.sizeOf2 rfl rfl rfl) rfl rfl rfl ?_
  refine AO.yld _ (Yld.load Tryd.isAgg2 rfl rfl) rfl rfl rfl ?_
  refine AO.yld _ (Yld.fieldAddr Tryd.underlying74 rfl rfl Tryd.sizeOf2 rfl rfl rfl) rfl rfl rfl ?_
  refine AO.yld _ (Yld.load Tryd.isAgg2 rfl rfl) rfl rfl rfl ?_
  refine AO.yld _ (Yld.int rfl rfl rfl) rfl rfl rfl ?_
  refine AO.nil ?_
  refine AC.cond _ rfl (fun c9 => ?_) (fun c9 => ?_)
  · -- c9 True
    refine AC.seq ?_
    refine AC.region ?_
    refine AO.yld _ (Yld.assign rfl) rfl rfl rfl ?_
    refine AO.nil ?_
    refine Pure.ret Tryd.results39 (RVs.cons (RV.tmp rfl) RVs.nil) rfl ?_
    cases x; cases y; simp_all
  · -- c9 False
    refine AC.skip ?_
    refine AC.seq ?_
    refine AC.seq ?_
    refine AC.region ?_
    refine AO.yld _ (Yld.fieldAddr Tryd.underlying74 rfl rfl Tryd.sizeOf2 rfl rfl rfl) rfl rfl rfl ?_
    refine AO.yld _ (Yld.load Tryd.isAgg2 rfl rfl) rfl rfl rfl ?_
    refine AO.yld _ (Yld.fieldAddr Tryd.underlying74 rfl rfl Tryd.sizeOf2 rfl rfl rfl) rfl rfl rfl ?_
    refine AO.yld _ (Yld.load Tryd.isAgg2 rfl rfl) rfl rfl rfl ?_
    refine AO.yld _ (Yld.int rfl rfl rfl) rfl rfl rfl ?_
    refine AO.nil ?_
    refine AC.cond _ rfl (fun c14 => ?_) (fun c14 => ?_)
    · -- c14 True
      refine AC.seq ?_
      refine AC.region ?_
      refine AO.yld _ (Yld.assign rfl) rfl rfl rfl ?_
      refine AO.nil ?_
      refine Pure.ret Tryd.results39 (RVs.cons (RV.tmp rfl) RVs.nil) rfl ?_
      cases x; cases y; simp_all
    · -- c14 False
      refine AC.skip ?_
      refine AC.seq ?_
      refine AC.seq ?_
      refine AC.region ?_
      refine AO.yld _ (Yld.fieldAddr Tryd.underlying74 rfl rfl Tryd.sizeOf9 rfl rfl rfl) rfl rfl rfl ?_
      refine AO.yld _ (Yld.load Tryd.isAgg9 rfl rfl) rfl rfl rfl ?_
      refine AO.yld _ (Yld.fieldAddr Tryd.underlying74 rfl rfl Tryd.sizeOf9 rfl rfl rfl) rfl rfl rfl ?_
      refine AO.yld _ (Yld.load Tryd.isAgg9 rfl rfl) rfl rfl rfl ?_
      refine AO.yld _ (Yld.cmpStr rfl rfl rfl) rfl rfl rfl ?_
      refine AO.nil ?_
      refine AC.cond _ rfl (fun c19 => ?_) (fun c19 => ?_)
      · -- c19 True
        refine AC.seq ?_
        refine AC.region ?_
        refine AO.yld _ (Yld.assign rfl) rfl rfl rfl ?_
        refine AO.nil ?_
        refine Pure.ret Tryd.results39 (RVs.cons (RV.tmp rfl) RVs.nil) rfl ?_
        cases x; cases y; simp_all
      · -- c19 False
        refine AC.skip ?_
        refine AC.seq ?_
        refine AC.seq ?_
        refine AC.region ?_
        refine AO.yld _ (Yld.fieldAddr Tryd.underlying74 rfl rfl Tryd.sizeOf72 rfl rfl rfl) rfl rfl rfl ?_
        refine AO.yld _ (Yld.load Tryd.isAgg72 rfl rfl) rfl rfl rfl ?_
        refine AO.yld _ (Yld.fieldAddr Tryd.underlying74 rfl rfl Tryd.sizeOf72 rfl rfl rfl) rfl rfl rfl ?_
        refine AO.yld _ (Yld.load Tryd.isAgg72 rfl rfl) rfl rfl rfl ?_
        refine AO.yld _ (Yld.call rfl rfl Tryd.call104 rfl rfl rfl (laws_eqSettingS_c (by first | assumption | omega)) rfl) rfl rfl rfl ?_
        refine AO.yld _ (Yld.not rfl) rfl rfl rfl ?_
        refine AO.nil ?_
        refine AC.cond _ rfl (fun c25 => ?_) (fun c25 => ?_)
        · -- c25 True
          refine AC.seq ?_
          refine AC.region ?_
          refine AO.yld _ (Yld.assign rfl) rfl rfl rfl ?_
          refine AO.nil ?_
          refine Pure.ret Tryd.results39 (RVs.cons (RV.tmp rfl) RVs.nil) rfl ?_
          cases x; cases y; simp_all
        · -- c25 False
          refine AC.skip ?_
          refine AC.seq ?_
          refine AC.region ?_
          refine AO.yld _ (Yld.assign rfl) rfl rfl rfl ?_
          refine AO.nil ?_
          refine Pure.ret Tryd.results39 (RVs.cons (RV.tmp rfl) RVs.nil) rfl ?_
          cases x; cases y; simp_all

theorem laws_eqVersionS_c {xs ys : List Ver} (hg : VersGood xs) :
    Pure Tryd.prog 44 [.sl 4 (xs.map encVer), .sl 4 (ys.map encVer)] (.v (.bool (decide (xs = ys)))) := by
  have hn := hg.1
  refine Pure.intro Tryd.func44 rfl Tryd.ntmps44 rfl rfl (fun w => ?_)
  refine AC.seq ?_
  refine AC.region ?_
  refine AO.yld _ (Yld.assign rfl) rfl rfl rfl ?_
  refine AO.nil ?_
  refine AC.seq ?_
  refine AC.seq ?_
  refine AC.region ?_
  refine AO.yld _ (Yld.move rfl) rfl rfl rfl ?_
  refine AO.yld _ (Yld.len Tryd.underlying80 rfl rfl) rfl rfl rfl ?_
  refine AO.yld _ (Yld.move rfl) rfl rfl rfl ?_
  refine AO.yld _ (Yld.len Tryd.underlying80 rfl rfl) rfl rfl rfl ?_
  refine AO.yld _ (Yld.int rfl rfl rfl) rfl rfl rfl ?_
  refine AO.nil ?_
  refine AC.cond _ rfl (fun c10 => ?_) (fun c10 => ?_)
  · -- c10 True
    have hl : xs.length ≠ ys.length := by have h := c10; simp only [List.length_map, bne_iff_ne, ne_eq] at h; omega
    refine AC.seq ?_
    refine AC.region ?_
    refine AO.yld _ (Yld.assign rfl) rfl rfl rfl ?_
    refine AO.nil ?_
    refine Pure.ret Tryd.results44 (RVs.cons (RV.tmp rfl) RVs.nil) rfl ?_
    first
      | (exact congrArg (fun b => PV.v (.bool b)) (decide_eq_false (fun e => hl (congrArg List.length e))).symm)
      | (refine congrArg (fun b => PV.v (.bool b)) (decide_eq_false (fun e => ?_)).symm; subst e; rw [hx] at hy; simp_all)
      | (refine congrArg (fun b => PV.v (.bool b)) (decide_eq_true ?_).symm; have := hJ.2; rw [List.take_of_length_le (Nat.le_refl _), List.take_of_length_le (by omega)] at this; exact this)
  · -- c10 False
    have hl : xs.length = ys.length := by have h := c10; simp only [List.length_map, bne_eq_false_iff_eq] at h; omega
    refine AC.skip ?_
    refine AC.seq ?_
    refine AC.seq ?_
    refine AC.region ?_
    refine AO.yld _ (Yld.assign rfl) rfl rfl rfl ?_
    refine AO.nil ?_
    refine AC.block ?_
    refine AC.loopC [(0, _), (1, _)] [] (fun (k : Nat) => [(5, .p (.v (.int .i64 (k : Int))))]) (fun (k : Nat) => []) (fun (k : Nat) => k ≤ xs.length ∧ xs.take k = ys.take k) (fun (k : Nat) => xs.length - k) 0 ⟨rfl, rfl, trivial⟩ trivial ⟨rfl, trivial⟩ trivial ?_ (fun k hJ => ?_)
    · exact ⟨Nat.zero_le _, rfl⟩
    · -- round
      refine AC.seq ?_
      refine AC.seq ?_
      refine AC.region ?_
      refine AO.yld _ (Yld.move rfl) rfl rfl rfl ?_
      refine AO.yld _ (Yld.move rfl) rfl rfl rfl ?_
      refine AO.yld _ (Yld.len Tryd.underlying80 rfl rfl) rfl rfl rfl ?_
      refine AO.yld _ (Yld.int rfl rfl rfl) rfl rfl rfl ?_
      refine AO.nil ?_
      refine AC.cond _ rfl (fun c14 => ?_) (fun c14 => ?_)
      · -- c14 True
        have hk := lt_of_decM c14
        obtain ⟨x, hx⟩ := get_some hk
        have hrow := map_row (enc := encVer) hx
        have hgx := hg.2 x (List.mem_of_getElem? hx)
        obtain ⟨y, hy⟩ := get_some (xs := ys) (k := k) (by omega)
        have hrow2 := map_row (enc := encVer) hy
        refine AC.skip ?_
        refine AC.seq ?_
        refine AC.block ?_
        refine AC.seq ?_
        refine AC.draw (by kernel_rfl) (by kernel_rfl) ?_
        refine AO.yld _ (Yld.move rfl) rfl rfl rfl ?_
        refine AO.yld _ (Yld.move rfl) rfl rfl rfl ?_
        refine AO.yld _ (Yld.indexSl Tryd.underlying80 Tryd.sizeOf74 rfl rfl hrow rfl) rfl rfl rfl ?_
        refine AO.yld _ (Yld.loadAgg Tryd.isAgg74 Tryd.sizeOf74 rfl rfl rfl rfl) rfl rfl rfl ?_
        refine AO.yld _ (Yld.move rfl) rfl rfl rfl ?_
        refine AO.yld _ (Yld.move rfl) rfl rfl rfl ?_
        refine AO.yld _ (Yld.indexSl Tryd.underlying80 Tryd.sizeOf74 rfl rfl hrow2 rfl) rfl rfl rfl ?_
        refine AO.yld _ (Yld.loadAgg Tryd.isAgg74 Tryd.sizeOf74 rfl rfl rfl rfl) rfl rfl rfl ?_
        refine AO.yld _ (Yld.call rfl rfl Tryd.call39 rfl rfl rfl (laws_eqVersion_c (by assumption)) rfl) rfl rfl rfl ?_
        refine AO.yld _ (Yld.not rfl) rfl rfl rfl ?_
        refine AO.nil ?_
        refine AC.cond _ rfl (fun c26 => ?_) (fun c26 => ?_)
        · -- c26 True
          refine AC.seq ?_
          refine AC.region ?_
          refine AO.yld _ (Yld.assign rfl) rfl rfl rfl ?_
          refine AO.nil ?_
          refine Pure.ret Tryd.results44 (RVs.cons (RV.tmp rfl) RVs.nil) rfl ?_
          first
            | (exact congrArg (fun b => PV.v (.bool b)) (decide_eq_false (fun e => hl (congrArg List.length e))).symm)
            | (refine congrArg (fun b => PV.v (.bool b)) (decide_eq_false (fun e => ?_)).symm; subst e; rw [hx] at hy; simp_all)
            | (refine congrArg (fun b => PV.v (.bool b)) (decide_eq_true ?_).symm; have := hJ.2; rw [List.take_of_length_le (Nat.le_refl _), List.take_of_length_le (by omega)] at this; exact this)
        · -- c26 False
          refine AC.skip ?_
          refine AC.mark ?_
          refine AC.region ?_
          refine AO.yld _ (Yld.move rfl) rfl rfl rfl ?_
          refine AO.yld _ (Yld.add rfl rfl (by omega) (by omega)) rfl rfl rfl ?_
          refine AO.yld _ (Yld.assign rfl) rfl rfl rfl ?_
          refine AO.nil ?_
          refine AC.back ⟨k + 1, ?_, ?_, ⟨?_, trivial⟩, trivial, ⟨rfl, rfl, trivial⟩, trivial⟩
          · exact ⟨hk, by rw [take_snoc hx, take_snoc hy, hJ.2, show x = y by simpa using c26]⟩
          · omega
          · rfl
      · -- c14 False
        obtain rfl : k = xs.length := by have := ge_of_decM c14; omega
        refine AC.exit rfl ?_
        refine AC.seq ?_
        refine AC.region ?_
        refine AO.yld _ (Yld.assign rfl) rfl rfl rfl ?_
        refine AO.nil ?_
        refine Pure.ret Tryd.results44 (RVs.cons (RV.tmp rfl) RVs.nil) rfl ?_
        first
          | (exact congrArg (fun b => PV.v (.bool b)) (decide_eq_false (fun e => hl (congrArg List.length e))).symm)
          | (refine congrArg (fun b => PV.v (.bool b)) (decide_eq_false (fun e => ?_)).symm; subst e; rw [hx] at hy; simp_all)
          | (refine congrArg (fun b => PV.v (.bool b)) (decide_eq_true ?_).symm; have := hJ.2; rw [List.take_of_length_le (Nat.le_refl _), List.take_of_length_le (by omega)] at this; exact this)

theorem laws_eqGroup_c {x y : Group} :
    Pure Tryd.prog 52 [.agg (encGroup x), .agg (encGroup y)] (.v (.bool (decide (x = y)))) := by
  refine Pure.intro Tryd.func52 rfl Tryd.ntmps52 rfl rfl (fun w => ?_)
  refine AC.seq ?_
  refine AC.region ?_
  refine AO.box 0 rfl rfl rfl rfl rfl ?_
  refine AO.box 1 rfl rfl rfl rfl rfl ?_
  refine AO.yld _ (Yld.assign rfl) rfl rfl rfl ?_
  refine AO.nil ?_
  refine AC.seq ?_
  refine AC.seq ?_
  refine AC.region ?_
  refine AO.yld _ (Yld.fieldAddr Tryd.underlying92 rfl rfl Tryd.sizeOf9 rfl rfl rfl) rfl rfl rfl ?_
  refine AO.yld _ (Yld.load Tryd.isAgg9 rfl rfl) rfl rfl rfl ?_
  refine AO.yld _ (Yld.fieldAddr Tryd.underlying92 rfl rfl Tryd.sizeOf9 rfl rfl rfl) rfl rfl rfl ?_
  refine AO.yld _ (Yld.load Tryd.isAgg9 rfl rfl) rfl rfl rfl ?_
  refine AO.yld _ (Yld.cmpStr rfl rfl rfl) rfl rfl rfl ?_
  refine AO.nil ?_
  refine AC.cond _ rfl (fun c9 => ?_) (fun c9 => ?_)
  · -- c9 True
    refine AC.seq ?_
    refine AC.region ?_
    refine AO.yld _ (Yld.assign rfl) rfl rfl rfl ?_
    refine AO.nil ?_
    refine Pure.ret Tryd.results52 (RVs.cons (RV.tmp rfl) RVs.nil) rfl ?_
    cases x; cases y; simp_all
  · -- c9 False
    refine AC.skip ?_
    refine AC.seq ?_
    refine AC.seq ?_
    refine AC.region ?_
    refine AO.yld _ (Yld.fieldAddr Tryd.underlying92 rfl rfl Tryd.sizeOf2 rfl rfl rfl) rfl rfl rfl ?_
    refine AO.yld _ (Yld.load Tryd.isAgg2 rfl rfl) rfl rfl rfl ?_
    refine AO.yld _ (Yld.fieldAddr Tryd.underlying92 rfl rfl Tryd.sizeOf2 rfl rfl rfl) rfl rfl rfl ?_
    refine AO.yld _ (Yld.load Tryd.isAgg2 rfl rfl) rfl rfl rfl ?_
    refine AO.yld _ (Yld.int rfl rfl rfl) rfl rfl rfl ?_
    refine AO.nil ?_
    refine AC.cond _ rfl (fun c14 => ?_) (fun c14 => ?_)
    · -- c14 True
      refine AC.seq ?_
      refine AC.region ?_
      refine AO.yld _ (Yld.assign rfl) rfl rfl rfl ?_
      refine AO.nil ?_
      refine Pure.ret Tryd.results52 (RVs.cons (RV.tmp rfl) RVs.nil) rfl ?_
      cases x; cases y; simp_all
    · -- c14 False
      refine AC.skip ?_
      refine AC.seq ?_
      refine AC.seq ?_
      refine AC.region ?_
      refine AO.yld _ (Yld.fieldAddr Tryd.underlying92 rfl rfl Tryd.sizeOf2 rfl rfl rfl) rfl rfl rfl ?_
      refine AO.yld _ (Yld.load Tryd.isAgg2 rfl rfl) rfl rfl rfl ?_
      refine AO.yld _ (Yld.fieldAddr Tryd.underlying92 rfl rfl Tryd.sizeOf2 rfl rfl rfl) rfl rfl rfl ?_
      refine AO.yld _ (Yld.load Tryd.isAgg2 rfl rfl) rfl rfl rfl ?_
      refine AO.yld _ (Yld.int rfl rfl rfl) rfl rfl rfl ?_
      refine AO.nil ?_
      refine AC.cond _ rfl (fun c19 => ?_) (fun c19 => ?_)
      · -- c19 True
        refine AC.seq ?_
        refine AC.region ?_
        refine AO.yld _ (Yld.assign rfl) rfl rfl rfl ?_
        refine AO.nil ?_
        refine Pure.ret Tryd.results52 (RVs.cons (RV.tmp rfl) RVs.nil) rfl ?_
        cases x; cases y; simp_all
      · -- c19 False
        refine AC.skip ?_
        refine AC.seq ?_
        refine AC.region ?_
        refine AO.yld _ (Yld.assign rfl) rfl rfl rfl ?_
        refine AO.nil ?_
        refine Pure.ret Tryd.results52 (RVs.cons (RV.tmp rfl) RVs.nil) rfl ?_
        cases x; cases y; simp_all

theorem laws_markText_c {k : Int} (h1 : k ≤ 100000000000000) :
    Pure Tryd.prog 112 [.v (.int .i64 k)] (.v (str (mText k))) := by
  refine Pure.intro Tryd.func112 rfl Tryd.ntmps112 rfl rfl (fun w => ?_)
  refine AC.seq ?_
  refine AC.region ?_
  refine AO.yld _ (Yld.assign rfl) rfl rfl rfl ?_
  refine AO.nil ?_
  refine AC.seq ?_
  refine AC.seq ?_
  refine AC.region ?_
  refine AO.yld _ (Yld.move rfl) rfl rfl rfl ?_
  refine AO.yld _ (Yld.int rfl rfl rfl) rfl rfl rfl ?_
  refine AO.nil ?_
  refine AC.cond _ rfl (fun c5 => ?_) (fun c5 => ?_)
  · -- c5 True
    refine AC.seq ?_
    refine AC.region ?_
    refine AO.yld _ (Yld.assign rfl) rfl rfl rfl ?_
    refine AO.nil ?_
    refine Pure.ret Tryd.results112 (RVs.cons (RV.tmp rfl) RVs.nil) rfl ?_
    first
      | (refine congrArg (fun s => PV.v (str s)) ?_; have h := hJ.1; rw [mt_zero] at h; rw [h, mText, if_neg (by omega)]; rfl)
      | (refine congrArg (fun s => PV.v (str s)) ?_; rw [mText, if_pos (by simpa using c5)])
  · -- c5 False
    have hk0 : 0 < k := by simpa using c5
    refine AC.skip ?_
    refine AC.seq ?_
    refine AC.region ?_
    refine AO.yld _ (Yld.assign rfl) rfl rfl rfl ?_
    refine AO.nil ?_
    refine AC.seq ?_
    refine AC.block ?_
    refine AC.loopC2 [(2, _)] [] (fun (j : Nat) (acc : List UInt8) => [(0, .p (.v (.int .i64 (j : Int)))), (3, .p (.v (str acc)))]) (fun (j : Nat) (acc : List UInt8) => []) (fun (j : Nat) (acc : List UInt8) => mt j acc = mt k.toNat [] ∧ acc.length ≤ 40 ∧ j < 10 ^ (40 - acc.length) ∧ j ≤ 100000000000000) (fun (j : Nat) (acc : List UInt8) => j) k.toNat [] ⟨rfl, trivial⟩ trivial ⟨by show some (AV.p (PV.v (Value.int IntKind.i64 _))) = _; rw [Int.toNat_of_nonneg (by omega)], rfl, trivial⟩ trivial ?_ (fun j acc hJ => ?_)
    · exact ⟨rfl, by simp, by simp; omega, by omega⟩
    · -- round
      refine AC.seq ?_
      refine AC.seq ?_
      refine AC.region ?_
      refine AO.yld _ (Yld.move rfl) rfl rfl rfl ?_
      refine AO.yld _ (Yld.int rfl rfl rfl) rfl rfl rfl ?_
      refine AO.nil ?_
      refine AC.cond _ rfl (fun c7 => ?_) (fun c7 => ?_)
      · -- c7 True
        have hj : 0 < j := by simpa using c7
        have hps := pow_step hJ.2.2.1 (by omega)
        have htm : ((j : Int)).tmod 10 = ((j % 10 : Nat) : Int) := by rw [Int.tmod_eq_emod_of_nonneg (by omega)]; omega
        refine AC.skip ?_
        refine AC.block ?_
        refine AC.seq ?_
        refine AC.region ?_
        refine AO.yld _ (Yld.move rfl) rfl rfl rfl ?_
        refine AO.yld _ (Yld.rem rfl rfl (by omega)) rfl rfl rfl ?_
        refine AO.yld _ (Yld.add rfl rfl (by omega) (by omega)) rfl rfl rfl ?_
        refine AO.yld _ (Yld.convInt Tryd.underlying3 Tryd.underlying5 rfl) rfl rfl rfl ?_
        refine AO.buildSlice (rows := [[_]]) 0 Tryd.underlying22 ty5 rfl rfl rfl rfl rfl rfl rfl rfl rfl ?_
        refine AO.yld _ (Yld.convBytes (l := [UInt8.ofNat (48 + j % 10)]) Tryd.underlying22 Tryd.underlying5 Tryd.underlying9 rfl (by show some (PV.sl 1 [[PV.v (.int .u8 (IntKind.u8.wrap (48 + (j : Int).tmod 10)))]]) = _; rw [digit_u8 rfl]; rfl)) rfl rfl rfl ?_
        refine AO.yld _ (Yld.move rfl) rfl rfl rfl ?_
        refine AO.yld _ (Yld.cat rfl rfl (by simp only [List.length_singleton]; omega)) rfl rfl rfl ?_
        refine AO.yld _ (Yld.assign rfl) rfl rfl rfl ?_
        refine AO.nil ?_
        refine AC.region ?_
        refine AO.yld _ (Yld.move rfl) rfl rfl rfl ?_
        refine AO.yld _ (Yld.quoP rfl rfl (by omega) (by omega) (by omega)) rfl rfl rfl ?_
        refine AO.yld _ (Yld.assign rfl) rfl rfl rfl ?_
        refine AO.nil ?_
        refine AC.mark ?_
        refine AC.back ⟨j / 10, UInt8.ofNat (48 + j % 10) :: acc, ?_, ?_, ⟨?_, ?_, trivial⟩, trivial, ⟨rfl, trivial⟩, trivial⟩
        · exact ⟨(mt_step (by omega) acc).symm.trans hJ.1, by simp only [List.length_cons]; omega, hps.2, by omega⟩
        · omega
        · show some (AV.p (PV.v (Value.int IntKind.i64 _))) = _; rw [Int.tdiv_eq_ediv_of_nonneg (by omega)]; rfl
        · rfl
      · -- c7 False
        obtain rfl : j = 0 := by have h := c7; simp at h; exact h
        refine AC.exit rfl ?_
        refine AC.seq ?_
        refine AC.region ?_
        refine AO.yld _ (Yld.move rfl) rfl rfl rfl ?_
        refine AO.yld _ (Yld.cat rfl rfl (by have := hJ.2.1; show [(109 : UInt8)].length + _ < _; simp only [List.length_singleton]; omega)) rfl rfl rfl ?_
        refine AO.yld _ (Yld.assign rfl) rfl rfl rfl ?_
        refine AO.nil ?_
        refine Pure.ret Tryd.results112 (RVs.cons (RV.tmp rfl) RVs.nil) rfl ?_
        first
          | (refine congrArg (fun s => PV.v (str s)) ?_; have h := hJ.1; rw [mt_zero] at h; rw [h, mText, if_neg (by omega)]; rfl)
          | (refine congrArg (fun s => PV.v (str s)) ?_; rw [mText, if_pos (by simpa using c5)])

theorem laws_markSettingS_c {xs : List NV} {k0 : Int} (h0 : 0 ≤ k0) (h1 : k0 ≤ 10000000000000) (hn : xs.length ≤ 1048576) :
    FnE (α := Unit) Tryd.prog 113 [.h 0, .p (.v (.int .i64 k0))] [(0, .vec 146 2 (xs.map encNV))] [0] (fun _ => True) (fun _ => .p (.v (.int .i64 (k0 + ((xs.length * 2 : Nat) : Int))))) (fun _ => [(0, .vec 146 2 (mkAll [true, false] k0 xs.length))]) := by
  have hM : (xs.map encNV).length = xs.length := List.length_map ..
  refine FnE.intro Tryd.func113 rfl Tryd.ntmps113 rfl rfl (fun w0 F0 η φ w => ?_)
  refine AC.seq ?_
  refine AC.region ?_
  refine AO.yld _ (Yld.assign rfl) rfl rfl rfl ?_
  refine AO.nil ?_
  refine AC.seq ?_
  refine AC.seq ?_
  refine AC.region ?_
  refine AO.yld _ (Yld.assign rfl) rfl rfl rfl ?_
  refine AO.nil ?_
  refine AC.block ?_
  refine AC.loopC [(0, _), (4, _)] [(900, _)] (fun (k : Nat) => [(5, .p (.v (.int .i64 (k : Int)))), (1, .p (.v (.int .i64 (k0 + ((k * 2 : Nat) : Int)))))]) (fun (k : Nat) => [(0, .vec 146 2 (mkd [true, false] k0 (xs.map encNV) k))]) (fun (k : Nat) => k ≤ xs.length) (fun (k : Nat) => xs.length - k) 0 ⟨rfl, rfl, trivial⟩ ⟨rfl, trivial⟩ ⟨rfl, by show some (AV.p (PV.v (Value.int IntKind.i64 _))) = _; simp, trivial⟩ ⟨by rw [mkd_zero]; rfl, trivial⟩ ?_ (fun k hJ => ?_)
  · exact Nat.zero_le _
  · -- round
    refine AC.seq ?_
    refine AC.seq ?_
    refine AC.region ?_
    refine AO.yld _ (Yld.move rfl) rfl rfl rfl ?_
    refine AO.yld _ (Yld.move rfl) rfl rfl rfl ?_
    refine AO.yld _ (Yld.len Tryd.underlying72 rfl rfl) rfl rfl rfl ?_
    refine AO.yld _ (Yld.int rfl rfl rfl) rfl rfl rfl ?_
    refine AO.nil ?_
    refine AC.cond _ rfl (fun c9 => ?_) (fun c9 => ?_)
    · -- c9 True
      have hk : k < xs.length := by have h := c9; rw [mkd_length (by omega), hM] at h; simpa using h
      obtain ⟨x, hx⟩ := get_some hk
      have hrow := map_row (enc := encNV) hx
      refine AC.skip ?_
      refine AC.seq ?_
      refine AC.block ?_
      refine AC.seq ?_
      refine AC.region ?_
      refine AO.yld _ (Yld.move rfl) rfl rfl rfl ?_
      refine AO.yld _ (Yld.move rfl) rfl rfl rfl ?_
      refine AO.yld _ (Yld.move rfl) rfl rfl rfl ?_
      refine AO.yld _ (Yld.call rfl rfl Tryd.call112 rfl rfl rfl (laws_markText_c (by omega)) rfl) rfl rfl rfl ?_
      refine AO.yld _ (Yld.indexVec Tryd.underlying72 Tryd.sizeOf146 rfl rfl rfl rfl (by first | (rw [mkd_length (by omega), hM]; exact hk) | (simp only [List.length_set]; rw [mkd_length (by omega), hM]; exact hk))) rfl rfl rfl ?_
      refine AO.yld _ (Yld.fieldAddr Tryd.underlying146 rfl rfl Tryd.sizeOf9 rfl (behind_el rfl (mkd_get hrow)) rfl) rfl rfl rfl ?_
      refine AO.store Tryd.sizeOf9 rfl rfl rfl rfl rfl (store_el rfl (mkd_get hrow) rfl rfl) ?_
      refine AO.nil ?_
      refine AC.seq ?_
      refine AC.region ?_
      refine AO.yld _ (Yld.move rfl) rfl rfl rfl ?_
      refine AO.yld _ (Yld.add rfl rfl (by omega) (by omega)) rfl rfl rfl ?_
      refine AO.yld _ (Yld.assign rfl) rfl rfl rfl ?_
      refine AO.nil ?_
      refine AC.seq ?_
      refine AC.region ?_
      refine AO.yld _ (Yld.move rfl) rfl rfl rfl ?_
      refine AO.yld _ (Yld.move rfl) rfl rfl rfl ?_
      refine AO.yld _ (Yld.move rfl) rfl rfl rfl ?_
      refine AO.yld _ (Yld.indexVec Tryd.underlying72 Tryd.sizeOf146 rfl rfl rfl rfl (by first | (rw [mkd_length (by omega), hM]; exact hk) | (simp only [List.length_set]; rw [mkd_length (by omega), hM]; exact hk))) rfl rfl rfl ?_
      refine AO.yld _ (Yld.fieldAddr Tryd.underlying146 rfl rfl Tryd.sizeOf2 rfl (behind_el rfl (set_get (by first | (rw [mkd_length (by omega), hM]; exact hk) | (simp only [List.length_set]; rw [mkd_length (by omega), hM]; exact hk)))) rfl) rfl rfl rfl ?_
      refine AO.store Tryd.sizeOf2 rfl rfl rfl rfl rfl (store_el rfl (set_get (by first | (rw [mkd_length (by omega), hM]; exact hk) | (simp only [List.length_set]; rw [mkd_length (by omega), hM]; exact hk))) rfl rfl) ?_
      refine AO.nil ?_
      refine AC.region ?_
      refine AO.yld _ (Yld.move rfl) rfl rfl rfl ?_
      refine AO.yld _ (Yld.add rfl rfl (by omega) (by omega)) rfl rfl rfl ?_
      refine AO.yld _ (Yld.assign rfl) rfl rfl rfl ?_
      refine AO.nil ?_
      refine AC.mark ?_
      refine AC.region ?_
      refine AO.yld _ (Yld.move rfl) rfl rfl rfl ?_
      refine AO.yld _ (Yld.add rfl rfl (by omega) (by omega)) rfl rfl rfl ?_
      refine AO.yld _ (Yld.assign rfl) rfl rfl rfl ?_
      refine AO.nil ?_
      refine AC.back ⟨k + 1, ?_, ?_, ⟨?_, ?_, trivial⟩, ⟨?_, trivial⟩, ⟨rfl, rfl, trivial⟩, ⟨rfl, trivial⟩⟩
      · exact hk
      · omega
      · rfl
      · show some (AV.p (PV.v (Value.int IntKind.i64 _))) = _; congr 4; omega
      · try simp only [List.set_set]
        rw [← mkd_set (by rw [hM]; exact hk)]; rfl
    · -- c9 False
      obtain rfl : k = xs.length := by have h := c9; rw [mkd_length (by omega), hM] at h; simp at h; omega
      refine AC.exit rfl ?_
      refine AC.seq ?_
      refine AC.region ?_
      refine AO.yld _ (Yld.move rfl) rfl rfl rfl ?_
      refine AO.yld _ (Yld.assign rfl) rfl rfl rfl ?_
      refine AO.nil ?_
      refine FnE.ret () [0] [0] Tryd.results113 (RVs.cons (RV.tmp rfl) RVs.nil) rfl rfl rfl ?_ ?_ ⟨⟨_, rfl, ?_⟩, trivial⟩
      · -- holds
        trivial
      · -- value
        rfl
      · -- thing 0
        exact vecE (by rw [← hM, mkd_end])

theorem laws_heldSettingS_c {k0 : Int} {n : Nat} (h0 : 0 ≤ k0) (h1 : k0 ≤ 10000000000000) (hn : n ≤ 1048576) :
    Pure Tryd.prog 114 [.sl 2 (mkAll [true, false] k0 n), .v (.int .i64 k0)] (.v (.int .i64 (k0 + ((n * 2 : Nat) : Int)))) := by
  refine Pure.intro Tryd.func114 rfl Tryd.ntmps114 rfl rfl (fun w => ?_)
  refine AC.seq ?_
  refine AC.region ?_
  refine AO.yld _ (Yld.assign rfl) rfl rfl rfl ?_
  refine AO.nil ?_
  refine AC.seq ?_
  refine AC.seq ?_
  refine AC.region ?_
  refine AO.yld _ (Yld.assign rfl) rfl rfl rfl ?_
  refine AO.nil ?_
  refine AC.block ?_
  refine AC.loopC [(0, _)] [] (fun (k : Nat) => [(5, .p (.v (.int .i64 (k : Int)))), (1, .p (.v (.int .i64 (k0 + ((k * 2 : Nat) : Int)))))]) (fun (k : Nat) => []) (fun (k : Nat) => k ≤ n) (fun (k : Nat) => n - k) 0 ⟨rfl, trivial⟩ trivial ⟨rfl, by show some (AV.p (PV.v (Value.int IntKind.i64 _))) = _; simp, trivial⟩ trivial ?_ (fun k hJ => ?_)
  · exact Nat.zero_le _
  · -- round
    refine AC.seq ?_
    refine AC.seq ?_
    refine AC.region ?_
    refine AO.yld _ (Yld.move rfl) rfl rfl rfl ?_
    refine AO.yld _ (Yld.move rfl) rfl rfl rfl ?_
    refine AO.yld _ (Yld.len Tryd.underlying72 rfl rfl) rfl rfl rfl ?_
    refine AO.yld _ (Yld.int rfl rfl rfl) rfl rfl rfl ?_
    refine AO.nil ?_
    refine AC.cond _ rfl (fun c9 => ?_) (fun c9 => ?_)
    · -- c9 True
      have hk : k < n := by have h := c9; rw [mkAll_length] at h; simpa using h
      have hrow := mkAll_get (ks := [true, false]) (k0 := k0) hk
      refine AC.skip ?_
      refine AC.seq ?_
      refine AC.block ?_
      refine AC.seq ?_
      refine AC.seq ?_
      refine AC.draw (by kernel_rfl) (by kernel_rfl) ?_
      refine AO.yld _ (Yld.move rfl) rfl rfl rfl ?_
      refine AO.yld _ (Yld.move rfl) rfl rfl rfl ?_
      refine AO.yld _ (Yld.indexSl Tryd.underlying72 Tryd.sizeOf146 rfl rfl hrow rfl) rfl rfl rfl ?_
      refine AO.yld _ (Yld.fieldAddr Tryd.underlying146 rfl rfl Tryd.sizeOf9 rfl rfl rfl) rfl rfl rfl ?_
      refine AO.yld _ (Yld.load Tryd.isAgg9 rfl rfl) rfl rfl rfl ?_
      refine AO.yld _ (Yld.move rfl) rfl rfl rfl ?_
      refine AO.yld _ (Yld.call rfl rfl Tryd.call112 rfl rfl rfl (laws_markText_c (by omega)) rfl) rfl rfl rfl ?_
      refine AO.yld _ (Yld.cmpStr rfl rfl rfl) rfl rfl rfl ?_
      refine AO.nil ?_
      refine AC.cond _ rfl (fun c19 => ?_) (fun c19 => ?_)
      · -- c19 True
        exfalso; simp at c19
      · -- c19 False
        refine AC.skip ?_
        refine AC.seq ?_
        refine AC.region ?_
        refine AO.yld _ (Yld.move rfl) rfl rfl rfl ?_
        refine AO.yld _ (Yld.add rfl rfl (by omega) (by omega)) rfl rfl rfl ?_
        refine AO.yld _ (Yld.assign rfl) rfl rfl rfl ?_
        refine AO.nil ?_
        refine AC.seq ?_
        refine AC.seq ?_
        refine AC.region ?_
        refine AO.yld _ (Yld.move rfl) rfl rfl rfl ?_
        refine AO.yld _ (Yld.move rfl) rfl rfl rfl ?_
        refine AO.yld _ (Yld.indexSl Tryd.underlying72 Tryd.sizeOf146 rfl rfl hrow rfl) rfl rfl rfl ?_
        refine AO.yld _ (Yld.fieldAddr Tryd.underlying146 rfl rfl Tryd.sizeOf2 rfl rfl rfl) rfl rfl rfl ?_
        refine AO.yld _ (Yld.load Tryd.isAgg2 rfl rfl) rfl rfl rfl ?_
        refine AO.yld _ (Yld.move rfl) rfl rfl rfl ?_
        refine AO.yld _ (Yld.int rfl rfl rfl) rfl rfl rfl ?_
        refine AO.nil ?_
        refine AC.cond _ rfl (fun c28 => ?_) (fun c28 => ?_)
        · -- c28 True
          exfalso; simp at c28
        · -- c28 False
          refine AC.skip ?_
          refine AC.region ?_
          refine AO.yld _ (Yld.move rfl) rfl rfl rfl ?_
          refine AO.yld _ (Yld.add rfl rfl (by omega) (by omega)) rfl rfl rfl ?_
          refine AO.yld _ (Yld.assign rfl) rfl rfl rfl ?_
          refine AO.nil ?_
          refine AC.mark ?_
          refine AC.region ?_
          refine AO.yld _ (Yld.move rfl) rfl rfl rfl ?_
          refine AO.yld _ (Yld.add rfl rfl (by omega) (by omega)) rfl rfl rfl ?_
          refine AO.yld _ (Yld.assign rfl) rfl rfl rfl ?_
          refine AO.nil ?_
          refine AC.back ⟨k + 1, ?_, ?_, ⟨?_, ?_, trivial⟩, trivial, ⟨rfl, trivial⟩, trivial⟩
          · exact hk
          · omega
          · rfl
          · show some (AV.p (PV.v (Value.int IntKind.i64 _))) = _; congr 4; omega
    · -- c9 False
      obtain rfl : k = n := by have h := c9; rw [mkAll_length] at h; simp at h; omega
      refine AC.exit rfl ?_
      refine AC.seq ?_
      refine AC.region ?_
      refine AO.yld _ (Yld.move rfl) rfl rfl rfl ?_
      refine AO.yld _ (Yld.assign rfl) rfl rfl rfl ?_
      refine AO.nil ?_
      refine Pure.ret Tryd.results114 (RVs.cons (RV.tmp rfl) RVs.nil) rfl ?_
      rfl

end Go.Proofs.YtdgjlkdcklfieaaDoor
