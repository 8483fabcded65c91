/- Contracts of functions of the program, each by a walk of its text in the calculus V. -/
import Derived.Test.YtghcdgjbgljipaaDoorD12
import Derived.Test.YtghcdgjbgljipaaDoorD11
import Derived.Test.YtghcdgjbgljipaaDoorD10
import Derived.Test.YtghcdgjbgljipaaDoorD9
import Derived.Test.YtghcdgjbgljipaaDoorV12
import Derived.Test.YtghcdgjbgljipaaDoorV15
import Derived.Test.YtghcdgjbgljipaaDoorProg
set_option linter.all false
set_option linter.unusedSimpArgs false
set_option linter.unnecessarySimpa false
set_option linter.unusedVariables false
namespace Go.Proofs.YtghcdgjbgljipaaDoor
open Go Go.V
theorem bld58 : BuildIs Tryd.prog 58 [(0, 1), (1, 1), (2, 1)] (.agg #[.string ⟨#[]⟩, .int .i64 0, .int .i64 0]) := by
  intro ps cells w h
  have h2 : Instr.fill (fun i => ([(0, 1), (1, 1), (2, 1)] : List (Nat × Nat))[i]?) #[.string ⟨#[]⟩, .int .i64 0, .int .i64 0] ps.toList = some cells := h
  simp [Instr.build, go_sem, Tryd.zeroValue58, run_underlying Tryd.underlying58, Tryd.sizeOf2, Tryd.sizeOf9, h2]

theorem impl_within_c {n lo hi : Int} :
    Pure Tryd.prog 51 [.v (.int .i64 n), .v (.int .i64 lo), .v (.int .i64 hi)] (.v (.bool (decide (lo ≤ n) && decide (n ≤ hi)))) := by
  refine Pure.intro Tryd.func51 rfl Tryd.ntmps51 rfl rfl (fun w => ?_)
  refine AC.seq ?_
  refine AC.region ?_
  refine AO.yld _ (Yld.assign rfl) rfl rfl rfl ?_
  refine AO.nil ?_
  refine AC.seq ?_
  refine AC.region ?_
  refine AO.yld _ (Yld.move rfl) rfl rfl rfl ?_
  refine AO.yld _ (Yld.move rfl) rfl rfl rfl ?_
  refine AO.yld _ (Yld.int rfl rfl rfl) rfl rfl rfl ?_
  refine AO.yld _ (Yld.move rfl) rfl rfl rfl ?_
  refine AO.splitAt 10 _ rfl (fun s10 => ?_) (fun s10 => ?_)
  · -- s10 True
    refine AO.yldG _ (Yld.move rfl) rfl rfl rfl rfl rfl ?_
    refine AO.yldG _ (Yld.move rfl) rfl rfl rfl rfl rfl ?_
    refine AO.yldG _ (Yld.int rfl rfl rfl) rfl rfl rfl rfl rfl ?_
    refine AO.yld _ (Yld.pickT rfl rfl) rfl rfl rfl ?_
    refine AO.yld _ (Yld.assign rfl) rfl rfl rfl ?_
    refine AO.nil ?_
    refine Pure.ret Tryd.results51 (RVs.cons (RV.tmp rfl) RVs.nil) rfl ?_
    first | rfl | (simp_all; done) | (simp_all; intros; omega) | grind
  · -- s10 False
    refine AO.skipT rfl rfl rfl rfl rfl ?_
    refine AO.skipT rfl rfl rfl rfl rfl ?_
    refine AO.skipT rfl rfl rfl rfl rfl ?_
    refine AO.yld _ (Yld.pickF rfl rfl) rfl rfl rfl ?_
    refine AO.yld _ (Yld.assign rfl) rfl rfl rfl ?_
    refine AO.nil ?_
    refine Pure.ret Tryd.results51 (RVs.cons (RV.tmp rfl) RVs.nil) rfl ?_
    first | rfl | (simp_all; done) | (simp_all; intros; omega) | grind

theorem spec_l00In_c {n lo hi : Int} :
    Pure Tryd.prog 89 [.v (.int .i64 n), .v (.int .i64 lo), .v (.int .i64 hi)] (.v (.bool (decide (lo ≤ n) && decide (n ≤ hi)))) := by
  refine Pure.intro Tryd.func89 rfl Tryd.ntmps89 rfl rfl (fun w => ?_)
  refine AC.seq ?_
  refine AC.region ?_
  refine AO.yld _ (Yld.assign rfl) rfl rfl rfl ?_
  refine AO.nil ?_
  refine AC.seq ?_
  refine AC.region ?_
  refine AO.yld _ (Yld.move rfl) rfl rfl rfl ?_
  refine AO.yld _ (Yld.move rfl) rfl rfl rfl ?_
  refine AO.yld _ (Yld.int rfl rfl rfl) rfl rfl rfl ?_
  refine AO.yld _ (Yld.move rfl) rfl rfl rfl ?_
  refine AO.splitAt 10 _ rfl (fun s10 => ?_) (fun s10 => ?_)
  · -- s10 True
    refine AO.yldG _ (Yld.move rfl) rfl rfl rfl rfl rfl ?_
    refine AO.yldG _ (Yld.move rfl) rfl rfl rfl rfl rfl ?_
    refine AO.yldG _ (Yld.int rfl rfl rfl) rfl rfl rfl rfl rfl ?_
    refine AO.yld _ (Yld.pickT rfl rfl) rfl rfl rfl ?_
    refine AO.yld _ (Yld.assign rfl) rfl rfl rfl ?_
    refine AO.nil ?_
    refine Pure.ret Tryd.results89 (RVs.cons (RV.tmp rfl) RVs.nil) rfl ?_
    first | rfl | (simp_all; done) | (simp_all; intros; omega) | grind
  · -- s10 False
    refine AO.skipT rfl rfl rfl rfl rfl ?_
    refine AO.skipT rfl rfl rfl rfl rfl ?_
    refine AO.skipT rfl rfl rfl rfl rfl ?_
    refine AO.yld _ (Yld.pickF rfl rfl) rfl rfl rfl ?_
    refine AO.yld _ (Yld.assign rfl) rfl rfl rfl ?_
    refine AO.nil ?_
    refine Pure.ret Tryd.results89 (RVs.cons (RV.tmp rfl) RVs.nil) rfl ?_
    first | rfl | (simp_all; done) | (simp_all; intros; omega) | grind

theorem spec_l01Small_c {c : Int} :
    Pure Tryd.prog 131 [.v (.int .u8 c)] (.v (.bool (decide (97 ≤ c) && decide (c ≤ 122)))) := by
  refine Pure.intro Tryd.func131 rfl Tryd.ntmps131 rfl rfl (fun w => ?_)
  refine AC.seq ?_
  refine AC.region ?_
  refine AO.yld _ (Yld.assign rfl) rfl rfl rfl ?_
  refine AO.nil ?_
  refine AC.seq ?_
  refine AC.region ?_
  refine AO.yld _ (Yld.move rfl) rfl rfl rfl ?_
  refine AO.yld _ (Yld.int rfl rfl rfl) rfl rfl rfl ?_
  refine AO.yld _ (Yld.move rfl) rfl rfl rfl ?_
  refine AO.splitAt 5 _ rfl (fun s5 => ?_) (fun s5 => ?_)
  · -- s5 True
    refine AO.yldG _ (Yld.move rfl) rfl rfl rfl rfl rfl ?_
    refine AO.yldG _ (Yld.int rfl rfl rfl) rfl rfl rfl rfl rfl ?_
    refine AO.yld _ (Yld.pickT rfl rfl) rfl rfl rfl ?_
    refine AO.yld _ (Yld.assign rfl) rfl rfl rfl ?_
    refine AO.nil ?_
    refine Pure.ret Tryd.results131 (RVs.cons (RV.tmp rfl) RVs.nil) rfl ?_
    first | rfl | (simp_all; done) | (simp_all; intros; omega) | grind
  · -- s5 False
    refine AO.skipT rfl rfl rfl rfl rfl ?_
    refine AO.skipT rfl rfl rfl rfl rfl ?_
    refine AO.yld _ (Yld.pickF rfl rfl) rfl rfl rfl ?_
    refine AO.yld _ (Yld.assign rfl) rfl rfl rfl ?_
    refine AO.nil ?_
    refine Pure.ret Tryd.results131 (RVs.cons (RV.tmp rfl) RVs.nil) rfl ?_
    first | rfl | (simp_all; done) | (simp_all; intros; omega) | grind

theorem spec_l01Digit_c {c : Int} :
    Pure Tryd.prog 132 [.v (.int .u8 c)] (.v (.bool (decide (48 ≤ c) && decide (c ≤ 57)))) := by
  refine Pure.intro Tryd.func132 rfl Tryd.ntmps132 rfl rfl (fun w => ?_)
  refine AC.seq ?_
  refine AC.region ?_
  refine AO.yld _ (Yld.assign rfl) rfl rfl rfl ?_
  refine AO.nil ?_
  refine AC.seq ?_
  refine AC.region ?_
  refine AO.yld _ (Yld.move rfl) rfl rfl rfl ?_
  refine AO.yld _ (Yld.int rfl rfl rfl) rfl rfl rfl ?_
  refine AO.yld _ (Yld.move rfl) rfl rfl rfl ?_
  refine AO.splitAt 5 _ rfl (fun s5 => ?_) (fun s5 => ?_)
  · -- s5 True
    refine AO.yldG _ (Yld.move rfl) rfl rfl rfl rfl rfl ?_
    refine AO.yldG _ (Yld.int rfl rfl rfl) rfl rfl rfl rfl rfl ?_
    refine AO.yld _ (Yld.pickT rfl rfl) rfl rfl rfl ?_
    refine AO.yld _ (Yld.assign rfl) rfl rfl rfl ?_
    refine AO.nil ?_
    refine Pure.ret Tryd.results132 (RVs.cons (RV.tmp rfl) RVs.nil) rfl ?_
    first | rfl | (simp_all; done) | (simp_all; intros; omega) | grind
  · -- s5 False
    refine AO.skipT rfl rfl rfl rfl rfl ?_
    refine AO.skipT rfl rfl rfl rfl rfl ?_
    refine AO.yld _ (Yld.pickF rfl rfl) rfl rfl rfl ?_
    refine AO.yld _ (Yld.assign rfl) rfl rfl rfl ?_
    refine AO.nil ?_
    refine Pure.ret Tryd.results132 (RVs.cons (RV.tmp rfl) RVs.nil) rfl ?_
    first | rfl | (simp_all; done) | (simp_all; intros; omega) | grind

theorem spec_l01Name_c {l : List UInt8} (hn : l.length ≤ 1048576) :
    Pure Tryd.prog 117 [.v (str l)] (.v (.bool (isName l))) := by
  refine Pure.intro Tryd.func117 rfl Tryd.ntmps117 rfl rfl (fun w => ?_)
  refine AC.seq ?_
  refine AC.region ?_
  refine AO.yld _ (Yld.assign rfl) rfl rfl rfl ?_
  refine AO.nil ?_
  refine AC.seq ?_
  refine AC.seq ?_
  refine AC.region ?_
  refine AO.yld _ (Yld.move rfl) rfl rfl rfl ?_
  refine AO.yld _ (Yld.cmpStr rfl rfl rfl) rfl rfl rfl ?_
  refine AO.yld _ (Yld.move rfl) rfl rfl rfl ?_
  refine AO.splitAt 6 _ rfl (fun s6 => ?_) (fun s6 => ?_)
  · -- s6 True
    refine AO.skipF rfl rfl rfl rfl rfl ?_
    refine AO.skipF rfl rfl rfl rfl rfl ?_
    refine AO.skipF rfl rfl rfl rfl rfl ?_
    refine AO.yld _ (Yld.pickT rfl rfl) rfl rfl rfl ?_
    refine AO.yld _ (Yld.move rfl) rfl rfl rfl ?_
    refine AO.skipF rfl rfl rfl rfl rfl ?_
    refine AO.skipF rfl rfl rfl rfl rfl ?_
    refine AO.skipF rfl rfl rfl rfl rfl ?_
    refine AO.skipF rfl rfl rfl rfl rfl ?_
    refine AO.yld _ (Yld.pickT rfl rfl) rfl rfl rfl ?_
    refine AO.nil ?_
    refine AC.condT rfl ?_
    refine AC.seq ?_
    refine AC.region ?_
    refine AO.yld _ (Yld.assign rfl) rfl rfl rfl ?_
    refine AO.nil ?_
    refine Pure.ret Tryd.results117 (RVs.cons (RV.tmp rfl) RVs.nil) rfl ?_
    first
      | (exact cb (name_nil (by simpa using s6)))
      | (exact cb (name_long (by simp at s11; omega)))
      | (exact cb (name_first hc (by have h := c16; simp only [decide_eq_true_eq, decide_eq_false_iff_not, Bool.not_eq_true', Bool.not_eq_false', Bool.and_eq_true, Bool.and_eq_false_iff] at h; simp only [lowB, Bool.and_eq_false_iff, decide_eq_false_iff_not]; omega)))
      | (exact cb (name_bad hck (by have h := s28; simp only [decide_eq_true_eq, decide_eq_false_iff_not, Bool.not_eq_true', Bool.not_eq_false', Bool.and_eq_true, Bool.and_eq_false_iff] at h; simp only [lowB, Bool.and_eq_false_iff, decide_eq_false_iff_not]; omega) (by have h := c34; simp only [decide_eq_true_eq, decide_eq_false_iff_not, Bool.not_eq_true', Bool.not_eq_false', Bool.and_eq_true, Bool.and_eq_false_iff] at h; simp only [digB, Bool.and_eq_false_iff, decide_eq_false_iff_not]; omega)))
      | (exact cb (name_ok hc (by have h := c16; simp only [decide_eq_true_eq, decide_eq_false_iff_not, Bool.not_eq_true', Bool.not_eq_false', Bool.and_eq_true, Bool.and_eq_false_iff] at h; simp only [lowB, Bool.and_eq_true, decide_eq_true_eq]; omega) (by simp at s11; omega) hJ.2))
  · -- s6 False
    have hl0 : 0 < l.length := by cases l with | nil => simp at s6 | cons => simp
    refine AO.yldG _ (Yld.move rfl) rfl rfl rfl rfl rfl ?_
    refine AO.yldG _ (Yld.lenStr Tryd.underlying9 rfl) rfl rfl rfl rfl rfl ?_
    refine AO.yldG _ (Yld.int rfl rfl rfl) rfl rfl rfl rfl rfl ?_
    refine AO.yld _ (Yld.pickF rfl rfl) rfl rfl rfl ?_
    refine AO.yld _ (Yld.move rfl) rfl rfl rfl ?_
    refine AO.splitAt 11 _ rfl (fun s11 => ?_) (fun s11 => ?_)
    · -- s11 True
      refine AO.skipF rfl rfl rfl rfl rfl ?_
      refine AO.skipF rfl rfl rfl rfl rfl ?_
      refine AO.skipF rfl rfl rfl rfl rfl ?_
      refine AO.skipF rfl rfl rfl rfl rfl ?_
      refine AO.yld _ (Yld.pickT rfl rfl) rfl rfl rfl ?_
      refine AO.nil ?_
      refine AC.condT rfl ?_
      refine AC.seq ?_
      refine AC.region ?_
      refine AO.yld _ (Yld.assign rfl) rfl rfl rfl ?_
      refine AO.nil ?_
      refine Pure.ret Tryd.results117 (RVs.cons (RV.tmp rfl) RVs.nil) rfl ?_
      first
        | (exact cb (name_nil (by simpa using s6)))
        | (exact cb (name_long (by simp at s11; omega)))
        | (exact cb (name_first hc (by have h := c16; simp only [decide_eq_true_eq, decide_eq_false_iff_not, Bool.not_eq_true', Bool.not_eq_false', Bool.and_eq_true, Bool.and_eq_false_iff] at h; simp only [lowB, Bool.and_eq_false_iff, decide_eq_false_iff_not]; omega)))
        | (exact cb (name_bad hck (by have h := s28; simp only [decide_eq_true_eq, decide_eq_false_iff_not, Bool.not_eq_true', Bool.not_eq_false', Bool.and_eq_true, Bool.and_eq_false_iff] at h; simp only [lowB, Bool.and_eq_false_iff, decide_eq_false_iff_not]; omega) (by have h := c34; simp only [decide_eq_true_eq, decide_eq_false_iff_not, Bool.not_eq_true', Bool.not_eq_false', Bool.and_eq_true, Bool.and_eq_false_iff] at h; simp only [digB, Bool.and_eq_false_iff, decide_eq_false_iff_not]; omega)))
        | (exact cb (name_ok hc (by have h := c16; simp only [decide_eq_true_eq, decide_eq_false_iff_not, Bool.not_eq_true', Bool.not_eq_false', Bool.and_eq_true, Bool.and_eq_false_iff] at h; simp only [lowB, Bool.and_eq_true, decide_eq_true_eq]; omega) (by simp at s11; omega) hJ.2))
    · -- s11 False
      obtain ⟨c, hc⟩ := get_some hl0
      refine AO.yldG _ (Yld.move rfl) rfl rfl rfl rfl rfl ?_
      refine AO.yldG _ (Yld.indexStr Tryd.underlying9 rfl rfl (by omega) hc) rfl rfl rfl rfl rfl ?_
      refine AO.yldG _ (Yld.call rfl rfl Tryd.call131 rfl rfl rfl (spec_l01Small_c) rfl) rfl rfl rfl rfl rfl ?_
      refine AO.yldG _ (Yld.not rfl) rfl rfl rfl rfl rfl ?_
      refine AO.yld _ (Yld.pickF rfl rfl) rfl rfl rfl ?_
      refine AO.nil ?_
      refine AC.cond _ rfl (fun c16 => ?_) (fun c16 => ?_)
      · -- c16 True
        refine AC.seq ?_
        refine AC.region ?_
        refine AO.yld _ (Yld.assign rfl) rfl rfl rfl ?_
        refine AO.nil ?_
        refine Pure.ret Tryd.results117 (RVs.cons (RV.tmp rfl) RVs.nil) rfl ?_
        first
          | (exact cb (name_nil (by simpa using s6)))
          | (exact cb (name_long (by simp at s11; omega)))
          | (exact cb (name_first hc (by have h := c16; simp only [decide_eq_true_eq, decide_eq_false_iff_not, Bool.not_eq_true', Bool.not_eq_false', Bool.and_eq_true, Bool.and_eq_false_iff] at h; simp only [lowB, Bool.and_eq_false_iff, decide_eq_false_iff_not]; omega)))
          | (exact cb (name_bad hck (by have h := s28; simp only [decide_eq_true_eq, decide_eq_false_iff_not, Bool.not_eq_true', Bool.not_eq_false', Bool.and_eq_true, Bool.and_eq_false_iff] at h; simp only [lowB, Bool.and_eq_false_iff, decide_eq_false_iff_not]; omega) (by have h := c34; simp only [decide_eq_true_eq, decide_eq_false_iff_not, Bool.not_eq_true', Bool.not_eq_false', Bool.and_eq_true, Bool.and_eq_false_iff] at h; simp only [digB, Bool.and_eq_false_iff, decide_eq_false_iff_not]; omega)))
          | (exact cb (name_ok hc (by have h := c16; simp only [decide_eq_true_eq, decide_eq_false_iff_not, Bool.not_eq_true', Bool.not_eq_false', Bool.and_eq_true, Bool.and_eq_false_iff] at h; simp only [lowB, Bool.and_eq_true, decide_eq_true_eq]; omega) (by simp at s11; omega) hJ.2))
      · -- c16 False
        refine AC.skip ?_
        refine AC.seq ?_
        refine AC.seq ?_
        refine AC.region ?_
        refine AO.yld _ (Yld.assign rfl) rfl rfl rfl ?_
        refine AO.nil ?_
        refine AC.block ?_
        refine AC.loopC [(0, _)] [] (fun (k : Nat) => [(3, .p (.v (.int .i64 (k : Int))))]) (fun (k : Nat) => []) (fun (k : Nat) => k ≤ l.length ∧ nameTo l k = true) (fun (k : Nat) => l.length - k) 0 ⟨rfl, trivial⟩ trivial ⟨rfl, trivial⟩ trivial ?_ (fun k hJ => ?_)
        · exact ⟨Nat.zero_le _, rfl⟩
        · -- round
          refine AC.seq ?_
          refine AC.seq ?_
          refine AC.region ?_
          refine AO.yld _ (Yld.move rfl) rfl rfl rfl ?_
          refine AO.yld _ (Yld.move rfl) rfl rfl rfl ?_
          refine AO.yld _ (Yld.lenStr Tryd.underlying9 rfl) rfl rfl rfl ?_
          refine AO.yld _ (Yld.int rfl rfl rfl) rfl rfl rfl ?_
          refine AO.nil ?_
          refine AC.cond _ rfl (fun c20 => ?_) (fun c20 => ?_)
          · -- c20 True
            have hk := lt_of_dec c20
            obtain ⟨c2, hck⟩ := get_some hk
            refine AC.skip ?_
            refine AC.seq ?_
            refine AC.block ?_
            refine AC.seq ?_
            refine AC.region ?_
            refine AO.yld _ (Yld.move rfl) rfl rfl rfl ?_
            refine AO.yld _ (Yld.move rfl) rfl rfl rfl ?_
            refine AO.yld _ (Yld.indexStr Tryd.underlying9 rfl rfl (by omega) hck) rfl rfl rfl ?_
            refine AO.yld _ (Yld.call rfl rfl Tryd.call131 rfl rfl rfl (spec_l01Small_c) rfl) rfl rfl rfl ?_
            refine AO.yld _ (Yld.not rfl) rfl rfl rfl ?_
            refine AO.yld _ (Yld.move rfl) rfl rfl rfl ?_
            refine AO.splitAt 28 _ rfl (fun s28 => ?_) (fun s28 => ?_)
            · -- s28 True
              refine AO.yldG _ (Yld.move rfl) rfl rfl rfl rfl rfl ?_
              refine AO.yldG _ (Yld.move rfl) rfl rfl rfl rfl rfl ?_
              refine AO.yldG _ (Yld.indexStr Tryd.underlying9 rfl rfl (by omega) hck) rfl rfl rfl rfl rfl ?_
              refine AO.yldG _ (Yld.call rfl rfl Tryd.call132 rfl rfl rfl (spec_l01Digit_c) rfl) rfl rfl rfl rfl rfl ?_
              refine AO.yldG _ (Yld.not rfl) rfl rfl rfl rfl rfl ?_
              refine AO.yld _ (Yld.pickT rfl rfl) rfl rfl rfl ?_
              refine AO.nil ?_
              refine AC.cond _ rfl (fun c34 => ?_) (fun c34 => ?_)
              · -- c34 True
                refine AC.seq ?_
                refine AC.region ?_
                refine AO.yld _ (Yld.assign rfl) rfl rfl rfl ?_
                refine AO.nil ?_
                refine Pure.ret Tryd.results117 (RVs.cons (RV.tmp rfl) RVs.nil) rfl ?_
                first
                  | (exact cb (name_nil (by simpa using s6)))
                  | (exact cb (name_long (by simp at s11; omega)))
                  | (exact cb (name_first hc (by have h := c16; simp only [decide_eq_true_eq, decide_eq_false_iff_not, Bool.not_eq_true', Bool.not_eq_false', Bool.and_eq_true, Bool.and_eq_false_iff] at h; simp only [lowB, Bool.and_eq_false_iff, decide_eq_false_iff_not]; omega)))
                  | (exact cb (name_bad hck (by have h := s28; simp only [decide_eq_true_eq, decide_eq_false_iff_not, Bool.not_eq_true', Bool.not_eq_false', Bool.and_eq_true, Bool.and_eq_false_iff] at h; simp only [lowB, Bool.and_eq_false_iff, decide_eq_false_iff_not]; omega) (by have h := c34; simp only [decide_eq_true_eq, decide_eq_false_iff_not, Bool.not_eq_true', Bool.not_eq_false', Bool.and_eq_true, Bool.and_eq_false_iff] at h; simp only [digB, Bool.and_eq_false_iff, decide_eq_false_iff_not]; omega)))
                  | (exact cb (name_ok hc (by have h := c16; simp only [decide_eq_true_eq, decide_eq_false_iff_not, Bool.not_eq_true', Bool.not_eq_false', Bool.and_eq_true, Bool.and_eq_false_iff] at h; simp only [lowB, Bool.and_eq_true, decide_eq_true_eq]; omega) (by simp at s11; omega) hJ.2))
              · -- c34 False
                refine AC.skip ?_
                refine AC.mark ?_
                refine AC.region ?_
                refine AO.yld _ (Yld.move rfl) rfl rfl rfl ?_
                refine AO.yld _ (Yld.add rfl rfl (by omega) (by omega)) rfl rfl rfl ?_
                refine AO.yld _ (Yld.assign rfl) rfl rfl rfl ?_
                refine AO.nil ?_
                refine AC.back ⟨k + 1, ?_, ?_, ⟨?_, trivial⟩, trivial, ⟨rfl, trivial⟩, trivial⟩
                · exact ⟨hk, by rw [nameTo_succ hck, hJ.2]; first | (have h : lowB c2 = true := (by have h := s28; simp only [decide_eq_true_eq, decide_eq_false_iff_not, Bool.not_eq_true', Bool.not_eq_false', Bool.and_eq_true, Bool.and_eq_false_iff] at h; simp only [lowB, Bool.and_eq_true, decide_eq_true_eq]; omega); simp [h]) | (have h : digB c2 = true := (by have h := c34; simp only [decide_eq_true_eq, decide_eq_false_iff_not, Bool.not_eq_true', Bool.not_eq_false', Bool.and_eq_true, Bool.and_eq_false_iff] at h; simp only [digB, Bool.and_eq_true, decide_eq_true_eq]; omega); simp [h])⟩
                · omega
                · rfl
            · -- s28 False
              refine AO.skipT rfl rfl rfl rfl rfl ?_
              refine AO.skipT rfl rfl rfl rfl rfl ?_
              refine AO.skipT rfl rfl rfl rfl rfl ?_
              refine AO.skipT rfl rfl rfl rfl rfl ?_
              refine AO.skipT rfl rfl rfl rfl rfl ?_
              refine AO.yld _ (Yld.pickF rfl rfl) rfl rfl rfl ?_
              refine AO.nil ?_
              refine AC.condF rfl ?_
              refine AC.skip ?_
              refine AC.mark ?_
              refine AC.region ?_
              refine AO.yld _ (Yld.move rfl) rfl rfl rfl ?_
              refine AO.yld _ (Yld.add rfl rfl (by omega) (by omega)) rfl rfl rfl ?_
              refine AO.yld _ (Yld.assign rfl) rfl rfl rfl ?_
              refine AO.nil ?_
              refine AC.back ⟨k + 1, ?_, ?_, ⟨?_, trivial⟩, trivial, ⟨rfl, trivial⟩, trivial⟩
              · exact ⟨hk, by rw [nameTo_succ hck, hJ.2]; first | (have h : lowB c2 = true := (by have h := s28; simp only [decide_eq_true_eq, decide_eq_false_iff_not, Bool.not_eq_true', Bool.not_eq_false', Bool.and_eq_true, Bool.and_eq_false_iff] at h; simp only [lowB, Bool.and_eq_true, decide_eq_true_eq]; omega); simp [h]) | (have h : digB c2 = true := (by have h := c34; simp only [decide_eq_true_eq, decide_eq_false_iff_not, Bool.not_eq_true', Bool.not_eq_false', Bool.and_eq_true, Bool.and_eq_false_iff] at h; simp only [digB, Bool.and_eq_true, decide_eq_true_eq]; omega); simp [h])⟩
              · omega
              · rfl
          · -- c20 False
            obtain rfl : k = l.length := by have := ge_of_dec c20; omega
            refine AC.exit rfl ?_
            refine AC.seq ?_
            refine AC.region ?_
            refine AO.yld _ (Yld.assign rfl) rfl rfl rfl ?_
            refine AO.nil ?_
            refine Pure.ret Tryd.results117 (RVs.cons (RV.tmp rfl) RVs.nil) rfl ?_
            first
              | (exact cb (name_nil (by simpa using s6)))
              | (exact cb (name_long (by simp at s11; omega)))
              | (exact cb (name_first hc (by have h := c16; simp only [decide_eq_true_eq, decide_eq_false_iff_not, Bool.not_eq_true', Bool.not_eq_false', Bool.and_eq_true, Bool.and_eq_false_iff] at h; simp only [lowB, Bool.and_eq_false_iff, decide_eq_false_iff_not]; omega)))
              | (exact cb (name_bad hck (by have h := s28; simp only [decide_eq_true_eq, decide_eq_false_iff_not, Bool.not_eq_true', Bool.not_eq_false', Bool.and_eq_true, Bool.and_eq_false_iff] at h; simp only [lowB, Bool.and_eq_false_iff, decide_eq_false_iff_not]; omega) (by have h := c34; simp only [decide_eq_true_eq, decide_eq_false_iff_not, Bool.not_eq_true', Bool.not_eq_false', Bool.and_eq_true, Bool.and_eq_false_iff] at h; simp only [digB, Bool.and_eq_false_iff, decide_eq_false_iff_not]; omega)))
              | (exact cb (name_ok hc (by have h := c16; simp only [decide_eq_true_eq, decide_eq_false_iff_not, Bool.not_eq_true', Bool.not_eq_false', Bool.and_eq_true, Bool.and_eq_false_iff] at h; simp only [lowB, Bool.and_eq_true, decide_eq_true_eq]; omega) (by simp at s11; omega) hJ.2))

theorem impl_IsName_c {l : List UInt8} (hn : l.length ≤ 1048576) :
    Pure Tryd.prog 66 [.v (str l)] (.v (.bool (isName l))) := by
  refine Pure.intro Tryd.func66 rfl Tryd.ntmps66 rfl rfl (fun w => ?_)
  refine AC.seq ?_
  refine AC.region ?_
  refine AO.yld _ (Yld.assign rfl) rfl rfl rfl ?_
  refine AO.nil ?_
  refine AC.seq ?_
  refine AC.seq ?_
  refine AC.region ?_
  refine AO.yld _ (Yld.move rfl) rfl rfl rfl ?_
  refine AO.yld _ (Yld.lenStr Tryd.underlying9 rfl) rfl rfl rfl ?_
  refine AO.yld _ (Yld.int rfl rfl rfl) rfl rfl rfl ?_
  refine AO.yld _ (Yld.move rfl) rfl rfl rfl ?_
  refine AO.splitAt 7 _ rfl (fun s7 => ?_) (fun s7 => ?_)
  · -- s7 True
    refine AO.skipF rfl rfl rfl rfl rfl ?_
    refine AO.skipF rfl rfl rfl rfl rfl ?_
    refine AO.skipF rfl rfl rfl rfl rfl ?_
    refine AO.yld _ (Yld.pickT rfl rfl) rfl rfl rfl ?_
    refine AO.yld _ (Yld.move rfl) rfl rfl rfl ?_
    refine AO.skipF rfl rfl rfl rfl rfl ?_
    refine AO.skipF rfl rfl rfl rfl rfl ?_
    refine AO.skipF rfl rfl rfl rfl rfl ?_
    refine AO.yld _ (Yld.pickT rfl rfl) rfl rfl rfl ?_
    refine AO.yld _ (Yld.move rfl) rfl rfl rfl ?_
    refine AO.skipF rfl rfl rfl rfl rfl ?_
    refine AO.skipF rfl rfl rfl rfl rfl ?_
    refine AO.skipF rfl rfl rfl rfl rfl ?_
    refine AO.yld _ (Yld.pickT rfl rfl) rfl rfl rfl ?_
    refine AO.nil ?_
    refine AC.condT rfl ?_
    refine AC.seq ?_
    refine AC.region ?_
    refine AO.yld _ (Yld.assign rfl) rfl rfl rfl ?_
    refine AO.nil ?_
    refine Pure.ret Tryd.results66 (RVs.cons (RV.tmp rfl) RVs.nil) rfl ?_
    first
      | (exact cb (name_nil (by simp at s7; omega)))
      | (exact cb (name_long (by simp at s12; omega)))
      | (exact cb (name_first hc (by have h := s17; simp only [decide_eq_true_eq, decide_eq_false_iff_not, Bool.not_eq_true', Bool.not_eq_false', Bool.and_eq_true, Bool.and_eq_false_iff] at h; simp only [lowB, Bool.and_eq_false_iff, decide_eq_false_iff_not]; omega)))
      | (exact cb (name_first hc (by have h := c21; simp only [decide_eq_true_eq, decide_eq_false_iff_not, Bool.not_eq_true', Bool.not_eq_false', Bool.and_eq_true, Bool.and_eq_false_iff] at h; simp only [lowB, Bool.and_eq_false_iff, decide_eq_false_iff_not]; omega)))
      | (exact cb (name_ok hc (by simp only [lowB, Bool.and_eq_true, decide_eq_true_eq]; simp only [decide_eq_true_eq, decide_eq_false_iff_not, Bool.not_eq_true', Bool.not_eq_false'] at *; omega) (by simp at s12; omega) hJ.2))
      | (exact cb (name_bad hck (by simp only [lowB, Bool.and_eq_false_iff, decide_eq_false_iff_not]; simp only [decide_eq_true_eq, decide_eq_false_iff_not, Bool.not_eq_true'] at *; omega) (by simp only [digB, Bool.and_eq_false_iff, decide_eq_false_iff_not]; simp only [decide_eq_true_eq, decide_eq_false_iff_not, Bool.not_eq_true'] at *; omega)))
  · -- s7 False
    have hl0 : 0 < l.length := by simp at s7; omega
    refine AO.yldG _ (Yld.move rfl) rfl rfl rfl rfl rfl ?_
    refine AO.yldG _ (Yld.lenStr Tryd.underlying9 rfl) rfl rfl rfl rfl rfl ?_
    refine AO.yldG _ (Yld.int rfl rfl rfl) rfl rfl rfl rfl rfl ?_
    refine AO.yld _ (Yld.pickF rfl rfl) rfl rfl rfl ?_
    refine AO.yld _ (Yld.move rfl) rfl rfl rfl ?_
    refine AO.splitAt 12 _ rfl (fun s12 => ?_) (fun s12 => ?_)
    · -- s12 True
      refine AO.skipF rfl rfl rfl rfl rfl ?_
      refine AO.skipF rfl rfl rfl rfl rfl ?_
      refine AO.skipF rfl rfl rfl rfl rfl ?_
      refine AO.yld _ (Yld.pickT rfl rfl) rfl rfl rfl ?_
      refine AO.yld _ (Yld.move rfl) rfl rfl rfl ?_
      refine AO.skipF rfl rfl rfl rfl rfl ?_
      refine AO.skipF rfl rfl rfl rfl rfl ?_
      refine AO.skipF rfl rfl rfl rfl rfl ?_
      refine AO.yld _ (Yld.pickT rfl rfl) rfl rfl rfl ?_
      refine AO.nil ?_
      refine AC.condT rfl ?_
      refine AC.seq ?_
      refine AC.region ?_
      refine AO.yld _ (Yld.assign rfl) rfl rfl rfl ?_
      refine AO.nil ?_
      refine Pure.ret Tryd.results66 (RVs.cons (RV.tmp rfl) RVs.nil) rfl ?_
      first
        | (exact cb (name_nil (by simp at s7; omega)))
        | (exact cb (name_long (by simp at s12; omega)))
        | (exact cb (name_first hc (by have h := s17; simp only [decide_eq_true_eq, decide_eq_false_iff_not, Bool.not_eq_true', Bool.not_eq_false', Bool.and_eq_true, Bool.and_eq_false_iff] at h; simp only [lowB, Bool.and_eq_false_iff, decide_eq_false_iff_not]; omega)))
        | (exact cb (name_first hc (by have h := c21; simp only [decide_eq_true_eq, decide_eq_false_iff_not, Bool.not_eq_true', Bool.not_eq_false', Bool.and_eq_true, Bool.and_eq_false_iff] at h; simp only [lowB, Bool.and_eq_false_iff, decide_eq_false_iff_not]; omega)))
        | (exact cb (name_ok hc (by simp only [lowB, Bool.and_eq_true, decide_eq_true_eq]; simp only [decide_eq_true_eq, decide_eq_false_iff_not, Bool.not_eq_true', Bool.not_eq_false'] at *; omega) (by simp at s12; omega) hJ.2))
        | (exact cb (name_bad hck (by simp only [lowB, Bool.and_eq_false_iff, decide_eq_false_iff_not]; simp only [decide_eq_true_eq, decide_eq_false_iff_not, Bool.not_eq_true'] at *; omega) (by simp only [digB, Bool.and_eq_false_iff, decide_eq_false_iff_not]; simp only [decide_eq_true_eq, decide_eq_false_iff_not, Bool.not_eq_true'] at *; omega)))
    · -- s12 False
      obtain ⟨c, hc⟩ := get_some hl0
      refine AO.yldG _ (Yld.move rfl) rfl rfl rfl rfl rfl ?_
      refine AO.yldG _ (Yld.indexStr Tryd.underlying9 rfl rfl (by omega) hc) rfl rfl rfl rfl rfl ?_
      refine AO.yldG _ (Yld.int rfl rfl rfl) rfl rfl rfl rfl rfl ?_
      refine AO.yld _ (Yld.pickF rfl rfl) rfl rfl rfl ?_
      refine AO.yld _ (Yld.move rfl) rfl rfl rfl ?_
      refine AO.splitAt 17 _ rfl (fun s17 => ?_) (fun s17 => ?_)
      · -- s17 True
        refine AO.skipF rfl rfl rfl rfl rfl ?_
        refine AO.skipF rfl rfl rfl rfl rfl ?_
        refine AO.skipF rfl rfl rfl rfl rfl ?_
        refine AO.yld _ (Yld.pickT rfl rfl) rfl rfl rfl ?_
        refine AO.nil ?_
        refine AC.condT rfl ?_
        refine AC.seq ?_
        refine AC.region ?_
        refine AO.yld _ (Yld.assign rfl) rfl rfl rfl ?_
        refine AO.nil ?_
        refine Pure.ret Tryd.results66 (RVs.cons (RV.tmp rfl) RVs.nil) rfl ?_
        first
          | (exact cb (name_nil (by simp at s7; omega)))
          | (exact cb (name_long (by simp at s12; omega)))
          | (exact cb (name_first hc (by have h := s17; simp only [decide_eq_true_eq, decide_eq_false_iff_not, Bool.not_eq_true', Bool.not_eq_false', Bool.and_eq_true, Bool.and_eq_false_iff] at h; simp only [lowB, Bool.and_eq_false_iff, decide_eq_false_iff_not]; omega)))
          | (exact cb (name_first hc (by have h := c21; simp only [decide_eq_true_eq, decide_eq_false_iff_not, Bool.not_eq_true', Bool.not_eq_false', Bool.and_eq_true, Bool.and_eq_false_iff] at h; simp only [lowB, Bool.and_eq_false_iff, decide_eq_false_iff_not]; omega)))
          | (exact cb (name_ok hc (by simp only [lowB, Bool.and_eq_true, decide_eq_true_eq]; simp only [decide_eq_true_eq, decide_eq_false_iff_not, Bool.not_eq_true', Bool.not_eq_false'] at *; omega) (by simp at s12; omega) hJ.2))
          | (exact cb (name_bad hck (by simp only [lowB, Bool.and_eq_false_iff, decide_eq_false_iff_not]; simp only [decide_eq_true_eq, decide_eq_false_iff_not, Bool.not_eq_true'] at *; omega) (by simp only [digB, Bool.and_eq_false_iff, decide_eq_false_iff_not]; simp only [decide_eq_true_eq, decide_eq_false_iff_not, Bool.not_eq_true'] at *; omega)))
      · -- s17 False
        refine AO.yldG _ (Yld.move rfl) rfl rfl rfl rfl rfl ?_
        refine AO.yldG _ (Yld.indexStr Tryd.underlying9 rfl rfl (by omega) hc) rfl rfl rfl rfl rfl ?_
        refine AO.yldG _ (Yld.int rfl rfl rfl) rfl rfl rfl rfl rfl ?_
        refine AO.yld _ (Yld.pickF rfl rfl) rfl rfl rfl ?_
        refine AO.nil ?_
        refine AC.cond _ rfl (fun c21 => ?_) (fun c21 => ?_)
        · -- c21 True
          refine AC.seq ?_
          refine AC.region ?_
          refine AO.yld _ (Yld.assign rfl) rfl rfl rfl ?_
          refine AO.nil ?_
          refine Pure.ret Tryd.results66 (RVs.cons (RV.tmp rfl) RVs.nil) rfl ?_
          first
            | (exact cb (name_nil (by simp at s7; omega)))
            | (exact cb (name_long (by simp at s12; omega)))
            | (exact cb (name_first hc (by have h := s17; simp only [decide_eq_true_eq, decide_eq_false_iff_not, Bool.not_eq_true', Bool.not_eq_false', Bool.and_eq_true, Bool.and_eq_false_iff] at h; simp only [lowB, Bool.and_eq_false_iff, decide_eq_false_iff_not]; omega)))
            | (exact cb (name_first hc (by have h := c21; simp only [decide_eq_true_eq, decide_eq_false_iff_not, Bool.not_eq_true', Bool.not_eq_false', Bool.and_eq_true, Bool.and_eq_false_iff] at h; simp only [lowB, Bool.and_eq_false_iff, decide_eq_false_iff_not]; omega)))
            | (exact cb (name_ok hc (by simp only [lowB, Bool.and_eq_true, decide_eq_true_eq]; simp only [decide_eq_true_eq, decide_eq_false_iff_not, Bool.not_eq_true', Bool.not_eq_false'] at *; omega) (by simp at s12; omega) hJ.2))
            | (exact cb (name_bad hck (by simp only [lowB, Bool.and_eq_false_iff, decide_eq_false_iff_not]; simp only [decide_eq_true_eq, decide_eq_false_iff_not, Bool.not_eq_true'] at *; omega) (by simp only [digB, Bool.and_eq_false_iff, decide_eq_false_iff_not]; simp only [decide_eq_true_eq, decide_eq_false_iff_not, Bool.not_eq_true'] at *; omega)))
        · -- c21 False
          refine AC.skip ?_
          refine AC.seq ?_
          refine AC.seq ?_
          refine AC.region ?_
          refine AO.yld _ (Yld.assign rfl) rfl rfl rfl ?_
          refine AO.nil ?_
          refine AC.block ?_
          refine AC.loopC [(0, _)] [] (fun (k : Nat) => [(3, .p (.v (.int .i64 (k : Int))))]) (fun (k : Nat) => []) (fun (k : Nat) => k ≤ l.length ∧ nameTo l k = true) (fun (k : Nat) => l.length - k) 0 ⟨rfl, trivial⟩ trivial ⟨rfl, trivial⟩ trivial ?_ (fun k hJ => ?_)
          · exact ⟨Nat.zero_le _, rfl⟩
          · -- round
            refine AC.seq ?_
            refine AC.seq ?_
            refine AC.region ?_
            refine AO.yld _ (Yld.move rfl) rfl rfl rfl ?_
            refine AO.yld _ (Yld.move rfl) rfl rfl rfl ?_
            refine AO.yld _ (Yld.lenStr Tryd.underlying9 rfl) rfl rfl rfl ?_
            refine AO.yld _ (Yld.int rfl rfl rfl) rfl rfl rfl ?_
            refine AO.nil ?_
            refine AC.cond _ rfl (fun c25 => ?_) (fun c25 => ?_)
            · -- c25 True
              have hk := lt_of_dec c25
              obtain ⟨c2, hck⟩ := get_some hk
              refine AC.skip ?_
              refine AC.seq ?_
              refine AC.block ?_
              refine AC.seq ?_
              refine AC.region ?_
              refine AO.yld _ (Yld.move rfl) rfl rfl rfl ?_
              refine AO.yld _ (Yld.move rfl) rfl rfl rfl ?_
              refine AO.yld _ (Yld.indexStr Tryd.underlying9 rfl rfl (by omega) hck) rfl rfl rfl ?_
              refine AO.yld _ (Yld.int rfl rfl rfl) rfl rfl rfl ?_
              refine AO.yld _ (Yld.move rfl) rfl rfl rfl ?_
              refine AO.splitAt 32 _ rfl (fun s32 => ?_) (fun s32 => ?_)
              · -- s32 True
                refine AO.yldG _ (Yld.move rfl) rfl rfl rfl rfl rfl ?_
                refine AO.yldG _ (Yld.move rfl) rfl rfl rfl rfl rfl ?_
                refine AO.yldG _ (Yld.indexStr Tryd.underlying9 rfl rfl (by omega) hck) rfl rfl rfl rfl rfl ?_
                refine AO.yldG _ (Yld.int rfl rfl rfl) rfl rfl rfl rfl rfl ?_
                refine AO.yld _ (Yld.pickT rfl rfl) rfl rfl rfl ?_
                refine AO.yld _ (Yld.move rfl) rfl rfl rfl ?_
                refine AO.splitAt 38 _ rfl (fun s38 => ?_) (fun s38 => ?_)
                · -- s38 True
                  refine AO.skipF rfl rfl rfl rfl rfl ?_
                  refine AO.skipF rfl rfl rfl rfl rfl ?_
                  refine AO.skipF rfl rfl rfl rfl rfl ?_
                  refine AO.skipF rfl rfl rfl rfl rfl ?_
                  refine AO.skipF rfl rfl rfl rfl rfl ?_
                  refine AO.skipU rfl rfl rfl rfl rfl ?_
                  refine AO.skipU rfl rfl rfl rfl rfl ?_
                  refine AO.skipU rfl rfl rfl rfl rfl ?_
                  refine AO.skipU rfl rfl rfl rfl rfl ?_
                  refine AO.skipF rfl rfl rfl rfl rfl ?_
                  refine AO.yld _ (Yld.pickT rfl rfl) rfl rfl rfl ?_
                  refine AO.yld _ (Yld.not rfl) rfl rfl rfl ?_
                  refine AO.nil ?_
                  refine AC.condF rfl ?_
                  refine AC.skip ?_
                  refine AC.mark ?_
                  refine AC.region ?_
                  refine AO.yld _ (Yld.move rfl) rfl rfl rfl ?_
                  refine AO.yld _ (Yld.add rfl rfl (by omega) (by omega)) rfl rfl rfl ?_
                  refine AO.yld _ (Yld.assign rfl) rfl rfl rfl ?_
                  refine AO.nil ?_
                  refine AC.back ⟨k + 1, ?_, ?_, ⟨?_, trivial⟩, trivial, ⟨rfl, trivial⟩, trivial⟩
                  · exact ⟨hk, by rw [nameTo_succ hck, hJ.2]; first | (have h : lowB c2 = true := (by simp only [lowB, Bool.and_eq_true, decide_eq_true_eq]; simp only [decide_eq_true_eq, decide_eq_false_iff_not, Bool.not_eq_true', Bool.not_eq_false'] at *; omega); simp [h]) | (have h : digB c2 = true := (by simp only [digB, Bool.and_eq_true, decide_eq_true_eq]; simp only [decide_eq_true_eq, decide_eq_false_iff_not, Bool.not_eq_true', Bool.not_eq_false'] at *; omega); simp [h])⟩
                  · omega
                  · rfl
                · -- s38 False
                  refine AO.yldG _ (Yld.move rfl) rfl rfl rfl rfl rfl ?_
                  refine AO.yldG _ (Yld.move rfl) rfl rfl rfl rfl rfl ?_
                  refine AO.yldG _ (Yld.indexStr Tryd.underlying9 rfl rfl (by omega) hck) rfl rfl rfl rfl rfl ?_
                  refine AO.yldG _ (Yld.int rfl rfl rfl) rfl rfl rfl rfl rfl ?_
                  refine AO.yldG _ (Yld.move rfl) rfl rfl rfl rfl rfl ?_
                  refine AO.splitAt 43 _ rfl (fun s43 => ?_) (fun s43 => ?_)
                  · -- s43 True
                    refine AO.yldG _ (Yld.move rfl) rfl rfl rfl rfl rfl ?_
                    refine AO.yldG _ (Yld.move rfl) rfl rfl rfl rfl rfl ?_
                    refine AO.yldG _ (Yld.indexStr Tryd.underlying9 rfl rfl (by omega) hck) rfl rfl rfl rfl rfl ?_
                    refine AO.yldG _ (Yld.int rfl rfl rfl) rfl rfl rfl rfl rfl ?_
                    refine AO.yldG _ (Yld.pickT rfl rfl) rfl rfl rfl rfl rfl ?_
                    refine AO.yld _ (Yld.pickF rfl rfl) rfl rfl rfl ?_
                    refine AO.yld _ (Yld.not rfl) rfl rfl rfl ?_
                    refine AO.nil ?_
                    refine AC.cond _ rfl (fun c50 => ?_) (fun c50 => ?_)
                    · -- c50 True
                      refine AC.seq ?_
                      refine AC.region ?_
                      refine AO.yld _ (Yld.assign rfl) rfl rfl rfl ?_
                      refine AO.nil ?_
                      refine Pure.ret Tryd.results66 (RVs.cons (RV.tmp rfl) RVs.nil) rfl ?_
                      first
                        | (exact cb (name_nil (by simp at s7; omega)))
                        | (exact cb (name_long (by simp at s12; omega)))
                        | (exact cb (name_first hc (by have h := s17; simp only [decide_eq_true_eq, decide_eq_false_iff_not, Bool.not_eq_true', Bool.not_eq_false', Bool.and_eq_true, Bool.and_eq_false_iff] at h; simp only [lowB, Bool.and_eq_false_iff, decide_eq_false_iff_not]; omega)))
                        | (exact cb (name_first hc (by have h := c21; simp only [decide_eq_true_eq, decide_eq_false_iff_not, Bool.not_eq_true', Bool.not_eq_false', Bool.and_eq_true, Bool.and_eq_false_iff] at h; simp only [lowB, Bool.and_eq_false_iff, decide_eq_false_iff_not]; omega)))
                        | (exact cb (name_ok hc (by simp only [lowB, Bool.and_eq_true, decide_eq_true_eq]; simp only [decide_eq_true_eq, decide_eq_false_iff_not, Bool.not_eq_true', Bool.not_eq_false'] at *; omega) (by simp at s12; omega) hJ.2))
                        | (exact cb (name_bad hck (by simp only [lowB, Bool.and_eq_false_iff, decide_eq_false_iff_not]; simp only [decide_eq_true_eq, decide_eq_false_iff_not, Bool.not_eq_true'] at *; omega) (by simp only [digB, Bool.and_eq_false_iff, decide_eq_false_iff_not]; simp only [decide_eq_true_eq, decide_eq_false_iff_not, Bool.not_eq_true'] at *; omega)))
                    · -- c50 False
                      refine AC.skip ?_
                      refine AC.mark ?_
                      refine AC.region ?_
                      refine AO.yld _ (Yld.move rfl) rfl rfl rfl ?_
                      refine AO.yld _ (Yld.add rfl rfl (by omega) (by omega)) rfl rfl rfl ?_
                      refine AO.yld _ (Yld.assign rfl) rfl rfl rfl ?_
                      refine AO.nil ?_
                      refine AC.back ⟨k + 1, ?_, ?_, ⟨?_, trivial⟩, trivial, ⟨rfl, trivial⟩, trivial⟩
                      · exact ⟨hk, by rw [nameTo_succ hck, hJ.2]; first | (have h : lowB c2 = true := (by simp only [lowB, Bool.and_eq_true, decide_eq_true_eq]; simp only [decide_eq_true_eq, decide_eq_false_iff_not, Bool.not_eq_true', Bool.not_eq_false'] at *; omega); simp [h]) | (have h : digB c2 = true := (by simp only [digB, Bool.and_eq_true, decide_eq_true_eq]; simp only [decide_eq_true_eq, decide_eq_false_iff_not, Bool.not_eq_true', Bool.not_eq_false'] at *; omega); simp [h])⟩
                      · omega
                      · rfl
                  · -- s43 False
                    refine AO.skipT rfl rfl rfl rfl rfl ?_
                    refine AO.skipT rfl rfl rfl rfl rfl ?_
                    refine AO.skipT rfl rfl rfl rfl rfl ?_
                    refine AO.skipT rfl rfl rfl rfl rfl ?_
                    refine AO.yldG _ (Yld.pickF rfl rfl) rfl rfl rfl rfl rfl ?_
                    refine AO.yld _ (Yld.pickF rfl rfl) rfl rfl rfl ?_
                    refine AO.yld _ (Yld.not rfl) rfl rfl rfl ?_
                    refine AO.nil ?_
                    refine AC.condT rfl ?_
                    refine AC.seq ?_
                    refine AC.region ?_
                    refine AO.yld _ (Yld.assign rfl) rfl rfl rfl ?_
                    refine AO.nil ?_
                    refine Pure.ret Tryd.results66 (RVs.cons (RV.tmp rfl) RVs.nil) rfl ?_
                    first
                      | (exact cb (name_nil (by simp at s7; omega)))
                      | (exact cb (name_long (by simp at s12; omega)))
                      | (exact cb (name_first hc (by have h := s17; simp only [decide_eq_true_eq, decide_eq_false_iff_not, Bool.not_eq_true', Bool.not_eq_false', Bool.and_eq_true, Bool.and_eq_false_iff] at h; simp only [lowB, Bool.and_eq_false_iff, decide_eq_false_iff_not]; omega)))
                      | (exact cb (name_first hc (by have h := c21; simp only [decide_eq_true_eq, decide_eq_false_iff_not, Bool.not_eq_true', Bool.not_eq_false', Bool.and_eq_true, Bool.and_eq_false_iff] at h; simp only [lowB, Bool.and_eq_false_iff, decide_eq_false_iff_not]; omega)))
                      | (exact cb (name_ok hc (by simp only [lowB, Bool.and_eq_true, decide_eq_true_eq]; simp only [decide_eq_true_eq, decide_eq_false_iff_not, Bool.not_eq_true', Bool.not_eq_false'] at *; omega) (by simp at s12; omega) hJ.2))
                      | (exact cb (name_bad hck (by simp only [lowB, Bool.and_eq_false_iff, decide_eq_false_iff_not]; simp only [decide_eq_true_eq, decide_eq_false_iff_not, Bool.not_eq_true'] at *; omega) (by simp only [digB, Bool.and_eq_false_iff, decide_eq_false_iff_not]; simp only [decide_eq_true_eq, decide_eq_false_iff_not, Bool.not_eq_true'] at *; omega)))
              · -- s32 False
                refine AO.skipT rfl rfl rfl rfl rfl ?_
                refine AO.skipT rfl rfl rfl rfl rfl ?_
                refine AO.skipT rfl rfl rfl rfl rfl ?_
                refine AO.skipT rfl rfl rfl rfl rfl ?_
                refine AO.yld _ (Yld.pickF rfl rfl) rfl rfl rfl ?_
                refine AO.yld _ (Yld.move rfl) rfl rfl rfl ?_
                refine AO.yldG _ (Yld.move rfl) rfl rfl rfl rfl rfl ?_
                refine AO.yldG _ (Yld.move rfl) rfl rfl rfl rfl rfl ?_
                refine AO.yldG _ (Yld.indexStr Tryd.underlying9 rfl rfl (by omega) hck) rfl rfl rfl rfl rfl ?_
                refine AO.yldG _ (Yld.int rfl rfl rfl) rfl rfl rfl rfl rfl ?_
                refine AO.yldG _ (Yld.move rfl) rfl rfl rfl rfl rfl ?_
                refine AO.splitAt 43 _ rfl (fun s43 => ?_) (fun s43 => ?_)
                · -- s43 True
                  refine AO.yldG _ (Yld.move rfl) rfl rfl rfl rfl rfl ?_
                  refine AO.yldG _ (Yld.move rfl) rfl rfl rfl rfl rfl ?_
                  refine AO.yldG _ (Yld.indexStr Tryd.underlying9 rfl rfl (by omega) hck) rfl rfl rfl rfl rfl ?_
                  refine AO.yldG _ (Yld.int rfl rfl rfl) rfl rfl rfl rfl rfl ?_
                  refine AO.yldG _ (Yld.pickT rfl rfl) rfl rfl rfl rfl rfl ?_
                  refine AO.yld _ (Yld.pickF rfl rfl) rfl rfl rfl ?_
                  refine AO.yld _ (Yld.not rfl) rfl rfl rfl ?_
                  refine AO.nil ?_
                  refine AC.cond _ rfl (fun c50 => ?_) (fun c50 => ?_)
                  · -- c50 True
                    refine AC.seq ?_
                    refine AC.region ?_
                    refine AO.yld _ (Yld.assign rfl) rfl rfl rfl ?_
                    refine AO.nil ?_
                    refine Pure.ret Tryd.results66 (RVs.cons (RV.tmp rfl) RVs.nil) rfl ?_
                    first
                      | (exact cb (name_nil (by simp at s7; omega)))
                      | (exact cb (name_long (by simp at s12; omega)))
                      | (exact cb (name_first hc (by have h := s17; simp only [decide_eq_true_eq, decide_eq_false_iff_not, Bool.not_eq_true', Bool.not_eq_false', Bool.and_eq_true, Bool.and_eq_false_iff] at h; simp only [lowB, Bool.and_eq_false_iff, decide_eq_false_iff_not]; omega)))
                      | (exact cb (name_first hc (by have h := c21; simp only [decide_eq_true_eq, decide_eq_false_iff_not, Bool.not_eq_true', Bool.not_eq_false', Bool.and_eq_true, Bool.and_eq_false_iff] at h; simp only [lowB, Bool.and_eq_false_iff, decide_eq_false_iff_not]; omega)))
                      | (exact cb (name_ok hc (by simp only [lowB, Bool.and_eq_true, decide_eq_true_eq]; simp only [decide_eq_true_eq, decide_eq_false_iff_not, Bool.not_eq_true', Bool.not_eq_false'] at *; omega) (by simp at s12; omega) hJ.2))
                      | (exact cb (name_bad hck (by simp only [lowB, Bool.and_eq_false_iff, decide_eq_false_iff_not]; simp only [decide_eq_true_eq, decide_eq_false_iff_not, Bool.not_eq_true'] at *; omega) (by simp only [digB, Bool.and_eq_false_iff, decide_eq_false_iff_not]; simp only [decide_eq_true_eq, decide_eq_false_iff_not, Bool.not_eq_true'] at *; omega)))
                  · -- c50 False
                    refine AC.skip ?_
                    refine AC.mark ?_
                    refine AC.region ?_
                    refine AO.yld _ (Yld.move rfl) rfl rfl rfl ?_
                    refine AO.yld _ (Yld.add rfl rfl (by omega) (by omega)) rfl rfl rfl ?_
                    refine AO.yld _ (Yld.assign rfl) rfl rfl rfl ?_
                    refine AO.nil ?_
                    refine AC.back ⟨k + 1, ?_, ?_, ⟨?_, trivial⟩, trivial, ⟨rfl, trivial⟩, trivial⟩
                    · exact ⟨hk, by rw [nameTo_succ hck, hJ.2]; first | (have h : lowB c2 = true := (by simp only [lowB, Bool.and_eq_true, decide_eq_true_eq]; simp only [decide_eq_true_eq, decide_eq_false_iff_not, Bool.not_eq_true', Bool.not_eq_false'] at *; omega); simp [h]) | (have h : digB c2 = true := (by simp only [digB, Bool.and_eq_true, decide_eq_true_eq]; simp only [decide_eq_true_eq, decide_eq_false_iff_not, Bool.not_eq_true', Bool.not_eq_false'] at *; omega); simp [h])⟩
                    · omega
                    · rfl
                · -- s43 False
                  refine AO.skipT rfl rfl rfl rfl rfl ?_
                  refine AO.skipT rfl rfl rfl rfl rfl ?_
                  refine AO.skipT rfl rfl rfl rfl rfl ?_
                  refine AO.skipT rfl rfl rfl rfl rfl ?_
                  refine AO.yldG _ (Yld.pickF rfl rfl) rfl rfl rfl rfl rfl ?_
                  refine AO.yld _ (Yld.pickF rfl rfl) rfl rfl rfl ?_
                  refine AO.yld _ (Yld.not rfl) rfl rfl rfl ?_
                  refine AO.nil ?_
                  refine AC.condT rfl ?_
                  refine AC.seq ?_
                  refine AC.region ?_
                  refine AO.yld _ (Yld.assign rfl) rfl rfl rfl ?_
                  refine AO.nil ?_
                  refine Pure.ret Tryd.results66 (RVs.cons (RV.tmp rfl) RVs.nil) rfl ?_
                  first
                    | (exact cb (name_nil (by simp at s7; omega)))
                    | (exact cb (name_long (by simp at s12; omega)))
                    | (exact cb (name_first hc (by have h := s17; simp only [decide_eq_true_eq, decide_eq_false_iff_not, Bool.not_eq_true', Bool.not_eq_false', Bool.and_eq_true, Bool.and_eq_false_iff] at h; simp only [lowB, Bool.and_eq_false_iff, decide_eq_false_iff_not]; omega)))
                    | (exact cb (name_first hc (by have h := c21; simp only [decide_eq_true_eq, decide_eq_false_iff_not, Bool.not_eq_true', Bool.not_eq_false', Bool.and_eq_true, Bool.and_eq_false_iff] at h; simp only [lowB, Bool.and_eq_false_iff, decide_eq_false_iff_not]; omega)))
                    | (exact cb (name_ok hc (by simp only [lowB, Bool.and_eq_true, decide_eq_true_eq]; simp only [decide_eq_true_eq, decide_eq_false_iff_not, Bool.not_eq_true', Bool.not_eq_false'] at *; omega) (by simp at s12; omega) hJ.2))
                    | (exact cb (name_bad hck (by simp only [lowB, Bool.and_eq_false_iff, decide_eq_false_iff_not]; simp only [decide_eq_true_eq, decide_eq_false_iff_not, Bool.not_eq_true'] at *; omega) (by simp only [digB, Bool.and_eq_false_iff, decide_eq_false_iff_not]; simp only [decide_eq_true_eq, decide_eq_false_iff_not, Bool.not_eq_true'] at *; omega)))
            · -- c25 False
              obtain rfl : k = l.length := by have := ge_of_dec c25; omega
              refine AC.exit rfl ?_
              refine AC.seq ?_
              refine AC.region ?_
              refine AO.yld _ (Yld.assign rfl) rfl rfl rfl ?_
              refine AO.nil ?_
              refine Pure.ret Tryd.results66 (RVs.cons (RV.tmp rfl) RVs.nil) rfl ?_
              first
                | (exact cb (name_nil (by simp at s7; omega)))
                | (exact cb (name_long (by simp at s12; omega)))
                | (exact cb (name_first hc (by have h := s17; simp only [decide_eq_true_eq, decide_eq_false_iff_not, Bool.not_eq_true', Bool.not_eq_false', Bool.and_eq_true, Bool.and_eq_false_iff] at h; simp only [lowB, Bool.and_eq_false_iff, decide_eq_false_iff_not]; omega)))
                | (exact cb (name_first hc (by have h := c21; simp only [decide_eq_true_eq, decide_eq_false_iff_not, Bool.not_eq_true', Bool.not_eq_false', Bool.and_eq_true, Bool.and_eq_false_iff] at h; simp only [lowB, Bool.and_eq_false_iff, decide_eq_false_iff_not]; omega)))
                | (exact cb (name_ok hc (by simp only [lowB, Bool.and_eq_true, decide_eq_true_eq]; simp only [decide_eq_true_eq, decide_eq_false_iff_not, Bool.not_eq_true', Bool.not_eq_false'] at *; omega) (by simp at s12; omega) hJ.2))
                | (exact cb (name_bad hck (by simp only [lowB, Bool.and_eq_false_iff, decide_eq_false_iff_not]; simp only [decide_eq_true_eq, decide_eq_false_iff_not, Bool.not_eq_true'] at *; omega) (by simp only [digB, Bool.and_eq_false_iff, decide_eq_false_iff_not]; simp only [decide_eq_true_eq, decide_eq_false_iff_not, Bool.not_eq_true'] at *; omega)))

theorem spec_l26Time_c {n : Int} :
    Pure Tryd.prog 118 [.v (.int .i64 n)] (.v (.bool (decide (0 ≤ n) && decide (n ≤ 1000000000)))) := by
  refine Pure.intro Tryd.func118 rfl Tryd.ntmps118 rfl rfl (fun w => ?_)
  refine AC.seq ?_
  refine AC.region ?_
  refine AO.yld _ (Yld.assign rfl) rfl rfl rfl ?_
  refine AO.nil ?_
  refine AC.seq ?_
  refine AC.region ?_
  refine AO.yld _ (Yld.move rfl) rfl rfl rfl ?_
  refine AO.yld _ (Yld.call rfl rfl Tryd.call89 rfl rfl rfl (spec_l00In_c) rfl) rfl rfl rfl ?_
  refine AO.yld _ (Yld.assign rfl) rfl rfl rfl ?_
  refine AO.nil ?_
  refine Pure.ret Tryd.results118 (RVs.cons (RV.tmp rfl) RVs.nil) rfl ?_
  first | rfl | (simp_all; done) | (simp_all; intros; omega) | grind

theorem impl_ValidSample_c {s o b : Int} :
    Pure Tryd.prog 69 [.agg [.v (.int .i64 s), .v (.int .i64 o), .v (.int .i64 b)]] (.v (.bool (sampleB s o b))) := by
  refine Pure.intro Tryd.func69 rfl Tryd.ntmps69 rfl rfl (fun w => ?_)
  refine AC.seq ?_
  refine AC.region ?_
  refine AO.box 0 rfl rfl rfl rfl rfl ?_
  refine AO.yld _ (Yld.assign rfl) rfl rfl rfl ?_
  refine AO.nil ?_
  refine AC.seq ?_
  refine AC.region ?_
  refine AO.yld _ (Yld.fieldAddr Tryd.underlying69 rfl rfl Tryd.sizeOf2 rfl rfl rfl) rfl rfl rfl ?_
  refine AO.yld _ (Yld.load Tryd.isAgg2 rfl rfl) rfl rfl rfl ?_
  refine AO.yld _ (Yld.call rfl rfl Tryd.call51 rfl rfl rfl (impl_within_c) rfl) rfl rfl rfl ?_
  refine AO.yld _ (Yld.move rfl) rfl rfl rfl ?_
  refine AO.splitAt 6 _ rfl (fun s6 => ?_) (fun s6 => ?_)
  · -- s6 True
    refine AO.yldG _ (Yld.fieldAddr Tryd.underlying69 rfl rfl Tryd.sizeOf2 rfl rfl rfl) rfl rfl rfl rfl rfl ?_
    refine AO.yldG _ (Yld.load Tryd.isAgg2 rfl rfl) rfl rfl rfl rfl rfl ?_
    refine AO.yldG _ (Yld.fieldAddr Tryd.underlying69 rfl rfl Tryd.sizeOf2 rfl rfl rfl) rfl rfl rfl rfl rfl ?_
    refine AO.yldG _ (Yld.load Tryd.isAgg2 rfl rfl) rfl rfl rfl rfl rfl ?_
    refine AO.yldG _ (Yld.call rfl rfl Tryd.call51 rfl rfl rfl (impl_within_c) rfl) rfl rfl rfl rfl rfl ?_
    refine AO.yld _ (Yld.pickT rfl rfl) rfl rfl rfl ?_
    refine AO.yld _ (Yld.move rfl) rfl rfl rfl ?_
    refine AO.splitAt 13 _ rfl (fun s13 => ?_) (fun s13 => ?_)
    · -- s13 True
      refine AO.yldG _ (Yld.fieldAddr Tryd.underlying69 rfl rfl Tryd.sizeOf2 rfl rfl rfl) rfl rfl rfl rfl rfl ?_
      refine AO.yldG _ (Yld.load Tryd.isAgg2 rfl rfl) rfl rfl rfl rfl rfl ?_
      refine AO.yldG _ (Yld.call rfl rfl Tryd.call51 rfl rfl rfl (impl_within_c) rfl) rfl rfl rfl rfl rfl ?_
      refine AO.yld _ (Yld.pickT rfl rfl) rfl rfl rfl ?_
      refine AO.yld _ (Yld.assign rfl) rfl rfl rfl ?_
      refine AO.nil ?_
      refine Pure.ret Tryd.results69 (RVs.cons (RV.tmp rfl) RVs.nil) rfl ?_
      first | rfl | (simp_all [sampleB]; done) | (simp_all [sampleB]; intros; omega) | grind
    · -- s13 False
      refine AO.skipT rfl rfl rfl rfl rfl ?_
      refine AO.skipT rfl rfl rfl rfl rfl ?_
      refine AO.skipT rfl rfl rfl rfl rfl ?_
      refine AO.yld _ (Yld.pickF rfl rfl) rfl rfl rfl ?_
      refine AO.yld _ (Yld.assign rfl) rfl rfl rfl ?_
      refine AO.nil ?_
      refine Pure.ret Tryd.results69 (RVs.cons (RV.tmp rfl) RVs.nil) rfl ?_
      first | rfl | (simp_all [sampleB]; done) | (simp_all [sampleB]; intros; omega) | grind
  · -- s6 False
    refine AO.skipT rfl rfl rfl rfl rfl ?_
    refine AO.skipT rfl rfl rfl rfl rfl ?_
    refine AO.skipT rfl rfl rfl rfl rfl ?_
    refine AO.skipT rfl rfl rfl rfl rfl ?_
    refine AO.skipT rfl rfl rfl rfl rfl ?_
    refine AO.yld _ (Yld.pickF rfl rfl) rfl rfl rfl ?_
    refine AO.yld _ (Yld.move rfl) rfl rfl rfl ?_
    refine AO.skipT rfl rfl rfl rfl rfl ?_
    refine AO.skipT rfl rfl rfl rfl rfl ?_
    refine AO.skipT rfl rfl rfl rfl rfl ?_
    refine AO.yld _ (Yld.pickF rfl rfl) rfl rfl rfl ?_
    refine AO.yld _ (Yld.assign rfl) rfl rfl rfl ?_
    refine AO.nil ?_
    refine Pure.ret Tryd.results69 (RVs.cons (RV.tmp rfl) RVs.nil) rfl ?_
    first | rfl | (simp_all [sampleB]; done) | (simp_all [sampleB]; intros; omega) | grind

theorem spec_l26One_c {x : Mach} (hs : x.name.length ≤ 1048576) :
    Pure Tryd.prog 99 [.ptr (encMach x)] (.v (.bool (okMachine x))) := by
  refine Pure.intro Tryd.func99 rfl Tryd.ntmps99 rfl rfl (fun w => ?_)
  refine AC.seq ?_
  refine AC.region ?_
  refine AO.yld _ (Yld.assign rfl) rfl rfl rfl ?_
  refine AO.nil ?_
  refine AC.seq ?_
  refine AC.region ?_
  refine AO.yld _ (Yld.move rfl) rfl rfl rfl ?_
  refine AO.yld _ (Yld.nilCheck rfl rfl) rfl rfl rfl ?_
  refine AO.yld _ (Yld.fieldAddr Tryd.underlying58 rfl rfl Tryd.sizeOf9 rfl rfl rfl) rfl rfl rfl ?_
  refine AO.yld _ (Yld.load Tryd.isAgg9 rfl rfl) rfl rfl rfl ?_
  refine AO.yld _ (Yld.call rfl rfl Tryd.call117 rfl rfl rfl (spec_l01Name_c (by first | assumption | omega)) rfl) rfl rfl rfl ?_
  refine AO.yld _ (Yld.move rfl) rfl rfl rfl ?_
  refine AO.splitAt 8 _ rfl (fun s8 => ?_) (fun s8 => ?_)
  · -- s8 True
    refine AO.yldG _ (Yld.move rfl) rfl rfl rfl rfl rfl ?_
    refine AO.yldG _ (Yld.nilCheck rfl rfl) rfl rfl rfl rfl rfl ?_
    refine AO.yldG _ (Yld.fieldAddr Tryd.underlying58 rfl rfl Tryd.sizeOf2 rfl rfl rfl) rfl rfl rfl rfl rfl ?_
    refine AO.yldG _ (Yld.load Tryd.isAgg2 rfl rfl) rfl rfl rfl rfl rfl ?_
    refine AO.yldG _ (Yld.call rfl rfl Tryd.call89 rfl rfl rfl (spec_l00In_c) rfl) rfl rfl rfl rfl rfl ?_
    refine AO.yld _ (Yld.pickT rfl rfl) rfl rfl rfl ?_
    refine AO.yld _ (Yld.move rfl) rfl rfl rfl ?_
    refine AO.splitAt 15 _ rfl (fun s15 => ?_) (fun s15 => ?_)
    · -- s15 True
      refine AO.yldG _ (Yld.move rfl) rfl rfl rfl rfl rfl ?_
      refine AO.yldG _ (Yld.nilCheck rfl rfl) rfl rfl rfl rfl rfl ?_
      refine AO.yldG _ (Yld.fieldAddr Tryd.underlying58 rfl rfl Tryd.sizeOf2 rfl rfl rfl) rfl rfl rfl rfl rfl ?_
      refine AO.yldG _ (Yld.load Tryd.isAgg2 rfl rfl) rfl rfl rfl rfl rfl ?_
      refine AO.yldG _ (Yld.call rfl rfl Tryd.call118 rfl rfl rfl (spec_l26Time_c) rfl) rfl rfl rfl rfl rfl ?_
      refine AO.yld _ (Yld.pickT rfl rfl) rfl rfl rfl ?_
      refine AO.yld _ (Yld.assign rfl) rfl rfl rfl ?_
      refine AO.nil ?_
      refine Pure.ret Tryd.results99 (RVs.cons (RV.tmp rfl) RVs.nil) rfl ?_
      first | rfl | (simp_all [okMachine]; done) | (simp_all [okMachine]; intros; omega) | grind [okMachine]
    · -- s15 False
      refine AO.skipT rfl rfl rfl rfl rfl ?_
      refine AO.skipT rfl rfl rfl rfl rfl ?_
      refine AO.skipT rfl rfl rfl rfl rfl ?_
      refine AO.skipT rfl rfl rfl rfl rfl ?_
      refine AO.skipT rfl rfl rfl rfl rfl ?_
      refine AO.yld _ (Yld.pickF rfl rfl) rfl rfl rfl ?_
      refine AO.yld _ (Yld.assign rfl) rfl rfl rfl ?_
      refine AO.nil ?_
      refine Pure.ret Tryd.results99 (RVs.cons (RV.tmp rfl) RVs.nil) rfl ?_
      first | rfl | (simp_all [okMachine]; done) | (simp_all [okMachine]; intros; omega) | grind [okMachine]
  · -- s8 False
    refine AO.skipT rfl rfl rfl rfl rfl ?_
    refine AO.skipT rfl rfl rfl rfl rfl ?_
    refine AO.skipT rfl rfl rfl rfl rfl ?_
    refine AO.skipT rfl rfl rfl rfl rfl ?_
    refine AO.skipT rfl rfl rfl rfl rfl ?_
    refine AO.yld _ (Yld.pickF rfl rfl) rfl rfl rfl ?_
    refine AO.yld _ (Yld.move rfl) rfl rfl rfl ?_
    refine AO.skipT rfl rfl rfl rfl rfl ?_
    refine AO.skipT rfl rfl rfl rfl rfl ?_
    refine AO.skipT rfl rfl rfl rfl rfl ?_
    refine AO.skipT rfl rfl rfl rfl rfl ?_
    refine AO.skipT rfl rfl rfl rfl rfl ?_
    refine AO.yld _ (Yld.pickF rfl rfl) rfl rfl rfl ?_
    refine AO.yld _ (Yld.assign rfl) rfl rfl rfl ?_
    refine AO.nil ?_
    refine Pure.ret Tryd.results99 (RVs.cons (RV.tmp rfl) RVs.nil) rfl ?_
    first | rfl | (simp_all [okMachine]; done) | (simp_all [okMachine]; intros; omega) | grind [okMachine]

theorem impl_validMachine_c {x : Mach} (hs : x.name.length ≤ 1048576) :
    Pure Tryd.prog 74 [.agg (encMach x)] (.v (.bool (okMachine x))) := by
  refine Pure.intro Tryd.func74 rfl Tryd.ntmps74 rfl rfl (fun w => ?_)
  refine AC.seq ?_
  refine AC.region ?_
  refine AO.box 0 rfl rfl rfl rfl rfl ?_
  refine AO.yld _ (Yld.assign rfl) rfl rfl rfl ?_
  refine AO.nil ?_
  refine AC.seq ?_
  refine AC.region ?_
  refine AO.yld _ (Yld.fieldAddr Tryd.underlying58 rfl rfl Tryd.sizeOf9 rfl rfl rfl) rfl rfl rfl ?_
  refine AO.yld _ (Yld.load Tryd.isAgg9 rfl rfl) rfl rfl rfl ?_
  refine AO.yld _ (Yld.call rfl rfl Tryd.call66 rfl rfl rfl (impl_IsName_c (by first | assumption | omega)) rfl) rfl rfl rfl ?_
  refine AO.yld _ (Yld.move rfl) rfl rfl rfl ?_
  refine AO.splitAt 6 _ rfl (fun s6 => ?_) (fun s6 => ?_)
  · -- s6 True
    refine AO.yldG _ (Yld.fieldAddr Tryd.underlying58 rfl rfl Tryd.sizeOf2 rfl rfl rfl) rfl rfl rfl rfl rfl ?_
    refine AO.yldG _ (Yld.load Tryd.isAgg2 rfl rfl) rfl rfl rfl rfl rfl ?_
    refine AO.yldG _ (Yld.call rfl rfl Tryd.call51 rfl rfl rfl (impl_within_c) rfl) rfl rfl rfl rfl rfl ?_
    refine AO.yld _ (Yld.pickT rfl rfl) rfl rfl rfl ?_
    refine AO.yld _ (Yld.move rfl) rfl rfl rfl ?_
    refine AO.splitAt 11 _ rfl (fun s11 => ?_) (fun s11 => ?_)
    · -- s11 True
      refine AO.yldG _ (Yld.fieldAddr Tryd.underlying58 rfl rfl Tryd.sizeOf2 rfl rfl rfl) rfl rfl rfl rfl rfl ?_
      refine AO.yldG _ (Yld.load Tryd.isAgg2 rfl rfl) rfl rfl rfl rfl rfl ?_
      refine AO.yldG _ (Yld.call rfl rfl Tryd.call51 rfl rfl rfl (impl_within_c) rfl) rfl rfl rfl rfl rfl ?_
      refine AO.yld _ (Yld.pickT rfl rfl) rfl rfl rfl ?_
      refine AO.yld _ (Yld.assign rfl) rfl rfl rfl ?_
      refine AO.nil ?_
      refine Pure.ret Tryd.results74 (RVs.cons (RV.tmp rfl) RVs.nil) rfl ?_
      first | rfl | (simp_all [okMachine]; done) | (simp_all [okMachine]; intros; omega) | grind [okMachine]
    · -- s11 False
      refine AO.skipT rfl rfl rfl rfl rfl ?_
      refine AO.skipT rfl rfl rfl rfl rfl ?_
      refine AO.skipT rfl rfl rfl rfl rfl ?_
      refine AO.yld _ (Yld.pickF rfl rfl) rfl rfl rfl ?_
      refine AO.yld _ (Yld.assign rfl) rfl rfl rfl ?_
      refine AO.nil ?_
      refine Pure.ret Tryd.results74 (RVs.cons (RV.tmp rfl) RVs.nil) rfl ?_
      first | rfl | (simp_all [okMachine]; done) | (simp_all [okMachine]; intros; omega) | grind [okMachine]
  · -- s6 False
    refine AO.skipT rfl rfl rfl rfl rfl ?_
    refine AO.skipT rfl rfl rfl rfl rfl ?_
    refine AO.skipT rfl rfl rfl rfl rfl ?_
    refine AO.yld _ (Yld.pickF rfl rfl) rfl rfl rfl ?_
    refine AO.yld _ (Yld.move rfl) rfl rfl rfl ?_
    refine AO.skipT rfl rfl rfl rfl rfl ?_
    refine AO.skipT rfl rfl rfl rfl rfl ?_
    refine AO.skipT rfl rfl rfl rfl rfl ?_
    refine AO.yld _ (Yld.pickF rfl rfl) rfl rfl rfl ?_
    refine AO.yld _ (Yld.assign rfl) rfl rfl rfl ?_
    refine AO.nil ?_
    refine Pure.ret Tryd.results74 (RVs.cons (RV.tmp rfl) RVs.nil) rfl ?_
    first | rfl | (simp_all [okMachine]; done) | (simp_all [okMachine]; intros; omega) | grind [okMachine]

theorem spec_l26Ok_c {xs : List Mach} (hn : xs.length ≤ 1048576) (hs : ∀ x ∈ xs, x.name.length ≤ 1048576) :
    Pure Tryd.prog 70 [.sl 3 (xs.map encMach)] (.v (.bool (okMachines xs))) := by
  refine Pure.intro Tryd.func70 rfl Tryd.ntmps70 rfl rfl (fun w => ?_)
  refine AC.seq ?_
  refine AC.region ?_
  refine AO.yld _ (Yld.assign rfl) rfl rfl rfl ?_
  refine AO.nil ?_
  refine AC.seq ?_
  refine AC.seq ?_
  refine AC.region ?_
  refine AO.yld _ (Yld.assign rfl) rfl rfl rfl ?_
  refine AO.nil ?_
  refine AC.block ?_
  refine AC.loopC [(0, _)] [] (fun (k : Nat) => [(3, .p (.v (.int .i64 (k : Int))))]) (fun (k : Nat) => []) (fun (k : Nat) => k ≤ xs.length ∧ okTo okMachine geMachine xs k = true) (fun (k : Nat) => xs.length - k) 0 ⟨rfl, trivial⟩ trivial ⟨rfl, trivial⟩ trivial ?_ (fun k hJ => ?_)
  · exact ⟨Nat.zero_le _, rfl⟩
  · -- round
    refine AC.seq ?_
    refine AC.seq ?_
    refine AC.region ?_
    refine AO.yld _ (Yld.move rfl) rfl rfl rfl ?_
    refine AO.yld _ (Yld.move rfl) rfl rfl rfl ?_
    refine AO.yld _ (Yld.len Tryd.underlying51 rfl rfl) rfl rfl rfl ?_
    refine AO.yld _ (Yld.int rfl rfl rfl) rfl rfl rfl ?_
    refine AO.nil ?_
    refine AC.cond _ rfl (fun c7 => ?_) (fun c7 => ?_)
    · -- c7 True
      have hk := lt_of_decM c7
      obtain ⟨x, hx⟩ := get_some hk
      have hrow := map_row (enc := encMach) hx
      have hsx := hs x (List.mem_of_getElem? hx)
      refine AC.skip ?_
      refine AC.seq ?_
      refine AC.block ?_
      refine AC.seq ?_
      refine AC.draw (by kernel_rfl) (by kernel_rfl) ?_
      refine AO.yld _ (Yld.move rfl) rfl rfl rfl ?_
      refine AO.yld _ (Yld.move rfl) rfl rfl rfl ?_
      refine AO.yld _ (Yld.indexSl Tryd.underlying51 Tryd.sizeOf58 rfl rfl hrow rfl) rfl rfl rfl ?_
      refine AO.yld _ (Yld.call rfl rfl Tryd.call99 rfl rfl rfl (spec_l26One_c (by first | assumption | omega)) rfl) rfl rfl rfl ?_
      refine AO.yld _ (Yld.not rfl) rfl rfl rfl ?_
      refine AO.yld _ (Yld.move rfl) rfl rfl rfl ?_
      refine AO.splitAt 15 _ rfl (fun s15 => ?_) (fun s15 => ?_)
      · -- s15 True
        refine AO.skipF rfl rfl rfl rfl rfl ?_
        refine AO.skipF rfl rfl rfl rfl rfl ?_
        refine AO.skipF rfl rfl rfl rfl rfl ?_
        refine AO.skipU rfl rfl rfl rfl rfl ?_
        refine AO.skipU rfl rfl rfl rfl rfl ?_
        refine AO.skipU rfl rfl rfl rfl rfl ?_
        refine AO.skipU rfl rfl rfl rfl rfl ?_
        refine AO.skipU rfl rfl rfl rfl rfl ?_
        refine AO.skipU rfl rfl rfl rfl rfl ?_
        refine AO.skipU rfl rfl rfl rfl rfl ?_
        refine AO.skipU rfl rfl rfl rfl rfl ?_
        refine AO.skipU rfl rfl rfl rfl rfl ?_
        refine AO.skipU rfl rfl rfl rfl rfl ?_
        refine AO.skipU rfl rfl rfl rfl rfl ?_
        refine AO.skipU rfl rfl rfl rfl rfl ?_
        refine AO.skipF rfl rfl rfl rfl rfl ?_
        refine AO.yld _ (Yld.pickT rfl rfl) rfl rfl rfl ?_
        refine AO.nil ?_
        refine AC.condT rfl ?_
        refine AC.seq ?_
        refine AC.region ?_
        refine AO.yld _ (Yld.assign rfl) rfl rfl rfl ?_
        refine AO.nil ?_
        refine Pure.ret Tryd.results70 (RVs.cons (RV.tmp rfl) RVs.nil) rfl ?_
        first
          | (exact cb (by unfold okMachines; rw [ok_one (one := okMachine) (ge := geMachine) hx (by simpa using s15)]; simp))
          | (exact cb (by unfold okMachines; rw [ok_ge (one := okMachine) (ge := geMachine) hx hk0 hy c32]; simp))
          | (exact cb (by rw [okMachines, ok_all hJ.2]; grind))
          | (exact cb (by unfold okMachines; grind))
          | (exact cb (by simp_all [okMachines]))
      · -- s15 False
        refine AO.yldG _ (Yld.move rfl) rfl rfl rfl rfl rfl ?_
        refine AO.yldG _ (Yld.int rfl rfl rfl) rfl rfl rfl rfl rfl ?_
        refine AO.yldG _ (Yld.move rfl) rfl rfl rfl rfl rfl ?_
        refine AO.splitAt 18 _ rfl (fun s18 => ?_) (fun s18 => ?_)
        · -- s18 True
          have hk0 : 0 < k := by simpa using s18
          obtain ⟨y, hy⟩ := get_some (xs := xs) (k := k - 1) (by omega)
          have hrow2 := map_row (enc := encMach) hy
          refine AO.yldG _ (Yld.move rfl) rfl rfl rfl rfl rfl ?_
          refine AO.yldG _ (Yld.move rfl) rfl rfl rfl rfl rfl ?_
          refine AO.yldG _ (Yld.sub rfl rfl (by omega) (by omega)) rfl rfl rfl rfl rfl ?_
          refine AO.yldG _ (Yld.indexSl Tryd.underlying51 Tryd.sizeOf58 rfl rfl hrow2 (by omega)) rfl rfl rfl rfl rfl ?_
          refine AO.yldG _ (Yld.fieldAddr Tryd.underlying58 rfl rfl Tryd.sizeOf9 rfl rfl rfl) rfl rfl rfl rfl rfl ?_
          refine AO.yldG _ (Yld.load Tryd.isAgg9 rfl rfl) rfl rfl rfl rfl rfl ?_
          refine AO.yldG _ (Yld.move rfl) rfl rfl rfl rfl rfl ?_
          refine AO.yldG _ (Yld.move rfl) rfl rfl rfl rfl rfl ?_
          refine AO.yldG _ (Yld.indexSl Tryd.underlying51 Tryd.sizeOf58 rfl rfl hrow rfl) rfl rfl rfl rfl rfl ?_
          refine AO.yldG _ (Yld.fieldAddr Tryd.underlying58 rfl rfl Tryd.sizeOf9 rfl rfl rfl) rfl rfl rfl rfl rfl ?_
          refine AO.yldG _ (Yld.load Tryd.isAgg9 rfl rfl) rfl rfl rfl rfl rfl ?_
          refine AO.yldG _ (Yld.cmpStr rfl rfl rfl) rfl rfl rfl rfl rfl ?_
          refine AO.yldG _ (Yld.pickT rfl rfl) rfl rfl rfl rfl rfl ?_
          refine AO.yld _ (Yld.pickF rfl rfl) rfl rfl rfl ?_
          refine AO.nil ?_
          refine AC.cond _ rfl (fun c32 => ?_) (fun c32 => ?_)
          · -- c32 True
            refine AC.seq ?_
            refine AC.region ?_
            refine AO.yld _ (Yld.assign rfl) rfl rfl rfl ?_
            refine AO.nil ?_
            refine Pure.ret Tryd.results70 (RVs.cons (RV.tmp rfl) RVs.nil) rfl ?_
            first
              | (exact cb (by unfold okMachines; rw [ok_one (one := okMachine) (ge := geMachine) hx (by simpa using s15)]; simp))
              | (exact cb (by unfold okMachines; rw [ok_ge (one := okMachine) (ge := geMachine) hx hk0 hy c32]; simp))
              | (exact cb (by rw [okMachines, ok_all hJ.2]; grind))
              | (exact cb (by unfold okMachines; grind))
              | (exact cb (by simp_all [okMachines]))
          · -- c32 False
            refine AC.skip ?_
            refine AC.mark ?_
            refine AC.region ?_
            refine AO.yld _ (Yld.move rfl) rfl rfl rfl ?_
            refine AO.yld _ (Yld.add rfl rfl (by omega) (by omega)) rfl rfl rfl ?_
            refine AO.yld _ (Yld.assign rfl) rfl rfl rfl ?_
            refine AO.nil ?_
            refine AC.back ⟨k + 1, ?_, ?_, ⟨?_, trivial⟩, trivial, ⟨rfl, trivial⟩, trivial⟩
            · exact ⟨hk, by first | exact ok_first hJ.2 hx (by simpa using s15) (by simp at s18; omega) | exact ok_next hJ.2 hx (by simpa using s15) hk0 hy c32⟩
            · omega
            · rfl
        · -- s18 False
          refine AO.skipT rfl rfl rfl rfl rfl ?_
          refine AO.skipT rfl rfl rfl rfl rfl ?_
          refine AO.skipT rfl rfl rfl rfl rfl ?_
          refine AO.skipT rfl rfl rfl rfl rfl ?_
          refine AO.skipT rfl rfl rfl rfl rfl ?_
          refine AO.skipT rfl rfl rfl rfl rfl ?_
          refine AO.skipT rfl rfl rfl rfl rfl ?_
          refine AO.skipT rfl rfl rfl rfl rfl ?_
          refine AO.skipT rfl rfl rfl rfl rfl ?_
          refine AO.skipT rfl rfl rfl rfl rfl ?_
          refine AO.skipT rfl rfl rfl rfl rfl ?_
          refine AO.skipT rfl rfl rfl rfl rfl ?_
          refine AO.yldG _ (Yld.pickF rfl rfl) rfl rfl rfl rfl rfl ?_
          refine AO.yld _ (Yld.pickF rfl rfl) rfl rfl rfl ?_
          refine AO.nil ?_
          refine AC.condF rfl ?_
          refine AC.skip ?_
          refine AC.mark ?_
          refine AC.region ?_
          refine AO.yld _ (Yld.move rfl) rfl rfl rfl ?_
          refine AO.yld _ (Yld.add rfl rfl (by omega) (by omega)) rfl rfl rfl ?_
          refine AO.yld _ (Yld.assign rfl) rfl rfl rfl ?_
          refine AO.nil ?_
          refine AC.back ⟨k + 1, ?_, ?_, ⟨?_, trivial⟩, trivial, ⟨rfl, trivial⟩, trivial⟩
          · exact ⟨hk, by first | exact ok_first hJ.2 hx (by simpa using s15) (by simp at s18; omega) | exact ok_next hJ.2 hx (by simpa using s15) hk0 hy c32⟩
          · omega
          · rfl
    · -- c7 False
      obtain rfl : k = xs.length := by have := ge_of_decM c7; omega
      refine AC.exit rfl ?_
      refine AC.seq ?_
      refine AC.region ?_
      refine AO.yld _ (Yld.move rfl) rfl rfl rfl ?_
      refine AO.yld _ (Yld.len Tryd.underlying51 rfl rfl) rfl rfl rfl ?_
      refine AO.yld _ (Yld.int rfl rfl rfl) rfl rfl rfl ?_
      refine AO.yld _ (Yld.assign rfl) rfl rfl rfl ?_
      refine AO.nil ?_
      refine Pure.ret Tryd.results70 (RVs.cons (RV.tmp rfl) RVs.nil) rfl ?_
      first
        | (exact cb (by unfold okMachines; rw [ok_one (one := okMachine) (ge := geMachine) hx (by simpa using s15)]; simp))
        | (exact cb (by unfold okMachines; rw [ok_ge (one := okMachine) (ge := geMachine) hx hk0 hy c32]; simp))
        | (exact cb (by rw [okMachines, ok_all hJ.2]; grind))
        | (exact cb (by unfold okMachines; grind))
        | (exact cb (by simp_all [okMachines]))

theorem impl_ValidMachines_c {xs : List Mach} (hn : xs.length ≤ 1048576) (hs : ∀ x ∈ xs, x.name.length ≤ 1048576) :
    Pure Tryd.prog 96 [.sl 3 (xs.map encMach)] (.v (.bool (okMachines xs))) := by
  refine Pure.intro Tryd.func96 rfl Tryd.ntmps96 rfl rfl (fun w => ?_)
  refine AC.seq ?_
  refine AC.region ?_
  refine AO.yld _ (Yld.assign rfl) rfl rfl rfl ?_
  refine AO.nil ?_
  refine AC.seq ?_
  refine AC.seq ?_
  refine AC.region ?_
  refine AO.yld _ (Yld.move rfl) rfl rfl rfl ?_
  refine AO.yld _ (Yld.len Tryd.underlying51 rfl rfl) rfl rfl rfl ?_
  refine AO.yld _ (Yld.int rfl rfl rfl) rfl rfl rfl ?_
  refine AO.nil ?_
  refine AC.cond _ rfl (fun c7 => ?_) (fun c7 => ?_)
  · -- c7 True
    refine AC.seq ?_
    refine AC.region ?_
    refine AO.yld _ (Yld.assign rfl) rfl rfl rfl ?_
    refine AO.nil ?_
    refine Pure.ret Tryd.results96 (RVs.cons (RV.tmp rfl) RVs.nil) rfl ?_
    first
      | (exact cb (by unfold okMachines; rw [ok_one (one := okMachine) (ge := geMachine) hx (by simpa using s18)]; simp))
      | (exact cb (by unfold okMachines; rw [ok_ge (one := okMachine) (ge := geMachine) hx hk0 hy c32]; simp))
      | (exact cb (by rw [okMachines, ok_all hJ.2]; grind))
      | (exact cb (by unfold okMachines; grind))
      | (exact cb (by simp_all [okMachines]))
  · -- c7 False
    refine AC.skip ?_
    refine AC.seq ?_
    refine AC.seq ?_
    refine AC.region ?_
    refine AO.yld _ (Yld.move rfl) rfl rfl rfl ?_
    refine AO.yld _ (Yld.len Tryd.underlying51 rfl rfl) rfl rfl rfl ?_
    refine AO.yld _ (Yld.move rfl) rfl rfl rfl ?_
    refine AO.nil ?_
    refine AC.block ?_
    refine AC.loopC [(0, _), (8, _), (9, _)] [] (fun (k : Nat) => [(10, .p (.v (.int .i64 (k : Int))))]) (fun (k : Nat) => []) (fun (k : Nat) => k ≤ xs.length ∧ okTo okMachine geMachine xs k = true) (fun (k : Nat) => xs.length - k) 0 ⟨rfl, rfl, rfl, trivial⟩ trivial ⟨rfl, trivial⟩ trivial ?_ (fun k hJ => ?_)
    · exact ⟨Nat.zero_le _, rfl⟩
    · -- round
      refine AC.seq ?_
      refine AC.region ?_
      refine AO.yld _ (Yld.int rfl rfl rfl) rfl rfl rfl ?_
      refine AO.nil ?_
      refine AC.seq ?_
      refine AC.cond _ rfl (fun c11 => ?_) (fun c11 => ?_)
      · -- c11 True
        have hk := lt_of_decM c11
        obtain ⟨x, hx⟩ := get_some hk
        have hrow := map_row (enc := encMach) hx
        have hsx := hs x (List.mem_of_getElem? hx)
        refine AC.skip ?_
        refine AC.seq ?_
        refine AC.block ?_
        refine AC.seq ?_
        refine AC.region ?_
        refine AO.yld _ (Yld.move rfl) rfl rfl rfl ?_
        refine AO.yld _ (Yld.indexSl Tryd.underlying51 Tryd.sizeOf58 rfl rfl hrow rfl) rfl rfl rfl ?_
        refine AO.yld _ (Yld.loadAgg Tryd.isAgg58 Tryd.sizeOf58 rfl rfl rfl rfl) rfl rfl rfl ?_
        refine AO.alloc 0 Tryd.zeroValue58 rfl rfl rfl ?_
        refine AO.yld _ (Yld.assign rfl) rfl rfl rfl ?_
        refine AO.store Tryd.sizeOf58 rfl rfl rfl rfl rfl rfl ?_
        refine AO.nil ?_
        refine AC.seq ?_
        refine AC.draw (by kernel_rfl) (by kernel_rfl) ?_
        refine AO.yld _ (Yld.loadAgg Tryd.isAgg58 Tryd.sizeOf58 rfl rfl rfl rfl) rfl rfl rfl ?_
        refine AO.yld _ (Yld.call rfl rfl Tryd.call74 rfl rfl rfl (impl_validMachine_c (by first | assumption | omega)) rfl) rfl rfl rfl ?_
        refine AO.yld _ (Yld.not rfl) rfl rfl rfl ?_
        refine AO.yld _ (Yld.move rfl) rfl rfl rfl ?_
        refine AO.splitAt 18 _ rfl (fun s18 => ?_) (fun s18 => ?_)
        · -- s18 True
          refine AO.skipF rfl rfl rfl rfl rfl ?_
          refine AO.skipF rfl rfl rfl rfl rfl ?_
          refine AO.skipF rfl rfl rfl rfl rfl ?_
          refine AO.skipU rfl rfl rfl rfl rfl ?_
          refine AO.skipU rfl rfl rfl rfl rfl ?_
          refine AO.skipU rfl rfl rfl rfl rfl ?_
          refine AO.skipU rfl rfl rfl rfl rfl ?_
          refine AO.skipU rfl rfl rfl rfl rfl ?_
          refine AO.skipU rfl rfl rfl rfl rfl ?_
          refine AO.skipU rfl rfl rfl rfl rfl ?_
          refine AO.skipU rfl rfl rfl rfl rfl ?_
          refine AO.skipU rfl rfl rfl rfl rfl ?_
          refine AO.skipF rfl rfl rfl rfl rfl ?_
          refine AO.yld _ (Yld.pickT rfl rfl) rfl rfl rfl ?_
          refine AO.nil ?_
          refine AC.condT rfl ?_
          refine AC.seq ?_
          refine AC.region ?_
          refine AO.yld _ (Yld.assign rfl) rfl rfl rfl ?_
          refine AO.nil ?_
          refine Pure.ret Tryd.results96 (RVs.cons (RV.tmp rfl) RVs.nil) rfl ?_
          first
            | (exact cb (by unfold okMachines; rw [ok_one (one := okMachine) (ge := geMachine) hx (by simpa using s18)]; simp))
            | (exact cb (by unfold okMachines; rw [ok_ge (one := okMachine) (ge := geMachine) hx hk0 hy c32]; simp))
            | (exact cb (by rw [okMachines, ok_all hJ.2]; grind))
            | (exact cb (by unfold okMachines; grind))
            | (exact cb (by simp_all [okMachines]))
        · -- s18 False
          refine AO.yldG _ (Yld.move rfl) rfl rfl rfl rfl rfl ?_
          refine AO.yldG _ (Yld.int rfl rfl rfl) rfl rfl rfl rfl rfl ?_
          refine AO.yldG _ (Yld.move rfl) rfl rfl rfl rfl rfl ?_
          refine AO.splitAt 21 _ rfl (fun s21 => ?_) (fun s21 => ?_)
          · -- s21 True
            have hk0 : 0 < k := by simpa using s21
            obtain ⟨y, hy⟩ := get_some (xs := xs) (k := k - 1) (by omega)
            have hrow2 := map_row (enc := encMach) hy
            refine AO.yldG _ (Yld.move rfl) rfl rfl rfl rfl rfl ?_
            refine AO.yldG _ (Yld.move rfl) rfl rfl rfl rfl rfl ?_
            refine AO.yldG _ (Yld.sub rfl rfl (by omega) (by omega)) rfl rfl rfl rfl rfl ?_
            refine AO.yldG _ (Yld.indexSl Tryd.underlying51 Tryd.sizeOf58 rfl rfl hrow2 (by omega)) rfl rfl rfl rfl rfl ?_
            refine AO.yldG _ (Yld.fieldAddr Tryd.underlying58 rfl rfl Tryd.sizeOf9 rfl rfl rfl) rfl rfl rfl rfl rfl ?_
            refine AO.yldG _ (Yld.load Tryd.isAgg9 rfl rfl) rfl rfl rfl rfl rfl ?_
            refine AO.yldG _ (Yld.fieldAddr Tryd.underlying58 rfl rfl Tryd.sizeOf9 rfl rfl rfl) rfl rfl rfl rfl rfl ?_
            refine AO.yldG _ (Yld.load Tryd.isAgg9 rfl rfl) rfl rfl rfl rfl rfl ?_
            refine AO.yldG _ (Yld.cmpStr rfl rfl rfl) rfl rfl rfl rfl rfl ?_
            refine AO.yldG _ (Yld.pickT rfl rfl) rfl rfl rfl rfl rfl ?_
            refine AO.yld _ (Yld.pickF rfl rfl) rfl rfl rfl ?_
            refine AO.nil ?_
            refine AC.cond _ rfl (fun c32 => ?_) (fun c32 => ?_)
            · -- c32 True
              refine AC.seq ?_
              refine AC.region ?_
              refine AO.yld _ (Yld.assign rfl) rfl rfl rfl ?_
              refine AO.nil ?_
              refine Pure.ret Tryd.results96 (RVs.cons (RV.tmp rfl) RVs.nil) rfl ?_
              first
                | (exact cb (by unfold okMachines; rw [ok_one (one := okMachine) (ge := geMachine) hx (by simpa using s18)]; simp))
                | (exact cb (by unfold okMachines; rw [ok_ge (one := okMachine) (ge := geMachine) hx hk0 hy c32]; simp))
                | (exact cb (by rw [okMachines, ok_all hJ.2]; grind))
                | (exact cb (by unfold okMachines; grind))
                | (exact cb (by simp_all [okMachines]))
            · -- c32 False
              refine AC.skip ?_
              refine AC.mark ?_
              refine AC.region ?_
              refine AO.yld _ (Yld.add rfl rfl (by omega) (by omega)) rfl rfl rfl ?_
              refine AO.yld _ (Yld.move rfl) rfl rfl rfl ?_
              refine AO.nil ?_
              refine AC.back ⟨k + 1, ?_, ?_, ⟨?_, trivial⟩, trivial, ⟨rfl, rfl, rfl, trivial⟩, trivial⟩
              · exact ⟨hk, by first | exact ok_first hJ.2 hx (by simpa using s18) (by simp at s21; omega) | exact ok_next hJ.2 hx (by simpa using s18) hk0 hy c32⟩
              · omega
              · rfl
          · -- s21 False
            refine AO.skipT rfl rfl rfl rfl rfl ?_
            refine AO.skipT rfl rfl rfl rfl rfl ?_
            refine AO.skipT rfl rfl rfl rfl rfl ?_
            refine AO.skipT rfl rfl rfl rfl rfl ?_
            refine AO.skipT rfl rfl rfl rfl rfl ?_
            refine AO.skipT rfl rfl rfl rfl rfl ?_
            refine AO.skipT rfl rfl rfl rfl rfl ?_
            refine AO.skipT rfl rfl rfl rfl rfl ?_
            refine AO.skipT rfl rfl rfl rfl rfl ?_
            refine AO.yldG _ (Yld.pickF rfl rfl) rfl rfl rfl rfl rfl ?_
            refine AO.yld _ (Yld.pickF rfl rfl) rfl rfl rfl ?_
            refine AO.nil ?_
            refine AC.condF rfl ?_
            refine AC.skip ?_
            refine AC.mark ?_
            refine AC.region ?_
            refine AO.yld _ (Yld.add rfl rfl (by omega) (by omega)) rfl rfl rfl ?_
            refine AO.yld _ (Yld.move rfl) rfl rfl rfl ?_
            refine AO.nil ?_
            refine AC.back ⟨k + 1, ?_, ?_, ⟨?_, trivial⟩, trivial, ⟨rfl, rfl, rfl, trivial⟩, trivial⟩
            · exact ⟨hk, by first | exact ok_first hJ.2 hx (by simpa using s18) (by simp at s21; omega) | exact ok_next hJ.2 hx (by simpa using s18) hk0 hy c32⟩
            · omega
            · rfl
      · -- c11 False
        obtain rfl : k = xs.length := by have := ge_of_decM c11; omega
        refine AC.exit rfl ?_
        refine AC.seq ?_
        refine AC.region ?_
        refine AO.yld _ (Yld.assign rfl) rfl rfl rfl ?_
        refine AO.nil ?_
        refine Pure.ret Tryd.results96 (RVs.cons (RV.tmp rfl) RVs.nil) rfl ?_
        first
          | (exact cb (by unfold okMachines; rw [ok_one (one := okMachine) (ge := geMachine) hx (by simpa using s18)]; simp))
          | (exact cb (by unfold okMachines; rw [ok_ge (one := okMachine) (ge := geMachine) hx hk0 hy c32]; simp))
          | (exact cb (by rw [okMachines, ok_all hJ.2]; grind))
          | (exact cb (by unfold okMachines; grind))
          | (exact cb (by simp_all [okMachines]))

theorem spec_l27Setting_c {x : NV} (hs : x.name.length ≤ 1048576) :
    Pure Tryd.prog 116 [.ptr (encNV x)] (.v (.bool (okSetting x))) := by
  refine Pure.intro Tryd.func116 rfl Tryd.ntmps116 rfl rfl (fun w => ?_)
  refine AC.seq ?_
  refine AC.region ?_
  refine AO.yld _ (Yld.assign rfl) rfl rfl rfl ?_
  refine AO.nil ?_
  refine AC.seq ?_
  refine AC.region ?_
  refine AO.yld _ (Yld.move rfl) rfl rfl rfl ?_
  refine AO.yld _ (Yld.nilCheck rfl rfl) rfl rfl rfl ?_
  refine AO.yld _ (Yld.fieldAddr Tryd.underlying80 rfl rfl Tryd.sizeOf9 rfl rfl rfl) rfl rfl rfl ?_
  refine AO.yld _ (Yld.load Tryd.isAgg9 rfl rfl) rfl rfl rfl ?_
  refine AO.yld _ (Yld.call rfl rfl Tryd.call117 rfl rfl rfl (spec_l01Name_c (by first | assumption | omega)) rfl) rfl rfl rfl ?_
  refine AO.yld _ (Yld.move rfl) rfl rfl rfl ?_
  refine AO.splitAt 8 _ rfl (fun s8 => ?_) (fun s8 => ?_)
  · -- s8 True
    refine AO.yldG _ (Yld.move rfl) rfl rfl rfl rfl rfl ?_
    refine AO.yldG _ (Yld.nilCheck rfl rfl) rfl rfl rfl rfl rfl ?_
    refine AO.yldG _ (Yld.fieldAddr Tryd.underlying80 rfl rfl Tryd.sizeOf2 rfl rfl rfl) rfl rfl rfl rfl rfl ?_
    refine AO.yldG _ (Yld.load Tryd.isAgg2 rfl rfl) rfl rfl rfl rfl rfl ?_
    refine AO.yldG _ (Yld.call rfl rfl Tryd.call89 rfl rfl rfl (spec_l00In_c) rfl) rfl rfl rfl rfl rfl ?_
    refine AO.yld _ (Yld.pickT rfl rfl) rfl rfl rfl ?_
    refine AO.yld _ (Yld.assign rfl) rfl rfl rfl ?_
    refine AO.nil ?_
    refine Pure.ret Tryd.results116 (RVs.cons (RV.tmp rfl) RVs.nil) rfl ?_
    first | rfl | (simp_all [okSetting]; done) | (simp_all [okSetting]; intros; omega) | grind [okSetting]
  · -- s8 False
    refine AO.skipT rfl rfl rfl rfl rfl ?_
    refine AO.skipT rfl rfl rfl rfl rfl ?_
    refine AO.skipT rfl rfl rfl rfl rfl ?_
    refine AO.skipT rfl rfl rfl rfl rfl ?_
    refine AO.skipT rfl rfl rfl rfl rfl ?_
    refine AO.yld _ (Yld.pickF rfl rfl) rfl rfl rfl ?_
    refine AO.yld _ (Yld.assign rfl) rfl rfl rfl ?_
    refine AO.nil ?_
    refine Pure.ret Tryd.results116 (RVs.cons (RV.tmp rfl) RVs.nil) rfl ?_
    first | rfl | (simp_all [okSetting]; done) | (simp_all [okSetting]; intros; omega) | grind [okSetting]

theorem impl_validSetting_c {x : NV} (hs : x.name.length ≤ 1048576) :
    Pure Tryd.prog 42 [.agg (encNV x)] (.v (.bool (okSetting x))) := by
  refine Pure.intro Tryd.func42 rfl Tryd.ntmps42 rfl rfl (fun w => ?_)
  refine AC.seq ?_
  refine AC.region ?_
  refine AO.box 0 rfl rfl rfl rfl rfl ?_
  refine AO.yld _ (Yld.assign rfl) rfl rfl rfl ?_
  refine AO.nil ?_
  refine AC.seq ?_
  refine AC.region ?_
  refine AO.yld _ (Yld.fieldAddr Tryd.underlying80 rfl rfl Tryd.sizeOf9 rfl rfl rfl) rfl rfl rfl ?_
  refine AO.yld _ (Yld.load Tryd.isAgg9 rfl rfl) rfl rfl rfl ?_
  refine AO.yld _ (Yld.call rfl rfl Tryd.call66 rfl rfl rfl (impl_IsName_c (by first | assumption | omega)) rfl) rfl rfl rfl ?_
  refine AO.yld _ (Yld.move rfl) rfl rfl rfl ?_
  refine AO.splitAt 6 _ rfl (fun s6 => ?_) (fun s6 => ?_)
  · -- s6 True
    refine AO.yldG _ (Yld.fieldAddr Tryd.underlying80 rfl rfl Tryd.sizeOf2 rfl rfl rfl) rfl rfl rfl rfl rfl ?_
    refine AO.yldG _ (Yld.load Tryd.isAgg2 rfl rfl) rfl rfl rfl rfl rfl ?_
    refine AO.yldG _ (Yld.call rfl rfl Tryd.call51 rfl rfl rfl (impl_within_c) rfl) rfl rfl rfl rfl rfl ?_
    refine AO.yld _ (Yld.pickT rfl rfl) rfl rfl rfl ?_
    refine AO.yld _ (Yld.assign rfl) rfl rfl rfl ?_
    refine AO.nil ?_
    refine Pure.ret Tryd.results42 (RVs.cons (RV.tmp rfl) RVs.nil) rfl ?_
    first | rfl | (simp_all [okSetting]; done) | (simp_all [okSetting]; intros; omega) | grind [okSetting]
  · -- s6 False
    refine AO.skipT rfl rfl rfl rfl rfl ?_
    refine AO.skipT rfl rfl rfl rfl rfl ?_
    refine AO.skipT rfl rfl rfl rfl rfl ?_
    refine AO.yld _ (Yld.pickF rfl rfl) rfl rfl rfl ?_
    refine AO.yld _ (Yld.assign rfl) rfl rfl rfl ?_
    refine AO.nil ?_
    refine Pure.ret Tryd.results42 (RVs.cons (RV.tmp rfl) RVs.nil) rfl ?_
    first | rfl | (simp_all [okSetting]; done) | (simp_all [okSetting]; intros; omega) | grind [okSetting]

theorem spec_l27State_c {xs : List NV} (hn : xs.length ≤ 1048576) (hs : ∀ x ∈ xs, x.name.length ≤ 1048576) :
    Pure Tryd.prog 91 [.sl 2 (xs.map encNV)] (.v (.bool (okState xs))) := by
  refine Pure.intro Tryd.func91 rfl Tryd.ntmps91 rfl rfl (fun w => ?_)
  refine AC.seq ?_
  refine AC.region ?_
  refine AO.yld _ (Yld.assign rfl) rfl rfl rfl ?_
  refine AO.nil ?_
  refine AC.seq ?_
  refine AC.seq ?_
  refine AC.region ?_
  refine AO.yld _ (Yld.assign rfl) rfl rfl rfl ?_
  refine AO.nil ?_
  refine AC.block ?_
  refine AC.loopC [(0, _)] [] (fun (k : Nat) => [(3, .p (.v (.int .i64 (k : Int))))]) (fun (k : Nat) => []) (fun (k : Nat) => k ≤ xs.length ∧ okTo okSetting geNV xs k = true) (fun (k : Nat) => xs.length - k) 0 ⟨rfl, trivial⟩ trivial ⟨rfl, trivial⟩ trivial ?_ (fun k hJ => ?_)
  · exact ⟨Nat.zero_le _, rfl⟩
  · -- round
    refine AC.seq ?_
    refine AC.seq ?_
    refine AC.region ?_
    refine AO.yld _ (Yld.move rfl) rfl rfl rfl ?_
    refine AO.yld _ (Yld.move rfl) rfl rfl rfl ?_
    refine AO.yld _ (Yld.len Tryd.underlying26 rfl rfl) rfl rfl rfl ?_
    refine AO.yld _ (Yld.int rfl rfl rfl) rfl rfl rfl ?_
    refine AO.nil ?_
    refine AC.cond _ rfl (fun c7 => ?_) (fun c7 => ?_)
    · -- c7 True
      have hk := lt_of_decM c7
      obtain ⟨x, hx⟩ := get_some hk
      have hrow := map_row (enc := encNV) hx
      have hsx := hs x (List.mem_of_getElem? hx)
      refine AC.skip ?_
      refine AC.seq ?_
      refine AC.block ?_
      refine AC.seq ?_
      refine AC.draw (by kernel_rfl) (by kernel_rfl) ?_
      refine AO.yld _ (Yld.move rfl) rfl rfl rfl ?_
      refine AO.yld _ (Yld.move rfl) rfl rfl rfl ?_
      refine AO.yld _ (Yld.indexSl Tryd.underlying26 Tryd.sizeOf80 rfl rfl hrow rfl) rfl rfl rfl ?_
      refine AO.yld _ (Yld.call rfl rfl Tryd.call116 rfl rfl rfl (spec_l27Setting_c (by first | assumption | omega)) rfl) rfl rfl rfl ?_
      refine AO.yld _ (Yld.not rfl) rfl rfl rfl ?_
      refine AO.yld _ (Yld.move rfl) rfl rfl rfl ?_
      refine AO.splitAt 15 _ rfl (fun s15 => ?_) (fun s15 => ?_)
      · -- s15 True
        refine AO.skipF rfl rfl rfl rfl rfl ?_
        refine AO.skipF rfl rfl rfl rfl rfl ?_
        refine AO.skipF rfl rfl rfl rfl rfl ?_
        refine AO.skipU rfl rfl rfl rfl rfl ?_
        refine AO.skipU rfl rfl rfl rfl rfl ?_
        refine AO.skipU rfl rfl rfl rfl rfl ?_
        refine AO.skipU rfl rfl rfl rfl rfl ?_
        refine AO.skipU rfl rfl rfl rfl rfl ?_
        refine AO.skipU rfl rfl rfl rfl rfl ?_
        refine AO.skipU rfl rfl rfl rfl rfl ?_
        refine AO.skipU rfl rfl rfl rfl rfl ?_
        refine AO.skipU rfl rfl rfl rfl rfl ?_
        refine AO.skipU rfl rfl rfl rfl rfl ?_
        refine AO.skipU rfl rfl rfl rfl rfl ?_
        refine AO.skipU rfl rfl rfl rfl rfl ?_
        refine AO.skipF rfl rfl rfl rfl rfl ?_
        refine AO.yld _ (Yld.pickT rfl rfl) rfl rfl rfl ?_
        refine AO.nil ?_
        refine AC.condT rfl ?_
        refine AC.seq ?_
        refine AC.region ?_
        refine AO.yld _ (Yld.assign rfl) rfl rfl rfl ?_
        refine AO.nil ?_
        refine Pure.ret Tryd.results91 (RVs.cons (RV.tmp rfl) RVs.nil) rfl ?_
        first
          | (exact cb (by unfold okState; rw [ok_one (one := okSetting) (ge := geNV) hx (by simpa using s15)]; simp))
          | (exact cb (by unfold okState; rw [ok_ge (one := okSetting) (ge := geNV) hx hk0 hy c32]; simp))
          | (exact cb (by rw [okState, ok_all hJ.2]; grind))
          | (exact cb (by unfold okState; grind))
          | (exact cb (by simp_all [okState]))
      · -- s15 False
        refine AO.yldG _ (Yld.move rfl) rfl rfl rfl rfl rfl ?_
        refine AO.yldG _ (Yld.int rfl rfl rfl) rfl rfl rfl rfl rfl ?_
        refine AO.yldG _ (Yld.move rfl) rfl rfl rfl rfl rfl ?_
        refine AO.splitAt 18 _ rfl (fun s18 => ?_) (fun s18 => ?_)
        · -- s18 True
          have hk0 : 0 < k := by simpa using s18
          obtain ⟨y, hy⟩ := get_some (xs := xs) (k := k - 1) (by omega)
          have hrow2 := map_row (enc := encNV) hy
          refine AO.yldG _ (Yld.move rfl) rfl rfl rfl rfl rfl ?_
          refine AO.yldG _ (Yld.move rfl) rfl rfl rfl rfl rfl ?_
          refine AO.yldG _ (Yld.sub rfl rfl (by omega) (by omega)) rfl rfl rfl rfl rfl ?_
          refine AO.yldG _ (Yld.indexSl Tryd.underlying26 Tryd.sizeOf80 rfl rfl hrow2 (by omega)) rfl rfl rfl rfl rfl ?_
          refine AO.yldG _ (Yld.fieldAddr Tryd.underlying80 rfl rfl Tryd.sizeOf9 rfl rfl rfl) rfl rfl rfl rfl rfl ?_
          refine AO.yldG _ (Yld.load Tryd.isAgg9 rfl rfl) rfl rfl rfl rfl rfl ?_
          refine AO.yldG _ (Yld.move rfl) rfl rfl rfl rfl rfl ?_
          refine AO.yldG _ (Yld.move rfl) rfl rfl rfl rfl rfl ?_
          refine AO.yldG _ (Yld.indexSl Tryd.underlying26 Tryd.sizeOf80 rfl rfl hrow rfl) rfl rfl rfl rfl rfl ?_
          refine AO.yldG _ (Yld.fieldAddr Tryd.underlying80 rfl rfl Tryd.sizeOf9 rfl rfl rfl) rfl rfl rfl rfl rfl ?_
          refine AO.yldG _ (Yld.load Tryd.isAgg9 rfl rfl) rfl rfl rfl rfl rfl ?_
          refine AO.yldG _ (Yld.cmpStr rfl rfl rfl) rfl rfl rfl rfl rfl ?_
          refine AO.yldG _ (Yld.pickT rfl rfl) rfl rfl rfl rfl rfl ?_
          refine AO.yld _ (Yld.pickF rfl rfl) rfl rfl rfl ?_
          refine AO.nil ?_
          refine AC.cond _ rfl (fun c32 => ?_) (fun c32 => ?_)
          · -- c32 True
            refine AC.seq ?_
            refine AC.region ?_
            refine AO.yld _ (Yld.assign rfl) rfl rfl rfl ?_
            refine AO.nil ?_
            refine Pure.ret Tryd.results91 (RVs.cons (RV.tmp rfl) RVs.nil) rfl ?_
            first
              | (exact cb (by unfold okState; rw [ok_one (one := okSetting) (ge := geNV) hx (by simpa using s15)]; simp))
              | (exact cb (by unfold okState; rw [ok_ge (one := okSetting) (ge := geNV) hx hk0 hy c32]; simp))
              | (exact cb (by rw [okState, ok_all hJ.2]; grind))
              | (exact cb (by unfold okState; grind))
              | (exact cb (by simp_all [okState]))
          · -- c32 False
            refine AC.skip ?_
            refine AC.mark ?_
            refine AC.region ?_
            refine AO.yld _ (Yld.move rfl) rfl rfl rfl ?_
            refine AO.yld _ (Yld.add rfl rfl (by omega) (by omega)) rfl rfl rfl ?_
            refine AO.yld _ (Yld.assign rfl) rfl rfl rfl ?_
            refine AO.nil ?_
            refine AC.back ⟨k + 1, ?_, ?_, ⟨?_, trivial⟩, trivial, ⟨rfl, trivial⟩, trivial⟩
            · exact ⟨hk, by first | exact ok_first hJ.2 hx (by simpa using s15) (by simp at s18; omega) | exact ok_next hJ.2 hx (by simpa using s15) hk0 hy c32⟩
            · omega
            · rfl
        · -- s18 False
          refine AO.skipT rfl rfl rfl rfl rfl ?_
          refine AO.skipT rfl rfl rfl rfl rfl ?_
          refine AO.skipT rfl rfl rfl rfl rfl ?_
          refine AO.skipT rfl rfl rfl rfl rfl ?_
          refine AO.skipT rfl rfl rfl rfl rfl ?_
          refine AO.skipT rfl rfl rfl rfl rfl ?_
          refine AO.skipT rfl rfl rfl rfl rfl ?_
          refine AO.skipT rfl rfl rfl rfl rfl ?_
          refine AO.skipT rfl rfl rfl rfl rfl ?_
          refine AO.skipT rfl rfl rfl rfl rfl ?_
          refine AO.skipT rfl rfl rfl rfl rfl ?_
          refine AO.skipT rfl rfl rfl rfl rfl ?_
          refine AO.yldG _ (Yld.pickF rfl rfl) rfl rfl rfl rfl rfl ?_
          refine AO.yld _ (Yld.pickF rfl rfl) rfl rfl rfl ?_
          refine AO.nil ?_
          refine AC.condF rfl ?_
          refine AC.skip ?_
          refine AC.mark ?_
          refine AC.region ?_
          refine AO.yld _ (Yld.move rfl) rfl rfl rfl ?_
          refine AO.yld _ (Yld.add rfl rfl (by omega) (by omega)) rfl rfl rfl ?_
          refine AO.yld _ (Yld.assign rfl) rfl rfl rfl ?_
          refine AO.nil ?_
          refine AC.back ⟨k + 1, ?_, ?_, ⟨?_, trivial⟩, trivial, ⟨rfl, trivial⟩, trivial⟩
          · exact ⟨hk, by first | exact ok_first hJ.2 hx (by simpa using s15) (by simp at s18; omega) | exact ok_next hJ.2 hx (by simpa using s15) hk0 hy c32⟩
          · omega
          · rfl
    · -- c7 False
      obtain rfl : k = xs.length := by have := ge_of_decM c7; omega
      refine AC.exit rfl ?_
      refine AC.seq ?_
      refine AC.region ?_
      refine AO.yld _ (Yld.move rfl) rfl rfl rfl ?_
      refine AO.yld _ (Yld.len Tryd.underlying26 rfl rfl) rfl rfl rfl ?_
      refine AO.yld _ (Yld.int rfl rfl rfl) rfl rfl rfl ?_
      refine AO.yld _ (Yld.assign rfl) rfl rfl rfl ?_
      refine AO.nil ?_
      refine Pure.ret Tryd.results91 (RVs.cons (RV.tmp rfl) RVs.nil) rfl ?_
      first
        | (exact cb (by unfold okState; rw [ok_one (one := okSetting) (ge := geNV) hx (by simpa using s15)]; simp))
        | (exact cb (by unfold okState; rw [ok_ge (one := okSetting) (ge := geNV) hx hk0 hy c32]; simp))
        | (exact cb (by rw [okState, ok_all hJ.2]; grind))
        | (exact cb (by unfold okState; grind))
        | (exact cb (by simp_all [okState]))

theorem impl_ValidState_c {xs : List NV} (hn : xs.length ≤ 1048576) (hs : ∀ x ∈ xs, x.name.length ≤ 1048576) :
    Pure Tryd.prog 37 [.sl 2 (xs.map encNV)] (.v (.bool (okState xs))) := by
  refine Pure.intro Tryd.func37 rfl Tryd.ntmps37 rfl rfl (fun w => ?_)
  refine AC.seq ?_
  refine AC.region ?_
  refine AO.yld _ (Yld.assign rfl) rfl rfl rfl ?_
  refine AO.nil ?_
  refine AC.seq ?_
  refine AC.seq ?_
  refine AC.region ?_
  refine AO.yld _ (Yld.move rfl) rfl rfl rfl ?_
  refine AO.yld _ (Yld.len Tryd.underlying26 rfl rfl) rfl rfl rfl ?_
  refine AO.yld _ (Yld.int rfl rfl rfl) rfl rfl rfl ?_
  refine AO.nil ?_
  refine AC.cond _ rfl (fun c7 => ?_) (fun c7 => ?_)
  · -- c7 True
    refine AC.seq ?_
    refine AC.region ?_
    refine AO.yld _ (Yld.assign rfl) rfl rfl rfl ?_
    refine AO.nil ?_
    refine Pure.ret Tryd.results37 (RVs.cons (RV.tmp rfl) RVs.nil) rfl ?_
    first
      | (exact cb (by unfold okState; rw [ok_one (one := okSetting) (ge := geNV) hx (by simpa using s18)]; simp))
      | (exact cb (by unfold okState; rw [ok_ge (one := okSetting) (ge := geNV) hx hk0 hy c32]; simp))
      | (exact cb (by rw [okState, ok_all hJ.2]; grind))
      | (exact cb (by unfold okState; grind))
      | (exact cb (by simp_all [okState]))
  · -- c7 False
    refine AC.skip ?_
    refine AC.seq ?_
    refine AC.seq ?_
    refine AC.region ?_
    refine AO.yld _ (Yld.move rfl) rfl rfl rfl ?_
    refine AO.yld _ (Yld.len Tryd.underlying26 rfl rfl) rfl rfl rfl ?_
    refine AO.yld _ (Yld.move rfl) rfl rfl rfl ?_
    refine AO.nil ?_
    refine AC.block ?_
    refine AC.loopC [(0, _), (8, _), (9, _)] [] (fun (k : Nat) => [(10, .p (.v (.int .i64 (k : Int))))]) (fun (k : Nat) => []) (fun (k : Nat) => k ≤ xs.length ∧ okTo okSetting geNV xs k = true) (fun (k : Nat) => xs.length - k) 0 ⟨rfl, rfl, rfl, trivial⟩ trivial ⟨rfl, trivial⟩ trivial ?_ (fun k hJ => ?_)
    · exact ⟨Nat.zero_le _, rfl⟩
    · -- round
      refine AC.seq ?_
      refine AC.region ?_
      refine AO.yld _ (Yld.int rfl rfl rfl) rfl rfl rfl ?_
      refine AO.nil ?_
      refine AC.seq ?_
      refine AC.cond _ rfl (fun c11 => ?_) (fun c11 => ?_)
      · -- c11 True
        have hk := lt_of_decM c11
        obtain ⟨x, hx⟩ := get_some hk
        have hrow := map_row (enc := encNV) hx
        have hsx := hs x (List.mem_of_getElem? hx)
        refine AC.skip ?_
        refine AC.seq ?_
        refine AC.block ?_
        refine AC.seq ?_
        refine AC.region ?_
        refine AO.yld _ (Yld.move rfl) rfl rfl rfl ?_
        refine AO.yld _ (Yld.indexSl Tryd.underlying26 Tryd.sizeOf80 rfl rfl hrow rfl) rfl rfl rfl ?_
        refine AO.yld _ (Yld.loadAgg Tryd.isAgg80 Tryd.sizeOf80 rfl rfl rfl rfl) rfl rfl rfl ?_
        refine AO.alloc 0 Tryd.zeroValue80 rfl rfl rfl ?_
        refine AO.yld _ (Yld.assign rfl) rfl rfl rfl ?_
        refine AO.store Tryd.sizeOf80 rfl rfl rfl rfl rfl rfl ?_
        refine AO.nil ?_
        refine AC.seq ?_
        refine AC.draw (by kernel_rfl) (by kernel_rfl) ?_
        refine AO.yld _ (Yld.loadAgg Tryd.isAgg80 Tryd.sizeOf80 rfl rfl rfl rfl) rfl rfl rfl ?_
        refine AO.yld _ (Yld.call rfl rfl Tryd.call42 rfl rfl rfl (impl_validSetting_c (by first | assumption | omega)) rfl) rfl rfl rfl ?_
        refine AO.yld _ (Yld.not rfl) rfl rfl rfl ?_
        refine AO.yld _ (Yld.move rfl) rfl rfl rfl ?_
        refine AO.splitAt 18 _ rfl (fun s18 => ?_) (fun s18 => ?_)
        · -- s18 True
          refine AO.skipF rfl rfl rfl rfl rfl ?_
          refine AO.skipF rfl rfl rfl rfl rfl ?_
          refine AO.skipF rfl rfl rfl rfl rfl ?_
          refine AO.skipU rfl rfl rfl rfl rfl ?_
          refine AO.skipU rfl rfl rfl rfl rfl ?_
          refine AO.skipU rfl rfl rfl rfl rfl ?_
          refine AO.skipU rfl rfl rfl rfl rfl ?_
          refine AO.skipU rfl rfl rfl rfl rfl ?_
          refine AO.skipU rfl rfl rfl rfl rfl ?_
          refine AO.skipU rfl rfl rfl rfl rfl ?_
          refine AO.skipU rfl rfl rfl rfl rfl ?_
          refine AO.skipU rfl rfl rfl rfl rfl ?_
          refine AO.skipF rfl rfl rfl rfl rfl ?_
          refine AO.yld _ (Yld.pickT rfl rfl) rfl rfl rfl ?_
          refine AO.nil ?_
          refine AC.condT rfl ?_
          refine AC.seq ?_
          refine AC.region ?_
          refine AO.yld _ (Yld.assign rfl) rfl rfl rfl ?_
          refine AO.nil ?_
          refine Pure.ret Tryd.results37 (RVs.cons (RV.tmp rfl) RVs.nil) rfl ?_
          first
            | (exact cb (by unfold okState; rw [ok_one (one := okSetting) (ge := geNV) hx (by simpa using s18)]; simp))
            | (exact cb (by unfold okState; rw [ok_ge (one := okSetting) (ge := geNV) hx hk0 hy c32]; simp))
            | (exact cb (by rw [okState, ok_all hJ.2]; grind))
            | (exact cb (by unfold okState; grind))
            | (exact cb (by simp_all [okState]))
        · -- s18 False
          refine AO.yldG _ (Yld.move rfl) rfl rfl rfl rfl rfl ?_
          refine AO.yldG _ (Yld.int rfl rfl rfl) rfl rfl rfl rfl rfl ?_
          refine AO.yldG _ (Yld.move rfl) rfl rfl rfl rfl rfl ?_
          refine AO.splitAt 21 _ rfl (fun s21 => ?_) (fun s21 => ?_)
          · -- s21 True
            have hk0 : 0 < k := by simpa using s21
            obtain ⟨y, hy⟩ := get_some (xs := xs) (k := k - 1) (by omega)
            have hrow2 := map_row (enc := encNV) hy
            refine AO.yldG _ (Yld.move rfl) rfl rfl rfl rfl rfl ?_
            refine AO.yldG _ (Yld.move rfl) rfl rfl rfl rfl rfl ?_
            refine AO.yldG _ (Yld.sub rfl rfl (by omega) (by omega)) rfl rfl rfl rfl rfl ?_
            refine AO.yldG _ (Yld.indexSl Tryd.underlying26 Tryd.sizeOf80 rfl rfl hrow2 (by omega)) rfl rfl rfl rfl rfl ?_
            refine AO.yldG _ (Yld.fieldAddr Tryd.underlying80 rfl rfl Tryd.sizeOf9 rfl rfl rfl) rfl rfl rfl rfl rfl ?_
            refine AO.yldG _ (Yld.load Tryd.isAgg9 rfl rfl) rfl rfl rfl rfl rfl ?_
            refine AO.yldG _ (Yld.fieldAddr Tryd.underlying80 rfl rfl Tryd.sizeOf9 rfl rfl rfl) rfl rfl rfl rfl rfl ?_
            refine AO.yldG _ (Yld.load Tryd.isAgg9 rfl rfl) rfl rfl rfl rfl rfl ?_
            refine AO.yldG _ (Yld.cmpStr rfl rfl rfl) rfl rfl rfl rfl rfl ?_
            refine AO.yldG _ (Yld.pickT rfl rfl) rfl rfl rfl rfl rfl ?_
            refine AO.yld _ (Yld.pickF rfl rfl) rfl rfl rfl ?_
            refine AO.nil ?_
            refine AC.cond _ rfl (fun c32 => ?_) (fun c32 => ?_)
            · -- c32 True
              refine AC.seq ?_
              refine AC.region ?_
              refine AO.yld _ (Yld.assign rfl) rfl rfl rfl ?_
              refine AO.nil ?_
              refine Pure.ret Tryd.results37 (RVs.cons (RV.tmp rfl) RVs.nil) rfl ?_
              first
                | (exact cb (by unfold okState; rw [ok_one (one := okSetting) (ge := geNV) hx (by simpa using s18)]; simp))
                | (exact cb (by unfold okState; rw [ok_ge (one := okSetting) (ge := geNV) hx hk0 hy c32]; simp))
                | (exact cb (by rw [okState, ok_all hJ.2]; grind))
                | (exact cb (by unfold okState; grind))
                | (exact cb (by simp_all [okState]))
            · -- c32 False
              refine AC.skip ?_
              refine AC.mark ?_
              refine AC.region ?_
              refine AO.yld _ (Yld.add rfl rfl (by omega) (by omega)) rfl rfl rfl ?_
              refine AO.yld _ (Yld.move rfl) rfl rfl rfl ?_
              refine AO.nil ?_
              refine AC.back ⟨k + 1, ?_, ?_, ⟨?_, trivial⟩, trivial, ⟨rfl, rfl, rfl, trivial⟩, trivial⟩
              · exact ⟨hk, by first | exact ok_first hJ.2 hx (by simpa using s18) (by simp at s21; omega) | exact ok_next hJ.2 hx (by simpa using s18) hk0 hy c32⟩
              · omega
              · rfl
          · -- s21 False
            refine AO.skipT rfl rfl rfl rfl rfl ?_
            refine AO.skipT rfl rfl rfl rfl rfl ?_
            refine AO.skipT rfl rfl rfl rfl rfl ?_
            refine AO.skipT rfl rfl rfl rfl rfl ?_
            refine AO.skipT rfl rfl rfl rfl rfl ?_
            refine AO.skipT rfl rfl rfl rfl rfl ?_
            refine AO.skipT rfl rfl rfl rfl rfl ?_
            refine AO.skipT rfl rfl rfl rfl rfl ?_
            refine AO.skipT rfl rfl rfl rfl rfl ?_
            refine AO.yldG _ (Yld.pickF rfl rfl) rfl rfl rfl rfl rfl ?_
            refine AO.yld _ (Yld.pickF rfl rfl) rfl rfl rfl ?_
            refine AO.nil ?_
            refine AC.condF rfl ?_
            refine AC.skip ?_
            refine AC.mark ?_
            refine AC.region ?_
            refine AO.yld _ (Yld.add rfl rfl (by omega) (by omega)) rfl rfl rfl ?_
            refine AO.yld _ (Yld.move rfl) rfl rfl rfl ?_
            refine AO.nil ?_
            refine AC.back ⟨k + 1, ?_, ?_, ⟨?_, trivial⟩, trivial, ⟨rfl, rfl, rfl, trivial⟩, trivial⟩
            · exact ⟨hk, by first | exact ok_first hJ.2 hx (by simpa using s18) (by simp at s21; omega) | exact ok_next hJ.2 hx (by simpa using s18) hk0 hy c32⟩
            · omega
            · rfl
      · -- c11 False
        obtain rfl : k = xs.length := by have := ge_of_decM c11; omega
        refine AC.exit rfl ?_
        refine AC.seq ?_
        refine AC.region ?_
        refine AO.yld _ (Yld.assign rfl) rfl rfl rfl ?_
        refine AO.nil ?_
        refine Pure.ret Tryd.results37 (RVs.cons (RV.tmp rfl) RVs.nil) rfl ?_
        first
          | (exact cb (by unfold okState; rw [ok_one (one := okSetting) (ge := geNV) hx (by simpa using s18)]; simp))
          | (exact cb (by unfold okState; rw [ok_ge (one := okSetting) (ge := geNV) hx hk0 hy c32]; simp))
          | (exact cb (by rw [okState, ok_all hJ.2]; grind))
          | (exact cb (by unfold okState; grind))
          | (exact cb (by simp_all [okState]))

theorem spec_ValidMachines_c {xs : List Mach} (hn : xs.length ≤ 1048576) (hs : ∀ x ∈ xs, x.name.length ≤ 1048576) :
    Pure Tryd.prog 29 [.sl 3 (xs.map encMach)] (.v (.bool (okMachines xs))) := by
  refine Pure.intro Tryd.func29 rfl Tryd.ntmps29 rfl rfl (fun w => ?_)
  refine AC.seq ?_
  refine AC.region ?_
  refine AO.yld _ (Yld.assign rfl) rfl rfl rfl ?_
  refine AO.nil ?_
  refine AC.seq ?_
  refine AC.region ?_
  refine AO.yld _ (Yld.move rfl) rfl rfl rfl ?_
  refine AO.yld _ (Yld.call rfl rfl Tryd.call70 rfl rfl rfl (spec_l26Ok_c (by first | assumption | omega) (by assumption)) rfl) rfl rfl rfl ?_
  refine AO.yld _ (Yld.assign rfl) rfl rfl rfl ?_
  refine AO.nil ?_
  refine Pure.ret Tryd.results29 (RVs.cons (RV.tmp rfl) RVs.nil) rfl ?_
  first | rfl | (simp_all; done) | (simp_all; intros; omega) | grind

theorem impl_floorDiv_c {a b : Int} (hb : 0 < b) (a1 : -9223372036854775808 ≤ a) (a2 : a ≤ 9223372036854775807) :
    Pure Tryd.prog 71 [.v (.int .i64 a), .v (.int .i64 b)] (.v (.int .i64 (a / b))) := by
  refine Pure.intro Tryd.func71 rfl Tryd.ntmps71 rfl rfl (fun w => ?_)
  refine AC.seq ?_
  refine AC.region ?_
  refine AO.yld _ (Yld.assign rfl) rfl rfl rfl ?_
  refine AO.nil ?_
  refine AC.seq ?_
  refine AC.region ?_
  refine AO.yld _ (Yld.move rfl) rfl rfl rfl ?_
  refine AO.yld _ (Yld.move rfl) rfl rfl rfl ?_
  refine AO.yld _ (Yld.quoP rfl rfl (by omega) (by omega) (by omega)) rfl rfl rfl ?_
  refine AO.yld _ (Yld.assign rfl) rfl rfl rfl ?_
  refine AO.nil ?_
  refine AC.seq ?_
  refine AC.seq ?_
  refine AC.region ?_
  refine AO.yld _ (Yld.move rfl) rfl rfl rfl ?_
  refine AO.yld _ (Yld.move rfl) rfl rfl rfl ?_
  refine AO.yld _ (Yld.rem rfl rfl (by omega)) rfl rfl rfl ?_
  refine AO.yld _ (Yld.int rfl rfl rfl) rfl rfl rfl ?_
  refine AO.nil ?_
  refine AC.cond _ rfl (fun c12 => ?_) (fun c12 => ?_)
  · -- c12 True
    refine AC.region ?_
    refine AO.yld _ (Yld.move rfl) rfl rfl rfl ?_
    refine AO.yld _ (Yld.sub rfl rfl (by have := floor_range hb a1 (by simpa using c12); omega) (by have := floor_range hb a1 (by simpa using c12); omega)) rfl rfl rfl ?_
    refine AO.yld _ (Yld.assign rfl) rfl rfl rfl ?_
    refine AO.nil ?_
    refine AC.seq ?_
    refine AC.region ?_
    refine AO.yld _ (Yld.move rfl) rfl rfl rfl ?_
    refine AO.yld _ (Yld.assign rfl) rfl rfl rfl ?_
    refine AO.nil ?_
    refine Pure.ret Tryd.results71 (RVs.cons (RV.tmp rfl) RVs.nil) rfl ?_
    first
      | exact ci (floor_low hb (by simp_all)).symm
      | exact ci (floor_up hb (by simp_all)).symm
  · -- c12 False
    refine AC.skip ?_
    refine AC.seq ?_
    refine AC.region ?_
    refine AO.yld _ (Yld.move rfl) rfl rfl rfl ?_
    refine AO.yld _ (Yld.assign rfl) rfl rfl rfl ?_
    refine AO.nil ?_
    refine Pure.ret Tryd.results71 (RVs.cons (RV.tmp rfl) RVs.nil) rfl ?_
    first
      | exact ci (floor_low hb (by simp_all)).symm
      | exact ci (floor_up hb (by simp_all)).symm

theorem impl_OffsetOf_c {x : Sample} :
    Pure Tryd.prog 30 [.agg (encSample x)] (.tup [.v (.int .i64 (offsetOf x).1), .v (.int .i64 (offsetOf x).2.1), .v (.int .i64 (offsetOf x).2.2)]) := by
  refine Pure.intro Tryd.func30 rfl Tryd.ntmps30 rfl rfl (fun w => ?_)
  refine AC.seq ?_
  refine AC.region ?_
  refine AO.box 0 rfl rfl rfl rfl rfl ?_
  refine AO.yld _ (Yld.assign rfl) rfl rfl rfl ?_
  refine AO.yld _ (Yld.assign rfl) rfl rfl rfl ?_
  refine AO.yld _ (Yld.assign rfl) rfl rfl rfl ?_
  refine AO.nil ?_
  refine AC.seq ?_
  refine AC.seq ?_
  refine AC.region ?_
  refine AO.yld _ (Yld.loadAgg Tryd.isAgg69 Tryd.sizeOf69 rfl rfl rfl rfl) rfl rfl rfl ?_
  refine AO.yld _ (Yld.call rfl rfl Tryd.call69 rfl rfl rfl (impl_ValidSample_c) rfl) rfl rfl rfl ?_
  refine AO.yld _ (Yld.not rfl) rfl rfl rfl ?_
  refine AO.nil ?_
  refine AC.cond _ rfl (fun c7 => ?_) (fun c7 => ?_)
  · -- c7 True
    refine AC.seq ?_
    refine AC.region ?_
    refine AO.yld _ (Yld.assign rfl) rfl rfl rfl ?_
    refine AO.yld _ (Yld.assign rfl) rfl rfl rfl ?_
    refine AO.yld _ (Yld.assign rfl) rfl rfl rfl ?_
    refine AO.nil ?_
    refine Pure.retT Tryd.results30 (RVs.cons (RV.tmp rfl) (RVs.cons (RV.tmp rfl) (RVs.cons (RV.tmp rfl) RVs.nil))) rfl ?_
    simp_all [offsetOf, okSample]
  · -- c7 False
    have hl := sample_lim (x := x) (by simpa [okSample] using c7)
    refine AC.skip ?_
    refine AC.seq ?_
    refine AC.draw (by kernel_rfl) (by kernel_rfl) ?_
    refine AO.yld _ (Yld.fieldAddr Tryd.underlying69 rfl rfl Tryd.sizeOf2 rfl rfl rfl) rfl rfl rfl ?_
    refine AO.yld _ (Yld.load Tryd.isAgg2 rfl rfl) rfl rfl rfl ?_
    refine AO.yld _ (Yld.mul rfl rfl (by omega) (by omega)) rfl rfl rfl ?_
    refine AO.yld _ (Yld.fieldAddr Tryd.underlying69 rfl rfl Tryd.sizeOf2 rfl rfl rfl) rfl rfl rfl ?_
    refine AO.yld _ (Yld.load Tryd.isAgg2 rfl rfl) rfl rfl rfl ?_
    refine AO.yld _ (Yld.sub rfl rfl (by omega) (by omega)) rfl rfl rfl ?_
    refine AO.yld _ (Yld.fieldAddr Tryd.underlying69 rfl rfl Tryd.sizeOf2 rfl rfl rfl) rfl rfl rfl ?_
    refine AO.yld _ (Yld.load Tryd.isAgg2 rfl rfl) rfl rfl rfl ?_
    refine AO.yld _ (Yld.sub rfl rfl (by omega) (by omega)) rfl rfl rfl ?_
    refine AO.yld _ (Yld.call rfl rfl Tryd.call71 rfl rfl rfl (impl_floorDiv_c (by omega) (by omega) (by omega)) rfl) rfl rfl rfl ?_
    refine AO.yld _ (Yld.fieldAddr Tryd.underlying69 rfl rfl Tryd.sizeOf2 rfl rfl rfl) rfl rfl rfl ?_
    refine AO.yld _ (Yld.load Tryd.isAgg2 rfl rfl) rfl rfl rfl ?_
    refine AO.yld _ (Yld.fieldAddr Tryd.underlying69 rfl rfl Tryd.sizeOf2 rfl rfl rfl) rfl rfl rfl ?_
    refine AO.yld _ (Yld.load Tryd.isAgg2 rfl rfl) rfl rfl rfl ?_
    refine AO.yld _ (Yld.sub rfl rfl (by omega) (by omega)) rfl rfl rfl ?_
    refine AO.yld _ (Yld.assign rfl) rfl rfl rfl ?_
    refine AO.yld _ (Yld.assign rfl) rfl rfl rfl ?_
    refine AO.yld _ (Yld.assign rfl) rfl rfl rfl ?_
    refine AO.nil ?_
    refine Pure.retT Tryd.results30 (RVs.cons (RV.tmp rfl) (RVs.cons (RV.tmp rfl) (RVs.cons (RV.tmp rfl) RVs.nil))) rfl ?_
    simp_all [offsetOf, okSample]

theorem indexFuncSample_c {xs : List Sample} {f : FuncId} {caps : List PV} {p : Sample → Bool} (hn : xs.length ≤ 1048576) (hf : Enters Tryd.prog f) (hp : ∀ x ∈ xs, Pure Tryd.prog f (.agg (encSample x) :: caps) (.v (.bool (p x)))) :
    Pure Tryd.prog 98 [.sl 3 (xs.map encSample), .clo f caps] (.v (.int .i64 (idxOf p xs))) := by
  refine Pure.intro Tryd.func98 rfl Tryd.ntmps98 rfl rfl (fun w => ?_)
  refine AC.seq ?_
  refine AC.region ?_
  refine AO.yld _ (Yld.assign rfl) rfl rfl rfl ?_
  refine AO.nil ?_
  refine AC.seq ?_
  refine AC.seq ?_
  refine AC.region ?_
  refine AO.yld _ (Yld.move rfl) rfl rfl rfl ?_
  refine AO.yld _ (Yld.len Tryd.underlying59 rfl rfl) rfl rfl rfl ?_
  refine AO.yld _ (Yld.move rfl) rfl rfl rfl ?_
  refine AO.nil ?_
  refine AC.block ?_
  refine AC.loopC [(0, _), (1, _), (7, _)] [] (fun (k : Nat) => [(8, .p (.v (.int .i64 (k : Int))))]) (fun (k : Nat) => []) (fun (k : Nat) => k ≤ xs.length ∧ anyTo p xs k = false) (fun (k : Nat) => xs.length - k) 0 ⟨rfl, rfl, rfl, trivial⟩ trivial ⟨rfl, trivial⟩ trivial ?_ (fun k hJ => ?_)
  · exact ⟨Nat.zero_le _, rfl⟩
  · -- round
    refine AC.seq ?_
    refine AC.region ?_
    refine AO.yld _ (Yld.int rfl rfl rfl) rfl rfl rfl ?_
    refine AO.nil ?_
    refine AC.seq ?_
    refine AC.cond _ rfl (fun c9 => ?_) (fun c9 => ?_)
    · -- c9 True
      have hk := lt_of_decM c9
      obtain ⟨x, hx⟩ := get_some hk
      have hrow := map_row (enc := encSample) hx
      refine AC.skip ?_
      refine AC.seq ?_
      refine AC.block ?_
      refine AC.seq ?_
      refine AC.region ?_
      refine AO.yld _ (Yld.move rfl) rfl rfl rfl ?_
      refine AO.yld _ (Yld.assign rfl) rfl rfl rfl ?_
      refine AO.nil ?_
      refine AC.seq ?_
      refine AC.region ?_
      refine AO.yld _ (Yld.move rfl) rfl rfl rfl ?_
      refine AO.yld _ (Yld.move rfl) rfl rfl rfl ?_
      refine AO.yld _ (Yld.move rfl) rfl rfl rfl ?_
      refine AO.yld _ (Yld.indexSl Tryd.underlying59 Tryd.sizeOf69 rfl rfl hrow rfl) rfl rfl rfl ?_
      refine AO.yld _ (Yld.loadAgg Tryd.isAgg69 Tryd.sizeOf69 rfl rfl rfl rfl) rfl rfl rfl ?_
      refine AO.yld _ (Yld.call rfl rfl hf rfl rfl (viewL_p _) (hp x (List.mem_of_getElem? hx)) rfl) rfl rfl rfl ?_
      refine AO.nil ?_
      refine AC.cond _ rfl (fun c16 => ?_) (fun c16 => ?_)
      · -- c16 True
        refine AC.seq ?_
        refine AC.region ?_
        refine AO.yld _ (Yld.move rfl) rfl rfl rfl ?_
        refine AO.yld _ (Yld.assign rfl) rfl rfl rfl ?_
        refine AO.nil ?_
        refine Pure.ret Tryd.results98 (RVs.cons (RV.tmp rfl) RVs.nil) rfl ?_
        first
          | exact ci (idx_hit hJ.2 hx (by simpa using c16))
          | exact ci (idx_miss hJ.2)
      · -- c16 False
        refine AC.skip ?_
        refine AC.mark ?_
        refine AC.region ?_
        refine AO.yld _ (Yld.add rfl rfl (by omega) (by omega)) rfl rfl rfl ?_
        refine AO.yld _ (Yld.move rfl) rfl rfl rfl ?_
        refine AO.nil ?_
        refine AC.back ⟨k + 1, ?_, ?_, ⟨?_, trivial⟩, trivial, ⟨rfl, rfl, rfl, trivial⟩, trivial⟩
        · exact ⟨hk, by rw [anyTo_succ hx, hJ.2]; simpa using c16⟩
        · omega
        · rfl
    · -- c9 False
      obtain rfl : k = xs.length := by have := ge_of_decM c9; omega
      refine AC.exit rfl ?_
      refine AC.seq ?_
      refine AC.region ?_
      refine AO.yld _ (Yld.assign rfl) rfl rfl rfl ?_
      refine AO.nil ?_
      refine Pure.ret Tryd.results98 (RVs.cons (RV.tmp rfl) RVs.nil) rfl ?_
      first
        | exact ci (idx_hit hJ.2 hx (by simpa using c16))
        | exact ci (idx_miss hJ.2)

theorem containsFuncSample_c {xs : List Sample} {f : FuncId} {caps : List PV} {p : Sample → Bool} (hn : xs.length ≤ 1048576) (hf : Enters Tryd.prog f) (hp : ∀ x ∈ xs, Pure Tryd.prog f (.agg (encSample x) :: caps) (.v (.bool (p x)))) :
    Pure Tryd.prog 67 [.sl 3 (xs.map encSample), .clo f caps] (.v (.bool (xs.any p))) := by
  refine Pure.intro Tryd.func67 rfl Tryd.ntmps67 rfl rfl (fun w => ?_)
  refine AC.seq ?_
  refine AC.region ?_
  refine AO.yld _ (Yld.assign rfl) rfl rfl rfl ?_
  refine AO.nil ?_
  refine AC.seq ?_
  refine AC.region ?_
  refine AO.yld _ (Yld.move rfl) rfl rfl rfl ?_
  refine AO.yld _ (Yld.move rfl) rfl rfl rfl ?_
  refine AO.yld _ (Yld.call rfl rfl Tryd.call98 rfl rfl rfl (indexFuncSample_c (by first | assumption | omega) hf hp) rfl) rfl rfl rfl ?_
  refine AO.yld _ (Yld.int rfl rfl rfl) rfl rfl rfl ?_
  refine AO.yld _ (Yld.assign rfl) rfl rfl rfl ?_
  refine AO.nil ?_
  refine Pure.ret Tryd.results67 (RVs.cons (RV.tmp rfl) RVs.nil) rfl ?_
  exact cb idx_any.symm

theorem neSetting {x y : NV} {X Y : Operand} (w : World) : (do eqGuard .neq 80 X Y (.agg [str x.name, .int .i64 x.val].toArray) (.agg [str y.name, .int .i64 y.val].toArray); binOp .neq 80 (.agg [str x.name, .int .i64 x.val].toArray) (.agg [str y.name, .int .i64 y.val].toArray) : Sem Value).run Tryd.prog w = .ok (.bool (!decide (x = y))) w := by
  have g1 : Tryd.prog.eqGuardType Tryd.prog.depth 80 = false := by kernel_rfl
  have g2 : Tryd.prog.stoodInHeld 80 = false := by kernel_rfl
  have g3 : Tryd.prog.underlying 80 = some (.struct (Tryd.prog.fieldsOf 80)) := by kernel_rfl
  have g4 : (Tryd.prog.fieldsOf 80).toList = [⟨ "Name", 9, 0, false, "", "", 0⟩, ⟨ "Value", 2, 1, false, "", "", 16⟩] := by kernel_rfl
  rw [Sem.run_bind, run_eqGuard_agg _ _ _ _ _ _ _ g1, Result.andThen_ok, run_neq_struct, run_equalIn_struct _ _ _ _ _ g3 g2, g4]
  have e : decide (x = y) = (decide (x.name = y.name) && decide (x.val = y.val)) := by cases x; cases y; simp
  rw [e]
  clear g1 g2 g3 g4 e
  simp [Op.eqFields, go_sem, part, str, Tryd.sizeOf2, Tryd.isAgg2, Tryd.sizeOf9, Tryd.isAgg9, run_equalIn_int (h := Tryd.underlying2), run_equalIn_string (h := Tryd.underlying9)]
  by_cases h0 : x.name = y.name <;> by_cases h1 : x.val = y.val <;> simp_all

theorem spec_l27Same_c {xs ys : List NV} (hn : xs.length ≤ 1048576) :
    Pure Tryd.prog 48 [.sl 2 (xs.map encNV), .sl 2 (ys.map encNV)] (.v (.bool (decide (xs = ys)))) := by
  refine Pure.intro Tryd.func48 rfl Tryd.ntmps48 rfl rfl (fun w => ?_)
  refine AC.seq ?_
  refine AC.region ?_
  refine AO.yld _ (Yld.assign rfl) rfl rfl rfl ?_
  refine AO.nil ?_
  refine AC.seq ?_
  refine AC.seq ?_
  refine AC.region ?_
  refine AO.yld _ (Yld.move rfl) rfl rfl rfl ?_
  refine AO.yld _ (Yld.len Tryd.underlying26 rfl rfl) rfl rfl rfl ?_
  refine AO.yld _ (Yld.move rfl) rfl rfl rfl ?_
  refine AO.yld _ (Yld.len Tryd.underlying26 rfl rfl) rfl rfl rfl ?_
  refine AO.yld _ (Yld.int rfl rfl rfl) rfl rfl rfl ?_
  refine AO.nil ?_
  refine AC.cond _ rfl (fun c10 => ?_) (fun c10 => ?_)
  · -- c10 True
    have hl : xs.length ≠ ys.length := by have h := c10; simp only [List.length_map, bne_iff_ne, ne_eq, decide_eq_true_eq] at h; omega
    refine AC.seq ?_
    refine AC.region ?_
    refine AO.yld _ (Yld.assign rfl) rfl rfl rfl ?_
    refine AO.nil ?_
    refine Pure.ret Tryd.results48 (RVs.cons (RV.tmp rfl) RVs.nil) rfl ?_
    first
      | (exact congrArg (fun b => PV.v (.bool b)) (decide_eq_false (fun e => hl (congrArg List.length e))).symm)
      | (refine congrArg (fun b => PV.v (.bool b)) (decide_eq_false (fun e => ?_)).symm; subst e; rw [hx] at hy; simp_all)
      | (refine congrArg (fun b => PV.v (.bool b)) (decide_eq_true ?_).symm; have := hJ.2; rw [List.take_of_length_le (Nat.le_refl _), List.take_of_length_le (by omega)] at this; exact this)
  · -- c10 False
    have hl : xs.length = ys.length := by have h := c10; simp only [List.length_map, bne_eq_false_iff_eq, decide_eq_false_iff_not, ne_eq, Decidable.not_not] at h; omega
    refine AC.skip ?_
    refine AC.seq ?_
    refine AC.seq ?_
    refine AC.region ?_
    refine AO.yld _ (Yld.assign rfl) rfl rfl rfl ?_
    refine AO.nil ?_
    refine AC.block ?_
    refine AC.loopC [(0, _), (1, _)] [] (fun (k : Nat) => [(5, .p (.v (.int .i64 (k : Int))))]) (fun (k : Nat) => []) (fun (k : Nat) => k ≤ xs.length ∧ xs.take k = ys.take k) (fun (k : Nat) => xs.length - k) 0 ⟨rfl, rfl, trivial⟩ trivial ⟨rfl, trivial⟩ trivial ?_ (fun k hJ => ?_)
    · simp
    · -- round
      refine AC.seq ?_
      refine AC.seq ?_
      refine AC.region ?_
      refine AO.yld _ (Yld.move rfl) rfl rfl rfl ?_
      refine AO.yld _ (Yld.move rfl) rfl rfl rfl ?_
      refine AO.yld _ (Yld.len Tryd.underlying26 rfl rfl) rfl rfl rfl ?_
      refine AO.yld _ (Yld.int rfl rfl rfl) rfl rfl rfl ?_
      refine AO.nil ?_
      refine AC.cond _ rfl (fun c14 => ?_) (fun c14 => ?_)
      · -- c14 True
        have hk := lt_of_decM c14
        obtain ⟨x, hx⟩ := get_some hk
        have hrow := map_row (enc := encNV) hx
        obtain ⟨y, hy⟩ := get_some (xs := ys) (k := k) (by omega)
        have hrow2 := map_row (enc := encNV) hy
        refine AC.skip ?_
        refine AC.seq ?_
        refine AC.block ?_
        refine AC.seq ?_
        refine AC.draw (by kernel_rfl) (by kernel_rfl) ?_
        refine AO.yld _ (Yld.move rfl) rfl rfl rfl ?_
        refine AO.yld _ (Yld.move rfl) rfl rfl rfl ?_
        refine AO.yld _ (Yld.indexSl Tryd.underlying26 Tryd.sizeOf80 rfl rfl hrow rfl) rfl rfl rfl ?_
        refine AO.yld _ (Yld.loadAgg Tryd.isAgg80 Tryd.sizeOf80 rfl rfl rfl rfl) rfl rfl rfl ?_
        refine AO.yld _ (Yld.move rfl) rfl rfl rfl ?_
        refine AO.yld _ (Yld.move rfl) rfl rfl rfl ?_
        refine AO.yld _ (Yld.indexSl Tryd.underlying26 Tryd.sizeOf80 rfl rfl hrow2 rfl) rfl rfl rfl ?_
        refine AO.yld _ (Yld.loadAgg Tryd.isAgg80 Tryd.sizeOf80 rfl rfl rfl rfl) rfl rfl rfl ?_
        refine AO.yld _ (Yld.binV rfl rfl rfl rfl rfl rfl (by exact neSetting)) rfl rfl rfl ?_
        refine AO.nil ?_
        refine AC.cond _ rfl (fun c25 => ?_) (fun c25 => ?_)
        · -- c25 True
          refine AC.seq ?_
          refine AC.region ?_
          refine AO.yld _ (Yld.assign rfl) rfl rfl rfl ?_
          refine AO.nil ?_
          refine Pure.ret Tryd.results48 (RVs.cons (RV.tmp rfl) RVs.nil) rfl ?_
          first
            | (exact congrArg (fun b => PV.v (.bool b)) (decide_eq_false (fun e => hl (congrArg List.length e))).symm)
            | (refine congrArg (fun b => PV.v (.bool b)) (decide_eq_false (fun e => ?_)).symm; subst e; rw [hx] at hy; simp_all)
            | (refine congrArg (fun b => PV.v (.bool b)) (decide_eq_true ?_).symm; have := hJ.2; rw [List.take_of_length_le (Nat.le_refl _), List.take_of_length_le (by omega)] at this; exact this)
        · -- c25 False
          refine AC.skip ?_
          refine AC.mark ?_
          refine AC.region ?_
          refine AO.yld _ (Yld.move rfl) rfl rfl rfl ?_
          refine AO.yld _ (Yld.add rfl rfl (by omega) (by omega)) rfl rfl rfl ?_
          refine AO.yld _ (Yld.assign rfl) rfl rfl rfl ?_
          refine AO.nil ?_
          refine AC.back ⟨k + 1, ?_, ?_, ⟨?_, trivial⟩, trivial, ⟨rfl, rfl, trivial⟩, trivial⟩
          · exact ⟨hk, by rw [take_snoc hx, take_snoc hy, hJ.2, show x = y by simpa using c25]⟩
          · omega
          · rfl
      · -- c14 False
        obtain rfl : k = xs.length := by have := ge_of_decM c14; omega
        refine AC.exit rfl ?_
        refine AC.seq ?_
        refine AC.region ?_
        refine AO.yld _ (Yld.assign rfl) rfl rfl rfl ?_
        refine AO.nil ?_
        refine Pure.ret Tryd.results48 (RVs.cons (RV.tmp rfl) RVs.nil) rfl ?_
        first
          | (exact congrArg (fun b => PV.v (.bool b)) (decide_eq_false (fun e => hl (congrArg List.length e))).symm)
          | (refine congrArg (fun b => PV.v (.bool b)) (decide_eq_false (fun e => ?_)).symm; subst e; rw [hx] at hy; simp_all)
          | (refine congrArg (fun b => PV.v (.bool b)) (decide_eq_true ?_).symm; have := hJ.2; rw [List.take_of_length_le (Nat.le_refl _), List.take_of_length_le (by omega)] at this; exact this)

theorem spec_SameState_c {xs ys : List NV} (hn : xs.length ≤ 1048576) :
    Pure Tryd.prog 11 [.sl 2 (xs.map encNV), .sl 2 (ys.map encNV)] (.v (.bool (decide (xs = ys)))) := by
  refine Pure.intro Tryd.func11 rfl Tryd.ntmps11 rfl rfl (fun w => ?_)
  refine AC.seq ?_
  refine AC.region ?_
  refine AO.yld _ (Yld.assign rfl) rfl rfl rfl ?_
  refine AO.nil ?_
  refine AC.seq ?_
  refine AC.region ?_
  refine AO.yld _ (Yld.move rfl) rfl rfl rfl ?_
  refine AO.yld _ (Yld.move rfl) rfl rfl rfl ?_
  refine AO.yld _ (Yld.call rfl rfl Tryd.call48 rfl rfl rfl (spec_l27Same_c (by first | assumption | omega)) rfl) rfl rfl rfl ?_
  refine AO.yld _ (Yld.assign rfl) rfl rfl rfl ?_
  refine AO.nil ?_
  refine Pure.ret Tryd.results11 (RVs.cons (RV.tmp rfl) RVs.nil) rfl ?_
  first | rfl | (simp_all; done) | (simp_all; intros; omega) | grind

theorem best1_c {x : Sample} :
    Pure Tryd.prog 68 [.agg (encSample x)] (.v (.bool (!okSample x))) := by
  refine Pure.intro Tryd.func68 rfl Tryd.ntmps68 rfl rfl (fun w => ?_)
  refine AC.seq ?_
  refine AC.region ?_
  refine AO.box 0 rfl rfl rfl rfl rfl ?_
  refine AO.yld _ (Yld.assign rfl) rfl rfl rfl ?_
  refine AO.nil ?_
  refine AC.seq ?_
  refine AC.region ?_
  refine AO.yld _ (Yld.loadAgg Tryd.isAgg69 Tryd.sizeOf69 rfl rfl rfl rfl) rfl rfl rfl ?_
  refine AO.yld _ (Yld.call rfl rfl Tryd.call69 rfl rfl rfl (impl_ValidSample_c) rfl) rfl rfl rfl ?_
  refine AO.yld _ (Yld.not rfl) rfl rfl rfl ?_
  refine AO.yld _ (Yld.assign rfl) rfl rfl rfl ?_
  refine AO.nil ?_
  refine Pure.ret Tryd.results68 (RVs.cons (RV.tmp rfl) RVs.nil) rfl ?_
  rfl

theorem impl_BestSample_c {xs : List Sample} (hn : xs.length ≤ 1048576) :
    Pure Tryd.prog 28 [.sl 3 (xs.map encSample)] (.tup [.v (.int .i64 (bestSample xs).1), .v (.int .i64 (bestSample xs).2)]) := by
  refine Pure.intro Tryd.func28 rfl Tryd.ntmps28 rfl rfl (fun w => ?_)
  refine AC.seq ?_
  refine AC.region ?_
  refine AO.yld _ (Yld.assign rfl) rfl rfl rfl ?_
  refine AO.yld _ (Yld.assign rfl) rfl rfl rfl ?_
  refine AO.nil ?_
  refine AC.seq ?_
  refine AC.seq ?_
  refine AC.region ?_
  refine AO.yld _ (Yld.move rfl) rfl rfl rfl ?_
  refine AO.yld _ (Yld.call rfl rfl Tryd.call67 rfl rfl rfl (containsFuncSample_c (p := fun x => !okSample x) (by omega) Tryd.call68 (fun x _ => best1_c)) rfl) rfl rfl rfl ?_
  refine AO.nil ?_
  refine AC.cond _ rfl (fun c8 => ?_) (fun c8 => ?_)
  · -- c8 True
    refine AC.seq ?_
    refine AC.region ?_
    refine AO.yld _ (Yld.assign rfl) rfl rfl rfl ?_
    refine AO.yld _ (Yld.assign rfl) rfl rfl rfl ?_
    refine AO.nil ?_
    refine Pure.retT Tryd.results28 (RVs.cons (RV.tmp rfl) (RVs.cons (RV.tmp rfl) RVs.nil)) rfl ?_
    first
      | (have e : xs.all okSample = false := by have h := c8; rw [all_not] at h; simpa using h
         simp [bestSample, e])
      | (have e : (decide (1 ≤ xs.length) && decide (xs.length ≤ 24)) = false := by (have h := c12; simp only [List.length_map] at h; grind)
         simp only [bestSample, hall, e]; rfl)
      | (have e : (decide (1 ≤ xs.length) && decide (xs.length ≤ 24)) = true := by (simp; omega)
         simp only [bestSample, hall, e]; rfl)
  · -- c8 False
    have hall : xs.all okSample = true := by have h := c8; rw [all_not] at h; simpa using h
    refine AC.skip ?_
    refine AC.seq ?_
    refine AC.seq ?_
    refine AC.region ?_
    refine AO.yld _ (Yld.move rfl) rfl rfl rfl ?_
    refine AO.yld _ (Yld.len Tryd.underlying59 rfl rfl) rfl rfl rfl ?_
    refine AO.yld _ (Yld.call rfl rfl Tryd.call51 rfl rfl rfl (impl_within_c) rfl) rfl rfl rfl ?_
    refine AO.yld _ (Yld.not rfl) rfl rfl rfl ?_
    refine AO.nil ?_
    refine AC.cond _ rfl (fun c12 => ?_) (fun c12 => ?_)
    · -- c12 True
      refine AC.seq ?_
      refine AC.region ?_
      refine AO.yld _ (Yld.assign rfl) rfl rfl rfl ?_
      refine AO.yld _ (Yld.assign rfl) rfl rfl rfl ?_
      refine AO.nil ?_
      refine Pure.retT Tryd.results28 (RVs.cons (RV.tmp rfl) (RVs.cons (RV.tmp rfl) RVs.nil)) rfl ?_
      first
        | (have e : xs.all okSample = false := by have h := c8; rw [all_not] at h; simpa using h
           simp [bestSample, e])
        | (have e : (decide (1 ≤ xs.length) && decide (xs.length ≤ 24)) = false := by (have h := c12; simp only [List.length_map] at h; grind)
           simp only [bestSample, hall, e]; rfl)
        | (have e : (decide (1 ≤ xs.length) && decide (xs.length ≤ 24)) = true := by (simp; omega)
           simp only [bestSample, hall, e]; rfl)
    · -- c12 False
      have hl1 : 1 ≤ xs.length ∧ xs.length ≤ 24 := by have h := c12; simp only [List.length_map] at h; grind
      refine AC.skip ?_
      refine AC.seq ?_
      refine AC.region ?_
      refine AO.yld _ (Yld.assign rfl) rfl rfl rfl ?_
      refine AO.nil ?_
      refine AC.seq ?_
      refine AC.seq ?_
      refine AC.region ?_
      refine AO.yld _ (Yld.move rfl) rfl rfl rfl ?_
      refine AO.yld _ (Yld.len Tryd.underlying59 rfl rfl) rfl rfl rfl ?_
      refine AO.yld _ (Yld.move rfl) rfl rfl rfl ?_
      refine AO.nil ?_
      refine AC.block ?_
      refine AC.loopC [(0, _), (2, _), (3, _), (13, _), (14, _)] [] (fun (k : Nat) => [(15, .p (.v (.int .i64 (k : Int)))), (4, .p (.v (.int .i64 (bestTo ltSample xs k : Int))))]) (fun (k : Nat) => []) (fun (k : Nat) => k ≤ xs.length) (fun (k : Nat) => xs.length - k) 0 ⟨rfl, rfl, rfl, rfl, rfl, trivial⟩ trivial ⟨rfl, rfl, trivial⟩ trivial ?_ (fun k hJ => ?_)
      · simp
      · -- round
        refine AC.seq ?_
        refine AC.region ?_
        refine AO.yld _ (Yld.int rfl rfl rfl) rfl rfl rfl ?_
        refine AO.nil ?_
        refine AC.seq ?_
        refine AC.cond _ rfl (fun c16 => ?_) (fun c16 => ?_)
        · -- c16 True
          have hk := lt_of_decM c16
          obtain ⟨x, hx⟩ := get_some hk
          have hrow := map_row (enc := encSample) hx
          obtain ⟨y, hy⟩ := get_some (bestTo_le (lt := ltSample) (xs := xs) (k := k) (n := xs.length) (by omega) (by omega))
          have hrow2 := map_row (enc := encSample) hy
          have hl3 := sample_lim (all_at hall hx)
          have hl4 := sample_lim (all_at hall hy)
          refine AC.skip ?_
          refine AC.seq ?_
          refine AC.block ?_
          refine AC.seq ?_
          refine AC.region ?_
          refine AO.yld _ (Yld.move rfl) rfl rfl rfl ?_
          refine AO.yld _ (Yld.indexSl Tryd.underlying59 Tryd.sizeOf69 rfl rfl hrow rfl) rfl rfl rfl ?_
          refine AO.yld _ (Yld.loadAgg Tryd.isAgg69 Tryd.sizeOf69 rfl rfl rfl rfl) rfl rfl rfl ?_
          refine AO.alloc 0 Tryd.zeroValue69 rfl rfl rfl ?_
          refine AO.yld _ (Yld.assign rfl) rfl rfl rfl ?_
          refine AO.store Tryd.sizeOf69 rfl rfl rfl rfl rfl rfl ?_
          refine AO.nil ?_
          refine AC.seq ?_
          refine AC.draw (by kernel_rfl) (by kernel_rfl) ?_
          refine AO.yld _ (Yld.fieldAddr Tryd.underlying69 rfl rfl Tryd.sizeOf2 rfl rfl rfl) rfl rfl rfl ?_
          refine AO.yld _ (Yld.load Tryd.isAgg2 rfl rfl) rfl rfl rfl ?_
          refine AO.yld _ (Yld.fieldAddr Tryd.underlying69 rfl rfl Tryd.sizeOf2 rfl rfl rfl) rfl rfl rfl ?_
          refine AO.yld _ (Yld.load Tryd.isAgg2 rfl rfl) rfl rfl rfl ?_
          refine AO.yld _ (Yld.sub rfl rfl (by omega) (by omega)) rfl rfl rfl ?_
          refine AO.yld _ (Yld.move rfl) rfl rfl rfl ?_
          refine AO.yld _ (Yld.move rfl) rfl rfl rfl ?_
          refine AO.yld _ (Yld.indexSl Tryd.underlying59 Tryd.sizeOf69 rfl rfl hrow2 rfl) rfl rfl rfl ?_
          refine AO.yld _ (Yld.fieldAddr Tryd.underlying69 rfl rfl Tryd.sizeOf2 rfl rfl rfl) rfl rfl rfl ?_
          refine AO.yld _ (Yld.load Tryd.isAgg2 rfl rfl) rfl rfl rfl ?_
          refine AO.yld _ (Yld.move rfl) rfl rfl rfl ?_
          refine AO.yld _ (Yld.move rfl) rfl rfl rfl ?_
          refine AO.yld _ (Yld.indexSl Tryd.underlying59 Tryd.sizeOf69 rfl rfl hrow2 rfl) rfl rfl rfl ?_
          refine AO.yld _ (Yld.fieldAddr Tryd.underlying69 rfl rfl Tryd.sizeOf2 rfl rfl rfl) rfl rfl rfl ?_
          refine AO.yld _ (Yld.load Tryd.isAgg2 rfl rfl) rfl rfl rfl ?_
          refine AO.yld _ (Yld.sub rfl rfl (by omega) (by omega)) rfl rfl rfl ?_
          refine AO.yld _ (Yld.int rfl rfl rfl) rfl rfl rfl ?_
          refine AO.nil ?_
          refine AC.cond _ rfl (fun c36 => ?_) (fun c36 => ?_)
          · -- c36 True
            refine AC.region ?_
            refine AO.yld _ (Yld.move rfl) rfl rfl rfl ?_
            refine AO.yld _ (Yld.assign rfl) rfl rfl rfl ?_
            refine AO.nil ?_
            refine AC.mark ?_
            refine AC.region ?_
            refine AO.yld _ (Yld.add rfl rfl (by omega) (by omega)) rfl rfl rfl ?_
            refine AO.yld _ (Yld.move rfl) rfl rfl rfl ?_
            refine AO.nil ?_
            refine AC.back ⟨k + 1, ?_, ?_, ⟨?_, ?_, trivial⟩, trivial, ⟨rfl, rfl, rfl, rfl, rfl, trivial⟩, trivial⟩
            · exact hk
            · omega
            · rfl
            · show some (AV.p (PV.v (Value.int IntKind.i64 _))) = _; first | rw [bestTo_T hx hy (by simpa [ltSample] using c36)] | rw [bestTo_F hx hy (by simpa [ltSample] using c36)]
          · -- c36 False
            refine AC.skip ?_
            refine AC.mark ?_
            refine AC.region ?_
            refine AO.yld _ (Yld.add rfl rfl (by omega) (by omega)) rfl rfl rfl ?_
            refine AO.yld _ (Yld.move rfl) rfl rfl rfl ?_
            refine AO.nil ?_
            refine AC.back ⟨k + 1, ?_, ?_, ⟨?_, ?_, trivial⟩, trivial, ⟨rfl, rfl, rfl, rfl, rfl, trivial⟩, trivial⟩
            · exact hk
            · omega
            · rfl
            · show some (AV.p (PV.v (Value.int IntKind.i64 _))) = _; first | rw [bestTo_T hx hy (by simpa [ltSample] using c36)] | rw [bestTo_F hx hy (by simpa [ltSample] using c36)]
        · -- c16 False
          obtain rfl : k = xs.length := by have := ge_of_decM c16; omega
          refine AC.exit rfl ?_
          refine AC.seq ?_
          refine AC.region ?_
          refine AO.yld _ (Yld.move rfl) rfl rfl rfl ?_
          refine AO.yld _ (Yld.assign rfl) rfl rfl rfl ?_
          refine AO.yld _ (Yld.assign rfl) rfl rfl rfl ?_
          refine AO.nil ?_
          refine Pure.retT Tryd.results28 (RVs.cons (RV.tmp rfl) (RVs.cons (RV.tmp rfl) RVs.nil)) rfl ?_
          first
            | (have e : xs.all okSample = false := by have h := c8; rw [all_not] at h; simpa using h
               simp [bestSample, e])
            | (have e : (decide (1 ≤ xs.length) && decide (xs.length ≤ 24)) = false := by (have h := c12; simp only [List.length_map] at h; grind)
               simp only [bestSample, hall, e]; rfl)
            | (have e : (decide (1 ≤ xs.length) && decide (xs.length ≤ 24)) = true := by (simp; omega)
               simp only [bestSample, hall, e]; rfl)

theorem impl_checkMachines_c {xs : List Mach} (hn : xs.length ≤ 1048576) (hs : ∀ x ∈ xs, x.name.length ≤ 1048576) :
    Pure Tryd.prog 61 [.sl 3 (xs.map encMach)] (.v (.int .i64 (askMachines xs))) := by
  refine Pure.intro Tryd.func61 rfl Tryd.ntmps61 rfl rfl (fun w => ?_)
  refine AC.seq ?_
  refine AC.region ?_
  refine AO.yld _ (Yld.assign rfl) rfl rfl rfl ?_
  refine AO.nil ?_
  refine AC.seq ?_
  refine AC.block ?_
  refine AC.seq ?_
  refine AC.region ?_
  refine AO.yld _ (Yld.move rfl) rfl rfl rfl ?_
  refine AO.yld _ (Yld.call rfl rfl Tryd.call96 rfl rfl rfl (impl_ValidMachines_c (by first | assumption | omega) (by assumption)) rfl) rfl rfl rfl ?_
  refine AO.yld _ (Yld.not rfl) rfl rfl rfl ?_
  refine AO.yld _ (Yld.assign rfl) rfl rfl rfl ?_
  refine AO.nil ?_
  refine AC.cond _ rfl (fun c3 => ?_) (fun c3 => ?_)
  · -- c3 True
    refine AC.seq ?_
    refine AC.region ?_
    refine AO.yld _ (Yld.assign rfl) rfl rfl rfl ?_
    refine AO.nil ?_
    refine Pure.ret Tryd.results61 (RVs.cons (RV.tmp rfl) RVs.nil) rfl ?_
    first | (simp_all [askMachines]; done) | grind [askMachines]
  · -- c3 False
    refine AC.seq ?_
    refine AC.region ?_
    refine AO.yld _ (Yld.move rfl) rfl rfl rfl ?_
    refine AO.yld _ (Yld.len Tryd.underlying51 rfl rfl) rfl rfl rfl ?_
    refine AO.yld _ (Yld.int rfl rfl rfl) rfl rfl rfl ?_
    refine AO.yld _ (Yld.assign rfl) rfl rfl rfl ?_
    refine AO.nil ?_
    refine AC.cond _ rfl (fun c7 => ?_) (fun c7 => ?_)
    · -- c7 True
      refine AC.seq ?_
      refine AC.region ?_
      refine AO.yld _ (Yld.assign rfl) rfl rfl rfl ?_
      refine AO.nil ?_
      refine Pure.ret Tryd.results61 (RVs.cons (RV.tmp rfl) RVs.nil) rfl ?_
      first | (simp_all [askMachines]; done) | grind [askMachines]
    · -- c7 False
      refine AC.skip ?_
      refine AC.mark ?_
      refine AC.seq ?_
      refine AC.region ?_
      refine AO.yld _ (Yld.assign rfl) rfl rfl rfl ?_
      refine AO.nil ?_
      refine Pure.ret Tryd.results61 (RVs.cons (RV.tmp rfl) RVs.nil) rfl ?_
      first | (simp_all [askMachines]; done) | grind [askMachines]

theorem impl_MachineOf_c {n : List UInt8} {xs : List Sample} (hs : n.length ≤ 1048576) (hn : xs.length ≤ 1048576) :
    Pure Tryd.prog 27 [.v (str n), .sl 3 (xs.map encSample)] (.tup [.agg (encMach (machineOf n xs).1), .v (.int .i64 (machineOf n xs).2)]) := by
  refine Pure.intro Tryd.func27 rfl Tryd.ntmps27 rfl rfl (fun w => ?_)
  refine AC.seq ?_
  refine AC.region ?_
  refine AO.alloc 0 Tryd.zeroValue58 rfl rfl rfl ?_
  refine AO.yld _ (Yld.assign rfl) rfl rfl rfl ?_
  refine AO.nil ?_
  refine AC.seq ?_
  refine AC.region ?_
  refine AO.yld _ (Yld.move rfl) rfl rfl rfl ?_
  refine AO.yld _ (Yld.call rfl rfl Tryd.call28 rfl rfl rfl (impl_BestSample_c (by first | assumption | omega)) rfl) rfl rfl rfl ?_
  refine AO.yld _ (Yld.move rfl) rfl rfl rfl ?_
  refine AO.yld _ (Yld.extract rfl rfl rfl) rfl rfl rfl ?_
  refine AO.yld _ (Yld.extract rfl rfl rfl) rfl rfl rfl ?_
  refine AO.yld _ (Yld.assign rfl) rfl rfl rfl ?_
  refine AO.yld _ (Yld.assign rfl) rfl rfl rfl ?_
  refine AO.nil ?_
  refine AC.seq ?_
  refine AC.seq ?_
  refine AC.region ?_
  refine AO.yld _ (Yld.move rfl) rfl rfl rfl ?_
  refine AO.yld _ (Yld.call rfl rfl Tryd.call66 rfl rfl rfl (impl_IsName_c (by first | assumption | omega)) rfl) rfl rfl rfl ?_
  refine AO.yld _ (Yld.not rfl) rfl rfl rfl ?_
  refine AO.nil ?_
  refine AC.cond _ rfl (fun c18 => ?_) (fun c18 => ?_)
  · -- c18 True
    refine AC.seq ?_
    refine AC.region ?_
    refine AO.yld _ (Yld.buildA (zs := [.v (str []), .v (.int .i64 0), .v (.int .i64 0)]) bld58 rfl rfl) rfl rfl rfl ?_
    refine AO.store Tryd.sizeOf58 rfl rfl rfl rfl rfl rfl ?_
    refine AO.yld _ (Yld.assign rfl) rfl rfl rfl ?_
    refine AO.nil ?_
    refine Pure.retT Tryd.results27 (RVs.cons (RV.cell Tryd.isAgg58 Tryd.sizeOf58 rfl rfl rfl rfl) (RVs.cons (RV.tmp rfl) RVs.nil)) rfl ?_
    first | (simp_all [machineOf, encMach]; done) | (simp only [machineOf, encMach]; simp_all; done) | (simp only [machineOf, encMach, hb0, hxe]; simp_all)
  · -- c18 False
    refine AC.skip ?_
    refine AC.seq ?_
    refine AC.seq ?_
    refine AC.region ?_
    refine AO.yld _ (Yld.move rfl) rfl rfl rfl ?_
    refine AO.yld _ (Yld.int rfl rfl rfl) rfl rfl rfl ?_
    refine AO.nil ?_
    refine AC.cond _ rfl (fun c21 => ?_) (fun c21 => ?_)
    · -- c21 True
      refine AC.seq ?_
      refine AC.region ?_
      refine AO.yld _ (Yld.buildA (zs := [.v (str []), .v (.int .i64 0), .v (.int .i64 0)]) bld58 rfl rfl) rfl rfl rfl ?_
      refine AO.yld _ (Yld.move rfl) rfl rfl rfl ?_
      refine AO.store Tryd.sizeOf58 rfl rfl rfl rfl rfl rfl ?_
      refine AO.yld _ (Yld.assign rfl) rfl rfl rfl ?_
      refine AO.nil ?_
      refine Pure.retT Tryd.results27 (RVs.cons (RV.cell Tryd.isAgg58 Tryd.sizeOf58 rfl rfl rfl rfl) (RVs.cons (RV.tmp rfl) RVs.nil)) rfl ?_
      first | (simp_all [machineOf, encMach]; done) | (simp only [machineOf, encMach]; simp_all; done) | (simp only [machineOf, encMach, hb0, hxe]; simp_all)
    · -- c21 False
      have hb0 : (bestSample xs).2 = 0 := by first | (have h := c21; simp at h; exact h) | (exact absurd c21 (by decide))
      obtain ⟨kb, x, hx, hbk, hxe⟩ := best_ok hb0
      have hrow := map_row (enc := encSample) hx
      refine AC.skip ?_
      refine AC.seq ?_
      refine AC.region ?_
      refine AO.yld _ (Yld.move rfl) rfl rfl rfl ?_
      refine AO.yld _ (Yld.move rfl) rfl rfl rfl ?_
      refine AO.yld _ (Yld.indexSl Tryd.underlying59 Tryd.sizeOf69 rfl rfl hrow hbk) rfl rfl rfl ?_
      refine AO.yld _ (Yld.loadAgg Tryd.isAgg69 Tryd.sizeOf69 rfl rfl rfl rfl) rfl rfl rfl ?_
      refine AO.yld _ (Yld.call rfl rfl Tryd.call30 rfl rfl rfl (impl_OffsetOf_c) rfl) rfl rfl rfl ?_
      refine AO.yld _ (Yld.move rfl) rfl rfl rfl ?_
      refine AO.yld _ (Yld.extract rfl rfl rfl) rfl rfl rfl ?_
      refine AO.yld _ (Yld.extract rfl rfl rfl) rfl rfl rfl ?_
      refine AO.yld _ (Yld.extract rfl rfl rfl) rfl rfl rfl ?_
      refine AO.yld _ (Yld.assign rfl) rfl rfl rfl ?_
      refine AO.yld _ (Yld.assign rfl) rfl rfl rfl ?_
      refine AO.yld _ (Yld.assign rfl) rfl rfl rfl ?_
      refine AO.nil ?_
      refine AC.seq ?_
      refine AC.region ?_
      refine AO.yld _ (Yld.move rfl) rfl rfl rfl ?_
      refine AO.yld _ (Yld.move rfl) rfl rfl rfl ?_
      refine AO.yld _ (Yld.move rfl) rfl rfl rfl ?_
      refine AO.yld _ (Yld.buildA (zs := [.v (str []), .v (.int .i64 0), .v (.int .i64 0)]) bld58 rfl rfl) rfl rfl rfl ?_
      refine AO.store Tryd.sizeOf58 rfl rfl rfl rfl rfl rfl ?_
      refine AO.yld _ (Yld.assign rfl) rfl rfl rfl ?_
      refine AO.nil ?_
      refine Pure.retT Tryd.results27 (RVs.cons (RV.cell Tryd.isAgg58 Tryd.sizeOf58 rfl rfl rfl rfl) (RVs.cons (RV.tmp rfl) RVs.nil)) rfl ?_
      first | (simp_all [machineOf, encMach]; done) | (simp only [machineOf, encMach]; simp_all; done) | (simp only [machineOf, encMach, hb0, hxe]; simp_all)

theorem impl_liesIn_c {x : Mach} {b : Int} (h : okMachine x = true) :
    Pure Tryd.prog 63 [.agg (encMach x), .v (.int .i64 b)] (.v (.bool (liesB x b))) := by
  have hl := mach_lim h
  refine Pure.intro Tryd.func63 rfl Tryd.ntmps63 rfl rfl (fun w => ?_)
  refine AC.seq ?_
  refine AC.region ?_
  refine AO.box 0 rfl rfl rfl rfl rfl ?_
  refine AO.yld _ (Yld.assign rfl) rfl rfl rfl ?_
  refine AO.nil ?_
  refine AC.seq ?_
  refine AC.region ?_
  refine AO.yld _ (Yld.move rfl) rfl rfl rfl ?_
  refine AO.yld _ (Yld.fieldAddr Tryd.underlying58 rfl rfl Tryd.sizeOf2 rfl rfl rfl) rfl rfl rfl ?_
  refine AO.yld _ (Yld.load Tryd.isAgg2 rfl rfl) rfl rfl rfl ?_
  refine AO.yld _ (Yld.fieldAddr Tryd.underlying58 rfl rfl Tryd.sizeOf2 rfl rfl rfl) rfl rfl rfl ?_
  refine AO.yld _ (Yld.load Tryd.isAgg2 rfl rfl) rfl rfl rfl ?_
  refine AO.yld _ (Yld.sub rfl rfl (by omega) (by omega)) rfl rfl rfl ?_
  refine AO.yld _ (Yld.fieldAddr Tryd.underlying58 rfl rfl Tryd.sizeOf2 rfl rfl rfl) rfl rfl rfl ?_
  refine AO.yld _ (Yld.load Tryd.isAgg2 rfl rfl) rfl rfl rfl ?_
  refine AO.yld _ (Yld.fieldAddr Tryd.underlying58 rfl rfl Tryd.sizeOf2 rfl rfl rfl) rfl rfl rfl ?_
  refine AO.yld _ (Yld.load Tryd.isAgg2 rfl rfl) rfl rfl rfl ?_
  refine AO.yld _ (Yld.add rfl rfl (by omega) (by omega)) rfl rfl rfl ?_
  refine AO.yld _ (Yld.call rfl rfl Tryd.call51 rfl rfl rfl (impl_within_c) rfl) rfl rfl rfl ?_
  refine AO.yld _ (Yld.assign rfl) rfl rfl rfl ?_
  refine AO.nil ?_
  refine Pure.ret Tryd.results63 (RVs.cons (RV.tmp rfl) RVs.nil) rfl ?_
  rfl

theorem impl_agreedOffset_c {xs : List Mach} (hn : xs.length ≤ 1048576) (hok : okMachines xs = true) :
    Pure Tryd.prog 62 [.sl 3 (xs.map encMach)] (.tup [.v (.int .i64 (bestB xs xs.length).1), .v (.int .i64 (bestB xs xs.length).2)]) := by
  refine Pure.intro Tryd.func62 rfl Tryd.ntmps62 rfl rfl (fun w => ?_)
  refine AC.seq ?_
  refine AC.region ?_
  refine AO.yld _ (Yld.assign rfl) rfl rfl rfl ?_
  refine AO.yld _ (Yld.assign rfl) rfl rfl rfl ?_
  refine AO.nil ?_
  refine AC.seq ?_
  refine AC.region ?_
  refine AO.yld _ (Yld.assign rfl) rfl rfl rfl ?_
  refine AO.yld _ (Yld.assign rfl) rfl rfl rfl ?_
  refine AO.nil ?_
  refine AC.seq ?_
  refine AC.seq ?_
  refine AC.region ?_
  refine AO.yld _ (Yld.move rfl) rfl rfl rfl ?_
  refine AO.yld _ (Yld.len Tryd.underlying51 rfl rfl) rfl rfl rfl ?_
  refine AO.yld _ (Yld.move rfl) rfl rfl rfl ?_
  refine AO.nil ?_
  refine AC.block ?_
  refine AC.loopC [(0, _), (2, _), (3, _), (12, _), (13, _)] [] (fun (k : Nat) => [(14, .p (.v (.int .i64 (k : Int)))), (4, .p (.v (.int .i64 (bestB xs k).1))), (5, .p (.v (.int .i64 (bestB xs k).2)))]) (fun (k : Nat) => []) (fun (k : Nat) => k ≤ xs.length) (fun (k : Nat) => xs.length - k) 0 ⟨rfl, rfl, rfl, rfl, rfl, trivial⟩ trivial ⟨rfl, rfl, rfl, trivial⟩ trivial ?_ (fun k hJ => ?_)
  · exact Nat.zero_le _
  · -- round
    refine AC.seq ?_
    refine AC.region ?_
    refine AO.yld _ (Yld.int rfl rfl rfl) rfl rfl rfl ?_
    refine AO.nil ?_
    refine AC.seq ?_
    refine AC.cond _ rfl (fun c15 => ?_) (fun c15 => ?_)
    · -- c15 True
      have hk := lt_of_decM c15
      obtain ⟨x, hx⟩ := get_some hk
      have hrow := map_row (enc := encMach) hx
      have hox := machines_at hok hx
      have hlx := mach_lim hox
      have hbx : beginOf x = x.offset - x.delay := rfl
      have hlb := bestB_lim hok k
      refine AC.skip ?_
      refine AC.seq ?_
      refine AC.block ?_
      refine AC.seq ?_
      refine AC.region ?_
      refine AO.yld _ (Yld.indexSl Tryd.underlying51 Tryd.sizeOf58 rfl rfl hrow rfl) rfl rfl rfl ?_
      refine AO.yld _ (Yld.loadAgg Tryd.isAgg58 Tryd.sizeOf58 rfl rfl rfl rfl) rfl rfl rfl ?_
      refine AO.alloc 0 Tryd.zeroValue58 rfl rfl rfl ?_
      refine AO.store Tryd.sizeOf58 rfl rfl rfl rfl rfl rfl ?_
      refine AO.nil ?_
      refine AC.seq ?_
      refine AC.region ?_
      refine AO.yld _ (Yld.fieldAddr Tryd.underlying58 rfl rfl Tryd.sizeOf2 rfl rfl rfl) rfl rfl rfl ?_
      refine AO.yld _ (Yld.load Tryd.isAgg2 rfl rfl) rfl rfl rfl ?_
      refine AO.yld _ (Yld.fieldAddr Tryd.underlying58 rfl rfl Tryd.sizeOf2 rfl rfl rfl) rfl rfl rfl ?_
      refine AO.yld _ (Yld.load Tryd.isAgg2 rfl rfl) rfl rfl rfl ?_
      refine AO.yld _ (Yld.sub rfl rfl (by omega) (by omega)) rfl rfl rfl ?_
      refine AO.yld _ (Yld.assign rfl) rfl rfl rfl ?_
      refine AO.nil ?_
      refine AC.seq ?_
      refine AC.region ?_
      refine AO.yld _ (Yld.assign rfl) rfl rfl rfl ?_
      refine AO.nil ?_
      refine AC.seq ?_
      refine AC.seq ?_
      refine AC.region ?_
      refine AO.yld _ (Yld.move rfl) rfl rfl rfl ?_
      refine AO.yld _ (Yld.len Tryd.underlying51 rfl rfl) rfl rfl rfl ?_
      refine AO.yld _ (Yld.move rfl) rfl rfl rfl ?_
      refine AO.nil ?_
      refine AC.block ?_
      refine AC.loopC [(0, _), (2, _), (3, _), (4, _), (5, _), (8, _), (12, _), (13, _), (14, _), (23, _), (24, _)] [(0, _)] (fun (j : Nat) => [(25, .p (.v (.int .i64 (j : Int)))), (9, .p (.v (.int .i64 (countTo xs (beginOf x) j))))]) (fun (j : Nat) => []) (fun (j : Nat) => j ≤ xs.length) (fun (j : Nat) => xs.length - j) 0 ⟨rfl, rfl, rfl, rfl, rfl, rfl, rfl, rfl, rfl, rfl, rfl, trivial⟩ ⟨rfl, trivial⟩ ⟨rfl, rfl, trivial⟩ trivial ?_ (fun j hI => ?_)
      · exact Nat.zero_le _
      · -- round
        refine AC.seq ?_
        refine AC.region ?_
        refine AO.yld _ (Yld.int rfl rfl rfl) rfl rfl rfl ?_
        refine AO.nil ?_
        refine AC.seq ?_
        refine AC.cond _ rfl (fun c26 => ?_) (fun c26 => ?_)
        · -- c26 True
          have hj := lt_of_decM c26
          obtain ⟨y, hy⟩ := get_some hj
          have hrowy := map_row (enc := encMach) hy
          have hoy := machines_at hok hy
          have hly := mach_lim hoy
          have hlc := countTo_lim (xs := xs) (b := beginOf x) j
          refine AC.skip ?_
          refine AC.seq ?_
          refine AC.block ?_
          refine AC.seq ?_
          refine AC.region ?_
          refine AO.yld _ (Yld.indexSl Tryd.underlying51 Tryd.sizeOf58 rfl rfl hrowy rfl) rfl rfl rfl ?_
          refine AO.yld _ (Yld.loadAgg Tryd.isAgg58 Tryd.sizeOf58 rfl rfl rfl rfl) rfl rfl rfl ?_
          refine AO.alloc 1 Tryd.zeroValue58 rfl rfl rfl ?_
          refine AO.store Tryd.sizeOf58 rfl rfl rfl rfl rfl rfl ?_
          refine AO.nil ?_
          refine AC.seq ?_
          refine AC.region ?_
          refine AO.yld _ (Yld.loadAgg Tryd.isAgg58 Tryd.sizeOf58 rfl rfl rfl rfl) rfl rfl rfl ?_
          refine AO.yld _ (Yld.move rfl) rfl rfl rfl ?_
          refine AO.yld _ (Yld.call rfl rfl Tryd.call63 rfl rfl rfl (impl_liesIn_c (by assumption)) rfl) rfl rfl rfl ?_
          refine AO.nil ?_
          refine AC.cond _ rfl (fun c31 => ?_) (fun c31 => ?_)
          · -- c31 True
            refine AC.region ?_
            refine AO.yld _ (Yld.move rfl) rfl rfl rfl ?_
            refine AO.yld _ (Yld.add rfl rfl (by omega) (by omega)) rfl rfl rfl ?_
            refine AO.yld _ (Yld.assign rfl) rfl rfl rfl ?_
            refine AO.nil ?_
            refine AC.mark ?_
            refine AC.region ?_
            refine AO.yld _ (Yld.add rfl rfl (by omega) (by omega)) rfl rfl rfl ?_
            refine AO.yld _ (Yld.move rfl) rfl rfl rfl ?_
            refine AO.nil ?_
            refine AC.back ⟨j + 1, ?_, ?_, ⟨?_, ?_, trivial⟩, trivial, ⟨rfl, rfl, rfl, rfl, rfl, rfl, rfl, rfl, rfl, rfl, rfl, trivial⟩, ⟨rfl, trivial⟩⟩
            · exact hj
            · omega
            · rfl
            · show some (AV.p (PV.v (Value.int IntKind.i64 _))) = _; first | rw [countTo_T (b := beginOf x) hy c31] | rw [countTo_F (b := beginOf x) hy c31]
          · -- c31 False
            refine AC.skip ?_
            refine AC.mark ?_
            refine AC.region ?_
            refine AO.yld _ (Yld.add rfl rfl (by omega) (by omega)) rfl rfl rfl ?_
            refine AO.yld _ (Yld.move rfl) rfl rfl rfl ?_
            refine AO.nil ?_
            refine AC.back ⟨j + 1, ?_, ?_, ⟨?_, ?_, trivial⟩, trivial, ⟨rfl, rfl, rfl, rfl, rfl, rfl, rfl, rfl, rfl, rfl, rfl, trivial⟩, ⟨rfl, trivial⟩⟩
            · exact hj
            · omega
            · rfl
            · show some (AV.p (PV.v (Value.int IntKind.i64 _))) = _; first | rw [countTo_T (b := beginOf x) hy c31] | rw [countTo_F (b := beginOf x) hy c31]
        · -- c26 False
          obtain rfl : j = xs.length := by have := ge_of_decM c26; omega
          have hlc := countTo_lim (xs := xs) (b := beginOf x) xs.length
          refine AC.exit rfl ?_
          refine AC.seq ?_
          refine AC.region ?_
          refine AO.yld _ (Yld.move rfl) rfl rfl rfl ?_
          refine AO.yld _ (Yld.move rfl) rfl rfl rfl ?_
          refine AO.yld _ (Yld.int rfl rfl rfl) rfl rfl rfl ?_
          refine AO.yld _ (Yld.move rfl) rfl rfl rfl ?_
          refine AO.splitAt 38 _ rfl (fun s38 => ?_) (fun s38 => ?_)
          · -- s38 True
            refine AO.skipF rfl rfl rfl rfl rfl ?_
            refine AO.skipF rfl rfl rfl rfl rfl ?_
            refine AO.skipF rfl rfl rfl rfl rfl ?_
            refine AO.skipF rfl rfl rfl rfl rfl ?_
            refine AO.skipU rfl rfl rfl rfl rfl ?_
            refine AO.skipU rfl rfl rfl rfl rfl ?_
            refine AO.skipU rfl rfl rfl rfl rfl ?_
            refine AO.skipF rfl rfl rfl rfl rfl ?_
            refine AO.yld _ (Yld.pickT rfl rfl) rfl rfl rfl ?_
            refine AO.nil ?_
            refine AC.condT rfl ?_
            refine AC.region ?_
            refine AO.yld _ (Yld.move rfl) rfl rfl rfl ?_
            refine AO.yld _ (Yld.move rfl) rfl rfl rfl ?_
            refine AO.yld _ (Yld.assign rfl) rfl rfl rfl ?_
            refine AO.yld _ (Yld.assign rfl) rfl rfl rfl ?_
            refine AO.nil ?_
            refine AC.mark ?_
            refine AC.region ?_
            refine AO.yld _ (Yld.add rfl rfl (by omega) (by omega)) rfl rfl rfl ?_
            refine AO.yld _ (Yld.move rfl) rfl rfl rfl ?_
            refine AO.nil ?_
            refine AC.back ⟨k + 1, ?_, ?_, ⟨?_, ?_, ?_, trivial⟩, trivial, ⟨rfl, rfl, rfl, rfl, rfl, trivial⟩, trivial⟩
            · exact hk
            · omega
            · rfl
            · show some (AV.p (PV.v (Value.int IntKind.i64 _))) = _; first | (rw [bestB_T hx (by (try simp at *); omega)]; done) | (rw [bestB_T hx (by (try simp at *); omega)]; rfl) | rw [bestB_F hx (by (try simp at *); omega)]
            · show some (AV.p (PV.v (Value.int IntKind.i64 _))) = _; first | (rw [bestB_T hx (by (try simp at *); omega)]; done) | (rw [bestB_T hx (by (try simp at *); omega)]; rfl) | rw [bestB_F hx (by (try simp at *); omega)]
          · -- s38 False
            refine AO.yldG _ (Yld.move rfl) rfl rfl rfl rfl rfl ?_
            refine AO.yldG _ (Yld.move rfl) rfl rfl rfl rfl rfl ?_
            refine AO.yldG _ (Yld.int rfl rfl rfl) rfl rfl rfl rfl rfl ?_
            refine AO.yldG _ (Yld.move rfl) rfl rfl rfl rfl rfl ?_
            refine AO.splitAt 42 _ rfl (fun s42 => ?_) (fun s42 => ?_)
            · -- s42 True
              refine AO.yldG _ (Yld.move rfl) rfl rfl rfl rfl rfl ?_
              refine AO.yldG _ (Yld.move rfl) rfl rfl rfl rfl rfl ?_
              refine AO.yldG _ (Yld.int rfl rfl rfl) rfl rfl rfl rfl rfl ?_
              refine AO.yldG _ (Yld.pickT rfl rfl) rfl rfl rfl rfl rfl ?_
              refine AO.yld _ (Yld.pickF rfl rfl) rfl rfl rfl ?_
              refine AO.nil ?_
              refine AC.cond _ rfl (fun c47 => ?_) (fun c47 => ?_)
              · -- c47 True
                refine AC.region ?_
                refine AO.yld _ (Yld.move rfl) rfl rfl rfl ?_
                refine AO.yld _ (Yld.move rfl) rfl rfl rfl ?_
                refine AO.yld _ (Yld.assign rfl) rfl rfl rfl ?_
                refine AO.yld _ (Yld.assign rfl) rfl rfl rfl ?_
                refine AO.nil ?_
                refine AC.mark ?_
                refine AC.region ?_
                refine AO.yld _ (Yld.add rfl rfl (by omega) (by omega)) rfl rfl rfl ?_
                refine AO.yld _ (Yld.move rfl) rfl rfl rfl ?_
                refine AO.nil ?_
                refine AC.back ⟨k + 1, ?_, ?_, ⟨?_, ?_, ?_, trivial⟩, trivial, ⟨rfl, rfl, rfl, rfl, rfl, trivial⟩, trivial⟩
                · exact hk
                · omega
                · rfl
                · show some (AV.p (PV.v (Value.int IntKind.i64 _))) = _; first | (rw [bestB_T hx (by (try simp at *); omega)]; done) | (rw [bestB_T hx (by (try simp at *); omega)]; rfl) | rw [bestB_F hx (by (try simp at *); omega)]
                · show some (AV.p (PV.v (Value.int IntKind.i64 _))) = _; first | (rw [bestB_T hx (by (try simp at *); omega)]; done) | (rw [bestB_T hx (by (try simp at *); omega)]; rfl) | rw [bestB_F hx (by (try simp at *); omega)]
              · -- c47 False
                refine AC.skip ?_
                refine AC.mark ?_
                refine AC.region ?_
                refine AO.yld _ (Yld.add rfl rfl (by omega) (by omega)) rfl rfl rfl ?_
                refine AO.yld _ (Yld.move rfl) rfl rfl rfl ?_
                refine AO.nil ?_
                refine AC.back ⟨k + 1, ?_, ?_, ⟨?_, ?_, ?_, trivial⟩, trivial, ⟨rfl, rfl, rfl, rfl, rfl, trivial⟩, trivial⟩
                · exact hk
                · omega
                · rfl
                · show some (AV.p (PV.v (Value.int IntKind.i64 _))) = _; first | (rw [bestB_T hx (by (try simp at *); omega)]; done) | (rw [bestB_T hx (by (try simp at *); omega)]; rfl) | rw [bestB_F hx (by (try simp at *); omega)]
                · show some (AV.p (PV.v (Value.int IntKind.i64 _))) = _; first | (rw [bestB_T hx (by (try simp at *); omega)]; done) | (rw [bestB_T hx (by (try simp at *); omega)]; rfl) | rw [bestB_F hx (by (try simp at *); omega)]
            · -- s42 False
              refine AO.skipT rfl rfl rfl rfl rfl ?_
              refine AO.skipT rfl rfl rfl rfl rfl ?_
              refine AO.skipT rfl rfl rfl rfl rfl ?_
              refine AO.yldG _ (Yld.pickF rfl rfl) rfl rfl rfl rfl rfl ?_
              refine AO.yld _ (Yld.pickF rfl rfl) rfl rfl rfl ?_
              refine AO.nil ?_
              refine AC.condF rfl ?_
              refine AC.skip ?_
              refine AC.mark ?_
              refine AC.region ?_
              refine AO.yld _ (Yld.add rfl rfl (by omega) (by omega)) rfl rfl rfl ?_
              refine AO.yld _ (Yld.move rfl) rfl rfl rfl ?_
              refine AO.nil ?_
              refine AC.back ⟨k + 1, ?_, ?_, ⟨?_, ?_, ?_, trivial⟩, trivial, ⟨rfl, rfl, rfl, rfl, rfl, trivial⟩, trivial⟩
              · exact hk
              · omega
              · rfl
              · show some (AV.p (PV.v (Value.int IntKind.i64 _))) = _; first | (rw [bestB_T hx (by (try simp at *); omega)]; done) | (rw [bestB_T hx (by (try simp at *); omega)]; rfl) | rw [bestB_F hx (by (try simp at *); omega)]
              · show some (AV.p (PV.v (Value.int IntKind.i64 _))) = _; first | (rw [bestB_T hx (by (try simp at *); omega)]; done) | (rw [bestB_T hx (by (try simp at *); omega)]; rfl) | rw [bestB_F hx (by (try simp at *); omega)]
    · -- c15 False
      obtain rfl : k = xs.length := by have := ge_of_decM c15; omega
      refine AC.exit rfl ?_
      refine AC.seq ?_
      refine AC.region ?_
      refine AO.yld _ (Yld.move rfl) rfl rfl rfl ?_
      refine AO.yld _ (Yld.move rfl) rfl rfl rfl ?_
      refine AO.yld _ (Yld.assign rfl) rfl rfl rfl ?_
      refine AO.yld _ (Yld.assign rfl) rfl rfl rfl ?_
      refine AO.nil ?_
      refine Pure.retT Tryd.results62 (RVs.cons (RV.tmp rfl) (RVs.cons (RV.tmp rfl) RVs.nil)) rfl ?_
      rfl

theorem impl_AgreedOffset_c {xs : List Mach} (hn : xs.length ≤ 1048576) (hs : ∀ x ∈ xs, x.name.length ≤ 1048576) :
    Pure Tryd.prog 23 [.sl 3 (xs.map encMach)] (.tup [.v (.int .i64 (agreedOffset xs).1), .v (.int .i64 (agreedOffset xs).2.1), .v (.int .i64 (agreedOffset xs).2.2.1), .v (.int .i64 (agreedOffset xs).2.2.2)]) := by
  refine Pure.intro Tryd.func23 rfl Tryd.ntmps23 rfl rfl (fun w => ?_)
  refine AC.seq ?_
  refine AC.region ?_
  refine AO.yld _ (Yld.assign rfl) rfl rfl rfl ?_
  refine AO.yld _ (Yld.assign rfl) rfl rfl rfl ?_
  refine AO.yld _ (Yld.assign rfl) rfl rfl rfl ?_
  refine AO.yld _ (Yld.assign rfl) rfl rfl rfl ?_
  refine AO.nil ?_
  refine AC.seq ?_
  refine AC.seq ?_
  refine AC.region ?_
  refine AO.yld _ (Yld.move rfl) rfl rfl rfl ?_
  refine AO.yld _ (Yld.call rfl rfl Tryd.call61 rfl rfl rfl (impl_checkMachines_c (by first | assumption | omega) (by assumption)) rfl) rfl rfl rfl ?_
  refine AO.yld _ (Yld.assign rfl) rfl rfl rfl ?_
  refine AO.nil ?_
  refine AC.seq ?_
  refine AC.region ?_
  refine AO.yld _ (Yld.move rfl) rfl rfl rfl ?_
  refine AO.yld _ (Yld.int rfl rfl rfl) rfl rfl rfl ?_
  refine AO.nil ?_
  refine AC.cond _ rfl (fun c15 => ?_) (fun c15 => ?_)
  · -- c15 True
    refine AC.seq ?_
    refine AC.region ?_
    refine AO.yld _ (Yld.move rfl) rfl rfl rfl ?_
    refine AO.yld _ (Yld.assign rfl) rfl rfl rfl ?_
    refine AO.yld _ (Yld.assign rfl) rfl rfl rfl ?_
    refine AO.yld _ (Yld.assign rfl) rfl rfl rfl ?_
    refine AO.yld _ (Yld.assign rfl) rfl rfl rfl ?_
    refine AO.nil ?_
    refine Pure.retT Tryd.results23 (RVs.cons (RV.tmp rfl) (RVs.cons (RV.tmp rfl) (RVs.cons (RV.tmp rfl) (RVs.cons (RV.tmp rfl) RVs.nil)))) rfl ?_
    first | (exact agreed_bad (by simpa using c15)) | (exact agreed_ok hk0 (by omega))
  · -- c15 False
    have hk0 : askMachines xs = 0 := by first | (simpa using c15) | (exact absurd c15 (by decide))
    have hok := (ask_ok hk0).1
    have hlen := (ask_ok hk0).2
    refine AC.skip ?_
    refine AC.seq ?_
    refine AC.region ?_
    refine AO.yld _ (Yld.move rfl) rfl rfl rfl ?_
    refine AO.yld _ (Yld.call rfl rfl Tryd.call62 rfl rfl rfl (impl_agreedOffset_c (by first | assumption | omega) (by assumption)) rfl) rfl rfl rfl ?_
    refine AO.yld _ (Yld.move rfl) rfl rfl rfl ?_
    refine AO.yld _ (Yld.extract rfl rfl rfl) rfl rfl rfl ?_
    refine AO.yld _ (Yld.extract rfl rfl rfl) rfl rfl rfl ?_
    refine AO.yld _ (Yld.assign rfl) rfl rfl rfl ?_
    refine AO.yld _ (Yld.assign rfl) rfl rfl rfl ?_
    refine AO.nil ?_
    refine AC.seq ?_
    refine AC.region ?_
    refine AO.yld _ (Yld.assign rfl) rfl rfl rfl ?_
    refine AO.nil ?_
    refine AC.seq ?_
    refine AC.seq ?_
    refine AC.region ?_
    refine AO.yld _ (Yld.move rfl) rfl rfl rfl ?_
    refine AO.yld _ (Yld.len Tryd.underlying51 rfl rfl) rfl rfl rfl ?_
    refine AO.yld _ (Yld.move rfl) rfl rfl rfl ?_
    refine AO.nil ?_
    refine AC.block ?_
    refine AC.loopC [(2, _), (3, _), (4, _), (5, _), (7, _), (8, _), (22, _), (23, _)] [] (fun (k : Nat) => [(24, .p (.v (.int .i64 (k : Int)))), (9, .p (.v (.int .i64 (endTo xs (bestB xs xs.length).1 3000000000 k))))]) (fun (k : Nat) => []) (fun (k : Nat) => k ≤ xs.length) (fun (k : Nat) => xs.length - k) 0 ⟨rfl, rfl, rfl, rfl, rfl, rfl, rfl, rfl, trivial⟩ trivial ⟨rfl, rfl, trivial⟩ trivial ?_ (fun k hJ => ?_)
    · exact Nat.zero_le _
    · -- round
      refine AC.seq ?_
      refine AC.region ?_
      refine AO.yld _ (Yld.int rfl rfl rfl) rfl rfl rfl ?_
      refine AO.nil ?_
      refine AC.seq ?_
      refine AC.cond _ rfl (fun c25 => ?_) (fun c25 => ?_)
      · -- c25 True
        have hk := lt_of_decM c25
        obtain ⟨x, hx⟩ := get_some hk
        have hrow := map_row (enc := encMach) hx
        have hox := machines_at hok hx
        have hlx := mach_lim hox
        refine AC.skip ?_
        refine AC.seq ?_
        refine AC.block ?_
        refine AC.seq ?_
        refine AC.region ?_
        refine AO.yld _ (Yld.indexSl Tryd.underlying51 Tryd.sizeOf58 rfl rfl hrow rfl) rfl rfl rfl ?_
        refine AO.yld _ (Yld.loadAgg Tryd.isAgg58 Tryd.sizeOf58 rfl rfl rfl rfl) rfl rfl rfl ?_
        refine AO.alloc 0 Tryd.zeroValue58 rfl rfl rfl ?_
        refine AO.store Tryd.sizeOf58 rfl rfl rfl rfl rfl rfl ?_
        refine AO.nil ?_
        refine AC.seq ?_
        refine AC.region ?_
        refine AO.yld _ (Yld.loadAgg Tryd.isAgg58 Tryd.sizeOf58 rfl rfl rfl rfl) rfl rfl rfl ?_
        refine AO.yld _ (Yld.move rfl) rfl rfl rfl ?_
        refine AO.yld _ (Yld.call rfl rfl Tryd.call63 rfl rfl rfl (impl_liesIn_c (by assumption)) rfl) rfl rfl rfl ?_
        refine AO.nil ?_
        refine AC.cond _ rfl (fun c30 => ?_) (fun c30 => ?_)
        · -- c30 True
          refine AC.region ?_
          refine AO.yld _ (Yld.move rfl) rfl rfl rfl ?_
          refine AO.yld _ (Yld.fieldAddr Tryd.underlying58 rfl rfl Tryd.sizeOf2 rfl rfl rfl) rfl rfl rfl ?_
          refine AO.yld _ (Yld.load Tryd.isAgg2 rfl rfl) rfl rfl rfl ?_
          refine AO.yld _ (Yld.fieldAddr Tryd.underlying58 rfl rfl Tryd.sizeOf2 rfl rfl rfl) rfl rfl rfl ?_
          refine AO.yld _ (Yld.load Tryd.isAgg2 rfl rfl) rfl rfl rfl ?_
          refine AO.yld _ (Yld.add rfl rfl (by omega) (by omega)) rfl rfl rfl ?_
          refine AO.yld _ (Yld.min2 rfl rfl) rfl rfl rfl ?_
          refine AO.yld _ (Yld.assign rfl) rfl rfl rfl ?_
          refine AO.nil ?_
          refine AC.mark ?_
          refine AC.region ?_
          refine AO.yld _ (Yld.add rfl rfl (by omega) (by omega)) rfl rfl rfl ?_
          refine AO.yld _ (Yld.move rfl) rfl rfl rfl ?_
          refine AO.nil ?_
          refine AC.back ⟨k + 1, ?_, ?_, ⟨?_, ?_, trivial⟩, trivial, ⟨rfl, rfl, rfl, rfl, rfl, rfl, rfl, rfl, trivial⟩, trivial⟩
          · exact hk
          · omega
          · rfl
          · show some (AV.p (PV.v (Value.int IntKind.i64 _))) = _; first | (rw [endTo_T hx c30]; rfl) | rw [endTo_F hx c30]
        · -- c30 False
          refine AC.skip ?_
          refine AC.mark ?_
          refine AC.region ?_
          refine AO.yld _ (Yld.add rfl rfl (by omega) (by omega)) rfl rfl rfl ?_
          refine AO.yld _ (Yld.move rfl) rfl rfl rfl ?_
          refine AO.nil ?_
          refine AC.back ⟨k + 1, ?_, ?_, ⟨?_, ?_, trivial⟩, trivial, ⟨rfl, rfl, rfl, rfl, rfl, rfl, rfl, rfl, trivial⟩, trivial⟩
          · exact hk
          · omega
          · rfl
          · show some (AV.p (PV.v (Value.int IntKind.i64 _))) = _; first | (rw [endTo_T hx c30]; rfl) | rw [endTo_F hx c30]
      · -- c25 False
        obtain rfl : k = xs.length := by have := ge_of_decM c25; omega
        refine AC.exit rfl ?_
        refine AC.seq ?_
        refine AC.region ?_
        refine AO.yld _ (Yld.move rfl) rfl rfl rfl ?_
        refine AO.yld _ (Yld.move rfl) rfl rfl rfl ?_
        refine AO.yld _ (Yld.move rfl) rfl rfl rfl ?_
        refine AO.yld _ (Yld.assign rfl) rfl rfl rfl ?_
        refine AO.yld _ (Yld.assign rfl) rfl rfl rfl ?_
        refine AO.yld _ (Yld.assign rfl) rfl rfl rfl ?_
        refine AO.yld _ (Yld.assign rfl) rfl rfl rfl ?_
        refine AO.nil ?_
        refine Pure.retT Tryd.results23 (RVs.cons (RV.tmp rfl) (RVs.cons (RV.tmp rfl) (RVs.cons (RV.tmp rfl) (RVs.cons (RV.tmp rfl) RVs.nil)))) rfl ?_
        first | (exact agreed_bad (by simpa using c15)) | (exact agreed_ok hk0 (by omega))

end Go.Proofs.YtghcdgjbgljipaaDoor
