/- Contracts of functions of the program, each by a walk of its text in the calculus V. -/
import Derived.Test.YtjmicabmkipomaaD4
import Derived.Test.YtjmicabmkipomaaProg
set_option linter.all false
set_option linter.unusedSimpArgs false
set_option linter.unusedVariables false
namespace Go.Proofs.Ytjmicabmkipomaa
open Go Go.V
theorem ty25 : TyIs Try.prog 25 (.agg #[.int .i64 0, .int .i64 0, .int .i64 0]) 3 24 := by unfold TyIs; kernel_rfl
theorem ty41 : TyIs Try.prog 41 (.agg #[.string ⟨#[]⟩, .int .i64 0, .int .i64 0]) 3 32 := by unfold TyIs; kernel_rfl
theorem ty71 : TyIs Try.prog 71 (.agg #[.string ⟨#[]⟩, .int .i64 0]) 2 24 := by unfold TyIs; kernel_rfl
theorem ty109 : TyIs Try.prog 109 (.agg #[.int .i64 0, .int .i64 0, .int .i64 0, .int .i64 0]) 4 32 := by unfold TyIs; kernel_rfl
theorem ty117 : TyIs Try.prog 117 (.agg #[.string ⟨#[]⟩, .int .i64 0]) 2 24 := by unfold TyIs; kernel_rfl

theorem impl_within_c {n lo hi : Int} :
    Pure Try.prog 65 [.v (.int .i64 n), .v (.int .i64 lo), .v (.int .i64 hi)] (.v (.bool (decide (lo ≤ n) && decide (n ≤ hi)))) := by
  refine Pure.intro Try.func65 rfl Try.ntmps65 rfl rfl (fun w => ?_)
  refine AC.seq ?_
  refine AC.region ?_
  refine AO.yld _ (Yld.assign rfl) rfl rfl rfl ?_
  refine AO.nil ?_
  refine AC.seq ?_
  refine AC.region ?_
  refine AO.yld _ (Yld.move rfl) rfl rfl rfl ?_
  refine AO.yld _ (Yld.move rfl) rfl rfl rfl ?_
  refine AO.yld _ (Yld.int rfl rfl rfl) rfl rfl rfl ?_
  refine AO.yld _ (Yld.move rfl) rfl rfl rfl ?_
  refine AO.splitAt 10 _ rfl (fun s10 => ?_) (fun s10 => ?_)
  · -- s10 True
    refine AO.yldG _ (Yld.move rfl) rfl rfl rfl rfl rfl ?_
    refine AO.yldG _ (Yld.move rfl) rfl rfl rfl rfl rfl ?_
    refine AO.yldG _ (Yld.int rfl rfl rfl) rfl rfl rfl rfl rfl ?_
    refine AO.yld _ (Yld.pickT rfl rfl) rfl rfl rfl ?_
    refine AO.yld _ (Yld.assign rfl) rfl rfl rfl ?_
    refine AO.nil ?_
    refine Pure.ret Try.results65 (RVs.cons (RV.tmp rfl) RVs.nil) rfl ?_
    first | rfl | (simp_all; done) | (simp_all; intros; omega) | grind
  · -- s10 False
    refine AO.skipT rfl rfl rfl rfl rfl ?_
    refine AO.skipT rfl rfl rfl rfl rfl ?_
    refine AO.skipT rfl rfl rfl rfl rfl ?_
    refine AO.yld _ (Yld.pickF rfl rfl) rfl rfl rfl ?_
    refine AO.yld _ (Yld.assign rfl) rfl rfl rfl ?_
    refine AO.nil ?_
    refine Pure.ret Try.results65 (RVs.cons (RV.tmp rfl) RVs.nil) rfl ?_
    first | rfl | (simp_all; done) | (simp_all; intros; omega) | grind

theorem spec_l00In_c {n lo hi : Int} :
    Pure Try.prog 107 [.v (.int .i64 n), .v (.int .i64 lo), .v (.int .i64 hi)] (.v (.bool (decide (lo ≤ n) && decide (n ≤ hi)))) := by
  refine Pure.intro Try.func107 rfl Try.ntmps107 rfl rfl (fun w => ?_)
  refine AC.seq ?_
  refine AC.region ?_
  refine AO.yld _ (Yld.assign rfl) rfl rfl rfl ?_
  refine AO.nil ?_
  refine AC.seq ?_
  refine AC.region ?_
  refine AO.yld _ (Yld.move rfl) rfl rfl rfl ?_
  refine AO.yld _ (Yld.move rfl) rfl rfl rfl ?_
  refine AO.yld _ (Yld.int rfl rfl rfl) rfl rfl rfl ?_
  refine AO.yld _ (Yld.move rfl) rfl rfl rfl ?_
  refine AO.splitAt 10 _ rfl (fun s10 => ?_) (fun s10 => ?_)
  · -- s10 True
    refine AO.yldG _ (Yld.move rfl) rfl rfl rfl rfl rfl ?_
    refine AO.yldG _ (Yld.move rfl) rfl rfl rfl rfl rfl ?_
    refine AO.yldG _ (Yld.int rfl rfl rfl) rfl rfl rfl rfl rfl ?_
    refine AO.yld _ (Yld.pickT rfl rfl) rfl rfl rfl ?_
    refine AO.yld _ (Yld.assign rfl) rfl rfl rfl ?_
    refine AO.nil ?_
    refine Pure.ret Try.results107 (RVs.cons (RV.tmp rfl) RVs.nil) rfl ?_
    first | rfl | (simp_all; done) | (simp_all; intros; omega) | grind
  · -- s10 False
    refine AO.skipT rfl rfl rfl rfl rfl ?_
    refine AO.skipT rfl rfl rfl rfl rfl ?_
    refine AO.skipT rfl rfl rfl rfl rfl ?_
    refine AO.yld _ (Yld.pickF rfl rfl) rfl rfl rfl ?_
    refine AO.yld _ (Yld.assign rfl) rfl rfl rfl ?_
    refine AO.nil ?_
    refine Pure.ret Try.results107 (RVs.cons (RV.tmp rfl) RVs.nil) rfl ?_
    first | rfl | (simp_all; done) | (simp_all; intros; omega) | grind

theorem spec_l01Small_c {c : Int} :
    Pure Try.prog 125 [.v (.int .u8 c)] (.v (.bool (decide (97 ≤ c) && decide (c ≤ 122)))) := by
  refine Pure.intro Try.func125 rfl Try.ntmps125 rfl rfl (fun w => ?_)
  refine AC.seq ?_
  refine AC.region ?_
  refine AO.yld _ (Yld.assign rfl) rfl rfl rfl ?_
  refine AO.nil ?_
  refine AC.seq ?_
  refine AC.region ?_
  refine AO.yld _ (Yld.move rfl) rfl rfl rfl ?_
  refine AO.yld _ (Yld.int rfl rfl rfl) rfl rfl rfl ?_
  refine AO.yld _ (Yld.move rfl) rfl rfl rfl ?_
  refine AO.splitAt 5 _ rfl (fun s5 => ?_) (fun s5 => ?_)
  · -- s5 True
    refine AO.yldG _ (Yld.move rfl) rfl rfl rfl rfl rfl ?_
    refine AO.yldG _ (Yld.int rfl rfl rfl) rfl rfl rfl rfl rfl ?_
    refine AO.yld _ (Yld.pickT rfl rfl) rfl rfl rfl ?_
    refine AO.yld _ (Yld.assign rfl) rfl rfl rfl ?_
    refine AO.nil ?_
    refine Pure.ret Try.results125 (RVs.cons (RV.tmp rfl) RVs.nil) rfl ?_
    first | rfl | (simp_all; done) | (simp_all; intros; omega) | grind
  · -- s5 False
    refine AO.skipT rfl rfl rfl rfl rfl ?_
    refine AO.skipT rfl rfl rfl rfl rfl ?_
    refine AO.yld _ (Yld.pickF rfl rfl) rfl rfl rfl ?_
    refine AO.yld _ (Yld.assign rfl) rfl rfl rfl ?_
    refine AO.nil ?_
    refine Pure.ret Try.results125 (RVs.cons (RV.tmp rfl) RVs.nil) rfl ?_
    first | rfl | (simp_all; done) | (simp_all; intros; omega) | grind

theorem spec_l01Digit_c {c : Int} :
    Pure Try.prog 126 [.v (.int .u8 c)] (.v (.bool (decide (48 ≤ c) && decide (c ≤ 57)))) := by
  refine Pure.intro Try.func126 rfl Try.ntmps126 rfl rfl (fun w => ?_)
  refine AC.seq ?_
  refine AC.region ?_
  refine AO.yld _ (Yld.assign rfl) rfl rfl rfl ?_
  refine AO.nil ?_
  refine AC.seq ?_
  refine AC.region ?_
  refine AO.yld _ (Yld.move rfl) rfl rfl rfl ?_
  refine AO.yld _ (Yld.int rfl rfl rfl) rfl rfl rfl ?_
  refine AO.yld _ (Yld.move rfl) rfl rfl rfl ?_
  refine AO.splitAt 5 _ rfl (fun s5 => ?_) (fun s5 => ?_)
  · -- s5 True
    refine AO.yldG _ (Yld.move rfl) rfl rfl rfl rfl rfl ?_
    refine AO.yldG _ (Yld.int rfl rfl rfl) rfl rfl rfl rfl rfl ?_
    refine AO.yld _ (Yld.pickT rfl rfl) rfl rfl rfl ?_
    refine AO.yld _ (Yld.assign rfl) rfl rfl rfl ?_
    refine AO.nil ?_
    refine Pure.ret Try.results126 (RVs.cons (RV.tmp rfl) RVs.nil) rfl ?_
    first | rfl | (simp_all; done) | (simp_all; intros; omega) | grind
  · -- s5 False
    refine AO.skipT rfl rfl rfl rfl rfl ?_
    refine AO.skipT rfl rfl rfl rfl rfl ?_
    refine AO.yld _ (Yld.pickF rfl rfl) rfl rfl rfl ?_
    refine AO.yld _ (Yld.assign rfl) rfl rfl rfl ?_
    refine AO.nil ?_
    refine Pure.ret Try.results126 (RVs.cons (RV.tmp rfl) RVs.nil) rfl ?_
    first | rfl | (simp_all; done) | (simp_all; intros; omega) | grind

theorem spec_l01Name_c {l : List UInt8} (hn : l.length ≤ 1048576) :
    Pure Try.prog 112 [.v (str l)] (.v (.bool (isName l))) := by
  refine Pure.intro Try.func112 rfl Try.ntmps112 rfl rfl (fun w => ?_)
  refine AC.seq ?_
  refine AC.region ?_
  refine AO.yld _ (Yld.assign rfl) rfl rfl rfl ?_
  refine AO.nil ?_
  refine AC.seq ?_
  refine AC.seq ?_
  refine AC.region ?_
  refine AO.yld _ (Yld.move rfl) rfl rfl rfl ?_
  refine AO.yld _ (Yld.cmpStr rfl rfl rfl) rfl rfl rfl ?_
  refine AO.yld _ (Yld.move rfl) rfl rfl rfl ?_
  refine AO.splitAt 6 _ rfl (fun s6 => ?_) (fun s6 => ?_)
  · -- s6 True
    refine AO.skipF rfl rfl rfl rfl rfl ?_
    refine AO.skipF rfl rfl rfl rfl rfl ?_
    refine AO.skipF rfl rfl rfl rfl rfl ?_
    refine AO.yld _ (Yld.pickT rfl rfl) rfl rfl rfl ?_
    refine AO.yld _ (Yld.move rfl) rfl rfl rfl ?_
    refine AO.skipF rfl rfl rfl rfl rfl ?_
    refine AO.skipF rfl rfl rfl rfl rfl ?_
    refine AO.skipF rfl rfl rfl rfl rfl ?_
    refine AO.skipF rfl rfl rfl rfl rfl ?_
    refine AO.yld _ (Yld.pickT rfl rfl) rfl rfl rfl ?_
    refine AO.nil ?_
    refine AC.condT rfl ?_
    refine AC.seq ?_
    refine AC.region ?_
    refine AO.yld _ (Yld.assign rfl) rfl rfl rfl ?_
    refine AO.nil ?_
    refine Pure.ret Try.results112 (RVs.cons (RV.tmp rfl) RVs.nil) rfl ?_
    first
      | (exact cb (name_nil (by simpa using s6)))
      | (exact cb (name_long (by simp at s11; omega)))
      | (exact cb (name_first hc (by have h := c16; simp only [decide_eq_true_eq, decide_eq_false_iff_not, Bool.not_eq_true', Bool.not_eq_false', Bool.and_eq_true, Bool.and_eq_false_iff] at h; simp only [lowB, Bool.and_eq_false_iff, decide_eq_false_iff_not]; omega)))
      | (exact cb (name_bad hck (by have h := s28; simp only [decide_eq_true_eq, decide_eq_false_iff_not, Bool.not_eq_true', Bool.not_eq_false', Bool.and_eq_true, Bool.and_eq_false_iff] at h; simp only [lowB, Bool.and_eq_false_iff, decide_eq_false_iff_not]; omega) (by have h := c34; simp only [decide_eq_true_eq, decide_eq_false_iff_not, Bool.not_eq_true', Bool.not_eq_false', Bool.and_eq_true, Bool.and_eq_false_iff] at h; simp only [digB, Bool.and_eq_false_iff, decide_eq_false_iff_not]; omega)))
      | (exact cb (name_ok hc (by have h := c16; simp only [decide_eq_true_eq, decide_eq_false_iff_not, Bool.not_eq_true', Bool.not_eq_false', Bool.and_eq_true, Bool.and_eq_false_iff] at h; simp only [lowB, Bool.and_eq_true, decide_eq_true_eq]; omega) (by simp at s11; omega) hJ.2))
  · -- s6 False
    have hl0 : 0 < l.length := by cases l with | nil => simp at s6 | cons => simp
    refine AO.yldG _ (Yld.move rfl) rfl rfl rfl rfl rfl ?_
    refine AO.yldG _ (Yld.lenStr Try.underlying9 rfl) rfl rfl rfl rfl rfl ?_
    refine AO.yldG _ (Yld.int rfl rfl rfl) rfl rfl rfl rfl rfl ?_
    refine AO.yld _ (Yld.pickF rfl rfl) rfl rfl rfl ?_
    refine AO.yld _ (Yld.move rfl) rfl rfl rfl ?_
    refine AO.splitAt 11 _ rfl (fun s11 => ?_) (fun s11 => ?_)
    · -- s11 True
      refine AO.skipF rfl rfl rfl rfl rfl ?_
      refine AO.skipF rfl rfl rfl rfl rfl ?_
      refine AO.skipF rfl rfl rfl rfl rfl ?_
      refine AO.skipF rfl rfl rfl rfl rfl ?_
      refine AO.yld _ (Yld.pickT rfl rfl) rfl rfl rfl ?_
      refine AO.nil ?_
      refine AC.condT rfl ?_
      refine AC.seq ?_
      refine AC.region ?_
      refine AO.yld _ (Yld.assign rfl) rfl rfl rfl ?_
      refine AO.nil ?_
      refine Pure.ret Try.results112 (RVs.cons (RV.tmp rfl) RVs.nil) rfl ?_
      first
        | (exact cb (name_nil (by simpa using s6)))
        | (exact cb (name_long (by simp at s11; omega)))
        | (exact cb (name_first hc (by have h := c16; simp only [decide_eq_true_eq, decide_eq_false_iff_not, Bool.not_eq_true', Bool.not_eq_false', Bool.and_eq_true, Bool.and_eq_false_iff] at h; simp only [lowB, Bool.and_eq_false_iff, decide_eq_false_iff_not]; omega)))
        | (exact cb (name_bad hck (by have h := s28; simp only [decide_eq_true_eq, decide_eq_false_iff_not, Bool.not_eq_true', Bool.not_eq_false', Bool.and_eq_true, Bool.and_eq_false_iff] at h; simp only [lowB, Bool.and_eq_false_iff, decide_eq_false_iff_not]; omega) (by have h := c34; simp only [decide_eq_true_eq, decide_eq_false_iff_not, Bool.not_eq_true', Bool.not_eq_false', Bool.and_eq_true, Bool.and_eq_false_iff] at h; simp only [digB, Bool.and_eq_false_iff, decide_eq_false_iff_not]; omega)))
        | (exact cb (name_ok hc (by have h := c16; simp only [decide_eq_true_eq, decide_eq_false_iff_not, Bool.not_eq_true', Bool.not_eq_false', Bool.and_eq_true, Bool.and_eq_false_iff] at h; simp only [lowB, Bool.and_eq_true, decide_eq_true_eq]; omega) (by simp at s11; omega) hJ.2))
    · -- s11 False
      obtain ⟨c, hc⟩ := get_some hl0
      refine AO.yldG _ (Yld.move rfl) rfl rfl rfl rfl rfl ?_
      refine AO.yldG _ (Yld.indexStr Try.underlying9 rfl rfl (by omega) hc) rfl rfl rfl rfl rfl ?_
      refine AO.yldG _ (Yld.call rfl rfl Try.call125 rfl rfl rfl (spec_l01Small_c) rfl) rfl rfl rfl rfl rfl ?_
      refine AO.yldG _ (Yld.not rfl) rfl rfl rfl rfl rfl ?_
      refine AO.yld _ (Yld.pickF rfl rfl) rfl rfl rfl ?_
      refine AO.nil ?_
      refine AC.cond _ rfl (fun c16 => ?_) (fun c16 => ?_)
      · -- c16 True
        refine AC.seq ?_
        refine AC.region ?_
        refine AO.yld _ (Yld.assign rfl) rfl rfl rfl ?_
        refine AO.nil ?_
        refine Pure.ret Try.results112 (RVs.cons (RV.tmp rfl) RVs.nil) rfl ?_
        first
          | (exact cb (name_nil (by simpa using s6)))
          | (exact cb (name_long (by simp at s11; omega)))
          | (exact cb (name_first hc (by have h := c16; simp only [decide_eq_true_eq, decide_eq_false_iff_not, Bool.not_eq_true', Bool.not_eq_false', Bool.and_eq_true, Bool.and_eq_false_iff] at h; simp only [lowB, Bool.and_eq_false_iff, decide_eq_false_iff_not]; omega)))
          | (exact cb (name_bad hck (by have h := s28; simp only [decide_eq_true_eq, decide_eq_false_iff_not, Bool.not_eq_true', Bool.not_eq_false', Bool.and_eq_true, Bool.and_eq_false_iff] at h; simp only [lowB, Bool.and_eq_false_iff, decide_eq_false_iff_not]; omega) (by have h := c34; simp only [decide_eq_true_eq, decide_eq_false_iff_not, Bool.not_eq_true', Bool.not_eq_false', Bool.and_eq_true, Bool.and_eq_false_iff] at h; simp only [digB, Bool.and_eq_false_iff, decide_eq_false_iff_not]; omega)))
          | (exact cb (name_ok hc (by have h := c16; simp only [decide_eq_true_eq, decide_eq_false_iff_not, Bool.not_eq_true', Bool.not_eq_false', Bool.and_eq_true, Bool.and_eq_false_iff] at h; simp only [lowB, Bool.and_eq_true, decide_eq_true_eq]; omega) (by simp at s11; omega) hJ.2))
      · -- c16 False
        refine AC.skip ?_
        refine AC.seq ?_
        refine AC.seq ?_
        refine AC.region ?_
        refine AO.yld _ (Yld.assign rfl) rfl rfl rfl ?_
        refine AO.nil ?_
        refine AC.block ?_
        refine AC.loopC [(0, _)] [] (fun (k : Nat) => [(3, .p (.v (.int .i64 (k : Int))))]) (fun (k : Nat) => []) (fun (k : Nat) => k ≤ l.length ∧ nameTo l k = true) (fun (k : Nat) => l.length - k) 0 ⟨rfl, trivial⟩ trivial ⟨rfl, trivial⟩ trivial ?_ (fun k hJ => ?_)
        · exact ⟨Nat.zero_le _, rfl⟩
        · -- round
          refine AC.seq ?_
          refine AC.seq ?_
          refine AC.region ?_
          refine AO.yld _ (Yld.move rfl) rfl rfl rfl ?_
          refine AO.yld _ (Yld.move rfl) rfl rfl rfl ?_
          refine AO.yld _ (Yld.lenStr Try.underlying9 rfl) rfl rfl rfl ?_
          refine AO.yld _ (Yld.int rfl rfl rfl) rfl rfl rfl ?_
          refine AO.nil ?_
          refine AC.cond _ rfl (fun c20 => ?_) (fun c20 => ?_)
          · -- c20 True
            have hk := lt_of_dec c20
            obtain ⟨c2, hck⟩ := get_some hk
            refine AC.skip ?_
            refine AC.seq ?_
            refine AC.block ?_
            refine AC.seq ?_
            refine AC.region ?_
            refine AO.yld _ (Yld.move rfl) rfl rfl rfl ?_
            refine AO.yld _ (Yld.move rfl) rfl rfl rfl ?_
            refine AO.yld _ (Yld.indexStr Try.underlying9 rfl rfl (by omega) hck) rfl rfl rfl ?_
            refine AO.yld _ (Yld.call rfl rfl Try.call125 rfl rfl rfl (spec_l01Small_c) rfl) rfl rfl rfl ?_
            refine AO.yld _ (Yld.not rfl) rfl rfl rfl ?_
            refine AO.yld _ (Yld.move rfl) rfl rfl rfl ?_
            refine AO.splitAt 28 _ rfl (fun s28 => ?_) (fun s28 => ?_)
            · -- s28 True
              refine AO.yldG _ (Yld.move rfl) rfl rfl rfl rfl rfl ?_
              refine AO.yldG _ (Yld.move rfl) rfl rfl rfl rfl rfl ?_
              refine AO.yldG _ (Yld.indexStr Try.underlying9 rfl rfl (by omega) hck) rfl rfl rfl rfl rfl ?_
              refine AO.yldG _ (Yld.call rfl rfl Try.call126 rfl rfl rfl (spec_l01Digit_c) rfl) rfl rfl rfl rfl rfl ?_
              refine AO.yldG _ (Yld.not rfl) rfl rfl rfl rfl rfl ?_
              refine AO.yld _ (Yld.pickT rfl rfl) rfl rfl rfl ?_
              refine AO.nil ?_
              refine AC.cond _ rfl (fun c34 => ?_) (fun c34 => ?_)
              · -- c34 True
                refine AC.seq ?_
                refine AC.region ?_
                refine AO.yld _ (Yld.assign rfl) rfl rfl rfl ?_
                refine AO.nil ?_
                refine Pure.ret Try.results112 (RVs.cons (RV.tmp rfl) RVs.nil) rfl ?_
                first
                  | (exact cb (name_nil (by simpa using s6)))
                  | (exact cb (name_long (by simp at s11; omega)))
                  | (exact cb (name_first hc (by have h := c16; simp only [decide_eq_true_eq, decide_eq_false_iff_not, Bool.not_eq_true', Bool.not_eq_false', Bool.and_eq_true, Bool.and_eq_false_iff] at h; simp only [lowB, Bool.and_eq_false_iff, decide_eq_false_iff_not]; omega)))
                  | (exact cb (name_bad hck (by have h := s28; simp only [decide_eq_true_eq, decide_eq_false_iff_not, Bool.not_eq_true', Bool.not_eq_false', Bool.and_eq_true, Bool.and_eq_false_iff] at h; simp only [lowB, Bool.and_eq_false_iff, decide_eq_false_iff_not]; omega) (by have h := c34; simp only [decide_eq_true_eq, decide_eq_false_iff_not, Bool.not_eq_true', Bool.not_eq_false', Bool.and_eq_true, Bool.and_eq_false_iff] at h; simp only [digB, Bool.and_eq_false_iff, decide_eq_false_iff_not]; omega)))
                  | (exact cb (name_ok hc (by have h := c16; simp only [decide_eq_true_eq, decide_eq_false_iff_not, Bool.not_eq_true', Bool.not_eq_false', Bool.and_eq_true, Bool.and_eq_false_iff] at h; simp only [lowB, Bool.and_eq_true, decide_eq_true_eq]; omega) (by simp at s11; omega) hJ.2))
              · -- c34 False
                refine AC.skip ?_
                refine AC.mark ?_
                refine AC.region ?_
                refine AO.yld _ (Yld.move rfl) rfl rfl rfl ?_
                refine AO.yld _ (Yld.add rfl rfl (by omega) (by omega)) rfl rfl rfl ?_
                refine AO.yld _ (Yld.assign rfl) rfl rfl rfl ?_
                refine AO.nil ?_
                refine AC.back ⟨k + 1, ?_, ?_, ⟨?_, trivial⟩, trivial, ⟨rfl, trivial⟩, trivial⟩
                · exact ⟨hk, by rw [nameTo_succ hck, hJ.2]; first | (have h : lowB c2 = true := (by have h := s28; simp only [decide_eq_true_eq, decide_eq_false_iff_not, Bool.not_eq_true', Bool.not_eq_false', Bool.and_eq_true, Bool.and_eq_false_iff] at h; simp only [lowB, Bool.and_eq_true, decide_eq_true_eq]; omega); simp [h]) | (have h : digB c2 = true := (by have h := c34; simp only [decide_eq_true_eq, decide_eq_false_iff_not, Bool.not_eq_true', Bool.not_eq_false', Bool.and_eq_true, Bool.and_eq_false_iff] at h; simp only [digB, Bool.and_eq_true, decide_eq_true_eq]; omega); simp [h])⟩
                · omega
                · rfl
            · -- s28 False
              refine AO.skipT rfl rfl rfl rfl rfl ?_
              refine AO.skipT rfl rfl rfl rfl rfl ?_
              refine AO.skipT rfl rfl rfl rfl rfl ?_
              refine AO.skipT rfl rfl rfl rfl rfl ?_
              refine AO.skipT rfl rfl rfl rfl rfl ?_
              refine AO.yld _ (Yld.pickF rfl rfl) rfl rfl rfl ?_
              refine AO.nil ?_
              refine AC.condF rfl ?_
              refine AC.skip ?_
              refine AC.mark ?_
              refine AC.region ?_
              refine AO.yld _ (Yld.move rfl) rfl rfl rfl ?_
              refine AO.yld _ (Yld.add rfl rfl (by omega) (by omega)) rfl rfl rfl ?_
              refine AO.yld _ (Yld.assign rfl) rfl rfl rfl ?_
              refine AO.nil ?_
              refine AC.back ⟨k + 1, ?_, ?_, ⟨?_, trivial⟩, trivial, ⟨rfl, trivial⟩, trivial⟩
              · exact ⟨hk, by rw [nameTo_succ hck, hJ.2]; first | (have h : lowB c2 = true := (by have h := s28; simp only [decide_eq_true_eq, decide_eq_false_iff_not, Bool.not_eq_true', Bool.not_eq_false', Bool.and_eq_true, Bool.and_eq_false_iff] at h; simp only [lowB, Bool.and_eq_true, decide_eq_true_eq]; omega); simp [h]) | (have h : digB c2 = true := (by have h := c34; simp only [decide_eq_true_eq, decide_eq_false_iff_not, Bool.not_eq_true', Bool.not_eq_false', Bool.and_eq_true, Bool.and_eq_false_iff] at h; simp only [digB, Bool.and_eq_true, decide_eq_true_eq]; omega); simp [h])⟩
              · omega
              · rfl
          · -- c20 False
            obtain rfl : k = l.length := by have := ge_of_dec c20; omega
            refine AC.exit rfl ?_
            refine AC.seq ?_
            refine AC.region ?_
            refine AO.yld _ (Yld.assign rfl) rfl rfl rfl ?_
            refine AO.nil ?_
            refine Pure.ret Try.results112 (RVs.cons (RV.tmp rfl) RVs.nil) rfl ?_
            first
              | (exact cb (name_nil (by simpa using s6)))
              | (exact cb (name_long (by simp at s11; omega)))
              | (exact cb (name_first hc (by have h := c16; simp only [decide_eq_true_eq, decide_eq_false_iff_not, Bool.not_eq_true', Bool.not_eq_false', Bool.and_eq_true, Bool.and_eq_false_iff] at h; simp only [lowB, Bool.and_eq_false_iff, decide_eq_false_iff_not]; omega)))
              | (exact cb (name_bad hck (by have h := s28; simp only [decide_eq_true_eq, decide_eq_false_iff_not, Bool.not_eq_true', Bool.not_eq_false', Bool.and_eq_true, Bool.and_eq_false_iff] at h; simp only [lowB, Bool.and_eq_false_iff, decide_eq_false_iff_not]; omega) (by have h := c34; simp only [decide_eq_true_eq, decide_eq_false_iff_not, Bool.not_eq_true', Bool.not_eq_false', Bool.and_eq_true, Bool.and_eq_false_iff] at h; simp only [digB, Bool.and_eq_false_iff, decide_eq_false_iff_not]; omega)))
              | (exact cb (name_ok hc (by have h := c16; simp only [decide_eq_true_eq, decide_eq_false_iff_not, Bool.not_eq_true', Bool.not_eq_false', Bool.and_eq_true, Bool.and_eq_false_iff] at h; simp only [lowB, Bool.and_eq_true, decide_eq_true_eq]; omega) (by simp at s11; omega) hJ.2))

theorem impl_IsName_c {l : List UInt8} (hn : l.length ≤ 1048576) :
    Pure Try.prog 113 [.v (str l)] (.v (.bool (isName l))) := by
  refine Pure.intro Try.func113 rfl Try.ntmps113 rfl rfl (fun w => ?_)
  refine AC.seq ?_
  refine AC.region ?_
  refine AO.yld _ (Yld.assign rfl) rfl rfl rfl ?_
  refine AO.nil ?_
  refine AC.seq ?_
  refine AC.seq ?_
  refine AC.region ?_
  refine AO.yld _ (Yld.move rfl) rfl rfl rfl ?_
  refine AO.yld _ (Yld.lenStr Try.underlying9 rfl) rfl rfl rfl ?_
  refine AO.yld _ (Yld.int rfl rfl rfl) rfl rfl rfl ?_
  refine AO.yld _ (Yld.move rfl) rfl rfl rfl ?_
  refine AO.splitAt 7 _ rfl (fun s7 => ?_) (fun s7 => ?_)
  · -- s7 True
    refine AO.skipF rfl rfl rfl rfl rfl ?_
    refine AO.skipF rfl rfl rfl rfl rfl ?_
    refine AO.skipF rfl rfl rfl rfl rfl ?_
    refine AO.yld _ (Yld.pickT rfl rfl) rfl rfl rfl ?_
    refine AO.yld _ (Yld.move rfl) rfl rfl rfl ?_
    refine AO.skipF rfl rfl rfl rfl rfl ?_
    refine AO.skipF rfl rfl rfl rfl rfl ?_
    refine AO.skipF rfl rfl rfl rfl rfl ?_
    refine AO.yld _ (Yld.pickT rfl rfl) rfl rfl rfl ?_
    refine AO.yld _ (Yld.move rfl) rfl rfl rfl ?_
    refine AO.skipF rfl rfl rfl rfl rfl ?_
    refine AO.skipF rfl rfl rfl rfl rfl ?_
    refine AO.skipF rfl rfl rfl rfl rfl ?_
    refine AO.yld _ (Yld.pickT rfl rfl) rfl rfl rfl ?_
    refine AO.nil ?_
    refine AC.condT rfl ?_
    refine AC.seq ?_
    refine AC.region ?_
    refine AO.yld _ (Yld.assign rfl) rfl rfl rfl ?_
    refine AO.nil ?_
    refine Pure.ret Try.results113 (RVs.cons (RV.tmp rfl) RVs.nil) rfl ?_
    first
      | (exact cb (name_nil (by simp at s7; omega)))
      | (exact cb (name_long (by simp at s12; omega)))
      | (exact cb (name_first hc (by have h := s17; simp only [decide_eq_true_eq, decide_eq_false_iff_not, Bool.not_eq_true', Bool.not_eq_false', Bool.and_eq_true, Bool.and_eq_false_iff] at h; simp only [lowB, Bool.and_eq_false_iff, decide_eq_false_iff_not]; omega)))
      | (exact cb (name_first hc (by have h := c21; simp only [decide_eq_true_eq, decide_eq_false_iff_not, Bool.not_eq_true', Bool.not_eq_false', Bool.and_eq_true, Bool.and_eq_false_iff] at h; simp only [lowB, Bool.and_eq_false_iff, decide_eq_false_iff_not]; omega)))
      | (exact cb (name_ok hc (by simp only [lowB, Bool.and_eq_true, decide_eq_true_eq]; simp only [decide_eq_true_eq, decide_eq_false_iff_not, Bool.not_eq_true', Bool.not_eq_false'] at *; omega) (by simp at s12; omega) hJ.2))
      | (exact cb (name_bad hck (by simp only [lowB, Bool.and_eq_false_iff, decide_eq_false_iff_not]; simp only [decide_eq_true_eq, decide_eq_false_iff_not, Bool.not_eq_true'] at *; omega) (by simp only [digB, Bool.and_eq_false_iff, decide_eq_false_iff_not]; simp only [decide_eq_true_eq, decide_eq_false_iff_not, Bool.not_eq_true'] at *; omega)))
  · -- s7 False
    have hl0 : 0 < l.length := by simp at s7; omega
    refine AO.yldG _ (Yld.move rfl) rfl rfl rfl rfl rfl ?_
    refine AO.yldG _ (Yld.lenStr Try.underlying9 rfl) rfl rfl rfl rfl rfl ?_
    refine AO.yldG _ (Yld.int rfl rfl rfl) rfl rfl rfl rfl rfl ?_
    refine AO.yld _ (Yld.pickF rfl rfl) rfl rfl rfl ?_
    refine AO.yld _ (Yld.move rfl) rfl rfl rfl ?_
    refine AO.splitAt 12 _ rfl (fun s12 => ?_) (fun s12 => ?_)
    · -- s12 True
      refine AO.skipF rfl rfl rfl rfl rfl ?_
      refine AO.skipF rfl rfl rfl rfl rfl ?_
      refine AO.skipF rfl rfl rfl rfl rfl ?_
      refine AO.yld _ (Yld.pickT rfl rfl) rfl rfl rfl ?_
      refine AO.yld _ (Yld.move rfl) rfl rfl rfl ?_
      refine AO.skipF rfl rfl rfl rfl rfl ?_
      refine AO.skipF rfl rfl rfl rfl rfl ?_
      refine AO.skipF rfl rfl rfl rfl rfl ?_
      refine AO.yld _ (Yld.pickT rfl rfl) rfl rfl rfl ?_
      refine AO.nil ?_
      refine AC.condT rfl ?_
      refine AC.seq ?_
      refine AC.region ?_
      refine AO.yld _ (Yld.assign rfl) rfl rfl rfl ?_
      refine AO.nil ?_
      refine Pure.ret Try.results113 (RVs.cons (RV.tmp rfl) RVs.nil) rfl ?_
      first
        | (exact cb (name_nil (by simp at s7; omega)))
        | (exact cb (name_long (by simp at s12; omega)))
        | (exact cb (name_first hc (by have h := s17; simp only [decide_eq_true_eq, decide_eq_false_iff_not, Bool.not_eq_true', Bool.not_eq_false', Bool.and_eq_true, Bool.and_eq_false_iff] at h; simp only [lowB, Bool.and_eq_false_iff, decide_eq_false_iff_not]; omega)))
        | (exact cb (name_first hc (by have h := c21; simp only [decide_eq_true_eq, decide_eq_false_iff_not, Bool.not_eq_true', Bool.not_eq_false', Bool.and_eq_true, Bool.and_eq_false_iff] at h; simp only [lowB, Bool.and_eq_false_iff, decide_eq_false_iff_not]; omega)))
        | (exact cb (name_ok hc (by simp only [lowB, Bool.and_eq_true, decide_eq_true_eq]; simp only [decide_eq_true_eq, decide_eq_false_iff_not, Bool.not_eq_true', Bool.not_eq_false'] at *; omega) (by simp at s12; omega) hJ.2))
        | (exact cb (name_bad hck (by simp only [lowB, Bool.and_eq_false_iff, decide_eq_false_iff_not]; simp only [decide_eq_true_eq, decide_eq_false_iff_not, Bool.not_eq_true'] at *; omega) (by simp only [digB, Bool.and_eq_false_iff, decide_eq_false_iff_not]; simp only [decide_eq_true_eq, decide_eq_false_iff_not, Bool.not_eq_true'] at *; omega)))
    · -- s12 False
      obtain ⟨c, hc⟩ := get_some hl0
      refine AO.yldG _ (Yld.move rfl) rfl rfl rfl rfl rfl ?_
      refine AO.yldG _ (Yld.indexStr Try.underlying9 rfl rfl (by omega) hc) rfl rfl rfl rfl rfl ?_
      refine AO.yldG _ (Yld.int rfl rfl rfl) rfl rfl rfl rfl rfl ?_
      refine AO.yld _ (Yld.pickF rfl rfl) rfl rfl rfl ?_
      refine AO.yld _ (Yld.move rfl) rfl rfl rfl ?_
      refine AO.splitAt 17 _ rfl (fun s17 => ?_) (fun s17 => ?_)
      · -- s17 True
        refine AO.skipF rfl rfl rfl rfl rfl ?_
        refine AO.skipF rfl rfl rfl rfl rfl ?_
        refine AO.skipF rfl rfl rfl rfl rfl ?_
        refine AO.yld _ (Yld.pickT rfl rfl) rfl rfl rfl ?_
        refine AO.nil ?_
        refine AC.condT rfl ?_
        refine AC.seq ?_
        refine AC.region ?_
        refine AO.yld _ (Yld.assign rfl) rfl rfl rfl ?_
        refine AO.nil ?_
        refine Pure.ret Try.results113 (RVs.cons (RV.tmp rfl) RVs.nil) rfl ?_
        first
          | (exact cb (name_nil (by simp at s7; omega)))
          | (exact cb (name_long (by simp at s12; omega)))
          | (exact cb (name_first hc (by have h := s17; simp only [decide_eq_true_eq, decide_eq_false_iff_not, Bool.not_eq_true', Bool.not_eq_false', Bool.and_eq_true, Bool.and_eq_false_iff] at h; simp only [lowB, Bool.and_eq_false_iff, decide_eq_false_iff_not]; omega)))
          | (exact cb (name_first hc (by have h := c21; simp only [decide_eq_true_eq, decide_eq_false_iff_not, Bool.not_eq_true', Bool.not_eq_false', Bool.and_eq_true, Bool.and_eq_false_iff] at h; simp only [lowB, Bool.and_eq_false_iff, decide_eq_false_iff_not]; omega)))
          | (exact cb (name_ok hc (by simp only [lowB, Bool.and_eq_true, decide_eq_true_eq]; simp only [decide_eq_true_eq, decide_eq_false_iff_not, Bool.not_eq_true', Bool.not_eq_false'] at *; omega) (by simp at s12; omega) hJ.2))
          | (exact cb (name_bad hck (by simp only [lowB, Bool.and_eq_false_iff, decide_eq_false_iff_not]; simp only [decide_eq_true_eq, decide_eq_false_iff_not, Bool.not_eq_true'] at *; omega) (by simp only [digB, Bool.and_eq_false_iff, decide_eq_false_iff_not]; simp only [decide_eq_true_eq, decide_eq_false_iff_not, Bool.not_eq_true'] at *; omega)))
      · -- s17 False
        refine AO.yldG _ (Yld.move rfl) rfl rfl rfl rfl rfl ?_
        refine AO.yldG _ (Yld.indexStr Try.underlying9 rfl rfl (by omega) hc) rfl rfl rfl rfl rfl ?_
        refine AO.yldG _ (Yld.int rfl rfl rfl) rfl rfl rfl rfl rfl ?_
        refine AO.yld _ (Yld.pickF rfl rfl) rfl rfl rfl ?_
        refine AO.nil ?_
        refine AC.cond _ rfl (fun c21 => ?_) (fun c21 => ?_)
        · -- c21 True
          refine AC.seq ?_
          refine AC.region ?_
          refine AO.yld _ (Yld.assign rfl) rfl rfl rfl ?_
          refine AO.nil ?_
          refine Pure.ret Try.results113 (RVs.cons (RV.tmp rfl) RVs.nil) rfl ?_
          first
            | (exact cb (name_nil (by simp at s7; omega)))
            | (exact cb (name_long (by simp at s12; omega)))
            | (exact cb (name_first hc (by have h := s17; simp only [decide_eq_true_eq, decide_eq_false_iff_not, Bool.not_eq_true', Bool.not_eq_false', Bool.and_eq_true, Bool.and_eq_false_iff] at h; simp only [lowB, Bool.and_eq_false_iff, decide_eq_false_iff_not]; omega)))
            | (exact cb (name_first hc (by have h := c21; simp only [decide_eq_true_eq, decide_eq_false_iff_not, Bool.not_eq_true', Bool.not_eq_false', Bool.and_eq_true, Bool.and_eq_false_iff] at h; simp only [lowB, Bool.and_eq_false_iff, decide_eq_false_iff_not]; omega)))
            | (exact cb (name_ok hc (by simp only [lowB, Bool.and_eq_true, decide_eq_true_eq]; simp only [decide_eq_true_eq, decide_eq_false_iff_not, Bool.not_eq_true', Bool.not_eq_false'] at *; omega) (by simp at s12; omega) hJ.2))
            | (exact cb (name_bad hck (by simp only [lowB, Bool.and_eq_false_iff, decide_eq_false_iff_not]; simp only [decide_eq_true_eq, decide_eq_false_iff_not, Bool.not_eq_true'] at *; omega) (by simp only [digB, Bool.and_eq_false_iff, decide_eq_false_iff_not]; simp only [decide_eq_true_eq, decide_eq_false_iff_not, Bool.not_eq_true'] at *; omega)))
        · -- c21 False
          refine AC.skip ?_
          refine AC.seq ?_
          refine AC.seq ?_
          refine AC.region ?_
          refine AO.yld _ (Yld.assign rfl) rfl rfl rfl ?_
          refine AO.nil ?_
          refine AC.block ?_
          refine AC.loopC [(0, _)] [] (fun (k : Nat) => [(3, .p (.v (.int .i64 (k : Int))))]) (fun (k : Nat) => []) (fun (k : Nat) => k ≤ l.length ∧ nameTo l k = true) (fun (k : Nat) => l.length - k) 0 ⟨rfl, trivial⟩ trivial ⟨rfl, trivial⟩ trivial ?_ (fun k hJ => ?_)
          · exact ⟨Nat.zero_le _, rfl⟩
          · -- round
            refine AC.seq ?_
            refine AC.seq ?_
            refine AC.region ?_
            refine AO.yld _ (Yld.move rfl) rfl rfl rfl ?_
            refine AO.yld _ (Yld.move rfl) rfl rfl rfl ?_
            refine AO.yld _ (Yld.lenStr Try.underlying9 rfl) rfl rfl rfl ?_
            refine AO.yld _ (Yld.int rfl rfl rfl) rfl rfl rfl ?_
            refine AO.nil ?_
            refine AC.cond _ rfl (fun c25 => ?_) (fun c25 => ?_)
            · -- c25 True
              have hk := lt_of_dec c25
              obtain ⟨c2, hck⟩ := get_some hk
              refine AC.skip ?_
              refine AC.seq ?_
              refine AC.block ?_
              refine AC.seq ?_
              refine AC.region ?_
              refine AO.yld _ (Yld.move rfl) rfl rfl rfl ?_
              refine AO.yld _ (Yld.move rfl) rfl rfl rfl ?_
              refine AO.yld _ (Yld.indexStr Try.underlying9 rfl rfl (by omega) hck) rfl rfl rfl ?_
              refine AO.yld _ (Yld.int rfl rfl rfl) rfl rfl rfl ?_
              refine AO.yld _ (Yld.move rfl) rfl rfl rfl ?_
              refine AO.splitAt 32 _ rfl (fun s32 => ?_) (fun s32 => ?_)
              · -- s32 True
                refine AO.yldG _ (Yld.move rfl) rfl rfl rfl rfl rfl ?_
                refine AO.yldG _ (Yld.move rfl) rfl rfl rfl rfl rfl ?_
                refine AO.yldG _ (Yld.indexStr Try.underlying9 rfl rfl (by omega) hck) rfl rfl rfl rfl rfl ?_
                refine AO.yldG _ (Yld.int rfl rfl rfl) rfl rfl rfl rfl rfl ?_
                refine AO.yld _ (Yld.pickT rfl rfl) rfl rfl rfl ?_
                refine AO.yld _ (Yld.move rfl) rfl rfl rfl ?_
                refine AO.splitAt 38 _ rfl (fun s38 => ?_) (fun s38 => ?_)
                · -- s38 True
                  refine AO.skipF rfl rfl rfl rfl rfl ?_
                  refine AO.skipF rfl rfl rfl rfl rfl ?_
                  refine AO.skipF rfl rfl rfl rfl rfl ?_
                  refine AO.skipF rfl rfl rfl rfl rfl ?_
                  refine AO.skipF rfl rfl rfl rfl rfl ?_
                  refine AO.skipU rfl rfl rfl rfl rfl ?_
                  refine AO.skipU rfl rfl rfl rfl rfl ?_
                  refine AO.skipU rfl rfl rfl rfl rfl ?_
                  refine AO.skipU rfl rfl rfl rfl rfl ?_
                  refine AO.skipF rfl rfl rfl rfl rfl ?_
                  refine AO.yld _ (Yld.pickT rfl rfl) rfl rfl rfl ?_
                  refine AO.yld _ (Yld.not rfl) rfl rfl rfl ?_
                  refine AO.nil ?_
                  refine AC.condF rfl ?_
                  refine AC.skip ?_
                  refine AC.mark ?_
                  refine AC.region ?_
                  refine AO.yld _ (Yld.move rfl) rfl rfl rfl ?_
                  refine AO.yld _ (Yld.add rfl rfl (by omega) (by omega)) rfl rfl rfl ?_
                  refine AO.yld _ (Yld.assign rfl) rfl rfl rfl ?_
                  refine AO.nil ?_
                  refine AC.back ⟨k + 1, ?_, ?_, ⟨?_, trivial⟩, trivial, ⟨rfl, trivial⟩, trivial⟩
                  · exact ⟨hk, by rw [nameTo_succ hck, hJ.2]; first | (have h : lowB c2 = true := (by simp only [lowB, Bool.and_eq_true, decide_eq_true_eq]; simp only [decide_eq_true_eq, decide_eq_false_iff_not, Bool.not_eq_true', Bool.not_eq_false'] at *; omega); simp [h]) | (have h : digB c2 = true := (by simp only [digB, Bool.and_eq_true, decide_eq_true_eq]; simp only [decide_eq_true_eq, decide_eq_false_iff_not, Bool.not_eq_true', Bool.not_eq_false'] at *; omega); simp [h])⟩
                  · omega
                  · rfl
                · -- s38 False
                  refine AO.yldG _ (Yld.move rfl) rfl rfl rfl rfl rfl ?_
                  refine AO.yldG _ (Yld.move rfl) rfl rfl rfl rfl rfl ?_
                  refine AO.yldG _ (Yld.indexStr Try.underlying9 rfl rfl (by omega) hck) rfl rfl rfl rfl rfl ?_
                  refine AO.yldG _ (Yld.int rfl rfl rfl) rfl rfl rfl rfl rfl ?_
                  refine AO.yldG _ (Yld.move rfl) rfl rfl rfl rfl rfl ?_
                  refine AO.splitAt 43 _ rfl (fun s43 => ?_) (fun s43 => ?_)
                  · -- s43 True
                    refine AO.yldG _ (Yld.move rfl) rfl rfl rfl rfl rfl ?_
                    refine AO.yldG _ (Yld.move rfl) rfl rfl rfl rfl rfl ?_
                    refine AO.yldG _ (Yld.indexStr Try.underlying9 rfl rfl (by omega) hck) rfl rfl rfl rfl rfl ?_
                    refine AO.yldG _ (Yld.int rfl rfl rfl) rfl rfl rfl rfl rfl ?_
                    refine AO.yldG _ (Yld.pickT rfl rfl) rfl rfl rfl rfl rfl ?_
                    refine AO.yld _ (Yld.pickF rfl rfl) rfl rfl rfl ?_
                    refine AO.yld _ (Yld.not rfl) rfl rfl rfl ?_
                    refine AO.nil ?_
                    refine AC.cond _ rfl (fun c50 => ?_) (fun c50 => ?_)
                    · -- c50 True
                      refine AC.seq ?_
                      refine AC.region ?_
                      refine AO.yld _ (Yld.assign rfl) rfl rfl rfl ?_
                      refine AO.nil ?_
                      refine Pure.ret Try.results113 (RVs.cons (RV.tmp rfl) RVs.nil) rfl ?_
                      first
                        | (exact cb (name_nil (by simp at s7; omega)))
                        | (exact cb (name_long (by simp at s12; omega)))
                        | (exact cb (name_first hc (by have h := s17; simp only [decide_eq_true_eq, decide_eq_false_iff_not, Bool.not_eq_true', Bool.not_eq_false', Bool.and_eq_true, Bool.and_eq_false_iff] at h; simp only [lowB, Bool.and_eq_false_iff, decide_eq_false_iff_not]; omega)))
                        | (exact cb (name_first hc (by have h := c21; simp only [decide_eq_true_eq, decide_eq_false_iff_not, Bool.not_eq_true', Bool.not_eq_false', Bool.and_eq_true, Bool.and_eq_false_iff] at h; simp only [lowB, Bool.and_eq_false_iff, decide_eq_false_iff_not]; omega)))
                        | (exact cb (name_ok hc (by simp only [lowB, Bool.and_eq_true, decide_eq_true_eq]; simp only [decide_eq_true_eq, decide_eq_false_iff_not, Bool.not_eq_true', Bool.not_eq_false'] at *; omega) (by simp at s12; omega) hJ.2))
                        | (exact cb (name_bad hck (by simp only [lowB, Bool.and_eq_false_iff, decide_eq_false_iff_not]; simp only [decide_eq_true_eq, decide_eq_false_iff_not, Bool.not_eq_true'] at *; omega) (by simp only [digB, Bool.and_eq_false_iff, decide_eq_false_iff_not]; simp only [decide_eq_true_eq, decide_eq_false_iff_not, Bool.not_eq_true'] at *; omega)))
                    · -- c50 False
                      refine AC.skip ?_
                      refine AC.mark ?_
                      refine AC.region ?_
                      refine AO.yld _ (Yld.move rfl) rfl rfl rfl ?_
                      refine AO.yld _ (Yld.add rfl rfl (by omega) (by omega)) rfl rfl rfl ?_
                      refine AO.yld _ (Yld.assign rfl) rfl rfl rfl ?_
                      refine AO.nil ?_
                      refine AC.back ⟨k + 1, ?_, ?_, ⟨?_, trivial⟩, trivial, ⟨rfl, trivial⟩, trivial⟩
                      · exact ⟨hk, by rw [nameTo_succ hck, hJ.2]; first | (have h : lowB c2 = true := (by simp only [lowB, Bool.and_eq_true, decide_eq_true_eq]; simp only [decide_eq_true_eq, decide_eq_false_iff_not, Bool.not_eq_true', Bool.not_eq_false'] at *; omega); simp [h]) | (have h : digB c2 = true := (by simp only [digB, Bool.and_eq_true, decide_eq_true_eq]; simp only [decide_eq_true_eq, decide_eq_false_iff_not, Bool.not_eq_true', Bool.not_eq_false'] at *; omega); simp [h])⟩
                      · omega
                      · rfl
                  · -- s43 False
                    refine AO.skipT rfl rfl rfl rfl rfl ?_
                    refine AO.skipT rfl rfl rfl rfl rfl ?_
                    refine AO.skipT rfl rfl rfl rfl rfl ?_
                    refine AO.skipT rfl rfl rfl rfl rfl ?_
                    refine AO.yldG _ (Yld.pickF rfl rfl) rfl rfl rfl rfl rfl ?_
                    refine AO.yld _ (Yld.pickF rfl rfl) rfl rfl rfl ?_
                    refine AO.yld _ (Yld.not rfl) rfl rfl rfl ?_
                    refine AO.nil ?_
                    refine AC.condT rfl ?_
                    refine AC.seq ?_
                    refine AC.region ?_
                    refine AO.yld _ (Yld.assign rfl) rfl rfl rfl ?_
                    refine AO.nil ?_
                    refine Pure.ret Try.results113 (RVs.cons (RV.tmp rfl) RVs.nil) rfl ?_
                    first
                      | (exact cb (name_nil (by simp at s7; omega)))
                      | (exact cb (name_long (by simp at s12; omega)))
                      | (exact cb (name_first hc (by have h := s17; simp only [decide_eq_true_eq, decide_eq_false_iff_not, Bool.not_eq_true', Bool.not_eq_false', Bool.and_eq_true, Bool.and_eq_false_iff] at h; simp only [lowB, Bool.and_eq_false_iff, decide_eq_false_iff_not]; omega)))
                      | (exact cb (name_first hc (by have h := c21; simp only [decide_eq_true_eq, decide_eq_false_iff_not, Bool.not_eq_true', Bool.not_eq_false', Bool.and_eq_true, Bool.and_eq_false_iff] at h; simp only [lowB, Bool.and_eq_false_iff, decide_eq_false_iff_not]; omega)))
                      | (exact cb (name_ok hc (by simp only [lowB, Bool.and_eq_true, decide_eq_true_eq]; simp only [decide_eq_true_eq, decide_eq_false_iff_not, Bool.not_eq_true', Bool.not_eq_false'] at *; omega) (by simp at s12; omega) hJ.2))
                      | (exact cb (name_bad hck (by simp only [lowB, Bool.and_eq_false_iff, decide_eq_false_iff_not]; simp only [decide_eq_true_eq, decide_eq_false_iff_not, Bool.not_eq_true'] at *; omega) (by simp only [digB, Bool.and_eq_false_iff, decide_eq_false_iff_not]; simp only [decide_eq_true_eq, decide_eq_false_iff_not, Bool.not_eq_true'] at *; omega)))
              · -- s32 False
                refine AO.skipT rfl rfl rfl rfl rfl ?_
                refine AO.skipT rfl rfl rfl rfl rfl ?_
                refine AO.skipT rfl rfl rfl rfl rfl ?_
                refine AO.skipT rfl rfl rfl rfl rfl ?_
                refine AO.yld _ (Yld.pickF rfl rfl) rfl rfl rfl ?_
                refine AO.yld _ (Yld.move rfl) rfl rfl rfl ?_
                refine AO.yldG _ (Yld.move rfl) rfl rfl rfl rfl rfl ?_
                refine AO.yldG _ (Yld.move rfl) rfl rfl rfl rfl rfl ?_
                refine AO.yldG _ (Yld.indexStr Try.underlying9 rfl rfl (by omega) hck) rfl rfl rfl rfl rfl ?_
                refine AO.yldG _ (Yld.int rfl rfl rfl) rfl rfl rfl rfl rfl ?_
                refine AO.yldG _ (Yld.move rfl) rfl rfl rfl rfl rfl ?_
                refine AO.splitAt 43 _ rfl (fun s43 => ?_) (fun s43 => ?_)
                · -- s43 True
                  refine AO.yldG _ (Yld.move rfl) rfl rfl rfl rfl rfl ?_
                  refine AO.yldG _ (Yld.move rfl) rfl rfl rfl rfl rfl ?_
                  refine AO.yldG _ (Yld.indexStr Try.underlying9 rfl rfl (by omega) hck) rfl rfl rfl rfl rfl ?_
                  refine AO.yldG _ (Yld.int rfl rfl rfl) rfl rfl rfl rfl rfl ?_
                  refine AO.yldG _ (Yld.pickT rfl rfl) rfl rfl rfl rfl rfl ?_
                  refine AO.yld _ (Yld.pickF rfl rfl) rfl rfl rfl ?_
                  refine AO.yld _ (Yld.not rfl) rfl rfl rfl ?_
                  refine AO.nil ?_
                  refine AC.cond _ rfl (fun c50 => ?_) (fun c50 => ?_)
                  · -- c50 True
                    refine AC.seq ?_
                    refine AC.region ?_
                    refine AO.yld _ (Yld.assign rfl) rfl rfl rfl ?_
                    refine AO.nil ?_
                    refine Pure.ret Try.results113 (RVs.cons (RV.tmp rfl) RVs.nil) rfl ?_
                    first
                      | (exact cb (name_nil (by simp at s7; omega)))
                      | (exact cb (name_long (by simp at s12; omega)))
                      | (exact cb (name_first hc (by have h := s17; simp only [decide_eq_true_eq, decide_eq_false_iff_not, Bool.not_eq_true', Bool.not_eq_false', Bool.and_eq_true, Bool.and_eq_false_iff] at h; simp only [lowB, Bool.and_eq_false_iff, decide_eq_false_iff_not]; omega)))
                      | (exact cb (name_first hc (by have h := c21; simp only [decide_eq_true_eq, decide_eq_false_iff_not, Bool.not_eq_true', Bool.not_eq_false', Bool.and_eq_true, Bool.and_eq_false_iff] at h; simp only [lowB, Bool.and_eq_false_iff, decide_eq_false_iff_not]; omega)))
                      | (exact cb (name_ok hc (by simp only [lowB, Bool.and_eq_true, decide_eq_true_eq]; simp only [decide_eq_true_eq, decide_eq_false_iff_not, Bool.not_eq_true', Bool.not_eq_false'] at *; omega) (by simp at s12; omega) hJ.2))
                      | (exact cb (name_bad hck (by simp only [lowB, Bool.and_eq_false_iff, decide_eq_false_iff_not]; simp only [decide_eq_true_eq, decide_eq_false_iff_not, Bool.not_eq_true'] at *; omega) (by simp only [digB, Bool.and_eq_false_iff, decide_eq_false_iff_not]; simp only [decide_eq_true_eq, decide_eq_false_iff_not, Bool.not_eq_true'] at *; omega)))
                  · -- c50 False
                    refine AC.skip ?_
                    refine AC.mark ?_
                    refine AC.region ?_
                    refine AO.yld _ (Yld.move rfl) rfl rfl rfl ?_
                    refine AO.yld _ (Yld.add rfl rfl (by omega) (by omega)) rfl rfl rfl ?_
                    refine AO.yld _ (Yld.assign rfl) rfl rfl rfl ?_
                    refine AO.nil ?_
                    refine AC.back ⟨k + 1, ?_, ?_, ⟨?_, trivial⟩, trivial, ⟨rfl, trivial⟩, trivial⟩
                    · exact ⟨hk, by rw [nameTo_succ hck, hJ.2]; first | (have h : lowB c2 = true := (by simp only [lowB, Bool.and_eq_true, decide_eq_true_eq]; simp only [decide_eq_true_eq, decide_eq_false_iff_not, Bool.not_eq_true', Bool.not_eq_false'] at *; omega); simp [h]) | (have h : digB c2 = true := (by simp only [digB, Bool.and_eq_true, decide_eq_true_eq]; simp only [decide_eq_true_eq, decide_eq_false_iff_not, Bool.not_eq_true', Bool.not_eq_false'] at *; omega); simp [h])⟩
                    · omega
                    · rfl
                · -- s43 False
                  refine AO.skipT rfl rfl rfl rfl rfl ?_
                  refine AO.skipT rfl rfl rfl rfl rfl ?_
                  refine AO.skipT rfl rfl rfl rfl rfl ?_
                  refine AO.skipT rfl rfl rfl rfl rfl ?_
                  refine AO.yldG _ (Yld.pickF rfl rfl) rfl rfl rfl rfl rfl ?_
                  refine AO.yld _ (Yld.pickF rfl rfl) rfl rfl rfl ?_
                  refine AO.yld _ (Yld.not rfl) rfl rfl rfl ?_
                  refine AO.nil ?_
                  refine AC.condT rfl ?_
                  refine AC.seq ?_
                  refine AC.region ?_
                  refine AO.yld _ (Yld.assign rfl) rfl rfl rfl ?_
                  refine AO.nil ?_
                  refine Pure.ret Try.results113 (RVs.cons (RV.tmp rfl) RVs.nil) rfl ?_
                  first
                    | (exact cb (name_nil (by simp at s7; omega)))
                    | (exact cb (name_long (by simp at s12; omega)))
                    | (exact cb (name_first hc (by have h := s17; simp only [decide_eq_true_eq, decide_eq_false_iff_not, Bool.not_eq_true', Bool.not_eq_false', Bool.and_eq_true, Bool.and_eq_false_iff] at h; simp only [lowB, Bool.and_eq_false_iff, decide_eq_false_iff_not]; omega)))
                    | (exact cb (name_first hc (by have h := c21; simp only [decide_eq_true_eq, decide_eq_false_iff_not, Bool.not_eq_true', Bool.not_eq_false', Bool.and_eq_true, Bool.and_eq_false_iff] at h; simp only [lowB, Bool.and_eq_false_iff, decide_eq_false_iff_not]; omega)))
                    | (exact cb (name_ok hc (by simp only [lowB, Bool.and_eq_true, decide_eq_true_eq]; simp only [decide_eq_true_eq, decide_eq_false_iff_not, Bool.not_eq_true', Bool.not_eq_false'] at *; omega) (by simp at s12; omega) hJ.2))
                    | (exact cb (name_bad hck (by simp only [lowB, Bool.and_eq_false_iff, decide_eq_false_iff_not]; simp only [decide_eq_true_eq, decide_eq_false_iff_not, Bool.not_eq_true'] at *; omega) (by simp only [digB, Bool.and_eq_false_iff, decide_eq_false_iff_not]; simp only [decide_eq_true_eq, decide_eq_false_iff_not, Bool.not_eq_true'] at *; omega)))
            · -- c25 False
              obtain rfl : k = l.length := by have := ge_of_dec c25; omega
              refine AC.exit rfl ?_
              refine AC.seq ?_
              refine AC.region ?_
              refine AO.yld _ (Yld.assign rfl) rfl rfl rfl ?_
              refine AO.nil ?_
              refine Pure.ret Try.results113 (RVs.cons (RV.tmp rfl) RVs.nil) rfl ?_
              first
                | (exact cb (name_nil (by simp at s7; omega)))
                | (exact cb (name_long (by simp at s12; omega)))
                | (exact cb (name_first hc (by have h := s17; simp only [decide_eq_true_eq, decide_eq_false_iff_not, Bool.not_eq_true', Bool.not_eq_false', Bool.and_eq_true, Bool.and_eq_false_iff] at h; simp only [lowB, Bool.and_eq_false_iff, decide_eq_false_iff_not]; omega)))
                | (exact cb (name_first hc (by have h := c21; simp only [decide_eq_true_eq, decide_eq_false_iff_not, Bool.not_eq_true', Bool.not_eq_false', Bool.and_eq_true, Bool.and_eq_false_iff] at h; simp only [lowB, Bool.and_eq_false_iff, decide_eq_false_iff_not]; omega)))
                | (exact cb (name_ok hc (by simp only [lowB, Bool.and_eq_true, decide_eq_true_eq]; simp only [decide_eq_true_eq, decide_eq_false_iff_not, Bool.not_eq_true', Bool.not_eq_false'] at *; omega) (by simp at s12; omega) hJ.2))
                | (exact cb (name_bad hck (by simp only [lowB, Bool.and_eq_false_iff, decide_eq_false_iff_not]; simp only [decide_eq_true_eq, decide_eq_false_iff_not, Bool.not_eq_true'] at *; omega) (by simp only [digB, Bool.and_eq_false_iff, decide_eq_false_iff_not]; simp only [decide_eq_true_eq, decide_eq_false_iff_not, Bool.not_eq_true'] at *; omega)))

theorem laws_toSample_c {x : Sample} :
    Pure Try.prog 16 [.agg (encSample x)] (.agg (encSample x)) := by
  refine Pure.intro Try.func16 rfl Try.ntmps16 rfl rfl (fun w => ?_)
  refine AC.seq ?_
  refine AC.region ?_
  refine AO.box 0 rfl rfl rfl rfl rfl ?_
  refine AO.alloc 1 Try.zeroValue25 rfl rfl rfl ?_
  refine AO.nil ?_
  refine AC.seq ?_
  refine AC.region ?_
  refine AO.alloc 2 Try.zeroValue25 rfl rfl rfl ?_
  refine AO.nil ?_
  refine AC.seq ?_
  refine AC.region ?_
  refine AO.yld _ (Yld.fieldAddr Try.underlying23 rfl rfl Try.sizeOf2 rfl rfl rfl) rfl rfl rfl ?_
  refine AO.yld _ (Yld.load Try.isAgg2 rfl rfl) rfl rfl rfl ?_
  refine AO.yld _ (Yld.fieldAddr Try.underlying25 rfl rfl Try.sizeOf2 rfl rfl rfl) rfl rfl rfl ?_
  refine AO.store Try.sizeOf2 rfl rfl rfl rfl rfl rfl ?_
  refine AO.nil ?_
  refine AC.seq ?_
  refine AC.region ?_
  refine AO.yld _ (Yld.fieldAddr Try.underlying23 rfl rfl Try.sizeOf2 rfl rfl rfl) rfl rfl rfl ?_
  refine AO.yld _ (Yld.load Try.isAgg2 rfl rfl) rfl rfl rfl ?_
  refine AO.yld _ (Yld.fieldAddr Try.underlying25 rfl rfl Try.sizeOf2 rfl rfl rfl) rfl rfl rfl ?_
  refine AO.store Try.sizeOf2 rfl rfl rfl rfl rfl rfl ?_
  refine AO.nil ?_
  refine AC.seq ?_
  refine AC.region ?_
  refine AO.yld _ (Yld.fieldAddr Try.underlying23 rfl rfl Try.sizeOf2 rfl rfl rfl) rfl rfl rfl ?_
  refine AO.yld _ (Yld.load Try.isAgg2 rfl rfl) rfl rfl rfl ?_
  refine AO.yld _ (Yld.fieldAddr Try.underlying25 rfl rfl Try.sizeOf2 rfl rfl rfl) rfl rfl rfl ?_
  refine AO.store Try.sizeOf2 rfl rfl rfl rfl rfl rfl ?_
  refine AO.nil ?_
  refine AC.seq ?_
  refine AC.region ?_
  refine AO.yld _ (Yld.loadAgg Try.isAgg25 Try.sizeOf25 rfl rfl rfl rfl) rfl rfl rfl ?_
  refine AO.store Try.sizeOf25 rfl rfl rfl rfl rfl rfl ?_
  refine AO.nil ?_
  refine Pure.ret Try.results16 (RVs.cons (RV.cell Try.isAgg25 Try.sizeOf25 rfl rfl rfl rfl) RVs.nil) rfl ?_
  first | rfl | (simp_all; done) | (simp_all; intros; omega) | grind

theorem laws_toSampleS_c {xs : List Sample} (hn : xs.length ≤ 1048576) :
    Mk Try.prog 39 [.sl 3 (xs.map encSample)] (.h 0) 25 3 (xs.map encSample) := by
  have hM : (xs.map encSample).length = xs.length := List.length_map ..
  refine Mk.intro Try.func39 rfl Try.ntmps39 rfl rfl (fun w => ?_)
  refine AC.seq ?_
  refine AC.region ?_
  refine AO.yld _ (Yld.assign rfl) rfl rfl rfl ?_
  refine AO.nil ?_
  refine AC.seq ?_
  refine AC.region ?_
  refine AO.yld _ (Yld.move rfl) rfl rfl rfl ?_
  refine AO.yld _ (Yld.len Try.underlying57 rfl rfl) rfl rfl rfl ?_
  refine AO.make 0 Try.underlying60 ty25 rfl rfl rfl rfl rfl (Nat.le_refl _) (by rw [hM]; omega) (by rw [hM]; omega) rfl rfl ?_
  refine AO.yld _ (Yld.assign rfl) rfl rfl rfl ?_
  refine AO.nil ?_
  refine AC.seq ?_
  refine AC.seq ?_
  refine AC.region ?_
  refine AO.yld _ (Yld.assign rfl) rfl rfl rfl ?_
  refine AO.nil ?_
  refine AC.block ?_
  refine AC.loopC [(0, _), (2, _), (3, _)] [] (fun (k : Nat) => [(4, .p (.v (.int .i64 (k : Int))))]) (fun (k : Nat) => [(0, .vec 25 3 (filled encSample [.v (.int .i64 0), .v (.int .i64 0), .v (.int .i64 0)] xs k))]) (fun (k : Nat) => k ≤ xs.length) (fun (k : Nat) => xs.length - k) 0 ⟨rfl, rfl, rfl, trivial⟩ trivial ⟨rfl, trivial⟩ ⟨by rw [filled_zero, ← hM]; rfl, trivial⟩ ?_ (fun k hJ => ?_)
  · simp
  · -- round
    refine AC.seq ?_
    refine AC.seq ?_
    refine AC.region ?_
    refine AO.yld _ (Yld.move rfl) rfl rfl rfl ?_
    refine AO.yld _ (Yld.move rfl) rfl rfl rfl ?_
    refine AO.yld _ (Yld.len Try.underlying57 rfl rfl) rfl rfl rfl ?_
    refine AO.yld _ (Yld.int rfl rfl rfl) rfl rfl rfl ?_
    refine AO.nil ?_
    refine AC.cond _ rfl (fun c11 => ?_) (fun c11 => ?_)
    · -- c11 True
      have hk := lt_of_decM c11
      obtain ⟨x, hx⟩ := get_some hk
      have hrow := map_row (enc := encSample) hx
      refine AC.skip ?_
      refine AC.seq ?_
      refine AC.block ?_
      refine AC.region ?_
      refine AO.yld _ (Yld.move rfl) rfl rfl rfl ?_
      refine AO.yld _ (Yld.move rfl) rfl rfl rfl ?_
      refine AO.yld _ (Yld.move rfl) rfl rfl rfl ?_
      refine AO.yld _ (Yld.move rfl) rfl rfl rfl ?_
      refine AO.yld _ (Yld.indexSl Try.underlying57 Try.sizeOf23 rfl rfl hrow rfl) rfl rfl rfl ?_
      refine AO.yld _ (Yld.loadAgg Try.isAgg23 Try.sizeOf23 rfl rfl rfl rfl) rfl rfl rfl ?_
      refine AO.yld _ (Yld.call rfl rfl Try.call16 rfl rfl rfl (laws_toSample_c) rfl) rfl rfl rfl ?_
      refine AO.yld _ (Yld.indexVec Try.underlying60 Try.sizeOf25 rfl rfl rfl rfl (by rw [filled_length (by omega)]; exact hk)) rfl rfl rfl ?_
      refine AO.store Try.sizeOf25 rfl rfl rfl rfl rfl (store_el rfl (filled_get hk) rfl rfl) ?_
      refine AO.nil ?_
      refine AC.mark ?_
      refine AC.region ?_
      refine AO.yld _ (Yld.move rfl) rfl rfl rfl ?_
      refine AO.yld _ (Yld.add rfl rfl (by omega) (by omega)) rfl rfl rfl ?_
      refine AO.yld _ (Yld.assign rfl) rfl rfl rfl ?_
      refine AO.nil ?_
      refine AC.back ⟨k + 1, ?_, ?_, ⟨?_, trivial⟩, ⟨?_, trivial⟩, ⟨rfl, rfl, rfl, trivial⟩, trivial⟩
      · omega
      · omega
      · rfl
      · rw [← filled_set hx]; rfl
    · -- c11 False
      obtain rfl : k = xs.length := by have := ge_of_decM c11; omega
      refine AC.exit rfl ?_
      refine AC.seq ?_
      refine AC.region ?_
      refine AO.yld _ (Yld.move rfl) rfl rfl rfl ?_
      refine AO.yld _ (Yld.assign rfl) rfl rfl rfl ?_
      refine AO.nil ?_
      refine Mk.ret 0 Try.results39 (RVs.cons (RV.tmp rfl) RVs.nil) rfl rfl ?_
      exact filled_end

theorem laws_eqSample_c {x y : Sample} :
    Pure Try.prog 87 [.agg (encSample x), .agg (encSample y)] (.v (.bool (decide (x = y)))) := by
  refine Pure.intro Try.func87 rfl Try.ntmps87 rfl rfl (fun w => ?_)
  refine AC.seq ?_
  refine AC.region ?_
  refine AO.box 0 rfl rfl rfl rfl rfl ?_
  refine AO.box 1 rfl rfl rfl rfl rfl ?_
  refine AO.yld _ (Yld.assign rfl) rfl rfl rfl ?_
  refine AO.nil ?_
  refine AC.seq ?_
  refine AC.seq ?_
  refine AC.region ?_
  refine AO.yld _ (Yld.fieldAddr Try.underlying25 rfl rfl Try.sizeOf2 rfl rfl rfl) rfl rfl rfl ?_
  refine AO.yld _ (Yld.load Try.isAgg2 rfl rfl) rfl rfl rfl ?_
  refine AO.yld _ (Yld.fieldAddr Try.underlying25 rfl rfl Try.sizeOf2 rfl rfl rfl) rfl rfl rfl ?_
  refine AO.yld _ (Yld.load Try.isAgg2 rfl rfl) rfl rfl rfl ?_
  refine AO.yld _ (Yld.int rfl rfl rfl) rfl rfl rfl ?_
  refine AO.nil ?_
  refine AC.cond _ rfl (fun c9 => ?_) (fun c9 => ?_)
  · -- c9 True
    refine AC.seq ?_
    refine AC.region ?_
    refine AO.yld _ (Yld.assign rfl) rfl rfl rfl ?_
    refine AO.nil ?_
    refine Pure.ret Try.results87 (RVs.cons (RV.tmp rfl) RVs.nil) rfl ?_
    cases x; cases y; simp_all
  · -- c9 False
    refine AC.skip ?_
    refine AC.seq ?_
    refine AC.seq ?_
    refine AC.region ?_
    refine AO.yld _ (Yld.fieldAddr Try.underlying25 rfl rfl Try.sizeOf2 rfl rfl rfl) rfl rfl rfl ?_
    refine AO.yld _ (Yld.load Try.isAgg2 rfl rfl) rfl rfl rfl ?_
    refine AO.yld _ (Yld.fieldAddr Try.underlying25 rfl rfl Try.sizeOf2 rfl rfl rfl) rfl rfl rfl ?_
    refine AO.yld _ (Yld.load Try.isAgg2 rfl rfl) rfl rfl rfl ?_
    refine AO.yld _ (Yld.int rfl rfl rfl) rfl rfl rfl ?_
    refine AO.nil ?_
    refine AC.cond _ rfl (fun c14 => ?_) (fun c14 => ?_)
    · -- c14 True
      refine AC.seq ?_
      refine AC.region ?_
      refine AO.yld _ (Yld.assign rfl) rfl rfl rfl ?_
      refine AO.nil ?_
      refine Pure.ret Try.results87 (RVs.cons (RV.tmp rfl) RVs.nil) rfl ?_
      cases x; cases y; simp_all
    · -- c14 False
      refine AC.skip ?_
      refine AC.seq ?_
      refine AC.seq ?_
      refine AC.region ?_
      refine AO.yld _ (Yld.fieldAddr Try.underlying25 rfl rfl Try.sizeOf2 rfl rfl rfl) rfl rfl rfl ?_
      refine AO.yld _ (Yld.load Try.isAgg2 rfl rfl) rfl rfl rfl ?_
      refine AO.yld _ (Yld.fieldAddr Try.underlying25 rfl rfl Try.sizeOf2 rfl rfl rfl) rfl rfl rfl ?_
      refine AO.yld _ (Yld.load Try.isAgg2 rfl rfl) rfl rfl rfl ?_
      refine AO.yld _ (Yld.int rfl rfl rfl) rfl rfl rfl ?_
      refine AO.nil ?_
      refine AC.cond _ rfl (fun c19 => ?_) (fun c19 => ?_)
      · -- c19 True
        refine AC.seq ?_
        refine AC.region ?_
        refine AO.yld _ (Yld.assign rfl) rfl rfl rfl ?_
        refine AO.nil ?_
        refine Pure.ret Try.results87 (RVs.cons (RV.tmp rfl) RVs.nil) rfl ?_
        cases x; cases y; simp_all
      · -- c19 False
        refine AC.skip ?_
        refine AC.seq ?_
        refine AC.region ?_
        refine AO.yld _ (Yld.assign rfl) rfl rfl rfl ?_
        refine AO.nil ?_
        refine Pure.ret Try.results87 (RVs.cons (RV.tmp rfl) RVs.nil) rfl ?_
        cases x; cases y; simp_all

theorem laws_eqSampleS_c {xs ys : List Sample} (hn : xs.length ≤ 1048576) :
    Pure Try.prog 41 [.sl 3 (xs.map encSample), .sl 3 (ys.map encSample)] (.v (.bool (decide (xs = ys)))) := by
  refine Pure.intro Try.func41 rfl Try.ntmps41 rfl rfl (fun w => ?_)
  refine AC.seq ?_
  refine AC.region ?_
  refine AO.yld _ (Yld.assign rfl) rfl rfl rfl ?_
  refine AO.nil ?_
  refine AC.seq ?_
  refine AC.seq ?_
  refine AC.region ?_
  refine AO.yld _ (Yld.move rfl) rfl rfl rfl ?_
  refine AO.yld _ (Yld.len Try.underlying60 rfl rfl) rfl rfl rfl ?_
  refine AO.yld _ (Yld.move rfl) rfl rfl rfl ?_
  refine AO.yld _ (Yld.len Try.underlying60 rfl rfl) rfl rfl rfl ?_
  refine AO.yld _ (Yld.int rfl rfl rfl) rfl rfl rfl ?_
  refine AO.nil ?_
  refine AC.cond _ rfl (fun c10 => ?_) (fun c10 => ?_)
  · -- c10 True
    have hl : xs.length ≠ ys.length := by have h := c10; simp only [List.length_map, bne_iff_ne, ne_eq] at h; omega
    refine AC.seq ?_
    refine AC.region ?_
    refine AO.yld _ (Yld.assign rfl) rfl rfl rfl ?_
    refine AO.nil ?_
    refine Pure.ret Try.results41 (RVs.cons (RV.tmp rfl) RVs.nil) rfl ?_
    first
      | (exact congrArg (fun b => PV.v (.bool b)) (decide_eq_false (fun e => hl (congrArg List.length e))).symm)
      | (refine congrArg (fun b => PV.v (.bool b)) (decide_eq_false (fun e => ?_)).symm; subst e; rw [hx] at hy; simp_all)
      | (refine congrArg (fun b => PV.v (.bool b)) (decide_eq_true ?_).symm; have := hJ.2; rw [List.take_of_length_le (Nat.le_refl _), List.take_of_length_le (by omega)] at this; exact this)
  · -- c10 False
    have hl : xs.length = ys.length := by have h := c10; simp only [List.length_map, bne_eq_false_iff_eq] at h; omega
    refine AC.skip ?_
    refine AC.seq ?_
    refine AC.seq ?_
    refine AC.region ?_
    refine AO.yld _ (Yld.assign rfl) rfl rfl rfl ?_
    refine AO.nil ?_
    refine AC.block ?_
    refine AC.loopC [(0, _), (1, _)] [] (fun (k : Nat) => [(5, .p (.v (.int .i64 (k : Int))))]) (fun (k : Nat) => []) (fun (k : Nat) => k ≤ xs.length ∧ xs.take k = ys.take k) (fun (k : Nat) => xs.length - k) 0 ⟨rfl, rfl, trivial⟩ trivial ⟨rfl, trivial⟩ trivial ?_ (fun k hJ => ?_)
    · simp
    · -- round
      refine AC.seq ?_
      refine AC.seq ?_
      refine AC.region ?_
      refine AO.yld _ (Yld.move rfl) rfl rfl rfl ?_
      refine AO.yld _ (Yld.move rfl) rfl rfl rfl ?_
      refine AO.yld _ (Yld.len Try.underlying60 rfl rfl) rfl rfl rfl ?_
      refine AO.yld _ (Yld.int rfl rfl rfl) rfl rfl rfl ?_
      refine AO.nil ?_
      refine AC.cond _ rfl (fun c14 => ?_) (fun c14 => ?_)
      · -- c14 True
        have hk := lt_of_decM c14
        obtain ⟨x, hx⟩ := get_some hk
        have hrow := map_row (enc := encSample) hx
        obtain ⟨y, hy⟩ := get_some (xs := ys) (k := k) (by omega)
        have hrow2 := map_row (enc := encSample) hy
        refine AC.skip ?_
        refine AC.seq ?_
        refine AC.block ?_
        refine AC.seq ?_
        refine AC.draw (by kernel_rfl) (by kernel_rfl) ?_
        refine AO.yld _ (Yld.move rfl) rfl rfl rfl ?_
        refine AO.yld _ (Yld.move rfl) rfl rfl rfl ?_
        refine AO.yld _ (Yld.indexSl Try.underlying60 Try.sizeOf25 rfl rfl hrow rfl) rfl rfl rfl ?_
        refine AO.yld _ (Yld.loadAgg Try.isAgg25 Try.sizeOf25 rfl rfl rfl rfl) rfl rfl rfl ?_
        refine AO.yld _ (Yld.move rfl) rfl rfl rfl ?_
        refine AO.yld _ (Yld.move rfl) rfl rfl rfl ?_
        refine AO.yld _ (Yld.indexSl Try.underlying60 Try.sizeOf25 rfl rfl hrow2 rfl) rfl rfl rfl ?_
        refine AO.yld _ (Yld.loadAgg Try.isAgg25 Try.sizeOf25 rfl rfl rfl rfl) rfl rfl rfl ?_
        refine AO.yld _ (Yld.call rfl rfl Try.call87 rfl rfl rfl (laws_eqSample_c) rfl) rfl rfl rfl ?_
        refine AO.yld _ (Yld.not rfl) rfl rfl rfl ?_
        refine AO.nil ?_
        refine AC.cond _ rfl (fun c26 => ?_) (fun c26 => ?_)
        · -- c26 True
          refine AC.seq ?_
          refine AC.region ?_
          refine AO.yld _ (Yld.assign rfl) rfl rfl rfl ?_
          refine AO.nil ?_
          refine Pure.ret Try.results41 (RVs.cons (RV.tmp rfl) RVs.nil) rfl ?_
          first
            | (exact congrArg (fun b => PV.v (.bool b)) (decide_eq_false (fun e => hl (congrArg List.length e))).symm)
            | (refine congrArg (fun b => PV.v (.bool b)) (decide_eq_false (fun e => ?_)).symm; subst e; rw [hx] at hy; simp_all)
            | (refine congrArg (fun b => PV.v (.bool b)) (decide_eq_true ?_).symm; have := hJ.2; rw [List.take_of_length_le (Nat.le_refl _), List.take_of_length_le (by omega)] at this; exact this)
        · -- c26 False
          refine AC.skip ?_
          refine AC.mark ?_
          refine AC.region ?_
          refine AO.yld _ (Yld.move rfl) rfl rfl rfl ?_
          refine AO.yld _ (Yld.add rfl rfl (by omega) (by omega)) rfl rfl rfl ?_
          refine AO.yld _ (Yld.assign rfl) rfl rfl rfl ?_
          refine AO.nil ?_
          refine AC.back ⟨k + 1, ?_, ?_, ⟨?_, trivial⟩, trivial, ⟨rfl, rfl, trivial⟩, trivial⟩
          · exact ⟨hk, by rw [take_snoc hx, take_snoc hy, hJ.2, show x = y by simpa using c26]⟩
          · omega
          · rfl
      · -- c14 False
        obtain rfl : k = xs.length := by have := ge_of_decM c14; omega
        refine AC.exit rfl ?_
        refine AC.seq ?_
        refine AC.region ?_
        refine AO.yld _ (Yld.assign rfl) rfl rfl rfl ?_
        refine AO.nil ?_
        refine Pure.ret Try.results41 (RVs.cons (RV.tmp rfl) RVs.nil) rfl ?_
        first
          | (exact congrArg (fun b => PV.v (.bool b)) (decide_eq_false (fun e => hl (congrArg List.length e))).symm)
          | (refine congrArg (fun b => PV.v (.bool b)) (decide_eq_false (fun e => ?_)).symm; subst e; rw [hx] at hy; simp_all)
          | (refine congrArg (fun b => PV.v (.bool b)) (decide_eq_true ?_).symm; have := hJ.2; rw [List.take_of_length_le (Nat.le_refl _), List.take_of_length_le (by omega)] at this; exact this)

theorem laws_szSampleS_c {xs : List Sample} {left : Int} (h0 : 0 ≤ left) (h1 : left ≤ 1048576) (hn : xs.length ≤ 9223372036854775807) :
    Pure Try.prog 37 [.sl 3 (xs.map encSample), .v (.int .i64 left)] (.v (.int .i64 (szLen xs.length left))) := by
  refine Pure.intro Try.func37 rfl Try.ntmps37 rfl rfl (fun w => ?_)
  refine AC.seq ?_
  refine AC.region ?_
  refine AO.yld _ (Yld.assign rfl) rfl rfl rfl ?_
  refine AO.nil ?_
  refine AC.seq ?_
  refine AC.region ?_
  refine AO.yld _ (Yld.move rfl) rfl rfl rfl ?_
  refine AO.yld _ (Yld.move rfl) rfl rfl rfl ?_
  refine AO.yld _ (Yld.len Try.underlying57 rfl rfl) rfl rfl rfl ?_
  refine AO.yld _ (Yld.sub rfl rfl (by simp only [List.length_map]; omega) (by simp only [List.length_map]; omega)) rfl rfl rfl ?_
  refine AO.yld _ (Yld.assign rfl) rfl rfl rfl ?_
  refine AO.nil ?_
  refine AC.seq ?_
  refine AC.seq ?_
  refine AC.region ?_
  refine AO.yld _ (Yld.move rfl) rfl rfl rfl ?_
  refine AO.yld _ (Yld.int rfl rfl rfl) rfl rfl rfl ?_
  refine AO.nil ?_
  refine AC.cond _ rfl (fun c10 => ?_) (fun c10 => ?_)
  · -- c10 True
    refine AC.seq ?_
    refine AC.region ?_
    refine AO.yld _ (Yld.assign rfl) rfl rfl rfl ?_
    refine AO.nil ?_
    refine Pure.ret Try.results37 (RVs.cons (RV.tmp rfl) RVs.nil) rfl ?_
    first | (simp_all [szLen]; done) | (simp_all [szLen]; intros; omega)
  · -- c10 False
    refine AC.skip ?_
    refine AC.seq ?_
    refine AC.region ?_
    refine AO.yld _ (Yld.move rfl) rfl rfl rfl ?_
    refine AO.yld _ (Yld.assign rfl) rfl rfl rfl ?_
    refine AO.nil ?_
    refine Pure.ret Try.results37 (RVs.cons (RV.tmp rfl) RVs.nil) rfl ?_
    first | (simp_all [szLen]; done) | (simp_all [szLen]; intros; omega)

theorem laws_toSession_c {x : Session} :
    Pure Try.prog 76 [.agg (encSession x)] (.agg (encSession x)) := by
  refine Pure.intro Try.func76 rfl Try.ntmps76 rfl rfl (fun w => ?_)
  refine AC.seq ?_
  refine AC.region ?_
  refine AO.box 0 rfl rfl rfl rfl rfl ?_
  refine AO.alloc 1 Try.zeroValue109 rfl rfl rfl ?_
  refine AO.nil ?_
  refine AC.seq ?_
  refine AC.region ?_
  refine AO.alloc 2 Try.zeroValue109 rfl rfl rfl ?_
  refine AO.nil ?_
  refine AC.seq ?_
  refine AC.region ?_
  refine AO.yld _ (Yld.fieldAddr Try.underlying111 rfl rfl Try.sizeOf2 rfl rfl rfl) rfl rfl rfl ?_
  refine AO.yld _ (Yld.load Try.isAgg2 rfl rfl) rfl rfl rfl ?_
  refine AO.yld _ (Yld.fieldAddr Try.underlying109 rfl rfl Try.sizeOf2 rfl rfl rfl) rfl rfl rfl ?_
  refine AO.store Try.sizeOf2 rfl rfl rfl rfl rfl rfl ?_
  refine AO.nil ?_
  refine AC.seq ?_
  refine AC.region ?_
  refine AO.yld _ (Yld.fieldAddr Try.underlying111 rfl rfl Try.sizeOf2 rfl rfl rfl) rfl rfl rfl ?_
  refine AO.yld _ (Yld.load Try.isAgg2 rfl rfl) rfl rfl rfl ?_
  refine AO.yld _ (Yld.fieldAddr Try.underlying109 rfl rfl Try.sizeOf2 rfl rfl rfl) rfl rfl rfl ?_
  refine AO.store Try.sizeOf2 rfl rfl rfl rfl rfl rfl ?_
  refine AO.nil ?_
  refine AC.seq ?_
  refine AC.region ?_
  refine AO.yld _ (Yld.fieldAddr Try.underlying111 rfl rfl Try.sizeOf2 rfl rfl rfl) rfl rfl rfl ?_
  refine AO.yld _ (Yld.load Try.isAgg2 rfl rfl) rfl rfl rfl ?_
  refine AO.yld _ (Yld.fieldAddr Try.underlying109 rfl rfl Try.sizeOf2 rfl rfl rfl) rfl rfl rfl ?_
  refine AO.store Try.sizeOf2 rfl rfl rfl rfl rfl rfl ?_
  refine AO.nil ?_
  refine AC.seq ?_
  refine AC.region ?_
  refine AO.yld _ (Yld.fieldAddr Try.underlying111 rfl rfl Try.sizeOf2 rfl rfl rfl) rfl rfl rfl ?_
  refine AO.yld _ (Yld.load Try.isAgg2 rfl rfl) rfl rfl rfl ?_
  refine AO.yld _ (Yld.fieldAddr Try.underlying109 rfl rfl Try.sizeOf2 rfl rfl rfl) rfl rfl rfl ?_
  refine AO.store Try.sizeOf2 rfl rfl rfl rfl rfl rfl ?_
  refine AO.nil ?_
  refine AC.seq ?_
  refine AC.region ?_
  refine AO.yld _ (Yld.loadAgg Try.isAgg109 Try.sizeOf109 rfl rfl rfl rfl) rfl rfl rfl ?_
  refine AO.store Try.sizeOf109 rfl rfl rfl rfl rfl rfl ?_
  refine AO.nil ?_
  refine Pure.ret Try.results76 (RVs.cons (RV.cell Try.isAgg109 Try.sizeOf109 rfl rfl rfl rfl) RVs.nil) rfl ?_
  first | rfl | (simp_all; done) | (simp_all; intros; omega) | grind

theorem laws_toSessionS_c {xs : List Session} (hn : xs.length ≤ 1048576) :
    Mk Try.prog 29 [.sl 4 (xs.map encSession)] (.h 0) 109 4 (xs.map encSession) := by
  have hM : (xs.map encSession).length = xs.length := List.length_map ..
  refine Mk.intro Try.func29 rfl Try.ntmps29 rfl rfl (fun w => ?_)
  refine AC.seq ?_
  refine AC.region ?_
  refine AO.yld _ (Yld.assign rfl) rfl rfl rfl ?_
  refine AO.nil ?_
  refine AC.seq ?_
  refine AC.region ?_
  refine AO.yld _ (Yld.move rfl) rfl rfl rfl ?_
  refine AO.yld _ (Yld.len Try.underlying44 rfl rfl) rfl rfl rfl ?_
  refine AO.make 0 Try.underlying47 ty109 rfl rfl rfl rfl rfl (Nat.le_refl _) (by rw [hM]; omega) (by rw [hM]; omega) rfl rfl ?_
  refine AO.yld _ (Yld.assign rfl) rfl rfl rfl ?_
  refine AO.nil ?_
  refine AC.seq ?_
  refine AC.seq ?_
  refine AC.region ?_
  refine AO.yld _ (Yld.assign rfl) rfl rfl rfl ?_
  refine AO.nil ?_
  refine AC.block ?_
  refine AC.loopC [(0, _), (2, _), (3, _)] [] (fun (k : Nat) => [(4, .p (.v (.int .i64 (k : Int))))]) (fun (k : Nat) => [(0, .vec 109 4 (filled encSession [.v (.int .i64 0), .v (.int .i64 0), .v (.int .i64 0), .v (.int .i64 0)] xs k))]) (fun (k : Nat) => k ≤ xs.length) (fun (k : Nat) => xs.length - k) 0 ⟨rfl, rfl, rfl, trivial⟩ trivial ⟨rfl, trivial⟩ ⟨by rw [filled_zero, ← hM]; rfl, trivial⟩ ?_ (fun k hJ => ?_)
  · simp
  · -- round
    refine AC.seq ?_
    refine AC.seq ?_
    refine AC.region ?_
    refine AO.yld _ (Yld.move rfl) rfl rfl rfl ?_
    refine AO.yld _ (Yld.move rfl) rfl rfl rfl ?_
    refine AO.yld _ (Yld.len Try.underlying44 rfl rfl) rfl rfl rfl ?_
    refine AO.yld _ (Yld.int rfl rfl rfl) rfl rfl rfl ?_
    refine AO.nil ?_
    refine AC.cond _ rfl (fun c11 => ?_) (fun c11 => ?_)
    · -- c11 True
      have hk := lt_of_decM c11
      obtain ⟨x, hx⟩ := get_some hk
      have hrow := map_row (enc := encSession) hx
      refine AC.skip ?_
      refine AC.seq ?_
      refine AC.block ?_
      refine AC.region ?_
      refine AO.yld _ (Yld.move rfl) rfl rfl rfl ?_
      refine AO.yld _ (Yld.move rfl) rfl rfl rfl ?_
      refine AO.yld _ (Yld.move rfl) rfl rfl rfl ?_
      refine AO.yld _ (Yld.move rfl) rfl rfl rfl ?_
      refine AO.yld _ (Yld.indexSl Try.underlying44 Try.sizeOf111 rfl rfl hrow rfl) rfl rfl rfl ?_
      refine AO.yld _ (Yld.loadAgg Try.isAgg111 Try.sizeOf111 rfl rfl rfl rfl) rfl rfl rfl ?_
      refine AO.yld _ (Yld.call rfl rfl Try.call76 rfl rfl rfl (laws_toSession_c) rfl) rfl rfl rfl ?_
      refine AO.yld _ (Yld.indexVec Try.underlying47 Try.sizeOf109 rfl rfl rfl rfl (by rw [filled_length (by omega)]; exact hk)) rfl rfl rfl ?_
      refine AO.store Try.sizeOf109 rfl rfl rfl rfl rfl (store_el rfl (filled_get hk) rfl rfl) ?_
      refine AO.nil ?_
      refine AC.mark ?_
      refine AC.region ?_
      refine AO.yld _ (Yld.move rfl) rfl rfl rfl ?_
      refine AO.yld _ (Yld.add rfl rfl (by omega) (by omega)) rfl rfl rfl ?_
      refine AO.yld _ (Yld.assign rfl) rfl rfl rfl ?_
      refine AO.nil ?_
      refine AC.back ⟨k + 1, ?_, ?_, ⟨?_, trivial⟩, ⟨?_, trivial⟩, ⟨rfl, rfl, rfl, trivial⟩, trivial⟩
      · omega
      · omega
      · rfl
      · rw [← filled_set hx]; rfl
    · -- c11 False
      obtain rfl : k = xs.length := by have := ge_of_decM c11; omega
      refine AC.exit rfl ?_
      refine AC.seq ?_
      refine AC.region ?_
      refine AO.yld _ (Yld.move rfl) rfl rfl rfl ?_
      refine AO.yld _ (Yld.assign rfl) rfl rfl rfl ?_
      refine AO.nil ?_
      refine Mk.ret 0 Try.results29 (RVs.cons (RV.tmp rfl) RVs.nil) rfl rfl ?_
      exact filled_end

theorem laws_eqSession_c {x y : Session} :
    Pure Try.prog 78 [.agg (encSession x), .agg (encSession y)] (.v (.bool (decide (x = y)))) := by
  refine Pure.intro Try.func78 rfl Try.ntmps78 rfl rfl (fun w => ?_)
  refine AC.seq ?_
  refine AC.region ?_
  refine AO.box 0 rfl rfl rfl rfl rfl ?_
  refine AO.box 1 rfl rfl rfl rfl rfl ?_
  refine AO.yld _ (Yld.assign rfl) rfl rfl rfl ?_
  refine AO.nil ?_
  refine AC.seq ?_
  refine AC.seq ?_
  refine AC.region ?_
  refine AO.yld _ (Yld.fieldAddr Try.underlying109 rfl rfl Try.sizeOf2 rfl rfl rfl) rfl rfl rfl ?_
  refine AO.yld _ (Yld.load Try.isAgg2 rfl rfl) rfl rfl rfl ?_
  refine AO.yld _ (Yld.fieldAddr Try.underlying109 rfl rfl Try.sizeOf2 rfl rfl rfl) rfl rfl rfl ?_
  refine AO.yld _ (Yld.load Try.isAgg2 rfl rfl) rfl rfl rfl ?_
  refine AO.yld _ (Yld.int rfl rfl rfl) rfl rfl rfl ?_
  refine AO.nil ?_
  refine AC.cond _ rfl (fun c9 => ?_) (fun c9 => ?_)
  · -- c9 True
    refine AC.seq ?_
    refine AC.region ?_
    refine AO.yld _ (Yld.assign rfl) rfl rfl rfl ?_
    refine AO.nil ?_
    refine Pure.ret Try.results78 (RVs.cons (RV.tmp rfl) RVs.nil) rfl ?_
    cases x; cases y; simp_all
  · -- c9 False
    refine AC.skip ?_
    refine AC.seq ?_
    refine AC.seq ?_
    refine AC.region ?_
    refine AO.yld _ (Yld.fieldAddr Try.underlying109 rfl rfl Try.sizeOf2 rfl rfl rfl) rfl rfl rfl ?_
    refine AO.yld _ (Yld.load Try.isAgg2 rfl rfl) rfl rfl rfl ?_
    refine AO.yld _ (Yld.fieldAddr Try.underlying109 rfl rfl Try.sizeOf2 rfl rfl rfl) rfl rfl rfl ?_
    refine AO.yld _ (Yld.load Try.isAgg2 rfl rfl) rfl rfl rfl ?_
    refine AO.yld _ (Yld.int rfl rfl rfl) rfl rfl rfl ?_
    refine AO.nil ?_
    refine AC.cond _ rfl (fun c14 => ?_) (fun c14 => ?_)
    · -- c14 True
      refine AC.seq ?_
      refine AC.region ?_
      refine AO.yld _ (Yld.assign rfl) rfl rfl rfl ?_
      refine AO.nil ?_
      refine Pure.ret Try.results78 (RVs.cons (RV.tmp rfl) RVs.nil) rfl ?_
      cases x; cases y; simp_all
    · -- c14 False
      refine AC.skip ?_
      refine AC.seq ?_
      refine AC.seq ?_
      refine AC.region ?_
      refine AO.yld _ (Yld.fieldAddr Try.underlying109 rfl rfl Try.sizeOf2 rfl rfl rfl) rfl rfl rfl ?_
      refine AO.yld _ (Yld.load Try.isAgg2 rfl rfl) rfl rfl rfl ?_
      refine AO.yld _ (Yld.fieldAddr Try.underlying109 rfl rfl Try.sizeOf2 rfl rfl rfl) rfl rfl rfl ?_
      refine AO.yld _ (Yld.load Try.isAgg2 rfl rfl) rfl rfl rfl ?_
      refine AO.yld _ (Yld.int rfl rfl rfl) rfl rfl rfl ?_
      refine AO.nil ?_
      refine AC.cond _ rfl (fun c19 => ?_) (fun c19 => ?_)
      · -- c19 True
        refine AC.seq ?_
        refine AC.region ?_
        refine AO.yld _ (Yld.assign rfl) rfl rfl rfl ?_
        refine AO.nil ?_
        refine Pure.ret Try.results78 (RVs.cons (RV.tmp rfl) RVs.nil) rfl ?_
        cases x; cases y; simp_all
      · -- c19 False
        refine AC.skip ?_
        refine AC.seq ?_
        refine AC.seq ?_
        refine AC.region ?_
        refine AO.yld _ (Yld.fieldAddr Try.underlying109 rfl rfl Try.sizeOf2 rfl rfl rfl) rfl rfl rfl ?_
        refine AO.yld _ (Yld.load Try.isAgg2 rfl rfl) rfl rfl rfl ?_
        refine AO.yld _ (Yld.fieldAddr Try.underlying109 rfl rfl Try.sizeOf2 rfl rfl rfl) rfl rfl rfl ?_
        refine AO.yld _ (Yld.load Try.isAgg2 rfl rfl) rfl rfl rfl ?_
        refine AO.yld _ (Yld.int rfl rfl rfl) rfl rfl rfl ?_
        refine AO.nil ?_
        refine AC.cond _ rfl (fun c24 => ?_) (fun c24 => ?_)
        · -- c24 True
          refine AC.seq ?_
          refine AC.region ?_
          refine AO.yld _ (Yld.assign rfl) rfl rfl rfl ?_
          refine AO.nil ?_
          refine Pure.ret Try.results78 (RVs.cons (RV.tmp rfl) RVs.nil) rfl ?_
          cases x; cases y; simp_all
        · -- c24 False
          refine AC.skip ?_
          refine AC.seq ?_
          refine AC.region ?_
          refine AO.yld _ (Yld.assign rfl) rfl rfl rfl ?_
          refine AO.nil ?_
          refine Pure.ret Try.results78 (RVs.cons (RV.tmp rfl) RVs.nil) rfl ?_
          cases x; cases y; simp_all

theorem laws_eqSessionS_c {xs ys : List Session} (hn : xs.length ≤ 1048576) :
    Pure Try.prog 31 [.sl 4 (xs.map encSession), .sl 4 (ys.map encSession)] (.v (.bool (decide (xs = ys)))) := by
  refine Pure.intro Try.func31 rfl Try.ntmps31 rfl rfl (fun w => ?_)
  refine AC.seq ?_
  refine AC.region ?_
  refine AO.yld _ (Yld.assign rfl) rfl rfl rfl ?_
  refine AO.nil ?_
  refine AC.seq ?_
  refine AC.seq ?_
  refine AC.region ?_
  refine AO.yld _ (Yld.move rfl) rfl rfl rfl ?_
  refine AO.yld _ (Yld.len Try.underlying47 rfl rfl) rfl rfl rfl ?_
  refine AO.yld _ (Yld.move rfl) rfl rfl rfl ?_
  refine AO.yld _ (Yld.len Try.underlying47 rfl rfl) rfl rfl rfl ?_
  refine AO.yld _ (Yld.int rfl rfl rfl) rfl rfl rfl ?_
  refine AO.nil ?_
  refine AC.cond _ rfl (fun c10 => ?_) (fun c10 => ?_)
  · -- c10 True
    have hl : xs.length ≠ ys.length := by have h := c10; simp only [List.length_map, bne_iff_ne, ne_eq] at h; omega
    refine AC.seq ?_
    refine AC.region ?_
    refine AO.yld _ (Yld.assign rfl) rfl rfl rfl ?_
    refine AO.nil ?_
    refine Pure.ret Try.results31 (RVs.cons (RV.tmp rfl) RVs.nil) rfl ?_
    first
      | (exact congrArg (fun b => PV.v (.bool b)) (decide_eq_false (fun e => hl (congrArg List.length e))).symm)
      | (refine congrArg (fun b => PV.v (.bool b)) (decide_eq_false (fun e => ?_)).symm; subst e; rw [hx] at hy; simp_all)
      | (refine congrArg (fun b => PV.v (.bool b)) (decide_eq_true ?_).symm; have := hJ.2; rw [List.take_of_length_le (Nat.le_refl _), List.take_of_length_le (by omega)] at this; exact this)
  · -- c10 False
    have hl : xs.length = ys.length := by have h := c10; simp only [List.length_map, bne_eq_false_iff_eq] at h; omega
    refine AC.skip ?_
    refine AC.seq ?_
    refine AC.seq ?_
    refine AC.region ?_
    refine AO.yld _ (Yld.assign rfl) rfl rfl rfl ?_
    refine AO.nil ?_
    refine AC.block ?_
    refine AC.loopC [(0, _), (1, _)] [] (fun (k : Nat) => [(5, .p (.v (.int .i64 (k : Int))))]) (fun (k : Nat) => []) (fun (k : Nat) => k ≤ xs.length ∧ xs.take k = ys.take k) (fun (k : Nat) => xs.length - k) 0 ⟨rfl, rfl, trivial⟩ trivial ⟨rfl, trivial⟩ trivial ?_ (fun k hJ => ?_)
    · simp
    · -- round
      refine AC.seq ?_
      refine AC.seq ?_
      refine AC.region ?_
      refine AO.yld _ (Yld.move rfl) rfl rfl rfl ?_
      refine AO.yld _ (Yld.move rfl) rfl rfl rfl ?_
      refine AO.yld _ (Yld.len Try.underlying47 rfl rfl) rfl rfl rfl ?_
      refine AO.yld _ (Yld.int rfl rfl rfl) rfl rfl rfl ?_
      refine AO.nil ?_
      refine AC.cond _ rfl (fun c14 => ?_) (fun c14 => ?_)
      · -- c14 True
        have hk := lt_of_decM c14
        obtain ⟨x, hx⟩ := get_some hk
        have hrow := map_row (enc := encSession) hx
        obtain ⟨y, hy⟩ := get_some (xs := ys) (k := k) (by omega)
        have hrow2 := map_row (enc := encSession) hy
        refine AC.skip ?_
        refine AC.seq ?_
        refine AC.block ?_
        refine AC.seq ?_
        refine AC.draw (by kernel_rfl) (by kernel_rfl) ?_
        refine AO.yld _ (Yld.move rfl) rfl rfl rfl ?_
        refine AO.yld _ (Yld.move rfl) rfl rfl rfl ?_
        refine AO.yld _ (Yld.indexSl Try.underlying47 Try.sizeOf109 rfl rfl hrow rfl) rfl rfl rfl ?_
        refine AO.yld _ (Yld.loadAgg Try.isAgg109 Try.sizeOf109 rfl rfl rfl rfl) rfl rfl rfl ?_
        refine AO.yld _ (Yld.move rfl) rfl rfl rfl ?_
        refine AO.yld _ (Yld.move rfl) rfl rfl rfl ?_
        refine AO.yld _ (Yld.indexSl Try.underlying47 Try.sizeOf109 rfl rfl hrow2 rfl) rfl rfl rfl ?_
        refine AO.yld _ (Yld.loadAgg Try.isAgg109 Try.sizeOf109 rfl rfl rfl rfl) rfl rfl rfl ?_
        refine AO.yld _ (Yld.call rfl rfl Try.call78 rfl rfl rfl (laws_eqSession_c) rfl) rfl rfl rfl ?_
        refine AO.yld _ (Yld.not rfl) rfl rfl rfl ?_
        refine AO.nil ?_
        refine AC.cond _ rfl (fun c26 => ?_) (fun c26 => ?_)
        · -- c26 True
          refine AC.seq ?_
          refine AC.region ?_
          refine AO.yld _ (Yld.assign rfl) rfl rfl rfl ?_
          refine AO.nil ?_
          refine Pure.ret Try.results31 (RVs.cons (RV.tmp rfl) RVs.nil) rfl ?_
          first
            | (exact congrArg (fun b => PV.v (.bool b)) (decide_eq_false (fun e => hl (congrArg List.length e))).symm)
            | (refine congrArg (fun b => PV.v (.bool b)) (decide_eq_false (fun e => ?_)).symm; subst e; rw [hx] at hy; simp_all)
            | (refine congrArg (fun b => PV.v (.bool b)) (decide_eq_true ?_).symm; have := hJ.2; rw [List.take_of_length_le (Nat.le_refl _), List.take_of_length_le (by omega)] at this; exact this)
        · -- c26 False
          refine AC.skip ?_
          refine AC.mark ?_
          refine AC.region ?_
          refine AO.yld _ (Yld.move rfl) rfl rfl rfl ?_
          refine AO.yld _ (Yld.add rfl rfl (by omega) (by omega)) rfl rfl rfl ?_
          refine AO.yld _ (Yld.assign rfl) rfl rfl rfl ?_
          refine AO.nil ?_
          refine AC.back ⟨k + 1, ?_, ?_, ⟨?_, trivial⟩, trivial, ⟨rfl, rfl, trivial⟩, trivial⟩
          · exact ⟨hk, by rw [take_snoc hx, take_snoc hy, hJ.2, show x = y by simpa using c26]⟩
          · omega
          · rfl
      · -- c14 False
        obtain rfl : k = xs.length := by have := ge_of_decM c14; omega
        refine AC.exit rfl ?_
        refine AC.seq ?_
        refine AC.region ?_
        refine AO.yld _ (Yld.assign rfl) rfl rfl rfl ?_
        refine AO.nil ?_
        refine Pure.ret Try.results31 (RVs.cons (RV.tmp rfl) RVs.nil) rfl ?_
        first
          | (exact congrArg (fun b => PV.v (.bool b)) (decide_eq_false (fun e => hl (congrArg List.length e))).symm)
          | (refine congrArg (fun b => PV.v (.bool b)) (decide_eq_false (fun e => ?_)).symm; subst e; rw [hx] at hy; simp_all)
          | (refine congrArg (fun b => PV.v (.bool b)) (decide_eq_true ?_).symm; have := hJ.2; rw [List.take_of_length_le (Nat.le_refl _), List.take_of_length_le (by omega)] at this; exact this)

theorem laws_szSessionS_c {xs : List Session} {left : Int} (h0 : 0 ≤ left) (h1 : left ≤ 1048576) (hn : xs.length ≤ 9223372036854775807) :
    Pure Try.prog 27 [.sl 4 (xs.map encSession), .v (.int .i64 left)] (.v (.int .i64 (szLen xs.length left))) := by
  refine Pure.intro Try.func27 rfl Try.ntmps27 rfl rfl (fun w => ?_)
  refine AC.seq ?_
  refine AC.region ?_
  refine AO.yld _ (Yld.assign rfl) rfl rfl rfl ?_
  refine AO.nil ?_
  refine AC.seq ?_
  refine AC.region ?_
  refine AO.yld _ (Yld.move rfl) rfl rfl rfl ?_
  refine AO.yld _ (Yld.move rfl) rfl rfl rfl ?_
  refine AO.yld _ (Yld.len Try.underlying44 rfl rfl) rfl rfl rfl ?_
  refine AO.yld _ (Yld.sub rfl rfl (by simp only [List.length_map]; omega) (by simp only [List.length_map]; omega)) rfl rfl rfl ?_
  refine AO.yld _ (Yld.assign rfl) rfl rfl rfl ?_
  refine AO.nil ?_
  refine AC.seq ?_
  refine AC.seq ?_
  refine AC.region ?_
  refine AO.yld _ (Yld.move rfl) rfl rfl rfl ?_
  refine AO.yld _ (Yld.int rfl rfl rfl) rfl rfl rfl ?_
  refine AO.nil ?_
  refine AC.cond _ rfl (fun c10 => ?_) (fun c10 => ?_)
  · -- c10 True
    refine AC.seq ?_
    refine AC.region ?_
    refine AO.yld _ (Yld.assign rfl) rfl rfl rfl ?_
    refine AO.nil ?_
    refine Pure.ret Try.results27 (RVs.cons (RV.tmp rfl) RVs.nil) rfl ?_
    first | (simp_all [szLen]; done) | (simp_all [szLen]; intros; omega)
  · -- c10 False
    refine AC.skip ?_
    refine AC.seq ?_
    refine AC.region ?_
    refine AO.yld _ (Yld.move rfl) rfl rfl rfl ?_
    refine AO.yld _ (Yld.assign rfl) rfl rfl rfl ?_
    refine AO.nil ?_
    refine Pure.ret Try.results27 (RVs.cons (RV.tmp rfl) RVs.nil) rfl ?_
    first | (simp_all [szLen]; done) | (simp_all [szLen]; intros; omega)

theorem laws_toMachine_c {x : Mach} :
    Pure Try.prog 25 [.agg (encMach x)] (.agg (encMach x)) := by
  refine Pure.intro Try.func25 rfl Try.ntmps25 rfl rfl (fun w => ?_)
  refine AC.seq ?_
  refine AC.region ?_
  refine AO.box 0 rfl rfl rfl rfl rfl ?_
  refine AO.alloc 1 Try.zeroValue41 rfl rfl rfl ?_
  refine AO.nil ?_
  refine AC.seq ?_
  refine AC.region ?_
  refine AO.alloc 2 Try.zeroValue41 rfl rfl rfl ?_
  refine AO.nil ?_
  refine AC.seq ?_
  refine AC.region ?_
  refine AO.yld _ (Yld.fieldAddr Try.underlying37 rfl rfl Try.sizeOf9 rfl rfl rfl) rfl rfl rfl ?_
  refine AO.yld _ (Yld.load Try.isAgg9 rfl rfl) rfl rfl rfl ?_
  refine AO.yld _ (Yld.fieldAddr Try.underlying41 rfl rfl Try.sizeOf9 rfl rfl rfl) rfl rfl rfl ?_
  refine AO.store Try.sizeOf9 rfl rfl rfl rfl rfl rfl ?_
  refine AO.nil ?_
  refine AC.seq ?_
  refine AC.region ?_
  refine AO.yld _ (Yld.fieldAddr Try.underlying37 rfl rfl Try.sizeOf2 rfl rfl rfl) rfl rfl rfl ?_
  refine AO.yld _ (Yld.load Try.isAgg2 rfl rfl) rfl rfl rfl ?_
  refine AO.yld _ (Yld.fieldAddr Try.underlying41 rfl rfl Try.sizeOf2 rfl rfl rfl) rfl rfl rfl ?_
  refine AO.store Try.sizeOf2 rfl rfl rfl rfl rfl rfl ?_
  refine AO.nil ?_
  refine AC.seq ?_
  refine AC.region ?_
  refine AO.yld _ (Yld.fieldAddr Try.underlying37 rfl rfl Try.sizeOf2 rfl rfl rfl) rfl rfl rfl ?_
  refine AO.yld _ (Yld.load Try.isAgg2 rfl rfl) rfl rfl rfl ?_
  refine AO.yld _ (Yld.fieldAddr Try.underlying41 rfl rfl Try.sizeOf2 rfl rfl rfl) rfl rfl rfl ?_
  refine AO.store Try.sizeOf2 rfl rfl rfl rfl rfl rfl ?_
  refine AO.nil ?_
  refine AC.seq ?_
  refine AC.region ?_
  refine AO.yld _ (Yld.loadAgg Try.isAgg41 Try.sizeOf41 rfl rfl rfl rfl) rfl rfl rfl ?_
  refine AO.store Try.sizeOf41 rfl rfl rfl rfl rfl rfl ?_
  refine AO.nil ?_
  refine Pure.ret Try.results25 (RVs.cons (RV.cell Try.isAgg41 Try.sizeOf41 rfl rfl rfl rfl) RVs.nil) rfl ?_
  first | rfl | (simp_all; done) | (simp_all; intros; omega) | grind

theorem laws_toMachineS_c {xs : List Mach} (hn : xs.length ≤ 1048576) :
    Mk Try.prog 59 [.sl 3 (xs.map encMach)] (.h 0) 41 3 (xs.map encMach) := by
  have hM : (xs.map encMach).length = xs.length := List.length_map ..
  refine Mk.intro Try.func59 rfl Try.ntmps59 rfl rfl (fun w => ?_)
  refine AC.seq ?_
  refine AC.region ?_
  refine AO.yld _ (Yld.assign rfl) rfl rfl rfl ?_
  refine AO.nil ?_
  refine AC.seq ?_
  refine AC.region ?_
  refine AO.yld _ (Yld.move rfl) rfl rfl rfl ?_
  refine AO.yld _ (Yld.len Try.underlying88 rfl rfl) rfl rfl rfl ?_
  refine AO.make 0 Try.underlying91 ty41 rfl rfl rfl rfl rfl (Nat.le_refl _) (by rw [hM]; omega) (by rw [hM]; omega) rfl rfl ?_
  refine AO.yld _ (Yld.assign rfl) rfl rfl rfl ?_
  refine AO.nil ?_
  refine AC.seq ?_
  refine AC.seq ?_
  refine AC.region ?_
  refine AO.yld _ (Yld.assign rfl) rfl rfl rfl ?_
  refine AO.nil ?_
  refine AC.block ?_
  refine AC.loopC [(0, _), (2, _), (3, _)] [] (fun (k : Nat) => [(4, .p (.v (.int .i64 (k : Int))))]) (fun (k : Nat) => [(0, .vec 41 3 (filled encMach [.v (.string ⟨#[]⟩), .v (.int .i64 0), .v (.int .i64 0)] xs k))]) (fun (k : Nat) => k ≤ xs.length) (fun (k : Nat) => xs.length - k) 0 ⟨rfl, rfl, rfl, trivial⟩ trivial ⟨rfl, trivial⟩ ⟨by rw [filled_zero, ← hM]; rfl, trivial⟩ ?_ (fun k hJ => ?_)
  · simp
  · -- round
    refine AC.seq ?_
    refine AC.seq ?_
    refine AC.region ?_
    refine AO.yld _ (Yld.move rfl) rfl rfl rfl ?_
    refine AO.yld _ (Yld.move rfl) rfl rfl rfl ?_
    refine AO.yld _ (Yld.len Try.underlying88 rfl rfl) rfl rfl rfl ?_
    refine AO.yld _ (Yld.int rfl rfl rfl) rfl rfl rfl ?_
    refine AO.nil ?_
    refine AC.cond _ rfl (fun c11 => ?_) (fun c11 => ?_)
    · -- c11 True
      have hk := lt_of_decM c11
      obtain ⟨x, hx⟩ := get_some hk
      have hrow := map_row (enc := encMach) hx
      refine AC.skip ?_
      refine AC.seq ?_
      refine AC.block ?_
      refine AC.region ?_
      refine AO.yld _ (Yld.move rfl) rfl rfl rfl ?_
      refine AO.yld _ (Yld.move rfl) rfl rfl rfl ?_
      refine AO.yld _ (Yld.move rfl) rfl rfl rfl ?_
      refine AO.yld _ (Yld.move rfl) rfl rfl rfl ?_
      refine AO.yld _ (Yld.indexSl Try.underlying88 Try.sizeOf37 rfl rfl hrow rfl) rfl rfl rfl ?_
      refine AO.yld _ (Yld.loadAgg Try.isAgg37 Try.sizeOf37 rfl rfl rfl rfl) rfl rfl rfl ?_
      refine AO.yld _ (Yld.call rfl rfl Try.call25 rfl rfl rfl (laws_toMachine_c) rfl) rfl rfl rfl ?_
      refine AO.yld _ (Yld.indexVec Try.underlying91 Try.sizeOf41 rfl rfl rfl rfl (by rw [filled_length (by omega)]; exact hk)) rfl rfl rfl ?_
      refine AO.store Try.sizeOf41 rfl rfl rfl rfl rfl (store_el rfl (filled_get hk) rfl rfl) ?_
      refine AO.nil ?_
      refine AC.mark ?_
      refine AC.region ?_
      refine AO.yld _ (Yld.move rfl) rfl rfl rfl ?_
      refine AO.yld _ (Yld.add rfl rfl (by omega) (by omega)) rfl rfl rfl ?_
      refine AO.yld _ (Yld.assign rfl) rfl rfl rfl ?_
      refine AO.nil ?_
      refine AC.back ⟨k + 1, ?_, ?_, ⟨?_, trivial⟩, ⟨?_, trivial⟩, ⟨rfl, rfl, rfl, trivial⟩, trivial⟩
      · omega
      · omega
      · rfl
      · rw [← filled_set hx]; rfl
    · -- c11 False
      obtain rfl : k = xs.length := by have := ge_of_decM c11; omega
      refine AC.exit rfl ?_
      refine AC.seq ?_
      refine AC.region ?_
      refine AO.yld _ (Yld.move rfl) rfl rfl rfl ?_
      refine AO.yld _ (Yld.assign rfl) rfl rfl rfl ?_
      refine AO.nil ?_
      refine Mk.ret 0 Try.results59 (RVs.cons (RV.tmp rfl) RVs.nil) rfl rfl ?_
      exact filled_end

theorem laws_eqMachine_c {x y : Mach} :
    Pure Try.prog 104 [.agg (encMach x), .agg (encMach y)] (.v (.bool (decide (x = y)))) := by
  refine Pure.intro Try.func104 rfl Try.ntmps104 rfl rfl (fun w => ?_)
  refine AC.seq ?_
  refine AC.region ?_
  refine AO.box 0 rfl rfl rfl rfl rfl ?_
  refine AO.box 1 rfl rfl rfl rfl rfl ?_
  refine AO.yld _ (Yld.assign rfl) rfl rfl rfl ?_
  refine AO.nil ?_
  refine AC.seq ?_
  refine AC.seq ?_
  refine AC.region ?_
  refine AO.yld _ (Yld.fieldAddr Try.underlying41 rfl rfl Try.sizeOf9 rfl rfl rfl) rfl rfl rfl ?_
  refine AO.yld _ (Yld.load Try.isAgg9 rfl rfl) rfl rfl rfl ?_
  refine AO.yld _ (Yld.fieldAddr Try.underlying41 rfl rfl Try.sizeOf9 rfl rfl rfl) rfl rfl rfl ?_
  refine AO.yld _ (Yld.load Try.isAgg9 rfl rfl) rfl rfl rfl ?_
  refine AO.yld _ (Yld.cmpStr rfl rfl rfl) rfl rfl rfl ?_
  refine AO.nil ?_
  refine AC.cond _ rfl (fun c9 => ?_) (fun c9 => ?_)
  · -- c9 True
    refine AC.seq ?_
    refine AC.region ?_
    refine AO.yld _ (Yld.assign rfl) rfl rfl rfl ?_
    refine AO.nil ?_
    refine Pure.ret Try.results104 (RVs.cons (RV.tmp rfl) RVs.nil) rfl ?_
    cases x; cases y; simp_all
  · -- c9 False
    refine AC.skip ?_
    refine AC.seq ?_
    refine AC.seq ?_
    refine AC.region ?_
    refine AO.yld _ (Yld.fieldAddr Try.underlying41 rfl rfl Try.sizeOf2 rfl rfl rfl) rfl rfl rfl ?_
    refine AO.yld _ (Yld.load Try.isAgg2 rfl rfl) rfl rfl rfl ?_
    refine AO.yld _ (Yld.fieldAddr Try.underlying41 rfl rfl Try.sizeOf2 rfl rfl rfl) rfl rfl rfl ?_
    refine AO.yld _ (Yld.load Try.isAgg2 rfl rfl) rfl rfl rfl ?_
    refine AO.yld _ (Yld.int rfl rfl rfl) rfl rfl rfl ?_
    refine AO.nil ?_
    refine AC.cond _ rfl (fun c14 => ?_) (fun c14 => ?_)
    · -- c14 True
      refine AC.seq ?_
      refine AC.region ?_
      refine AO.yld _ (Yld.assign rfl) rfl rfl rfl ?_
      refine AO.nil ?_
      refine Pure.ret Try.results104 (RVs.cons (RV.tmp rfl) RVs.nil) rfl ?_
      cases x; cases y; simp_all
    · -- c14 False
      refine AC.skip ?_
      refine AC.seq ?_
      refine AC.seq ?_
      refine AC.region ?_
      refine AO.yld _ (Yld.fieldAddr Try.underlying41 rfl rfl Try.sizeOf2 rfl rfl rfl) rfl rfl rfl ?_
      refine AO.yld _ (Yld.load Try.isAgg2 rfl rfl) rfl rfl rfl ?_
      refine AO.yld _ (Yld.fieldAddr Try.underlying41 rfl rfl Try.sizeOf2 rfl rfl rfl) rfl rfl rfl ?_
      refine AO.yld _ (Yld.load Try.isAgg2 rfl rfl) rfl rfl rfl ?_
      refine AO.yld _ (Yld.int rfl rfl rfl) rfl rfl rfl ?_
      refine AO.nil ?_
      refine AC.cond _ rfl (fun c19 => ?_) (fun c19 => ?_)
      · -- c19 True
        refine AC.seq ?_
        refine AC.region ?_
        refine AO.yld _ (Yld.assign rfl) rfl rfl rfl ?_
        refine AO.nil ?_
        refine Pure.ret Try.results104 (RVs.cons (RV.tmp rfl) RVs.nil) rfl ?_
        cases x; cases y; simp_all
      · -- c19 False
        refine AC.skip ?_
        refine AC.seq ?_
        refine AC.region ?_
        refine AO.yld _ (Yld.assign rfl) rfl rfl rfl ?_
        refine AO.nil ?_
        refine Pure.ret Try.results104 (RVs.cons (RV.tmp rfl) RVs.nil) rfl ?_
        cases x; cases y; simp_all

theorem laws_eqMachineS_c {xs ys : List Mach} (hn : xs.length ≤ 1048576) :
    Pure Try.prog 61 [.sl 3 (xs.map encMach), .sl 3 (ys.map encMach)] (.v (.bool (decide (xs = ys)))) := by
  refine Pure.intro Try.func61 rfl Try.ntmps61 rfl rfl (fun w => ?_)
  refine AC.seq ?_
  refine AC.region ?_
  refine AO.yld _ (Yld.assign rfl) rfl rfl rfl ?_
  refine AO.nil ?_
  refine AC.seq ?_
  refine AC.seq ?_
  refine AC.region ?_
  refine AO.yld _ (Yld.move rfl) rfl rfl rfl ?_
  refine AO.yld _ (Yld.len Try.underlying91 rfl rfl) rfl rfl rfl ?_
  refine AO.yld _ (Yld.move rfl) rfl rfl rfl ?_
  refine AO.yld _ (Yld.len Try.underlying91 rfl rfl) rfl rfl rfl ?_
  refine AO.yld _ (Yld.int rfl rfl rfl) rfl rfl rfl ?_
  refine AO.nil ?_
  refine AC.cond _ rfl (fun c10 => ?_) (fun c10 => ?_)
  · -- c10 True
    have hl : xs.length ≠ ys.length := by have h := c10; simp only [List.length_map, bne_iff_ne, ne_eq] at h; omega
    refine AC.seq ?_
    refine AC.region ?_
    refine AO.yld _ (Yld.assign rfl) rfl rfl rfl ?_
    refine AO.nil ?_
    refine Pure.ret Try.results61 (RVs.cons (RV.tmp rfl) RVs.nil) rfl ?_
    first
      | (exact congrArg (fun b => PV.v (.bool b)) (decide_eq_false (fun e => hl (congrArg List.length e))).symm)
      | (refine congrArg (fun b => PV.v (.bool b)) (decide_eq_false (fun e => ?_)).symm; subst e; rw [hx] at hy; simp_all)
      | (refine congrArg (fun b => PV.v (.bool b)) (decide_eq_true ?_).symm; have := hJ.2; rw [List.take_of_length_le (Nat.le_refl _), List.take_of_length_le (by omega)] at this; exact this)
  · -- c10 False
    have hl : xs.length = ys.length := by have h := c10; simp only [List.length_map, bne_eq_false_iff_eq] at h; omega
    refine AC.skip ?_
    refine AC.seq ?_
    refine AC.seq ?_
    refine AC.region ?_
    refine AO.yld _ (Yld.assign rfl) rfl rfl rfl ?_
    refine AO.nil ?_
    refine AC.block ?_
    refine AC.loopC [(0, _), (1, _)] [] (fun (k : Nat) => [(5, .p (.v (.int .i64 (k : Int))))]) (fun (k : Nat) => []) (fun (k : Nat) => k ≤ xs.length ∧ xs.take k = ys.take k) (fun (k : Nat) => xs.length - k) 0 ⟨rfl, rfl, trivial⟩ trivial ⟨rfl, trivial⟩ trivial ?_ (fun k hJ => ?_)
    · simp
    · -- round
      refine AC.seq ?_
      refine AC.seq ?_
      refine AC.region ?_
      refine AO.yld _ (Yld.move rfl) rfl rfl rfl ?_
      refine AO.yld _ (Yld.move rfl) rfl rfl rfl ?_
      refine AO.yld _ (Yld.len Try.underlying91 rfl rfl) rfl rfl rfl ?_
      refine AO.yld _ (Yld.int rfl rfl rfl) rfl rfl rfl ?_
      refine AO.nil ?_
      refine AC.cond _ rfl (fun c14 => ?_) (fun c14 => ?_)
      · -- c14 True
        have hk := lt_of_decM c14
        obtain ⟨x, hx⟩ := get_some hk
        have hrow := map_row (enc := encMach) hx
        obtain ⟨y, hy⟩ := get_some (xs := ys) (k := k) (by omega)
        have hrow2 := map_row (enc := encMach) hy
        refine AC.skip ?_
        refine AC.seq ?_
        refine AC.block ?_
        refine AC.seq ?_
        refine AC.draw (by kernel_rfl) (by kernel_rfl) ?_
        refine AO.yld _ (Yld.move rfl) rfl rfl rfl ?_
        refine AO.yld _ (Yld.move rfl) rfl rfl rfl ?_
        refine AO.yld _ (Yld.indexSl Try.underlying91 Try.sizeOf41 rfl rfl hrow rfl) rfl rfl rfl ?_
        refine AO.yld _ (Yld.loadAgg Try.isAgg41 Try.sizeOf41 rfl rfl rfl rfl) rfl rfl rfl ?_
        refine AO.yld _ (Yld.move rfl) rfl rfl rfl ?_
        refine AO.yld _ (Yld.move rfl) rfl rfl rfl ?_
        refine AO.yld _ (Yld.indexSl Try.underlying91 Try.sizeOf41 rfl rfl hrow2 rfl) rfl rfl rfl ?_
        refine AO.yld _ (Yld.loadAgg Try.isAgg41 Try.sizeOf41 rfl rfl rfl rfl) rfl rfl rfl ?_
        refine AO.yld _ (Yld.call rfl rfl Try.call104 rfl rfl rfl (laws_eqMachine_c) rfl) rfl rfl rfl ?_
        refine AO.yld _ (Yld.not rfl) rfl rfl rfl ?_
        refine AO.nil ?_
        refine AC.cond _ rfl (fun c26 => ?_) (fun c26 => ?_)
        · -- c26 True
          refine AC.seq ?_
          refine AC.region ?_
          refine AO.yld _ (Yld.assign rfl) rfl rfl rfl ?_
          refine AO.nil ?_
          refine Pure.ret Try.results61 (RVs.cons (RV.tmp rfl) RVs.nil) rfl ?_
          first
            | (exact congrArg (fun b => PV.v (.bool b)) (decide_eq_false (fun e => hl (congrArg List.length e))).symm)
            | (refine congrArg (fun b => PV.v (.bool b)) (decide_eq_false (fun e => ?_)).symm; subst e; rw [hx] at hy; simp_all)
            | (refine congrArg (fun b => PV.v (.bool b)) (decide_eq_true ?_).symm; have := hJ.2; rw [List.take_of_length_le (Nat.le_refl _), List.take_of_length_le (by omega)] at this; exact this)
        · -- c26 False
          refine AC.skip ?_
          refine AC.mark ?_
          refine AC.region ?_
          refine AO.yld _ (Yld.move rfl) rfl rfl rfl ?_
          refine AO.yld _ (Yld.add rfl rfl (by omega) (by omega)) rfl rfl rfl ?_
          refine AO.yld _ (Yld.assign rfl) rfl rfl rfl ?_
          refine AO.nil ?_
          refine AC.back ⟨k + 1, ?_, ?_, ⟨?_, trivial⟩, trivial, ⟨rfl, rfl, trivial⟩, trivial⟩
          · exact ⟨hk, by rw [take_snoc hx, take_snoc hy, hJ.2, show x = y by simpa using c26]⟩
          · omega
          · rfl
      · -- c14 False
        obtain rfl : k = xs.length := by have := ge_of_decM c14; omega
        refine AC.exit rfl ?_
        refine AC.seq ?_
        refine AC.region ?_
        refine AO.yld _ (Yld.assign rfl) rfl rfl rfl ?_
        refine AO.nil ?_
        refine Pure.ret Try.results61 (RVs.cons (RV.tmp rfl) RVs.nil) rfl ?_
        first
          | (exact congrArg (fun b => PV.v (.bool b)) (decide_eq_false (fun e => hl (congrArg List.length e))).symm)
          | (refine congrArg (fun b => PV.v (.bool b)) (decide_eq_false (fun e => ?_)).symm; subst e; rw [hx] at hy; simp_all)
          | (refine congrArg (fun b => PV.v (.bool b)) (decide_eq_true ?_).symm; have := hJ.2; rw [List.take_of_length_le (Nat.le_refl _), List.take_of_length_le (by omega)] at this; exact this)

theorem laws_szMachine_c {x : Mach} {left : Int} (h0 : 0 ≤ left) (h1 : left ≤ 1048576) (hs : x.name.length ≤ 9223372036854775807) :
    Pure Try.prog 23 [.agg (encMach x), .v (.int .i64 left)] (.v (.int .i64 (szOne x.name left))) := by
  refine Pure.intro Try.func23 rfl Try.ntmps23 rfl rfl (fun w => ?_)
  refine AC.seq ?_
  refine AC.region ?_
  refine AO.box 0 rfl rfl rfl rfl rfl ?_
  refine AO.yld _ (Yld.assign rfl) rfl rfl rfl ?_
  refine AO.nil ?_
  refine AC.seq ?_
  refine AC.region ?_
  refine AO.yld _ (Yld.move rfl) rfl rfl rfl ?_
  refine AO.yld _ (Yld.fieldAddr Try.underlying37 rfl rfl Try.sizeOf9 rfl rfl rfl) rfl rfl rfl ?_
  refine AO.yld _ (Yld.load Try.isAgg9 rfl rfl) rfl rfl rfl ?_
  refine AO.yld _ (Yld.lenStr Try.underlying9 rfl) rfl rfl rfl ?_
  refine AO.yld _ (Yld.sub rfl rfl (by omega) (by omega)) rfl rfl rfl ?_
  refine AO.yld _ (Yld.assign rfl) rfl rfl rfl ?_
  refine AO.nil ?_
  refine AC.seq ?_
  refine AC.seq ?_
  refine AC.region ?_
  refine AO.yld _ (Yld.move rfl) rfl rfl rfl ?_
  refine AO.yld _ (Yld.int rfl rfl rfl) rfl rfl rfl ?_
  refine AO.nil ?_
  refine AC.cond _ rfl (fun c11 => ?_) (fun c11 => ?_)
  · -- c11 True
    refine AC.seq ?_
    refine AC.region ?_
    refine AO.yld _ (Yld.assign rfl) rfl rfl rfl ?_
    refine AO.nil ?_
    refine Pure.ret Try.results23 (RVs.cons (RV.tmp rfl) RVs.nil) rfl ?_
    simp only [szOne]; split <;> simp_all <;> omega
  · -- c11 False
    refine AC.skip ?_
    refine AC.seq ?_
    refine AC.region ?_
    refine AO.yld _ (Yld.move rfl) rfl rfl rfl ?_
    refine AO.yld _ (Yld.assign rfl) rfl rfl rfl ?_
    refine AO.nil ?_
    refine Pure.ret Try.results23 (RVs.cons (RV.tmp rfl) RVs.nil) rfl ?_
    simp only [szOne]; split <;> simp_all <;> omega

theorem laws_toSetting_c {x : NV} :
    Pure Try.prog 81 [.agg (encNV x)] (.agg (encNV x)) := by
  refine Pure.intro Try.func81 rfl Try.ntmps81 rfl rfl (fun w => ?_)
  refine AC.seq ?_
  refine AC.region ?_
  refine AO.box 0 rfl rfl rfl rfl rfl ?_
  refine AO.alloc 1 Try.zeroValue117 rfl rfl rfl ?_
  refine AO.nil ?_
  refine AC.seq ?_
  refine AC.region ?_
  refine AO.alloc 2 Try.zeroValue117 rfl rfl rfl ?_
  refine AO.nil ?_
  refine AC.seq ?_
  refine AC.region ?_
  refine AO.yld _ (Yld.fieldAddr Try.underlying116 rfl rfl Try.sizeOf9 rfl rfl rfl) rfl rfl rfl ?_
  refine AO.yld _ (Yld.load Try.isAgg9 rfl rfl) rfl rfl rfl ?_
  refine AO.yld _ (Yld.fieldAddr Try.underlying117 rfl rfl Try.sizeOf9 rfl rfl rfl) rfl rfl rfl ?_
  refine AO.store Try.sizeOf9 rfl rfl rfl rfl rfl rfl ?_
  refine AO.nil ?_
  refine AC.seq ?_
  refine AC.region ?_
  refine AO.yld _ (Yld.fieldAddr Try.underlying116 rfl rfl Try.sizeOf2 rfl rfl rfl) rfl rfl rfl ?_
  refine AO.yld _ (Yld.load Try.isAgg2 rfl rfl) rfl rfl rfl ?_
  refine AO.yld _ (Yld.fieldAddr Try.underlying117 rfl rfl Try.sizeOf2 rfl rfl rfl) rfl rfl rfl ?_
  refine AO.store Try.sizeOf2 rfl rfl rfl rfl rfl rfl ?_
  refine AO.nil ?_
  refine AC.seq ?_
  refine AC.region ?_
  refine AO.yld _ (Yld.loadAgg Try.isAgg117 Try.sizeOf117 rfl rfl rfl rfl) rfl rfl rfl ?_
  refine AO.store Try.sizeOf117 rfl rfl rfl rfl rfl rfl ?_
  refine AO.nil ?_
  refine Pure.ret Try.results81 (RVs.cons (RV.cell Try.isAgg117 Try.sizeOf117 rfl rfl rfl rfl) RVs.nil) rfl ?_
  first | rfl | (simp_all; done) | (simp_all; intros; omega) | grind

theorem laws_toSettingS_c {xs : List NV} (hn : xs.length ≤ 1048576) :
    Mk Try.prog 34 [.sl 2 (xs.map encNV)] (.h 0) 117 2 (xs.map encNV) := by
  have hM : (xs.map encNV).length = xs.length := List.length_map ..
  refine Mk.intro Try.func34 rfl Try.ntmps34 rfl rfl (fun w => ?_)
  refine AC.seq ?_
  refine AC.region ?_
  refine AO.yld _ (Yld.assign rfl) rfl rfl rfl ?_
  refine AO.nil ?_
  refine AC.seq ?_
  refine AC.region ?_
  refine AO.yld _ (Yld.move rfl) rfl rfl rfl ?_
  refine AO.yld _ (Yld.len Try.underlying51 rfl rfl) rfl rfl rfl ?_
  refine AO.make 0 Try.underlying54 ty117 rfl rfl rfl rfl rfl (Nat.le_refl _) (by rw [hM]; omega) (by rw [hM]; omega) rfl rfl ?_
  refine AO.yld _ (Yld.assign rfl) rfl rfl rfl ?_
  refine AO.nil ?_
  refine AC.seq ?_
  refine AC.seq ?_
  refine AC.region ?_
  refine AO.yld _ (Yld.assign rfl) rfl rfl rfl ?_
  refine AO.nil ?_
  refine AC.block ?_
  refine AC.loopC [(0, _), (2, _), (3, _)] [] (fun (k : Nat) => [(4, .p (.v (.int .i64 (k : Int))))]) (fun (k : Nat) => [(0, .vec 117 2 (filled encNV [.v (.string ⟨#[]⟩), .v (.int .i64 0)] xs k))]) (fun (k : Nat) => k ≤ xs.length) (fun (k : Nat) => xs.length - k) 0 ⟨rfl, rfl, rfl, trivial⟩ trivial ⟨rfl, trivial⟩ ⟨by rw [filled_zero, ← hM]; rfl, trivial⟩ ?_ (fun k hJ => ?_)
  · simp
  · -- round
    refine AC.seq ?_
    refine AC.seq ?_
    refine AC.region ?_
    refine AO.yld _ (Yld.move rfl) rfl rfl rfl ?_
    refine AO.yld _ (Yld.move rfl) rfl rfl rfl ?_
    refine AO.yld _ (Yld.len Try.underlying51 rfl rfl) rfl rfl rfl ?_
    refine AO.yld _ (Yld.int rfl rfl rfl) rfl rfl rfl ?_
    refine AO.nil ?_
    refine AC.cond _ rfl (fun c11 => ?_) (fun c11 => ?_)
    · -- c11 True
      have hk := lt_of_decM c11
      obtain ⟨x, hx⟩ := get_some hk
      have hrow := map_row (enc := encNV) hx
      refine AC.skip ?_
      refine AC.seq ?_
      refine AC.block ?_
      refine AC.region ?_
      refine AO.yld _ (Yld.move rfl) rfl rfl rfl ?_
      refine AO.yld _ (Yld.move rfl) rfl rfl rfl ?_
      refine AO.yld _ (Yld.move rfl) rfl rfl rfl ?_
      refine AO.yld _ (Yld.move rfl) rfl rfl rfl ?_
      refine AO.yld _ (Yld.indexSl Try.underlying51 Try.sizeOf116 rfl rfl hrow rfl) rfl rfl rfl ?_
      refine AO.yld _ (Yld.loadAgg Try.isAgg116 Try.sizeOf116 rfl rfl rfl rfl) rfl rfl rfl ?_
      refine AO.yld _ (Yld.call rfl rfl Try.call81 rfl rfl rfl (laws_toSetting_c) rfl) rfl rfl rfl ?_
      refine AO.yld _ (Yld.indexVec Try.underlying54 Try.sizeOf117 rfl rfl rfl rfl (by rw [filled_length (by omega)]; exact hk)) rfl rfl rfl ?_
      refine AO.store Try.sizeOf117 rfl rfl rfl rfl rfl (store_el rfl (filled_get hk) rfl rfl) ?_
      refine AO.nil ?_
      refine AC.mark ?_
      refine AC.region ?_
      refine AO.yld _ (Yld.move rfl) rfl rfl rfl ?_
      refine AO.yld _ (Yld.add rfl rfl (by omega) (by omega)) rfl rfl rfl ?_
      refine AO.yld _ (Yld.assign rfl) rfl rfl rfl ?_
      refine AO.nil ?_
      refine AC.back ⟨k + 1, ?_, ?_, ⟨?_, trivial⟩, ⟨?_, trivial⟩, ⟨rfl, rfl, rfl, trivial⟩, trivial⟩
      · omega
      · omega
      · rfl
      · rw [← filled_set hx]; rfl
    · -- c11 False
      obtain rfl : k = xs.length := by have := ge_of_decM c11; omega
      refine AC.exit rfl ?_
      refine AC.seq ?_
      refine AC.region ?_
      refine AO.yld _ (Yld.move rfl) rfl rfl rfl ?_
      refine AO.yld _ (Yld.assign rfl) rfl rfl rfl ?_
      refine AO.nil ?_
      refine Mk.ret 0 Try.results34 (RVs.cons (RV.tmp rfl) RVs.nil) rfl rfl ?_
      exact filled_end

theorem laws_eqSetting_c {x y : NV} :
    Pure Try.prog 83 [.agg (encNV x), .agg (encNV y)] (.v (.bool (decide (x = y)))) := by
  refine Pure.intro Try.func83 rfl Try.ntmps83 rfl rfl (fun w => ?_)
  refine AC.seq ?_
  refine AC.region ?_
  refine AO.box 0 rfl rfl rfl rfl rfl ?_
  refine AO.box 1 rfl rfl rfl rfl rfl ?_
  refine AO.yld _ (Yld.assign rfl) rfl rfl rfl ?_
  refine AO.nil ?_
  refine AC.seq ?_
  refine AC.seq ?_
  refine AC.region ?_
  refine AO.yld _ (Yld.fieldAddr Try.underlying117 rfl rfl Try.sizeOf9 rfl rfl rfl) rfl rfl rfl ?_
  refine AO.yld _ (Yld.load Try.isAgg9 rfl rfl) rfl rfl rfl ?_
  refine AO.yld _ (Yld.fieldAddr Try.underlying117 rfl rfl Try.sizeOf9 rfl rfl rfl) rfl rfl rfl ?_
  refine AO.yld _ (Yld.load Try.isAgg9 rfl rfl) rfl rfl rfl ?_
  refine AO.yld _ (Yld.cmpStr rfl rfl rfl) rfl rfl rfl ?_
  refine AO.nil ?_
  refine AC.cond _ rfl (fun c9 => ?_) (fun c9 => ?_)
  · -- c9 True
    refine AC.seq ?_
    refine AC.region ?_
    refine AO.yld _ (Yld.assign rfl) rfl rfl rfl ?_
    refine AO.nil ?_
    refine Pure.ret Try.results83 (RVs.cons (RV.tmp rfl) RVs.nil) rfl ?_
    cases x; cases y; simp_all
  · -- c9 False
    refine AC.skip ?_
    refine AC.seq ?_
    refine AC.seq ?_
    refine AC.region ?_
    refine AO.yld _ (Yld.fieldAddr Try.underlying117 rfl rfl Try.sizeOf2 rfl rfl rfl) rfl rfl rfl ?_
    refine AO.yld _ (Yld.load Try.isAgg2 rfl rfl) rfl rfl rfl ?_
    refine AO.yld _ (Yld.fieldAddr Try.underlying117 rfl rfl Try.sizeOf2 rfl rfl rfl) rfl rfl rfl ?_
    refine AO.yld _ (Yld.load Try.isAgg2 rfl rfl) rfl rfl rfl ?_
    refine AO.yld _ (Yld.int rfl rfl rfl) rfl rfl rfl ?_
    refine AO.nil ?_
    refine AC.cond _ rfl (fun c14 => ?_) (fun c14 => ?_)
    · -- c14 True
      refine AC.seq ?_
      refine AC.region ?_
      refine AO.yld _ (Yld.assign rfl) rfl rfl rfl ?_
      refine AO.nil ?_
      refine Pure.ret Try.results83 (RVs.cons (RV.tmp rfl) RVs.nil) rfl ?_
      cases x; cases y; simp_all
    · -- c14 False
      refine AC.skip ?_
      refine AC.seq ?_
      refine AC.region ?_
      refine AO.yld _ (Yld.assign rfl) rfl rfl rfl ?_
      refine AO.nil ?_
      refine Pure.ret Try.results83 (RVs.cons (RV.tmp rfl) RVs.nil) rfl ?_
      cases x; cases y; simp_all

theorem laws_eqSettingS_c {xs ys : List NV} (hn : xs.length ≤ 1048576) :
    Pure Try.prog 36 [.sl 2 (xs.map encNV), .sl 2 (ys.map encNV)] (.v (.bool (decide (xs = ys)))) := by
  refine Pure.intro Try.func36 rfl Try.ntmps36 rfl rfl (fun w => ?_)
  refine AC.seq ?_
  refine AC.region ?_
  refine AO.yld _ (Yld.assign rfl) rfl rfl rfl ?_
  refine AO.nil ?_
  refine AC.seq ?_
  refine AC.seq ?_
  refine AC.region ?_
  refine AO.yld _ (Yld.move rfl) rfl rfl rfl ?_
  refine AO.yld _ (Yld.len Try.underlying54 rfl rfl) rfl rfl rfl ?_
  refine AO.yld _ (Yld.move rfl) rfl rfl rfl ?_
  refine AO.yld _ (Yld.len Try.underlying54 rfl rfl) rfl rfl rfl ?_
  refine AO.yld _ (Yld.int rfl rfl rfl) rfl rfl rfl ?_
  refine AO.nil ?_
  refine AC.cond _ rfl (fun c10 => ?_) (fun c10 => ?_)
  · -- c10 True
    have hl : xs.length ≠ ys.length := by have h := c10; simp only [List.length_map, bne_iff_ne, ne_eq] at h; omega
    refine AC.seq ?_
    refine AC.region ?_
    refine AO.yld _ (Yld.assign rfl) rfl rfl rfl ?_
    refine AO.nil ?_
    refine Pure.ret Try.results36 (RVs.cons (RV.tmp rfl) RVs.nil) rfl ?_
    first
      | (exact congrArg (fun b => PV.v (.bool b)) (decide_eq_false (fun e => hl (congrArg List.length e))).symm)
      | (refine congrArg (fun b => PV.v (.bool b)) (decide_eq_false (fun e => ?_)).symm; subst e; rw [hx] at hy; simp_all)
      | (refine congrArg (fun b => PV.v (.bool b)) (decide_eq_true ?_).symm; have := hJ.2; rw [List.take_of_length_le (Nat.le_refl _), List.take_of_length_le (by omega)] at this; exact this)
  · -- c10 False
    have hl : xs.length = ys.length := by have h := c10; simp only [List.length_map, bne_eq_false_iff_eq] at h; omega
    refine AC.skip ?_
    refine AC.seq ?_
    refine AC.seq ?_
    refine AC.region ?_
    refine AO.yld _ (Yld.assign rfl) rfl rfl rfl ?_
    refine AO.nil ?_
    refine AC.block ?_
    refine AC.loopC [(0, _), (1, _)] [] (fun (k : Nat) => [(5, .p (.v (.int .i64 (k : Int))))]) (fun (k : Nat) => []) (fun (k : Nat) => k ≤ xs.length ∧ xs.take k = ys.take k) (fun (k : Nat) => xs.length - k) 0 ⟨rfl, rfl, trivial⟩ trivial ⟨rfl, trivial⟩ trivial ?_ (fun k hJ => ?_)
    · simp
    · -- round
      refine AC.seq ?_
      refine AC.seq ?_
      refine AC.region ?_
      refine AO.yld _ (Yld.move rfl) rfl rfl rfl ?_
      refine AO.yld _ (Yld.move rfl) rfl rfl rfl ?_
      refine AO.yld _ (Yld.len Try.underlying54 rfl rfl) rfl rfl rfl ?_
      refine AO.yld _ (Yld.int rfl rfl rfl) rfl rfl rfl ?_
      refine AO.nil ?_
      refine AC.cond _ rfl (fun c14 => ?_) (fun c14 => ?_)
      · -- c14 True
        have hk := lt_of_decM c14
        obtain ⟨x, hx⟩ := get_some hk
        have hrow := map_row (enc := encNV) hx
        obtain ⟨y, hy⟩ := get_some (xs := ys) (k := k) (by omega)
        have hrow2 := map_row (enc := encNV) hy
        refine AC.skip ?_
        refine AC.seq ?_
        refine AC.block ?_
        refine AC.seq ?_
        refine AC.draw (by kernel_rfl) (by kernel_rfl) ?_
        refine AO.yld _ (Yld.move rfl) rfl rfl rfl ?_
        refine AO.yld _ (Yld.move rfl) rfl rfl rfl ?_
        refine AO.yld _ (Yld.indexSl Try.underlying54 Try.sizeOf117 rfl rfl hrow rfl) rfl rfl rfl ?_
        refine AO.yld _ (Yld.loadAgg Try.isAgg117 Try.sizeOf117 rfl rfl rfl rfl) rfl rfl rfl ?_
        refine AO.yld _ (Yld.move rfl) rfl rfl rfl ?_
        refine AO.yld _ (Yld.move rfl) rfl rfl rfl ?_
        refine AO.yld _ (Yld.indexSl Try.underlying54 Try.sizeOf117 rfl rfl hrow2 rfl) rfl rfl rfl ?_
        refine AO.yld _ (Yld.loadAgg Try.isAgg117 Try.sizeOf117 rfl rfl rfl rfl) rfl rfl rfl ?_
        refine AO.yld _ (Yld.call rfl rfl Try.call83 rfl rfl rfl (laws_eqSetting_c) rfl) rfl rfl rfl ?_
        refine AO.yld _ (Yld.not rfl) rfl rfl rfl ?_
        refine AO.nil ?_
        refine AC.cond _ rfl (fun c26 => ?_) (fun c26 => ?_)
        · -- c26 True
          refine AC.seq ?_
          refine AC.region ?_
          refine AO.yld _ (Yld.assign rfl) rfl rfl rfl ?_
          refine AO.nil ?_
          refine Pure.ret Try.results36 (RVs.cons (RV.tmp rfl) RVs.nil) rfl ?_
          first
            | (exact congrArg (fun b => PV.v (.bool b)) (decide_eq_false (fun e => hl (congrArg List.length e))).symm)
            | (refine congrArg (fun b => PV.v (.bool b)) (decide_eq_false (fun e => ?_)).symm; subst e; rw [hx] at hy; simp_all)
            | (refine congrArg (fun b => PV.v (.bool b)) (decide_eq_true ?_).symm; have := hJ.2; rw [List.take_of_length_le (Nat.le_refl _), List.take_of_length_le (by omega)] at this; exact this)
        · -- c26 False
          refine AC.skip ?_
          refine AC.mark ?_
          refine AC.region ?_
          refine AO.yld _ (Yld.move rfl) rfl rfl rfl ?_
          refine AO.yld _ (Yld.add rfl rfl (by omega) (by omega)) rfl rfl rfl ?_
          refine AO.yld _ (Yld.assign rfl) rfl rfl rfl ?_
          refine AO.nil ?_
          refine AC.back ⟨k + 1, ?_, ?_, ⟨?_, trivial⟩, trivial, ⟨rfl, rfl, trivial⟩, trivial⟩
          · exact ⟨hk, by rw [take_snoc hx, take_snoc hy, hJ.2, show x = y by simpa using c26]⟩
          · omega
          · rfl
      · -- c14 False
        obtain rfl : k = xs.length := by have := ge_of_decM c14; omega
        refine AC.exit rfl ?_
        refine AC.seq ?_
        refine AC.region ?_
        refine AO.yld _ (Yld.assign rfl) rfl rfl rfl ?_
        refine AO.nil ?_
        refine Pure.ret Try.results36 (RVs.cons (RV.tmp rfl) RVs.nil) rfl ?_
        first
          | (exact congrArg (fun b => PV.v (.bool b)) (decide_eq_false (fun e => hl (congrArg List.length e))).symm)
          | (refine congrArg (fun b => PV.v (.bool b)) (decide_eq_false (fun e => ?_)).symm; subst e; rw [hx] at hy; simp_all)
          | (refine congrArg (fun b => PV.v (.bool b)) (decide_eq_true ?_).symm; have := hJ.2; rw [List.take_of_length_le (Nat.le_refl _), List.take_of_length_le (by omega)] at this; exact this)

theorem laws_szSetting_c {x : NV} {left : Int} (h0 : 0 ≤ left) (h1 : left ≤ 1048576) (hs : x.name.length ≤ 9223372036854775807) :
    Pure Try.prog 79 [.agg (encNV x), .v (.int .i64 left)] (.v (.int .i64 (szOne x.name left))) := by
  refine Pure.intro Try.func79 rfl Try.ntmps79 rfl rfl (fun w => ?_)
  refine AC.seq ?_
  refine AC.region ?_
  refine AO.box 0 rfl rfl rfl rfl rfl ?_
  refine AO.yld _ (Yld.assign rfl) rfl rfl rfl ?_
  refine AO.nil ?_
  refine AC.seq ?_
  refine AC.region ?_
  refine AO.yld _ (Yld.move rfl) rfl rfl rfl ?_
  refine AO.yld _ (Yld.fieldAddr Try.underlying116 rfl rfl Try.sizeOf9 rfl rfl rfl) rfl rfl rfl ?_
  refine AO.yld _ (Yld.load Try.isAgg9 rfl rfl) rfl rfl rfl ?_
  refine AO.yld _ (Yld.lenStr Try.underlying9 rfl) rfl rfl rfl ?_
  refine AO.yld _ (Yld.sub rfl rfl (by omega) (by omega)) rfl rfl rfl ?_
  refine AO.yld _ (Yld.assign rfl) rfl rfl rfl ?_
  refine AO.nil ?_
  refine AC.seq ?_
  refine AC.seq ?_
  refine AC.region ?_
  refine AO.yld _ (Yld.move rfl) rfl rfl rfl ?_
  refine AO.yld _ (Yld.int rfl rfl rfl) rfl rfl rfl ?_
  refine AO.nil ?_
  refine AC.cond _ rfl (fun c11 => ?_) (fun c11 => ?_)
  · -- c11 True
    refine AC.seq ?_
    refine AC.region ?_
    refine AO.yld _ (Yld.assign rfl) rfl rfl rfl ?_
    refine AO.nil ?_
    refine Pure.ret Try.results79 (RVs.cons (RV.tmp rfl) RVs.nil) rfl ?_
    simp only [szOne]; split <;> simp_all <;> omega
  · -- c11 False
    refine AC.skip ?_
    refine AC.seq ?_
    refine AC.region ?_
    refine AO.yld _ (Yld.move rfl) rfl rfl rfl ?_
    refine AO.yld _ (Yld.assign rfl) rfl rfl rfl ?_
    refine AO.nil ?_
    refine Pure.ret Try.results79 (RVs.cons (RV.tmp rfl) RVs.nil) rfl ?_
    simp only [szOne]; split <;> simp_all <;> omega

theorem laws_toMedia_c {x : NV} :
    Pure Try.prog 98 [.agg (encNV x)] (.agg (encNV x)) := by
  refine Pure.intro Try.func98 rfl Try.ntmps98 rfl rfl (fun w => ?_)
  refine AC.seq ?_
  refine AC.region ?_
  refine AO.box 0 rfl rfl rfl rfl rfl ?_
  refine AO.alloc 1 Try.zeroValue71 rfl rfl rfl ?_
  refine AO.nil ?_
  refine AC.seq ?_
  refine AC.region ?_
  refine AO.alloc 2 Try.zeroValue71 rfl rfl rfl ?_
  refine AO.nil ?_
  refine AC.seq ?_
  refine AC.region ?_
  refine AO.yld _ (Yld.fieldAddr Try.underlying130 rfl rfl Try.sizeOf9 rfl rfl rfl) rfl rfl rfl ?_
  refine AO.yld _ (Yld.load Try.isAgg9 rfl rfl) rfl rfl rfl ?_
  refine AO.yld _ (Yld.fieldAddr Try.underlying71 rfl rfl Try.sizeOf9 rfl rfl rfl) rfl rfl rfl ?_
  refine AO.store Try.sizeOf9 rfl rfl rfl rfl rfl rfl ?_
  refine AO.nil ?_
  refine AC.seq ?_
  refine AC.region ?_
  refine AO.yld _ (Yld.fieldAddr Try.underlying130 rfl rfl Try.sizeOf2 rfl rfl rfl) rfl rfl rfl ?_
  refine AO.yld _ (Yld.load Try.isAgg2 rfl rfl) rfl rfl rfl ?_
  refine AO.yld _ (Yld.fieldAddr Try.underlying71 rfl rfl Try.sizeOf2 rfl rfl rfl) rfl rfl rfl ?_
  refine AO.store Try.sizeOf2 rfl rfl rfl rfl rfl rfl ?_
  refine AO.nil ?_
  refine AC.seq ?_
  refine AC.region ?_
  refine AO.yld _ (Yld.loadAgg Try.isAgg71 Try.sizeOf71 rfl rfl rfl rfl) rfl rfl rfl ?_
  refine AO.store Try.sizeOf71 rfl rfl rfl rfl rfl rfl ?_
  refine AO.nil ?_
  refine Pure.ret Try.results98 (RVs.cons (RV.cell Try.isAgg71 Try.sizeOf71 rfl rfl rfl rfl) RVs.nil) rfl ?_
  first | rfl | (simp_all; done) | (simp_all; intros; omega) | grind

theorem laws_toMediaS_c {xs : List NV} (hn : xs.length ≤ 1048576) :
    Mk Try.prog 52 [.sl 2 (xs.map encNV)] (.h 0) 71 2 (xs.map encNV) := by
  have hM : (xs.map encNV).length = xs.length := List.length_map ..
  refine Mk.intro Try.func52 rfl Try.ntmps52 rfl rfl (fun w => ?_)
  refine AC.seq ?_
  refine AC.region ?_
  refine AO.yld _ (Yld.assign rfl) rfl rfl rfl ?_
  refine AO.nil ?_
  refine AC.seq ?_
  refine AC.region ?_
  refine AO.yld _ (Yld.move rfl) rfl rfl rfl ?_
  refine AO.yld _ (Yld.len Try.underlying80 rfl rfl) rfl rfl rfl ?_
  refine AO.make 0 Try.underlying66 ty71 rfl rfl rfl rfl rfl (Nat.le_refl _) (by rw [hM]; omega) (by rw [hM]; omega) rfl rfl ?_
  refine AO.yld _ (Yld.assign rfl) rfl rfl rfl ?_
  refine AO.nil ?_
  refine AC.seq ?_
  refine AC.seq ?_
  refine AC.region ?_
  refine AO.yld _ (Yld.assign rfl) rfl rfl rfl ?_
  refine AO.nil ?_
  refine AC.block ?_
  refine AC.loopC [(0, _), (2, _), (3, _)] [] (fun (k : Nat) => [(4, .p (.v (.int .i64 (k : Int))))]) (fun (k : Nat) => [(0, .vec 71 2 (filled encNV [.v (.string ⟨#[]⟩), .v (.int .i64 0)] xs k))]) (fun (k : Nat) => k ≤ xs.length) (fun (k : Nat) => xs.length - k) 0 ⟨rfl, rfl, rfl, trivial⟩ trivial ⟨rfl, trivial⟩ ⟨by rw [filled_zero, ← hM]; rfl, trivial⟩ ?_ (fun k hJ => ?_)
  · simp
  · -- round
    refine AC.seq ?_
    refine AC.seq ?_
    refine AC.region ?_
    refine AO.yld _ (Yld.move rfl) rfl rfl rfl ?_
    refine AO.yld _ (Yld.move rfl) rfl rfl rfl ?_
    refine AO.yld _ (Yld.len Try.underlying80 rfl rfl) rfl rfl rfl ?_
    refine AO.yld _ (Yld.int rfl rfl rfl) rfl rfl rfl ?_
    refine AO.nil ?_
    refine AC.cond _ rfl (fun c11 => ?_) (fun c11 => ?_)
    · -- c11 True
      have hk := lt_of_decM c11
      obtain ⟨x, hx⟩ := get_some hk
      have hrow := map_row (enc := encNV) hx
      refine AC.skip ?_
      refine AC.seq ?_
      refine AC.block ?_
      refine AC.region ?_
      refine AO.yld _ (Yld.move rfl) rfl rfl rfl ?_
      refine AO.yld _ (Yld.move rfl) rfl rfl rfl ?_
      refine AO.yld _ (Yld.move rfl) rfl rfl rfl ?_
      refine AO.yld _ (Yld.move rfl) rfl rfl rfl ?_
      refine AO.yld _ (Yld.indexSl Try.underlying80 Try.sizeOf130 rfl rfl hrow rfl) rfl rfl rfl ?_
      refine AO.yld _ (Yld.loadAgg Try.isAgg130 Try.sizeOf130 rfl rfl rfl rfl) rfl rfl rfl ?_
      refine AO.yld _ (Yld.call rfl rfl Try.call98 rfl rfl rfl (laws_toMedia_c) rfl) rfl rfl rfl ?_
      refine AO.yld _ (Yld.indexVec Try.underlying66 Try.sizeOf71 rfl rfl rfl rfl (by rw [filled_length (by omega)]; exact hk)) rfl rfl rfl ?_
      refine AO.store Try.sizeOf71 rfl rfl rfl rfl rfl (store_el rfl (filled_get hk) rfl rfl) ?_
      refine AO.nil ?_
      refine AC.mark ?_
      refine AC.region ?_
      refine AO.yld _ (Yld.move rfl) rfl rfl rfl ?_
      refine AO.yld _ (Yld.add rfl rfl (by omega) (by omega)) rfl rfl rfl ?_
      refine AO.yld _ (Yld.assign rfl) rfl rfl rfl ?_
      refine AO.nil ?_
      refine AC.back ⟨k + 1, ?_, ?_, ⟨?_, trivial⟩, ⟨?_, trivial⟩, ⟨rfl, rfl, rfl, trivial⟩, trivial⟩
      · omega
      · omega
      · rfl
      · rw [← filled_set hx]; rfl
    · -- c11 False
      obtain rfl : k = xs.length := by have := ge_of_decM c11; omega
      refine AC.exit rfl ?_
      refine AC.seq ?_
      refine AC.region ?_
      refine AO.yld _ (Yld.move rfl) rfl rfl rfl ?_
      refine AO.yld _ (Yld.assign rfl) rfl rfl rfl ?_
      refine AO.nil ?_
      refine Mk.ret 0 Try.results52 (RVs.cons (RV.tmp rfl) RVs.nil) rfl rfl ?_
      exact filled_end

theorem laws_eqMedia_c {x y : NV} :
    Pure Try.prog 100 [.agg (encNV x), .agg (encNV y)] (.v (.bool (decide (x = y)))) := by
  refine Pure.intro Try.func100 rfl Try.ntmps100 rfl rfl (fun w => ?_)
  refine AC.seq ?_
  refine AC.region ?_
  refine AO.box 0 rfl rfl rfl rfl rfl ?_
  refine AO.box 1 rfl rfl rfl rfl rfl ?_
  refine AO.yld _ (Yld.assign rfl) rfl rfl rfl ?_
  refine AO.nil ?_
  refine AC.seq ?_
  refine AC.seq ?_
  refine AC.region ?_
  refine AO.yld _ (Yld.fieldAddr Try.underlying71 rfl rfl Try.sizeOf9 rfl rfl rfl) rfl rfl rfl ?_
  refine AO.yld _ (Yld.load Try.isAgg9 rfl rfl) rfl rfl rfl ?_
  refine AO.yld _ (Yld.fieldAddr Try.underlying71 rfl rfl Try.sizeOf9 rfl rfl rfl) rfl rfl rfl ?_
  refine AO.yld _ (Yld.load Try.isAgg9 rfl rfl) rfl rfl rfl ?_
  refine AO.yld _ (Yld.cmpStr rfl rfl rfl) rfl rfl rfl ?_
  refine AO.nil ?_
  refine AC.cond _ rfl (fun c9 => ?_) (fun c9 => ?_)
  · -- c9 True
    refine AC.seq ?_
    refine AC.region ?_
    refine AO.yld _ (Yld.assign rfl) rfl rfl rfl ?_
    refine AO.nil ?_
    refine Pure.ret Try.results100 (RVs.cons (RV.tmp rfl) RVs.nil) rfl ?_
    cases x; cases y; simp_all
  · -- c9 False
    refine AC.skip ?_
    refine AC.seq ?_
    refine AC.seq ?_
    refine AC.region ?_
    refine AO.yld _ (Yld.fieldAddr Try.underlying71 rfl rfl Try.sizeOf2 rfl rfl rfl) rfl rfl rfl ?_
    refine AO.yld _ (Yld.load Try.isAgg2 rfl rfl) rfl rfl rfl ?_
    refine AO.yld _ (Yld.fieldAddr Try.underlying71 rfl rfl Try.sizeOf2 rfl rfl rfl) rfl rfl rfl ?_
    refine AO.yld _ (Yld.load Try.isAgg2 rfl rfl) rfl rfl rfl ?_
    refine AO.yld _ (Yld.int rfl rfl rfl) rfl rfl rfl ?_
    refine AO.nil ?_
    refine AC.cond _ rfl (fun c14 => ?_) (fun c14 => ?_)
    · -- c14 True
      refine AC.seq ?_
      refine AC.region ?_
      refine AO.yld _ (Yld.assign rfl) rfl rfl rfl ?_
      refine AO.nil ?_
      refine Pure.ret Try.results100 (RVs.cons (RV.tmp rfl) RVs.nil) rfl ?_
      cases x; cases y; simp_all
    · -- c14 False
      refine AC.skip ?_
      refine AC.seq ?_
      refine AC.region ?_
      refine AO.yld _ (Yld.assign rfl) rfl rfl rfl ?_
      refine AO.nil ?_
      refine Pure.ret Try.results100 (RVs.cons (RV.tmp rfl) RVs.nil) rfl ?_
      cases x; cases y; simp_all

theorem laws_eqMediaS_c {xs ys : List NV} (hn : xs.length ≤ 1048576) :
    Pure Try.prog 54 [.sl 2 (xs.map encNV), .sl 2 (ys.map encNV)] (.v (.bool (decide (xs = ys)))) := by
  refine Pure.intro Try.func54 rfl Try.ntmps54 rfl rfl (fun w => ?_)
  refine AC.seq ?_
  refine AC.region ?_
  refine AO.yld _ (Yld.assign rfl) rfl rfl rfl ?_
  refine AO.nil ?_
  refine AC.seq ?_
  refine AC.seq ?_
  refine AC.region ?_
  refine AO.yld _ (Yld.move rfl) rfl rfl rfl ?_
  refine AO.yld _ (Yld.len Try.underlying66 rfl rfl) rfl rfl rfl ?_
  refine AO.yld _ (Yld.move rfl) rfl rfl rfl ?_
  refine AO.yld _ (Yld.len Try.underlying66 rfl rfl) rfl rfl rfl ?_
  refine AO.yld _ (Yld.int rfl rfl rfl) rfl rfl rfl ?_
  refine AO.nil ?_
  refine AC.cond _ rfl (fun c10 => ?_) (fun c10 => ?_)
  · -- c10 True
    have hl : xs.length ≠ ys.length := by have h := c10; simp only [List.length_map, bne_iff_ne, ne_eq] at h; omega
    refine AC.seq ?_
    refine AC.region ?_
    refine AO.yld _ (Yld.assign rfl) rfl rfl rfl ?_
    refine AO.nil ?_
    refine Pure.ret Try.results54 (RVs.cons (RV.tmp rfl) RVs.nil) rfl ?_
    first
      | (exact congrArg (fun b => PV.v (.bool b)) (decide_eq_false (fun e => hl (congrArg List.length e))).symm)
      | (refine congrArg (fun b => PV.v (.bool b)) (decide_eq_false (fun e => ?_)).symm; subst e; rw [hx] at hy; simp_all)
      | (refine congrArg (fun b => PV.v (.bool b)) (decide_eq_true ?_).symm; have := hJ.2; rw [List.take_of_length_le (Nat.le_refl _), List.take_of_length_le (by omega)] at this; exact this)
  · -- c10 False
    have hl : xs.length = ys.length := by have h := c10; simp only [List.length_map, bne_eq_false_iff_eq] at h; omega
    refine AC.skip ?_
    refine AC.seq ?_
    refine AC.seq ?_
    refine AC.region ?_
    refine AO.yld _ (Yld.assign rfl) rfl rfl rfl ?_
    refine AO.nil ?_
    refine AC.block ?_
    refine AC.loopC [(0, _), (1, _)] [] (fun (k : Nat) => [(5, .p (.v (.int .i64 (k : Int))))]) (fun (k : Nat) => []) (fun (k : Nat) => k ≤ xs.length ∧ xs.take k = ys.take k) (fun (k : Nat) => xs.length - k) 0 ⟨rfl, rfl, trivial⟩ trivial ⟨rfl, trivial⟩ trivial ?_ (fun k hJ => ?_)
    · simp
    · -- round
      refine AC.seq ?_
      refine AC.seq ?_
      refine AC.region ?_
      refine AO.yld _ (Yld.move rfl) rfl rfl rfl ?_
      refine AO.yld _ (Yld.move rfl) rfl rfl rfl ?_
      refine AO.yld _ (Yld.len Try.underlying66 rfl rfl) rfl rfl rfl ?_
      refine AO.yld _ (Yld.int rfl rfl rfl) rfl rfl rfl ?_
      refine AO.nil ?_
      refine AC.cond _ rfl (fun c14 => ?_) (fun c14 => ?_)
      · -- c14 True
        have hk := lt_of_decM c14
        obtain ⟨x, hx⟩ := get_some hk
        have hrow := map_row (enc := encNV) hx
        obtain ⟨y, hy⟩ := get_some (xs := ys) (k := k) (by omega)
        have hrow2 := map_row (enc := encNV) hy
        refine AC.skip ?_
        refine AC.seq ?_
        refine AC.block ?_
        refine AC.seq ?_
        refine AC.draw (by kernel_rfl) (by kernel_rfl) ?_
        refine AO.yld _ (Yld.move rfl) rfl rfl rfl ?_
        refine AO.yld _ (Yld.move rfl) rfl rfl rfl ?_
        refine AO.yld _ (Yld.indexSl Try.underlying66 Try.sizeOf71 rfl rfl hrow rfl) rfl rfl rfl ?_
        refine AO.yld _ (Yld.loadAgg Try.isAgg71 Try.sizeOf71 rfl rfl rfl rfl) rfl rfl rfl ?_
        refine AO.yld _ (Yld.move rfl) rfl rfl rfl ?_
        refine AO.yld _ (Yld.move rfl) rfl rfl rfl ?_
        refine AO.yld _ (Yld.indexSl Try.underlying66 Try.sizeOf71 rfl rfl hrow2 rfl) rfl rfl rfl ?_
        refine AO.yld _ (Yld.loadAgg Try.isAgg71 Try.sizeOf71 rfl rfl rfl rfl) rfl rfl rfl ?_
        refine AO.yld _ (Yld.call rfl rfl Try.call100 rfl rfl rfl (laws_eqMedia_c) rfl) rfl rfl rfl ?_
        refine AO.yld _ (Yld.not rfl) rfl rfl rfl ?_
        refine AO.nil ?_
        refine AC.cond _ rfl (fun c26 => ?_) (fun c26 => ?_)
        · -- c26 True
          refine AC.seq ?_
          refine AC.region ?_
          refine AO.yld _ (Yld.assign rfl) rfl rfl rfl ?_
          refine AO.nil ?_
          refine Pure.ret Try.results54 (RVs.cons (RV.tmp rfl) RVs.nil) rfl ?_
          first
            | (exact congrArg (fun b => PV.v (.bool b)) (decide_eq_false (fun e => hl (congrArg List.length e))).symm)
            | (refine congrArg (fun b => PV.v (.bool b)) (decide_eq_false (fun e => ?_)).symm; subst e; rw [hx] at hy; simp_all)
            | (refine congrArg (fun b => PV.v (.bool b)) (decide_eq_true ?_).symm; have := hJ.2; rw [List.take_of_length_le (Nat.le_refl _), List.take_of_length_le (by omega)] at this; exact this)
        · -- c26 False
          refine AC.skip ?_
          refine AC.mark ?_
          refine AC.region ?_
          refine AO.yld _ (Yld.move rfl) rfl rfl rfl ?_
          refine AO.yld _ (Yld.add rfl rfl (by omega) (by omega)) rfl rfl rfl ?_
          refine AO.yld _ (Yld.assign rfl) rfl rfl rfl ?_
          refine AO.nil ?_
          refine AC.back ⟨k + 1, ?_, ?_, ⟨?_, trivial⟩, trivial, ⟨rfl, rfl, trivial⟩, trivial⟩
          · exact ⟨hk, by rw [take_snoc hx, take_snoc hy, hJ.2, show x = y by simpa using c26]⟩
          · omega
          · rfl
      · -- c14 False
        obtain rfl : k = xs.length := by have := ge_of_decM c14; omega
        refine AC.exit rfl ?_
        refine AC.seq ?_
        refine AC.region ?_
        refine AO.yld _ (Yld.assign rfl) rfl rfl rfl ?_
        refine AO.nil ?_
        refine Pure.ret Try.results54 (RVs.cons (RV.tmp rfl) RVs.nil) rfl ?_
        first
          | (exact congrArg (fun b => PV.v (.bool b)) (decide_eq_false (fun e => hl (congrArg List.length e))).symm)
          | (refine congrArg (fun b => PV.v (.bool b)) (decide_eq_false (fun e => ?_)).symm; subst e; rw [hx] at hy; simp_all)
          | (refine congrArg (fun b => PV.v (.bool b)) (decide_eq_true ?_).symm; have := hJ.2; rw [List.take_of_length_le (Nat.le_refl _), List.take_of_length_le (by omega)] at this; exact this)

theorem laws_szMedia_c {x : NV} {left : Int} (h0 : 0 ≤ left) (h1 : left ≤ 1048576) (hs : x.name.length ≤ 9223372036854775807) :
    Pure Try.prog 96 [.agg (encNV x), .v (.int .i64 left)] (.v (.int .i64 (szOne x.name left))) := by
  refine Pure.intro Try.func96 rfl Try.ntmps96 rfl rfl (fun w => ?_)
  refine AC.seq ?_
  refine AC.region ?_
  refine AO.box 0 rfl rfl rfl rfl rfl ?_
  refine AO.yld _ (Yld.assign rfl) rfl rfl rfl ?_
  refine AO.nil ?_
  refine AC.seq ?_
  refine AC.region ?_
  refine AO.yld _ (Yld.move rfl) rfl rfl rfl ?_
  refine AO.yld _ (Yld.fieldAddr Try.underlying130 rfl rfl Try.sizeOf9 rfl rfl rfl) rfl rfl rfl ?_
  refine AO.yld _ (Yld.load Try.isAgg9 rfl rfl) rfl rfl rfl ?_
  refine AO.yld _ (Yld.lenStr Try.underlying9 rfl) rfl rfl rfl ?_
  refine AO.yld _ (Yld.sub rfl rfl (by omega) (by omega)) rfl rfl rfl ?_
  refine AO.yld _ (Yld.assign rfl) rfl rfl rfl ?_
  refine AO.nil ?_
  refine AC.seq ?_
  refine AC.seq ?_
  refine AC.region ?_
  refine AO.yld _ (Yld.move rfl) rfl rfl rfl ?_
  refine AO.yld _ (Yld.int rfl rfl rfl) rfl rfl rfl ?_
  refine AO.nil ?_
  refine AC.cond _ rfl (fun c11 => ?_) (fun c11 => ?_)
  · -- c11 True
    refine AC.seq ?_
    refine AC.region ?_
    refine AO.yld _ (Yld.assign rfl) rfl rfl rfl ?_
    refine AO.nil ?_
    refine Pure.ret Try.results96 (RVs.cons (RV.tmp rfl) RVs.nil) rfl ?_
    simp only [szOne]; split <;> simp_all <;> omega
  · -- c11 False
    refine AC.skip ?_
    refine AC.seq ?_
    refine AC.region ?_
    refine AO.yld _ (Yld.move rfl) rfl rfl rfl ?_
    refine AO.yld _ (Yld.assign rfl) rfl rfl rfl ?_
    refine AO.nil ?_
    refine Pure.ret Try.results96 (RVs.cons (RV.tmp rfl) RVs.nil) rfl ?_
    simp only [szOne]; split <;> simp_all <;> omega

theorem laws_szMachineS_c {xs : List Mach} {left : Int} (h0 : 0 ≤ left) (h1 : left ≤ 1048576) (hn : xs.length ≤ 9223372036854775807) (hs : ∀ x ∈ xs, (x.name).length ≤ 9223372036854775807) :
    Pure Try.prog 57 [.sl 3 (xs.map encMach), .v (.int .i64 left)] (.v (.int .i64 (szAll (Mach.name) xs left))) := by
  refine Pure.intro Try.func57 rfl Try.ntmps57 rfl rfl (fun w => ?_)
  refine AC.seq ?_
  refine AC.region ?_
  refine AO.yld _ (Yld.assign rfl) rfl rfl rfl ?_
  refine AO.nil ?_
  refine AC.seq ?_
  refine AC.region ?_
  refine AO.yld _ (Yld.move rfl) rfl rfl rfl ?_
  refine AO.yld _ (Yld.move rfl) rfl rfl rfl ?_
  refine AO.yld _ (Yld.len Try.underlying88 rfl rfl) rfl rfl rfl ?_
  refine AO.yld _ (Yld.sub rfl rfl (by simp only [List.length_map]; omega) (by simp only [List.length_map]; omega)) rfl rfl rfl ?_
  refine AO.yld _ (Yld.assign rfl) rfl rfl rfl ?_
  refine AO.nil ?_
  refine AC.seq ?_
  refine AC.seq ?_
  refine AC.region ?_
  refine AO.yld _ (Yld.move rfl) rfl rfl rfl ?_
  refine AO.yld _ (Yld.int rfl rfl rfl) rfl rfl rfl ?_
  refine AO.nil ?_
  refine AC.cond _ rfl (fun c11 => ?_) (fun c11 => ?_)
  · -- c11 True
    refine AC.seq ?_
    refine AC.region ?_
    refine AO.yld _ (Yld.assign rfl) rfl rfl rfl ?_
    refine AO.nil ?_
    refine Pure.ret Try.results57 (RVs.cons (RV.tmp rfl) RVs.nil) rfl ?_
    first
      | (refine ci ?_; have h := c11; have hl := lens_nonneg (f := (Mach.name)) (xs := xs); simp only [List.length_map, decide_eq_true_eq] at h; unfold szAll; rw [if_pos (by omega)])
      | (refine ci ?_; have h := szOne_lt c25; unfold szAll; rw [if_pos (by omega)])
      | (refine ci ?_; rw [lensTo_all] at hJ ⊢; unfold szAll; rw [if_neg (by omega)])
  · -- c11 False
    refine AC.skip ?_
    refine AC.seq ?_
    refine AC.seq ?_
    refine AC.region ?_
    refine AO.yld _ (Yld.assign rfl) rfl rfl rfl ?_
    refine AO.nil ?_
    refine AC.block ?_
    refine AC.loopC [(0, _)] [] (fun (k : Nat) => [(5, .p (.v (.int .i64 (k : Int)))), (1, .p (.v (.int .i64 (left - xs.length - lensTo (Mach.name) xs k))))]) (fun (k : Nat) => []) (fun (k : Nat) => k ≤ xs.length ∧ 0 ≤ left - xs.length - lensTo (Mach.name) xs k) (fun (k : Nat) => xs.length - k) 0 ⟨rfl, trivial⟩ trivial ⟨rfl, by show some (AV.p (PV.v (Value.int IntKind.i64 _))) = _; simp only [List.length_map, lensTo_zero, Int.sub_zero], trivial⟩ trivial ?_ (fun k hJ => ?_)
    · refine ⟨Nat.zero_le _, ?_⟩; rw [lensTo_zero]; simp only [List.length_map, decide_eq_false_iff_not] at c11; omega
    · -- round
      refine AC.seq ?_
      refine AC.seq ?_
      refine AC.region ?_
      refine AO.yld _ (Yld.move rfl) rfl rfl rfl ?_
      refine AO.yld _ (Yld.move rfl) rfl rfl rfl ?_
      refine AO.yld _ (Yld.len Try.underlying88 rfl rfl) rfl rfl rfl ?_
      refine AO.yld _ (Yld.int rfl rfl rfl) rfl rfl rfl ?_
      refine AO.nil ?_
      refine AC.cond _ rfl (fun c15 => ?_) (fun c15 => ?_)
      · -- c15 True
        have hk := lt_of_decM c15
        obtain ⟨x, hx⟩ := get_some hk
        have hrow := map_row (enc := encMach) hx
        have hsx := hs x (List.mem_of_getElem? hx)
        have hle := lens_ge (f := (Mach.name)) (xs := xs) (k + 1)
        rw [lensTo_succ hx] at hle
        have hnn := lensTo_nonneg (f := (Mach.name)) (xs := xs) (k := k)
        refine AC.skip ?_
        refine AC.seq ?_
        refine AC.block ?_
        refine AC.seq ?_
        refine AC.region ?_
        refine AO.yld _ (Yld.move rfl) rfl rfl rfl ?_
        refine AO.yld _ (Yld.move rfl) rfl rfl rfl ?_
        refine AO.yld _ (Yld.indexSl Try.underlying88 Try.sizeOf37 rfl rfl hrow rfl) rfl rfl rfl ?_
        refine AO.yld _ (Yld.loadAgg Try.isAgg37 Try.sizeOf37 rfl rfl rfl rfl) rfl rfl rfl ?_
        refine AO.yld _ (Yld.move rfl) rfl rfl rfl ?_
        refine AO.yld _ (Yld.call rfl rfl Try.call23 rfl rfl rfl (laws_szMachine_c (by omega) (by omega) (by first | assumption | omega)) rfl) rfl rfl rfl ?_
        refine AO.yld _ (Yld.assign rfl) rfl rfl rfl ?_
        refine AO.nil ?_
        refine AC.seq ?_
        refine AC.region ?_
        refine AO.yld _ (Yld.move rfl) rfl rfl rfl ?_
        refine AO.yld _ (Yld.int rfl rfl rfl) rfl rfl rfl ?_
        refine AO.nil ?_
        refine AC.cond _ rfl (fun c25 => ?_) (fun c25 => ?_)
        · -- c25 True
          refine AC.seq ?_
          refine AC.region ?_
          refine AO.yld _ (Yld.assign rfl) rfl rfl rfl ?_
          refine AO.nil ?_
          refine Pure.ret Try.results57 (RVs.cons (RV.tmp rfl) RVs.nil) rfl ?_
          first
            | (refine ci ?_; have h := c11; have hl := lens_nonneg (f := (Mach.name)) (xs := xs); simp only [List.length_map, decide_eq_true_eq] at h; unfold szAll; rw [if_pos (by omega)])
            | (refine ci ?_; have h := szOne_lt c25; unfold szAll; rw [if_pos (by omega)])
            | (refine ci ?_; rw [lensTo_all] at hJ ⊢; unfold szAll; rw [if_neg (by omega)])
        · -- c25 False
          refine AC.skip ?_
          refine AC.mark ?_
          refine AC.region ?_
          refine AO.yld _ (Yld.move rfl) rfl rfl rfl ?_
          refine AO.yld _ (Yld.add rfl rfl (by omega) (by omega)) rfl rfl rfl ?_
          refine AO.yld _ (Yld.assign rfl) rfl rfl rfl ?_
          refine AO.nil ?_
          refine AC.back ⟨k + 1, ?_, ?_, ⟨?_, ?_, trivial⟩, trivial, ⟨rfl, trivial⟩, trivial⟩
          · refine ⟨hk, ?_⟩; rw [lensTo_succ hx]; have h := szOne_ge c25; omega
          · omega
          · rfl
          · show some (AV.p (PV.v (Value.int IntKind.i64 _))) = _; rw [lensTo_succ hx, (szOne_ge c25).1]; congr 4; omega
      · -- c15 False
        obtain rfl : k = xs.length := by have := ge_of_decM c15; omega
        refine AC.exit rfl ?_
        refine AC.seq ?_
        refine AC.region ?_
        refine AO.yld _ (Yld.move rfl) rfl rfl rfl ?_
        refine AO.yld _ (Yld.assign rfl) rfl rfl rfl ?_
        refine AO.nil ?_
        refine Pure.ret Try.results57 (RVs.cons (RV.tmp rfl) RVs.nil) rfl ?_
        first
          | (refine ci ?_; have h := c11; have hl := lens_nonneg (f := (Mach.name)) (xs := xs); simp only [List.length_map, decide_eq_true_eq] at h; unfold szAll; rw [if_pos (by omega)])
          | (refine ci ?_; have h := szOne_lt c25; unfold szAll; rw [if_pos (by omega)])
          | (refine ci ?_; rw [lensTo_all] at hJ ⊢; unfold szAll; rw [if_neg (by omega)])

theorem laws_szSettingS_c {xs : List NV} {left : Int} (h0 : 0 ≤ left) (h1 : left ≤ 1048576) (hn : xs.length ≤ 9223372036854775807) (hs : ∀ x ∈ xs, (x.name).length ≤ 9223372036854775807) :
    Pure Try.prog 32 [.sl 2 (xs.map encNV), .v (.int .i64 left)] (.v (.int .i64 (szAll (NV.name) xs left))) := by
  refine Pure.intro Try.func32 rfl Try.ntmps32 rfl rfl (fun w => ?_)
  refine AC.seq ?_
  refine AC.region ?_
  refine AO.yld _ (Yld.assign rfl) rfl rfl rfl ?_
  refine AO.nil ?_
  refine AC.seq ?_
  refine AC.region ?_
  refine AO.yld _ (Yld.move rfl) rfl rfl rfl ?_
  refine AO.yld _ (Yld.move rfl) rfl rfl rfl ?_
  refine AO.yld _ (Yld.len Try.underlying51 rfl rfl) rfl rfl rfl ?_
  refine AO.yld _ (Yld.sub rfl rfl (by simp only [List.length_map]; omega) (by simp only [List.length_map]; omega)) rfl rfl rfl ?_
  refine AO.yld _ (Yld.assign rfl) rfl rfl rfl ?_
  refine AO.nil ?_
  refine AC.seq ?_
  refine AC.seq ?_
  refine AC.region ?_
  refine AO.yld _ (Yld.move rfl) rfl rfl rfl ?_
  refine AO.yld _ (Yld.int rfl rfl rfl) rfl rfl rfl ?_
  refine AO.nil ?_
  refine AC.cond _ rfl (fun c11 => ?_) (fun c11 => ?_)
  · -- c11 True
    refine AC.seq ?_
    refine AC.region ?_
    refine AO.yld _ (Yld.assign rfl) rfl rfl rfl ?_
    refine AO.nil ?_
    refine Pure.ret Try.results32 (RVs.cons (RV.tmp rfl) RVs.nil) rfl ?_
    first
      | (refine ci ?_; have h := c11; have hl := lens_nonneg (f := (NV.name)) (xs := xs); simp only [List.length_map, decide_eq_true_eq] at h; unfold szAll; rw [if_pos (by omega)])
      | (refine ci ?_; have h := szOne_lt c25; unfold szAll; rw [if_pos (by omega)])
      | (refine ci ?_; rw [lensTo_all] at hJ ⊢; unfold szAll; rw [if_neg (by omega)])
  · -- c11 False
    refine AC.skip ?_
    refine AC.seq ?_
    refine AC.seq ?_
    refine AC.region ?_
    refine AO.yld _ (Yld.assign rfl) rfl rfl rfl ?_
    refine AO.nil ?_
    refine AC.block ?_
    refine AC.loopC [(0, _)] [] (fun (k : Nat) => [(5, .p (.v (.int .i64 (k : Int)))), (1, .p (.v (.int .i64 (left - xs.length - lensTo (NV.name) xs k))))]) (fun (k : Nat) => []) (fun (k : Nat) => k ≤ xs.length ∧ 0 ≤ left - xs.length - lensTo (NV.name) xs k) (fun (k : Nat) => xs.length - k) 0 ⟨rfl, trivial⟩ trivial ⟨rfl, by show some (AV.p (PV.v (Value.int IntKind.i64 _))) = _; simp only [List.length_map, lensTo_zero, Int.sub_zero], trivial⟩ trivial ?_ (fun k hJ => ?_)
    · refine ⟨Nat.zero_le _, ?_⟩; rw [lensTo_zero]; simp only [List.length_map, decide_eq_false_iff_not] at c11; omega
    · -- round
      refine AC.seq ?_
      refine AC.seq ?_
      refine AC.region ?_
      refine AO.yld _ (Yld.move rfl) rfl rfl rfl ?_
      refine AO.yld _ (Yld.move rfl) rfl rfl rfl ?_
      refine AO.yld _ (Yld.len Try.underlying51 rfl rfl) rfl rfl rfl ?_
      refine AO.yld _ (Yld.int rfl rfl rfl) rfl rfl rfl ?_
      refine AO.nil ?_
      refine AC.cond _ rfl (fun c15 => ?_) (fun c15 => ?_)
      · -- c15 True
        have hk := lt_of_decM c15
        obtain ⟨x, hx⟩ := get_some hk
        have hrow := map_row (enc := encNV) hx
        have hsx := hs x (List.mem_of_getElem? hx)
        have hle := lens_ge (f := (NV.name)) (xs := xs) (k + 1)
        rw [lensTo_succ hx] at hle
        have hnn := lensTo_nonneg (f := (NV.name)) (xs := xs) (k := k)
        refine AC.skip ?_
        refine AC.seq ?_
        refine AC.block ?_
        refine AC.seq ?_
        refine AC.region ?_
        refine AO.yld _ (Yld.move rfl) rfl rfl rfl ?_
        refine AO.yld _ (Yld.move rfl) rfl rfl rfl ?_
        refine AO.yld _ (Yld.indexSl Try.underlying51 Try.sizeOf116 rfl rfl hrow rfl) rfl rfl rfl ?_
        refine AO.yld _ (Yld.loadAgg Try.isAgg116 Try.sizeOf116 rfl rfl rfl rfl) rfl rfl rfl ?_
        refine AO.yld _ (Yld.move rfl) rfl rfl rfl ?_
        refine AO.yld _ (Yld.call rfl rfl Try.call79 rfl rfl rfl (laws_szSetting_c (by omega) (by omega) (by first | assumption | omega)) rfl) rfl rfl rfl ?_
        refine AO.yld _ (Yld.assign rfl) rfl rfl rfl ?_
        refine AO.nil ?_
        refine AC.seq ?_
        refine AC.region ?_
        refine AO.yld _ (Yld.move rfl) rfl rfl rfl ?_
        refine AO.yld _ (Yld.int rfl rfl rfl) rfl rfl rfl ?_
        refine AO.nil ?_
        refine AC.cond _ rfl (fun c25 => ?_) (fun c25 => ?_)
        · -- c25 True
          refine AC.seq ?_
          refine AC.region ?_
          refine AO.yld _ (Yld.assign rfl) rfl rfl rfl ?_
          refine AO.nil ?_
          refine Pure.ret Try.results32 (RVs.cons (RV.tmp rfl) RVs.nil) rfl ?_
          first
            | (refine ci ?_; have h := c11; have hl := lens_nonneg (f := (NV.name)) (xs := xs); simp only [List.length_map, decide_eq_true_eq] at h; unfold szAll; rw [if_pos (by omega)])
            | (refine ci ?_; have h := szOne_lt c25; unfold szAll; rw [if_pos (by omega)])
            | (refine ci ?_; rw [lensTo_all] at hJ ⊢; unfold szAll; rw [if_neg (by omega)])
        · -- c25 False
          refine AC.skip ?_
          refine AC.mark ?_
          refine AC.region ?_
          refine AO.yld _ (Yld.move rfl) rfl rfl rfl ?_
          refine AO.yld _ (Yld.add rfl rfl (by omega) (by omega)) rfl rfl rfl ?_
          refine AO.yld _ (Yld.assign rfl) rfl rfl rfl ?_
          refine AO.nil ?_
          refine AC.back ⟨k + 1, ?_, ?_, ⟨?_, ?_, trivial⟩, trivial, ⟨rfl, trivial⟩, trivial⟩
          · refine ⟨hk, ?_⟩; rw [lensTo_succ hx]; have h := szOne_ge c25; omega
          · omega
          · rfl
          · show some (AV.p (PV.v (Value.int IntKind.i64 _))) = _; rw [lensTo_succ hx, (szOne_ge c25).1]; congr 4; omega
      · -- c15 False
        obtain rfl : k = xs.length := by have := ge_of_decM c15; omega
        refine AC.exit rfl ?_
        refine AC.seq ?_
        refine AC.region ?_
        refine AO.yld _ (Yld.move rfl) rfl rfl rfl ?_
        refine AO.yld _ (Yld.assign rfl) rfl rfl rfl ?_
        refine AO.nil ?_
        refine Pure.ret Try.results32 (RVs.cons (RV.tmp rfl) RVs.nil) rfl ?_
        first
          | (refine ci ?_; have h := c11; have hl := lens_nonneg (f := (NV.name)) (xs := xs); simp only [List.length_map, decide_eq_true_eq] at h; unfold szAll; rw [if_pos (by omega)])
          | (refine ci ?_; have h := szOne_lt c25; unfold szAll; rw [if_pos (by omega)])
          | (refine ci ?_; rw [lensTo_all] at hJ ⊢; unfold szAll; rw [if_neg (by omega)])

theorem laws_szMediaS_c {xs : List NV} {left : Int} (h0 : 0 ≤ left) (h1 : left ≤ 1048576) (hn : xs.length ≤ 9223372036854775807) (hs : ∀ x ∈ xs, (x.name).length ≤ 9223372036854775807) :
    Pure Try.prog 50 [.sl 2 (xs.map encNV), .v (.int .i64 left)] (.v (.int .i64 (szAll (NV.name) xs left))) := by
  refine Pure.intro Try.func50 rfl Try.ntmps50 rfl rfl (fun w => ?_)
  refine AC.seq ?_
  refine AC.region ?_
  refine AO.yld _ (Yld.assign rfl) rfl rfl rfl ?_
  refine AO.nil ?_
  refine AC.seq ?_
  refine AC.region ?_
  refine AO.yld _ (Yld.move rfl) rfl rfl rfl ?_
  refine AO.yld _ (Yld.move rfl) rfl rfl rfl ?_
  refine AO.yld _ (Yld.len Try.underlying80 rfl rfl) rfl rfl rfl ?_
  refine AO.yld _ (Yld.sub rfl rfl (by simp only [List.length_map]; omega) (by simp only [List.length_map]; omega)) rfl rfl rfl ?_
  refine AO.yld _ (Yld.assign rfl) rfl rfl rfl ?_
  refine AO.nil ?_
  refine AC.seq ?_
  refine AC.seq ?_
  refine AC.region ?_
  refine AO.yld _ (Yld.move rfl) rfl rfl rfl ?_
  refine AO.yld _ (Yld.int rfl rfl rfl) rfl rfl rfl ?_
  refine AO.nil ?_
  refine AC.cond _ rfl (fun c11 => ?_) (fun c11 => ?_)
  · -- c11 True
    refine AC.seq ?_
    refine AC.region ?_
    refine AO.yld _ (Yld.assign rfl) rfl rfl rfl ?_
    refine AO.nil ?_
    refine Pure.ret Try.results50 (RVs.cons (RV.tmp rfl) RVs.nil) rfl ?_
    first
      | (refine ci ?_; have h := c11; have hl := lens_nonneg (f := (NV.name)) (xs := xs); simp only [List.length_map, decide_eq_true_eq] at h; unfold szAll; rw [if_pos (by omega)])
      | (refine ci ?_; have h := szOne_lt c25; unfold szAll; rw [if_pos (by omega)])
      | (refine ci ?_; rw [lensTo_all] at hJ ⊢; unfold szAll; rw [if_neg (by omega)])
  · -- c11 False
    refine AC.skip ?_
    refine AC.seq ?_
    refine AC.seq ?_
    refine AC.region ?_
    refine AO.yld _ (Yld.assign rfl) rfl rfl rfl ?_
    refine AO.nil ?_
    refine AC.block ?_
    refine AC.loopC [(0, _)] [] (fun (k : Nat) => [(5, .p (.v (.int .i64 (k : Int)))), (1, .p (.v (.int .i64 (left - xs.length - lensTo (NV.name) xs k))))]) (fun (k : Nat) => []) (fun (k : Nat) => k ≤ xs.length ∧ 0 ≤ left - xs.length - lensTo (NV.name) xs k) (fun (k : Nat) => xs.length - k) 0 ⟨rfl, trivial⟩ trivial ⟨rfl, by show some (AV.p (PV.v (Value.int IntKind.i64 _))) = _; simp only [List.length_map, lensTo_zero, Int.sub_zero], trivial⟩ trivial ?_ (fun k hJ => ?_)
    · refine ⟨Nat.zero_le _, ?_⟩; rw [lensTo_zero]; simp only [List.length_map, decide_eq_false_iff_not] at c11; omega
    · -- round
      refine AC.seq ?_
      refine AC.seq ?_
      refine AC.region ?_
      refine AO.yld _ (Yld.move rfl) rfl rfl rfl ?_
      refine AO.yld _ (Yld.move rfl) rfl rfl rfl ?_
      refine AO.yld _ (Yld.len Try.underlying80 rfl rfl) rfl rfl rfl ?_
      refine AO.yld _ (Yld.int rfl rfl rfl) rfl rfl rfl ?_
      refine AO.nil ?_
      refine AC.cond _ rfl (fun c15 => ?_) (fun c15 => ?_)
      · -- c15 True
        have hk := lt_of_decM c15
        obtain ⟨x, hx⟩ := get_some hk
        have hrow := map_row (enc := encNV) hx
        have hsx := hs x (List.mem_of_getElem? hx)
        have hle := lens_ge (f := (NV.name)) (xs := xs) (k + 1)
        rw [lensTo_succ hx] at hle
        have hnn := lensTo_nonneg (f := (NV.name)) (xs := xs) (k := k)
        refine AC.skip ?_
        refine AC.seq ?_
        refine AC.block ?_
        refine AC.seq ?_
        refine AC.region ?_
        refine AO.yld _ (Yld.move rfl) rfl rfl rfl ?_
        refine AO.yld _ (Yld.move rfl) rfl rfl rfl ?_
        refine AO.yld _ (Yld.indexSl Try.underlying80 Try.sizeOf130 rfl rfl hrow rfl) rfl rfl rfl ?_
        refine AO.yld _ (Yld.loadAgg Try.isAgg130 Try.sizeOf130 rfl rfl rfl rfl) rfl rfl rfl ?_
        refine AO.yld _ (Yld.move rfl) rfl rfl rfl ?_
        refine AO.yld _ (Yld.call rfl rfl Try.call96 rfl rfl rfl (laws_szMedia_c (by omega) (by omega) (by first | assumption | omega)) rfl) rfl rfl rfl ?_
        refine AO.yld _ (Yld.assign rfl) rfl rfl rfl ?_
        refine AO.nil ?_
        refine AC.seq ?_
        refine AC.region ?_
        refine AO.yld _ (Yld.move rfl) rfl rfl rfl ?_
        refine AO.yld _ (Yld.int rfl rfl rfl) rfl rfl rfl ?_
        refine AO.nil ?_
        refine AC.cond _ rfl (fun c25 => ?_) (fun c25 => ?_)
        · -- c25 True
          refine AC.seq ?_
          refine AC.region ?_
          refine AO.yld _ (Yld.assign rfl) rfl rfl rfl ?_
          refine AO.nil ?_
          refine Pure.ret Try.results50 (RVs.cons (RV.tmp rfl) RVs.nil) rfl ?_
          first
            | (refine ci ?_; have h := c11; have hl := lens_nonneg (f := (NV.name)) (xs := xs); simp only [List.length_map, decide_eq_true_eq] at h; unfold szAll; rw [if_pos (by omega)])
            | (refine ci ?_; have h := szOne_lt c25; unfold szAll; rw [if_pos (by omega)])
            | (refine ci ?_; rw [lensTo_all] at hJ ⊢; unfold szAll; rw [if_neg (by omega)])
        · -- c25 False
          refine AC.skip ?_
          refine AC.mark ?_
          refine AC.region ?_
          refine AO.yld _ (Yld.move rfl) rfl rfl rfl ?_
          refine AO.yld _ (Yld.add rfl rfl (by omega) (by omega)) rfl rfl rfl ?_
          refine AO.yld _ (Yld.assign rfl) rfl rfl rfl ?_
          refine AO.nil ?_
          refine AC.back ⟨k + 1, ?_, ?_, ⟨?_, ?_, trivial⟩, trivial, ⟨rfl, trivial⟩, trivial⟩
          · refine ⟨hk, ?_⟩; rw [lensTo_succ hx]; have h := szOne_ge c25; omega
          · omega
          · rfl
          · show some (AV.p (PV.v (Value.int IntKind.i64 _))) = _; rw [lensTo_succ hx, (szOne_ge c25).1]; congr 4; omega
      · -- c15 False
        obtain rfl : k = xs.length := by have := ge_of_decM c15; omega
        refine AC.exit rfl ?_
        refine AC.seq ?_
        refine AC.region ?_
        refine AO.yld _ (Yld.move rfl) rfl rfl rfl ?_
        refine AO.yld _ (Yld.assign rfl) rfl rfl rfl ?_
        refine AO.nil ?_
        refine Pure.ret Try.results50 (RVs.cons (RV.tmp rfl) RVs.nil) rfl ?_
        first
          | (refine ci ?_; have h := c11; have hl := lens_nonneg (f := (NV.name)) (xs := xs); simp only [List.length_map, decide_eq_true_eq] at h; unfold szAll; rw [if_pos (by omega)])
          | (refine ci ?_; have h := szOne_lt c25; unfold szAll; rw [if_pos (by omega)])
          | (refine ci ?_; rw [lensTo_all] at hJ ⊢; unfold szAll; rw [if_neg (by omega)])

theorem spec_l26Time_c {n : Int} :
    Pure Try.prog 73 [.v (.int .i64 n)] (.v (.bool (decide (0 ≤ n) && decide (n ≤ 1000000000)))) := by
  refine Pure.intro Try.func73 rfl Try.ntmps73 rfl rfl (fun w => ?_)
  refine AC.seq ?_
  refine AC.region ?_
  refine AO.yld _ (Yld.assign rfl) rfl rfl rfl ?_
  refine AO.nil ?_
  refine AC.seq ?_
  refine AC.region ?_
  refine AO.yld _ (Yld.move rfl) rfl rfl rfl ?_
  refine AO.yld _ (Yld.call rfl rfl Try.call107 rfl rfl rfl (spec_l00In_c) rfl) rfl rfl rfl ?_
  refine AO.yld _ (Yld.assign rfl) rfl rfl rfl ?_
  refine AO.nil ?_
  refine Pure.ret Try.results73 (RVs.cons (RV.tmp rfl) RVs.nil) rfl ?_
  first | rfl | (simp_all; done) | (simp_all; intros; omega) | grind

theorem spec_l26Sample_c {s o b : Int} :
    Pure Try.prog 64 [.ptr [.v (.int .i64 s), .v (.int .i64 o), .v (.int .i64 b)]] (.v (.bool (sampleB s o b))) := by
  refine Pure.intro Try.func64 rfl Try.ntmps64 rfl rfl (fun w => ?_)
  refine AC.seq ?_
  refine AC.region ?_
  refine AO.yld _ (Yld.assign rfl) rfl rfl rfl ?_
  refine AO.nil ?_
  refine AC.seq ?_
  refine AC.draw (by kernel_rfl) (by kernel_rfl) ?_
  refine AO.yld _ (Yld.move rfl) rfl rfl rfl ?_
  refine AO.yld _ (Yld.nilCheck rfl rfl) rfl rfl rfl ?_
  refine AO.yld _ (Yld.fieldAddr Try.underlying25 rfl rfl Try.sizeOf2 rfl rfl rfl) rfl rfl rfl ?_
  refine AO.yld _ (Yld.load Try.isAgg2 rfl rfl) rfl rfl rfl ?_
  refine AO.yld _ (Yld.call rfl rfl Try.call73 rfl rfl rfl (spec_l26Time_c) rfl) rfl rfl rfl ?_
  refine AO.yld _ (Yld.move rfl) rfl rfl rfl ?_
  refine AO.splitAt 8 _ rfl (fun s8 => ?_) (fun s8 => ?_)
  · -- s8 True
    refine AO.yldG _ (Yld.move rfl) rfl rfl rfl rfl rfl ?_
    refine AO.yldG _ (Yld.nilCheck rfl rfl) rfl rfl rfl rfl rfl ?_
    refine AO.yldG _ (Yld.fieldAddr Try.underlying25 rfl rfl Try.sizeOf2 rfl rfl rfl) rfl rfl rfl rfl rfl ?_
    refine AO.yldG _ (Yld.load Try.isAgg2 rfl rfl) rfl rfl rfl rfl rfl ?_
    refine AO.yldG _ (Yld.move rfl) rfl rfl rfl rfl rfl ?_
    refine AO.yldG _ (Yld.nilCheck rfl rfl) rfl rfl rfl rfl rfl ?_
    refine AO.yldG _ (Yld.fieldAddr Try.underlying25 rfl rfl Try.sizeOf2 rfl rfl rfl) rfl rfl rfl rfl rfl ?_
    refine AO.yldG _ (Yld.load Try.isAgg2 rfl rfl) rfl rfl rfl rfl rfl ?_
    refine AO.yldG _ (Yld.call rfl rfl Try.call107 rfl rfl rfl (spec_l00In_c) rfl) rfl rfl rfl rfl rfl ?_
    refine AO.yld _ (Yld.pickT rfl rfl) rfl rfl rfl ?_
    refine AO.yld _ (Yld.move rfl) rfl rfl rfl ?_
    refine AO.splitAt 19 _ rfl (fun s19 => ?_) (fun s19 => ?_)
    · -- s19 True
      refine AO.yldG _ (Yld.move rfl) rfl rfl rfl rfl rfl ?_
      refine AO.yldG _ (Yld.nilCheck rfl rfl) rfl rfl rfl rfl rfl ?_
      refine AO.yldG _ (Yld.fieldAddr Try.underlying25 rfl rfl Try.sizeOf2 rfl rfl rfl) rfl rfl rfl rfl rfl ?_
      refine AO.yldG _ (Yld.load Try.isAgg2 rfl rfl) rfl rfl rfl rfl rfl ?_
      refine AO.yldG _ (Yld.call rfl rfl Try.call73 rfl rfl rfl (spec_l26Time_c) rfl) rfl rfl rfl rfl rfl ?_
      refine AO.yld _ (Yld.pickT rfl rfl) rfl rfl rfl ?_
      refine AO.yld _ (Yld.assign rfl) rfl rfl rfl ?_
      refine AO.nil ?_
      refine Pure.ret Try.results64 (RVs.cons (RV.tmp rfl) RVs.nil) rfl ?_
      first | rfl | (simp_all [sampleB]; done) | (simp_all [sampleB]; intros; omega) | grind
    · -- s19 False
      refine AO.skipT rfl rfl rfl rfl rfl ?_
      refine AO.skipT rfl rfl rfl rfl rfl ?_
      refine AO.skipT rfl rfl rfl rfl rfl ?_
      refine AO.skipT rfl rfl rfl rfl rfl ?_
      refine AO.skipT rfl rfl rfl rfl rfl ?_
      refine AO.yld _ (Yld.pickF rfl rfl) rfl rfl rfl ?_
      refine AO.yld _ (Yld.assign rfl) rfl rfl rfl ?_
      refine AO.nil ?_
      refine Pure.ret Try.results64 (RVs.cons (RV.tmp rfl) RVs.nil) rfl ?_
      first | rfl | (simp_all [sampleB]; done) | (simp_all [sampleB]; intros; omega) | grind
  · -- s8 False
    refine AO.skipT rfl rfl rfl rfl rfl ?_
    refine AO.skipT rfl rfl rfl rfl rfl ?_
    refine AO.skipT rfl rfl rfl rfl rfl ?_
    refine AO.skipT rfl rfl rfl rfl rfl ?_
    refine AO.skipT rfl rfl rfl rfl rfl ?_
    refine AO.skipT rfl rfl rfl rfl rfl ?_
    refine AO.skipT rfl rfl rfl rfl rfl ?_
    refine AO.skipT rfl rfl rfl rfl rfl ?_
    refine AO.skipT rfl rfl rfl rfl rfl ?_
    refine AO.yld _ (Yld.pickF rfl rfl) rfl rfl rfl ?_
    refine AO.yld _ (Yld.move rfl) rfl rfl rfl ?_
    refine AO.skipT rfl rfl rfl rfl rfl ?_
    refine AO.skipT rfl rfl rfl rfl rfl ?_
    refine AO.skipT rfl rfl rfl rfl rfl ?_
    refine AO.skipT rfl rfl rfl rfl rfl ?_
    refine AO.skipT rfl rfl rfl rfl rfl ?_
    refine AO.yld _ (Yld.pickF rfl rfl) rfl rfl rfl ?_
    refine AO.yld _ (Yld.assign rfl) rfl rfl rfl ?_
    refine AO.nil ?_
    refine Pure.ret Try.results64 (RVs.cons (RV.tmp rfl) RVs.nil) rfl ?_
    first | rfl | (simp_all [sampleB]; done) | (simp_all [sampleB]; intros; omega) | grind

theorem spec_ValidSample_c {s o b : Int} :
    Pure Try.prog 15 [.agg [.v (.int .i64 s), .v (.int .i64 o), .v (.int .i64 b)]] (.v (.bool (sampleB s o b))) := by
  refine Pure.intro Try.func15 rfl Try.ntmps15 rfl rfl (fun w => ?_)
  refine AC.seq ?_
  refine AC.region ?_
  refine AO.box 0 rfl rfl rfl rfl rfl ?_
  refine AO.yld _ (Yld.assign rfl) rfl rfl rfl ?_
  refine AO.nil ?_
  refine AC.seq ?_
  refine AC.region ?_
  refine AO.yld _ (Yld.call rfl rfl Try.call64 rfl rfl rfl (spec_l26Sample_c) rfl) rfl rfl rfl ?_
  refine AO.yld _ (Yld.assign rfl) rfl rfl rfl ?_
  refine AO.nil ?_
  refine Pure.ret Try.results15 (RVs.cons (RV.tmp rfl) RVs.nil) rfl ?_
  first | rfl | (simp_all; done) | (simp_all; intros; omega) | grind

theorem impl_ValidSample_c {s o b : Int} :
    Pure Try.prog 17 [.agg [.v (.int .i64 s), .v (.int .i64 o), .v (.int .i64 b)]] (.v (.bool (sampleB s o b))) := by
  refine Pure.intro Try.func17 rfl Try.ntmps17 rfl rfl (fun w => ?_)
  refine AC.seq ?_
  refine AC.region ?_
  refine AO.box 0 rfl rfl rfl rfl rfl ?_
  refine AO.yld _ (Yld.assign rfl) rfl rfl rfl ?_
  refine AO.nil ?_
  refine AC.seq ?_
  refine AC.region ?_
  refine AO.yld _ (Yld.fieldAddr Try.underlying25 rfl rfl Try.sizeOf2 rfl rfl rfl) rfl rfl rfl ?_
  refine AO.yld _ (Yld.load Try.isAgg2 rfl rfl) rfl rfl rfl ?_
  refine AO.yld _ (Yld.call rfl rfl Try.call65 rfl rfl rfl (impl_within_c) rfl) rfl rfl rfl ?_
  refine AO.yld _ (Yld.move rfl) rfl rfl rfl ?_
  refine AO.splitAt 6 _ rfl (fun s6 => ?_) (fun s6 => ?_)
  · -- s6 True
    refine AO.yldG _ (Yld.fieldAddr Try.underlying25 rfl rfl Try.sizeOf2 rfl rfl rfl) rfl rfl rfl rfl rfl ?_
    refine AO.yldG _ (Yld.load Try.isAgg2 rfl rfl) rfl rfl rfl rfl rfl ?_
    refine AO.yldG _ (Yld.fieldAddr Try.underlying25 rfl rfl Try.sizeOf2 rfl rfl rfl) rfl rfl rfl rfl rfl ?_
    refine AO.yldG _ (Yld.load Try.isAgg2 rfl rfl) rfl rfl rfl rfl rfl ?_
    refine AO.yldG _ (Yld.call rfl rfl Try.call65 rfl rfl rfl (impl_within_c) rfl) rfl rfl rfl rfl rfl ?_
    refine AO.yld _ (Yld.pickT rfl rfl) rfl rfl rfl ?_
    refine AO.yld _ (Yld.move rfl) rfl rfl rfl ?_
    refine AO.splitAt 13 _ rfl (fun s13 => ?_) (fun s13 => ?_)
    · -- s13 True
      refine AO.yldG _ (Yld.fieldAddr Try.underlying25 rfl rfl Try.sizeOf2 rfl rfl rfl) rfl rfl rfl rfl rfl ?_
      refine AO.yldG _ (Yld.load Try.isAgg2 rfl rfl) rfl rfl rfl rfl rfl ?_
      refine AO.yldG _ (Yld.call rfl rfl Try.call65 rfl rfl rfl (impl_within_c) rfl) rfl rfl rfl rfl rfl ?_
      refine AO.yld _ (Yld.pickT rfl rfl) rfl rfl rfl ?_
      refine AO.yld _ (Yld.assign rfl) rfl rfl rfl ?_
      refine AO.nil ?_
      refine Pure.ret Try.results17 (RVs.cons (RV.tmp rfl) RVs.nil) rfl ?_
      first | rfl | (simp_all [sampleB]; done) | (simp_all [sampleB]; intros; omega) | grind
    · -- s13 False
      refine AO.skipT rfl rfl rfl rfl rfl ?_
      refine AO.skipT rfl rfl rfl rfl rfl ?_
      refine AO.skipT rfl rfl rfl rfl rfl ?_
      refine AO.yld _ (Yld.pickF rfl rfl) rfl rfl rfl ?_
      refine AO.yld _ (Yld.assign rfl) rfl rfl rfl ?_
      refine AO.nil ?_
      refine Pure.ret Try.results17 (RVs.cons (RV.tmp rfl) RVs.nil) rfl ?_
      first | rfl | (simp_all [sampleB]; done) | (simp_all [sampleB]; intros; omega) | grind
  · -- s6 False
    refine AO.skipT rfl rfl rfl rfl rfl ?_
    refine AO.skipT rfl rfl rfl rfl rfl ?_
    refine AO.skipT rfl rfl rfl rfl rfl ?_
    refine AO.skipT rfl rfl rfl rfl rfl ?_
    refine AO.skipT rfl rfl rfl rfl rfl ?_
    refine AO.yld _ (Yld.pickF rfl rfl) rfl rfl rfl ?_
    refine AO.yld _ (Yld.move rfl) rfl rfl rfl ?_
    refine AO.skipT rfl rfl rfl rfl rfl ?_
    refine AO.skipT rfl rfl rfl rfl rfl ?_
    refine AO.skipT rfl rfl rfl rfl rfl ?_
    refine AO.yld _ (Yld.pickF rfl rfl) rfl rfl rfl ?_
    refine AO.yld _ (Yld.assign rfl) rfl rfl rfl ?_
    refine AO.nil ?_
    refine Pure.ret Try.results17 (RVs.cons (RV.tmp rfl) RVs.nil) rfl ?_
    first | rfl | (simp_all [sampleB]; done) | (simp_all [sampleB]; intros; omega) | grind

theorem spec_l28Day_c {n : Int} :
    Pure Try.prog 127 [.v (.int .i64 n)] (.v (.bool (decide (0 ≤ n) && decide (n ≤ 100000)))) := by
  refine Pure.intro Try.func127 rfl Try.ntmps127 rfl rfl (fun w => ?_)
  refine AC.seq ?_
  refine AC.region ?_
  refine AO.yld _ (Yld.assign rfl) rfl rfl rfl ?_
  refine AO.nil ?_
  refine AC.seq ?_
  refine AC.region ?_
  refine AO.yld _ (Yld.move rfl) rfl rfl rfl ?_
  refine AO.yld _ (Yld.call rfl rfl Try.call107 rfl rfl rfl (spec_l00In_c) rfl) rfl rfl rfl ?_
  refine AO.yld _ (Yld.assign rfl) rfl rfl rfl ?_
  refine AO.nil ?_
  refine Pure.ret Try.results127 (RVs.cons (RV.tmp rfl) RVs.nil) rfl ?_
  first | rfl | (simp_all; done) | (simp_all; intros; omega) | grind

theorem spec_l28Shift_c {n : Int} :
    Pure Try.prog 128 [.v (.int .i64 n)] (.v (.bool (decide (-5000 ≤ n) && decide (n ≤ 5000)))) := by
  refine Pure.intro Try.func128 rfl Try.ntmps128 rfl rfl (fun w => ?_)
  refine AC.seq ?_
  refine AC.region ?_
  refine AO.yld _ (Yld.assign rfl) rfl rfl rfl ?_
  refine AO.nil ?_
  refine AC.seq ?_
  refine AC.region ?_
  refine AO.yld _ (Yld.move rfl) rfl rfl rfl ?_
  refine AO.yld _ (Yld.call rfl rfl Try.call107 rfl rfl rfl (spec_l00In_c) rfl) rfl rfl rfl ?_
  refine AO.yld _ (Yld.assign rfl) rfl rfl rfl ?_
  refine AO.nil ?_
  refine Pure.ret Try.results128 (RVs.cons (RV.tmp rfl) RVs.nil) rfl ?_
  first | rfl | (simp_all; done) | (simp_all; intros; omega) | grind

theorem spec_l28Session_c {x : Session} :
    Pure Try.prog 114 [.ptr (encSession x)] (.v (.bool (okSession x))) := by
  refine Pure.intro Try.func114 rfl Try.ntmps114 rfl rfl (fun w => ?_)
  refine AC.seq ?_
  refine AC.region ?_
  refine AO.yld _ (Yld.assign rfl) rfl rfl rfl ?_
  refine AO.nil ?_
  refine AC.seq ?_
  refine AC.region ?_
  refine AO.yld _ (Yld.move rfl) rfl rfl rfl ?_
  refine AO.yld _ (Yld.nilCheck rfl rfl) rfl rfl rfl ?_
  refine AO.yld _ (Yld.fieldAddr Try.underlying109 rfl rfl Try.sizeOf2 rfl rfl rfl) rfl rfl rfl ?_
  refine AO.yld _ (Yld.load Try.isAgg2 rfl rfl) rfl rfl rfl ?_
  refine AO.yld _ (Yld.call rfl rfl Try.call127 rfl rfl rfl (spec_l28Day_c) rfl) rfl rfl rfl ?_
  refine AO.yld _ (Yld.move rfl) rfl rfl rfl ?_
  refine AO.splitAt 8 _ rfl (fun s8 => ?_) (fun s8 => ?_)
  · -- s8 True
    refine AO.yldG _ (Yld.move rfl) rfl rfl rfl rfl rfl ?_
    refine AO.yldG _ (Yld.nilCheck rfl rfl) rfl rfl rfl rfl rfl ?_
    refine AO.yldG _ (Yld.fieldAddr Try.underlying109 rfl rfl Try.sizeOf2 rfl rfl rfl) rfl rfl rfl rfl rfl ?_
    refine AO.yldG _ (Yld.load Try.isAgg2 rfl rfl) rfl rfl rfl rfl rfl ?_
    refine AO.yldG _ (Yld.call rfl rfl Try.call128 rfl rfl rfl (spec_l28Shift_c) rfl) rfl rfl rfl rfl rfl ?_
    refine AO.yld _ (Yld.pickT rfl rfl) rfl rfl rfl ?_
    refine AO.yld _ (Yld.move rfl) rfl rfl rfl ?_
    refine AO.splitAt 15 _ rfl (fun s15 => ?_) (fun s15 => ?_)
    · -- s15 True
      refine AO.yldG _ (Yld.move rfl) rfl rfl rfl rfl rfl ?_
      refine AO.yldG _ (Yld.nilCheck rfl rfl) rfl rfl rfl rfl rfl ?_
      refine AO.yldG _ (Yld.fieldAddr Try.underlying109 rfl rfl Try.sizeOf2 rfl rfl rfl) rfl rfl rfl rfl rfl ?_
      refine AO.yldG _ (Yld.load Try.isAgg2 rfl rfl) rfl rfl rfl rfl rfl ?_
      refine AO.yldG _ (Yld.call rfl rfl Try.call128 rfl rfl rfl (spec_l28Shift_c) rfl) rfl rfl rfl rfl rfl ?_
      refine AO.yld _ (Yld.pickT rfl rfl) rfl rfl rfl ?_
      refine AO.yld _ (Yld.move rfl) rfl rfl rfl ?_
      refine AO.splitAt 22 _ rfl (fun s22 => ?_) (fun s22 => ?_)
      · -- s22 True
        refine AO.yldG _ (Yld.move rfl) rfl rfl rfl rfl rfl ?_
        refine AO.yldG _ (Yld.nilCheck rfl rfl) rfl rfl rfl rfl rfl ?_
        refine AO.yldG _ (Yld.fieldAddr Try.underlying109 rfl rfl Try.sizeOf2 rfl rfl rfl) rfl rfl rfl rfl rfl ?_
        refine AO.yldG _ (Yld.load Try.isAgg2 rfl rfl) rfl rfl rfl rfl rfl ?_
        refine AO.yldG _ (Yld.call rfl rfl Try.call107 rfl rfl rfl (spec_l00In_c) rfl) rfl rfl rfl rfl rfl ?_
        refine AO.yld _ (Yld.pickT rfl rfl) rfl rfl rfl ?_
        refine AO.yld _ (Yld.assign rfl) rfl rfl rfl ?_
        refine AO.nil ?_
        refine Pure.ret Try.results114 (RVs.cons (RV.tmp rfl) RVs.nil) rfl ?_
        first | rfl | (simp_all [okSession]; done) | (simp_all [okSession]; intros; omega) | grind [okSession]
      · -- s22 False
        refine AO.skipT rfl rfl rfl rfl rfl ?_
        refine AO.skipT rfl rfl rfl rfl rfl ?_
        refine AO.skipT rfl rfl rfl rfl rfl ?_
        refine AO.skipT rfl rfl rfl rfl rfl ?_
        refine AO.skipT rfl rfl rfl rfl rfl ?_
        refine AO.yld _ (Yld.pickF rfl rfl) rfl rfl rfl ?_
        refine AO.yld _ (Yld.assign rfl) rfl rfl rfl ?_
        refine AO.nil ?_
        refine Pure.ret Try.results114 (RVs.cons (RV.tmp rfl) RVs.nil) rfl ?_
        first | rfl | (simp_all [okSession]; done) | (simp_all [okSession]; intros; omega) | grind [okSession]
    · -- s15 False
      refine AO.skipT rfl rfl rfl rfl rfl ?_
      refine AO.skipT rfl rfl rfl rfl rfl ?_
      refine AO.skipT rfl rfl rfl rfl rfl ?_
      refine AO.skipT rfl rfl rfl rfl rfl ?_
      refine AO.skipT rfl rfl rfl rfl rfl ?_
      refine AO.yld _ (Yld.pickF rfl rfl) rfl rfl rfl ?_
      refine AO.yld _ (Yld.move rfl) rfl rfl rfl ?_
      refine AO.skipT rfl rfl rfl rfl rfl ?_
      refine AO.skipT rfl rfl rfl rfl rfl ?_
      refine AO.skipT rfl rfl rfl rfl rfl ?_
      refine AO.skipT rfl rfl rfl rfl rfl ?_
      refine AO.skipT rfl rfl rfl rfl rfl ?_
      refine AO.yld _ (Yld.pickF rfl rfl) rfl rfl rfl ?_
      refine AO.yld _ (Yld.assign rfl) rfl rfl rfl ?_
      refine AO.nil ?_
      refine Pure.ret Try.results114 (RVs.cons (RV.tmp rfl) RVs.nil) rfl ?_
      first | rfl | (simp_all [okSession]; done) | (simp_all [okSession]; intros; omega) | grind [okSession]
  · -- s8 False
    refine AO.skipT rfl rfl rfl rfl rfl ?_
    refine AO.skipT rfl rfl rfl rfl rfl ?_
    refine AO.skipT rfl rfl rfl rfl rfl ?_
    refine AO.skipT rfl rfl rfl rfl rfl ?_
    refine AO.skipT rfl rfl rfl rfl rfl ?_
    refine AO.yld _ (Yld.pickF rfl rfl) rfl rfl rfl ?_
    refine AO.yld _ (Yld.move rfl) rfl rfl rfl ?_
    refine AO.skipT rfl rfl rfl rfl rfl ?_
    refine AO.skipT rfl rfl rfl rfl rfl ?_
    refine AO.skipT rfl rfl rfl rfl rfl ?_
    refine AO.skipT rfl rfl rfl rfl rfl ?_
    refine AO.skipT rfl rfl rfl rfl rfl ?_
    refine AO.yld _ (Yld.pickF rfl rfl) rfl rfl rfl ?_
    refine AO.yld _ (Yld.move rfl) rfl rfl rfl ?_
    refine AO.skipT rfl rfl rfl rfl rfl ?_
    refine AO.skipT rfl rfl rfl rfl rfl ?_
    refine AO.skipT rfl rfl rfl rfl rfl ?_
    refine AO.skipT rfl rfl rfl rfl rfl ?_
    refine AO.skipT rfl rfl rfl rfl rfl ?_
    refine AO.yld _ (Yld.pickF rfl rfl) rfl rfl rfl ?_
    refine AO.yld _ (Yld.assign rfl) rfl rfl rfl ?_
    refine AO.nil ?_
    refine Pure.ret Try.results114 (RVs.cons (RV.tmp rfl) RVs.nil) rfl ?_
    first | rfl | (simp_all [okSession]; done) | (simp_all [okSession]; intros; omega) | grind [okSession]

theorem impl_validSession_c {x : Session} :
    Pure Try.prog 77 [.agg (encSession x)] (.v (.bool (okSession x))) := by
  refine Pure.intro Try.func77 rfl Try.ntmps77 rfl rfl (fun w => ?_)
  refine AC.seq ?_
  refine AC.region ?_
  refine AO.box 0 rfl rfl rfl rfl rfl ?_
  refine AO.yld _ (Yld.assign rfl) rfl rfl rfl ?_
  refine AO.nil ?_
  refine AC.seq ?_
  refine AC.region ?_
  refine AO.yld _ (Yld.fieldAddr Try.underlying109 rfl rfl Try.sizeOf2 rfl rfl rfl) rfl rfl rfl ?_
  refine AO.yld _ (Yld.load Try.isAgg2 rfl rfl) rfl rfl rfl ?_
  refine AO.yld _ (Yld.call rfl rfl Try.call65 rfl rfl rfl (impl_within_c) rfl) rfl rfl rfl ?_
  refine AO.yld _ (Yld.move rfl) rfl rfl rfl ?_
  refine AO.splitAt 6 _ rfl (fun s6 => ?_) (fun s6 => ?_)
  · -- s6 True
    refine AO.yldG _ (Yld.fieldAddr Try.underlying109 rfl rfl Try.sizeOf2 rfl rfl rfl) rfl rfl rfl rfl rfl ?_
    refine AO.yldG _ (Yld.load Try.isAgg2 rfl rfl) rfl rfl rfl rfl rfl ?_
    refine AO.yldG _ (Yld.call rfl rfl Try.call65 rfl rfl rfl (impl_within_c) rfl) rfl rfl rfl rfl rfl ?_
    refine AO.yld _ (Yld.pickT rfl rfl) rfl rfl rfl ?_
    refine AO.yld _ (Yld.move rfl) rfl rfl rfl ?_
    refine AO.splitAt 11 _ rfl (fun s11 => ?_) (fun s11 => ?_)
    · -- s11 True
      refine AO.yldG _ (Yld.fieldAddr Try.underlying109 rfl rfl Try.sizeOf2 rfl rfl rfl) rfl rfl rfl rfl rfl ?_
      refine AO.yldG _ (Yld.load Try.isAgg2 rfl rfl) rfl rfl rfl rfl rfl ?_
      refine AO.yldG _ (Yld.call rfl rfl Try.call65 rfl rfl rfl (impl_within_c) rfl) rfl rfl rfl rfl rfl ?_
      refine AO.yld _ (Yld.pickT rfl rfl) rfl rfl rfl ?_
      refine AO.yld _ (Yld.move rfl) rfl rfl rfl ?_
      refine AO.splitAt 16 _ rfl (fun s16 => ?_) (fun s16 => ?_)
      · -- s16 True
        refine AO.yldG _ (Yld.fieldAddr Try.underlying109 rfl rfl Try.sizeOf2 rfl rfl rfl) rfl rfl rfl rfl rfl ?_
        refine AO.yldG _ (Yld.load Try.isAgg2 rfl rfl) rfl rfl rfl rfl rfl ?_
        refine AO.yldG _ (Yld.call rfl rfl Try.call65 rfl rfl rfl (impl_within_c) rfl) rfl rfl rfl rfl rfl ?_
        refine AO.yld _ (Yld.pickT rfl rfl) rfl rfl rfl ?_
        refine AO.yld _ (Yld.assign rfl) rfl rfl rfl ?_
        refine AO.nil ?_
        refine Pure.ret Try.results77 (RVs.cons (RV.tmp rfl) RVs.nil) rfl ?_
        first | rfl | (simp_all [okSession]; done) | (simp_all [okSession]; intros; omega) | grind [okSession]
      · -- s16 False
        refine AO.skipT rfl rfl rfl rfl rfl ?_
        refine AO.skipT rfl rfl rfl rfl rfl ?_
        refine AO.skipT rfl rfl rfl rfl rfl ?_
        refine AO.yld _ (Yld.pickF rfl rfl) rfl rfl rfl ?_
        refine AO.yld _ (Yld.assign rfl) rfl rfl rfl ?_
        refine AO.nil ?_
        refine Pure.ret Try.results77 (RVs.cons (RV.tmp rfl) RVs.nil) rfl ?_
        first | rfl | (simp_all [okSession]; done) | (simp_all [okSession]; intros; omega) | grind [okSession]
    · -- s11 False
      refine AO.skipT rfl rfl rfl rfl rfl ?_
      refine AO.skipT rfl rfl rfl rfl rfl ?_
      refine AO.skipT rfl rfl rfl rfl rfl ?_
      refine AO.yld _ (Yld.pickF rfl rfl) rfl rfl rfl ?_
      refine AO.yld _ (Yld.move rfl) rfl rfl rfl ?_
      refine AO.skipT rfl rfl rfl rfl rfl ?_
      refine AO.skipT rfl rfl rfl rfl rfl ?_
      refine AO.skipT rfl rfl rfl rfl rfl ?_
      refine AO.yld _ (Yld.pickF rfl rfl) rfl rfl rfl ?_
      refine AO.yld _ (Yld.assign rfl) rfl rfl rfl ?_
      refine AO.nil ?_
      refine Pure.ret Try.results77 (RVs.cons (RV.tmp rfl) RVs.nil) rfl ?_
      first | rfl | (simp_all [okSession]; done) | (simp_all [okSession]; intros; omega) | grind [okSession]
  · -- s6 False
    refine AO.skipT rfl rfl rfl rfl rfl ?_
    refine AO.skipT rfl rfl rfl rfl rfl ?_
    refine AO.skipT rfl rfl rfl rfl rfl ?_
    refine AO.yld _ (Yld.pickF rfl rfl) rfl rfl rfl ?_
    refine AO.yld _ (Yld.move rfl) rfl rfl rfl ?_
    refine AO.skipT rfl rfl rfl rfl rfl ?_
    refine AO.skipT rfl rfl rfl rfl rfl ?_
    refine AO.skipT rfl rfl rfl rfl rfl ?_
    refine AO.yld _ (Yld.pickF rfl rfl) rfl rfl rfl ?_
    refine AO.yld _ (Yld.move rfl) rfl rfl rfl ?_
    refine AO.skipT rfl rfl rfl rfl rfl ?_
    refine AO.skipT rfl rfl rfl rfl rfl ?_
    refine AO.skipT rfl rfl rfl rfl rfl ?_
    refine AO.yld _ (Yld.pickF rfl rfl) rfl rfl rfl ?_
    refine AO.yld _ (Yld.assign rfl) rfl rfl rfl ?_
    refine AO.nil ?_
    refine Pure.ret Try.results77 (RVs.cons (RV.tmp rfl) RVs.nil) rfl ?_
    first | rfl | (simp_all [okSession]; done) | (simp_all [okSession]; intros; omega) | grind [okSession]

theorem spec_l28Ok_c {xs : List Session} (hn : xs.length ≤ 1048576) :
    Pure Try.prog 75 [.sl 4 (xs.map encSession)] (.v (.bool (okSessions xs))) := by
  refine Pure.intro Try.func75 rfl Try.ntmps75 rfl rfl (fun w => ?_)
  refine AC.seq ?_
  refine AC.region ?_
  refine AO.yld _ (Yld.assign rfl) rfl rfl rfl ?_
  refine AO.nil ?_
  refine AC.seq ?_
  refine AC.seq ?_
  refine AC.region ?_
  refine AO.yld _ (Yld.assign rfl) rfl rfl rfl ?_
  refine AO.nil ?_
  refine AC.block ?_
  refine AC.loopC [(0, _)] [] (fun (k : Nat) => [(3, .p (.v (.int .i64 (k : Int))))]) (fun (k : Nat) => []) (fun (k : Nat) => k ≤ xs.length ∧ okTo okSession geDay xs k = true) (fun (k : Nat) => xs.length - k) 0 ⟨rfl, trivial⟩ trivial ⟨rfl, trivial⟩ trivial ?_ (fun k hJ => ?_)
  · exact ⟨Nat.zero_le _, rfl⟩
  · -- round
    refine AC.seq ?_
    refine AC.seq ?_
    refine AC.region ?_
    refine AO.yld _ (Yld.move rfl) rfl rfl rfl ?_
    refine AO.yld _ (Yld.move rfl) rfl rfl rfl ?_
    refine AO.yld _ (Yld.len Try.underlying47 rfl rfl) rfl rfl rfl ?_
    refine AO.yld _ (Yld.int rfl rfl rfl) rfl rfl rfl ?_
    refine AO.nil ?_
    refine AC.cond _ rfl (fun c7 => ?_) (fun c7 => ?_)
    · -- c7 True
      have hk := lt_of_decM c7
      obtain ⟨x, hx⟩ := get_some hk
      have hrow := map_row (enc := encSession) hx
      refine AC.skip ?_
      refine AC.seq ?_
      refine AC.block ?_
      refine AC.seq ?_
      refine AC.draw (by kernel_rfl) (by kernel_rfl) ?_
      refine AO.yld _ (Yld.move rfl) rfl rfl rfl ?_
      refine AO.yld _ (Yld.move rfl) rfl rfl rfl ?_
      refine AO.yld _ (Yld.indexSl Try.underlying47 Try.sizeOf109 rfl rfl hrow rfl) rfl rfl rfl ?_
      refine AO.yld _ (Yld.call rfl rfl Try.call114 rfl rfl rfl (spec_l28Session_c) rfl) rfl rfl rfl ?_
      refine AO.yld _ (Yld.not rfl) rfl rfl rfl ?_
      refine AO.yld _ (Yld.move rfl) rfl rfl rfl ?_
      refine AO.splitAt 15 _ rfl (fun s15 => ?_) (fun s15 => ?_)
      · -- s15 True
        refine AO.skipF rfl rfl rfl rfl rfl ?_
        refine AO.skipF rfl rfl rfl rfl rfl ?_
        refine AO.skipF rfl rfl rfl rfl rfl ?_
        refine AO.skipU rfl rfl rfl rfl rfl ?_
        refine AO.skipU rfl rfl rfl rfl rfl ?_
        refine AO.skipU rfl rfl rfl rfl rfl ?_
        refine AO.skipU rfl rfl rfl rfl rfl ?_
        refine AO.skipU rfl rfl rfl rfl rfl ?_
        refine AO.skipU rfl rfl rfl rfl rfl ?_
        refine AO.skipU rfl rfl rfl rfl rfl ?_
        refine AO.skipU rfl rfl rfl rfl rfl ?_
        refine AO.skipU rfl rfl rfl rfl rfl ?_
        refine AO.skipU rfl rfl rfl rfl rfl ?_
        refine AO.skipU rfl rfl rfl rfl rfl ?_
        refine AO.skipU rfl rfl rfl rfl rfl ?_
        refine AO.skipF rfl rfl rfl rfl rfl ?_
        refine AO.yld _ (Yld.pickT rfl rfl) rfl rfl rfl ?_
        refine AO.nil ?_
        refine AC.condT rfl ?_
        refine AC.seq ?_
        refine AC.region ?_
        refine AO.yld _ (Yld.assign rfl) rfl rfl rfl ?_
        refine AO.nil ?_
        refine Pure.ret Try.results75 (RVs.cons (RV.tmp rfl) RVs.nil) rfl ?_
        first
          | (exact cb (by unfold okSessions; rw [ok_one (one := okSession) (ge := geDay) hx (by simpa using s15)]; simp))
          | (exact cb (by unfold okSessions; rw [ok_ge (one := okSession) (ge := geDay) hx hk0 hy c32]; simp))
          | (exact cb (by rw [okSessions, ok_all hJ.2]; grind))
          | (exact cb (by unfold okSessions; grind))
      · -- s15 False
        refine AO.yldG _ (Yld.move rfl) rfl rfl rfl rfl rfl ?_
        refine AO.yldG _ (Yld.int rfl rfl rfl) rfl rfl rfl rfl rfl ?_
        refine AO.yldG _ (Yld.move rfl) rfl rfl rfl rfl rfl ?_
        refine AO.splitAt 18 _ rfl (fun s18 => ?_) (fun s18 => ?_)
        · -- s18 True
          have hk0 : 0 < k := by simpa using s18
          obtain ⟨y, hy⟩ := get_some (xs := xs) (k := k - 1) (by omega)
          have hrow2 := map_row (enc := encSession) hy
          refine AO.yldG _ (Yld.move rfl) rfl rfl rfl rfl rfl ?_
          refine AO.yldG _ (Yld.move rfl) rfl rfl rfl rfl rfl ?_
          refine AO.yldG _ (Yld.sub rfl rfl (by omega) (by omega)) rfl rfl rfl rfl rfl ?_
          refine AO.yldG _ (Yld.indexSl Try.underlying47 Try.sizeOf109 rfl rfl hrow2 (by omega)) rfl rfl rfl rfl rfl ?_
          refine AO.yldG _ (Yld.fieldAddr Try.underlying109 rfl rfl Try.sizeOf2 rfl rfl rfl) rfl rfl rfl rfl rfl ?_
          refine AO.yldG _ (Yld.load Try.isAgg2 rfl rfl) rfl rfl rfl rfl rfl ?_
          refine AO.yldG _ (Yld.move rfl) rfl rfl rfl rfl rfl ?_
          refine AO.yldG _ (Yld.move rfl) rfl rfl rfl rfl rfl ?_
          refine AO.yldG _ (Yld.indexSl Try.underlying47 Try.sizeOf109 rfl rfl hrow rfl) rfl rfl rfl rfl rfl ?_
          refine AO.yldG _ (Yld.fieldAddr Try.underlying109 rfl rfl Try.sizeOf2 rfl rfl rfl) rfl rfl rfl rfl rfl ?_
          refine AO.yldG _ (Yld.load Try.isAgg2 rfl rfl) rfl rfl rfl rfl rfl ?_
          refine AO.yldG _ (Yld.int rfl rfl rfl) rfl rfl rfl rfl rfl ?_
          refine AO.yldG _ (Yld.pickT rfl rfl) rfl rfl rfl rfl rfl ?_
          refine AO.yld _ (Yld.pickF rfl rfl) rfl rfl rfl ?_
          refine AO.nil ?_
          refine AC.cond _ rfl (fun c32 => ?_) (fun c32 => ?_)
          · -- c32 True
            refine AC.seq ?_
            refine AC.region ?_
            refine AO.yld _ (Yld.assign rfl) rfl rfl rfl ?_
            refine AO.nil ?_
            refine Pure.ret Try.results75 (RVs.cons (RV.tmp rfl) RVs.nil) rfl ?_
            first
              | (exact cb (by unfold okSessions; rw [ok_one (one := okSession) (ge := geDay) hx (by simpa using s15)]; simp))
              | (exact cb (by unfold okSessions; rw [ok_ge (one := okSession) (ge := geDay) hx hk0 hy c32]; simp))
              | (exact cb (by rw [okSessions, ok_all hJ.2]; grind))
              | (exact cb (by unfold okSessions; grind))
          · -- c32 False
            refine AC.skip ?_
            refine AC.mark ?_
            refine AC.region ?_
            refine AO.yld _ (Yld.move rfl) rfl rfl rfl ?_
            refine AO.yld _ (Yld.add rfl rfl (by omega) (by omega)) rfl rfl rfl ?_
            refine AO.yld _ (Yld.assign rfl) rfl rfl rfl ?_
            refine AO.nil ?_
            refine AC.back ⟨k + 1, ?_, ?_, ⟨?_, trivial⟩, trivial, ⟨rfl, trivial⟩, trivial⟩
            · exact ⟨hk, by first | exact ok_first hJ.2 hx (by simpa using s15) (by simp at s18; omega) | exact ok_next hJ.2 hx (by simpa using s15) hk0 hy c32⟩
            · omega
            · rfl
        · -- s18 False
          refine AO.skipT rfl rfl rfl rfl rfl ?_
          refine AO.skipT rfl rfl rfl rfl rfl ?_
          refine AO.skipT rfl rfl rfl rfl rfl ?_
          refine AO.skipT rfl rfl rfl rfl rfl ?_
          refine AO.skipT rfl rfl rfl rfl rfl ?_
          refine AO.skipT rfl rfl rfl rfl rfl ?_
          refine AO.skipT rfl rfl rfl rfl rfl ?_
          refine AO.skipT rfl rfl rfl rfl rfl ?_
          refine AO.skipT rfl rfl rfl rfl rfl ?_
          refine AO.skipT rfl rfl rfl rfl rfl ?_
          refine AO.skipT rfl rfl rfl rfl rfl ?_
          refine AO.skipT rfl rfl rfl rfl rfl ?_
          refine AO.yldG _ (Yld.pickF rfl rfl) rfl rfl rfl rfl rfl ?_
          refine AO.yld _ (Yld.pickF rfl rfl) rfl rfl rfl ?_
          refine AO.nil ?_
          refine AC.condF rfl ?_
          refine AC.skip ?_
          refine AC.mark ?_
          refine AC.region ?_
          refine AO.yld _ (Yld.move rfl) rfl rfl rfl ?_
          refine AO.yld _ (Yld.add rfl rfl (by omega) (by omega)) rfl rfl rfl ?_
          refine AO.yld _ (Yld.assign rfl) rfl rfl rfl ?_
          refine AO.nil ?_
          refine AC.back ⟨k + 1, ?_, ?_, ⟨?_, trivial⟩, trivial, ⟨rfl, trivial⟩, trivial⟩
          · exact ⟨hk, by first | exact ok_first hJ.2 hx (by simpa using s15) (by simp at s18; omega) | exact ok_next hJ.2 hx (by simpa using s15) hk0 hy c32⟩
          · omega
          · rfl
    · -- c7 False
      obtain rfl : k = xs.length := by have := ge_of_decM c7; omega
      refine AC.exit rfl ?_
      refine AC.seq ?_
      refine AC.region ?_
      refine AO.yld _ (Yld.move rfl) rfl rfl rfl ?_
      refine AO.yld _ (Yld.len Try.underlying47 rfl rfl) rfl rfl rfl ?_
      refine AO.yld _ (Yld.int rfl rfl rfl) rfl rfl rfl ?_
      refine AO.yld _ (Yld.move rfl) rfl rfl rfl ?_
      refine AO.splitAt 36 _ rfl (fun s36 => ?_) (fun s36 => ?_)
      · -- s36 True
        refine AO.yldG _ (Yld.move rfl) rfl rfl rfl rfl rfl ?_
        refine AO.yldG _ (Yld.len Try.underlying47 rfl rfl) rfl rfl rfl rfl rfl ?_
        refine AO.yldG _ (Yld.int rfl rfl rfl) rfl rfl rfl rfl rfl ?_
        refine AO.yld _ (Yld.pickT rfl rfl) rfl rfl rfl ?_
        refine AO.yld _ (Yld.assign rfl) rfl rfl rfl ?_
        refine AO.nil ?_
        refine Pure.ret Try.results75 (RVs.cons (RV.tmp rfl) RVs.nil) rfl ?_
        first
          | (exact cb (by unfold okSessions; rw [ok_one (one := okSession) (ge := geDay) hx (by simpa using s15)]; simp))
          | (exact cb (by unfold okSessions; rw [ok_ge (one := okSession) (ge := geDay) hx hk0 hy c32]; simp))
          | (exact cb (by rw [okSessions, ok_all hJ.2]; grind))
          | (exact cb (by unfold okSessions; grind))
      · -- s36 False
        refine AO.skipT rfl rfl rfl rfl rfl ?_
        refine AO.skipT rfl rfl rfl rfl rfl ?_
        refine AO.skipT rfl rfl rfl rfl rfl ?_
        refine AO.yld _ (Yld.pickF rfl rfl) rfl rfl rfl ?_
        refine AO.yld _ (Yld.assign rfl) rfl rfl rfl ?_
        refine AO.nil ?_
        refine Pure.ret Try.results75 (RVs.cons (RV.tmp rfl) RVs.nil) rfl ?_
        first
          | (exact cb (by unfold okSessions; rw [ok_one (one := okSession) (ge := geDay) hx (by simpa using s15)]; simp))
          | (exact cb (by unfold okSessions; rw [ok_ge (one := okSession) (ge := geDay) hx hk0 hy c32]; simp))
          | (exact cb (by rw [okSessions, ok_all hJ.2]; grind))
          | (exact cb (by unfold okSessions; grind))

theorem impl_ValidSessions_c {xs : List Session} (hn : xs.length ≤ 1048576) :
    Pure Try.prog 30 [.sl 4 (xs.map encSession)] (.v (.bool (okSessions xs))) := by
  refine Pure.intro Try.func30 rfl Try.ntmps30 rfl rfl (fun w => ?_)
  refine AC.seq ?_
  refine AC.region ?_
  refine AO.yld _ (Yld.assign rfl) rfl rfl rfl ?_
  refine AO.nil ?_
  refine AC.seq ?_
  refine AC.seq ?_
  refine AC.region ?_
  refine AO.yld _ (Yld.move rfl) rfl rfl rfl ?_
  refine AO.yld _ (Yld.len Try.underlying47 rfl rfl) rfl rfl rfl ?_
  refine AO.yld _ (Yld.call rfl rfl Try.call65 rfl rfl rfl (impl_within_c) rfl) rfl rfl rfl ?_
  refine AO.yld _ (Yld.not rfl) rfl rfl rfl ?_
  refine AO.nil ?_
  refine AC.cond _ rfl (fun c8 => ?_) (fun c8 => ?_)
  · -- c8 True
    refine AC.seq ?_
    refine AC.region ?_
    refine AO.yld _ (Yld.assign rfl) rfl rfl rfl ?_
    refine AO.nil ?_
    refine Pure.ret Try.results30 (RVs.cons (RV.tmp rfl) RVs.nil) rfl ?_
    first
      | (exact cb (by unfold okSessions; rw [ok_one (one := okSession) (ge := geDay) hx (by simpa using s19)]; simp))
      | (exact cb (by unfold okSessions; rw [ok_ge (one := okSession) (ge := geDay) hx hk0 hy c33]; simp))
      | (exact cb (by rw [okSessions, ok_all hJ.2]; grind))
      | (exact cb (by unfold okSessions; grind))
  · -- c8 False
    refine AC.skip ?_
    refine AC.seq ?_
    refine AC.seq ?_
    refine AC.region ?_
    refine AO.yld _ (Yld.move rfl) rfl rfl rfl ?_
    refine AO.yld _ (Yld.len Try.underlying47 rfl rfl) rfl rfl rfl ?_
    refine AO.yld _ (Yld.move rfl) rfl rfl rfl ?_
    refine AO.nil ?_
    refine AC.block ?_
    refine AC.loopC [(0, _), (9, _), (10, _)] [] (fun (k : Nat) => [(11, .p (.v (.int .i64 (k : Int))))]) (fun (k : Nat) => []) (fun (k : Nat) => k ≤ xs.length ∧ okTo okSession geDay xs k = true) (fun (k : Nat) => xs.length - k) 0 ⟨rfl, rfl, rfl, trivial⟩ trivial ⟨rfl, trivial⟩ trivial ?_ (fun k hJ => ?_)
    · exact ⟨Nat.zero_le _, rfl⟩
    · -- round
      refine AC.seq ?_
      refine AC.region ?_
      refine AO.yld _ (Yld.int rfl rfl rfl) rfl rfl rfl ?_
      refine AO.nil ?_
      refine AC.seq ?_
      refine AC.cond _ rfl (fun c12 => ?_) (fun c12 => ?_)
      · -- c12 True
        have hk := lt_of_decM c12
        obtain ⟨x, hx⟩ := get_some hk
        have hrow := map_row (enc := encSession) hx
        refine AC.skip ?_
        refine AC.seq ?_
        refine AC.block ?_
        refine AC.seq ?_
        refine AC.region ?_
        refine AO.yld _ (Yld.move rfl) rfl rfl rfl ?_
        refine AO.yld _ (Yld.indexSl Try.underlying47 Try.sizeOf109 rfl rfl hrow rfl) rfl rfl rfl ?_
        refine AO.yld _ (Yld.loadAgg Try.isAgg109 Try.sizeOf109 rfl rfl rfl rfl) rfl rfl rfl ?_
        refine AO.alloc 0 Try.zeroValue109 rfl rfl rfl ?_
        refine AO.yld _ (Yld.assign rfl) rfl rfl rfl ?_
        refine AO.store Try.sizeOf109 rfl rfl rfl rfl rfl rfl ?_
        refine AO.nil ?_
        refine AC.seq ?_
        refine AC.draw (by kernel_rfl) (by kernel_rfl) ?_
        refine AO.yld _ (Yld.loadAgg Try.isAgg109 Try.sizeOf109 rfl rfl rfl rfl) rfl rfl rfl ?_
        refine AO.yld _ (Yld.call rfl rfl Try.call77 rfl rfl rfl (impl_validSession_c) rfl) rfl rfl rfl ?_
        refine AO.yld _ (Yld.not rfl) rfl rfl rfl ?_
        refine AO.yld _ (Yld.move rfl) rfl rfl rfl ?_
        refine AO.splitAt 19 _ rfl (fun s19 => ?_) (fun s19 => ?_)
        · -- s19 True
          refine AO.skipF rfl rfl rfl rfl rfl ?_
          refine AO.skipF rfl rfl rfl rfl rfl ?_
          refine AO.skipF rfl rfl rfl rfl rfl ?_
          refine AO.skipU rfl rfl rfl rfl rfl ?_
          refine AO.skipU rfl rfl rfl rfl rfl ?_
          refine AO.skipU rfl rfl rfl rfl rfl ?_
          refine AO.skipU rfl rfl rfl rfl rfl ?_
          refine AO.skipU rfl rfl rfl rfl rfl ?_
          refine AO.skipU rfl rfl rfl rfl rfl ?_
          refine AO.skipU rfl rfl rfl rfl rfl ?_
          refine AO.skipU rfl rfl rfl rfl rfl ?_
          refine AO.skipU rfl rfl rfl rfl rfl ?_
          refine AO.skipF rfl rfl rfl rfl rfl ?_
          refine AO.yld _ (Yld.pickT rfl rfl) rfl rfl rfl ?_
          refine AO.nil ?_
          refine AC.condT rfl ?_
          refine AC.seq ?_
          refine AC.region ?_
          refine AO.yld _ (Yld.assign rfl) rfl rfl rfl ?_
          refine AO.nil ?_
          refine Pure.ret Try.results30 (RVs.cons (RV.tmp rfl) RVs.nil) rfl ?_
          first
            | (exact cb (by unfold okSessions; rw [ok_one (one := okSession) (ge := geDay) hx (by simpa using s19)]; simp))
            | (exact cb (by unfold okSessions; rw [ok_ge (one := okSession) (ge := geDay) hx hk0 hy c33]; simp))
            | (exact cb (by rw [okSessions, ok_all hJ.2]; grind))
            | (exact cb (by unfold okSessions; grind))
        · -- s19 False
          refine AO.yldG _ (Yld.move rfl) rfl rfl rfl rfl rfl ?_
          refine AO.yldG _ (Yld.int rfl rfl rfl) rfl rfl rfl rfl rfl ?_
          refine AO.yldG _ (Yld.move rfl) rfl rfl rfl rfl rfl ?_
          refine AO.splitAt 22 _ rfl (fun s22 => ?_) (fun s22 => ?_)
          · -- s22 True
            have hk0 : 0 < k := by simpa using s22
            obtain ⟨y, hy⟩ := get_some (xs := xs) (k := k - 1) (by omega)
            have hrow2 := map_row (enc := encSession) hy
            refine AO.yldG _ (Yld.move rfl) rfl rfl rfl rfl rfl ?_
            refine AO.yldG _ (Yld.move rfl) rfl rfl rfl rfl rfl ?_
            refine AO.yldG _ (Yld.sub rfl rfl (by omega) (by omega)) rfl rfl rfl rfl rfl ?_
            refine AO.yldG _ (Yld.indexSl Try.underlying47 Try.sizeOf109 rfl rfl hrow2 (by omega)) rfl rfl rfl rfl rfl ?_
            refine AO.yldG _ (Yld.fieldAddr Try.underlying109 rfl rfl Try.sizeOf2 rfl rfl rfl) rfl rfl rfl rfl rfl ?_
            refine AO.yldG _ (Yld.load Try.isAgg2 rfl rfl) rfl rfl rfl rfl rfl ?_
            refine AO.yldG _ (Yld.fieldAddr Try.underlying109 rfl rfl Try.sizeOf2 rfl rfl rfl) rfl rfl rfl rfl rfl ?_
            refine AO.yldG _ (Yld.load Try.isAgg2 rfl rfl) rfl rfl rfl rfl rfl ?_
            refine AO.yldG _ (Yld.int rfl rfl rfl) rfl rfl rfl rfl rfl ?_
            refine AO.yldG _ (Yld.pickT rfl rfl) rfl rfl rfl rfl rfl ?_
            refine AO.yld _ (Yld.pickF rfl rfl) rfl rfl rfl ?_
            refine AO.nil ?_
            refine AC.cond _ rfl (fun c33 => ?_) (fun c33 => ?_)
            · -- c33 True
              refine AC.seq ?_
              refine AC.region ?_
              refine AO.yld _ (Yld.assign rfl) rfl rfl rfl ?_
              refine AO.nil ?_
              refine Pure.ret Try.results30 (RVs.cons (RV.tmp rfl) RVs.nil) rfl ?_
              first
                | (exact cb (by unfold okSessions; rw [ok_one (one := okSession) (ge := geDay) hx (by simpa using s19)]; simp))
                | (exact cb (by unfold okSessions; rw [ok_ge (one := okSession) (ge := geDay) hx hk0 hy c33]; simp))
                | (exact cb (by rw [okSessions, ok_all hJ.2]; grind))
                | (exact cb (by unfold okSessions; grind))
            · -- c33 False
              refine AC.skip ?_
              refine AC.mark ?_
              refine AC.region ?_
              refine AO.yld _ (Yld.add rfl rfl (by omega) (by omega)) rfl rfl rfl ?_
              refine AO.yld _ (Yld.move rfl) rfl rfl rfl ?_
              refine AO.nil ?_
              refine AC.back ⟨k + 1, ?_, ?_, ⟨?_, trivial⟩, trivial, ⟨rfl, rfl, rfl, trivial⟩, trivial⟩
              · exact ⟨hk, by first | exact ok_first hJ.2 hx (by simpa using s19) (by simp at s22; omega) | exact ok_next hJ.2 hx (by simpa using s19) hk0 hy c33⟩
              · omega
              · rfl
          · -- s22 False
            refine AO.skipT rfl rfl rfl rfl rfl ?_
            refine AO.skipT rfl rfl rfl rfl rfl ?_
            refine AO.skipT rfl rfl rfl rfl rfl ?_
            refine AO.skipT rfl rfl rfl rfl rfl ?_
            refine AO.skipT rfl rfl rfl rfl rfl ?_
            refine AO.skipT rfl rfl rfl rfl rfl ?_
            refine AO.skipT rfl rfl rfl rfl rfl ?_
            refine AO.skipT rfl rfl rfl rfl rfl ?_
            refine AO.skipT rfl rfl rfl rfl rfl ?_
            refine AO.yldG _ (Yld.pickF rfl rfl) rfl rfl rfl rfl rfl ?_
            refine AO.yld _ (Yld.pickF rfl rfl) rfl rfl rfl ?_
            refine AO.nil ?_
            refine AC.condF rfl ?_
            refine AC.skip ?_
            refine AC.mark ?_
            refine AC.region ?_
            refine AO.yld _ (Yld.add rfl rfl (by omega) (by omega)) rfl rfl rfl ?_
            refine AO.yld _ (Yld.move rfl) rfl rfl rfl ?_
            refine AO.nil ?_
            refine AC.back ⟨k + 1, ?_, ?_, ⟨?_, trivial⟩, trivial, ⟨rfl, rfl, rfl, trivial⟩, trivial⟩
            · exact ⟨hk, by first | exact ok_first hJ.2 hx (by simpa using s19) (by simp at s22; omega) | exact ok_next hJ.2 hx (by simpa using s19) hk0 hy c33⟩
            · omega
            · rfl
      · -- c12 False
        obtain rfl : k = xs.length := by have := ge_of_decM c12; omega
        refine AC.exit rfl ?_
        refine AC.seq ?_
        refine AC.region ?_
        refine AO.yld _ (Yld.assign rfl) rfl rfl rfl ?_
        refine AO.nil ?_
        refine Pure.ret Try.results30 (RVs.cons (RV.tmp rfl) RVs.nil) rfl ?_
        first
          | (exact cb (by unfold okSessions; rw [ok_one (one := okSession) (ge := geDay) hx (by simpa using s19)]; simp))
          | (exact cb (by unfold okSessions; rw [ok_ge (one := okSession) (ge := geDay) hx hk0 hy c33]; simp))
          | (exact cb (by rw [okSessions, ok_all hJ.2]; grind))
          | (exact cb (by unfold okSessions; grind))

theorem spec_l26One_c {x : Mach} (hs : x.name.length ≤ 1048576) :
    Pure Try.prog 72 [.ptr (encMach x)] (.v (.bool (okMachine x))) := by
  refine Pure.intro Try.func72 rfl Try.ntmps72 rfl rfl (fun w => ?_)
  refine AC.seq ?_
  refine AC.region ?_
  refine AO.yld _ (Yld.assign rfl) rfl rfl rfl ?_
  refine AO.nil ?_
  refine AC.seq ?_
  refine AC.region ?_
  refine AO.yld _ (Yld.move rfl) rfl rfl rfl ?_
  refine AO.yld _ (Yld.nilCheck rfl rfl) rfl rfl rfl ?_
  refine AO.yld _ (Yld.fieldAddr Try.underlying41 rfl rfl Try.sizeOf9 rfl rfl rfl) rfl rfl rfl ?_
  refine AO.yld _ (Yld.load Try.isAgg9 rfl rfl) rfl rfl rfl ?_
  refine AO.yld _ (Yld.call rfl rfl Try.call112 rfl rfl rfl (spec_l01Name_c (by first | assumption | omega)) rfl) rfl rfl rfl ?_
  refine AO.yld _ (Yld.move rfl) rfl rfl rfl ?_
  refine AO.splitAt 8 _ rfl (fun s8 => ?_) (fun s8 => ?_)
  · -- s8 True
    refine AO.yldG _ (Yld.move rfl) rfl rfl rfl rfl rfl ?_
    refine AO.yldG _ (Yld.nilCheck rfl rfl) rfl rfl rfl rfl rfl ?_
    refine AO.yldG _ (Yld.fieldAddr Try.underlying41 rfl rfl Try.sizeOf2 rfl rfl rfl) rfl rfl rfl rfl rfl ?_
    refine AO.yldG _ (Yld.load Try.isAgg2 rfl rfl) rfl rfl rfl rfl rfl ?_
    refine AO.yldG _ (Yld.call rfl rfl Try.call107 rfl rfl rfl (spec_l00In_c) rfl) rfl rfl rfl rfl rfl ?_
    refine AO.yld _ (Yld.pickT rfl rfl) rfl rfl rfl ?_
    refine AO.yld _ (Yld.move rfl) rfl rfl rfl ?_
    refine AO.splitAt 15 _ rfl (fun s15 => ?_) (fun s15 => ?_)
    · -- s15 True
      refine AO.yldG _ (Yld.move rfl) rfl rfl rfl rfl rfl ?_
      refine AO.yldG _ (Yld.nilCheck rfl rfl) rfl rfl rfl rfl rfl ?_
      refine AO.yldG _ (Yld.fieldAddr Try.underlying41 rfl rfl Try.sizeOf2 rfl rfl rfl) rfl rfl rfl rfl rfl ?_
      refine AO.yldG _ (Yld.load Try.isAgg2 rfl rfl) rfl rfl rfl rfl rfl ?_
      refine AO.yldG _ (Yld.call rfl rfl Try.call73 rfl rfl rfl (spec_l26Time_c) rfl) rfl rfl rfl rfl rfl ?_
      refine AO.yld _ (Yld.pickT rfl rfl) rfl rfl rfl ?_
      refine AO.yld _ (Yld.assign rfl) rfl rfl rfl ?_
      refine AO.nil ?_
      refine Pure.ret Try.results72 (RVs.cons (RV.tmp rfl) RVs.nil) rfl ?_
      first | rfl | (simp_all [okMachine]; done) | (simp_all [okMachine]; intros; omega) | grind [okMachine]
    · -- s15 False
      refine AO.skipT rfl rfl rfl rfl rfl ?_
      refine AO.skipT rfl rfl rfl rfl rfl ?_
      refine AO.skipT rfl rfl rfl rfl rfl ?_
      refine AO.skipT rfl rfl rfl rfl rfl ?_
      refine AO.skipT rfl rfl rfl rfl rfl ?_
      refine AO.yld _ (Yld.pickF rfl rfl) rfl rfl rfl ?_
      refine AO.yld _ (Yld.assign rfl) rfl rfl rfl ?_
      refine AO.nil ?_
      refine Pure.ret Try.results72 (RVs.cons (RV.tmp rfl) RVs.nil) rfl ?_
      first | rfl | (simp_all [okMachine]; done) | (simp_all [okMachine]; intros; omega) | grind [okMachine]
  · -- s8 False
    refine AO.skipT rfl rfl rfl rfl rfl ?_
    refine AO.skipT rfl rfl rfl rfl rfl ?_
    refine AO.skipT rfl rfl rfl rfl rfl ?_
    refine AO.skipT rfl rfl rfl rfl rfl ?_
    refine AO.skipT rfl rfl rfl rfl rfl ?_
    refine AO.yld _ (Yld.pickF rfl rfl) rfl rfl rfl ?_
    refine AO.yld _ (Yld.move rfl) rfl rfl rfl ?_
    refine AO.skipT rfl rfl rfl rfl rfl ?_
    refine AO.skipT rfl rfl rfl rfl rfl ?_
    refine AO.skipT rfl rfl rfl rfl rfl ?_
    refine AO.skipT rfl rfl rfl rfl rfl ?_
    refine AO.skipT rfl rfl rfl rfl rfl ?_
    refine AO.yld _ (Yld.pickF rfl rfl) rfl rfl rfl ?_
    refine AO.yld _ (Yld.assign rfl) rfl rfl rfl ?_
    refine AO.nil ?_
    refine Pure.ret Try.results72 (RVs.cons (RV.tmp rfl) RVs.nil) rfl ?_
    first | rfl | (simp_all [okMachine]; done) | (simp_all [okMachine]; intros; omega) | grind [okMachine]

theorem impl_validMachine_c {x : Mach} (hs : x.name.length ≤ 1048576) :
    Pure Try.prog 74 [.agg (encMach x)] (.v (.bool (okMachine x))) := by
  refine Pure.intro Try.func74 rfl Try.ntmps74 rfl rfl (fun w => ?_)
  refine AC.seq ?_
  refine AC.region ?_
  refine AO.box 0 rfl rfl rfl rfl rfl ?_
  refine AO.yld _ (Yld.assign rfl) rfl rfl rfl ?_
  refine AO.nil ?_
  refine AC.seq ?_
  refine AC.region ?_
  refine AO.yld _ (Yld.fieldAddr Try.underlying41 rfl rfl Try.sizeOf9 rfl rfl rfl) rfl rfl rfl ?_
  refine AO.yld _ (Yld.load Try.isAgg9 rfl rfl) rfl rfl rfl ?_
  refine AO.yld _ (Yld.call rfl rfl Try.call113 rfl rfl rfl (impl_IsName_c (by first | assumption | omega)) rfl) rfl rfl rfl ?_
  refine AO.yld _ (Yld.move rfl) rfl rfl rfl ?_
  refine AO.splitAt 6 _ rfl (fun s6 => ?_) (fun s6 => ?_)
  · -- s6 True
    refine AO.yldG _ (Yld.fieldAddr Try.underlying41 rfl rfl Try.sizeOf2 rfl rfl rfl) rfl rfl rfl rfl rfl ?_
    refine AO.yldG _ (Yld.load Try.isAgg2 rfl rfl) rfl rfl rfl rfl rfl ?_
    refine AO.yldG _ (Yld.call rfl rfl Try.call65 rfl rfl rfl (impl_within_c) rfl) rfl rfl rfl rfl rfl ?_
    refine AO.yld _ (Yld.pickT rfl rfl) rfl rfl rfl ?_
    refine AO.yld _ (Yld.move rfl) rfl rfl rfl ?_
    refine AO.splitAt 11 _ rfl (fun s11 => ?_) (fun s11 => ?_)
    · -- s11 True
      refine AO.yldG _ (Yld.fieldAddr Try.underlying41 rfl rfl Try.sizeOf2 rfl rfl rfl) rfl rfl rfl rfl rfl ?_
      refine AO.yldG _ (Yld.load Try.isAgg2 rfl rfl) rfl rfl rfl rfl rfl ?_
      refine AO.yldG _ (Yld.call rfl rfl Try.call65 rfl rfl rfl (impl_within_c) rfl) rfl rfl rfl rfl rfl ?_
      refine AO.yld _ (Yld.pickT rfl rfl) rfl rfl rfl ?_
      refine AO.yld _ (Yld.assign rfl) rfl rfl rfl ?_
      refine AO.nil ?_
      refine Pure.ret Try.results74 (RVs.cons (RV.tmp rfl) RVs.nil) rfl ?_
      first | rfl | (simp_all [okMachine]; done) | (simp_all [okMachine]; intros; omega) | grind [okMachine]
    · -- s11 False
      refine AO.skipT rfl rfl rfl rfl rfl ?_
      refine AO.skipT rfl rfl rfl rfl rfl ?_
      refine AO.skipT rfl rfl rfl rfl rfl ?_
      refine AO.yld _ (Yld.pickF rfl rfl) rfl rfl rfl ?_
      refine AO.yld _ (Yld.assign rfl) rfl rfl rfl ?_
      refine AO.nil ?_
      refine Pure.ret Try.results74 (RVs.cons (RV.tmp rfl) RVs.nil) rfl ?_
      first | rfl | (simp_all [okMachine]; done) | (simp_all [okMachine]; intros; omega) | grind [okMachine]
  · -- s6 False
    refine AO.skipT rfl rfl rfl rfl rfl ?_
    refine AO.skipT rfl rfl rfl rfl rfl ?_
    refine AO.skipT rfl rfl rfl rfl rfl ?_
    refine AO.yld _ (Yld.pickF rfl rfl) rfl rfl rfl ?_
    refine AO.yld _ (Yld.move rfl) rfl rfl rfl ?_
    refine AO.skipT rfl rfl rfl rfl rfl ?_
    refine AO.skipT rfl rfl rfl rfl rfl ?_
    refine AO.skipT rfl rfl rfl rfl rfl ?_
    refine AO.yld _ (Yld.pickF rfl rfl) rfl rfl rfl ?_
    refine AO.yld _ (Yld.assign rfl) rfl rfl rfl ?_
    refine AO.nil ?_
    refine Pure.ret Try.results74 (RVs.cons (RV.tmp rfl) RVs.nil) rfl ?_
    first | rfl | (simp_all [okMachine]; done) | (simp_all [okMachine]; intros; omega) | grind [okMachine]

theorem spec_l26Ok_c {xs : List Mach} (hn : xs.length ≤ 1048576) (hs : ∀ x ∈ xs, x.name.length ≤ 1048576) :
    Pure Try.prog 103 [.sl 3 (xs.map encMach)] (.v (.bool (okMachines xs))) := by
  refine Pure.intro Try.func103 rfl Try.ntmps103 rfl rfl (fun w => ?_)
  refine AC.seq ?_
  refine AC.region ?_
  refine AO.yld _ (Yld.assign rfl) rfl rfl rfl ?_
  refine AO.nil ?_
  refine AC.seq ?_
  refine AC.seq ?_
  refine AC.region ?_
  refine AO.yld _ (Yld.assign rfl) rfl rfl rfl ?_
  refine AO.nil ?_
  refine AC.block ?_
  refine AC.loopC [(0, _)] [] (fun (k : Nat) => [(3, .p (.v (.int .i64 (k : Int))))]) (fun (k : Nat) => []) (fun (k : Nat) => k ≤ xs.length ∧ okTo okMachine geMachine xs k = true) (fun (k : Nat) => xs.length - k) 0 ⟨rfl, trivial⟩ trivial ⟨rfl, trivial⟩ trivial ?_ (fun k hJ => ?_)
  · exact ⟨Nat.zero_le _, rfl⟩
  · -- round
    refine AC.seq ?_
    refine AC.seq ?_
    refine AC.region ?_
    refine AO.yld _ (Yld.move rfl) rfl rfl rfl ?_
    refine AO.yld _ (Yld.move rfl) rfl rfl rfl ?_
    refine AO.yld _ (Yld.len Try.underlying91 rfl rfl) rfl rfl rfl ?_
    refine AO.yld _ (Yld.int rfl rfl rfl) rfl rfl rfl ?_
    refine AO.nil ?_
    refine AC.cond _ rfl (fun c7 => ?_) (fun c7 => ?_)
    · -- c7 True
      have hk := lt_of_decM c7
      obtain ⟨x, hx⟩ := get_some hk
      have hrow := map_row (enc := encMach) hx
      have hsx := hs x (List.mem_of_getElem? hx)
      refine AC.skip ?_
      refine AC.seq ?_
      refine AC.block ?_
      refine AC.seq ?_
      refine AC.draw (by kernel_rfl) (by kernel_rfl) ?_
      refine AO.yld _ (Yld.move rfl) rfl rfl rfl ?_
      refine AO.yld _ (Yld.move rfl) rfl rfl rfl ?_
      refine AO.yld _ (Yld.indexSl Try.underlying91 Try.sizeOf41 rfl rfl hrow rfl) rfl rfl rfl ?_
      refine AO.yld _ (Yld.call rfl rfl Try.call72 rfl rfl rfl (spec_l26One_c (by first | assumption | omega)) rfl) rfl rfl rfl ?_
      refine AO.yld _ (Yld.not rfl) rfl rfl rfl ?_
      refine AO.yld _ (Yld.move rfl) rfl rfl rfl ?_
      refine AO.splitAt 15 _ rfl (fun s15 => ?_) (fun s15 => ?_)
      · -- s15 True
        refine AO.skipF rfl rfl rfl rfl rfl ?_
        refine AO.skipF rfl rfl rfl rfl rfl ?_
        refine AO.skipF rfl rfl rfl rfl rfl ?_
        refine AO.skipU rfl rfl rfl rfl rfl ?_
        refine AO.skipU rfl rfl rfl rfl rfl ?_
        refine AO.skipU rfl rfl rfl rfl rfl ?_
        refine AO.skipU rfl rfl rfl rfl rfl ?_
        refine AO.skipU rfl rfl rfl rfl rfl ?_
        refine AO.skipU rfl rfl rfl rfl rfl ?_
        refine AO.skipU rfl rfl rfl rfl rfl ?_
        refine AO.skipU rfl rfl rfl rfl rfl ?_
        refine AO.skipU rfl rfl rfl rfl rfl ?_
        refine AO.skipU rfl rfl rfl rfl rfl ?_
        refine AO.skipU rfl rfl rfl rfl rfl ?_
        refine AO.skipU rfl rfl rfl rfl rfl ?_
        refine AO.skipF rfl rfl rfl rfl rfl ?_
        refine AO.yld _ (Yld.pickT rfl rfl) rfl rfl rfl ?_
        refine AO.nil ?_
        refine AC.condT rfl ?_
        refine AC.seq ?_
        refine AC.region ?_
        refine AO.yld _ (Yld.assign rfl) rfl rfl rfl ?_
        refine AO.nil ?_
        refine Pure.ret Try.results103 (RVs.cons (RV.tmp rfl) RVs.nil) rfl ?_
        first
          | (exact cb (by unfold okMachines; rw [ok_one (one := okMachine) (ge := geMachine) hx (by simpa using s15)]; simp))
          | (exact cb (by unfold okMachines; rw [ok_ge (one := okMachine) (ge := geMachine) hx hk0 hy c32]; simp))
          | (exact cb (by rw [okMachines, ok_all hJ.2]; grind))
          | (exact cb (by unfold okMachines; grind))
          | (exact cb (by simp_all [okMachines]))
      · -- s15 False
        refine AO.yldG _ (Yld.move rfl) rfl rfl rfl rfl rfl ?_
        refine AO.yldG _ (Yld.int rfl rfl rfl) rfl rfl rfl rfl rfl ?_
        refine AO.yldG _ (Yld.move rfl) rfl rfl rfl rfl rfl ?_
        refine AO.splitAt 18 _ rfl (fun s18 => ?_) (fun s18 => ?_)
        · -- s18 True
          have hk0 : 0 < k := by simpa using s18
          obtain ⟨y, hy⟩ := get_some (xs := xs) (k := k - 1) (by omega)
          have hrow2 := map_row (enc := encMach) hy
          refine AO.yldG _ (Yld.move rfl) rfl rfl rfl rfl rfl ?_
          refine AO.yldG _ (Yld.move rfl) rfl rfl rfl rfl rfl ?_
          refine AO.yldG _ (Yld.sub rfl rfl (by omega) (by omega)) rfl rfl rfl rfl rfl ?_
          refine AO.yldG _ (Yld.indexSl Try.underlying91 Try.sizeOf41 rfl rfl hrow2 (by omega)) rfl rfl rfl rfl rfl ?_
          refine AO.yldG _ (Yld.fieldAddr Try.underlying41 rfl rfl Try.sizeOf9 rfl rfl rfl) rfl rfl rfl rfl rfl ?_
          refine AO.yldG _ (Yld.load Try.isAgg9 rfl rfl) rfl rfl rfl rfl rfl ?_
          refine AO.yldG _ (Yld.move rfl) rfl rfl rfl rfl rfl ?_
          refine AO.yldG _ (Yld.move rfl) rfl rfl rfl rfl rfl ?_
          refine AO.yldG _ (Yld.indexSl Try.underlying91 Try.sizeOf41 rfl rfl hrow rfl) rfl rfl rfl rfl rfl ?_
          refine AO.yldG _ (Yld.fieldAddr Try.underlying41 rfl rfl Try.sizeOf9 rfl rfl rfl) rfl rfl rfl rfl rfl ?_
          refine AO.yldG _ (Yld.load Try.isAgg9 rfl rfl) rfl rfl rfl rfl rfl ?_
          refine AO.yldG _ (Yld.cmpStr rfl rfl rfl) rfl rfl rfl rfl rfl ?_
          refine AO.yldG _ (Yld.pickT rfl rfl) rfl rfl rfl rfl rfl ?_
          refine AO.yld _ (Yld.pickF rfl rfl) rfl rfl rfl ?_
          refine AO.nil ?_
          refine AC.cond _ rfl (fun c32 => ?_) (fun c32 => ?_)
          · -- c32 True
            refine AC.seq ?_
            refine AC.region ?_
            refine AO.yld _ (Yld.assign rfl) rfl rfl rfl ?_
            refine AO.nil ?_
            refine Pure.ret Try.results103 (RVs.cons (RV.tmp rfl) RVs.nil) rfl ?_
            first
              | (exact cb (by unfold okMachines; rw [ok_one (one := okMachine) (ge := geMachine) hx (by simpa using s15)]; simp))
              | (exact cb (by unfold okMachines; rw [ok_ge (one := okMachine) (ge := geMachine) hx hk0 hy c32]; simp))
              | (exact cb (by rw [okMachines, ok_all hJ.2]; grind))
              | (exact cb (by unfold okMachines; grind))
              | (exact cb (by simp_all [okMachines]))
          · -- c32 False
            refine AC.skip ?_
            refine AC.mark ?_
            refine AC.region ?_
            refine AO.yld _ (Yld.move rfl) rfl rfl rfl ?_
            refine AO.yld _ (Yld.add rfl rfl (by omega) (by omega)) rfl rfl rfl ?_
            refine AO.yld _ (Yld.assign rfl) rfl rfl rfl ?_
            refine AO.nil ?_
            refine AC.back ⟨k + 1, ?_, ?_, ⟨?_, trivial⟩, trivial, ⟨rfl, trivial⟩, trivial⟩
            · exact ⟨hk, by first | exact ok_first hJ.2 hx (by simpa using s15) (by simp at s18; omega) | exact ok_next hJ.2 hx (by simpa using s15) hk0 hy c32⟩
            · omega
            · rfl
        · -- s18 False
          refine AO.skipT rfl rfl rfl rfl rfl ?_
          refine AO.skipT rfl rfl rfl rfl rfl ?_
          refine AO.skipT rfl rfl rfl rfl rfl ?_
          refine AO.skipT rfl rfl rfl rfl rfl ?_
          refine AO.skipT rfl rfl rfl rfl rfl ?_
          refine AO.skipT rfl rfl rfl rfl rfl ?_
          refine AO.skipT rfl rfl rfl rfl rfl ?_
          refine AO.skipT rfl rfl rfl rfl rfl ?_
          refine AO.skipT rfl rfl rfl rfl rfl ?_
          refine AO.skipT rfl rfl rfl rfl rfl ?_
          refine AO.skipT rfl rfl rfl rfl rfl ?_
          refine AO.skipT rfl rfl rfl rfl rfl ?_
          refine AO.yldG _ (Yld.pickF rfl rfl) rfl rfl rfl rfl rfl ?_
          refine AO.yld _ (Yld.pickF rfl rfl) rfl rfl rfl ?_
          refine AO.nil ?_
          refine AC.condF rfl ?_
          refine AC.skip ?_
          refine AC.mark ?_
          refine AC.region ?_
          refine AO.yld _ (Yld.move rfl) rfl rfl rfl ?_
          refine AO.yld _ (Yld.add rfl rfl (by omega) (by omega)) rfl rfl rfl ?_
          refine AO.yld _ (Yld.assign rfl) rfl rfl rfl ?_
          refine AO.nil ?_
          refine AC.back ⟨k + 1, ?_, ?_, ⟨?_, trivial⟩, trivial, ⟨rfl, trivial⟩, trivial⟩
          · exact ⟨hk, by first | exact ok_first hJ.2 hx (by simpa using s15) (by simp at s18; omega) | exact ok_next hJ.2 hx (by simpa using s15) hk0 hy c32⟩
          · omega
          · rfl
    · -- c7 False
      obtain rfl : k = xs.length := by have := ge_of_decM c7; omega
      refine AC.exit rfl ?_
      refine AC.seq ?_
      refine AC.region ?_
      refine AO.yld _ (Yld.move rfl) rfl rfl rfl ?_
      refine AO.yld _ (Yld.len Try.underlying91 rfl rfl) rfl rfl rfl ?_
      refine AO.yld _ (Yld.int rfl rfl rfl) rfl rfl rfl ?_
      refine AO.yld _ (Yld.assign rfl) rfl rfl rfl ?_
      refine AO.nil ?_
      refine Pure.ret Try.results103 (RVs.cons (RV.tmp rfl) RVs.nil) rfl ?_
      first
        | (exact cb (by unfold okMachines; rw [ok_one (one := okMachine) (ge := geMachine) hx (by simpa using s15)]; simp))
        | (exact cb (by unfold okMachines; rw [ok_ge (one := okMachine) (ge := geMachine) hx hk0 hy c32]; simp))
        | (exact cb (by rw [okMachines, ok_all hJ.2]; grind))
        | (exact cb (by unfold okMachines; grind))
        | (exact cb (by simp_all [okMachines]))

theorem impl_ValidMachines_c {xs : List Mach} (hn : xs.length ≤ 1048576) (hs : ∀ x ∈ xs, x.name.length ≤ 1048576) :
    Pure Try.prog 60 [.sl 3 (xs.map encMach)] (.v (.bool (okMachines xs))) := by
  refine Pure.intro Try.func60 rfl Try.ntmps60 rfl rfl (fun w => ?_)
  refine AC.seq ?_
  refine AC.region ?_
  refine AO.yld _ (Yld.assign rfl) rfl rfl rfl ?_
  refine AO.nil ?_
  refine AC.seq ?_
  refine AC.seq ?_
  refine AC.region ?_
  refine AO.yld _ (Yld.move rfl) rfl rfl rfl ?_
  refine AO.yld _ (Yld.len Try.underlying91 rfl rfl) rfl rfl rfl ?_
  refine AO.yld _ (Yld.int rfl rfl rfl) rfl rfl rfl ?_
  refine AO.nil ?_
  refine AC.cond _ rfl (fun c7 => ?_) (fun c7 => ?_)
  · -- c7 True
    refine AC.seq ?_
    refine AC.region ?_
    refine AO.yld _ (Yld.assign rfl) rfl rfl rfl ?_
    refine AO.nil ?_
    refine Pure.ret Try.results60 (RVs.cons (RV.tmp rfl) RVs.nil) rfl ?_
    first
      | (exact cb (by unfold okMachines; rw [ok_one (one := okMachine) (ge := geMachine) hx (by simpa using s18)]; simp))
      | (exact cb (by unfold okMachines; rw [ok_ge (one := okMachine) (ge := geMachine) hx hk0 hy c32]; simp))
      | (exact cb (by rw [okMachines, ok_all hJ.2]; grind))
      | (exact cb (by unfold okMachines; grind))
      | (exact cb (by simp_all [okMachines]))
  · -- c7 False
    refine AC.skip ?_
    refine AC.seq ?_
    refine AC.seq ?_
    refine AC.region ?_
    refine AO.yld _ (Yld.move rfl) rfl rfl rfl ?_
    refine AO.yld _ (Yld.len Try.underlying91 rfl rfl) rfl rfl rfl ?_
    refine AO.yld _ (Yld.move rfl) rfl rfl rfl ?_
    refine AO.nil ?_
    refine AC.block ?_
    refine AC.loopC [(0, _), (8, _), (9, _)] [] (fun (k : Nat) => [(10, .p (.v (.int .i64 (k : Int))))]) (fun (k : Nat) => []) (fun (k : Nat) => k ≤ xs.length ∧ okTo okMachine geMachine xs k = true) (fun (k : Nat) => xs.length - k) 0 ⟨rfl, rfl, rfl, trivial⟩ trivial ⟨rfl, trivial⟩ trivial ?_ (fun k hJ => ?_)
    · exact ⟨Nat.zero_le _, rfl⟩
    · -- round
      refine AC.seq ?_
      refine AC.region ?_
      refine AO.yld _ (Yld.int rfl rfl rfl) rfl rfl rfl ?_
      refine AO.nil ?_
      refine AC.seq ?_
      refine AC.cond _ rfl (fun c11 => ?_) (fun c11 => ?_)
      · -- c11 True
        have hk := lt_of_decM c11
        obtain ⟨x, hx⟩ := get_some hk
        have hrow := map_row (enc := encMach) hx
        have hsx := hs x (List.mem_of_getElem? hx)
        refine AC.skip ?_
        refine AC.seq ?_
        refine AC.block ?_
        refine AC.seq ?_
        refine AC.region ?_
        refine AO.yld _ (Yld.move rfl) rfl rfl rfl ?_
        refine AO.yld _ (Yld.indexSl Try.underlying91 Try.sizeOf41 rfl rfl hrow rfl) rfl rfl rfl ?_
        refine AO.yld _ (Yld.loadAgg Try.isAgg41 Try.sizeOf41 rfl rfl rfl rfl) rfl rfl rfl ?_
        refine AO.alloc 0 Try.zeroValue41 rfl rfl rfl ?_
        refine AO.yld _ (Yld.assign rfl) rfl rfl rfl ?_
        refine AO.store Try.sizeOf41 rfl rfl rfl rfl rfl rfl ?_
        refine AO.nil ?_
        refine AC.seq ?_
        refine AC.draw (by kernel_rfl) (by kernel_rfl) ?_
        refine AO.yld _ (Yld.loadAgg Try.isAgg41 Try.sizeOf41 rfl rfl rfl rfl) rfl rfl rfl ?_
        refine AO.yld _ (Yld.call rfl rfl Try.call74 rfl rfl rfl (impl_validMachine_c (by first | assumption | omega)) rfl) rfl rfl rfl ?_
        refine AO.yld _ (Yld.not rfl) rfl rfl rfl ?_
        refine AO.yld _ (Yld.move rfl) rfl rfl rfl ?_
        refine AO.splitAt 18 _ rfl (fun s18 => ?_) (fun s18 => ?_)
        · -- s18 True
          refine AO.skipF rfl rfl rfl rfl rfl ?_
          refine AO.skipF rfl rfl rfl rfl rfl ?_
          refine AO.skipF rfl rfl rfl rfl rfl ?_
          refine AO.skipU rfl rfl rfl rfl rfl ?_
          refine AO.skipU rfl rfl rfl rfl rfl ?_
          refine AO.skipU rfl rfl rfl rfl rfl ?_
          refine AO.skipU rfl rfl rfl rfl rfl ?_
          refine AO.skipU rfl rfl rfl rfl rfl ?_
          refine AO.skipU rfl rfl rfl rfl rfl ?_
          refine AO.skipU rfl rfl rfl rfl rfl ?_
          refine AO.skipU rfl rfl rfl rfl rfl ?_
          refine AO.skipU rfl rfl rfl rfl rfl ?_
          refine AO.skipF rfl rfl rfl rfl rfl ?_
          refine AO.yld _ (Yld.pickT rfl rfl) rfl rfl rfl ?_
          refine AO.nil ?_
          refine AC.condT rfl ?_
          refine AC.seq ?_
          refine AC.region ?_
          refine AO.yld _ (Yld.assign rfl) rfl rfl rfl ?_
          refine AO.nil ?_
          refine Pure.ret Try.results60 (RVs.cons (RV.tmp rfl) RVs.nil) rfl ?_
          first
            | (exact cb (by unfold okMachines; rw [ok_one (one := okMachine) (ge := geMachine) hx (by simpa using s18)]; simp))
            | (exact cb (by unfold okMachines; rw [ok_ge (one := okMachine) (ge := geMachine) hx hk0 hy c32]; simp))
            | (exact cb (by rw [okMachines, ok_all hJ.2]; grind))
            | (exact cb (by unfold okMachines; grind))
            | (exact cb (by simp_all [okMachines]))
        · -- s18 False
          refine AO.yldG _ (Yld.move rfl) rfl rfl rfl rfl rfl ?_
          refine AO.yldG _ (Yld.int rfl rfl rfl) rfl rfl rfl rfl rfl ?_
          refine AO.yldG _ (Yld.move rfl) rfl rfl rfl rfl rfl ?_
          refine AO.splitAt 21 _ rfl (fun s21 => ?_) (fun s21 => ?_)
          · -- s21 True
            have hk0 : 0 < k := by simpa using s21
            obtain ⟨y, hy⟩ := get_some (xs := xs) (k := k - 1) (by omega)
            have hrow2 := map_row (enc := encMach) hy
            refine AO.yldG _ (Yld.move rfl) rfl rfl rfl rfl rfl ?_
            refine AO.yldG _ (Yld.move rfl) rfl rfl rfl rfl rfl ?_
            refine AO.yldG _ (Yld.sub rfl rfl (by omega) (by omega)) rfl rfl rfl rfl rfl ?_
            refine AO.yldG _ (Yld.indexSl Try.underlying91 Try.sizeOf41 rfl rfl hrow2 (by omega)) rfl rfl rfl rfl rfl ?_
            refine AO.yldG _ (Yld.fieldAddr Try.underlying41 rfl rfl Try.sizeOf9 rfl rfl rfl) rfl rfl rfl rfl rfl ?_
            refine AO.yldG _ (Yld.load Try.isAgg9 rfl rfl) rfl rfl rfl rfl rfl ?_
            refine AO.yldG _ (Yld.fieldAddr Try.underlying41 rfl rfl Try.sizeOf9 rfl rfl rfl) rfl rfl rfl rfl rfl ?_
            refine AO.yldG _ (Yld.load Try.isAgg9 rfl rfl) rfl rfl rfl rfl rfl ?_
            refine AO.yldG _ (Yld.cmpStr rfl rfl rfl) rfl rfl rfl rfl rfl ?_
            refine AO.yldG _ (Yld.pickT rfl rfl) rfl rfl rfl rfl rfl ?_
            refine AO.yld _ (Yld.pickF rfl rfl) rfl rfl rfl ?_
            refine AO.nil ?_
            refine AC.cond _ rfl (fun c32 => ?_) (fun c32 => ?_)
            · -- c32 True
              refine AC.seq ?_
              refine AC.region ?_
              refine AO.yld _ (Yld.assign rfl) rfl rfl rfl ?_
              refine AO.nil ?_
              refine Pure.ret Try.results60 (RVs.cons (RV.tmp rfl) RVs.nil) rfl ?_
              first
                | (exact cb (by unfold okMachines; rw [ok_one (one := okMachine) (ge := geMachine) hx (by simpa using s18)]; simp))
                | (exact cb (by unfold okMachines; rw [ok_ge (one := okMachine) (ge := geMachine) hx hk0 hy c32]; simp))
                | (exact cb (by rw [okMachines, ok_all hJ.2]; grind))
                | (exact cb (by unfold okMachines; grind))
                | (exact cb (by simp_all [okMachines]))
            · -- c32 False
              refine AC.skip ?_
              refine AC.mark ?_
              refine AC.region ?_
              refine AO.yld _ (Yld.add rfl rfl (by omega) (by omega)) rfl rfl rfl ?_
              refine AO.yld _ (Yld.move rfl) rfl rfl rfl ?_
              refine AO.nil ?_
              refine AC.back ⟨k + 1, ?_, ?_, ⟨?_, trivial⟩, trivial, ⟨rfl, rfl, rfl, trivial⟩, trivial⟩
              · exact ⟨hk, by first | exact ok_first hJ.2 hx (by simpa using s18) (by simp at s21; omega) | exact ok_next hJ.2 hx (by simpa using s18) hk0 hy c32⟩
              · omega
              · rfl
          · -- s21 False
            refine AO.skipT rfl rfl rfl rfl rfl ?_
            refine AO.skipT rfl rfl rfl rfl rfl ?_
            refine AO.skipT rfl rfl rfl rfl rfl ?_
            refine AO.skipT rfl rfl rfl rfl rfl ?_
            refine AO.skipT rfl rfl rfl rfl rfl ?_
            refine AO.skipT rfl rfl rfl rfl rfl ?_
            refine AO.skipT rfl rfl rfl rfl rfl ?_
            refine AO.skipT rfl rfl rfl rfl rfl ?_
            refine AO.skipT rfl rfl rfl rfl rfl ?_
            refine AO.yldG _ (Yld.pickF rfl rfl) rfl rfl rfl rfl rfl ?_
            refine AO.yld _ (Yld.pickF rfl rfl) rfl rfl rfl ?_
            refine AO.nil ?_
            refine AC.condF rfl ?_
            refine AC.skip ?_
            refine AC.mark ?_
            refine AC.region ?_
            refine AO.yld _ (Yld.add rfl rfl (by omega) (by omega)) rfl rfl rfl ?_
            refine AO.yld _ (Yld.move rfl) rfl rfl rfl ?_
            refine AO.nil ?_
            refine AC.back ⟨k + 1, ?_, ?_, ⟨?_, trivial⟩, trivial, ⟨rfl, rfl, rfl, trivial⟩, trivial⟩
            · exact ⟨hk, by first | exact ok_first hJ.2 hx (by simpa using s18) (by simp at s21; omega) | exact ok_next hJ.2 hx (by simpa using s18) hk0 hy c32⟩
            · omega
            · rfl
      · -- c11 False
        obtain rfl : k = xs.length := by have := ge_of_decM c11; omega
        refine AC.exit rfl ?_
        refine AC.seq ?_
        refine AC.region ?_
        refine AO.yld _ (Yld.assign rfl) rfl rfl rfl ?_
        refine AO.nil ?_
        refine Pure.ret Try.results60 (RVs.cons (RV.tmp rfl) RVs.nil) rfl ?_
        first
          | (exact cb (by unfold okMachines; rw [ok_one (one := okMachine) (ge := geMachine) hx (by simpa using s18)]; simp))
          | (exact cb (by unfold okMachines; rw [ok_ge (one := okMachine) (ge := geMachine) hx hk0 hy c32]; simp))
          | (exact cb (by rw [okMachines, ok_all hJ.2]; grind))
          | (exact cb (by unfold okMachines; grind))
          | (exact cb (by simp_all [okMachines]))

theorem spec_l25One_c {x : NV} (hs : x.name.length ≤ 1048576) :
    Pure Try.prog 118 [.ptr (encNV x)] (.v (.bool (okMedia x))) := by
  refine Pure.intro Try.func118 rfl Try.ntmps118 rfl rfl (fun w => ?_)
  refine AC.seq ?_
  refine AC.region ?_
  refine AO.yld _ (Yld.assign rfl) rfl rfl rfl ?_
  refine AO.nil ?_
  refine AC.seq ?_
  refine AC.region ?_
  refine AO.yld _ (Yld.move rfl) rfl rfl rfl ?_
  refine AO.yld _ (Yld.nilCheck rfl rfl) rfl rfl rfl ?_
  refine AO.yld _ (Yld.fieldAddr Try.underlying71 rfl rfl Try.sizeOf9 rfl rfl rfl) rfl rfl rfl ?_
  refine AO.yld _ (Yld.load Try.isAgg9 rfl rfl) rfl rfl rfl ?_
  refine AO.yld _ (Yld.call rfl rfl Try.call112 rfl rfl rfl (spec_l01Name_c (by first | assumption | omega)) rfl) rfl rfl rfl ?_
  refine AO.yld _ (Yld.move rfl) rfl rfl rfl ?_
  refine AO.splitAt 8 _ rfl (fun s8 => ?_) (fun s8 => ?_)
  · -- s8 True
    refine AO.yldG _ (Yld.move rfl) rfl rfl rfl rfl rfl ?_
    refine AO.yldG _ (Yld.nilCheck rfl rfl) rfl rfl rfl rfl rfl ?_
    refine AO.yldG _ (Yld.fieldAddr Try.underlying71 rfl rfl Try.sizeOf2 rfl rfl rfl) rfl rfl rfl rfl rfl ?_
    refine AO.yldG _ (Yld.load Try.isAgg2 rfl rfl) rfl rfl rfl rfl rfl ?_
    refine AO.yldG _ (Yld.call rfl rfl Try.call107 rfl rfl rfl (spec_l00In_c) rfl) rfl rfl rfl rfl rfl ?_
    refine AO.yld _ (Yld.pickT rfl rfl) rfl rfl rfl ?_
    refine AO.yld _ (Yld.assign rfl) rfl rfl rfl ?_
    refine AO.nil ?_
    refine Pure.ret Try.results118 (RVs.cons (RV.tmp rfl) RVs.nil) rfl ?_
    first | rfl | (simp_all [okMedia]; done) | (simp_all [okMedia]; intros; omega) | grind [okMedia]
  · -- s8 False
    refine AO.skipT rfl rfl rfl rfl rfl ?_
    refine AO.skipT rfl rfl rfl rfl rfl ?_
    refine AO.skipT rfl rfl rfl rfl rfl ?_
    refine AO.skipT rfl rfl rfl rfl rfl ?_
    refine AO.skipT rfl rfl rfl rfl rfl ?_
    refine AO.yld _ (Yld.pickF rfl rfl) rfl rfl rfl ?_
    refine AO.yld _ (Yld.assign rfl) rfl rfl rfl ?_
    refine AO.nil ?_
    refine Pure.ret Try.results118 (RVs.cons (RV.tmp rfl) RVs.nil) rfl ?_
    first | rfl | (simp_all [okMedia]; done) | (simp_all [okMedia]; intros; omega) | grind [okMedia]

theorem impl_validFile_c {x : NV} (hs : x.name.length ≤ 1048576) :
    Pure Try.prog 99 [.agg (encNV x)] (.v (.bool (okMedia x))) := by
  refine Pure.intro Try.func99 rfl Try.ntmps99 rfl rfl (fun w => ?_)
  refine AC.seq ?_
  refine AC.region ?_
  refine AO.box 0 rfl rfl rfl rfl rfl ?_
  refine AO.yld _ (Yld.assign rfl) rfl rfl rfl ?_
  refine AO.nil ?_
  refine AC.seq ?_
  refine AC.region ?_
  refine AO.yld _ (Yld.fieldAddr Try.underlying71 rfl rfl Try.sizeOf9 rfl rfl rfl) rfl rfl rfl ?_
  refine AO.yld _ (Yld.load Try.isAgg9 rfl rfl) rfl rfl rfl ?_
  refine AO.yld _ (Yld.call rfl rfl Try.call113 rfl rfl rfl (impl_IsName_c (by first | assumption | omega)) rfl) rfl rfl rfl ?_
  refine AO.yld _ (Yld.move rfl) rfl rfl rfl ?_
  refine AO.splitAt 6 _ rfl (fun s6 => ?_) (fun s6 => ?_)
  · -- s6 True
    refine AO.yldG _ (Yld.fieldAddr Try.underlying71 rfl rfl Try.sizeOf2 rfl rfl rfl) rfl rfl rfl rfl rfl ?_
    refine AO.yldG _ (Yld.load Try.isAgg2 rfl rfl) rfl rfl rfl rfl rfl ?_
    refine AO.yldG _ (Yld.call rfl rfl Try.call65 rfl rfl rfl (impl_within_c) rfl) rfl rfl rfl rfl rfl ?_
    refine AO.yld _ (Yld.pickT rfl rfl) rfl rfl rfl ?_
    refine AO.yld _ (Yld.assign rfl) rfl rfl rfl ?_
    refine AO.nil ?_
    refine Pure.ret Try.results99 (RVs.cons (RV.tmp rfl) RVs.nil) rfl ?_
    first | rfl | (simp_all [okMedia]; done) | (simp_all [okMedia]; intros; omega) | grind [okMedia]
  · -- s6 False
    refine AO.skipT rfl rfl rfl rfl rfl ?_
    refine AO.skipT rfl rfl rfl rfl rfl ?_
    refine AO.skipT rfl rfl rfl rfl rfl ?_
    refine AO.yld _ (Yld.pickF rfl rfl) rfl rfl rfl ?_
    refine AO.yld _ (Yld.assign rfl) rfl rfl rfl ?_
    refine AO.nil ?_
    refine Pure.ret Try.results99 (RVs.cons (RV.tmp rfl) RVs.nil) rfl ?_
    first | rfl | (simp_all [okMedia]; done) | (simp_all [okMedia]; intros; omega) | grind [okMedia]

theorem spec_l27Setting_c {x : NV} (hs : x.name.length ≤ 1048576) :
    Pure Try.prog 119 [.ptr (encNV x)] (.v (.bool (okSetting x))) := by
  refine Pure.intro Try.func119 rfl Try.ntmps119 rfl rfl (fun w => ?_)
  refine AC.seq ?_
  refine AC.region ?_
  refine AO.yld _ (Yld.assign rfl) rfl rfl rfl ?_
  refine AO.nil ?_
  refine AC.seq ?_
  refine AC.region ?_
  refine AO.yld _ (Yld.move rfl) rfl rfl rfl ?_
  refine AO.yld _ (Yld.nilCheck rfl rfl) rfl rfl rfl ?_
  refine AO.yld _ (Yld.fieldAddr Try.underlying117 rfl rfl Try.sizeOf9 rfl rfl rfl) rfl rfl rfl ?_
  refine AO.yld _ (Yld.load Try.isAgg9 rfl rfl) rfl rfl rfl ?_
  refine AO.yld _ (Yld.call rfl rfl Try.call112 rfl rfl rfl (spec_l01Name_c (by first | assumption | omega)) rfl) rfl rfl rfl ?_
  refine AO.yld _ (Yld.move rfl) rfl rfl rfl ?_
  refine AO.splitAt 8 _ rfl (fun s8 => ?_) (fun s8 => ?_)
  · -- s8 True
    refine AO.yldG _ (Yld.move rfl) rfl rfl rfl rfl rfl ?_
    refine AO.yldG _ (Yld.nilCheck rfl rfl) rfl rfl rfl rfl rfl ?_
    refine AO.yldG _ (Yld.fieldAddr Try.underlying117 rfl rfl Try.sizeOf2 rfl rfl rfl) rfl rfl rfl rfl rfl ?_
    refine AO.yldG _ (Yld.load Try.isAgg2 rfl rfl) rfl rfl rfl rfl rfl ?_
    refine AO.yldG _ (Yld.call rfl rfl Try.call107 rfl rfl rfl (spec_l00In_c) rfl) rfl rfl rfl rfl rfl ?_
    refine AO.yld _ (Yld.pickT rfl rfl) rfl rfl rfl ?_
    refine AO.yld _ (Yld.assign rfl) rfl rfl rfl ?_
    refine AO.nil ?_
    refine Pure.ret Try.results119 (RVs.cons (RV.tmp rfl) RVs.nil) rfl ?_
    first | rfl | (simp_all [okSetting]; done) | (simp_all [okSetting]; intros; omega) | grind [okSetting]
  · -- s8 False
    refine AO.skipT rfl rfl rfl rfl rfl ?_
    refine AO.skipT rfl rfl rfl rfl rfl ?_
    refine AO.skipT rfl rfl rfl rfl rfl ?_
    refine AO.skipT rfl rfl rfl rfl rfl ?_
    refine AO.skipT rfl rfl rfl rfl rfl ?_
    refine AO.yld _ (Yld.pickF rfl rfl) rfl rfl rfl ?_
    refine AO.yld _ (Yld.assign rfl) rfl rfl rfl ?_
    refine AO.nil ?_
    refine Pure.ret Try.results119 (RVs.cons (RV.tmp rfl) RVs.nil) rfl ?_
    first | rfl | (simp_all [okSetting]; done) | (simp_all [okSetting]; intros; omega) | grind [okSetting]

theorem impl_validSetting_c {x : NV} (hs : x.name.length ≤ 1048576) :
    Pure Try.prog 102 [.agg (encNV x)] (.v (.bool (okSetting x))) := by
  refine Pure.intro Try.func102 rfl Try.ntmps102 rfl rfl (fun w => ?_)
  refine AC.seq ?_
  refine AC.region ?_
  refine AO.box 0 rfl rfl rfl rfl rfl ?_
  refine AO.yld _ (Yld.assign rfl) rfl rfl rfl ?_
  refine AO.nil ?_
  refine AC.seq ?_
  refine AC.region ?_
  refine AO.yld _ (Yld.fieldAddr Try.underlying117 rfl rfl Try.sizeOf9 rfl rfl rfl) rfl rfl rfl ?_
  refine AO.yld _ (Yld.load Try.isAgg9 rfl rfl) rfl rfl rfl ?_
  refine AO.yld _ (Yld.call rfl rfl Try.call113 rfl rfl rfl (impl_IsName_c (by first | assumption | omega)) rfl) rfl rfl rfl ?_
  refine AO.yld _ (Yld.move rfl) rfl rfl rfl ?_
  refine AO.splitAt 6 _ rfl (fun s6 => ?_) (fun s6 => ?_)
  · -- s6 True
    refine AO.yldG _ (Yld.fieldAddr Try.underlying117 rfl rfl Try.sizeOf2 rfl rfl rfl) rfl rfl rfl rfl rfl ?_
    refine AO.yldG _ (Yld.load Try.isAgg2 rfl rfl) rfl rfl rfl rfl rfl ?_
    refine AO.yldG _ (Yld.call rfl rfl Try.call65 rfl rfl rfl (impl_within_c) rfl) rfl rfl rfl rfl rfl ?_
    refine AO.yld _ (Yld.pickT rfl rfl) rfl rfl rfl ?_
    refine AO.yld _ (Yld.assign rfl) rfl rfl rfl ?_
    refine AO.nil ?_
    refine Pure.ret Try.results102 (RVs.cons (RV.tmp rfl) RVs.nil) rfl ?_
    first | rfl | (simp_all [okSetting]; done) | (simp_all [okSetting]; intros; omega) | grind [okSetting]
  · -- s6 False
    refine AO.skipT rfl rfl rfl rfl rfl ?_
    refine AO.skipT rfl rfl rfl rfl rfl ?_
    refine AO.skipT rfl rfl rfl rfl rfl ?_
    refine AO.yld _ (Yld.pickF rfl rfl) rfl rfl rfl ?_
    refine AO.yld _ (Yld.assign rfl) rfl rfl rfl ?_
    refine AO.nil ?_
    refine Pure.ret Try.results102 (RVs.cons (RV.tmp rfl) RVs.nil) rfl ?_
    first | rfl | (simp_all [okSetting]; done) | (simp_all [okSetting]; intros; omega) | grind [okSetting]

theorem spec_l25Ok_c {xs : List NV} (hn : xs.length ≤ 1048576) (hs : ∀ x ∈ xs, x.name.length ≤ 1048576) :
    Pure Try.prog 97 [.sl 2 (xs.map encNV)] (.v (.bool (okMedias xs))) := by
  refine Pure.intro Try.func97 rfl Try.ntmps97 rfl rfl (fun w => ?_)
  refine AC.seq ?_
  refine AC.region ?_
  refine AO.yld _ (Yld.assign rfl) rfl rfl rfl ?_
  refine AO.nil ?_
  refine AC.seq ?_
  refine AC.seq ?_
  refine AC.region ?_
  refine AO.yld _ (Yld.assign rfl) rfl rfl rfl ?_
  refine AO.nil ?_
  refine AC.block ?_
  refine AC.loopC [(0, _)] [] (fun (k : Nat) => [(3, .p (.v (.int .i64 (k : Int))))]) (fun (k : Nat) => []) (fun (k : Nat) => k ≤ xs.length ∧ okTo okMedia geNV xs k = true) (fun (k : Nat) => xs.length - k) 0 ⟨rfl, trivial⟩ trivial ⟨rfl, trivial⟩ trivial ?_ (fun k hJ => ?_)
  · exact ⟨Nat.zero_le _, rfl⟩
  · -- round
    refine AC.seq ?_
    refine AC.seq ?_
    refine AC.region ?_
    refine AO.yld _ (Yld.move rfl) rfl rfl rfl ?_
    refine AO.yld _ (Yld.move rfl) rfl rfl rfl ?_
    refine AO.yld _ (Yld.len Try.underlying66 rfl rfl) rfl rfl rfl ?_
    refine AO.yld _ (Yld.int rfl rfl rfl) rfl rfl rfl ?_
    refine AO.nil ?_
    refine AC.cond _ rfl (fun c7 => ?_) (fun c7 => ?_)
    · -- c7 True
      have hk := lt_of_decM c7
      obtain ⟨x, hx⟩ := get_some hk
      have hrow := map_row (enc := encNV) hx
      have hsx := hs x (List.mem_of_getElem? hx)
      refine AC.skip ?_
      refine AC.seq ?_
      refine AC.block ?_
      refine AC.seq ?_
      refine AC.draw (by kernel_rfl) (by kernel_rfl) ?_
      refine AO.yld _ (Yld.move rfl) rfl rfl rfl ?_
      refine AO.yld _ (Yld.move rfl) rfl rfl rfl ?_
      refine AO.yld _ (Yld.indexSl Try.underlying66 Try.sizeOf71 rfl rfl hrow rfl) rfl rfl rfl ?_
      refine AO.yld _ (Yld.call rfl rfl Try.call118 rfl rfl rfl (spec_l25One_c (by first | assumption | omega)) rfl) rfl rfl rfl ?_
      refine AO.yld _ (Yld.not rfl) rfl rfl rfl ?_
      refine AO.yld _ (Yld.move rfl) rfl rfl rfl ?_
      refine AO.splitAt 15 _ rfl (fun s15 => ?_) (fun s15 => ?_)
      · -- s15 True
        refine AO.skipF rfl rfl rfl rfl rfl ?_
        refine AO.skipF rfl rfl rfl rfl rfl ?_
        refine AO.skipF rfl rfl rfl rfl rfl ?_
        refine AO.skipU rfl rfl rfl rfl rfl ?_
        refine AO.skipU rfl rfl rfl rfl rfl ?_
        refine AO.skipU rfl rfl rfl rfl rfl ?_
        refine AO.skipU rfl rfl rfl rfl rfl ?_
        refine AO.skipU rfl rfl rfl rfl rfl ?_
        refine AO.skipU rfl rfl rfl rfl rfl ?_
        refine AO.skipU rfl rfl rfl rfl rfl ?_
        refine AO.skipU rfl rfl rfl rfl rfl ?_
        refine AO.skipU rfl rfl rfl rfl rfl ?_
        refine AO.skipU rfl rfl rfl rfl rfl ?_
        refine AO.skipU rfl rfl rfl rfl rfl ?_
        refine AO.skipU rfl rfl rfl rfl rfl ?_
        refine AO.skipF rfl rfl rfl rfl rfl ?_
        refine AO.yld _ (Yld.pickT rfl rfl) rfl rfl rfl ?_
        refine AO.nil ?_
        refine AC.condT rfl ?_
        refine AC.seq ?_
        refine AC.region ?_
        refine AO.yld _ (Yld.assign rfl) rfl rfl rfl ?_
        refine AO.nil ?_
        refine Pure.ret Try.results97 (RVs.cons (RV.tmp rfl) RVs.nil) rfl ?_
        first
          | (exact cb (by unfold okMedias; rw [ok_one (one := okMedia) (ge := geNV) hx (by simpa using s15)]; simp))
          | (exact cb (by unfold okMedias; rw [ok_ge (one := okMedia) (ge := geNV) hx hk0 hy c32]; simp))
          | (exact cb (by rw [okMedias, ok_all hJ.2]; grind))
          | (exact cb (by unfold okMedias; grind))
          | (exact cb (by simp_all [okMedias]))
      · -- s15 False
        refine AO.yldG _ (Yld.move rfl) rfl rfl rfl rfl rfl ?_
        refine AO.yldG _ (Yld.int rfl rfl rfl) rfl rfl rfl rfl rfl ?_
        refine AO.yldG _ (Yld.move rfl) rfl rfl rfl rfl rfl ?_
        refine AO.splitAt 18 _ rfl (fun s18 => ?_) (fun s18 => ?_)
        · -- s18 True
          have hk0 : 0 < k := by simpa using s18
          obtain ⟨y, hy⟩ := get_some (xs := xs) (k := k - 1) (by omega)
          have hrow2 := map_row (enc := encNV) hy
          refine AO.yldG _ (Yld.move rfl) rfl rfl rfl rfl rfl ?_
          refine AO.yldG _ (Yld.move rfl) rfl rfl rfl rfl rfl ?_
          refine AO.yldG _ (Yld.sub rfl rfl (by omega) (by omega)) rfl rfl rfl rfl rfl ?_
          refine AO.yldG _ (Yld.indexSl Try.underlying66 Try.sizeOf71 rfl rfl hrow2 (by omega)) rfl rfl rfl rfl rfl ?_
          refine AO.yldG _ (Yld.fieldAddr Try.underlying71 rfl rfl Try.sizeOf9 rfl rfl rfl) rfl rfl rfl rfl rfl ?_
          refine AO.yldG _ (Yld.load Try.isAgg9 rfl rfl) rfl rfl rfl rfl rfl ?_
          refine AO.yldG _ (Yld.move rfl) rfl rfl rfl rfl rfl ?_
          refine AO.yldG _ (Yld.move rfl) rfl rfl rfl rfl rfl ?_
          refine AO.yldG _ (Yld.indexSl Try.underlying66 Try.sizeOf71 rfl rfl hrow rfl) rfl rfl rfl rfl rfl ?_
          refine AO.yldG _ (Yld.fieldAddr Try.underlying71 rfl rfl Try.sizeOf9 rfl rfl rfl) rfl rfl rfl rfl rfl ?_
          refine AO.yldG _ (Yld.load Try.isAgg9 rfl rfl) rfl rfl rfl rfl rfl ?_
          refine AO.yldG _ (Yld.cmpStr rfl rfl rfl) rfl rfl rfl rfl rfl ?_
          refine AO.yldG _ (Yld.pickT rfl rfl) rfl rfl rfl rfl rfl ?_
          refine AO.yld _ (Yld.pickF rfl rfl) rfl rfl rfl ?_
          refine AO.nil ?_
          refine AC.cond _ rfl (fun c32 => ?_) (fun c32 => ?_)
          · -- c32 True
            refine AC.seq ?_
            refine AC.region ?_
            refine AO.yld _ (Yld.assign rfl) rfl rfl rfl ?_
            refine AO.nil ?_
            refine Pure.ret Try.results97 (RVs.cons (RV.tmp rfl) RVs.nil) rfl ?_
            first
              | (exact cb (by unfold okMedias; rw [ok_one (one := okMedia) (ge := geNV) hx (by simpa using s15)]; simp))
              | (exact cb (by unfold okMedias; rw [ok_ge (one := okMedia) (ge := geNV) hx hk0 hy c32]; simp))
              | (exact cb (by rw [okMedias, ok_all hJ.2]; grind))
              | (exact cb (by unfold okMedias; grind))
              | (exact cb (by simp_all [okMedias]))
          · -- c32 False
            refine AC.skip ?_
            refine AC.mark ?_
            refine AC.region ?_
            refine AO.yld _ (Yld.move rfl) rfl rfl rfl ?_
            refine AO.yld _ (Yld.add rfl rfl (by omega) (by omega)) rfl rfl rfl ?_
            refine AO.yld _ (Yld.assign rfl) rfl rfl rfl ?_
            refine AO.nil ?_
            refine AC.back ⟨k + 1, ?_, ?_, ⟨?_, trivial⟩, trivial, ⟨rfl, trivial⟩, trivial⟩
            · exact ⟨hk, by first | exact ok_first hJ.2 hx (by simpa using s15) (by simp at s18; omega) | exact ok_next hJ.2 hx (by simpa using s15) hk0 hy c32⟩
            · omega
            · rfl
        · -- s18 False
          refine AO.skipT rfl rfl rfl rfl rfl ?_
          refine AO.skipT rfl rfl rfl rfl rfl ?_
          refine AO.skipT rfl rfl rfl rfl rfl ?_
          refine AO.skipT rfl rfl rfl rfl rfl ?_
          refine AO.skipT rfl rfl rfl rfl rfl ?_
          refine AO.skipT rfl rfl rfl rfl rfl ?_
          refine AO.skipT rfl rfl rfl rfl rfl ?_
          refine AO.skipT rfl rfl rfl rfl rfl ?_
          refine AO.skipT rfl rfl rfl rfl rfl ?_
          refine AO.skipT rfl rfl rfl rfl rfl ?_
          refine AO.skipT rfl rfl rfl rfl rfl ?_
          refine AO.skipT rfl rfl rfl rfl rfl ?_
          refine AO.yldG _ (Yld.pickF rfl rfl) rfl rfl rfl rfl rfl ?_
          refine AO.yld _ (Yld.pickF rfl rfl) rfl rfl rfl ?_
          refine AO.nil ?_
          refine AC.condF rfl ?_
          refine AC.skip ?_
          refine AC.mark ?_
          refine AC.region ?_
          refine AO.yld _ (Yld.move rfl) rfl rfl rfl ?_
          refine AO.yld _ (Yld.add rfl rfl (by omega) (by omega)) rfl rfl rfl ?_
          refine AO.yld _ (Yld.assign rfl) rfl rfl rfl ?_
          refine AO.nil ?_
          refine AC.back ⟨k + 1, ?_, ?_, ⟨?_, trivial⟩, trivial, ⟨rfl, trivial⟩, trivial⟩
          · exact ⟨hk, by first | exact ok_first hJ.2 hx (by simpa using s15) (by simp at s18; omega) | exact ok_next hJ.2 hx (by simpa using s15) hk0 hy c32⟩
          · omega
          · rfl
    · -- c7 False
      obtain rfl : k = xs.length := by have := ge_of_decM c7; omega
      refine AC.exit rfl ?_
      refine AC.seq ?_
      refine AC.region ?_
      refine AO.yld _ (Yld.move rfl) rfl rfl rfl ?_
      refine AO.yld _ (Yld.len Try.underlying66 rfl rfl) rfl rfl rfl ?_
      refine AO.yld _ (Yld.int rfl rfl rfl) rfl rfl rfl ?_
      refine AO.yld _ (Yld.assign rfl) rfl rfl rfl ?_
      refine AO.nil ?_
      refine Pure.ret Try.results97 (RVs.cons (RV.tmp rfl) RVs.nil) rfl ?_
      first
        | (exact cb (by unfold okMedias; rw [ok_one (one := okMedia) (ge := geNV) hx (by simpa using s15)]; simp))
        | (exact cb (by unfold okMedias; rw [ok_ge (one := okMedia) (ge := geNV) hx hk0 hy c32]; simp))
        | (exact cb (by rw [okMedias, ok_all hJ.2]; grind))
        | (exact cb (by unfold okMedias; grind))
        | (exact cb (by simp_all [okMedias]))

theorem impl_ValidMedia_c {xs : List NV} (hn : xs.length ≤ 1048576) (hs : ∀ x ∈ xs, x.name.length ≤ 1048576) :
    Pure Try.prog 53 [.sl 2 (xs.map encNV)] (.v (.bool (okMedias xs))) := by
  refine Pure.intro Try.func53 rfl Try.ntmps53 rfl rfl (fun w => ?_)
  refine AC.seq ?_
  refine AC.region ?_
  refine AO.yld _ (Yld.assign rfl) rfl rfl rfl ?_
  refine AO.nil ?_
  refine AC.seq ?_
  refine AC.seq ?_
  refine AC.region ?_
  refine AO.yld _ (Yld.move rfl) rfl rfl rfl ?_
  refine AO.yld _ (Yld.len Try.underlying66 rfl rfl) rfl rfl rfl ?_
  refine AO.yld _ (Yld.int rfl rfl rfl) rfl rfl rfl ?_
  refine AO.nil ?_
  refine AC.cond _ rfl (fun c7 => ?_) (fun c7 => ?_)
  · -- c7 True
    refine AC.seq ?_
    refine AC.region ?_
    refine AO.yld _ (Yld.assign rfl) rfl rfl rfl ?_
    refine AO.nil ?_
    refine Pure.ret Try.results53 (RVs.cons (RV.tmp rfl) RVs.nil) rfl ?_
    first
      | (exact cb (by unfold okMedias; rw [ok_one (one := okMedia) (ge := geNV) hx (by simpa using s18)]; simp))
      | (exact cb (by unfold okMedias; rw [ok_ge (one := okMedia) (ge := geNV) hx hk0 hy c32]; simp))
      | (exact cb (by rw [okMedias, ok_all hJ.2]; grind))
      | (exact cb (by unfold okMedias; grind))
      | (exact cb (by simp_all [okMedias]))
  · -- c7 False
    refine AC.skip ?_
    refine AC.seq ?_
    refine AC.seq ?_
    refine AC.region ?_
    refine AO.yld _ (Yld.move rfl) rfl rfl rfl ?_
    refine AO.yld _ (Yld.len Try.underlying66 rfl rfl) rfl rfl rfl ?_
    refine AO.yld _ (Yld.move rfl) rfl rfl rfl ?_
    refine AO.nil ?_
    refine AC.block ?_
    refine AC.loopC [(0, _), (8, _), (9, _)] [] (fun (k : Nat) => [(10, .p (.v (.int .i64 (k : Int))))]) (fun (k : Nat) => []) (fun (k : Nat) => k ≤ xs.length ∧ okTo okMedia geNV xs k = true) (fun (k : Nat) => xs.length - k) 0 ⟨rfl, rfl, rfl, trivial⟩ trivial ⟨rfl, trivial⟩ trivial ?_ (fun k hJ => ?_)
    · exact ⟨Nat.zero_le _, rfl⟩
    · -- round
      refine AC.seq ?_
      refine AC.region ?_
      refine AO.yld _ (Yld.int rfl rfl rfl) rfl rfl rfl ?_
      refine AO.nil ?_
      refine AC.seq ?_
      refine AC.cond _ rfl (fun c11 => ?_) (fun c11 => ?_)
      · -- c11 True
        have hk := lt_of_decM c11
        obtain ⟨x, hx⟩ := get_some hk
        have hrow := map_row (enc := encNV) hx
        have hsx := hs x (List.mem_of_getElem? hx)
        refine AC.skip ?_
        refine AC.seq ?_
        refine AC.block ?_
        refine AC.seq ?_
        refine AC.region ?_
        refine AO.yld _ (Yld.move rfl) rfl rfl rfl ?_
        refine AO.yld _ (Yld.indexSl Try.underlying66 Try.sizeOf71 rfl rfl hrow rfl) rfl rfl rfl ?_
        refine AO.yld _ (Yld.loadAgg Try.isAgg71 Try.sizeOf71 rfl rfl rfl rfl) rfl rfl rfl ?_
        refine AO.alloc 0 Try.zeroValue71 rfl rfl rfl ?_
        refine AO.yld _ (Yld.assign rfl) rfl rfl rfl ?_
        refine AO.store Try.sizeOf71 rfl rfl rfl rfl rfl rfl ?_
        refine AO.nil ?_
        refine AC.seq ?_
        refine AC.draw (by kernel_rfl) (by kernel_rfl) ?_
        refine AO.yld _ (Yld.loadAgg Try.isAgg71 Try.sizeOf71 rfl rfl rfl rfl) rfl rfl rfl ?_
        refine AO.yld _ (Yld.call rfl rfl Try.call99 rfl rfl rfl (impl_validFile_c (by first | assumption | omega)) rfl) rfl rfl rfl ?_
        refine AO.yld _ (Yld.not rfl) rfl rfl rfl ?_
        refine AO.yld _ (Yld.move rfl) rfl rfl rfl ?_
        refine AO.splitAt 18 _ rfl (fun s18 => ?_) (fun s18 => ?_)
        · -- s18 True
          refine AO.skipF rfl rfl rfl rfl rfl ?_
          refine AO.skipF rfl rfl rfl rfl rfl ?_
          refine AO.skipF rfl rfl rfl rfl rfl ?_
          refine AO.skipU rfl rfl rfl rfl rfl ?_
          refine AO.skipU rfl rfl rfl rfl rfl ?_
          refine AO.skipU rfl rfl rfl rfl rfl ?_
          refine AO.skipU rfl rfl rfl rfl rfl ?_
          refine AO.skipU rfl rfl rfl rfl rfl ?_
          refine AO.skipU rfl rfl rfl rfl rfl ?_
          refine AO.skipU rfl rfl rfl rfl rfl ?_
          refine AO.skipU rfl rfl rfl rfl rfl ?_
          refine AO.skipU rfl rfl rfl rfl rfl ?_
          refine AO.skipF rfl rfl rfl rfl rfl ?_
          refine AO.yld _ (Yld.pickT rfl rfl) rfl rfl rfl ?_
          refine AO.nil ?_
          refine AC.condT rfl ?_
          refine AC.seq ?_
          refine AC.region ?_
          refine AO.yld _ (Yld.assign rfl) rfl rfl rfl ?_
          refine AO.nil ?_
          refine Pure.ret Try.results53 (RVs.cons (RV.tmp rfl) RVs.nil) rfl ?_
          first
            | (exact cb (by unfold okMedias; rw [ok_one (one := okMedia) (ge := geNV) hx (by simpa using s18)]; simp))
            | (exact cb (by unfold okMedias; rw [ok_ge (one := okMedia) (ge := geNV) hx hk0 hy c32]; simp))
            | (exact cb (by rw [okMedias, ok_all hJ.2]; grind))
            | (exact cb (by unfold okMedias; grind))
            | (exact cb (by simp_all [okMedias]))
        · -- s18 False
          refine AO.yldG _ (Yld.move rfl) rfl rfl rfl rfl rfl ?_
          refine AO.yldG _ (Yld.int rfl rfl rfl) rfl rfl rfl rfl rfl ?_
          refine AO.yldG _ (Yld.move rfl) rfl rfl rfl rfl rfl ?_
          refine AO.splitAt 21 _ rfl (fun s21 => ?_) (fun s21 => ?_)
          · -- s21 True
            have hk0 : 0 < k := by simpa using s21
            obtain ⟨y, hy⟩ := get_some (xs := xs) (k := k - 1) (by omega)
            have hrow2 := map_row (enc := encNV) hy
            refine AO.yldG _ (Yld.move rfl) rfl rfl rfl rfl rfl ?_
            refine AO.yldG _ (Yld.move rfl) rfl rfl rfl rfl rfl ?_
            refine AO.yldG _ (Yld.sub rfl rfl (by omega) (by omega)) rfl rfl rfl rfl rfl ?_
            refine AO.yldG _ (Yld.indexSl Try.underlying66 Try.sizeOf71 rfl rfl hrow2 (by omega)) rfl rfl rfl rfl rfl ?_
            refine AO.yldG _ (Yld.fieldAddr Try.underlying71 rfl rfl Try.sizeOf9 rfl rfl rfl) rfl rfl rfl rfl rfl ?_
            refine AO.yldG _ (Yld.load Try.isAgg9 rfl rfl) rfl rfl rfl rfl rfl ?_
            refine AO.yldG _ (Yld.fieldAddr Try.underlying71 rfl rfl Try.sizeOf9 rfl rfl rfl) rfl rfl rfl rfl rfl ?_
            refine AO.yldG _ (Yld.load Try.isAgg9 rfl rfl) rfl rfl rfl rfl rfl ?_
            refine AO.yldG _ (Yld.cmpStr rfl rfl rfl) rfl rfl rfl rfl rfl ?_
            refine AO.yldG _ (Yld.pickT rfl rfl) rfl rfl rfl rfl rfl ?_
            refine AO.yld _ (Yld.pickF rfl rfl) rfl rfl rfl ?_
            refine AO.nil ?_
            refine AC.cond _ rfl (fun c32 => ?_) (fun c32 => ?_)
            · -- c32 True
              refine AC.seq ?_
              refine AC.region ?_
              refine AO.yld _ (Yld.assign rfl) rfl rfl rfl ?_
              refine AO.nil ?_
              refine Pure.ret Try.results53 (RVs.cons (RV.tmp rfl) RVs.nil) rfl ?_
              first
                | (exact cb (by unfold okMedias; rw [ok_one (one := okMedia) (ge := geNV) hx (by simpa using s18)]; simp))
                | (exact cb (by unfold okMedias; rw [ok_ge (one := okMedia) (ge := geNV) hx hk0 hy c32]; simp))
                | (exact cb (by rw [okMedias, ok_all hJ.2]; grind))
                | (exact cb (by unfold okMedias; grind))
                | (exact cb (by simp_all [okMedias]))
            · -- c32 False
              refine AC.skip ?_
              refine AC.mark ?_
              refine AC.region ?_
              refine AO.yld _ (Yld.add rfl rfl (by omega) (by omega)) rfl rfl rfl ?_
              refine AO.yld _ (Yld.move rfl) rfl rfl rfl ?_
              refine AO.nil ?_
              refine AC.back ⟨k + 1, ?_, ?_, ⟨?_, trivial⟩, trivial, ⟨rfl, rfl, rfl, trivial⟩, trivial⟩
              · exact ⟨hk, by first | exact ok_first hJ.2 hx (by simpa using s18) (by simp at s21; omega) | exact ok_next hJ.2 hx (by simpa using s18) hk0 hy c32⟩
              · omega
              · rfl
          · -- s21 False
            refine AO.skipT rfl rfl rfl rfl rfl ?_
            refine AO.skipT rfl rfl rfl rfl rfl ?_
            refine AO.skipT rfl rfl rfl rfl rfl ?_
            refine AO.skipT rfl rfl rfl rfl rfl ?_
            refine AO.skipT rfl rfl rfl rfl rfl ?_
            refine AO.skipT rfl rfl rfl rfl rfl ?_
            refine AO.skipT rfl rfl rfl rfl rfl ?_
            refine AO.skipT rfl rfl rfl rfl rfl ?_
            refine AO.skipT rfl rfl rfl rfl rfl ?_
            refine AO.yldG _ (Yld.pickF rfl rfl) rfl rfl rfl rfl rfl ?_
            refine AO.yld _ (Yld.pickF rfl rfl) rfl rfl rfl ?_
            refine AO.nil ?_
            refine AC.condF rfl ?_
            refine AC.skip ?_
            refine AC.mark ?_
            refine AC.region ?_
            refine AO.yld _ (Yld.add rfl rfl (by omega) (by omega)) rfl rfl rfl ?_
            refine AO.yld _ (Yld.move rfl) rfl rfl rfl ?_
            refine AO.nil ?_
            refine AC.back ⟨k + 1, ?_, ?_, ⟨?_, trivial⟩, trivial, ⟨rfl, rfl, rfl, trivial⟩, trivial⟩
            · exact ⟨hk, by first | exact ok_first hJ.2 hx (by simpa using s18) (by simp at s21; omega) | exact ok_next hJ.2 hx (by simpa using s18) hk0 hy c32⟩
            · omega
            · rfl
      · -- c11 False
        obtain rfl : k = xs.length := by have := ge_of_decM c11; omega
        refine AC.exit rfl ?_
        refine AC.seq ?_
        refine AC.region ?_
        refine AO.yld _ (Yld.assign rfl) rfl rfl rfl ?_
        refine AO.nil ?_
        refine Pure.ret Try.results53 (RVs.cons (RV.tmp rfl) RVs.nil) rfl ?_
        first
          | (exact cb (by unfold okMedias; rw [ok_one (one := okMedia) (ge := geNV) hx (by simpa using s18)]; simp))
          | (exact cb (by unfold okMedias; rw [ok_ge (one := okMedia) (ge := geNV) hx hk0 hy c32]; simp))
          | (exact cb (by rw [okMedias, ok_all hJ.2]; grind))
          | (exact cb (by unfold okMedias; grind))
          | (exact cb (by simp_all [okMedias]))

theorem spec_l27State_c {xs : List NV} (hn : xs.length ≤ 1048576) (hs : ∀ x ∈ xs, x.name.length ≤ 1048576) :
    Pure Try.prog 101 [.sl 2 (xs.map encNV)] (.v (.bool (okState xs))) := by
  refine Pure.intro Try.func101 rfl Try.ntmps101 rfl rfl (fun w => ?_)
  refine AC.seq ?_
  refine AC.region ?_
  refine AO.yld _ (Yld.assign rfl) rfl rfl rfl ?_
  refine AO.nil ?_
  refine AC.seq ?_
  refine AC.seq ?_
  refine AC.region ?_
  refine AO.yld _ (Yld.assign rfl) rfl rfl rfl ?_
  refine AO.nil ?_
  refine AC.block ?_
  refine AC.loopC [(0, _)] [] (fun (k : Nat) => [(3, .p (.v (.int .i64 (k : Int))))]) (fun (k : Nat) => []) (fun (k : Nat) => k ≤ xs.length ∧ okTo okSetting geNV xs k = true) (fun (k : Nat) => xs.length - k) 0 ⟨rfl, trivial⟩ trivial ⟨rfl, trivial⟩ trivial ?_ (fun k hJ => ?_)
  · exact ⟨Nat.zero_le _, rfl⟩
  · -- round
    refine AC.seq ?_
    refine AC.seq ?_
    refine AC.region ?_
    refine AO.yld _ (Yld.move rfl) rfl rfl rfl ?_
    refine AO.yld _ (Yld.move rfl) rfl rfl rfl ?_
    refine AO.yld _ (Yld.len Try.underlying54 rfl rfl) rfl rfl rfl ?_
    refine AO.yld _ (Yld.int rfl rfl rfl) rfl rfl rfl ?_
    refine AO.nil ?_
    refine AC.cond _ rfl (fun c7 => ?_) (fun c7 => ?_)
    · -- c7 True
      have hk := lt_of_decM c7
      obtain ⟨x, hx⟩ := get_some hk
      have hrow := map_row (enc := encNV) hx
      have hsx := hs x (List.mem_of_getElem? hx)
      refine AC.skip ?_
      refine AC.seq ?_
      refine AC.block ?_
      refine AC.seq ?_
      refine AC.draw (by kernel_rfl) (by kernel_rfl) ?_
      refine AO.yld _ (Yld.move rfl) rfl rfl rfl ?_
      refine AO.yld _ (Yld.move rfl) rfl rfl rfl ?_
      refine AO.yld _ (Yld.indexSl Try.underlying54 Try.sizeOf117 rfl rfl hrow rfl) rfl rfl rfl ?_
      refine AO.yld _ (Yld.call rfl rfl Try.call119 rfl rfl rfl (spec_l27Setting_c (by first | assumption | omega)) rfl) rfl rfl rfl ?_
      refine AO.yld _ (Yld.not rfl) rfl rfl rfl ?_
      refine AO.yld _ (Yld.move rfl) rfl rfl rfl ?_
      refine AO.splitAt 15 _ rfl (fun s15 => ?_) (fun s15 => ?_)
      · -- s15 True
        refine AO.skipF rfl rfl rfl rfl rfl ?_
        refine AO.skipF rfl rfl rfl rfl rfl ?_
        refine AO.skipF rfl rfl rfl rfl rfl ?_
        refine AO.skipU rfl rfl rfl rfl rfl ?_
        refine AO.skipU rfl rfl rfl rfl rfl ?_
        refine AO.skipU rfl rfl rfl rfl rfl ?_
        refine AO.skipU rfl rfl rfl rfl rfl ?_
        refine AO.skipU rfl rfl rfl rfl rfl ?_
        refine AO.skipU rfl rfl rfl rfl rfl ?_
        refine AO.skipU rfl rfl rfl rfl rfl ?_
        refine AO.skipU rfl rfl rfl rfl rfl ?_
        refine AO.skipU rfl rfl rfl rfl rfl ?_
        refine AO.skipU rfl rfl rfl rfl rfl ?_
        refine AO.skipU rfl rfl rfl rfl rfl ?_
        refine AO.skipU rfl rfl rfl rfl rfl ?_
        refine AO.skipF rfl rfl rfl rfl rfl ?_
        refine AO.yld _ (Yld.pickT rfl rfl) rfl rfl rfl ?_
        refine AO.nil ?_
        refine AC.condT rfl ?_
        refine AC.seq ?_
        refine AC.region ?_
        refine AO.yld _ (Yld.assign rfl) rfl rfl rfl ?_
        refine AO.nil ?_
        refine Pure.ret Try.results101 (RVs.cons (RV.tmp rfl) RVs.nil) rfl ?_
        first
          | (exact cb (by unfold okState; rw [ok_one (one := okSetting) (ge := geNV) hx (by simpa using s15)]; simp))
          | (exact cb (by unfold okState; rw [ok_ge (one := okSetting) (ge := geNV) hx hk0 hy c32]; simp))
          | (exact cb (by rw [okState, ok_all hJ.2]; grind))
          | (exact cb (by unfold okState; grind))
          | (exact cb (by simp_all [okState]))
      · -- s15 False
        refine AO.yldG _ (Yld.move rfl) rfl rfl rfl rfl rfl ?_
        refine AO.yldG _ (Yld.int rfl rfl rfl) rfl rfl rfl rfl rfl ?_
        refine AO.yldG _ (Yld.move rfl) rfl rfl rfl rfl rfl ?_
        refine AO.splitAt 18 _ rfl (fun s18 => ?_) (fun s18 => ?_)
        · -- s18 True
          have hk0 : 0 < k := by simpa using s18
          obtain ⟨y, hy⟩ := get_some (xs := xs) (k := k - 1) (by omega)
          have hrow2 := map_row (enc := encNV) hy
          refine AO.yldG _ (Yld.move rfl) rfl rfl rfl rfl rfl ?_
          refine AO.yldG _ (Yld.move rfl) rfl rfl rfl rfl rfl ?_
          refine AO.yldG _ (Yld.sub rfl rfl (by omega) (by omega)) rfl rfl rfl rfl rfl ?_
          refine AO.yldG _ (Yld.indexSl Try.underlying54 Try.sizeOf117 rfl rfl hrow2 (by omega)) rfl rfl rfl rfl rfl ?_
          refine AO.yldG _ (Yld.fieldAddr Try.underlying117 rfl rfl Try.sizeOf9 rfl rfl rfl) rfl rfl rfl rfl rfl ?_
          refine AO.yldG _ (Yld.load Try.isAgg9 rfl rfl) rfl rfl rfl rfl rfl ?_
          refine AO.yldG _ (Yld.move rfl) rfl rfl rfl rfl rfl ?_
          refine AO.yldG _ (Yld.move rfl) rfl rfl rfl rfl rfl ?_
          refine AO.yldG _ (Yld.indexSl Try.underlying54 Try.sizeOf117 rfl rfl hrow rfl) rfl rfl rfl rfl rfl ?_
          refine AO.yldG _ (Yld.fieldAddr Try.underlying117 rfl rfl Try.sizeOf9 rfl rfl rfl) rfl rfl rfl rfl rfl ?_
          refine AO.yldG _ (Yld.load Try.isAgg9 rfl rfl) rfl rfl rfl rfl rfl ?_
          refine AO.yldG _ (Yld.cmpStr rfl rfl rfl) rfl rfl rfl rfl rfl ?_
          refine AO.yldG _ (Yld.pickT rfl rfl) rfl rfl rfl rfl rfl ?_
          refine AO.yld _ (Yld.pickF rfl rfl) rfl rfl rfl ?_
          refine AO.nil ?_
          refine AC.cond _ rfl (fun c32 => ?_) (fun c32 => ?_)
          · -- c32 True
            refine AC.seq ?_
            refine AC.region ?_
            refine AO.yld _ (Yld.assign rfl) rfl rfl rfl ?_
            refine AO.nil ?_
            refine Pure.ret Try.results101 (RVs.cons (RV.tmp rfl) RVs.nil) rfl ?_
            first
              | (exact cb (by unfold okState; rw [ok_one (one := okSetting) (ge := geNV) hx (by simpa using s15)]; simp))
              | (exact cb (by unfold okState; rw [ok_ge (one := okSetting) (ge := geNV) hx hk0 hy c32]; simp))
              | (exact cb (by rw [okState, ok_all hJ.2]; grind))
              | (exact cb (by unfold okState; grind))
              | (exact cb (by simp_all [okState]))
          · -- c32 False
            refine AC.skip ?_
            refine AC.mark ?_
            refine AC.region ?_
            refine AO.yld _ (Yld.move rfl) rfl rfl rfl ?_
            refine AO.yld _ (Yld.add rfl rfl (by omega) (by omega)) rfl rfl rfl ?_
            refine AO.yld _ (Yld.assign rfl) rfl rfl rfl ?_
            refine AO.nil ?_
            refine AC.back ⟨k + 1, ?_, ?_, ⟨?_, trivial⟩, trivial, ⟨rfl, trivial⟩, trivial⟩
            · exact ⟨hk, by first | exact ok_first hJ.2 hx (by simpa using s15) (by simp at s18; omega) | exact ok_next hJ.2 hx (by simpa using s15) hk0 hy c32⟩
            · omega
            · rfl
        · -- s18 False
          refine AO.skipT rfl rfl rfl rfl rfl ?_
          refine AO.skipT rfl rfl rfl rfl rfl ?_
          refine AO.skipT rfl rfl rfl rfl rfl ?_
          refine AO.skipT rfl rfl rfl rfl rfl ?_
          refine AO.skipT rfl rfl rfl rfl rfl ?_
          refine AO.skipT rfl rfl rfl rfl rfl ?_
          refine AO.skipT rfl rfl rfl rfl rfl ?_
          refine AO.skipT rfl rfl rfl rfl rfl ?_
          refine AO.skipT rfl rfl rfl rfl rfl ?_
          refine AO.skipT rfl rfl rfl rfl rfl ?_
          refine AO.skipT rfl rfl rfl rfl rfl ?_
          refine AO.skipT rfl rfl rfl rfl rfl ?_
          refine AO.yldG _ (Yld.pickF rfl rfl) rfl rfl rfl rfl rfl ?_
          refine AO.yld _ (Yld.pickF rfl rfl) rfl rfl rfl ?_
          refine AO.nil ?_
          refine AC.condF rfl ?_
          refine AC.skip ?_
          refine AC.mark ?_
          refine AC.region ?_
          refine AO.yld _ (Yld.move rfl) rfl rfl rfl ?_
          refine AO.yld _ (Yld.add rfl rfl (by omega) (by omega)) rfl rfl rfl ?_
          refine AO.yld _ (Yld.assign rfl) rfl rfl rfl ?_
          refine AO.nil ?_
          refine AC.back ⟨k + 1, ?_, ?_, ⟨?_, trivial⟩, trivial, ⟨rfl, trivial⟩, trivial⟩
          · exact ⟨hk, by first | exact ok_first hJ.2 hx (by simpa using s15) (by simp at s18; omega) | exact ok_next hJ.2 hx (by simpa using s15) hk0 hy c32⟩
          · omega
          · rfl
    · -- c7 False
      obtain rfl : k = xs.length := by have := ge_of_decM c7; omega
      refine AC.exit rfl ?_
      refine AC.seq ?_
      refine AC.region ?_
      refine AO.yld _ (Yld.move rfl) rfl rfl rfl ?_
      refine AO.yld _ (Yld.len Try.underlying54 rfl rfl) rfl rfl rfl ?_
      refine AO.yld _ (Yld.int rfl rfl rfl) rfl rfl rfl ?_
      refine AO.yld _ (Yld.assign rfl) rfl rfl rfl ?_
      refine AO.nil ?_
      refine Pure.ret Try.results101 (RVs.cons (RV.tmp rfl) RVs.nil) rfl ?_
      first
        | (exact cb (by unfold okState; rw [ok_one (one := okSetting) (ge := geNV) hx (by simpa using s15)]; simp))
        | (exact cb (by unfold okState; rw [ok_ge (one := okSetting) (ge := geNV) hx hk0 hy c32]; simp))
        | (exact cb (by rw [okState, ok_all hJ.2]; grind))
        | (exact cb (by unfold okState; grind))
        | (exact cb (by simp_all [okState]))

theorem impl_ValidState_c {xs : List NV} (hn : xs.length ≤ 1048576) (hs : ∀ x ∈ xs, x.name.length ≤ 1048576) :
    Pure Try.prog 56 [.sl 2 (xs.map encNV)] (.v (.bool (okState xs))) := by
  refine Pure.intro Try.func56 rfl Try.ntmps56 rfl rfl (fun w => ?_)
  refine AC.seq ?_
  refine AC.region ?_
  refine AO.yld _ (Yld.assign rfl) rfl rfl rfl ?_
  refine AO.nil ?_
  refine AC.seq ?_
  refine AC.seq ?_
  refine AC.region ?_
  refine AO.yld _ (Yld.move rfl) rfl rfl rfl ?_
  refine AO.yld _ (Yld.len Try.underlying54 rfl rfl) rfl rfl rfl ?_
  refine AO.yld _ (Yld.int rfl rfl rfl) rfl rfl rfl ?_
  refine AO.nil ?_
  refine AC.cond _ rfl (fun c7 => ?_) (fun c7 => ?_)
  · -- c7 True
    refine AC.seq ?_
    refine AC.region ?_
    refine AO.yld _ (Yld.assign rfl) rfl rfl rfl ?_
    refine AO.nil ?_
    refine Pure.ret Try.results56 (RVs.cons (RV.tmp rfl) RVs.nil) rfl ?_
    first
      | (exact cb (by unfold okState; rw [ok_one (one := okSetting) (ge := geNV) hx (by simpa using s18)]; simp))
      | (exact cb (by unfold okState; rw [ok_ge (one := okSetting) (ge := geNV) hx hk0 hy c32]; simp))
      | (exact cb (by rw [okState, ok_all hJ.2]; grind))
      | (exact cb (by unfold okState; grind))
      | (exact cb (by simp_all [okState]))
  · -- c7 False
    refine AC.skip ?_
    refine AC.seq ?_
    refine AC.seq ?_
    refine AC.region ?_
    refine AO.yld _ (Yld.move rfl) rfl rfl rfl ?_
    refine AO.yld _ (Yld.len Try.underlying54 rfl rfl) rfl rfl rfl ?_
    refine AO.yld _ (Yld.move rfl) rfl rfl rfl ?_
    refine AO.nil ?_
    refine AC.block ?_
    refine AC.loopC [(0, _), (8, _), (9, _)] [] (fun (k : Nat) => [(10, .p (.v (.int .i64 (k : Int))))]) (fun (k : Nat) => []) (fun (k : Nat) => k ≤ xs.length ∧ okTo okSetting geNV xs k = true) (fun (k : Nat) => xs.length - k) 0 ⟨rfl, rfl, rfl, trivial⟩ trivial ⟨rfl, trivial⟩ trivial ?_ (fun k hJ => ?_)
    · exact ⟨Nat.zero_le _, rfl⟩
    · -- round
      refine AC.seq ?_
      refine AC.region ?_
      refine AO.yld _ (Yld.int rfl rfl rfl) rfl rfl rfl ?_
      refine AO.nil ?_
      refine AC.seq ?_
      refine AC.cond _ rfl (fun c11 => ?_) (fun c11 => ?_)
      · -- c11 True
        have hk := lt_of_decM c11
        obtain ⟨x, hx⟩ := get_some hk
        have hrow := map_row (enc := encNV) hx
        have hsx := hs x (List.mem_of_getElem? hx)
        refine AC.skip ?_
        refine AC.seq ?_
        refine AC.block ?_
        refine AC.seq ?_
        refine AC.region ?_
        refine AO.yld _ (Yld.move rfl) rfl rfl rfl ?_
        refine AO.yld _ (Yld.indexSl Try.underlying54 Try.sizeOf117 rfl rfl hrow rfl) rfl rfl rfl ?_
        refine AO.yld _ (Yld.loadAgg Try.isAgg117 Try.sizeOf117 rfl rfl rfl rfl) rfl rfl rfl ?_
        refine AO.alloc 0 Try.zeroValue117 rfl rfl rfl ?_
        refine AO.yld _ (Yld.assign rfl) rfl rfl rfl ?_
        refine AO.store Try.sizeOf117 rfl rfl rfl rfl rfl rfl ?_
        refine AO.nil ?_
        refine AC.seq ?_
        refine AC.draw (by kernel_rfl) (by kernel_rfl) ?_
        refine AO.yld _ (Yld.loadAgg Try.isAgg117 Try.sizeOf117 rfl rfl rfl rfl) rfl rfl rfl ?_
        refine AO.yld _ (Yld.call rfl rfl Try.call102 rfl rfl rfl (impl_validSetting_c (by first | assumption | omega)) rfl) rfl rfl rfl ?_
        refine AO.yld _ (Yld.not rfl) rfl rfl rfl ?_
        refine AO.yld _ (Yld.move rfl) rfl rfl rfl ?_
        refine AO.splitAt 18 _ rfl (fun s18 => ?_) (fun s18 => ?_)
        · -- s18 True
          refine AO.skipF rfl rfl rfl rfl rfl ?_
          refine AO.skipF rfl rfl rfl rfl rfl ?_
          refine AO.skipF rfl rfl rfl rfl rfl ?_
          refine AO.skipU rfl rfl rfl rfl rfl ?_
          refine AO.skipU rfl rfl rfl rfl rfl ?_
          refine AO.skipU rfl rfl rfl rfl rfl ?_
          refine AO.skipU rfl rfl rfl rfl rfl ?_
          refine AO.skipU rfl rfl rfl rfl rfl ?_
          refine AO.skipU rfl rfl rfl rfl rfl ?_
          refine AO.skipU rfl rfl rfl rfl rfl ?_
          refine AO.skipU rfl rfl rfl rfl rfl ?_
          refine AO.skipU rfl rfl rfl rfl rfl ?_
          refine AO.skipF rfl rfl rfl rfl rfl ?_
          refine AO.yld _ (Yld.pickT rfl rfl) rfl rfl rfl ?_
          refine AO.nil ?_
          refine AC.condT rfl ?_
          refine AC.seq ?_
          refine AC.region ?_
          refine AO.yld _ (Yld.assign rfl) rfl rfl rfl ?_
          refine AO.nil ?_
          refine Pure.ret Try.results56 (RVs.cons (RV.tmp rfl) RVs.nil) rfl ?_
          first
            | (exact cb (by unfold okState; rw [ok_one (one := okSetting) (ge := geNV) hx (by simpa using s18)]; simp))
            | (exact cb (by unfold okState; rw [ok_ge (one := okSetting) (ge := geNV) hx hk0 hy c32]; simp))
            | (exact cb (by rw [okState, ok_all hJ.2]; grind))
            | (exact cb (by unfold okState; grind))
            | (exact cb (by simp_all [okState]))
        · -- s18 False
          refine AO.yldG _ (Yld.move rfl) rfl rfl rfl rfl rfl ?_
          refine AO.yldG _ (Yld.int rfl rfl rfl) rfl rfl rfl rfl rfl ?_
          refine AO.yldG _ (Yld.move rfl) rfl rfl rfl rfl rfl ?_
          refine AO.splitAt 21 _ rfl (fun s21 => ?_) (fun s21 => ?_)
          · -- s21 True
            have hk0 : 0 < k := by simpa using s21
            obtain ⟨y, hy⟩ := get_some (xs := xs) (k := k - 1) (by omega)
            have hrow2 := map_row (enc := encNV) hy
            refine AO.yldG _ (Yld.move rfl) rfl rfl rfl rfl rfl ?_
            refine AO.yldG _ (Yld.move rfl) rfl rfl rfl rfl rfl ?_
            refine AO.yldG _ (Yld.sub rfl rfl (by omega) (by omega)) rfl rfl rfl rfl rfl ?_
            refine AO.yldG _ (Yld.indexSl Try.underlying54 Try.sizeOf117 rfl rfl hrow2 (by omega)) rfl rfl rfl rfl rfl ?_
            refine AO.yldG _ (Yld.fieldAddr Try.underlying117 rfl rfl Try.sizeOf9 rfl rfl rfl) rfl rfl rfl rfl rfl ?_
            refine AO.yldG _ (Yld.load Try.isAgg9 rfl rfl) rfl rfl rfl rfl rfl ?_
            refine AO.yldG _ (Yld.fieldAddr Try.underlying117 rfl rfl Try.sizeOf9 rfl rfl rfl) rfl rfl rfl rfl rfl ?_
            refine AO.yldG _ (Yld.load Try.isAgg9 rfl rfl) rfl rfl rfl rfl rfl ?_
            refine AO.yldG _ (Yld.cmpStr rfl rfl rfl) rfl rfl rfl rfl rfl ?_
            refine AO.yldG _ (Yld.pickT rfl rfl) rfl rfl rfl rfl rfl ?_
            refine AO.yld _ (Yld.pickF rfl rfl) rfl rfl rfl ?_
            refine AO.nil ?_
            refine AC.cond _ rfl (fun c32 => ?_) (fun c32 => ?_)
            · -- c32 True
              refine AC.seq ?_
              refine AC.region ?_
              refine AO.yld _ (Yld.assign rfl) rfl rfl rfl ?_
              refine AO.nil ?_
              refine Pure.ret Try.results56 (RVs.cons (RV.tmp rfl) RVs.nil) rfl ?_
              first
                | (exact cb (by unfold okState; rw [ok_one (one := okSetting) (ge := geNV) hx (by simpa using s18)]; simp))
                | (exact cb (by unfold okState; rw [ok_ge (one := okSetting) (ge := geNV) hx hk0 hy c32]; simp))
                | (exact cb (by rw [okState, ok_all hJ.2]; grind))
                | (exact cb (by unfold okState; grind))
                | (exact cb (by simp_all [okState]))
            · -- c32 False
              refine AC.skip ?_
              refine AC.mark ?_
              refine AC.region ?_
              refine AO.yld _ (Yld.add rfl rfl (by omega) (by omega)) rfl rfl rfl ?_
              refine AO.yld _ (Yld.move rfl) rfl rfl rfl ?_
              refine AO.nil ?_
              refine AC.back ⟨k + 1, ?_, ?_, ⟨?_, trivial⟩, trivial, ⟨rfl, rfl, rfl, trivial⟩, trivial⟩
              · exact ⟨hk, by first | exact ok_first hJ.2 hx (by simpa using s18) (by simp at s21; omega) | exact ok_next hJ.2 hx (by simpa using s18) hk0 hy c32⟩
              · omega
              · rfl
          · -- s21 False
            refine AO.skipT rfl rfl rfl rfl rfl ?_
            refine AO.skipT rfl rfl rfl rfl rfl ?_
            refine AO.skipT rfl rfl rfl rfl rfl ?_
            refine AO.skipT rfl rfl rfl rfl rfl ?_
            refine AO.skipT rfl rfl rfl rfl rfl ?_
            refine AO.skipT rfl rfl rfl rfl rfl ?_
            refine AO.skipT rfl rfl rfl rfl rfl ?_
            refine AO.skipT rfl rfl rfl rfl rfl ?_
            refine AO.skipT rfl rfl rfl rfl rfl ?_
            refine AO.yldG _ (Yld.pickF rfl rfl) rfl rfl rfl rfl rfl ?_
            refine AO.yld _ (Yld.pickF rfl rfl) rfl rfl rfl ?_
            refine AO.nil ?_
            refine AC.condF rfl ?_
            refine AC.skip ?_
            refine AC.mark ?_
            refine AC.region ?_
            refine AO.yld _ (Yld.add rfl rfl (by omega) (by omega)) rfl rfl rfl ?_
            refine AO.yld _ (Yld.move rfl) rfl rfl rfl ?_
            refine AO.nil ?_
            refine AC.back ⟨k + 1, ?_, ?_, ⟨?_, trivial⟩, trivial, ⟨rfl, rfl, rfl, trivial⟩, trivial⟩
            · exact ⟨hk, by first | exact ok_first hJ.2 hx (by simpa using s18) (by simp at s21; omega) | exact ok_next hJ.2 hx (by simpa using s18) hk0 hy c32⟩
            · omega
            · rfl
      · -- c11 False
        obtain rfl : k = xs.length := by have := ge_of_decM c11; omega
        refine AC.exit rfl ?_
        refine AC.seq ?_
        refine AC.region ?_
        refine AO.yld _ (Yld.assign rfl) rfl rfl rfl ?_
        refine AO.nil ?_
        refine Pure.ret Try.results56 (RVs.cons (RV.tmp rfl) RVs.nil) rfl ?_
        first
          | (exact cb (by unfold okState; rw [ok_one (one := okSetting) (ge := geNV) hx (by simpa using s18)]; simp))
          | (exact cb (by unfold okState; rw [ok_ge (one := okSetting) (ge := geNV) hx hk0 hy c32]; simp))
          | (exact cb (by rw [okState, ok_all hJ.2]; grind))
          | (exact cb (by unfold okState; grind))
          | (exact cb (by simp_all [okState]))

theorem spec_ValidSessions_c {xs : List Session} (hn : xs.length ≤ 1048576) :
    Pure Try.prog 28 [.sl 4 (xs.map encSession)] (.v (.bool (okSessions xs))) := by
  refine Pure.intro Try.func28 rfl Try.ntmps28 rfl rfl (fun w => ?_)
  refine AC.seq ?_
  refine AC.region ?_
  refine AO.yld _ (Yld.assign rfl) rfl rfl rfl ?_
  refine AO.nil ?_
  refine AC.seq ?_
  refine AC.region ?_
  refine AO.yld _ (Yld.move rfl) rfl rfl rfl ?_
  refine AO.yld _ (Yld.call rfl rfl Try.call75 rfl rfl rfl (spec_l28Ok_c (by first | assumption | omega)) rfl) rfl rfl rfl ?_
  refine AO.yld _ (Yld.assign rfl) rfl rfl rfl ?_
  refine AO.nil ?_
  refine Pure.ret Try.results28 (RVs.cons (RV.tmp rfl) RVs.nil) rfl ?_
  first | rfl | (simp_all; done) | (simp_all; intros; omega) | grind

theorem spec_ValidMachines_c {xs : List Mach} (hn : xs.length ≤ 1048576) (hs : ∀ x ∈ xs, x.name.length ≤ 1048576) :
    Pure Try.prog 58 [.sl 3 (xs.map encMach)] (.v (.bool (okMachines xs))) := by
  refine Pure.intro Try.func58 rfl Try.ntmps58 rfl rfl (fun w => ?_)
  refine AC.seq ?_
  refine AC.region ?_
  refine AO.yld _ (Yld.assign rfl) rfl rfl rfl ?_
  refine AO.nil ?_
  refine AC.seq ?_
  refine AC.region ?_
  refine AO.yld _ (Yld.move rfl) rfl rfl rfl ?_
  refine AO.yld _ (Yld.call rfl rfl Try.call103 rfl rfl rfl (spec_l26Ok_c (by first | assumption | omega) (by assumption)) rfl) rfl rfl rfl ?_
  refine AO.yld _ (Yld.assign rfl) rfl rfl rfl ?_
  refine AO.nil ?_
  refine Pure.ret Try.results58 (RVs.cons (RV.tmp rfl) RVs.nil) rfl ?_
  first | rfl | (simp_all; done) | (simp_all; intros; omega) | grind

theorem spec_ValidMedia_c {xs : List NV} (hn : xs.length ≤ 1048576) (hs : ∀ x ∈ xs, x.name.length ≤ 1048576) :
    Pure Try.prog 51 [.sl 2 (xs.map encNV)] (.v (.bool (okMedias xs))) := by
  refine Pure.intro Try.func51 rfl Try.ntmps51 rfl rfl (fun w => ?_)
  refine AC.seq ?_
  refine AC.region ?_
  refine AO.yld _ (Yld.assign rfl) rfl rfl rfl ?_
  refine AO.nil ?_
  refine AC.seq ?_
  refine AC.region ?_
  refine AO.yld _ (Yld.move rfl) rfl rfl rfl ?_
  refine AO.yld _ (Yld.call rfl rfl Try.call97 rfl rfl rfl (spec_l25Ok_c (by first | assumption | omega) (by assumption)) rfl) rfl rfl rfl ?_
  refine AO.yld _ (Yld.assign rfl) rfl rfl rfl ?_
  refine AO.nil ?_
  refine Pure.ret Try.results51 (RVs.cons (RV.tmp rfl) RVs.nil) rfl ?_
  first | rfl | (simp_all; done) | (simp_all; intros; omega) | grind

theorem spec_ValidState_c {xs : List NV} (hn : xs.length ≤ 1048576) (hs : ∀ x ∈ xs, x.name.length ≤ 1048576) :
    Pure Try.prog 55 [.sl 2 (xs.map encNV)] (.v (.bool (okState xs))) := by
  refine Pure.intro Try.func55 rfl Try.ntmps55 rfl rfl (fun w => ?_)
  refine AC.seq ?_
  refine AC.region ?_
  refine AO.yld _ (Yld.assign rfl) rfl rfl rfl ?_
  refine AO.nil ?_
  refine AC.seq ?_
  refine AC.region ?_
  refine AO.yld _ (Yld.move rfl) rfl rfl rfl ?_
  refine AO.yld _ (Yld.call rfl rfl Try.call101 rfl rfl rfl (spec_l27State_c (by first | assumption | omega) (by assumption)) rfl) rfl rfl rfl ?_
  refine AO.yld _ (Yld.assign rfl) rfl rfl rfl ?_
  refine AO.nil ?_
  refine Pure.ret Try.results55 (RVs.cons (RV.tmp rfl) RVs.nil) rfl ?_
  first | rfl | (simp_all; done) | (simp_all; intros; omega) | grind

end Go.Proofs.Ytjmicabmkipomaa
