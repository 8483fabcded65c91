/- Contracts of functions of the program, each by a walk of its text in the calculus V. -/
import Derived.Test.YtbbechcbdeknnaaC1
set_option linter.all false
set_option linter.unusedSimpArgs false
set_option linter.unnecessarySimpa false
set_option linter.unusedVariables false
namespace Go.Proofs.Ytbbechcbdeknnaa
open Go Go.V

theorem impl_quotientUp_c {a b : Int} (hb : 0 < b) (ha : 0 ≤ a) (hc : a + b ≤ 9223372036854775807) :
    Pure Try.prog 15 [.v (.int .i64 a), .v (.int .i64 b)] (.v (.int .i64 ((a + b - 1) / b))) := by
  refine Pure.intro Try.func15 rfl Try.ntmps15 rfl rfl (fun w => ?_)
  refine AC.seq ?_
  refine AC.region ?_
  refine AO.yld _ (Yld.assign rfl) rfl rfl rfl ?_
  refine AO.nil ?_
  refine AC.seq ?_
  refine AC.region ?_
  refine AO.yld _ (Yld.move rfl) rfl rfl rfl ?_
  refine AO.yld _ (Yld.move rfl) rfl rfl rfl ?_
  refine AO.yld _ (Yld.add rfl rfl (by omega) (by omega)) rfl rfl rfl ?_
  refine AO.yld _ (Yld.sub rfl rfl (by omega) (by omega)) rfl rfl rfl ?_
  refine AO.yld _ (Yld.move rfl) rfl rfl rfl ?_
  refine AO.yld _ (Yld.quoP rfl rfl (by omega) (by omega) (by omega)) rfl rfl rfl ?_
  refine AO.yld _ (Yld.assign rfl) rfl rfl rfl ?_
  refine AO.nil ?_
  refine Pure.ret Try.results15 (RVs.cons (RV.tmp rfl) RVs.nil) rfl ?_
  exact ci (up_one hb ha).symm

end Go.Proofs.Ytbbechcbdeknnaa
