/- Contracts of functions of the program, each by a walk of its text in the calculus V. -/
import Derived.Test.YtghcdgjbgljipaaDoorR7M
import Derived.Test.YtghcdgjbgljipaaDoorD47
import Derived.Test.YtghcdgjbgljipaaDoorV22
set_option linter.all false
set_option linter.unusedSimpArgs false
set_option linter.unnecessarySimpa false
set_option linter.unusedVariables false
namespace Go.Proofs.YtghcdgjbgljipaaDoor
open Go Go.V
theorem ty5 : TyIs Tryd.prog 5 (.int .u8 0) 1 1 := by unfold TyIs; kernel_rfl
theorem ty58 : TyIs Tryd.prog 58 (.agg #[.string ⟨#[]⟩, .int .i64 0, .int .i64 0]) 3 32 := by unfold TyIs; kernel_rfl
theorem ty69 : TyIs Tryd.prog 69 (.agg #[.int .i64 0, .int .i64 0, .int .i64 0]) 3 24 := by unfold TyIs; kernel_rfl
theorem bld69 : BuildIs Tryd.prog 69 [(0, 1), (1, 1), (2, 1)] (.agg #[.int .i64 0, .int .i64 0, .int .i64 0]) := by
  intro ps cells w h
  have h2 : Instr.fill (fun i => ([(0, 1), (1, 1), (2, 1)] : List (Nat × Nat))[i]?) #[.int .i64 0, .int .i64 0, .int .i64 0] ps.toList = some cells := h
  simp [Instr.build, go_sem, Tryd.zeroValue69, run_underlying Tryd.underlying69, Tryd.sizeOf2, h2]
theorem bld117 : BuildIs Tryd.prog 117 [(0, 1), (1, 1), (2, 1)] (.agg #[.slice none 0 0, .int .i64 0, .int .u64 0]) := by
  intro ps cells w h
  have h2 : Instr.fill (fun i => ([(0, 1), (1, 1), (2, 1)] : List (Nat × Nat))[i]?) #[.slice none 0 0, .int .i64 0, .int .u64 0] ps.toList = some cells := h
  simp [Instr.build, go_sem, Tryd.zeroValue117, run_underlying Tryd.underlying117, Tryd.sizeOf3, Tryd.sizeOf22, Tryd.sizeOf115, h2]

theorem src_next_c {code : List UInt8} {p sd : Int} (h0 : 0 ≤ p) (h1 : p ≤ 4611686018427387904) :
    FnE (α := Int × Int) Tryd.prog 102 [.h 0] [(0, .box 117 [.p (.sl 1 (code.map encB)), .p (.v (.int .i64 p)), .p (.v (.int .u64 sd))])] [0] (fun ⟨v, s⟩ => 0 ≤ v ∧ v ≤ 255) (fun ⟨v, s⟩ => .p (.v (.int .i64 v))) (fun ⟨v, s⟩ => [(0, .box 117 [.p (.sl 1 (code.map encB)), .p (.v (.int .i64 (p + 1))), .p (.v (.int .u64 s))])]) := by
  refine FnE.intro Tryd.func102 rfl Tryd.ntmps102 rfl rfl (fun w0 F0 η φ w => ?_)
  refine AC.seq ?_
  refine AC.region ?_
  refine AO.yld _ (Yld.assign rfl) rfl rfl rfl ?_
  refine AO.nil ?_
  refine AC.seq ?_
  refine AC.region ?_
  refine AO.yld _ (Yld.assign rfl) rfl rfl rfl ?_
  refine AO.nil ?_
  refine AC.seq ?_
  refine AC.seq ?_
  refine AC.draw (by kernel_rfl) (by kernel_rfl) ?_
  refine AO.yld _ (Yld.move rfl) rfl rfl rfl ?_
  refine AO.yld _ (Yld.nilCheck rfl rfl) rfl rfl rfl ?_
  refine AO.yld _ (Yld.fieldAddr Tryd.underlying117 rfl rfl Tryd.sizeOf3 rfl rfl rfl) rfl rfl rfl ?_
  refine AO.yld _ (Yld.load Tryd.isAgg3 rfl rfl) rfl rfl rfl ?_
  refine AO.yld _ (Yld.move rfl) rfl rfl rfl ?_
  refine AO.yld _ (Yld.nilCheck rfl rfl) rfl rfl rfl ?_
  refine AO.yld _ (Yld.fieldAddr Tryd.underlying117 rfl rfl Tryd.sizeOf22 rfl rfl rfl) rfl rfl rfl ?_
  refine AO.yld _ (Yld.load Tryd.isAgg22 rfl rfl) rfl rfl rfl ?_
  refine AO.yld _ (Yld.len Tryd.underlying22 rfl rfl) rfl rfl rfl ?_
  refine AO.yld _ (Yld.int rfl rfl rfl) rfl rfl rfl ?_
  refine AO.nil ?_
  refine AC.cond _ rfl (fun c13 => ?_) (fun c13 => ?_)
  · -- c13 True
    have hp : p < code.length := by have h := c13; simpa using h
    obtain ⟨c, hc⟩ := get_some (xs := code) (k := p.toNat) (by omega)
    have hrow := map_row (enc := encB) hc
    refine AC.draw (by kernel_rfl) (by kernel_rfl) ?_
    refine AO.yld _ (Yld.move rfl) rfl rfl rfl ?_
    refine AO.yld _ (Yld.nilCheck rfl rfl) rfl rfl rfl ?_
    refine AO.yld _ (Yld.fieldAddr Tryd.underlying117 rfl rfl Tryd.sizeOf22 rfl rfl rfl) rfl rfl rfl ?_
    refine AO.yld _ (Yld.load Tryd.isAgg22 rfl rfl) rfl rfl rfl ?_
    refine AO.yld _ (Yld.move rfl) rfl rfl rfl ?_
    refine AO.yld _ (Yld.nilCheck rfl rfl) rfl rfl rfl ?_
    refine AO.yld _ (Yld.fieldAddr Tryd.underlying117 rfl rfl Tryd.sizeOf3 rfl rfl rfl) rfl rfl rfl ?_
    refine AO.yld _ (Yld.load Tryd.isAgg3 rfl rfl) rfl rfl rfl ?_
    refine AO.yld _ (Yld.indexSl Tryd.underlying22 Tryd.sizeOf5 rfl rfl hrow (by omega)) rfl rfl rfl ?_
    refine AO.yld _ (Yld.load Tryd.isAgg5 rfl rfl) rfl rfl rfl ?_
    refine AO.yld _ (Yld.convInt Tryd.underlying5 Tryd.underlying3 rfl) rfl rfl rfl ?_
    refine AO.yld _ (Yld.assign rfl) rfl rfl rfl ?_
    refine AO.nil ?_
    refine AC.seq ?_
    refine AC.region ?_
    refine AO.yld _ (Yld.move rfl) rfl rfl rfl ?_
    refine AO.yld _ (Yld.nilCheck rfl rfl) rfl rfl rfl ?_
    refine AO.yld _ (Yld.fieldAddr Tryd.underlying117 rfl rfl Tryd.sizeOf3 rfl rfl rfl) rfl rfl rfl ?_
    refine AO.yld _ (Yld.load Tryd.isAgg3 rfl rfl) rfl rfl rfl ?_
    refine AO.yld _ (Yld.add rfl rfl (by omega) (by omega)) rfl rfl rfl ?_
    refine AO.yld _ (Yld.nilCheck rfl rfl) rfl rfl rfl ?_
    refine AO.yld _ (Yld.fieldAddr Tryd.underlying117 rfl rfl Tryd.sizeOf3 rfl rfl rfl) rfl rfl rfl ?_
    refine AO.store Tryd.sizeOf3 rfl rfl rfl rfl rfl rfl ?_
    refine AO.nil ?_
    refine AC.seq ?_
    refine AC.region ?_
    refine AO.yld _ (Yld.move rfl) rfl rfl rfl ?_
    refine AO.yld _ (Yld.move rfl) rfl rfl rfl ?_
    refine AO.yld _ (Yld.nilCheck rfl rfl) rfl rfl rfl ?_
    refine AO.yld _ (Yld.fieldAddr Tryd.underlying117 rfl rfl Tryd.sizeOf115 rfl rfl rfl) rfl rfl rfl ?_
    refine AO.yld _ (Yld.load Tryd.isAgg115 rfl rfl) rfl rfl rfl ?_
    refine AO.yld _ (Yld.int rfl rfl rfl) rfl rfl rfl ?_
    refine AO.yld _ (Yld.move rfl) rfl rfl rfl ?_
    refine AO.yld _ (Yld.convInt Tryd.underlying3 Tryd.underlying115 rfl) rfl rfl rfl ?_
    refine AO.yld _ (Yld.int rfl rfl rfl) rfl rfl rfl ?_
    refine AO.yld _ (Yld.int rfl rfl rfl) rfl rfl rfl ?_
    refine AO.yld _ (Yld.nilCheck rfl rfl) rfl rfl rfl ?_
    refine AO.yld _ (Yld.fieldAddr Tryd.underlying117 rfl rfl Tryd.sizeOf115 rfl rfl rfl) rfl rfl rfl ?_
    refine AO.store Tryd.sizeOf115 rfl rfl rfl rfl rfl rfl ?_
    refine AO.nil ?_
    refine AC.seq ?_
    refine AC.seq ?_
    refine AC.draw (by kernel_rfl) (by kernel_rfl) ?_
    refine AO.yld _ (Yld.move rfl) rfl rfl rfl ?_
    refine AO.yld _ (Yld.nilCheck rfl rfl) rfl rfl rfl ?_
    refine AO.yld _ (Yld.fieldAddr Tryd.underlying117 rfl rfl Tryd.sizeOf3 rfl rfl rfl) rfl rfl rfl ?_
    refine AO.yld _ (Yld.load Tryd.isAgg3 rfl rfl) rfl rfl rfl ?_
    refine AO.yld _ (Yld.move rfl) rfl rfl rfl ?_
    refine AO.yld _ (Yld.nilCheck rfl rfl) rfl rfl rfl ?_
    refine AO.yld _ (Yld.fieldAddr Tryd.underlying117 rfl rfl Tryd.sizeOf22 rfl rfl rfl) rfl rfl rfl ?_
    refine AO.yld _ (Yld.load Tryd.isAgg22 rfl rfl) rfl rfl rfl ?_
    refine AO.yld _ (Yld.len Tryd.underlying22 rfl rfl) rfl rfl rfl ?_
    refine AO.yld _ (Yld.int rfl rfl rfl) rfl rfl rfl ?_
    refine AO.nil ?_
    refine AC.cond _ rfl (fun c53 => ?_) (fun c53 => ?_)
    · -- c53 True
      refine AC.seq ?_
      refine AC.region ?_
      refine AO.yld _ (Yld.move rfl) rfl rfl rfl ?_
      refine AO.yld _ (Yld.assign rfl) rfl rfl rfl ?_
      refine AO.nil ?_
      refine FnE.ret (_, _) [0] [0] Tryd.results102 (RVs.cons (RV.tmp rfl) RVs.nil) rfl rfl rfl ?_ rfl ⟨⟨_, rfl, rfl⟩, trivial⟩
      · -- holds
        show 0 ≤ _ ∧ _ ≤ _; first | exact byte_u8 _ | exact byte_of _ | exact ⟨by decide, by decide⟩
    · -- c53 False
      refine AC.skip ?_
      refine AC.seq ?_
      refine AC.region ?_
      refine AO.yld _ (Yld.move rfl) rfl rfl rfl ?_
      refine AO.yld _ (Yld.nilCheck rfl rfl) rfl rfl rfl ?_
      refine AO.yld _ (Yld.fieldAddr Tryd.underlying117 rfl rfl Tryd.sizeOf115 rfl rfl rfl) rfl rfl rfl ?_
      refine AO.yld _ (Yld.load Tryd.isAgg115 rfl rfl) rfl rfl rfl ?_
      refine AO.yld _ (Yld.shr rfl rfl (by omega)) rfl rfl rfl ?_
      refine AO.yld _ (Yld.and rfl rfl) rfl rfl rfl ?_
      refine AO.yld _ (Yld.convInt Tryd.underlying115 Tryd.underlying2 rfl) rfl rfl rfl ?_
      refine AO.yld _ (Yld.assign rfl) rfl rfl rfl ?_
      refine AO.nil ?_
      refine FnE.ret (_, _) [0] [0] Tryd.results102 (RVs.cons (RV.tmp rfl) RVs.nil) rfl rfl rfl ?_ rfl ⟨⟨_, rfl, rfl⟩, trivial⟩
      · -- holds
        show 0 ≤ _ ∧ _ ≤ _; first | exact byte_u8 _ | exact byte_of _ | exact ⟨by decide, by decide⟩
  · -- c13 False
    refine AC.skip ?_
    refine AC.seq ?_
    refine AC.region ?_
    refine AO.yld _ (Yld.move rfl) rfl rfl rfl ?_
    refine AO.yld _ (Yld.nilCheck rfl rfl) rfl rfl rfl ?_
    refine AO.yld _ (Yld.fieldAddr Tryd.underlying117 rfl rfl Tryd.sizeOf3 rfl rfl rfl) rfl rfl rfl ?_
    refine AO.yld _ (Yld.load Tryd.isAgg3 rfl rfl) rfl rfl rfl ?_
    refine AO.yld _ (Yld.add rfl rfl (by omega) (by omega)) rfl rfl rfl ?_
    refine AO.yld _ (Yld.nilCheck rfl rfl) rfl rfl rfl ?_
    refine AO.yld _ (Yld.fieldAddr Tryd.underlying117 rfl rfl Tryd.sizeOf3 rfl rfl rfl) rfl rfl rfl ?_
    refine AO.store Tryd.sizeOf3 rfl rfl rfl rfl rfl rfl ?_
    refine AO.nil ?_
    refine AC.seq ?_
    refine AC.region ?_
    refine AO.yld _ (Yld.move rfl) rfl rfl rfl ?_
    refine AO.yld _ (Yld.move rfl) rfl rfl rfl ?_
    refine AO.yld _ (Yld.nilCheck rfl rfl) rfl rfl rfl ?_
    refine AO.yld _ (Yld.fieldAddr Tryd.underlying117 rfl rfl Tryd.sizeOf115 rfl rfl rfl) rfl rfl rfl ?_
    refine AO.yld _ (Yld.load Tryd.isAgg115 rfl rfl) rfl rfl rfl ?_
    refine AO.yld _ (Yld.int rfl rfl rfl) rfl rfl rfl ?_
    refine AO.yld _ (Yld.move rfl) rfl rfl rfl ?_
    refine AO.yld _ (Yld.convInt Tryd.underlying3 Tryd.underlying115 rfl) rfl rfl rfl ?_
    refine AO.yld _ (Yld.int rfl rfl rfl) rfl rfl rfl ?_
    refine AO.yld _ (Yld.int rfl rfl rfl) rfl rfl rfl ?_
    refine AO.yld _ (Yld.nilCheck rfl rfl) rfl rfl rfl ?_
    refine AO.yld _ (Yld.fieldAddr Tryd.underlying117 rfl rfl Tryd.sizeOf115 rfl rfl rfl) rfl rfl rfl ?_
    refine AO.store Tryd.sizeOf115 rfl rfl rfl rfl rfl rfl ?_
    refine AO.nil ?_
    refine AC.seq ?_
    refine AC.seq ?_
    refine AC.draw (by kernel_rfl) (by kernel_rfl) ?_
    refine AO.yld _ (Yld.move rfl) rfl rfl rfl ?_
    refine AO.yld _ (Yld.nilCheck rfl rfl) rfl rfl rfl ?_
    refine AO.yld _ (Yld.fieldAddr Tryd.underlying117 rfl rfl Tryd.sizeOf3 rfl rfl rfl) rfl rfl rfl ?_
    refine AO.yld _ (Yld.load Tryd.isAgg3 rfl rfl) rfl rfl rfl ?_
    refine AO.yld _ (Yld.move rfl) rfl rfl rfl ?_
    refine AO.yld _ (Yld.nilCheck rfl rfl) rfl rfl rfl ?_
    refine AO.yld _ (Yld.fieldAddr Tryd.underlying117 rfl rfl Tryd.sizeOf22 rfl rfl rfl) rfl rfl rfl ?_
    refine AO.yld _ (Yld.load Tryd.isAgg22 rfl rfl) rfl rfl rfl ?_
    refine AO.yld _ (Yld.len Tryd.underlying22 rfl rfl) rfl rfl rfl ?_
    refine AO.yld _ (Yld.int rfl rfl rfl) rfl rfl rfl ?_
    refine AO.nil ?_
    refine AC.cond _ rfl (fun c53 => ?_) (fun c53 => ?_)
    · -- c53 True
      refine AC.seq ?_
      refine AC.region ?_
      refine AO.yld _ (Yld.move rfl) rfl rfl rfl ?_
      refine AO.yld _ (Yld.assign rfl) rfl rfl rfl ?_
      refine AO.nil ?_
      refine FnE.ret (_, _) [0] [0] Tryd.results102 (RVs.cons (RV.tmp rfl) RVs.nil) rfl rfl rfl ?_ rfl ⟨⟨_, rfl, rfl⟩, trivial⟩
      · -- holds
        show 0 ≤ _ ∧ _ ≤ _; first | exact byte_u8 _ | exact byte_of _ | exact ⟨by decide, by decide⟩
    · -- c53 False
      refine AC.skip ?_
      refine AC.seq ?_
      refine AC.region ?_
      refine AO.yld _ (Yld.move rfl) rfl rfl rfl ?_
      refine AO.yld _ (Yld.nilCheck rfl rfl) rfl rfl rfl ?_
      refine AO.yld _ (Yld.fieldAddr Tryd.underlying117 rfl rfl Tryd.sizeOf115 rfl rfl rfl) rfl rfl rfl ?_
      refine AO.yld _ (Yld.load Tryd.isAgg115 rfl rfl) rfl rfl rfl ?_
      refine AO.yld _ (Yld.shr rfl rfl (by omega)) rfl rfl rfl ?_
      refine AO.yld _ (Yld.and rfl rfl) rfl rfl rfl ?_
      refine AO.yld _ (Yld.convInt Tryd.underlying115 Tryd.underlying2 rfl) rfl rfl rfl ?_
      refine AO.yld _ (Yld.assign rfl) rfl rfl rfl ?_
      refine AO.nil ?_
      refine FnE.ret (_, _) [0] [0] Tryd.results102 (RVs.cons (RV.tmp rfl) RVs.nil) rfl rfl rfl ?_ rfl ⟨⟨_, rfl, rfl⟩, trivial⟩
      · -- holds
        show 0 ≤ _ ∧ _ ≤ _; first | exact byte_u8 _ | exact byte_of _ | exact ⟨by decide, by decide⟩

theorem src_pick_c {code : List UInt8} {p sd n : Int} (h0 : 0 ≤ p) (h1 : p ≤ 4611686018427387000) (h2 : 1 < n) :
    FnE (α := Int × Int × Int) Tryd.prog 75 [.h 0, .p (.v (.int .i64 n))] [(0, .box 117 [.p (.sl 1 (code.map encB)), .p (.v (.int .i64 p)), .p (.v (.int .u64 sd))])] [0] (fun ⟨v, q, s⟩ => 0 ≤ v ∧ v < n ∧ p ≤ q ∧ q ≤ p + 2) (fun ⟨v, q, s⟩ => .p (.v (.int .i64 v))) (fun ⟨v, q, s⟩ => [(0, .box 117 [.p (.sl 1 (code.map encB)), .p (.v (.int .i64 q)), .p (.v (.int .u64 s))])]) := by
  refine FnE.intro Tryd.func75 rfl Tryd.ntmps75 rfl rfl (fun w0 F0 η φ w => ?_)
  refine AC.seq ?_
  refine AC.region ?_
  refine AO.yld _ (Yld.assign rfl) rfl rfl rfl ?_
  refine AO.nil ?_
  refine AC.seq ?_
  refine AC.seq ?_
  refine AC.region ?_
  refine AO.yld _ (Yld.move rfl) rfl rfl rfl ?_
  refine AO.yld _ (Yld.int rfl rfl rfl) rfl rfl rfl ?_
  refine AO.nil ?_
  refine AC.cond _ rfl (fun c7 => ?_) (fun c7 => ?_)
  · -- c7 True
    exfalso; have h := c7; simp at h; omega
  · -- c7 False
    refine AC.skip ?_
    refine AC.seq ?_
    refine AC.region ?_
    refine AO.yld _ (Yld.move rfl) rfl rfl rfl ?_
    refine AO.callW (wantedN rfl) [0] [0] [0] rfl rfl Tryd.call102 rfl (src_next_c (by omega) (by omega)) (.own rfl) rfl (fun ⟨_, _⟩ => rfl) ⟨rfl, trivial⟩ rfl (fun ⟨_, _⟩ => rfl) (fun ⟨_, _⟩ => rfl) (fun ⟨v9, s9⟩ hv9 => ?_)
    dsimp only at hv9
    refine AO.yld _ (Yld.assign rfl) rfl rfl rfl ?_
    refine AO.nil ?_
    refine AC.seq ?_
    refine AC.seq ?_
    refine AC.region ?_
    refine AO.yld _ (Yld.move rfl) rfl rfl rfl ?_
    refine AO.yld _ (Yld.int rfl rfl rfl) rfl rfl rfl ?_
    refine AO.nil ?_
    refine AC.cond _ rfl (fun c11 => ?_) (fun c11 => ?_)
    · -- c11 True
      refine AC.region ?_
      refine AO.yld _ (Yld.move rfl) rfl rfl rfl ?_
      refine AO.yld _ (Yld.mul rfl rfl (by omega) (by omega)) rfl rfl rfl ?_
      refine AO.yld _ (Yld.move rfl) rfl rfl rfl ?_
      refine AO.callW (wantedN rfl) [0] [0] [0] rfl rfl Tryd.call102 rfl (src_next_c (by omega) (by omega)) (.own rfl) rfl (fun ⟨_, _⟩ => rfl) ⟨rfl, trivial⟩ rfl (fun ⟨_, _⟩ => rfl) (fun ⟨_, _⟩ => rfl) (fun ⟨v15, s15⟩ hv15 => ?_)
      dsimp only at hv15
      refine AO.yld _ (Yld.add rfl rfl (by omega) (by omega)) rfl rfl rfl ?_
      refine AO.yld _ (Yld.assign rfl) rfl rfl rfl ?_
      refine AO.nil ?_
      refine AC.seq ?_
      refine AC.region ?_
      refine AO.yld _ (Yld.move rfl) rfl rfl rfl ?_
      refine AO.yld _ (Yld.move rfl) rfl rfl rfl ?_
      refine AO.yld _ (Yld.rem rfl rfl (by omega)) rfl rfl rfl ?_
      refine AO.yld _ (Yld.assign rfl) rfl rfl rfl ?_
      refine AO.nil ?_
      refine FnE.ret (_, _, _) [0] [0] Tryd.results75 (RVs.cons (RV.tmp rfl) RVs.nil) rfl rfl rfl ?_ rfl ⟨⟨_, rfl, rfl⟩, trivial⟩
      · -- holds
        show 0 ≤ _ ∧ _ < _ ∧ _ ≤ _ ∧ _ ≤ _; first | exact pick_lim hv9 (by omega) (by omega) | exact pick_lim2 hv9 hv15 (by omega) (by omega)
    · -- c11 False
      refine AC.skip ?_
      refine AC.seq ?_
      refine AC.region ?_
      refine AO.yld _ (Yld.move rfl) rfl rfl rfl ?_
      refine AO.yld _ (Yld.move rfl) rfl rfl rfl ?_
      refine AO.yld _ (Yld.rem rfl rfl (by omega)) rfl rfl rfl ?_
      refine AO.yld _ (Yld.assign rfl) rfl rfl rfl ?_
      refine AO.nil ?_
      refine FnE.ret (_, _, _) [0] [0] Tryd.results75 (RVs.cons (RV.tmp rfl) RVs.nil) rfl rfl rfl ?_ rfl ⟨⟨_, rfl, rfl⟩, trivial⟩
      · -- holds
        show 0 ≤ _ ∧ _ < _ ∧ _ ≤ _ ∧ _ ≤ _; first | exact pick_lim hv9 (by omega) (by omega) | exact pick_lim2 hv9 hv15 (by omega) (by omega)

theorem laws_b10Long_c {code : List UInt8} :
    Pure Tryd.prog 21 [.sl 1 (code.map encB)] (.v (.bool (decide ((code.length : Int) > 1048576)))) := by
  refine Pure.intro Tryd.func21 rfl Tryd.ntmps21 rfl rfl (fun w => ?_)
  refine AC.seq ?_
  refine AC.region ?_
  refine AO.yld _ (Yld.assign rfl) rfl rfl rfl ?_
  refine AO.nil ?_
  refine AC.seq ?_
  refine AC.region ?_
  refine AO.yld _ (Yld.move rfl) rfl rfl rfl ?_
  refine AO.yld _ (Yld.len Tryd.underlying22 rfl rfl) rfl rfl rfl ?_
  refine AO.yld _ (Yld.int rfl rfl rfl) rfl rfl rfl ?_
  refine AO.yld _ (Yld.assign rfl) rfl rfl rfl ?_
  refine AO.nil ?_
  refine Pure.ret Tryd.results21 (RVs.cons (RV.tmp rfl) RVs.nil) rfl ?_
  refine cb ?_; simp only [List.length_map] at *

theorem spec_l00From_c {code : List UInt8} :
    FnE (α := Unit) Tryd.prog 33 [.p (.sl 1 (code.map encB))] [] [] (fun _ => True) (fun _ => .h 0) (fun _ => [(0, .box 117 [.p (.sl 1 (code.map encB)), .p (.v (.int .i64 0)), .p (.v (.int .u64 0))])]) := by
  refine FnE.intro Tryd.func33 rfl Tryd.ntmps33 rfl rfl (fun w0 F0 η φ w => ?_)
  refine AC.seq ?_
  refine AC.region ?_
  refine AO.yld _ (Yld.assign rfl) rfl rfl rfl ?_
  refine AO.nil ?_
  refine AC.seq ?_
  refine AC.region ?_
  refine AO.yld _ (Yld.move rfl) rfl rfl rfl ?_
  refine AO.yld _ (Yld.buildA (zs := [.sl 0 [], .v (.int .i64 0), .v (.int .u64 0)]) bld117 rfl rfl) rfl rfl rfl ?_
  refine AO.box 0 rfl rfl rfl rfl rfl ?_
  refine AO.yld _ (Yld.assign rfl) rfl rfl rfl ?_
  refine AO.nil ?_
  refine FnE.ret () [0] [0] Tryd.results33 (RVs.cons (RV.tmp rfl) RVs.nil) rfl rfl rfl ?_ ?_ ⟨⟨_, rfl, ?_⟩, trivial⟩
  · -- holds
    trivial
  · -- value
    rfl
  · -- thing 0
    rfl

theorem src_pick1_c {code : List UInt8} {p sd n : Int} (h0 : 0 ≤ p) (h1 : p ≤ 4611686018427387000) (h2 : 0 < n) :
    FnE (α := Int × Int × Int) Tryd.prog 75 [.h 0, .p (.v (.int .i64 n))] [(0, .box 117 [.p (.sl 1 (code.map encB)), .p (.v (.int .i64 p)), .p (.v (.int .u64 sd))])] [0] (fun ⟨v, q, s⟩ => 0 ≤ v ∧ v < n ∧ p ≤ q ∧ q ≤ p + 2) (fun ⟨v, q, s⟩ => .p (.v (.int .i64 v))) (fun ⟨v, q, s⟩ => [(0, .box 117 [.p (.sl 1 (code.map encB)), .p (.v (.int .i64 q)), .p (.v (.int .u64 s))])]) := by
  refine FnE.intro Tryd.func75 rfl Tryd.ntmps75 rfl rfl (fun w0 F0 η φ w => ?_)
  refine AC.seq ?_
  refine AC.region ?_
  refine AO.yld _ (Yld.assign rfl) rfl rfl rfl ?_
  refine AO.nil ?_
  refine AC.seq ?_
  refine AC.seq ?_
  refine AC.region ?_
  refine AO.yld _ (Yld.move rfl) rfl rfl rfl ?_
  refine AO.yld _ (Yld.int rfl rfl rfl) rfl rfl rfl ?_
  refine AO.nil ?_
  refine AC.cond _ rfl (fun c7 => ?_) (fun c7 => ?_)
  · -- c7 True
    refine AC.seq ?_
    refine AC.region ?_
    refine AO.yld _ (Yld.assign rfl) rfl rfl rfl ?_
    refine AO.nil ?_
    refine FnE.ret (_, _, _) [0] [0] Tryd.results75 (RVs.cons (RV.tmp rfl) RVs.nil) rfl rfl rfl ?_ rfl ⟨⟨_, rfl, rfl⟩, trivial⟩
    · -- holds
      show 0 ≤ _ ∧ _ < _ ∧ _ ≤ _ ∧ _ ≤ _; first | exact pickR0 h2 | exact pick_lim hv9 (by have h := c7; simp at h; omega) (by omega) | exact pick_lim2 hv9 hv15 (by have h := c7; simp at h; omega) (by omega)
  · -- c7 False
    refine AC.skip ?_
    refine AC.seq ?_
    refine AC.region ?_
    refine AO.yld _ (Yld.move rfl) rfl rfl rfl ?_
    refine AO.callW (wantedN rfl) [0] [0] [0] rfl rfl Tryd.call102 rfl (src_next_c (by omega) (by omega)) (.own rfl) rfl (fun ⟨_, _⟩ => rfl) ⟨rfl, trivial⟩ rfl (fun ⟨_, _⟩ => rfl) (fun ⟨_, _⟩ => rfl) (fun ⟨v9, s9⟩ hv9 => ?_)
    dsimp only at hv9
    refine AO.yld _ (Yld.assign rfl) rfl rfl rfl ?_
    refine AO.nil ?_
    refine AC.seq ?_
    refine AC.seq ?_
    refine AC.region ?_
    refine AO.yld _ (Yld.move rfl) rfl rfl rfl ?_
    refine AO.yld _ (Yld.int rfl rfl rfl) rfl rfl rfl ?_
    refine AO.nil ?_
    refine AC.cond _ rfl (fun c11 => ?_) (fun c11 => ?_)
    · -- c11 True
      refine AC.region ?_
      refine AO.yld _ (Yld.move rfl) rfl rfl rfl ?_
      refine AO.yld _ (Yld.mul rfl rfl (by omega) (by omega)) rfl rfl rfl ?_
      refine AO.yld _ (Yld.move rfl) rfl rfl rfl ?_
      refine AO.callW (wantedN rfl) [0] [0] [0] rfl rfl Tryd.call102 rfl (src_next_c (by omega) (by omega)) (.own rfl) rfl (fun ⟨_, _⟩ => rfl) ⟨rfl, trivial⟩ rfl (fun ⟨_, _⟩ => rfl) (fun ⟨_, _⟩ => rfl) (fun ⟨v15, s15⟩ hv15 => ?_)
      dsimp only at hv15
      refine AO.yld _ (Yld.add rfl rfl (by omega) (by omega)) rfl rfl rfl ?_
      refine AO.yld _ (Yld.assign rfl) rfl rfl rfl ?_
      refine AO.nil ?_
      refine AC.seq ?_
      refine AC.region ?_
      refine AO.yld _ (Yld.move rfl) rfl rfl rfl ?_
      refine AO.yld _ (Yld.move rfl) rfl rfl rfl ?_
      refine AO.yld _ (Yld.rem rfl rfl (by have h := c7; simp at h; omega)) rfl rfl rfl ?_
      refine AO.yld _ (Yld.assign rfl) rfl rfl rfl ?_
      refine AO.nil ?_
      refine FnE.ret (_, _, _) [0] [0] Tryd.results75 (RVs.cons (RV.tmp rfl) RVs.nil) rfl rfl rfl ?_ rfl ⟨⟨_, rfl, rfl⟩, trivial⟩
      · -- holds
        show 0 ≤ _ ∧ _ < _ ∧ _ ≤ _ ∧ _ ≤ _; first | exact pickR0 h2 | exact pick_lim hv9 (by have h := c7; simp at h; omega) (by omega) | exact pick_lim2 hv9 hv15 (by have h := c7; simp at h; omega) (by omega)
    · -- c11 False
      refine AC.skip ?_
      refine AC.seq ?_
      refine AC.region ?_
      refine AO.yld _ (Yld.move rfl) rfl rfl rfl ?_
      refine AO.yld _ (Yld.move rfl) rfl rfl rfl ?_
      refine AO.yld _ (Yld.rem rfl rfl (by have h := c7; simp at h; omega)) rfl rfl rfl ?_
      refine AO.yld _ (Yld.assign rfl) rfl rfl rfl ?_
      refine AO.nil ?_
      refine FnE.ret (_, _, _) [0] [0] Tryd.results75 (RVs.cons (RV.tmp rfl) RVs.nil) rfl rfl rfl ?_ rfl ⟨⟨_, rfl, rfl⟩, trivial⟩
      · -- holds
        show 0 ≤ _ ∧ _ < _ ∧ _ ≤ _ ∧ _ ≤ _; first | exact pickR0 h2 | exact pick_lim hv9 (by have h := c7; simp at h; omega) (by omega) | exact pick_lim2 hv9 hv15 (by have h := c7; simp at h; omega) (by omega)

theorem src_one_c {code : List UInt8} {p sd n : Int} (h0 : 0 ≤ p) (h1 : p ≤ 2000000000000000000) (h2 : 1 < n) :
    FnE (α := Bool × Int × Int) Tryd.prog 76 [.h 0, .p (.v (.int .i64 n))] [(0, .box 117 [.p (.sl 1 (code.map encB)), .p (.v (.int .i64 p)), .p (.v (.int .u64 sd))])] [0] (fun ⟨b, q, s⟩ => p ≤ q ∧ q ≤ p + 2) (fun ⟨b, q, s⟩ => .p (.v (.bool b))) (fun ⟨b, q, s⟩ => [(0, .box 117 [.p (.sl 1 (code.map encB)), .p (.v (.int .i64 q)), .p (.v (.int .u64 s))])]) := by
  refine FnE.intro Tryd.func76 rfl Tryd.ntmps76 rfl rfl (fun w0 F0 η φ w => ?_)
  refine AC.seq ?_
  refine AC.region ?_
  refine AO.yld _ (Yld.assign rfl) rfl rfl rfl ?_
  refine AO.nil ?_
  refine AC.seq ?_
  refine AC.region ?_
  refine AO.yld _ (Yld.move rfl) rfl rfl rfl ?_
  refine AO.yld _ (Yld.move rfl) rfl rfl rfl ?_
  refine AO.callW (wantedN rfl) [0] [0] [0] rfl rfl Tryd.call75 rfl (src_pick_c (by omega) (by omega) (by omega)) (.own rfl) rfl (fun ⟨_, _, _⟩ => rfl) ⟨rfl, trivial⟩ rfl (fun ⟨_, _, _⟩ => rfl) (fun ⟨_, _, _⟩ => rfl) (fun ⟨v7, q7, s7⟩ hv7 => ?_)
  dsimp only at hv7
  refine AO.yld _ (Yld.int rfl rfl rfl) rfl rfl rfl ?_
  refine AO.yld _ (Yld.assign rfl) rfl rfl rfl ?_
  refine AO.nil ?_
  refine FnE.ret (_, _, _) [0] [0] Tryd.results76 (RVs.cons (RV.tmp rfl) RVs.nil) rfl rfl rfl ?_ rfl ⟨⟨_, rfl, rfl⟩, trivial⟩
  · -- holds
    show _ ≤ _ ∧ _ ≤ _; omega

theorem src_among_c {code : List UInt8} {p sd : Int} (h0 : 0 ≤ p) (h1 : p ≤ 2000000000000000000) {xs : List (Int)} (hx : 1 < xs.length) (hl : xs.length ≤ 1000) :
    FnE (α := Int × Int × Int) Tryd.prog 94 [.h 0, .h 1] [(0, .box 117 [.p (.sl 1 (code.map encB)), .p (.v (.int .i64 p)), .p (.v (.int .u64 sd))]), (1, .vec 2 1 (xs.map Go.V.encI))] [0] (fun ⟨v, q, s⟩ => v ∈ xs ∧ p ≤ q ∧ q ≤ p + 2) (fun ⟨v, q, s⟩ => .p (.v (.int .i64 v))) (fun ⟨v, q, s⟩ => [(0, .box 117 [.p (.sl 1 (code.map encB)), .p (.v (.int .i64 q)), .p (.v (.int .u64 s))])]) := by
  have hM : (xs.map Go.V.encI).length = xs.length := List.length_map ..
  refine FnE.intro Tryd.func94 rfl Tryd.ntmps94 rfl rfl (fun w0 F0 η φ w => ?_)
  refine AC.seq ?_
  refine AC.region ?_
  refine AO.yld _ (Yld.assign rfl) rfl rfl rfl ?_
  refine AO.nil ?_
  refine AC.seq ?_
  refine AC.region ?_
  refine AO.yld _ (Yld.move rfl) rfl rfl rfl ?_
  refine AO.yld _ (Yld.move rfl) rfl rfl rfl ?_
  refine AO.yld _ (Yld.move rfl) rfl rfl rfl ?_
  refine AO.yld _ (Yld.len Tryd.underlying39 rfl rfl) rfl rfl rfl ?_
  refine AO.callW (wantedN rfl) [0] [0] [0] rfl rfl Tryd.call75 rfl (src_pick_c (by omega) (by omega) (by rw [hM]; omega)) (.own rfl) rfl (fun ⟨_, _, _⟩ => rfl) ⟨rfl, trivial⟩ rfl (fun ⟨_, _, _⟩ => rfl) (fun ⟨_, _, _⟩ => rfl) (fun ⟨v9, q9, s9⟩ hv9 => ?_)
  dsimp only at hv9
  rw [hM] at hv9
  obtain ⟨j, hj⟩ := Int.eq_ofNat_of_zero_le hv9.1
  obtain ⟨y, hy⟩ := get_some (xs := xs) (k := j) (by omega)
  have hrow := map_row (enc := Go.V.encI) hy
  refine AO.yld _ (Yld.indexVec Tryd.underlying39 Tryd.sizeOf2 rfl rfl rfl hj (by rw [hM]; omega)) rfl rfl rfl ?_
  refine AO.yld _ (Yld.load Tryd.isAgg2 rfl (Eq.trans (behind_el rfl hrow) rfl)) rfl rfl rfl ?_
  refine AO.yld _ (Yld.assign rfl) rfl rfl rfl ?_
  refine AO.nil ?_
  refine FnE.ret (_, _, _) [0] [0] Tryd.results94 (RVs.cons (RV.tmp rfl) RVs.nil) rfl rfl rfl ?_ rfl ⟨⟨_, rfl, rfl⟩, trivial⟩
  · -- holds
    exact ⟨List.mem_of_getElem? hy, by omega, by omega⟩

theorem src_text_c {code : List UInt8} {p sd : Int} (h0 : 0 ≤ p) (h1 : p ≤ 2000000000000000000) {xs : List (List UInt8)} (hx : 1 < xs.length) (hl : xs.length ≤ 1000) :
    FnE (α := (List UInt8) × Int × Int) Tryd.prog 64 [.h 0, .h 1] [(0, .box 117 [.p (.sl 1 (code.map encB)), .p (.v (.int .i64 p)), .p (.v (.int .u64 sd))]), (1, .vec 9 1 (xs.map Go.V.encS))] [0] (fun ⟨v, q, s⟩ => v ∈ xs ∧ p ≤ q ∧ q ≤ p + 2) (fun ⟨v, q, s⟩ => .p (.v (str v))) (fun ⟨v, q, s⟩ => [(0, .box 117 [.p (.sl 1 (code.map encB)), .p (.v (.int .i64 q)), .p (.v (.int .u64 s))])]) := by
  have hM : (xs.map Go.V.encS).length = xs.length := List.length_map ..
  refine FnE.intro Tryd.func64 rfl Tryd.ntmps64 rfl rfl (fun w0 F0 η φ w => ?_)
  refine AC.seq ?_
  refine AC.region ?_
  refine AO.yld _ (Yld.assign rfl) rfl rfl rfl ?_
  refine AO.nil ?_
  refine AC.seq ?_
  refine AC.region ?_
  refine AO.yld _ (Yld.move rfl) rfl rfl rfl ?_
  refine AO.yld _ (Yld.move rfl) rfl rfl rfl ?_
  refine AO.yld _ (Yld.move rfl) rfl rfl rfl ?_
  refine AO.yld _ (Yld.len Tryd.underlying106 rfl rfl) rfl rfl rfl ?_
  refine AO.callW (wantedN rfl) [0] [0] [0] rfl rfl Tryd.call75 rfl (src_pick_c (by omega) (by omega) (by rw [hM]; omega)) (.own rfl) rfl (fun ⟨_, _, _⟩ => rfl) ⟨rfl, trivial⟩ rfl (fun ⟨_, _, _⟩ => rfl) (fun ⟨_, _, _⟩ => rfl) (fun ⟨v9, q9, s9⟩ hv9 => ?_)
  dsimp only at hv9
  rw [hM] at hv9
  obtain ⟨j, hj⟩ := Int.eq_ofNat_of_zero_le hv9.1
  obtain ⟨y, hy⟩ := get_some (xs := xs) (k := j) (by omega)
  have hrow := map_row (enc := Go.V.encS) hy
  refine AO.yld _ (Yld.indexVec Tryd.underlying106 Tryd.sizeOf9 rfl rfl rfl hj (by rw [hM]; omega)) rfl rfl rfl ?_
  refine AO.yld _ (Yld.load Tryd.isAgg9 rfl (Eq.trans (behind_el rfl hrow) rfl)) rfl rfl rfl ?_
  refine AO.yld _ (Yld.assign rfl) rfl rfl rfl ?_
  refine AO.nil ?_
  refine FnE.ret (_, _, _) [0] [0] Tryd.results64 (RVs.cons (RV.tmp rfl) RVs.nil) rfl rfl rfl ?_ rfl ⟨⟨_, rfl, rfl⟩, trivial⟩
  · -- holds
    exact ⟨List.mem_of_getElem? hy, by omega, by omega⟩

theorem spec_l01Dec_c {n : Int} (hn : n.natAbs < 1000000000000000000) :
    Pure Tryd.prog 95 [.v (.int .i64 n)] (.v (str (Lib.itoa n))) := by
  refine Pure.intro Tryd.func95 rfl Tryd.ntmps95 rfl rfl (fun w => ?_)
  refine AC.seq ?_
  refine AC.region ?_
  refine AO.yld _ (Yld.assign rfl) rfl rfl rfl ?_
  refine AO.nil ?_
  refine AC.seq ?_
  refine AC.seq ?_
  refine AC.region ?_
  refine AO.yld _ (Yld.move rfl) rfl rfl rfl ?_
  refine AO.yld _ (Yld.int rfl rfl rfl) rfl rfl rfl ?_
  refine AO.nil ?_
  refine AC.cond _ rfl (fun c9 => ?_) (fun c9 => ?_)
  · -- c9 True
    have hz : n = 0 := by simpa using c9
    refine AC.seq ?_
    refine AC.region ?_
    refine AO.yld _ (Yld.assign rfl) rfl rfl rfl ?_
    refine AO.nil ?_
    refine Pure.ret Tryd.results95 (RVs.cons (RV.tmp rfl) RVs.nil) rfl ?_
    first
      | (subst hz; exact congrArg (fun s => PV.v (str s)) itoa_zero.symm)
      | (refine congrArg (fun s => PV.v (str s)) ?_; rw [itoa_rev hz, List.take_of_length_le (by simp)])
  · -- c9 False
    have hz : n ≠ 0 := by simpa using c9
    have hl18 := revN_len18 hn
    have hl19 := revD_len hn
    refine AC.skip ?_
    refine AC.seq ?_
    refine AC.region ?_
    refine AO.buildSlice (rows := []) 0 Tryd.underlying22 ty5 rfl rfl rfl rfl rfl rfl rfl rfl rfl ?_
    refine AO.yld _ (Yld.assign rfl) rfl rfl rfl ?_
    refine AO.nil ?_
    refine AC.seq ?_
    refine AC.seq ?_
    refine AC.region ?_
    refine AO.yld _ (Yld.move rfl) rfl rfl rfl ?_
    refine AO.yld _ (Yld.assign rfl) rfl rfl rfl ?_
    refine AO.nil ?_
    refine AC.block ?_
    refine AC.loopC2 [(0, _), (2, _)] [] (fun (m : Int) (acc : List UInt8) => [(4, .p (.v (.int .i64 m))), (3, .h 0)]) (fun (m : Int) (acc : List UInt8) => [(0, .vec 5 1 (acc.map encB))]) (fun (m : Int) (acc : List UInt8) => acc ++ revN m.natAbs = revN n.natAbs ∧ m.natAbs ≤ n.natAbs) (fun (m : Int) (acc : List UInt8) => m.natAbs) n [] ⟨rfl, rfl, trivial⟩ trivial ⟨rfl, rfl, trivial⟩ ⟨rfl, trivial⟩ ?_ (fun m acc hJ => ?_)
    · exact ⟨rfl, Nat.le_refl _⟩
    · -- round
      refine AC.seq ?_
      refine AC.seq ?_
      refine AC.region ?_
      refine AO.yld _ (Yld.move rfl) rfl rfl rfl ?_
      refine AO.yld _ (Yld.int rfl rfl rfl) rfl rfl rfl ?_
      refine AO.nil ?_
      refine AC.cond _ rfl (fun c13 => ?_) (fun c13 => ?_)
      · -- c13 True
        have hm0 : m ≠ 0 := by simpa using c13
        have hmd := tmod10 m
        have hla : acc.length ≤ 18 := by have := congrArg List.length hJ.1; simp only [List.length_append] at this; omega
        refine AC.skip ?_
        refine AC.seq ?_
        refine AC.block ?_
        refine AC.seq ?_
        refine AC.region ?_
        refine AO.yld _ (Yld.move rfl) rfl rfl rfl ?_
        refine AO.yld _ (Yld.rem rfl rfl (by decide)) rfl rfl rfl ?_
        refine AO.yld _ (Yld.assign rfl) rfl rfl rfl ?_
        refine AO.nil ?_
        refine AC.seq ?_
        refine AC.seq ?_
        refine AC.region ?_
        refine AO.yld _ (Yld.move rfl) rfl rfl rfl ?_
        refine AO.yld _ (Yld.int rfl rfl rfl) rfl rfl rfl ?_
        refine AO.nil ?_
        refine AC.cond _ rfl (fun c19 => ?_) (fun c19 => ?_)
        · -- c19 True
          have hng : m.tmod 10 < 0 := by simpa using c19
          have hrow9 : encB (UInt8.ofNat (48 + (m.tmod 10).natAbs)) = [PV.v (.int .u8 (IntKind.u8.wrap (48 + -(m.tmod 10))))] := by unfold encB; rw [digit_of (k := (m.tmod 10).natAbs) (by omega) (by omega)]
          refine AC.region ?_
          refine AO.yld _ (Yld.move rfl) rfl rfl rfl ?_
          refine AO.yld _ (Yld.negN rfl (by omega) (by omega)) rfl rfl rfl ?_
          refine AO.yld _ (Yld.assign rfl) rfl rfl rfl ?_
          refine AO.nil ?_
          refine AC.region ?_
          refine AO.yld _ (Yld.move rfl) rfl rfl rfl ?_
          refine AO.yld _ (Yld.move rfl) rfl rfl rfl ?_
          refine AO.yld _ (Yld.add rfl rfl (by omega) (by omega)) rfl rfl rfl ?_
          refine AO.yld _ (Yld.convInt Tryd.underlying2 Tryd.underlying5 rfl) rfl rfl rfl ?_
          refine AO.buildSlice (rows := [[_]]) 1 Tryd.underlying22 ty5 rfl rfl rfl rfl rfl rfl rfl rfl rfl ?_
          refine AO.append 0 Tryd.underlying22 ty5 rfl rfl rfl rfl rfl rfl rfl (by simp [pvOne]) (by simp only [List.length_map, List.length_cons, List.length_nil]; omega) (by simp only [List.length_map, List.length_cons, List.length_nil]; omega) rfl ?_
          refine AO.yld _ (Yld.assign rfl) rfl rfl rfl ?_
          refine AO.nil ?_
          refine AC.mark ?_
          refine AC.region ?_
          refine AO.yld _ (Yld.move rfl) rfl rfl rfl ?_
          refine AO.yld _ (Yld.quoP rfl rfl (by decide) (by omega) (by omega)) rfl rfl rfl ?_
          refine AO.yld _ (Yld.assign rfl) rfl rfl rfl ?_
          refine AO.nil ?_
          refine AC.back ⟨m.tdiv 10, acc ++ [UInt8.ofNat (48 + (m.tmod 10).natAbs)], ?_, ?_, ⟨?_, ?_, trivial⟩, ⟨?_, trivial⟩, ⟨rfl, rfl, trivial⟩, trivial⟩
          · exact ⟨by rw [List.append_assoc, ← hJ.1, dig_i hm0]; rfl, by rw [natAbs_t10]; omega⟩
          · rw [natAbs_t10]; omega
          · rfl
          · rfl
          · rw [map_snoc, hrow9]; rfl
        · -- c19 False
          have hng : ¬ m.tmod 10 < 0 := by simpa using c19
          have hrow9 : encB (UInt8.ofNat (48 + (m.tmod 10).natAbs)) = [PV.v (.int .u8 (IntKind.u8.wrap (48 + m.tmod 10)))] := by unfold encB; rw [digit_of (k := (m.tmod 10).natAbs) (by omega) (by omega)]
          refine AC.skip ?_
          refine AC.region ?_
          refine AO.yld _ (Yld.move rfl) rfl rfl rfl ?_
          refine AO.yld _ (Yld.move rfl) rfl rfl rfl ?_
          refine AO.yld _ (Yld.add rfl rfl (by omega) (by omega)) rfl rfl rfl ?_
          refine AO.yld _ (Yld.convInt Tryd.underlying2 Tryd.underlying5 rfl) rfl rfl rfl ?_
          refine AO.buildSlice (rows := [[_]]) 1 Tryd.underlying22 ty5 rfl rfl rfl rfl rfl rfl rfl rfl rfl ?_
          refine AO.append 0 Tryd.underlying22 ty5 rfl rfl rfl rfl rfl rfl rfl (by simp [pvOne]) (by simp only [List.length_map, List.length_cons, List.length_nil]; omega) (by simp only [List.length_map, List.length_cons, List.length_nil]; omega) rfl ?_
          refine AO.yld _ (Yld.assign rfl) rfl rfl rfl ?_
          refine AO.nil ?_
          refine AC.mark ?_
          refine AC.region ?_
          refine AO.yld _ (Yld.move rfl) rfl rfl rfl ?_
          refine AO.yld _ (Yld.quoP rfl rfl (by decide) (by omega) (by omega)) rfl rfl rfl ?_
          refine AO.yld _ (Yld.assign rfl) rfl rfl rfl ?_
          refine AO.nil ?_
          refine AC.back ⟨m.tdiv 10, acc ++ [UInt8.ofNat (48 + (m.tmod 10).natAbs)], ?_, ?_, ⟨?_, ?_, trivial⟩, ⟨?_, trivial⟩, ⟨rfl, rfl, trivial⟩, trivial⟩
          · exact ⟨by rw [List.append_assoc, ← hJ.1, dig_i hm0]; rfl, by rw [natAbs_t10]; omega⟩
          · rw [natAbs_t10]; omega
          · rfl
          · rfl
          · rw [map_snoc, hrow9]; rfl
      · -- c13 False
        have hm0 : m = 0 := by simpa using c13
        have hacc : acc = revN n.natAbs := by rw [← hJ.1, hm0]; simp [revN_zero]
        have hla : acc.length ≤ 18 := by rw [hacc]; exact hl18
        refine AC.exit rfl ?_
        refine AC.seq ?_
        refine AC.seq ?_
        refine AC.region ?_
        refine AO.yld _ (Yld.move rfl) rfl rfl rfl ?_
        refine AO.yld _ (Yld.int rfl rfl rfl) rfl rfl rfl ?_
        refine AO.nil ?_
        refine AC.cond _ rfl (fun c29 => ?_) (fun c29 => ?_)
        · -- c29 True
          have hneg : n < 0 := by simpa using c29
          refine AC.region ?_
          refine AO.yld _ (Yld.move rfl) rfl rfl rfl ?_
          refine AO.buildSlice (rows := [[_]]) 1 Tryd.underlying22 ty5 rfl rfl rfl rfl rfl rfl rfl rfl rfl ?_
          refine AO.append 0 Tryd.underlying22 ty5 rfl rfl rfl rfl rfl rfl rfl (by simp [pvOne]) (by simp only [List.length_map, List.length_cons, List.length_nil]; omega) (by simp only [List.length_map, List.length_cons, List.length_nil]; omega) rfl ?_
          refine AO.yld _ (Yld.assign rfl) rfl rfl rfl ?_
          refine AO.nil ?_
          refine AC.seq ?_
          refine AC.region ?_
          refine AO.freeze 0 rfl ?_
          first | rw [show List.map encB acc ++ [[PV.v (.int .u8 45)]] = (revD n).map encB from by unfold revD; rw [if_pos hneg, hacc, List.map_append]; rfl] | rw [show List.map encB acc = (revD n).map encB from by unfold revD; rw [if_neg hneg, hacc, List.append_nil]]
          refine AO.buildSlice (rows := []) 2 Tryd.underlying22 ty5 rfl rfl rfl rfl rfl rfl rfl rfl rfl ?_
          refine AO.yld _ (Yld.assign rfl) rfl rfl rfl ?_
          refine AO.nil ?_
          refine AC.seq ?_
          refine AC.seq ?_
          refine AC.region ?_
          refine AO.yld _ (Yld.move rfl) rfl rfl rfl ?_
          refine AO.yld _ (Yld.len Tryd.underlying22 rfl rfl) rfl rfl rfl ?_
          refine AO.yld _ (Yld.sub rfl rfl (by rw [List.length_map]; omega) (by rw [List.length_map]; omega)) rfl rfl rfl ?_
          refine AO.yld _ (Yld.assign rfl) rfl rfl rfl ?_
          refine AO.nil ?_
          refine AC.block ?_
          refine AC.loopC [(2, _), (3, _)] [(1, _)] (fun (j : Nat) => [(7, .p (.v (.int .i64 (((revD n).length : Int) - 1 - j)))), (6, .h 2)]) (fun (j : Nat) => [(2, .vec 5 1 (((revD n).reverse.take j).map encB))]) (fun (j : Nat) => j ≤ (revD n).length) (fun (j : Nat) => (revD n).length - j) 0 ⟨rfl, rfl, trivial⟩ ⟨rfl, trivial⟩ ⟨by show some (AV.p (PV.v (Value.int IntKind.i64 _))) = _; simp, rfl, trivial⟩ ⟨rfl, trivial⟩ ?_ (fun j hJ => ?_)
          · exact Nat.zero_le _
          · -- round
            refine AC.seq ?_
            refine AC.seq ?_
            refine AC.region ?_
            refine AO.yld _ (Yld.move rfl) rfl rfl rfl ?_
            refine AO.yld _ (Yld.int rfl rfl rfl) rfl rfl rfl ?_
            refine AO.nil ?_
            refine AC.cond _ rfl (fun c38 => ?_) (fun c38 => ?_)
            · -- c38 True
              have hj : j < (revD n).length := by have h := c38; simp only [decide_eq_true_eq] at h; omega
              obtain ⟨c, hc⟩ := get_some (xs := revD n) (k := (revD n).length - 1 - j) (by omega)
              have hrow := map_row (enc := encB) hc
              refine AC.skip ?_
              refine AC.seq ?_
              refine AC.block ?_
              refine AC.region ?_
              refine AO.yld _ (Yld.move rfl) rfl rfl rfl ?_
              refine AO.yld _ (Yld.move rfl) rfl rfl rfl ?_
              refine AO.yld _ (Yld.move rfl) rfl rfl rfl ?_
              refine AO.yld _ (Yld.indexSl Tryd.underlying22 Tryd.sizeOf5 rfl rfl hrow (by omega)) rfl rfl rfl ?_
              refine AO.yld _ (Yld.load Tryd.isAgg5 rfl rfl) rfl rfl rfl ?_
              refine AO.buildSlice (rows := [[_]]) 3 Tryd.underlying22 ty5 rfl rfl rfl rfl rfl rfl rfl rfl rfl ?_
              refine AO.append 2 Tryd.underlying22 ty5 rfl rfl rfl rfl rfl rfl rfl (by simp [pvOne]) (by simp only [List.length_map, List.length_cons, List.length_nil, List.length_take, List.length_reverse]; omega) (by simp only [List.length_map, List.length_cons, List.length_nil, List.length_take, List.length_reverse]; omega) rfl ?_
              refine AO.yld _ (Yld.assign rfl) rfl rfl rfl ?_
              refine AO.nil ?_
              refine AC.mark ?_
              refine AC.region ?_
              refine AO.yld _ (Yld.move rfl) rfl rfl rfl ?_
              refine AO.yld _ (Yld.sub rfl rfl (by omega) (by omega)) rfl rfl rfl ?_
              refine AO.yld _ (Yld.assign rfl) rfl rfl rfl ?_
              refine AO.nil ?_
              refine AC.back ⟨j + 1, ?_, ?_, ⟨?_, ?_, trivial⟩, ⟨?_, trivial⟩, ⟨rfl, rfl, trivial⟩, ⟨rfl, trivial⟩⟩
              · exact hj
              · omega
              · show some (AV.p (PV.v (Value.int IntKind.i64 _))) = _; congr 4; omega
              · rfl
              · rw [take_snoc (rev_at hc hj), map_snoc]; rfl
            · -- c38 False
              obtain rfl : j = (revD n).length := by have h := c38; simp only [decide_eq_false_iff_not] at h; omega
              refine AC.exit rfl ?_
              refine AC.seq ?_
              refine AC.region ?_
              refine AO.yld _ (Yld.move rfl) rfl rfl rfl ?_
              refine AO.yld _ (Yld.convBytes (l := ((revD n).reverse.take (revD n).length)) Tryd.underlying22 Tryd.underlying5 Tryd.underlying9 rfl (by rfl)) rfl rfl rfl ?_
              refine AO.yld _ (Yld.assign rfl) rfl rfl rfl ?_
              refine AO.nil ?_
              refine Pure.ret Tryd.results95 (RVs.cons (RV.tmp rfl) RVs.nil) rfl ?_
              first
                | (subst hz; exact congrArg (fun s => PV.v (str s)) itoa_zero.symm)
                | (refine congrArg (fun s => PV.v (str s)) ?_; rw [itoa_rev hz, List.take_of_length_le (by simp)])
        · -- c29 False
          have hneg : ¬ n < 0 := by simpa using c29
          refine AC.skip ?_
          refine AC.seq ?_
          refine AC.region ?_
          refine AO.freeze 0 rfl ?_
          first | rw [show List.map encB acc ++ [[PV.v (.int .u8 45)]] = (revD n).map encB from by unfold revD; rw [if_pos hneg, hacc, List.map_append]; rfl] | rw [show List.map encB acc = (revD n).map encB from by unfold revD; rw [if_neg hneg, hacc, List.append_nil]]
          refine AO.buildSlice (rows := []) 1 Tryd.underlying22 ty5 rfl rfl rfl rfl rfl rfl rfl rfl rfl ?_
          refine AO.yld _ (Yld.assign rfl) rfl rfl rfl ?_
          refine AO.nil ?_
          refine AC.seq ?_
          refine AC.seq ?_
          refine AC.region ?_
          refine AO.yld _ (Yld.move rfl) rfl rfl rfl ?_
          refine AO.yld _ (Yld.len Tryd.underlying22 rfl rfl) rfl rfl rfl ?_
          refine AO.yld _ (Yld.sub rfl rfl (by rw [List.length_map]; omega) (by rw [List.length_map]; omega)) rfl rfl rfl ?_
          refine AO.yld _ (Yld.assign rfl) rfl rfl rfl ?_
          refine AO.nil ?_
          refine AC.block ?_
          refine AC.loopC [(2, _), (3, _)] [] (fun (j : Nat) => [(7, .p (.v (.int .i64 (((revD n).length : Int) - 1 - j)))), (6, .h 1)]) (fun (j : Nat) => [(1, .vec 5 1 (((revD n).reverse.take j).map encB))]) (fun (j : Nat) => j ≤ (revD n).length) (fun (j : Nat) => (revD n).length - j) 0 ⟨rfl, rfl, trivial⟩ trivial ⟨by show some (AV.p (PV.v (Value.int IntKind.i64 _))) = _; simp, rfl, trivial⟩ ⟨rfl, trivial⟩ ?_ (fun j hJ => ?_)
          · exact Nat.zero_le _
          · -- round
            refine AC.seq ?_
            refine AC.seq ?_
            refine AC.region ?_
            refine AO.yld _ (Yld.move rfl) rfl rfl rfl ?_
            refine AO.yld _ (Yld.int rfl rfl rfl) rfl rfl rfl ?_
            refine AO.nil ?_
            refine AC.cond _ rfl (fun c38 => ?_) (fun c38 => ?_)
            · -- c38 True
              have hj : j < (revD n).length := by have h := c38; simp only [decide_eq_true_eq] at h; omega
              obtain ⟨c, hc⟩ := get_some (xs := revD n) (k := (revD n).length - 1 - j) (by omega)
              have hrow := map_row (enc := encB) hc
              refine AC.skip ?_
              refine AC.seq ?_
              refine AC.block ?_
              refine AC.region ?_
              refine AO.yld _ (Yld.move rfl) rfl rfl rfl ?_
              refine AO.yld _ (Yld.move rfl) rfl rfl rfl ?_
              refine AO.yld _ (Yld.move rfl) rfl rfl rfl ?_
              refine AO.yld _ (Yld.indexSl Tryd.underlying22 Tryd.sizeOf5 rfl rfl hrow (by omega)) rfl rfl rfl ?_
              refine AO.yld _ (Yld.load Tryd.isAgg5 rfl rfl) rfl rfl rfl ?_
              refine AO.buildSlice (rows := [[_]]) 2 Tryd.underlying22 ty5 rfl rfl rfl rfl rfl rfl rfl rfl rfl ?_
              refine AO.append 1 Tryd.underlying22 ty5 rfl rfl rfl rfl rfl rfl rfl (by simp [pvOne]) (by simp only [List.length_map, List.length_cons, List.length_nil, List.length_take, List.length_reverse]; omega) (by simp only [List.length_map, List.length_cons, List.length_nil, List.length_take, List.length_reverse]; omega) rfl ?_
              refine AO.yld _ (Yld.assign rfl) rfl rfl rfl ?_
              refine AO.nil ?_
              refine AC.mark ?_
              refine AC.region ?_
              refine AO.yld _ (Yld.move rfl) rfl rfl rfl ?_
              refine AO.yld _ (Yld.sub rfl rfl (by omega) (by omega)) rfl rfl rfl ?_
              refine AO.yld _ (Yld.assign rfl) rfl rfl rfl ?_
              refine AO.nil ?_
              refine AC.back ⟨j + 1, ?_, ?_, ⟨?_, ?_, trivial⟩, ⟨?_, trivial⟩, ⟨rfl, rfl, trivial⟩, trivial⟩
              · exact hj
              · omega
              · show some (AV.p (PV.v (Value.int IntKind.i64 _))) = _; congr 4; omega
              · rfl
              · rw [take_snoc (rev_at hc hj), map_snoc]; rfl
            · -- c38 False
              obtain rfl : j = (revD n).length := by have h := c38; simp only [decide_eq_false_iff_not] at h; omega
              refine AC.exit rfl ?_
              refine AC.seq ?_
              refine AC.region ?_
              refine AO.yld _ (Yld.move rfl) rfl rfl rfl ?_
              refine AO.yld _ (Yld.convBytes (l := ((revD n).reverse.take (revD n).length)) Tryd.underlying22 Tryd.underlying5 Tryd.underlying9 rfl (by rfl)) rfl rfl rfl ?_
              refine AO.yld _ (Yld.assign rfl) rfl rfl rfl ?_
              refine AO.nil ?_
              refine Pure.ret Tryd.results95 (RVs.cons (RV.tmp rfl) RVs.nil) rfl ?_
              first
                | (subst hz; exact congrArg (fun s => PV.v (str s)) itoa_zero.symm)
                | (refine congrArg (fun s => PV.v (str s)) ?_; rw [itoa_rev hz, List.take_of_length_le (by simp)])

theorem spec_l26DrawOne_c {code : List UInt8} {p sd : Int} (h0 : 0 ≤ p) (h1 : p ≤ 1000000000000000000) {nm : List UInt8} :
    FnE (α := Int × Int × Int × Int) Tryd.prog 92 [.h 0, .p (.v (str nm))] [(0, .box 117 [.p (.sl 1 (code.map encB)), .p (.v (.int .i64 p)), .p (.v (.int .u64 sd))])] [0] (fun ⟨pe, wi, q, s⟩ => p ≤ q ∧ q ≤ p + 4) (fun ⟨pe, wi, q, s⟩ => .agg [.p (.v (str nm)), .p (.v (.int .i64 pe)), .p (.v (.int .i64 wi))]) (fun ⟨pe, wi, q, s⟩ => [(0, .box 117 [.p (.sl 1 (code.map encB)), .p (.v (.int .i64 q)), .p (.v (.int .u64 s))])]) := by
  refine FnE.intro Tryd.func92 rfl Tryd.ntmps92 rfl rfl (fun w0 F0 η φ w => ?_)
  refine AC.seq ?_
  refine AC.region ?_
  refine AO.alloc 1 Tryd.zeroValue58 rfl rfl rfl ?_
  refine AO.nil ?_
  refine AC.seq ?_
  refine AC.region ?_
  refine AO.yld _ (Yld.move rfl) rfl rfl rfl ?_
  refine AO.yld _ (Yld.move rfl) rfl rfl rfl ?_
  refine AO.callW (wantedN rfl) [0] [0] [0] rfl rfl Tryd.call75 rfl (src_pick_c (by omega) (by omega) (by omega)) (.own rfl) rfl (fun ⟨_, _, _⟩ => rfl) ⟨rfl, trivial⟩ rfl (fun ⟨_, _, _⟩ => rfl) (fun ⟨_, _, _⟩ => rfl) (fun ⟨v8, q8, s8⟩ hv8 => ?_)
  dsimp only at hv8
  refine AO.yld _ (Yld.sub rfl rfl (by omega) (by omega)) rfl rfl rfl ?_
  refine AO.yld _ (Yld.buildA (zs := [.v (str []), .v (.int .i64 0), .v (.int .i64 0)]) bld58 rfl rfl) rfl rfl rfl ?_
  refine AO.alloc 2 Tryd.zeroValue58 rfl rfl rfl ?_
  refine AO.store Tryd.sizeOf58 rfl rfl rfl rfl rfl rfl ?_
  refine AO.nil ?_
  refine AC.seq ?_
  refine AC.region ?_
  refine AO.yld _ (Yld.move rfl) rfl rfl rfl ?_
  refine AO.buildSlice (rows := [[_], [_], [_], [_], [_], [_]]) 3 Tryd.underlying39 ty2 rfl rfl rfl rfl rfl rfl rfl rfl rfl ?_
  refine AO.callW (wantedN rfl) [0, 3] [0, 1] [0] rfl rfl Tryd.call94 rfl (src_among_c (by omega) (by omega) (xs := [0, 5, 20, 60, 61, 150]) (by decide) (by decide)) (.own rfl) rfl (fun ⟨_, _, _⟩ => rfl) ⟨rfl, rfl, trivial⟩ rfl (fun ⟨_, _, _⟩ => rfl) (fun ⟨_, _, _⟩ => rfl) (fun ⟨v13, q13, s13⟩ hv13 => ?_)
  dsimp only at hv13
  refine AO.yld _ (Yld.fieldAddr Tryd.underlying58 rfl rfl Tryd.sizeOf2 rfl rfl rfl) rfl rfl rfl ?_
  refine AO.store Tryd.sizeOf2 rfl rfl rfl rfl rfl rfl ?_
  refine AO.nil ?_
  refine AC.seq ?_
  refine AC.region ?_
  refine AO.yld _ (Yld.loadAgg Tryd.isAgg58 Tryd.sizeOf58 rfl rfl rfl rfl) rfl rfl rfl ?_
  refine AO.store Tryd.sizeOf58 rfl rfl rfl rfl rfl rfl ?_
  refine AO.nil ?_
  refine FnE.ret (_, _, _, _) [0] [0] Tryd.results92 (RVs.cons (RV.cell Tryd.isAgg58 Tryd.sizeOf58 rfl rfl rfl rfl) RVs.nil) rfl rfl rfl ?_ rfl ⟨⟨_, rfl, rfl⟩, trivial⟩
  · -- holds
    show _ ≤ _ ∧ _ ≤ _; omega

theorem spec_l26Bend_c {code : List UInt8} {p sd pe wi : Int} (h0 : 0 ≤ p) (h1 : p ≤ 1000000000000000000) {nm : List UInt8} (hn : nm.length ≤ 40) :
    FnE (α := (List UInt8) × Int × Int × Int × Int) Tryd.prog 93 [.h 0, .agg [.p (.v (str nm)), .p (.v (.int .i64 pe)), .p (.v (.int .i64 wi))]] [(0, .box 117 [.p (.sl 1 (code.map encB)), .p (.v (.int .i64 p)), .p (.v (.int .u64 sd))])] [0] (fun ⟨n2, pe2, wi2, q, s⟩ => n2.length ≤ 40 ∧ p ≤ q ∧ q ≤ p + 4) (fun ⟨n2, pe2, wi2, q, s⟩ => .agg [.p (.v (str n2)), .p (.v (.int .i64 pe2)), .p (.v (.int .i64 wi2))]) (fun ⟨n2, pe2, wi2, q, s⟩ => [(0, .box 117 [.p (.sl 1 (code.map encB)), .p (.v (.int .i64 q)), .p (.v (.int .u64 s))])]) := by
  refine FnE.intro Tryd.func93 rfl Tryd.ntmps93 rfl rfl (fun w0 F0 η φ w => ?_)
  refine AC.seq ?_
  refine AC.region ?_
  refine AO.box 1 rfl rfl rfl rfl rfl ?_
  refine AO.alloc 2 Tryd.zeroValue58 rfl rfl rfl ?_
  refine AO.nil ?_
  refine AC.seq ?_
  refine AC.seq ?_
  refine AC.region ?_
  refine AO.yld _ (Yld.move rfl) rfl rfl rfl ?_
  refine AO.callW (wantedN rfl) [0] [0] [0] rfl rfl Tryd.call75 rfl (src_pick_c (by omega) (by omega) (by omega)) (.own rfl) rfl (fun ⟨_, _, _⟩ => rfl) ⟨rfl, trivial⟩ rfl (fun ⟨_, _, _⟩ => rfl) (fun ⟨_, _, _⟩ => rfl) (fun ⟨v6, q6, s6⟩ hv6 => ?_)
  dsimp only at hv6
  refine AO.nil ?_
  refine AC.block ?_
  refine AC.seq ?_
  refine AC.region ?_
  refine AO.yld _ (Yld.int rfl rfl rfl) rfl rfl rfl ?_
  refine AO.yld _ (Yld.assign rfl) rfl rfl rfl ?_
  refine AO.nil ?_
  refine AC.cond _ rfl (fun c7 => ?_) (fun c7 => ?_)
  · -- c7 True
    refine AC.region ?_
    refine AO.yld _ (Yld.move rfl) rfl rfl rfl ?_
    refine AO.buildSlice (rows := [[_], [_], [_]]) 3 Tryd.underlying39 ty2 rfl rfl rfl rfl rfl rfl rfl rfl rfl ?_
    refine AO.callW (wantedN rfl) [0, 3] [0, 1] [0] rfl rfl Tryd.call94 rfl (src_among_c (by omega) (by omega) (xs := [-1000000001, -1000000000, 1000000001]) (by decide) (by decide)) (.own rfl) rfl (fun ⟨_, _, _⟩ => rfl) ⟨rfl, rfl, trivial⟩ rfl (fun ⟨_, _, _⟩ => rfl) (fun ⟨_, _, _⟩ => rfl) (fun ⟨v11, q11, s11⟩ hv11 => ?_)
    dsimp only at hv11
    refine AO.yld _ (Yld.fieldAddr Tryd.underlying58 rfl rfl Tryd.sizeOf2 rfl rfl rfl) rfl rfl rfl ?_
    refine AO.store Tryd.sizeOf2 rfl rfl rfl rfl rfl rfl ?_
    refine AO.nil ?_
    refine AC.mark ?_
    refine AC.seq ?_
    refine AC.region ?_
    refine AO.yld _ (Yld.loadAgg Tryd.isAgg58 Tryd.sizeOf58 rfl rfl rfl rfl) rfl rfl rfl ?_
    refine AO.store Tryd.sizeOf58 rfl rfl rfl rfl rfl rfl ?_
    refine AO.nil ?_
    refine FnE.ret (_, _, _, _, _) [0] [0] Tryd.results93 (RVs.cons (RV.cell Tryd.isAgg58 Tryd.sizeOf58 rfl rfl rfl rfl) RVs.nil) rfl rfl rfl ?_ rfl ⟨⟨_, rfl, rfl⟩, trivial⟩
    · -- holds
      show List.length _ ≤ 40 ∧ _ ≤ _ ∧ _ ≤ _; refine ⟨?_, by omega, by omega⟩; first | exact hn | (have h := hv23.1; simp at h; rcases h with h | h <;> rw [h] <;> decide)
  · -- c7 False
    refine AC.seq ?_
    refine AC.region ?_
    refine AO.yld _ (Yld.int rfl rfl rfl) rfl rfl rfl ?_
    refine AO.yld _ (Yld.assign rfl) rfl rfl rfl ?_
    refine AO.nil ?_
    refine AC.cond _ rfl (fun c13 => ?_) (fun c13 => ?_)
    · -- c13 True
      refine AC.region ?_
      refine AO.yld _ (Yld.move rfl) rfl rfl rfl ?_
      refine AO.buildSlice (rows := [[_], [_], [_]]) 3 Tryd.underlying39 ty2 rfl rfl rfl rfl rfl rfl rfl rfl rfl ?_
      refine AO.callW (wantedN rfl) [0, 3] [0, 1] [0] rfl rfl Tryd.call94 rfl (src_among_c (by omega) (by omega) (xs := [-1, 1000000000, 1000000001]) (by decide) (by decide)) (.own rfl) rfl (fun ⟨_, _, _⟩ => rfl) ⟨rfl, rfl, trivial⟩ rfl (fun ⟨_, _, _⟩ => rfl) (fun ⟨_, _, _⟩ => rfl) (fun ⟨v17, q17, s17⟩ hv17 => ?_)
      dsimp only at hv17
      refine AO.yld _ (Yld.fieldAddr Tryd.underlying58 rfl rfl Tryd.sizeOf2 rfl rfl rfl) rfl rfl rfl ?_
      refine AO.store Tryd.sizeOf2 rfl rfl rfl rfl rfl rfl ?_
      refine AO.nil ?_
      refine AC.mark ?_
      refine AC.seq ?_
      refine AC.region ?_
      refine AO.yld _ (Yld.loadAgg Tryd.isAgg58 Tryd.sizeOf58 rfl rfl rfl rfl) rfl rfl rfl ?_
      refine AO.store Tryd.sizeOf58 rfl rfl rfl rfl rfl rfl ?_
      refine AO.nil ?_
      refine FnE.ret (_, _, _, _, _) [0] [0] Tryd.results93 (RVs.cons (RV.cell Tryd.isAgg58 Tryd.sizeOf58 rfl rfl rfl rfl) RVs.nil) rfl rfl rfl ?_ rfl ⟨⟨_, rfl, rfl⟩, trivial⟩
      · -- holds
        show List.length _ ≤ 40 ∧ _ ≤ _ ∧ _ ≤ _; refine ⟨?_, by omega, by omega⟩; first | exact hn | (have h := hv23.1; simp at h; rcases h with h | h <;> rw [h] <;> decide)
    · -- c13 False
      refine AC.seq ?_
      refine AC.region ?_
      refine AO.yld _ (Yld.int rfl rfl rfl) rfl rfl rfl ?_
      refine AO.yld _ (Yld.assign rfl) rfl rfl rfl ?_
      refine AO.nil ?_
      refine AC.cond _ rfl (fun c19 => ?_) (fun c19 => ?_)
      · -- c19 True
        refine AC.region ?_
        refine AO.yld _ (Yld.move rfl) rfl rfl rfl ?_
        refine AO.buildSlice (rows := [[_], [_]]) 3 Tryd.underlying106 ty9 rfl rfl rfl rfl rfl rfl rfl rfl rfl ?_
        refine AO.callW (wantedN rfl) [0, 3] [0, 1] [0] rfl rfl Tryd.call64 rfl (src_text_c (by omega) (by omega) (xs := [[], [77]]) (by decide) (by decide)) (.own rfl) rfl (fun ⟨_, _, _⟩ => rfl) ⟨rfl, rfl, trivial⟩ rfl (fun ⟨_, _, _⟩ => rfl) (fun ⟨_, _, _⟩ => rfl) (fun ⟨v23, q23, s23⟩ hv23 => ?_)
        dsimp only at hv23
        refine AO.yld _ (Yld.fieldAddr Tryd.underlying58 rfl rfl Tryd.sizeOf9 rfl rfl rfl) rfl rfl rfl ?_
        refine AO.store Tryd.sizeOf9 rfl rfl rfl rfl rfl rfl ?_
        refine AO.nil ?_
        refine AC.mark ?_
        refine AC.seq ?_
        refine AC.region ?_
        refine AO.yld _ (Yld.loadAgg Tryd.isAgg58 Tryd.sizeOf58 rfl rfl rfl rfl) rfl rfl rfl ?_
        refine AO.store Tryd.sizeOf58 rfl rfl rfl rfl rfl rfl ?_
        refine AO.nil ?_
        refine FnE.ret (_, _, _, _, _) [0] [0] Tryd.results93 (RVs.cons (RV.cell Tryd.isAgg58 Tryd.sizeOf58 rfl rfl rfl rfl) RVs.nil) rfl rfl rfl ?_ rfl ⟨⟨_, rfl, rfl⟩, trivial⟩
        · -- holds
          show List.length _ ≤ 40 ∧ _ ≤ _ ∧ _ ≤ _; refine ⟨?_, by omega, by omega⟩; first | exact hn | (have h := hv23.1; simp at h; rcases h with h | h <;> rw [h] <;> decide)
      · -- c19 False
        refine AC.skip ?_
        refine AC.mark ?_
        refine AC.seq ?_
        refine AC.region ?_
        refine AO.yld _ (Yld.loadAgg Tryd.isAgg58 Tryd.sizeOf58 rfl rfl rfl rfl) rfl rfl rfl ?_
        refine AO.store Tryd.sizeOf58 rfl rfl rfl rfl rfl rfl ?_
        refine AO.nil ?_
        refine FnE.ret (_, _, _, _, _) [0] [0] Tryd.results93 (RVs.cons (RV.cell Tryd.isAgg58 Tryd.sizeOf58 rfl rfl rfl rfl) RVs.nil) rfl rfl rfl ?_ rfl ⟨⟨_, rfl, rfl⟩, trivial⟩
        · -- holds
          show List.length _ ≤ 40 ∧ _ ≤ _ ∧ _ ≤ _; refine ⟨?_, by omega, by omega⟩; first | exact hn | (have h := hv23.1; simp at h; rcases h with h | h <;> rw [h] <;> decide)

set_option maxHeartbeats 2000000 in
theorem spec_l26Draw_c {code : List UInt8} {p sd : Int} (h0 : 0 ≤ p) (h1 : p ≤ 1000000000000000) :
    FnE (α := List Mach × Int × Int) Tryd.prog 60 [.h 0] [(0, .box 117 [.p (.sl 1 (code.map encB)), .p (.v (.int .i64 p)), .p (.v (.int .u64 sd))])] [0] (fun ⟨ms, q, s⟩ => DM ms 20 ∧ p ≤ q ∧ q ≤ p + 200) (fun ⟨ms, q, s⟩ => .h 1) (fun ⟨ms, q, s⟩ => [(0, .box 117 [.p (.sl 1 (code.map encB)), .p (.v (.int .i64 q)), .p (.v (.int .u64 s))]), (1, .vec 58 3 (ms.map encMach))]) := by
  refine FnE.intro Tryd.func60 rfl Tryd.ntmps60 rfl rfl (fun w0 F0 η φ w => ?_)
  refine AC.seq ?_
  refine AC.region ?_
  refine AO.yld _ (Yld.assign rfl) rfl rfl rfl ?_
  refine AO.nil ?_
  refine AC.seq ?_
  refine AC.region ?_
  refine AO.buildSlice (rows := [[_], [_], [_], [_], [_]]) 1 Tryd.underlying106 ty9 rfl rfl rfl rfl rfl rfl rfl rfl rfl ?_
  refine AO.yld _ (Yld.assign rfl) rfl rfl rfl ?_
  refine AO.nil ?_
  refine AC.seq ?_
  refine AC.region ?_
  refine AO.buildSlice (rows := []) 2 Tryd.underlying51 ty58 rfl rfl rfl rfl rfl rfl rfl rfl rfl ?_
  refine AO.yld _ (Yld.assign rfl) rfl rfl rfl ?_
  refine AO.nil ?_
  refine AC.seq ?_
  refine AC.seq ?_
  refine AC.region ?_
  refine AO.yld _ (Yld.assign rfl) rfl rfl rfl ?_
  refine AO.nil ?_
  refine AC.block ?_
  refine AC.loopC4 [(0, _), (2, _), (3, _)] [(1, _), (900, _)] (fun (k : Nat) (ms : List Mach) (q s : Int) => [(5, .p (.v (.int .i64 (k : Int)))), (4, .h 2)]) (fun (k : Nat) (ms : List Mach) (q s : Int) => [(0, .box 117 [.p (.sl 1 (code.map encB)), .p (.v (.int .i64 q)), .p (.v (.int .u64 s))]), (2, .vec 58 3 (ms.map encMach))]) (fun (k : Nat) (ms : List Mach) (q s : Int) => DM ms k ∧ k ≤ 5 ∧ p ≤ q ∧ q ≤ p + 6 * (k : Nat)) (fun (k : Nat) (ms : List Mach) (q s : Int) => 5 - k) 0 [] p sd ⟨rfl, rfl, rfl, trivial⟩ ⟨rfl, rfl, trivial⟩ ⟨rfl, rfl, trivial⟩ ⟨rfl, rfl, trivial⟩ ?_ (fun k ms q s hJ => ?_)
  · exact ⟨DM.nil _, by omega, by omega, by omega⟩
  · -- round
    refine AC.seq ?_
    refine AC.seq ?_
    refine AC.region ?_
    refine AO.yld _ (Yld.move rfl) rfl rfl rfl ?_
    refine AO.yld _ (Yld.move rfl) rfl rfl rfl ?_
    refine AO.yld _ (Yld.len Tryd.underlying106 rfl rfl) rfl rfl rfl ?_
    refine AO.yld _ (Yld.int rfl rfl rfl) rfl rfl rfl ?_
    refine AO.nil ?_
    refine AC.cond _ rfl (fun c13 => ?_) (fun c13 => ?_)
    · -- c13 True
      have hk6 : k < 5 := by have h := c13; simp at h; omega
      have hml := hJ.1.1
      have hrowN : ([[PV.v (.string ⟨#[97]⟩)], [PV.v (.string ⟨#[98]⟩)], [PV.v (.string ⟨#[99]⟩)], [PV.v (.string ⟨#[100]⟩)], [PV.v (.string ⟨#[101]⟩)]] : List (List PV))[k]? = some [.v (str [UInt8.ofNat (97 + k)])] := lettM hk6
      refine AC.skip ?_
      refine AC.seq ?_
      refine AC.block ?_
      refine AC.seq ?_
      refine AC.region ?_
      refine AO.yld _ (Yld.move rfl) rfl rfl rfl ?_
      refine AO.callW (wantedN rfl) [0] [0] [0] rfl rfl Tryd.call76 rfl (src_one_c (by omega) (by omega) (by omega)) (.own rfl) rfl (fun ⟨_, _, _⟩ => rfl) ⟨rfl, trivial⟩ rfl (fun ⟨_, _, _⟩ => rfl) (fun ⟨_, _, _⟩ => rfl) (fun ⟨b17, q17, s17⟩ hb17 => ?_)
      dsimp only at hb17
      refine AO.yld _ (Yld.not rfl) rfl rfl rfl ?_
      refine AO.nil ?_
      refine AC.cond _ rfl (fun c18 => ?_) (fun c18 => ?_)
      · -- c18 True
        refine AC.region ?_
        refine AO.yld _ (Yld.move rfl) rfl rfl rfl ?_
        refine AO.yld _ (Yld.move rfl) rfl rfl rfl ?_
        refine AO.yld _ (Yld.move rfl) rfl rfl rfl ?_
        refine AO.yld _ (Yld.move rfl) rfl rfl rfl ?_
        refine AO.yld _ (Yld.indexVec Tryd.underlying106 Tryd.sizeOf9 rfl rfl rfl rfl (by show k < 5; omega)) rfl rfl rfl ?_
        refine AO.yld _ (Yld.load Tryd.isAgg9 rfl (behind_el (rows := [[PV.v (.string ⟨#[97]⟩)], [PV.v (.string ⟨#[98]⟩)], [PV.v (.string ⟨#[99]⟩)], [PV.v (.string ⟨#[100]⟩)], [PV.v (.string ⟨#[101]⟩)]]) rfl hrowN)) rfl rfl rfl ?_
        refine AO.callW (wantedN rfl) [0] [0] [0] rfl rfl Tryd.call92 rfl (spec_l26DrawOne_c (by omega) (by omega)) (.own rfl) rfl (fun ⟨_, _, _, _⟩ => rfl) ⟨rfl, trivial⟩ rfl (fun ⟨_, _, _, _⟩ => rfl) (fun ⟨_, _, _, _⟩ => rfl) (fun ⟨pe25, wi25, q25, s25⟩ hpe25 => ?_)
        dsimp only at hpe25
        refine AO.buildSlice (rows := [[_, _, _]]) 3 Tryd.underlying51 ty58 rfl rfl rfl rfl rfl rfl rfl rfl rfl ?_
        refine AO.append 2 Tryd.underlying51 ty58 rfl rfl rfl rfl rfl rfl rfl (by simp [pvOne, str]) (by simp only [List.length_map, List.length_cons, List.length_nil, List.length_append]; omega) (by simp only [List.length_map, List.length_cons, List.length_nil, List.length_append]; omega) rfl ?_
        refine AO.yld _ (Yld.assign rfl) rfl rfl rfl ?_
        refine AO.nil ?_
        refine AC.mark ?_
        refine AC.region ?_
        refine AO.yld _ (Yld.move rfl) rfl rfl rfl ?_
        refine AO.yld _ (Yld.add rfl rfl (by omega) (by omega)) rfl rfl rfl ?_
        refine AO.yld _ (Yld.assign rfl) rfl rfl rfl ?_
        refine AO.nil ?_
        refine AC.back ⟨k + 1, ms ++ [⟨[UInt8.ofNat (97 + k)], pe25, wi25⟩], q25, s25, ?_, ?_, ⟨?_, ?_, trivial⟩, ⟨?_, ?_, trivial⟩, ⟨rfl, rfl, rfl, trivial⟩, ⟨rfl, rfl, trivial⟩⟩
        · exact ⟨hJ.1.add (by simp), by omega, by omega, by omega⟩
        · omega
        · rfl
        · rfl
        · rfl
        · rw [map_snoc]; rfl
      · -- c18 False
        refine AC.skip ?_
        refine AC.mark ?_
        refine AC.region ?_
        refine AO.yld _ (Yld.move rfl) rfl rfl rfl ?_
        refine AO.yld _ (Yld.add rfl rfl (by omega) (by omega)) rfl rfl rfl ?_
        refine AO.yld _ (Yld.assign rfl) rfl rfl rfl ?_
        refine AO.nil ?_
        refine AC.back ⟨k + 1, ms, q17, s17, ?_, ?_, ⟨?_, ?_, trivial⟩, ⟨?_, ?_, trivial⟩, ⟨rfl, rfl, rfl, trivial⟩, ⟨rfl, rfl, trivial⟩⟩
        · exact ⟨hJ.1.up (by omega), by omega, by omega, by omega⟩
        · omega
        · rfl
        · rfl
        · rfl
        · rfl
    · -- c13 False
      obtain rfl : k = 5 := by have h := c13; simp at h; have := hJ.2.1; omega
      have hml := hJ.1.1
      refine AC.exit rfl ?_
      refine AC.seq ?_
      refine AC.seq ?_
      refine AC.region ?_
      refine AO.yld _ (Yld.move rfl) rfl rfl rfl ?_
      refine AO.callW (wantedN rfl) [0] [0] [0] rfl rfl Tryd.call75 rfl (src_pick_c (by omega) (by omega) (by omega)) (.own rfl) rfl (fun ⟨_, _, _⟩ => rfl) ⟨rfl, trivial⟩ rfl (fun ⟨_, _, _⟩ => rfl) (fun ⟨_, _, _⟩ => rfl) (fun ⟨v29, q29, s29⟩ hv29 => ?_)
      dsimp only at hv29
      refine AO.nil ?_
      refine AC.block ?_
      refine AC.seq ?_
      refine AC.region ?_
      refine AO.yld _ (Yld.int rfl rfl rfl) rfl rfl rfl ?_
      refine AO.yld _ (Yld.assign rfl) rfl rfl rfl ?_
      refine AO.nil ?_
      refine AC.cond _ rfl (fun c30 => ?_) (fun c30 => ?_)
      · -- c30 True
        refine AC.region ?_
        refine AO.yld _ (Yld.move rfl) rfl rfl rfl ?_
        refine AO.yld _ (Yld.move rfl) rfl rfl rfl ?_
        refine AO.yld _ (Yld.move rfl) rfl rfl rfl ?_
        refine AO.callW (wantedN rfl) [0] [0] [0] rfl rfl Tryd.call92 rfl (spec_l26DrawOne_c (by omega) (by omega)) (.own rfl) rfl (fun ⟨_, _, _, _⟩ => rfl) ⟨rfl, trivial⟩ rfl (fun ⟨_, _, _, _⟩ => rfl) (fun ⟨_, _, _, _⟩ => rfl) (fun ⟨pe35, wi35, q35, s35⟩ hpe35 => ?_)
        dsimp only at hpe35
        refine AO.callW (wantedN rfl) [0] [0] [0] rfl rfl Tryd.call93 rfl (spec_l26Bend_c (by omega) (by omega) (by first | assumption | simp)) (.own rfl) rfl (fun ⟨_, _, _, _, _⟩ => rfl) ⟨rfl, trivial⟩ rfl (fun ⟨_, _, _, _, _⟩ => rfl) (fun ⟨_, _, _, _, _⟩ => rfl) (fun ⟨n236, pe236, wi236, q36, s36⟩ hn236 => ?_)
        dsimp only at hn236
        refine AO.buildSlice (rows := [[_, _, _]]) 3 Tryd.underlying51 ty58 rfl rfl rfl rfl rfl rfl rfl rfl rfl ?_
        refine AO.append 2 Tryd.underlying51 ty58 rfl rfl rfl rfl rfl rfl rfl (by simp [pvOne, str]) (by simp only [List.length_map, List.length_cons, List.length_nil, List.length_append]; omega) (by simp only [List.length_map, List.length_cons, List.length_nil, List.length_append]; omega) rfl ?_
        refine AO.yld _ (Yld.assign rfl) rfl rfl rfl ?_
        refine AO.nil ?_
        refine AC.mark ?_
        refine AC.seq ?_
        refine AC.region ?_
        refine AO.yld _ (Yld.move rfl) rfl rfl rfl ?_
        refine AO.yld _ (Yld.assign rfl) rfl rfl rfl ?_
        refine AO.nil ?_
        refine FnE.ret (ms ++ [⟨n236, pe236, wi236⟩], q36, s36) [0, 2] [0, 1] Tryd.results60 (RVs.cons (RV.tmp rfl) RVs.nil) rfl rfl rfl ?_ ?_ ⟨⟨_, rfl, ?_⟩, ⟨_, rfl, ?_⟩, trivial⟩
        · -- holds
          show DM _ _ ∧ _ ≤ _ ∧ _ ≤ _; have hk6 := hJ.2.1; refine ⟨?_, by omega, by omega⟩; first | exact hI.1.up (by omega) | exact (DM.add (x := ⟨_, _, _⟩) hJ.1 hn236.1).up (by omega) | exact DM.nil _ | exact hJ.1.up (by omega)
        · -- value
          rfl
        · -- thing 0
          rfl
        · -- thing 1
          first | rfl | (rw [map_snoc]; rfl)
      · -- c30 False
        refine AC.seq ?_
        refine AC.region ?_
        refine AO.yld _ (Yld.int rfl rfl rfl) rfl rfl rfl ?_
        refine AO.yld _ (Yld.assign rfl) rfl rfl rfl ?_
        refine AO.nil ?_
        refine AC.cond _ rfl (fun c39 => ?_) (fun c39 => ?_)
        · -- c39 True
          refine AC.seq ?_
          refine AC.region ?_
          refine AO.yld _ (Yld.move rfl) rfl rfl rfl ?_
          refine AO.buildSlice (rows := [[_], [_]]) 3 Tryd.underlying39 ty2 rfl rfl rfl rfl rfl rfl rfl rfl rfl ?_
          refine AO.callW (wantedN rfl) [0, 3] [0, 1] [0] rfl rfl Tryd.call94 rfl (src_among_c (by omega) (by omega) (xs := [8, 9]) (by decide) (by decide)) (.own rfl) rfl (fun ⟨_, _, _⟩ => rfl) ⟨rfl, rfl, trivial⟩ rfl (fun ⟨_, _, _⟩ => rfl) (fun ⟨_, _, _⟩ => rfl) (fun ⟨v43, q43, s43⟩ hv43 => ?_)
          dsimp only at hv43
          have hm9 : v43 ≤ 9 := by have h := hv43.1; simp at h; omega
          refine AO.yld _ (Yld.assign rfl) rfl rfl rfl ?_
          refine AO.nil ?_
          refine AC.seq ?_
          refine AC.region ?_
          refine AO.buildSlice (rows := []) 4 Tryd.underlying51 ty58 rfl rfl rfl rfl rfl rfl rfl rfl rfl ?_
          refine AO.yld _ (Yld.assign rfl) rfl rfl rfl ?_
          refine AO.nil ?_
          refine AC.seq ?_
          refine AC.region ?_
          refine AO.yld _ (Yld.assign rfl) rfl rfl rfl ?_
          refine AO.nil ?_
          refine AC.block ?_
          refine AC.loopC2 [(2, _), (6, _)] [(0, _), (1, _), (2, _), (900, _)] (fun (k : Nat) (ms2 : List Mach) => [(7, .p (.v (.int .i64 (k : Int)))), (4, .h 4)]) (fun (k : Nat) (ms2 : List Mach) => [(4, .vec 58 3 (ms2.map encMach))]) (fun (k : Nat) (ms2 : List Mach) => DM ms2 k ∧ (k : Int) ≤ 9) (fun (k : Nat) (ms2 : List Mach) => 9 - k) 0 [] ⟨rfl, rfl, trivial⟩ ⟨rfl, rfl, rfl, rfl, trivial⟩ ⟨rfl, rfl, trivial⟩ ⟨rfl, trivial⟩ ?_ (fun k ms2 hI => ?_)
          · exact ⟨DM.nil _, by omega⟩
          · -- round
            have hgl2 := hI.1.1
            refine AC.seq ?_
            refine AC.seq ?_
            refine AC.region ?_
            refine AO.yld _ (Yld.move rfl) rfl rfl rfl ?_
            refine AO.yld _ (Yld.move rfl) rfl rfl rfl ?_
            refine AO.yld _ (Yld.int rfl rfl rfl) rfl rfl rfl ?_
            refine AO.nil ?_
            refine AC.cond _ rfl (fun c47 => ?_) (fun c47 => ?_)
            · -- c47 True
              have hkm : (k : Int) < v43 := by simpa using c47
              refine AC.skip ?_
              refine AC.seq ?_
              refine AC.block ?_
              refine AC.region ?_
              refine AO.yld _ (Yld.move rfl) rfl rfl rfl ?_
              refine AO.yld _ (Yld.move rfl) rfl rfl rfl ?_
              refine AO.yld _ (Yld.call rfl rfl Tryd.call95 rfl rfl rfl (spec_l01Dec_c (n := (k : Int)) (by omega)) rfl) rfl rfl rfl ?_
              refine AO.yld _ (Yld.cat rfl rfl (by have := dec_short (k := k) (by omega); simp; omega)) rfl rfl rfl ?_
              refine AO.yld _ (Yld.move rfl) rfl rfl rfl ?_
              refine AO.yld _ (Yld.mul rfl rfl (by omega) (by omega)) rfl rfl rfl ?_
              refine AO.yld _ (Yld.buildA (zs := [.v (str []), .v (.int .i64 0), .v (.int .i64 0)]) bld58 rfl rfl) rfl rfl rfl ?_
              refine AO.buildSlice (rows := [[_, _, _]]) 5 Tryd.underlying51 ty58 rfl rfl rfl rfl rfl rfl rfl rfl rfl ?_
              refine AO.append 4 Tryd.underlying51 ty58 rfl rfl rfl rfl rfl rfl rfl (by simp [pvOne, str]) (by simp only [List.length_map, List.length_cons, List.length_nil, List.length_append]; omega) (by simp only [List.length_map, List.length_cons, List.length_nil, List.length_append]; omega) rfl ?_
              refine AO.yld _ (Yld.assign rfl) rfl rfl rfl ?_
              refine AO.nil ?_
              refine AC.mark ?_
              refine AC.region ?_
              refine AO.yld _ (Yld.move rfl) rfl rfl rfl ?_
              refine AO.yld _ (Yld.add rfl rfl (by omega) (by omega)) rfl rfl rfl ?_
              refine AO.yld _ (Yld.assign rfl) rfl rfl rfl ?_
              refine AO.nil ?_
              refine AC.back ⟨k + 1, ms2 ++ [⟨[110] ++ Lib.itoa (k : Int), 10 * (k : Int), 15⟩], ?_, ?_, ⟨?_, ?_, trivial⟩, ⟨?_, trivial⟩, ⟨rfl, rfl, trivial⟩, ⟨rfl, rfl, rfl, rfl, trivial⟩⟩
              · exact ⟨hI.1.add (by have := dec_short (k := k) (by omega); simp; omega), by omega⟩
              · omega
              · rfl
              · rfl
              · rw [map_snoc]; rfl
            · -- c47 False
              refine AC.exit rfl ?_
              refine AC.mark ?_
              refine AC.seq ?_
              refine AC.region ?_
              refine AO.yld _ (Yld.move rfl) rfl rfl rfl ?_
              refine AO.yld _ (Yld.assign rfl) rfl rfl rfl ?_
              refine AO.nil ?_
              refine FnE.ret (ms2, q43, s43) [0, 4] [0, 1] Tryd.results60 (RVs.cons (RV.tmp rfl) RVs.nil) rfl rfl rfl ?_ ?_ ⟨⟨_, rfl, ?_⟩, ⟨_, rfl, ?_⟩, trivial⟩
              · -- holds
                show DM _ _ ∧ _ ≤ _ ∧ _ ≤ _; have hk6 := hJ.2.1; refine ⟨?_, by omega, by omega⟩; first | exact hI.1.up (by omega) | exact (DM.add (x := ⟨_, _, _⟩) hJ.1 hn236.1).up (by omega) | exact DM.nil _ | exact hJ.1.up (by omega)
              · -- value
                rfl
              · -- thing 0
                rfl
              · -- thing 1
                first | rfl | (rw [map_snoc]; rfl)
        · -- c39 False
          refine AC.seq ?_
          refine AC.region ?_
          refine AO.yld _ (Yld.int rfl rfl rfl) rfl rfl rfl ?_
          refine AO.yld _ (Yld.assign rfl) rfl rfl rfl ?_
          refine AO.nil ?_
          refine AC.cond _ rfl (fun c59 => ?_) (fun c59 => ?_)
          · -- c59 True
            refine AC.region ?_
            refine AO.buildSlice (rows := []) 3 Tryd.underlying51 ty58 rfl rfl rfl rfl rfl rfl rfl rfl rfl ?_
            refine AO.yld _ (Yld.assign rfl) rfl rfl rfl ?_
            refine AO.nil ?_
            refine AC.mark ?_
            refine AC.seq ?_
            refine AC.region ?_
            refine AO.yld _ (Yld.move rfl) rfl rfl rfl ?_
            refine AO.yld _ (Yld.assign rfl) rfl rfl rfl ?_
            refine AO.nil ?_
            refine FnE.ret ([], q29, s29) [0, 3] [0, 1] Tryd.results60 (RVs.cons (RV.tmp rfl) RVs.nil) rfl rfl rfl ?_ ?_ ⟨⟨_, rfl, ?_⟩, ⟨_, rfl, ?_⟩, trivial⟩
            · -- holds
              show DM _ _ ∧ _ ≤ _ ∧ _ ≤ _; have hk6 := hJ.2.1; refine ⟨?_, by omega, by omega⟩; first | exact hI.1.up (by omega) | exact (DM.add (x := ⟨_, _, _⟩) hJ.1 hn236.1).up (by omega) | exact DM.nil _ | exact hJ.1.up (by omega)
            · -- value
              rfl
            · -- thing 0
              rfl
            · -- thing 1
              first | rfl | (rw [map_snoc]; rfl)
          · -- c59 False
            refine AC.skip ?_
            refine AC.mark ?_
            refine AC.seq ?_
            refine AC.region ?_
            refine AO.yld _ (Yld.move rfl) rfl rfl rfl ?_
            refine AO.yld _ (Yld.assign rfl) rfl rfl rfl ?_
            refine AO.nil ?_
            refine FnE.ret (ms, q29, s29) [0, 2] [0, 1] Tryd.results60 (RVs.cons (RV.tmp rfl) RVs.nil) rfl rfl rfl ?_ ?_ ⟨⟨_, rfl, ?_⟩, ⟨_, rfl, ?_⟩, trivial⟩
            · -- holds
              show DM _ _ ∧ _ ≤ _ ∧ _ ≤ _; have hk6 := hJ.2.1; refine ⟨?_, by omega, by omega⟩; first | exact hI.1.up (by omega) | exact (DM.add (x := ⟨_, _, _⟩) hJ.1 hn236.1).up (by omega) | exact DM.nil _ | exact hJ.1.up (by omega)
            · -- value
              rfl
            · -- thing 0
              rfl
            · -- thing 1
              first | rfl | (rw [map_snoc]; rfl)

theorem spec_DrawAgreedOffset_c {code : List UInt8} :
    FnE (α := List Mach) Tryd.prog 22 [.p (.sl 1 (code.map encB))] [] [] (fun ms => DM ms 20) (fun ms => .h 0) (fun ms => [(0, .vec 58 3 (ms.map encMach))]) := by
  refine FnE.intro Tryd.func22 rfl Tryd.ntmps22 rfl rfl (fun w0 F0 η φ w => ?_)
  refine AC.seq ?_
  refine AC.region ?_
  refine AO.yld _ (Yld.assign rfl) rfl rfl rfl ?_
  refine AO.nil ?_
  refine AC.seq ?_
  refine AC.region ?_
  refine AO.yld _ (Yld.move rfl) rfl rfl rfl ?_
  refine AO.callW (wantedN rfl) [0] [] [0] rfl rfl Tryd.call33 rfl (spec_l00From_c) (.own rfl) rfl (fun _ => rfl) trivial rfl (fun _ => rfl) (fun _ => rfl) (fun _ _ => ?_)
  refine AO.yld _ (Yld.assign rfl) rfl rfl rfl ?_
  refine AO.nil ?_
  refine AC.seq ?_
  refine AC.region ?_
  refine AO.yld _ (Yld.move rfl) rfl rfl rfl ?_
  refine AO.callW (wantedN rfl) [0, 1] [0] [0, 1] rfl rfl Tryd.call60 rfl (spec_l26Draw_c (by omega) (by omega)) (.own rfl) rfl (fun ⟨_, _, _⟩ => rfl) ⟨rfl, trivial⟩ rfl (fun ⟨_, _, _⟩ => rfl) (fun ⟨_, _, _⟩ => rfl) (fun ⟨ms7, q7, s7⟩ hms7 => ?_)
  dsimp only at hms7
  refine AO.yld _ (Yld.assign rfl) rfl rfl rfl ?_
  refine AO.nil ?_
  refine FnE.ret _ [1] [0] Tryd.results22 (RVs.cons (RV.tmp rfl) RVs.nil) rfl rfl rfl ?_ rfl ⟨⟨_, rfl, rfl⟩, trivial⟩
  · -- holds
    exact hms7.1

theorem spec_l26DrawSample_c {code : List UInt8} {p sd : Int} (h0 : 0 ≤ p) (h1 : p ≤ 1000000000000000000) :
    FnE (α := Int × Int × Int × Int × Int) Tryd.prog 97 [.h 0] [(0, .box 117 [.p (.sl 1 (code.map encB)), .p (.v (.int .i64 p)), .p (.v (.int .u64 sd))])] [0] (fun ⟨se, ot, ba, q, s⟩ => p ≤ q ∧ q ≤ p + 10) (fun ⟨se, ot, ba, q, s⟩ => .agg [.p (.v (.int .i64 se)), .p (.v (.int .i64 ot)), .p (.v (.int .i64 ba))]) (fun ⟨se, ot, ba, q, s⟩ => [(0, .box 117 [.p (.sl 1 (code.map encB)), .p (.v (.int .i64 q)), .p (.v (.int .u64 s))])]) := by
  refine FnE.intro Tryd.func97 rfl Tryd.ntmps97 rfl rfl (fun w0 F0 η φ w => ?_)
  refine AC.seq ?_
  refine AC.region ?_
  refine AO.alloc 1 Tryd.zeroValue69 rfl rfl rfl ?_
  refine AO.nil ?_
  refine AC.seq ?_
  refine AC.region ?_
  refine AO.yld _ (Yld.move rfl) rfl rfl rfl ?_
  refine AO.callW (wantedN rfl) [0] [0] [0] rfl rfl Tryd.call75 rfl (src_pick_c (by omega) (by omega) (by omega)) (.own rfl) rfl (fun ⟨_, _, _⟩ => rfl) ⟨rfl, trivial⟩ rfl (fun ⟨_, _, _⟩ => rfl) (fun ⟨_, _, _⟩ => rfl) (fun ⟨v5, q5, s5⟩ hv5 => ?_)
  dsimp only at hv5
  refine AO.yld _ (Yld.buildA (zs := [.v (.int .i64 0), .v (.int .i64 0), .v (.int .i64 0)]) bld69 rfl rfl) rfl rfl rfl ?_
  refine AO.alloc 2 Tryd.zeroValue69 rfl rfl rfl ?_
  refine AO.store Tryd.sizeOf69 rfl rfl rfl rfl rfl rfl ?_
  refine AO.nil ?_
  refine AC.seq ?_
  apply AC.drawAnyC (α := { y : Int × Int × Int // 0 ≤ y.1 ∧ y.1 < 300 ∧ q5 ≤ y.2.1 ∧ y.2.1 ≤ q5 + 2 }) [(0, _), (2, _), (3, _), (4, _), (5, _), (6, _)] [(1, _), (900, _)] (fun y => []) (fun y => [(0, .box 117 [.p (.sl 1 (code.map encB)), .p (.v (.int .i64 y.1.2.1)), .p (.v (.int .u64 y.1.2.2))]), (2, .box 69 [.p (.v (.int .i64 v5)), .p (.v (.int .i64 0)), .p (.v (.int .i64 (v5 + y.1.1)))])]) (by kernel_rfl)
  · -- orders
    refine ANx.take 0 rfl (by kernel_rfl) (by kernel_rfl) (by kernel_rfl) rfl rfl rfl (YldA.fieldAddr Tryd.underlying69 rfl rfl Tryd.sizeOf2 rfl rfl rfl) ?_
    refine ANx.take 2 rfl (by kernel_rfl) (by kernel_rfl) (by kernel_rfl) rfl rfl rfl (YldA.move rfl) ?_
    refine ANx.all (rs := [1, 3]) (by kernel_rfl) rfl ⟨?_, ?_, trivial⟩
    · -- 1
      refine Stpx.eff rfl rfl (Eff.yld (Yld.load Tryd.isAgg2 rfl rfl) rfl rfl) ?_
      refine ANx.all (rs := [3]) (by kernel_rfl) rfl ⟨?_, trivial⟩
      refine Stpx.effX rfl rfl (EffX.callW [0] [0] [0] rfl rfl Tryd.call75 rfl (src_pick_c (by omega) (by omega) (by omega)) (.own rfl) rfl (fun ⟨_, _, _⟩ => rfl) ⟨rfl, trivial⟩ rfl (fun ⟨_, _, _⟩ => rfl) (fun ⟨_, _, _⟩ => rfl)) ?_
      rintro _ ⟨⟨v10, q10, s10⟩, hv10, rfl⟩
      dsimp only at hv10
      refine ANx.take 4 rfl (by kernel_rfl) (by kernel_rfl) (by kernel_rfl) rfl rfl rfl (YldA.add rfl rfl (by omega) (by omega)) ?_
      refine ANx.take 5 rfl (by kernel_rfl) (by kernel_rfl) (by kernel_rfl) rfl rfl rfl (YldA.fieldAddr Tryd.underlying69 rfl rfl Tryd.sizeOf2 rfl rfl rfl) ?_
      refine ANx.all (rs := [6]) (by kernel_rfl) rfl ⟨?_, trivial⟩
      refine Stpx.eff rfl rfl (Eff.store Tryd.sizeOf2 rfl rfl rfl rfl rfl rfl) ?_
      exact ANx.doneC ⟨(v10, q10, s10), hv10⟩ (by kernel_rfl) trivial ⟨rfl, rfl, trivial⟩ ⟨rfl, rfl, rfl, rfl, rfl, rfl, trivial⟩ ⟨rfl, rfl, trivial⟩
    · -- 3
      refine Stpx.effX rfl rfl (EffX.callW [0] [0] [0] rfl rfl Tryd.call75 rfl (src_pick_c (by omega) (by omega) (by omega)) (.own rfl) rfl (fun ⟨_, _, _⟩ => rfl) ⟨rfl, trivial⟩ rfl (fun ⟨_, _, _⟩ => rfl) (fun ⟨_, _, _⟩ => rfl)) ?_
      rintro _ ⟨⟨v10, q10, s10⟩, hv10, rfl⟩
      dsimp only at hv10
      refine ANx.all (rs := [1]) (by kernel_rfl) rfl ⟨?_, trivial⟩
      refine Stpx.eff rfl rfl (Eff.yld (Yld.load Tryd.isAgg2 rfl rfl) rfl rfl) ?_
      refine ANx.take 4 rfl (by kernel_rfl) (by kernel_rfl) (by kernel_rfl) rfl rfl rfl (YldA.add rfl rfl (by omega) (by omega)) ?_
      refine ANx.take 5 rfl (by kernel_rfl) (by kernel_rfl) (by kernel_rfl) rfl rfl rfl (YldA.fieldAddr Tryd.underlying69 rfl rfl Tryd.sizeOf2 rfl rfl rfl) ?_
      refine ANx.all (rs := [6]) (by kernel_rfl) rfl ⟨?_, trivial⟩
      refine Stpx.eff rfl rfl (Eff.store Tryd.sizeOf2 rfl rfl rfl rfl rfl rfl) ?_
      exact ANx.doneC ⟨(v10, q10, s10), hv10⟩ (by kernel_rfl) trivial ⟨rfl, rfl, trivial⟩ ⟨rfl, rfl, rfl, rfl, rfl, rfl, trivial⟩ ⟨rfl, rfl, trivial⟩
  · -- behind
    rintro y2
    have hv2 := y2.2
    refine AC.seq ?_
    refine AC.region ?_
    refine AO.yld _ (Yld.move rfl) rfl rfl rfl ?_
    refine AO.callW (wantedN rfl) [0] [0] [0] rfl rfl Tryd.call75 rfl (src_pick_c (by omega) (by omega) (by omega)) (.own rfl) rfl (fun ⟨_, _, _⟩ => rfl) ⟨rfl, trivial⟩ rfl (fun ⟨_, _, _⟩ => rfl) (fun ⟨_, _, _⟩ => rfl) (fun ⟨v14, q14, s14⟩ hv14 => ?_)
    dsimp only at hv14
    refine AO.yld _ (Yld.fieldAddr Tryd.underlying69 rfl rfl Tryd.sizeOf2 rfl rfl rfl) rfl rfl rfl ?_
    refine AO.store Tryd.sizeOf2 rfl rfl rfl rfl rfl rfl ?_
    refine AO.nil ?_
    refine AC.seq ?_
    refine AC.seq ?_
    refine AC.region ?_
    refine AO.yld _ (Yld.move rfl) rfl rfl rfl ?_
    refine AO.callW (wantedN rfl) [0] [0] [0] rfl rfl Tryd.call75 rfl (src_pick_c (by omega) (by omega) (by omega)) (.own rfl) rfl (fun ⟨_, _, _⟩ => rfl) ⟨rfl, trivial⟩ rfl (fun ⟨_, _, _⟩ => rfl) (fun ⟨_, _, _⟩ => rfl) (fun ⟨v17, q17, s17⟩ hv17 => ?_)
    dsimp only at hv17
    refine AO.nil ?_
    refine AC.block ?_
    refine AC.seq ?_
    refine AC.region ?_
    refine AO.yld _ (Yld.int rfl rfl rfl) rfl rfl rfl ?_
    refine AO.yld _ (Yld.assign rfl) rfl rfl rfl ?_
    refine AO.nil ?_
    refine AC.cond _ rfl (fun c18 => ?_) (fun c18 => ?_)
    · -- c18 True
      refine AC.region ?_
      refine AO.yld _ (Yld.move rfl) rfl rfl rfl ?_
      refine AO.yld _ (Yld.fieldAddr Tryd.underlying69 rfl rfl Tryd.sizeOf2 rfl rfl rfl) rfl rfl rfl ?_
      refine AO.yld _ (Yld.load Tryd.isAgg2 rfl rfl) rfl rfl rfl ?_
      refine AO.yld _ (Yld.fieldAddr Tryd.underlying69 rfl rfl Tryd.sizeOf2 rfl rfl rfl) rfl rfl rfl ?_
      refine AO.yld _ (Yld.load Tryd.isAgg2 rfl rfl) rfl rfl rfl ?_
      refine AO.yld _ (Yld.add rfl rfl (by omega) (by omega)) rfl rfl rfl ?_
      refine AO.buildSlice (rows := [[_], [_], [_]]) 3 Tryd.underlying39 ty2 rfl rfl rfl rfl rfl rfl rfl rfl rfl ?_
      refine AO.callW (wantedN rfl) [0, 3] [0, 1] [0] rfl rfl Tryd.call94 rfl (src_among_c (by omega) (by omega) (xs := [-1, v5 + y2.1.1, v5 + y2.1.1 + 1]) (by show 1 < 3; decide) (by show 3 ≤ 1000; decide)) (.own rfl) rfl (fun ⟨_, _, _⟩ => rfl) ⟨rfl, rfl, trivial⟩ rfl (fun ⟨_, _, _⟩ => rfl) (fun ⟨_, _, _⟩ => rfl) (fun ⟨v27, q27, s27⟩ hv27 => ?_)
      dsimp only at hv27
      refine AO.yld _ (Yld.fieldAddr Tryd.underlying69 rfl rfl Tryd.sizeOf2 rfl rfl rfl) rfl rfl rfl ?_
      refine AO.store Tryd.sizeOf2 rfl rfl rfl rfl rfl rfl ?_
      refine AO.nil ?_
      refine AC.mark ?_
      refine AC.seq ?_
      refine AC.region ?_
      refine AO.yld _ (Yld.loadAgg Tryd.isAgg69 Tryd.sizeOf69 rfl rfl rfl rfl) rfl rfl rfl ?_
      refine AO.store Tryd.sizeOf69 rfl rfl rfl rfl rfl rfl ?_
      refine AO.nil ?_
      refine FnE.ret (_, _, _, _, _) [0] [0] Tryd.results97 (RVs.cons (RV.cell Tryd.isAgg69 Tryd.sizeOf69 rfl rfl rfl rfl) RVs.nil) rfl rfl rfl ?_ rfl ⟨⟨_, rfl, rfl⟩, trivial⟩
      · -- holds
        show _ ≤ _ ∧ _ ≤ _; omega
    · -- c18 False
      refine AC.seq ?_
      refine AC.region ?_
      refine AO.yld _ (Yld.int rfl rfl rfl) rfl rfl rfl ?_
      refine AO.yld _ (Yld.assign rfl) rfl rfl rfl ?_
      refine AO.nil ?_
      refine AC.cond _ rfl (fun c29 => ?_) (fun c29 => ?_)
      · -- c29 True
        refine AC.region ?_
        refine AO.yld _ (Yld.move rfl) rfl rfl rfl ?_
        refine AO.buildSlice (rows := [[_], [_], [_]]) 3 Tryd.underlying39 ty2 rfl rfl rfl rfl rfl rfl rfl rfl rfl ?_
        refine AO.callW (wantedN rfl) [0, 3] [0, 1] [0] rfl rfl Tryd.call94 rfl (src_among_c (by omega) (by omega) (xs := [-1, 1000000000, 1000000001]) (by decide) (by decide)) (.own rfl) rfl (fun ⟨_, _, _⟩ => rfl) ⟨rfl, rfl, trivial⟩ rfl (fun ⟨_, _, _⟩ => rfl) (fun ⟨_, _, _⟩ => rfl) (fun ⟨v33, q33, s33⟩ hv33 => ?_)
        dsimp only at hv33
        refine AO.yld _ (Yld.fieldAddr Tryd.underlying69 rfl rfl Tryd.sizeOf2 rfl rfl rfl) rfl rfl rfl ?_
        refine AO.store Tryd.sizeOf2 rfl rfl rfl rfl rfl rfl ?_
        refine AO.nil ?_
        refine AC.mark ?_
        refine AC.seq ?_
        refine AC.region ?_
        refine AO.yld _ (Yld.loadAgg Tryd.isAgg69 Tryd.sizeOf69 rfl rfl rfl rfl) rfl rfl rfl ?_
        refine AO.store Tryd.sizeOf69 rfl rfl rfl rfl rfl rfl ?_
        refine AO.nil ?_
        refine FnE.ret (_, _, _, _, _) [0] [0] Tryd.results97 (RVs.cons (RV.cell Tryd.isAgg69 Tryd.sizeOf69 rfl rfl rfl rfl) RVs.nil) rfl rfl rfl ?_ rfl ⟨⟨_, rfl, rfl⟩, trivial⟩
        · -- holds
          show _ ≤ _ ∧ _ ≤ _; omega
      · -- c29 False
        refine AC.seq ?_
        refine AC.region ?_
        refine AO.yld _ (Yld.int rfl rfl rfl) rfl rfl rfl ?_
        refine AO.yld _ (Yld.assign rfl) rfl rfl rfl ?_
        refine AO.nil ?_
        refine AC.cond _ rfl (fun c35 => ?_) (fun c35 => ?_)
        · -- c35 True
          refine AC.region ?_
          refine AO.yld _ (Yld.move rfl) rfl rfl rfl ?_
          refine AO.buildSlice (rows := [[_], [_]]) 3 Tryd.underlying39 ty2 rfl rfl rfl rfl rfl rfl rfl rfl rfl ?_
          refine AO.callW (wantedN rfl) [0, 3] [0, 1] [0] rfl rfl Tryd.call94 rfl (src_among_c (by omega) (by omega) (xs := [1000000000, 1000000001]) (by decide) (by decide)) (.own rfl) rfl (fun ⟨_, _, _⟩ => rfl) ⟨rfl, rfl, trivial⟩ rfl (fun ⟨_, _, _⟩ => rfl) (fun ⟨_, _, _⟩ => rfl) (fun ⟨v39, q39, s39⟩ hv39 => ?_)
          dsimp only at hv39
          refine AO.yld _ (Yld.fieldAddr Tryd.underlying69 rfl rfl Tryd.sizeOf2 rfl rfl rfl) rfl rfl rfl ?_
          refine AO.store Tryd.sizeOf2 rfl rfl rfl rfl rfl rfl ?_
          refine AO.nil ?_
          refine AC.mark ?_
          refine AC.seq ?_
          refine AC.region ?_
          refine AO.yld _ (Yld.loadAgg Tryd.isAgg69 Tryd.sizeOf69 rfl rfl rfl rfl) rfl rfl rfl ?_
          refine AO.store Tryd.sizeOf69 rfl rfl rfl rfl rfl rfl ?_
          refine AO.nil ?_
          refine FnE.ret (_, _, _, _, _) [0] [0] Tryd.results97 (RVs.cons (RV.cell Tryd.isAgg69 Tryd.sizeOf69 rfl rfl rfl rfl) RVs.nil) rfl rfl rfl ?_ rfl ⟨⟨_, rfl, rfl⟩, trivial⟩
          · -- holds
            show _ ≤ _ ∧ _ ≤ _; omega
        · -- c35 False
          refine AC.skip ?_
          refine AC.mark ?_
          refine AC.seq ?_
          refine AC.region ?_
          refine AO.yld _ (Yld.loadAgg Tryd.isAgg69 Tryd.sizeOf69 rfl rfl rfl rfl) rfl rfl rfl ?_
          refine AO.store Tryd.sizeOf69 rfl rfl rfl rfl rfl rfl ?_
          refine AO.nil ?_
          refine FnE.ret (_, _, _, _, _) [0] [0] Tryd.results97 (RVs.cons (RV.cell Tryd.isAgg69 Tryd.sizeOf69 rfl rfl rfl rfl) RVs.nil) rfl rfl rfl ?_ rfl ⟨⟨_, rfl, rfl⟩, trivial⟩
          · -- holds
            show _ ≤ _ ∧ _ ≤ _; omega

theorem spec_l26DrawSamples_c {code : List UInt8} {p sd : Int} (h0 : 0 ≤ p) (h1 : p ≤ 1000000000000000) :
    FnE (α := List Sample × Int × Int) Tryd.prog 65 [.h 0] [(0, .box 117 [.p (.sl 1 (code.map encB)), .p (.v (.int .i64 p)), .p (.v (.int .u64 sd))])] [0] (fun ⟨xs, q, s⟩ => xs.length ≤ 30 ∧ p ≤ q ∧ q ≤ p + 200) (fun ⟨xs, q, s⟩ => .h 1) (fun ⟨xs, q, s⟩ => [(0, .box 117 [.p (.sl 1 (code.map encB)), .p (.v (.int .i64 q)), .p (.v (.int .u64 s))]), (1, .vec 69 3 (xs.map encSample))]) := by
  refine FnE.intro Tryd.func65 rfl Tryd.ntmps65 rfl rfl (fun w0 F0 η φ w => ?_)
  refine AC.seq ?_
  refine AC.region ?_
  refine AO.yld _ (Yld.assign rfl) rfl rfl rfl ?_
  refine AO.nil ?_
  refine AC.seq ?_
  refine AC.region ?_
  refine AO.buildSlice (rows := []) 1 Tryd.underlying59 ty69 rfl rfl rfl rfl rfl rfl rfl rfl rfl ?_
  refine AO.yld _ (Yld.assign rfl) rfl rfl rfl ?_
  refine AO.nil ?_
  refine AC.seq ?_
  refine AC.seq ?_
  refine AC.region ?_
  refine AO.yld _ (Yld.move rfl) rfl rfl rfl ?_
  refine AO.callW (wantedN rfl) [0] [0] [0] rfl rfl Tryd.call75 rfl (src_pick_c (by omega) (by omega) (by omega)) (.own rfl) rfl (fun ⟨_, _, _⟩ => rfl) ⟨rfl, trivial⟩ rfl (fun ⟨_, _, _⟩ => rfl) (fun ⟨_, _, _⟩ => rfl) (fun ⟨v7, q7, s7⟩ hv7 => ?_)
  dsimp only at hv7
  refine AO.yld _ (Yld.assign rfl) rfl rfl rfl ?_
  refine AO.nil ?_
  refine AC.block ?_
  refine AC.loopC4 [(0, _), (2, _)] [(900, _)] (fun (k : Nat) (xs : List Sample) (q s : Int) => [(4, .p (.v (.int .i64 (k : Int)))), (3, .h 1)]) (fun (k : Nat) (xs : List Sample) (q s : Int) => [(0, .box 117 [.p (.sl 1 (code.map encB)), .p (.v (.int .i64 q)), .p (.v (.int .u64 s))]), (1, .vec 69 3 (xs.map encSample))]) (fun (k : Nat) (xs : List Sample) (q s : Int) => xs.length + k ≤ 6 ∧ p ≤ q ∧ q ≤ p + 2 + 20 * (xs.length : Int)) (fun (k : Nat) (xs : List Sample) (q s : Int) => k) v7.toNat [] q7 s7 ⟨rfl, rfl, trivial⟩ ⟨rfl, trivial⟩ ⟨(by have : ((v7.toNat : Nat) : Int) = v7 := Int.toNat_of_nonneg hv7.1; rw [this]; rfl), rfl, trivial⟩ ⟨rfl, rfl, trivial⟩ ?_ (fun k xs q s hJ => ?_)
  · exact ⟨by show 0 + _ ≤ 6; omega, by omega, by show _ ≤ _ + 2 + 20 * (0 : Int); omega⟩
  · -- round
    refine AC.seq ?_
    refine AC.seq ?_
    refine AC.region ?_
    refine AO.yld _ (Yld.move rfl) rfl rfl rfl ?_
    refine AO.yld _ (Yld.int rfl rfl rfl) rfl rfl rfl ?_
    refine AO.nil ?_
    refine AC.cond _ rfl (fun c9 => ?_) (fun c9 => ?_)
    · -- c9 True
      have hk : 0 < k := by have h := c9; simp only [decide_eq_true_eq] at h; omega
      refine AC.skip ?_
      refine AC.seq ?_
      refine AC.block ?_
      refine AC.region ?_
      refine AO.yld _ (Yld.move rfl) rfl rfl rfl ?_
      refine AO.yld _ (Yld.move rfl) rfl rfl rfl ?_
      refine AO.callW (wantedN rfl) [0] [0] [0] rfl rfl Tryd.call97 rfl (spec_l26DrawSample_c (by omega) (by omega)) (.own rfl) rfl (fun ⟨_, _, _, _, _⟩ => rfl) ⟨rfl, trivial⟩ rfl (fun ⟨_, _, _, _, _⟩ => rfl) (fun ⟨_, _, _, _, _⟩ => rfl) (fun ⟨se14, ot14, ba14, q14, s14⟩ hse14 => ?_)
      dsimp only at hse14
      refine AO.buildSlice (rows := [[_, _, _]]) 2 Tryd.underlying59 ty69 rfl rfl rfl rfl rfl rfl rfl rfl rfl ?_
      refine AO.append 1 Tryd.underlying59 ty69 rfl rfl rfl rfl rfl rfl rfl (by simp [pvOne]) (by simp only [List.length_map, List.length_cons, List.length_nil, List.length_append]; omega) (by simp only [List.length_map, List.length_cons, List.length_nil, List.length_append]; omega) rfl ?_
      refine AO.yld _ (Yld.assign rfl) rfl rfl rfl ?_
      refine AO.nil ?_
      refine AC.mark ?_
      refine AC.region ?_
      refine AO.yld _ (Yld.move rfl) rfl rfl rfl ?_
      refine AO.yld _ (Yld.sub rfl rfl (by omega) (by omega)) rfl rfl rfl ?_
      refine AO.yld _ (Yld.assign rfl) rfl rfl rfl ?_
      refine AO.nil ?_
      refine AC.back ⟨k - 1, xs ++ [⟨se14, ot14, ba14⟩], q14, s14, ?_, ?_, ⟨?_, ?_, trivial⟩, ⟨?_, ?_, trivial⟩, ⟨rfl, rfl, trivial⟩, ⟨rfl, trivial⟩⟩
      · exact ⟨by simp only [List.length_append, List.length_cons, List.length_nil]; omega, by omega, by simp only [List.length_append, List.length_cons, List.length_nil]; omega⟩
      · omega
      · show some (AV.p (PV.v (Value.int IntKind.i64 _))) = _; congr 4; omega
      · rfl
      · rfl
      · rw [map_snoc]; rfl
    · -- c9 False
      refine AC.exit rfl ?_
      refine AC.seq ?_
      refine AC.seq ?_
      refine AC.region ?_
      refine AO.yld _ (Yld.move rfl) rfl rfl rfl ?_
      refine AO.callW (wantedN rfl) [0] [0] [0] rfl rfl Tryd.call76 rfl (src_one_c (by omega) (by omega) (by omega)) (.own rfl) rfl (fun ⟨_, _, _⟩ => rfl) ⟨rfl, trivial⟩ rfl (fun ⟨_, _, _⟩ => rfl) (fun ⟨_, _, _⟩ => rfl) (fun ⟨b18, q18, s18⟩ hb18 => ?_)
      dsimp only at hb18
      refine AO.nil ?_
      refine AC.cond _ rfl (fun c18 => ?_) (fun c18 => ?_)
      · -- c18 True
        refine AC.region ?_
        refine AO.yld _ (Yld.move rfl) rfl rfl rfl ?_
        refine AO.buildSlice (rows := [[_], [_]]) 2 Tryd.underlying39 ty2 rfl rfl rfl rfl rfl rfl rfl rfl rfl ?_
        refine AO.callW (wantedN rfl) [0, 2] [0, 1] [0] rfl rfl Tryd.call94 rfl (src_among_c (by omega) (by omega) (xs := [24, 25]) (by decide) (by decide)) (.own rfl) rfl (fun ⟨_, _, _⟩ => rfl) ⟨rfl, rfl, trivial⟩ rfl (fun ⟨_, _, _⟩ => rfl) (fun ⟨_, _, _⟩ => rfl) (fun ⟨v21, q21, s21⟩ hv21 => ?_)
        dsimp only at hv21
        have hm25 : 0 ≤ v21 ∧ v21 ≤ 25 := by have h := hv21.1; simp at h; omega
        obtain ⟨nn, hnn⟩ := Int.eq_ofNat_of_zero_le hm25.1
        subst hnn
        refine AO.make 3 Tryd.underlying59 ty69 rfl rfl rfl rfl rfl (Nat.le_refl _) (by omega) (by omega) rfl rfl ?_
        refine AO.yld _ (Yld.assign rfl) rfl rfl rfl ?_
        refine AO.nil ?_
        refine AC.seq ?_
        refine AC.region ?_
        refine AO.yld _ (Yld.move rfl) rfl rfl rfl ?_
        refine AO.yld _ (Yld.assign rfl) rfl rfl rfl ?_
        refine AO.nil ?_
        refine FnE.ret (List.replicate nn ⟨0, 0, 0⟩, q21, s21) [0, 3] [0, 1] Tryd.results65 (RVs.cons (RV.tmp rfl) RVs.nil) rfl rfl rfl ?_ ?_ ⟨⟨_, rfl, ?_⟩, ⟨_, rfl, ?_⟩, trivial⟩
        · -- holds
          show List.length _ ≤ 30 ∧ _ ≤ _ ∧ _ ≤ _; refine ⟨?_, by omega, by omega⟩; first | (rw [List.length_replicate]; omega) | omega
        · -- value
          rfl
        · -- thing 0
          rfl
        · -- thing 1
          first | rfl | (refine vecE ?_; rw [List.map_replicate]; rfl)
      · -- c18 False
        refine AC.skip ?_
        refine AC.seq ?_
        refine AC.region ?_
        refine AO.yld _ (Yld.move rfl) rfl rfl rfl ?_
        refine AO.yld _ (Yld.assign rfl) rfl rfl rfl ?_
        refine AO.nil ?_
        refine FnE.ret (xs, q18, s18) [0, 1] [0, 1] Tryd.results65 (RVs.cons (RV.tmp rfl) RVs.nil) rfl rfl rfl ?_ ?_ ⟨⟨_, rfl, ?_⟩, ⟨_, rfl, ?_⟩, trivial⟩
        · -- holds
          show List.length _ ≤ 30 ∧ _ ≤ _ ∧ _ ≤ _; refine ⟨?_, by omega, by omega⟩; first | (rw [List.length_replicate]; omega) | omega
        · -- value
          rfl
        · -- thing 0
          rfl
        · -- thing 1
          first | rfl | (refine vecE ?_; rw [List.map_replicate]; rfl)

theorem spec_DrawMachineOf_c {code : List UInt8} :
    FnE (α := List UInt8 × List Sample) Tryd.prog 26 [.p (.sl 1 (code.map encB))] [] [] (fun ⟨nm, xs⟩ => nm.length ≤ 10 ∧ xs.length ≤ 30) (fun ⟨nm, xs⟩ => .tup [.p (.v (str nm)), .h 0]) (fun ⟨nm, xs⟩ => [(0, .vec 69 3 (xs.map encSample))]) := by
  refine FnE.intro Tryd.func26 rfl Tryd.ntmps26 rfl rfl (fun w0 F0 η φ w => ?_)
  refine AC.seq ?_
  refine AC.region ?_
  refine AO.yld _ (Yld.assign rfl) rfl rfl rfl ?_
  refine AO.yld _ (Yld.assign rfl) rfl rfl rfl ?_
  refine AO.nil ?_
  refine AC.seq ?_
  refine AC.region ?_
  refine AO.yld _ (Yld.move rfl) rfl rfl rfl ?_
  refine AO.callW (wantedN rfl) [0] [] [0] rfl rfl Tryd.call33 rfl (spec_l00From_c) (.own rfl) rfl (fun _ => rfl) trivial rfl (fun _ => rfl) (fun _ => rfl) (fun _ _ => ?_)
  refine AO.yld _ (Yld.assign rfl) rfl rfl rfl ?_
  refine AO.nil ?_
  refine AC.seq ?_
  refine AC.region ?_
  refine AO.yld _ (Yld.move rfl) rfl rfl rfl ?_
  refine AO.buildSlice (rows := [[_], [_], [_], [_]]) 1 Tryd.underlying106 ty9 rfl rfl rfl rfl rfl rfl rfl rfl rfl ?_
  refine AO.callW (wantedN rfl) [0, 1] [0, 1] [0] rfl rfl Tryd.call64 rfl (src_text_c (by omega) (by omega) (xs := [[108, 101, 102, 116], [114, 105, 103, 104, 116], [], [76]]) (by decide) (by decide)) (.own rfl) rfl (fun ⟨_, _, _⟩ => rfl) ⟨rfl, rfl, trivial⟩ rfl (fun ⟨_, _, _⟩ => rfl) (fun ⟨_, _, _⟩ => rfl) (fun ⟨v10, q10, s10⟩ hv10 => ?_)
  dsimp only at hv10
  refine AO.yld _ (Yld.assign rfl) rfl rfl rfl ?_
  refine AO.nil ?_
  refine AC.seq ?_
  refine AC.region ?_
  refine AO.yld _ (Yld.move rfl) rfl rfl rfl ?_
  refine AO.yld _ (Yld.move rfl) rfl rfl rfl ?_
  refine AO.callW (wantedN rfl) [0, 2] [0] [0, 1] rfl rfl Tryd.call65 rfl (spec_l26DrawSamples_c (by omega) (by omega)) (.own rfl) rfl (fun ⟨_, _, _⟩ => rfl) ⟨rfl, trivial⟩ rfl (fun ⟨_, _, _⟩ => rfl) (fun ⟨_, _, _⟩ => rfl) (fun ⟨xs13, q13, s13⟩ hxs13 => ?_)
  dsimp only at hxs13
  refine AO.yld _ (Yld.assign rfl) rfl rfl rfl ?_
  refine AO.yld _ (Yld.assign rfl) rfl rfl rfl ?_
  refine AO.nil ?_
  refine FnE.ret (_, _) [2] [0] Tryd.results26 (RVs.cons (RV.tmp rfl) (RVs.cons (RV.tmp rfl) RVs.nil)) rfl rfl rfl ?_ rfl ⟨⟨_, rfl, rfl⟩, trivial⟩
  · -- holds
    exact ⟨by have h := hv10.1; simp at h; rcases h with h | h | h | h <;> rw [h] <;> decide, hxs13.1⟩

end Go.Proofs.YtghcdgjbgljipaaDoor
