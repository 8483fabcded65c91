/- Contracts of functions of the program, each by a walk of its text in the calculus V. -/
import Derived.Test.YtmnmaakaneaiaaaDoorK5
import Derived.Lib.RowBridge
import Derived.Deep.Draws
import Derived.Laws.IdiomCopy
import Derived.Test.YtmnmaakaneaiaaaDoorProg
import Derived.Shelf.RegionOpenPlain
import Derived.WalkKit
import Derived.Deep.LoopGhost
import Derived.Deep.RegionLaw
import Derived.Lib.Walk
import Derived.Lib.SliceRun
import Derived.Sort.WalkB12
import Derived.Shelf.SlSortCmp.WholeK
import Derived.Ground.SlsfProg
import Derived.Shelf.Abstract
import Derived.Test.YtmnmaakaneaiaaaDoorK3
import Derived.Lib.ItoaMem
import Derived.Test.YtmnmaakaneaiaaaDoorK2
import Derived.Lib.AppendIntMem

set_option linter.all false
set_option linter.unusedSimpArgs false
set_option linter.unnecessarySimpa false
set_option linter.unusedVariables false
namespace Go.Proofs.YtmnmaakaneaiaaaDoor
open Go Go.V
theorem ty9 : TyIs Tryd.prog 9 (.string ⟨#[]⟩) 1 16 := by unfold TyIs; kernel_rfl
theorem bld57 : BuildIs Tryd.prog 57 [(0, 1), (1, 1)] (.agg #[.string ⟨#[]⟩, .int .i64 0]) := by
  intro ps cells w h
  have h2 : Instr.fill (fun i => ([(0, 1), (1, 1)] : List (Nat × Nat))[i]?) #[.string ⟨#[]⟩, .int .i64 0] ps.toList = some cells := h
  simp [Instr.build, go_sem, Tryd.zeroValue57, run_underlying Tryd.underlying57, Tryd.sizeOf2, Tryd.sizeOf9, h2]
theorem bld80 : BuildIs Tryd.prog 80 [(0, 1), (1, 1), (2, 1)] (.agg #[.slice none 0 0, .int .i64 0, .int .u64 0]) := by
  intro ps cells w h
  have h2 : Instr.fill (fun i => ([(0, 1), (1, 1), (2, 1)] : List (Nat × Nat))[i]?) #[.slice none 0 0, .int .i64 0, .int .u64 0] ps.toList = some cells := h
  simp [Instr.build, go_sem, Tryd.zeroValue80, run_underlying Tryd.underlying80, Tryd.sizeOf3, Tryd.sizeOf22, Tryd.sizeOf78, h2]

theorem src_next_c {code : List UInt8} {p sd : Int} (h0 : 0 ≤ p) (h1 : p ≤ 4611686018427387904) :
    FnE (α := Int × Int) Tryd.prog 66 [.h 0] [(0, .box 80 [.p (.sl 1 (code.map encB)), .p (.v (.int .i64 p)), .p (.v (.int .u64 sd))])] [0] (fun ⟨v, s⟩ => 0 ≤ v ∧ v ≤ 255) (fun ⟨v, s⟩ => .p (.v (.int .i64 v))) (fun ⟨v, s⟩ => [(0, .box 80 [.p (.sl 1 (code.map encB)), .p (.v (.int .i64 (p + 1))), .p (.v (.int .u64 s))])]) := by
  refine FnE.intro Tryd.func66 rfl Tryd.ntmps66 rfl rfl (fun w0 F0 η φ w => ?_)
  refine AC.seq ?_
  refine AC.region ?_
  refine AO.yld _ (Yld.assign rfl) rfl rfl rfl ?_
  refine AO.nil ?_
  refine AC.seq ?_
  refine AC.region ?_
  refine AO.yld _ (Yld.assign rfl) rfl rfl rfl ?_
  refine AO.nil ?_
  refine AC.seq ?_
  refine AC.seq ?_
  refine AC.draw (by kernel_rfl) (by kernel_rfl) ?_
  refine AO.yld _ (Yld.move rfl) rfl rfl rfl ?_
  refine AO.yld _ (Yld.nilCheck rfl rfl) rfl rfl rfl ?_
  refine AO.yld _ (Yld.fieldAddr Tryd.underlying80 rfl rfl Tryd.sizeOf3 rfl rfl rfl) rfl rfl rfl ?_
  refine AO.yld _ (Yld.load Tryd.isAgg3 rfl rfl) rfl rfl rfl ?_
  refine AO.yld _ (Yld.move rfl) rfl rfl rfl ?_
  refine AO.yld _ (Yld.nilCheck rfl rfl) rfl rfl rfl ?_
  refine AO.yld _ (Yld.fieldAddr Tryd.underlying80 rfl rfl Tryd.sizeOf22 rfl rfl rfl) rfl rfl rfl ?_
  refine AO.yld _ (Yld.load Tryd.isAgg22 rfl rfl) rfl rfl rfl ?_
  refine AO.yld _ (Yld.len Tryd.underlying22 rfl rfl) rfl rfl rfl ?_
  refine AO.yld _ (Yld.int rfl rfl rfl) rfl rfl rfl ?_
  refine AO.nil ?_
  refine AC.cond _ rfl (fun c13 => ?_) (fun c13 => ?_)
  · -- c13 True
    have hp : p < code.length := by have h := c13; simpa using h
    obtain ⟨c, hc⟩ := get_some (xs := code) (k := p.toNat) (by omega)
    have hrow := map_row (enc := encB) hc
    refine AC.draw (by kernel_rfl) (by kernel_rfl) ?_
    refine AO.yld _ (Yld.move rfl) rfl rfl rfl ?_
    refine AO.yld _ (Yld.nilCheck rfl rfl) rfl rfl rfl ?_
    refine AO.yld _ (Yld.fieldAddr Tryd.underlying80 rfl rfl Tryd.sizeOf22 rfl rfl rfl) rfl rfl rfl ?_
    refine AO.yld _ (Yld.load Tryd.isAgg22 rfl rfl) rfl rfl rfl ?_
    refine AO.yld _ (Yld.move rfl) rfl rfl rfl ?_
    refine AO.yld _ (Yld.nilCheck rfl rfl) rfl rfl rfl ?_
    refine AO.yld _ (Yld.fieldAddr Tryd.underlying80 rfl rfl Tryd.sizeOf3 rfl rfl rfl) rfl rfl rfl ?_
    refine AO.yld _ (Yld.load Tryd.isAgg3 rfl rfl) rfl rfl rfl ?_
    refine AO.yld _ (Yld.indexSl Tryd.underlying22 Tryd.sizeOf5 rfl rfl hrow (by omega)) rfl rfl rfl ?_
    refine AO.yld _ (Yld.load Tryd.isAgg5 rfl rfl) rfl rfl rfl ?_
    refine AO.yld _ (Yld.convInt Tryd.underlying5 Tryd.underlying3 rfl) rfl rfl rfl ?_
    refine AO.yld _ (Yld.assign rfl) rfl rfl rfl ?_
    refine AO.nil ?_
    refine AC.seq ?_
    refine AC.region ?_
    refine AO.yld _ (Yld.move rfl) rfl rfl rfl ?_
    refine AO.yld _ (Yld.nilCheck rfl rfl) rfl rfl rfl ?_
    refine AO.yld _ (Yld.fieldAddr Tryd.underlying80 rfl rfl Tryd.sizeOf3 rfl rfl rfl) rfl rfl rfl ?_
    refine AO.yld _ (Yld.load Tryd.isAgg3 rfl rfl) rfl rfl rfl ?_
    refine AO.yld _ (Yld.add rfl rfl (by omega) (by omega)) rfl rfl rfl ?_
    refine AO.yld _ (Yld.nilCheck rfl rfl) rfl rfl rfl ?_
    refine AO.yld _ (Yld.fieldAddr Tryd.underlying80 rfl rfl Tryd.sizeOf3 rfl rfl rfl) rfl rfl rfl ?_
    refine AO.store Tryd.sizeOf3 rfl rfl rfl rfl rfl rfl ?_
    refine AO.nil ?_
    refine AC.seq ?_
    refine AC.region ?_
    refine AO.yld _ (Yld.move rfl) rfl rfl rfl ?_
    refine AO.yld _ (Yld.move rfl) rfl rfl rfl ?_
    refine AO.yld _ (Yld.nilCheck rfl rfl) rfl rfl rfl ?_
    refine AO.yld _ (Yld.fieldAddr Tryd.underlying80 rfl rfl Tryd.sizeOf78 rfl rfl rfl) rfl rfl rfl ?_
    refine AO.yld _ (Yld.load Tryd.isAgg78 rfl rfl) rfl rfl rfl ?_
    refine AO.yld _ (Yld.int rfl rfl rfl) rfl rfl rfl ?_
    refine AO.yld _ (Yld.move rfl) rfl rfl rfl ?_
    refine AO.yld _ (Yld.convInt Tryd.underlying3 Tryd.underlying78 rfl) rfl rfl rfl ?_
    refine AO.yld _ (Yld.int rfl rfl rfl) rfl rfl rfl ?_
    refine AO.yld _ (Yld.int rfl rfl rfl) rfl rfl rfl ?_
    refine AO.yld _ (Yld.nilCheck rfl rfl) rfl rfl rfl ?_
    refine AO.yld _ (Yld.fieldAddr Tryd.underlying80 rfl rfl Tryd.sizeOf78 rfl rfl rfl) rfl rfl rfl ?_
    refine AO.store Tryd.sizeOf78 rfl rfl rfl rfl rfl rfl ?_
    refine AO.nil ?_
    refine AC.seq ?_
    refine AC.seq ?_
    refine AC.draw (by kernel_rfl) (by kernel_rfl) ?_
    refine AO.yld _ (Yld.move rfl) rfl rfl rfl ?_
    refine AO.yld _ (Yld.nilCheck rfl rfl) rfl rfl rfl ?_
    refine AO.yld _ (Yld.fieldAddr Tryd.underlying80 rfl rfl Tryd.sizeOf3 rfl rfl rfl) rfl rfl rfl ?_
    refine AO.yld _ (Yld.load Tryd.isAgg3 rfl rfl) rfl rfl rfl ?_
    refine AO.yld _ (Yld.move rfl) rfl rfl rfl ?_
    refine AO.yld _ (Yld.nilCheck rfl rfl) rfl rfl rfl ?_
    refine AO.yld _ (Yld.fieldAddr Tryd.underlying80 rfl rfl Tryd.sizeOf22 rfl rfl rfl) rfl rfl rfl ?_
    refine AO.yld _ (Yld.load Tryd.isAgg22 rfl rfl) rfl rfl rfl ?_
    refine AO.yld _ (Yld.len Tryd.underlying22 rfl rfl) rfl rfl rfl ?_
    refine AO.yld _ (Yld.int rfl rfl rfl) rfl rfl rfl ?_
    refine AO.nil ?_
    refine AC.cond _ rfl (fun c53 => ?_) (fun c53 => ?_)
    · -- c53 True
      refine AC.seq ?_
      refine AC.region ?_
      refine AO.yld _ (Yld.move rfl) rfl rfl rfl ?_
      refine AO.yld _ (Yld.assign rfl) rfl rfl rfl ?_
      refine AO.nil ?_
      refine FnE.ret (_, _) [0] [0] Tryd.results66 (RVs.cons (RV.tmp rfl) RVs.nil) rfl rfl rfl ?_ rfl ⟨⟨_, rfl, rfl⟩, trivial⟩
      · -- holds
        show 0 ≤ _ ∧ _ ≤ _; first | exact byte_u8 _ | exact byte_of _ | exact ⟨by decide, by decide⟩
    · -- c53 False
      refine AC.skip ?_
      refine AC.seq ?_
      refine AC.region ?_
      refine AO.yld _ (Yld.move rfl) rfl rfl rfl ?_
      refine AO.yld _ (Yld.nilCheck rfl rfl) rfl rfl rfl ?_
      refine AO.yld _ (Yld.fieldAddr Tryd.underlying80 rfl rfl Tryd.sizeOf78 rfl rfl rfl) rfl rfl rfl ?_
      refine AO.yld _ (Yld.load Tryd.isAgg78 rfl rfl) rfl rfl rfl ?_
      refine AO.yld _ (Yld.shr rfl rfl (by omega)) rfl rfl rfl ?_
      refine AO.yld _ (Yld.and rfl rfl) rfl rfl rfl ?_
      refine AO.yld _ (Yld.convInt Tryd.underlying78 Tryd.underlying2 rfl) rfl rfl rfl ?_
      refine AO.yld _ (Yld.assign rfl) rfl rfl rfl ?_
      refine AO.nil ?_
      refine FnE.ret (_, _) [0] [0] Tryd.results66 (RVs.cons (RV.tmp rfl) RVs.nil) rfl rfl rfl ?_ rfl ⟨⟨_, rfl, rfl⟩, trivial⟩
      · -- holds
        show 0 ≤ _ ∧ _ ≤ _; first | exact byte_u8 _ | exact byte_of _ | exact ⟨by decide, by decide⟩
  · -- c13 False
    refine AC.skip ?_
    refine AC.seq ?_
    refine AC.region ?_
    refine AO.yld _ (Yld.move rfl) rfl rfl rfl ?_
    refine AO.yld _ (Yld.nilCheck rfl rfl) rfl rfl rfl ?_
    refine AO.yld _ (Yld.fieldAddr Tryd.underlying80 rfl rfl Tryd.sizeOf3 rfl rfl rfl) rfl rfl rfl ?_
    refine AO.yld _ (Yld.load Tryd.isAgg3 rfl rfl) rfl rfl rfl ?_
    refine AO.yld _ (Yld.add rfl rfl (by omega) (by omega)) rfl rfl rfl ?_
    refine AO.yld _ (Yld.nilCheck rfl rfl) rfl rfl rfl ?_
    refine AO.yld _ (Yld.fieldAddr Tryd.underlying80 rfl rfl Tryd.sizeOf3 rfl rfl rfl) rfl rfl rfl ?_
    refine AO.store Tryd.sizeOf3 rfl rfl rfl rfl rfl rfl ?_
    refine AO.nil ?_
    refine AC.seq ?_
    refine AC.region ?_
    refine AO.yld _ (Yld.move rfl) rfl rfl rfl ?_
    refine AO.yld _ (Yld.move rfl) rfl rfl rfl ?_
    refine AO.yld _ (Yld.nilCheck rfl rfl) rfl rfl rfl ?_
    refine AO.yld _ (Yld.fieldAddr Tryd.underlying80 rfl rfl Tryd.sizeOf78 rfl rfl rfl) rfl rfl rfl ?_
    refine AO.yld _ (Yld.load Tryd.isAgg78 rfl rfl) rfl rfl rfl ?_
    refine AO.yld _ (Yld.int rfl rfl rfl) rfl rfl rfl ?_
    refine AO.yld _ (Yld.move rfl) rfl rfl rfl ?_
    refine AO.yld _ (Yld.convInt Tryd.underlying3 Tryd.underlying78 rfl) rfl rfl rfl ?_
    refine AO.yld _ (Yld.int rfl rfl rfl) rfl rfl rfl ?_
    refine AO.yld _ (Yld.int rfl rfl rfl) rfl rfl rfl ?_
    refine AO.yld _ (Yld.nilCheck rfl rfl) rfl rfl rfl ?_
    refine AO.yld _ (Yld.fieldAddr Tryd.underlying80 rfl rfl Tryd.sizeOf78 rfl rfl rfl) rfl rfl rfl ?_
    refine AO.store Tryd.sizeOf78 rfl rfl rfl rfl rfl rfl ?_
    refine AO.nil ?_
    refine AC.seq ?_
    refine AC.seq ?_
    refine AC.draw (by kernel_rfl) (by kernel_rfl) ?_
    refine AO.yld _ (Yld.move rfl) rfl rfl rfl ?_
    refine AO.yld _ (Yld.nilCheck rfl rfl) rfl rfl rfl ?_
    refine AO.yld _ (Yld.fieldAddr Tryd.underlying80 rfl rfl Tryd.sizeOf3 rfl rfl rfl) rfl rfl rfl ?_
    refine AO.yld _ (Yld.load Tryd.isAgg3 rfl rfl) rfl rfl rfl ?_
    refine AO.yld _ (Yld.move rfl) rfl rfl rfl ?_
    refine AO.yld _ (Yld.nilCheck rfl rfl) rfl rfl rfl ?_
    refine AO.yld _ (Yld.fieldAddr Tryd.underlying80 rfl rfl Tryd.sizeOf22 rfl rfl rfl) rfl rfl rfl ?_
    refine AO.yld _ (Yld.load Tryd.isAgg22 rfl rfl) rfl rfl rfl ?_
    refine AO.yld _ (Yld.len Tryd.underlying22 rfl rfl) rfl rfl rfl ?_
    refine AO.yld _ (Yld.int rfl rfl rfl) rfl rfl rfl ?_
    refine AO.nil ?_
    refine AC.cond _ rfl (fun c53 => ?_) (fun c53 => ?_)
    · -- c53 True
      refine AC.seq ?_
      refine AC.region ?_
      refine AO.yld _ (Yld.move rfl) rfl rfl rfl ?_
      refine AO.yld _ (Yld.assign rfl) rfl rfl rfl ?_
      refine AO.nil ?_
      refine FnE.ret (_, _) [0] [0] Tryd.results66 (RVs.cons (RV.tmp rfl) RVs.nil) rfl rfl rfl ?_ rfl ⟨⟨_, rfl, rfl⟩, trivial⟩
      · -- holds
        show 0 ≤ _ ∧ _ ≤ _; first | exact byte_u8 _ | exact byte_of _ | exact ⟨by decide, by decide⟩
    · -- c53 False
      refine AC.skip ?_
      refine AC.seq ?_
      refine AC.region ?_
      refine AO.yld _ (Yld.move rfl) rfl rfl rfl ?_
      refine AO.yld _ (Yld.nilCheck rfl rfl) rfl rfl rfl ?_
      refine AO.yld _ (Yld.fieldAddr Tryd.underlying80 rfl rfl Tryd.sizeOf78 rfl rfl rfl) rfl rfl rfl ?_
      refine AO.yld _ (Yld.load Tryd.isAgg78 rfl rfl) rfl rfl rfl ?_
      refine AO.yld _ (Yld.shr rfl rfl (by omega)) rfl rfl rfl ?_
      refine AO.yld _ (Yld.and rfl rfl) rfl rfl rfl ?_
      refine AO.yld _ (Yld.convInt Tryd.underlying78 Tryd.underlying2 rfl) rfl rfl rfl ?_
      refine AO.yld _ (Yld.assign rfl) rfl rfl rfl ?_
      refine AO.nil ?_
      refine FnE.ret (_, _) [0] [0] Tryd.results66 (RVs.cons (RV.tmp rfl) RVs.nil) rfl rfl rfl ?_ rfl ⟨⟨_, rfl, rfl⟩, trivial⟩
      · -- holds
        show 0 ≤ _ ∧ _ ≤ _; first | exact byte_u8 _ | exact byte_of _ | exact ⟨by decide, by decide⟩

theorem src_pick_c {code : List UInt8} {p sd n : Int} (h0 : 0 ≤ p) (h1 : p ≤ 4611686018427387000) (h2 : 1 < n) :
    FnE (α := Int × Int × Int) Tryd.prog 47 [.h 0, .p (.v (.int .i64 n))] [(0, .box 80 [.p (.sl 1 (code.map encB)), .p (.v (.int .i64 p)), .p (.v (.int .u64 sd))])] [0] (fun ⟨v, q, s⟩ => 0 ≤ v ∧ v < n ∧ p ≤ q ∧ q ≤ p + 2) (fun ⟨v, q, s⟩ => .p (.v (.int .i64 v))) (fun ⟨v, q, s⟩ => [(0, .box 80 [.p (.sl 1 (code.map encB)), .p (.v (.int .i64 q)), .p (.v (.int .u64 s))])]) := by
  refine FnE.intro Tryd.func47 rfl Tryd.ntmps47 rfl rfl (fun w0 F0 η φ w => ?_)
  refine AC.seq ?_
  refine AC.region ?_
  refine AO.yld _ (Yld.assign rfl) rfl rfl rfl ?_
  refine AO.nil ?_
  refine AC.seq ?_
  refine AC.seq ?_
  refine AC.region ?_
  refine AO.yld _ (Yld.move rfl) rfl rfl rfl ?_
  refine AO.yld _ (Yld.int rfl rfl rfl) rfl rfl rfl ?_
  refine AO.nil ?_
  refine AC.cond _ rfl (fun c7 => ?_) (fun c7 => ?_)
  · -- c7 True
    exfalso; have h := c7; simp at h; omega
  · -- c7 False
    refine AC.skip ?_
    refine AC.seq ?_
    refine AC.region ?_
    refine AO.yld _ (Yld.move rfl) rfl rfl rfl ?_
    refine AO.callW (wantedN rfl) [0] [0] [0] rfl rfl Tryd.call66 rfl (src_next_c (by omega) (by omega)) (.own rfl) rfl (fun ⟨_, _⟩ => rfl) ⟨rfl, trivial⟩ rfl (fun ⟨_, _⟩ => rfl) (fun ⟨_, _⟩ => rfl) (fun ⟨v9, s9⟩ hv9 => ?_)
    dsimp only at hv9
    refine AO.yld _ (Yld.assign rfl) rfl rfl rfl ?_
    refine AO.nil ?_
    refine AC.seq ?_
    refine AC.seq ?_
    refine AC.region ?_
    refine AO.yld _ (Yld.move rfl) rfl rfl rfl ?_
    refine AO.yld _ (Yld.int rfl rfl rfl) rfl rfl rfl ?_
    refine AO.nil ?_
    refine AC.cond _ rfl (fun c11 => ?_) (fun c11 => ?_)
    · -- c11 True
      refine AC.region ?_
      refine AO.yld _ (Yld.move rfl) rfl rfl rfl ?_
      refine AO.yld _ (Yld.mul rfl rfl (by omega) (by omega)) rfl rfl rfl ?_
      refine AO.yld _ (Yld.move rfl) rfl rfl rfl ?_
      refine AO.callW (wantedN rfl) [0] [0] [0] rfl rfl Tryd.call66 rfl (src_next_c (by omega) (by omega)) (.own rfl) rfl (fun ⟨_, _⟩ => rfl) ⟨rfl, trivial⟩ rfl (fun ⟨_, _⟩ => rfl) (fun ⟨_, _⟩ => rfl) (fun ⟨v15, s15⟩ hv15 => ?_)
      dsimp only at hv15
      refine AO.yld _ (Yld.add rfl rfl (by omega) (by omega)) rfl rfl rfl ?_
      refine AO.yld _ (Yld.assign rfl) rfl rfl rfl ?_
      refine AO.nil ?_
      refine AC.seq ?_
      refine AC.region ?_
      refine AO.yld _ (Yld.move rfl) rfl rfl rfl ?_
      refine AO.yld _ (Yld.move rfl) rfl rfl rfl ?_
      refine AO.yld _ (Yld.rem rfl rfl (by omega)) rfl rfl rfl ?_
      refine AO.yld _ (Yld.assign rfl) rfl rfl rfl ?_
      refine AO.nil ?_
      refine FnE.ret (_, _, _) [0] [0] Tryd.results47 (RVs.cons (RV.tmp rfl) RVs.nil) rfl rfl rfl ?_ rfl ⟨⟨_, rfl, rfl⟩, trivial⟩
      · -- holds
        show 0 ≤ _ ∧ _ < _ ∧ _ ≤ _ ∧ _ ≤ _; first | exact pick_lim hv9 (by omega) (by omega) | exact pick_lim2 hv9 hv15 (by omega) (by omega)
    · -- c11 False
      refine AC.skip ?_
      refine AC.seq ?_
      refine AC.region ?_
      refine AO.yld _ (Yld.move rfl) rfl rfl rfl ?_
      refine AO.yld _ (Yld.move rfl) rfl rfl rfl ?_
      refine AO.yld _ (Yld.rem rfl rfl (by omega)) rfl rfl rfl ?_
      refine AO.yld _ (Yld.assign rfl) rfl rfl rfl ?_
      refine AO.nil ?_
      refine FnE.ret (_, _, _) [0] [0] Tryd.results47 (RVs.cons (RV.tmp rfl) RVs.nil) rfl rfl rfl ?_ rfl ⟨⟨_, rfl, rfl⟩, trivial⟩
      · -- holds
        show 0 ≤ _ ∧ _ < _ ∧ _ ≤ _ ∧ _ ≤ _; first | exact pick_lim hv9 (by omega) (by omega) | exact pick_lim2 hv9 hv15 (by omega) (by omega)

theorem spec_l00From_c {code : List UInt8} :
    FnE (α := Unit) Tryd.prog 20 [.p (.sl 1 (code.map encB))] [] [] (fun _ => True) (fun _ => .h 0) (fun _ => [(0, .box 80 [.p (.sl 1 (code.map encB)), .p (.v (.int .i64 0)), .p (.v (.int .u64 0))])]) := by
  refine FnE.intro Tryd.func20 rfl Tryd.ntmps20 rfl rfl (fun w0 F0 η φ w => ?_)
  refine AC.seq ?_
  refine AC.region ?_
  refine AO.yld _ (Yld.assign rfl) rfl rfl rfl ?_
  refine AO.nil ?_
  refine AC.seq ?_
  refine AC.region ?_
  refine AO.yld _ (Yld.move rfl) rfl rfl rfl ?_
  refine AO.yld _ (Yld.buildA (zs := [.sl 0 [], .v (.int .i64 0), .v (.int .u64 0)]) bld80 rfl rfl) rfl rfl rfl ?_
  refine AO.box 0 rfl rfl rfl rfl rfl ?_
  refine AO.yld _ (Yld.assign rfl) rfl rfl rfl ?_
  refine AO.nil ?_
  refine FnE.ret () [0] [0] Tryd.results20 (RVs.cons (RV.tmp rfl) RVs.nil) rfl rfl rfl ?_ ?_ ⟨⟨_, rfl, ?_⟩, trivial⟩
  · -- holds
    trivial
  · -- value
    rfl
  · -- thing 0
    rfl

theorem src_pick1_c {code : List UInt8} {p sd n : Int} (h0 : 0 ≤ p) (h1 : p ≤ 4611686018427387000) (h2 : 0 < n) :
    FnE (α := Int × Int × Int) Tryd.prog 47 [.h 0, .p (.v (.int .i64 n))] [(0, .box 80 [.p (.sl 1 (code.map encB)), .p (.v (.int .i64 p)), .p (.v (.int .u64 sd))])] [0] (fun ⟨v, q, s⟩ => 0 ≤ v ∧ v < n ∧ p ≤ q ∧ q ≤ p + 2) (fun ⟨v, q, s⟩ => .p (.v (.int .i64 v))) (fun ⟨v, q, s⟩ => [(0, .box 80 [.p (.sl 1 (code.map encB)), .p (.v (.int .i64 q)), .p (.v (.int .u64 s))])]) := by
  refine FnE.intro Tryd.func47 rfl Tryd.ntmps47 rfl rfl (fun w0 F0 η φ w => ?_)
  refine AC.seq ?_
  refine AC.region ?_
  refine AO.yld _ (Yld.assign rfl) rfl rfl rfl ?_
  refine AO.nil ?_
  refine AC.seq ?_
  refine AC.seq ?_
  refine AC.region ?_
  refine AO.yld _ (Yld.move rfl) rfl rfl rfl ?_
  refine AO.yld _ (Yld.int rfl rfl rfl) rfl rfl rfl ?_
  refine AO.nil ?_
  refine AC.cond _ rfl (fun c7 => ?_) (fun c7 => ?_)
  · -- c7 True
    refine AC.seq ?_
    refine AC.region ?_
    refine AO.yld _ (Yld.assign rfl) rfl rfl rfl ?_
    refine AO.nil ?_
    refine FnE.ret (_, _, _) [0] [0] Tryd.results47 (RVs.cons (RV.tmp rfl) RVs.nil) rfl rfl rfl ?_ rfl ⟨⟨_, rfl, rfl⟩, trivial⟩
    · -- holds
      show 0 ≤ _ ∧ _ < _ ∧ _ ≤ _ ∧ _ ≤ _; first | exact pickR0 h2 | exact pick_lim hv9 (by have h := c7; simp at h; omega) (by omega) | exact pick_lim2 hv9 hv15 (by have h := c7; simp at h; omega) (by omega)
  · -- c7 False
    refine AC.skip ?_
    refine AC.seq ?_
    refine AC.region ?_
    refine AO.yld _ (Yld.move rfl) rfl rfl rfl ?_
    refine AO.callW (wantedN rfl) [0] [0] [0] rfl rfl Tryd.call66 rfl (src_next_c (by omega) (by omega)) (.own rfl) rfl (fun ⟨_, _⟩ => rfl) ⟨rfl, trivial⟩ rfl (fun ⟨_, _⟩ => rfl) (fun ⟨_, _⟩ => rfl) (fun ⟨v9, s9⟩ hv9 => ?_)
    dsimp only at hv9
    refine AO.yld _ (Yld.assign rfl) rfl rfl rfl ?_
    refine AO.nil ?_
    refine AC.seq ?_
    refine AC.seq ?_
    refine AC.region ?_
    refine AO.yld _ (Yld.move rfl) rfl rfl rfl ?_
    refine AO.yld _ (Yld.int rfl rfl rfl) rfl rfl rfl ?_
    refine AO.nil ?_
    refine AC.cond _ rfl (fun c11 => ?_) (fun c11 => ?_)
    · -- c11 True
      refine AC.region ?_
      refine AO.yld _ (Yld.move rfl) rfl rfl rfl ?_
      refine AO.yld _ (Yld.mul rfl rfl (by omega) (by omega)) rfl rfl rfl ?_
      refine AO.yld _ (Yld.move rfl) rfl rfl rfl ?_
      refine AO.callW (wantedN rfl) [0] [0] [0] rfl rfl Tryd.call66 rfl (src_next_c (by omega) (by omega)) (.own rfl) rfl (fun ⟨_, _⟩ => rfl) ⟨rfl, trivial⟩ rfl (fun ⟨_, _⟩ => rfl) (fun ⟨_, _⟩ => rfl) (fun ⟨v15, s15⟩ hv15 => ?_)
      dsimp only at hv15
      refine AO.yld _ (Yld.add rfl rfl (by omega) (by omega)) rfl rfl rfl ?_
      refine AO.yld _ (Yld.assign rfl) rfl rfl rfl ?_
      refine AO.nil ?_
      refine AC.seq ?_
      refine AC.region ?_
      refine AO.yld _ (Yld.move rfl) rfl rfl rfl ?_
      refine AO.yld _ (Yld.move rfl) rfl rfl rfl ?_
      refine AO.yld _ (Yld.rem rfl rfl (by have h := c7; simp at h; omega)) rfl rfl rfl ?_
      refine AO.yld _ (Yld.assign rfl) rfl rfl rfl ?_
      refine AO.nil ?_
      refine FnE.ret (_, _, _) [0] [0] Tryd.results47 (RVs.cons (RV.tmp rfl) RVs.nil) rfl rfl rfl ?_ rfl ⟨⟨_, rfl, rfl⟩, trivial⟩
      · -- holds
        show 0 ≤ _ ∧ _ < _ ∧ _ ≤ _ ∧ _ ≤ _; first | exact pickR0 h2 | exact pick_lim hv9 (by have h := c7; simp at h; omega) (by omega) | exact pick_lim2 hv9 hv15 (by have h := c7; simp at h; omega) (by omega)
    · -- c11 False
      refine AC.skip ?_
      refine AC.seq ?_
      refine AC.region ?_
      refine AO.yld _ (Yld.move rfl) rfl rfl rfl ?_
      refine AO.yld _ (Yld.move rfl) rfl rfl rfl ?_
      refine AO.yld _ (Yld.rem rfl rfl (by have h := c7; simp at h; omega)) rfl rfl rfl ?_
      refine AO.yld _ (Yld.assign rfl) rfl rfl rfl ?_
      refine AO.nil ?_
      refine FnE.ret (_, _, _) [0] [0] Tryd.results47 (RVs.cons (RV.tmp rfl) RVs.nil) rfl rfl rfl ?_ rfl ⟨⟨_, rfl, rfl⟩, trivial⟩
      · -- holds
        show 0 ≤ _ ∧ _ < _ ∧ _ ≤ _ ∧ _ ≤ _; first | exact pickR0 h2 | exact pick_lim hv9 (by have h := c7; simp at h; omega) (by omega) | exact pick_lim2 hv9 hv15 (by have h := c7; simp at h; omega) (by omega)

theorem src_one_c {code : List UInt8} {p sd n : Int} (h0 : 0 ≤ p) (h1 : p ≤ 2000000000000000000) (h2 : 1 < n) :
    FnE (α := Bool × Int × Int) Tryd.prog 49 [.h 0, .p (.v (.int .i64 n))] [(0, .box 80 [.p (.sl 1 (code.map encB)), .p (.v (.int .i64 p)), .p (.v (.int .u64 sd))])] [0] (fun ⟨b, q, s⟩ => p ≤ q ∧ q ≤ p + 2) (fun ⟨b, q, s⟩ => .p (.v (.bool b))) (fun ⟨b, q, s⟩ => [(0, .box 80 [.p (.sl 1 (code.map encB)), .p (.v (.int .i64 q)), .p (.v (.int .u64 s))])]) := by
  refine FnE.intro Tryd.func49 rfl Tryd.ntmps49 rfl rfl (fun w0 F0 η φ w => ?_)
  refine AC.seq ?_
  refine AC.region ?_
  refine AO.yld _ (Yld.assign rfl) rfl rfl rfl ?_
  refine AO.nil ?_
  refine AC.seq ?_
  refine AC.region ?_
  refine AO.yld _ (Yld.move rfl) rfl rfl rfl ?_
  refine AO.yld _ (Yld.move rfl) rfl rfl rfl ?_
  refine AO.callW (wantedN rfl) [0] [0] [0] rfl rfl Tryd.call47 rfl (src_pick_c (by omega) (by omega) (by omega)) (.own rfl) rfl (fun ⟨_, _, _⟩ => rfl) ⟨rfl, trivial⟩ rfl (fun ⟨_, _, _⟩ => rfl) (fun ⟨_, _, _⟩ => rfl) (fun ⟨v7, q7, s7⟩ hv7 => ?_)
  dsimp only at hv7
  refine AO.yld _ (Yld.int rfl rfl rfl) rfl rfl rfl ?_
  refine AO.yld _ (Yld.assign rfl) rfl rfl rfl ?_
  refine AO.nil ?_
  refine FnE.ret (_, _, _) [0] [0] Tryd.results49 (RVs.cons (RV.tmp rfl) RVs.nil) rfl rfl rfl ?_ rfl ⟨⟨_, rfl, rfl⟩, trivial⟩
  · -- holds
    show _ ≤ _ ∧ _ ≤ _; omega

theorem src_text_c {code : List UInt8} {p sd : Int} (h0 : 0 ≤ p) (h1 : p ≤ 2000000000000000000) {xs : List (List UInt8)} (hx : 1 < xs.length) (hl : xs.length ≤ 1000) :
    FnE (α := (List UInt8) × Int × Int) Tryd.prog 48 [.h 0, .h 1] [(0, .box 80 [.p (.sl 1 (code.map encB)), .p (.v (.int .i64 p)), .p (.v (.int .u64 sd))]), (1, .vec 9 1 (xs.map Go.V.encS))] [0] (fun ⟨v, q, s⟩ => v ∈ xs ∧ p ≤ q ∧ q ≤ p + 2) (fun ⟨v, q, s⟩ => .p (.v (str v))) (fun ⟨v, q, s⟩ => [(0, .box 80 [.p (.sl 1 (code.map encB)), .p (.v (.int .i64 q)), .p (.v (.int .u64 s))])]) := by
  have hM : (xs.map Go.V.encS).length = xs.length := List.length_map ..
  refine FnE.intro Tryd.func48 rfl Tryd.ntmps48 rfl rfl (fun w0 F0 η φ w => ?_)
  refine AC.seq ?_
  refine AC.region ?_
  refine AO.yld _ (Yld.assign rfl) rfl rfl rfl ?_
  refine AO.nil ?_
  refine AC.seq ?_
  refine AC.region ?_
  refine AO.yld _ (Yld.move rfl) rfl rfl rfl ?_
  refine AO.yld _ (Yld.move rfl) rfl rfl rfl ?_
  refine AO.yld _ (Yld.move rfl) rfl rfl rfl ?_
  refine AO.yld _ (Yld.len Tryd.underlying83 rfl rfl) rfl rfl rfl ?_
  refine AO.callW (wantedN rfl) [0] [0] [0] rfl rfl Tryd.call47 rfl (src_pick_c (by omega) (by omega) (by rw [hM]; omega)) (.own rfl) rfl (fun ⟨_, _, _⟩ => rfl) ⟨rfl, trivial⟩ rfl (fun ⟨_, _, _⟩ => rfl) (fun ⟨_, _, _⟩ => rfl) (fun ⟨v9, q9, s9⟩ hv9 => ?_)
  dsimp only at hv9
  rw [hM] at hv9
  obtain ⟨j, hj⟩ := Int.eq_ofNat_of_zero_le hv9.1
  obtain ⟨y, hy⟩ := get_some (xs := xs) (k := j) (by omega)
  have hrow := map_row (enc := Go.V.encS) hy
  refine AO.yld _ (Yld.indexVec Tryd.underlying83 Tryd.sizeOf9 rfl rfl rfl hj (by rw [hM]; omega)) rfl rfl rfl ?_
  refine AO.yld _ (Yld.load Tryd.isAgg9 rfl (Eq.trans (behind_el rfl hrow) rfl)) rfl rfl rfl ?_
  refine AO.yld _ (Yld.assign rfl) rfl rfl rfl ?_
  refine AO.nil ?_
  refine FnE.ret (_, _, _) [0] [0] Tryd.results48 (RVs.cons (RV.tmp rfl) RVs.nil) rfl rfl rfl ?_ rfl ⟨⟨_, rfl, rfl⟩, trivial⟩
  · -- holds
    exact ⟨List.mem_of_getElem? hy, by omega, by omega⟩

theorem spec_l27DrawState_c {code : List UInt8} {p sd : Int} (h0 : 0 ≤ p) (h1 : p ≤ 1000000000000000) :
    FnE (α := List NV × Int × Int) Tryd.prog 22 [.h 0] [(0, .box 80 [.p (.sl 1 (code.map encB)), .p (.v (.int .i64 p)), .p (.v (.int .u64 sd))])] [0] (fun ⟨ms, q, s⟩ => SG ms 5 ∧ p ≤ q ∧ q ≤ p + 20) (fun ⟨ms, q, s⟩ => .h 1) (fun ⟨ms, q, s⟩ => [(0, .box 80 [.p (.sl 1 (code.map encB)), .p (.v (.int .i64 q)), .p (.v (.int .u64 s))]), (1, .vec 57 2 (ms.map encNV))]) := by
  refine FnE.intro Tryd.func22 rfl Tryd.ntmps22 rfl rfl (fun w0 F0 η φ w => ?_)
  refine AC.seq ?_
  refine AC.region ?_
  refine AO.yld _ (Yld.assign rfl) rfl rfl rfl ?_
  refine AO.nil ?_
  refine AC.seq ?_
  refine AC.region ?_
  refine AO.buildSlice (rows := [[_], [_], [_], [_], [_]]) 1 Tryd.underlying83 ty9 rfl rfl rfl rfl rfl rfl rfl rfl rfl ?_
  refine AO.yld _ (Yld.assign rfl) rfl rfl rfl ?_
  refine AO.nil ?_
  refine AC.seq ?_
  refine AC.region ?_
  refine AO.buildSlice (rows := []) 2 Tryd.underlying26 ty57 rfl rfl rfl rfl rfl rfl rfl rfl rfl ?_
  refine AO.yld _ (Yld.assign rfl) rfl rfl rfl ?_
  refine AO.nil ?_
  refine AC.seq ?_
  refine AC.seq ?_
  refine AC.region ?_
  refine AO.yld _ (Yld.assign rfl) rfl rfl rfl ?_
  refine AO.nil ?_
  refine AC.block ?_
  refine AC.loopC4 [(0, _), (2, _), (3, _)] [(1, _), (900, _)] (fun (k : Nat) (ms : List NV) (q s : Int) => [(5, .p (.v (.int .i64 (k : Int)))), (4, .h 2)]) (fun (k : Nat) (ms : List NV) (q s : Int) => [(0, .box 80 [.p (.sl 1 (code.map encB)), .p (.v (.int .i64 q)), .p (.v (.int .u64 s))]), (2, .vec 57 2 (ms.map encNV))]) (fun (k : Nat) (ms : List NV) (q s : Int) => DrawnS ms k ∧ k ≤ 5 ∧ p ≤ q ∧ q ≤ p + 4 * k) (fun (k : Nat) (ms : List NV) (q s : Int) => 5 - k) 0 [] p sd ⟨rfl, rfl, rfl, trivial⟩ ⟨rfl, rfl, trivial⟩ ⟨rfl, rfl, trivial⟩ ⟨rfl, rfl, trivial⟩ ?_ (fun k ms q s hJ => ?_)
  · exact ⟨drawnS_nil, Nat.zero_le _, Int.le_refl _, by omega⟩
  · -- round
    refine AC.seq ?_
    refine AC.seq ?_
    refine AC.region ?_
    refine AO.yld _ (Yld.move rfl) rfl rfl rfl ?_
    refine AO.yld _ (Yld.int rfl rfl rfl) rfl rfl rfl ?_
    refine AO.nil ?_
    refine AC.cond _ rfl (fun c9 => ?_) (fun c9 => ?_)
    · -- c9 True
      have hml := hJ.1.1.len
      have hk : k < 5 := by have h := c9; simp only [decide_eq_true_eq] at h; omega
      have hrowN : ([[PV.v (.string ⟨#[97]⟩)], [PV.v (.string ⟨#[98]⟩)], [PV.v (.string ⟨#[99]⟩)], [PV.v (.string ⟨#[100]⟩)], [PV.v (.string ⟨#[101]⟩)]] : List (List PV))[k]? = some [.v (str [UInt8.ofNat (97 + k)])] := lett5 hk
      refine AC.skip ?_
      refine AC.seq ?_
      refine AC.block ?_
      refine AC.seq ?_
      refine AC.region ?_
      refine AO.yld _ (Yld.move rfl) rfl rfl rfl ?_
      refine AO.callW (wantedN rfl) [0] [0] [0] rfl rfl Tryd.call49 rfl (src_one_c (by omega) (by omega) (by omega)) (.own rfl) rfl (fun ⟨_, _, _⟩ => rfl) ⟨rfl, trivial⟩ rfl (fun ⟨_, _, _⟩ => rfl) (fun ⟨_, _, _⟩ => rfl) (fun ⟨b13, q13, s13⟩ hb13 => ?_)
      dsimp only at hb13
      refine AO.nil ?_
      refine AC.cond _ rfl (fun c13 => ?_) (fun c13 => ?_)
      · -- c13 True
        apply AC.drawAnyC (α := { y : Int × Int × Int // 0 ≤ y.1 ∧ y.1 < 1001 ∧ q13 ≤ y.2.1 ∧ y.2.1 ≤ q13 + 2 }) [(0, _), (2, _), (3, _), (5, _), (8, _), (9, _), (12, _), (13, _)] [(1, _), (900, _)] (fun y => [(4, .h 2)]) (fun y => [(0, .box 80 [.p (.sl 1 (code.map encB)), .p (.v (.int .i64 y.1.2.1)), .p (.v (.int .u64 y.1.2.2))]), (2, .vec 57 2 (ms.map encNV ++ [[.v (str [UInt8.ofNat (97 + k)]), .v (.int .i64 y.1.1)]]))]) (by kernel_rfl)
        · -- orders
          refine ANx.take 0 rfl (by kernel_rfl) (by kernel_rfl) (by kernel_rfl) rfl rfl rfl (YldA.move rfl) ?_
          refine ANx.take 1 rfl (by kernel_rfl) (by kernel_rfl) (by kernel_rfl) rfl rfl rfl (YldA.move rfl) ?_
          refine ANx.take 2 rfl (by kernel_rfl) (by kernel_rfl) (by kernel_rfl) rfl rfl rfl (YldA.move rfl) ?_
          refine ANx.take 3 rfl (by kernel_rfl) (by kernel_rfl) (by kernel_rfl) rfl rfl rfl (YldA.indexVec Tryd.underlying83 Tryd.sizeOf9 rfl rfl rfl rfl (by show k < 5; omega)) ?_
          refine ANx.take 5 rfl (by kernel_rfl) (by kernel_rfl) (by kernel_rfl) rfl rfl rfl (YldA.move rfl) ?_
          refine ANx.all (rs := [4, 6]) (by kernel_rfl) rfl ⟨?_, ?_, trivial⟩
          · -- 4
            refine Stpx.eff rfl rfl (Eff.yld (Yld.load Tryd.isAgg9 rfl (behind_el (rows := [[PV.v (.string ⟨#[97]⟩)], [PV.v (.string ⟨#[98]⟩)], [PV.v (.string ⟨#[99]⟩)], [PV.v (.string ⟨#[100]⟩)], [PV.v (.string ⟨#[101]⟩)]]) rfl hrowN)) rfl rfl) ?_
            refine ANx.all (rs := [6]) (by kernel_rfl) rfl ⟨?_, trivial⟩
            refine Stpx.effX rfl rfl (EffX.callW [0] [0] [0] rfl rfl Tryd.call47 rfl (src_pick_c (by omega) (by omega) (by omega)) (.own rfl) rfl (fun ⟨_, _, _⟩ => rfl) ⟨rfl, trivial⟩ rfl (fun ⟨_, _, _⟩ => rfl) (fun ⟨_, _, _⟩ => rfl)) ?_
            rintro _ ⟨⟨v20, q20, s20⟩, hv20, rfl⟩
            dsimp only at hv20
            refine ANx.all (rs := [7]) (by kernel_rfl) rfl ⟨?_, trivial⟩
            refine Stpx.eff rfl rfl (Eff.yld (Yld.buildA (zs := [.v (str []), .v (.int .i64 0)]) bld57 rfl rfl) rfl rfl) ?_
            refine ANx.all (rs := [8]) (by kernel_rfl) rfl ⟨?_, trivial⟩
            refine Stpx.eff rfl rfl (Eff.buildSlice (rows := [[_, _]]) 3 Tryd.underlying26 ty57 rfl rfl rfl rfl rfl rfl rfl rfl rfl) ?_
            refine ANx.all (rs := [9]) (by kernel_rfl) rfl ⟨?_, trivial⟩
            refine Stpx.eff rfl rfl (Eff.append 2 Tryd.underlying26 ty57 rfl rfl rfl rfl rfl rfl rfl (by simp [pvOne, str]) (by simp only [List.length_map, List.length_cons, List.length_nil, List.length_append]; omega) (by simp only [List.length_map, List.length_cons, List.length_nil, List.length_append]; omega) rfl) ?_
            refine ANx.take 10 rfl (by kernel_rfl) (by kernel_rfl) (by kernel_rfl) rfl rfl rfl (YldA.assign rfl) ?_
            exact ANx.doneC ⟨(v20, q20, s20), hv20⟩ (by kernel_rfl) ⟨rfl, trivial⟩ ⟨rfl, rfl, trivial⟩ ⟨rfl, rfl, rfl, rfl, rfl, rfl, rfl, rfl, trivial⟩ ⟨rfl, rfl, trivial⟩
          · -- 6
            refine Stpx.effX rfl rfl (EffX.callW [0] [0] [0] rfl rfl Tryd.call47 rfl (src_pick_c (by omega) (by omega) (by omega)) (.own rfl) rfl (fun ⟨_, _, _⟩ => rfl) ⟨rfl, trivial⟩ rfl (fun ⟨_, _, _⟩ => rfl) (fun ⟨_, _, _⟩ => rfl)) ?_
            rintro _ ⟨⟨v20, q20, s20⟩, hv20, rfl⟩
            dsimp only at hv20
            refine ANx.all (rs := [4]) (by kernel_rfl) rfl ⟨?_, trivial⟩
            refine Stpx.eff rfl rfl (Eff.yld (Yld.load Tryd.isAgg9 rfl (behind_el (rows := [[PV.v (.string ⟨#[97]⟩)], [PV.v (.string ⟨#[98]⟩)], [PV.v (.string ⟨#[99]⟩)], [PV.v (.string ⟨#[100]⟩)], [PV.v (.string ⟨#[101]⟩)]]) rfl hrowN)) rfl rfl) ?_
            refine ANx.all (rs := [7]) (by kernel_rfl) rfl ⟨?_, trivial⟩
            refine Stpx.eff rfl rfl (Eff.yld (Yld.buildA (zs := [.v (str []), .v (.int .i64 0)]) bld57 rfl rfl) rfl rfl) ?_
            refine ANx.all (rs := [8]) (by kernel_rfl) rfl ⟨?_, trivial⟩
            refine Stpx.eff rfl rfl (Eff.buildSlice (rows := [[_, _]]) 3 Tryd.underlying26 ty57 rfl rfl rfl rfl rfl rfl rfl rfl rfl) ?_
            refine ANx.all (rs := [9]) (by kernel_rfl) rfl ⟨?_, trivial⟩
            refine Stpx.eff rfl rfl (Eff.append 2 Tryd.underlying26 ty57 rfl rfl rfl rfl rfl rfl rfl (by simp [pvOne, str]) (by simp only [List.length_map, List.length_cons, List.length_nil, List.length_append]; omega) (by simp only [List.length_map, List.length_cons, List.length_nil, List.length_append]; omega) rfl) ?_
            refine ANx.take 10 rfl (by kernel_rfl) (by kernel_rfl) (by kernel_rfl) rfl rfl rfl (YldA.assign rfl) ?_
            exact ANx.doneC ⟨(v20, q20, s20), hv20⟩ (by kernel_rfl) ⟨rfl, trivial⟩ ⟨rfl, rfl, trivial⟩ ⟨rfl, rfl, rfl, rfl, rfl, rfl, rfl, rfl, trivial⟩ ⟨rfl, rfl, trivial⟩
        · -- behind
          rintro ⟨⟨v2, q2, s2⟩, hv2⟩
          dsimp only at hv2
          refine AC.mark ?_
          refine AC.region ?_
          refine AO.yld _ (Yld.move rfl) rfl rfl rfl ?_
          refine AO.yld _ (Yld.add rfl rfl (by omega) (by omega)) rfl rfl rfl ?_
          refine AO.yld _ (Yld.assign rfl) rfl rfl rfl ?_
          refine AO.nil ?_
          refine AC.back ⟨k + 1, ms ++ [⟨[UInt8.ofNat (97 + k)], v2⟩], q2, s2, ?_, ?_, ⟨?_, ?_, trivial⟩, ⟨?_, ?_, trivial⟩, ⟨rfl, rfl, rfl, trivial⟩, ⟨rfl, rfl, trivial⟩⟩
          · exact ⟨drawnS_add hJ.1 (by omega) (by omega) (by omega), by omega, by omega, by omega⟩
          · omega
          · rfl
          · rfl
          · rfl
          · rw [map_snoc]; rfl
      · -- c13 False
        refine AC.skip ?_
        refine AC.mark ?_
        refine AC.region ?_
        refine AO.yld _ (Yld.move rfl) rfl rfl rfl ?_
        refine AO.yld _ (Yld.add rfl rfl (by omega) (by omega)) rfl rfl rfl ?_
        refine AO.yld _ (Yld.assign rfl) rfl rfl rfl ?_
        refine AO.nil ?_
        refine AC.back ⟨k + 1, ms, q13, s13, ?_, ?_, ⟨?_, ?_, trivial⟩, ⟨?_, ?_, trivial⟩, ⟨rfl, rfl, rfl, trivial⟩, ⟨rfl, rfl, trivial⟩⟩
        · exact ⟨drawnS_up hJ.1, by omega, by omega, by omega⟩
        · omega
        · rfl
        · rfl
        · rfl
        · rfl
    · -- c9 False
      obtain rfl : k = 5 := by have h := c9; simp only [decide_eq_false_iff_not] at h; omega
      refine AC.exit rfl ?_
      refine AC.seq ?_
      refine AC.region ?_
      refine AO.yld _ (Yld.move rfl) rfl rfl rfl ?_
      refine AO.yld _ (Yld.assign rfl) rfl rfl rfl ?_
      refine AO.nil ?_
      refine FnE.ret (_, _, _) [0, 2] [0, 1] Tryd.results22 (RVs.cons (RV.tmp rfl) RVs.nil) rfl rfl rfl ?_ rfl ⟨⟨_, rfl, rfl⟩, ⟨_, rfl, rfl⟩, trivial⟩
      · -- holds
        exact ⟨hJ.1.1, hJ.2.2.1, by omega⟩

theorem spec_l27Changed_c {code : List UInt8} {p sd : Int} (h0 : 0 ≤ p) (h1 : p ≤ 1000000000000000) {xs : List NV} {m : Nat} (hx : SG xs m) (hm : m ≤ 24) :
    FnE (α := List NV × Int × Int) Tryd.prog 23 [.h 0, .p (.sl 2 (xs.map encNV))] [(0, .box 80 [.p (.sl 1 (code.map encB)), .p (.v (.int .i64 p)), .p (.v (.int .u64 sd))])] [0] (fun ⟨ms, q, s⟩ => SG ms (m + 3) ∧ p ≤ q ∧ q ≤ p + 30) (fun ⟨ms, q, s⟩ => .h 1) (fun ⟨ms, q, s⟩ => [(0, .box 80 [.p (.sl 1 (code.map encB)), .p (.v (.int .i64 q)), .p (.v (.int .u64 s))]), (1, .vec 57 2 (ms.map encNV))]) := by
  have hxl := hx.len
  refine FnE.intro Tryd.func23 rfl Tryd.ntmps23 rfl rfl (fun w0 F0 η φ w => ?_)
  refine AC.seq ?_
  refine AC.region ?_
  refine AO.yld _ (Yld.assign rfl) rfl rfl rfl ?_
  refine AO.nil ?_
  refine AC.seq ?_
  refine AC.region ?_
  refine AO.buildSlice (rows := []) 1 Tryd.underlying26 ty57 rfl rfl rfl rfl rfl rfl rfl rfl rfl ?_
  refine AO.yld _ (Yld.move rfl) rfl rfl rfl ?_
  refine AO.append 1 Tryd.underlying26 ty57 rfl rfl rfl rfl rfl rfl rfl (by intro r hr q hq; simp only [List.mem_map, encNV] at hr; obtain ⟨x, _, rfl⟩ := hr; simp only [List.mem_cons, List.not_mem_nil, or_false] at hq; rcases hq with rfl | rfl <;> rfl) (by simp only [List.length_map, List.length_cons, List.length_nil, List.length_append]; omega) (by simp only [List.length_map, List.length_cons, List.length_nil, List.length_append]; omega) rfl ?_
  refine AO.yld _ (Yld.assign rfl) rfl rfl rfl ?_
  refine AO.nil ?_
  refine AC.seq ?_
  refine AC.region ?_
  refine AO.buildSlice (rows := [[_], [_], [_], [_], [_], [_]]) 2 Tryd.underlying83 ty9 rfl rfl rfl rfl rfl rfl rfl rfl rfl ?_
  refine AO.yld _ (Yld.assign rfl) rfl rfl rfl ?_
  refine AO.nil ?_
  refine AC.seq ?_
  refine AC.seq ?_
  refine AC.region ?_
  refine AO.yld _ (Yld.move rfl) rfl rfl rfl ?_
  refine AO.callW (wantedN rfl) [0] [0] [0] rfl rfl Tryd.call47 rfl (src_pick_c (by omega) (by omega) (by omega)) (.own rfl) rfl (fun ⟨_, _, _⟩ => rfl) ⟨rfl, trivial⟩ rfl (fun ⟨_, _, _⟩ => rfl) (fun ⟨_, _, _⟩ => rfl) (fun ⟨v16, q16, s16⟩ hv16 => ?_)
  dsimp only at hv16
  refine AO.yld _ (Yld.assign rfl) rfl rfl rfl ?_
  refine AO.nil ?_
  refine AC.block ?_
  refine AC.loopC4 [(0, _), (4, _), (6, _)] [(2, _), (900, _)] (fun (k : Nat) (ms : List NV) (q s : Int) => [(7, .p (.v (.int .i64 (k : Int)))), (5, .h 1)]) (fun (k : Nat) (ms : List NV) (q s : Int) => [(0, .box 80 [.p (.sl 1 (code.map encB)), .p (.v (.int .i64 q)), .p (.v (.int .u64 s))]), (1, .vec 57 2 (ms.map encNV))]) (fun (k : Nat) (ms : List NV) (q s : Int) => SG ms (m + 3 - k) ∧ k ≤ 3 ∧ p ≤ q ∧ q ≤ p + 2 + 6 * (3 - k)) (fun (k : Nat) (ms : List NV) (q s : Int) => k) v16.toNat xs q16 s16 ⟨rfl, rfl, rfl, trivial⟩ ⟨rfl, rfl, trivial⟩ ⟨(by have : ((v16.toNat : Nat) : Int) = v16 := Int.toNat_of_nonneg hv16.1; rw [this]; rfl), rfl, trivial⟩ ⟨rfl, rfl, trivial⟩ ?_ (fun k ms q s hJ => ?_)
  · exact ⟨hx.up (by omega), by omega, by omega, by omega⟩
  · -- round
    refine AC.seq ?_
    refine AC.seq ?_
    refine AC.region ?_
    refine AO.yld _ (Yld.move rfl) rfl rfl rfl ?_
    refine AO.yld _ (Yld.int rfl rfl rfl) rfl rfl rfl ?_
    refine AO.nil ?_
    refine AC.cond _ rfl (fun c18 => ?_) (fun c18 => ?_)
    · -- c18 True
      have hk : 0 < k := by have h := c18; simp only [decide_eq_true_eq] at h; omega
      have hml := hJ.1.len
      refine AC.skip ?_
      refine AC.seq ?_
      refine AC.block ?_
      refine AC.seq ?_
      refine AC.region ?_
      refine AO.yld _ (Yld.move rfl) rfl rfl rfl ?_
      refine AO.yld _ (Yld.move rfl) rfl rfl rfl ?_
      refine AO.callW (wantedN rfl) [0] [0] [0] rfl rfl Tryd.call47 rfl (src_pick_c (by omega) (by omega) (by omega)) (.own rfl) rfl (fun ⟨_, _, _⟩ => rfl) ⟨rfl, trivial⟩ rfl (fun ⟨_, _, _⟩ => rfl) (fun ⟨_, _, _⟩ => rfl) (fun ⟨v23, q23, s23⟩ hv23 => ?_)
      dsimp only at hv23
      obtain ⟨jn, hjn⟩ := Int.eq_ofNat_of_zero_le hv23.1
      have hjn6 : jn < 6 := by omega
      have hrowN : ([[PV.v (.string ⟨#[97]⟩)], [PV.v (.string ⟨#[98]⟩)], [PV.v (.string ⟨#[99]⟩)], [PV.v (.string ⟨#[100]⟩)], [PV.v (.string ⟨#[101]⟩)], [PV.v (.string ⟨#[102]⟩)]] : List (List PV))[jn]? = some [.v (str [UInt8.ofNat (97 + jn)])] := lett_row hjn6
      refine AO.yld _ (Yld.indexVec Tryd.underlying83 Tryd.sizeOf9 rfl rfl rfl hjn (by show jn < 6; omega)) rfl rfl rfl ?_
      refine AO.yld _ (Yld.load Tryd.isAgg9 rfl (behind_el (rows := [[PV.v (.string ⟨#[97]⟩)], [PV.v (.string ⟨#[98]⟩)], [PV.v (.string ⟨#[99]⟩)], [PV.v (.string ⟨#[100]⟩)], [PV.v (.string ⟨#[101]⟩)], [PV.v (.string ⟨#[102]⟩)]]) rfl hrowN)) rfl rfl rfl ?_
      refine AO.yld _ (Yld.assign rfl) rfl rfl rfl ?_
      refine AO.nil ?_
      refine AC.seq ?_
      refine AC.region ?_
      refine AO.yld _ (Yld.move rfl) rfl rfl rfl ?_
      refine AO.yld _ (Yld.move rfl) rfl rfl rfl ?_
      refine AO.yld _ (Yld.call rfl rfl Tryd.call50 rfl rfl rfl (spec_l27At_c (by first | assumption | omega)) rfl) rfl rfl rfl ?_
      refine AO.yld _ (Yld.assign rfl) rfl rfl rfl ?_
      refine AO.nil ?_
      refine AC.seq ?_
      refine AC.region ?_
      refine AO.yld _ (Yld.move rfl) rfl rfl rfl ?_
      refine AO.yld _ (Yld.int rfl rfl rfl) rfl rfl rfl ?_
      refine AO.yld _ (Yld.move rfl) rfl rfl rfl ?_
      refine AO.splitAt 31 _ rfl (fun s31 => ?_) (fun s31 => ?_)
      · -- s31 True
        have hi0 : 0 ≤ idxOf (nameIs [UInt8.ofNat (97 + jn)]) ms := by have h := s31; simp only [decide_eq_true_eq] at h; omega
        have hil : idxOf (nameIs [UInt8.ofNat (97 + jn)]) ms < ms.length := idx_lim hi0
        obtain ⟨in9, hin⟩ := Int.eq_ofNat_of_zero_le hi0
        have hinl : in9 < ms.length := by omega
        rw [hin]
        refine AO.yldG _ (Yld.move rfl) rfl rfl rfl rfl rfl ?_
        refine AO.callW (wantedG rfl rfl rfl) [0] [0] [0] rfl rfl Tryd.call49 rfl (src_one_c (by omega) (by omega) (by omega)) (.own rfl) rfl (fun ⟨_, _, _⟩ => rfl) ⟨rfl, trivial⟩ rfl (fun ⟨_, _, _⟩ => rfl) (fun ⟨_, _, _⟩ => rfl) (fun ⟨b33, q33, s33⟩ hb33 => ?_)
        dsimp only at hb33
        refine AO.yld _ (Yld.pickT rfl rfl) rfl rfl rfl ?_
        refine AO.nil ?_
        refine AC.cond _ rfl (fun c34 => ?_) (fun c34 => ?_)
        · -- c34 True
          refine AC.seq ?_
          refine AC.region ?_
          refine AO.freeze 1 rfl ?_
          refine AO.buildSlice (rows := []) 1 Tryd.underlying26 ty57 rfl rfl rfl rfl rfl rfl rfl rfl rfl ?_
          refine AO.yld _ (Yld.move rfl) rfl rfl rfl ?_
          refine AO.yld _ (Yld.move rfl) rfl rfl rfl ?_
          refine AO.yld _ (Yld.sliceSl Tryd.underlying26 Tryd.sizeOf57 rfl .none (.some (n := in9) rfl (by omega)) (by omega) (by rw [List.length_map]; omega)) rfl rfl rfl ?_
          refine AO.append 1 Tryd.underlying26 ty57 rfl rfl rfl rfl rfl rfl rfl (by intro r hr q hq; obtain ⟨x, _, rfl⟩ := List.mem_map.1 (List.mem_of_mem_take (List.mem_of_mem_drop hr)); simp only [encNV, List.mem_cons, List.not_mem_nil, or_false] at hq; rcases hq with rfl | rfl <;> rfl) (by simp only [List.length_map, List.length_cons, List.length_nil, List.length_append, List.length_drop, List.length_take]; omega) (by simp only [List.length_map, List.length_cons, List.length_nil, List.length_append, List.length_drop, List.length_take]; omega) rfl ?_
          refine AO.yld _ (Yld.assign rfl) rfl rfl rfl ?_
          refine AO.nil ?_
          refine AC.region ?_
          refine AO.yld _ (Yld.move rfl) rfl rfl rfl ?_
          refine AO.yld _ (Yld.move rfl) rfl rfl rfl ?_
          refine AO.yld _ (Yld.move rfl) rfl rfl rfl ?_
          refine AO.yld _ (Yld.add rfl rfl (by omega) (by omega)) rfl rfl rfl ?_
          refine AO.yld _ (Yld.sliceSl Tryd.underlying26 Tryd.sizeOf57 rfl (.some (n := in9 + 1) rfl (by omega)) .none (by rw [List.length_map]; omega) (Nat.le_refl _)) rfl rfl rfl ?_
          refine AO.append 1 Tryd.underlying26 ty57 rfl rfl rfl rfl rfl rfl rfl (by intro r hr q hq; obtain ⟨x, _, rfl⟩ := List.mem_map.1 (List.mem_of_mem_take (List.mem_of_mem_drop hr)); simp only [encNV, List.mem_cons, List.not_mem_nil, or_false] at hq; rcases hq with rfl | rfl <;> rfl) (by simp only [List.length_map, List.length_cons, List.length_nil, List.length_append, List.length_drop, List.length_take]; omega) (by simp only [List.length_map, List.length_cons, List.length_nil, List.length_append, List.length_drop, List.length_take]; omega) rfl ?_
          refine AO.yld _ (Yld.assign rfl) rfl rfl rfl ?_
          refine AO.nil ?_
          refine AC.mark ?_
          refine AC.region ?_
          refine AO.yld _ (Yld.move rfl) rfl rfl rfl ?_
          refine AO.yld _ (Yld.sub rfl rfl (by omega) (by omega)) rfl rfl rfl ?_
          refine AO.yld _ (Yld.assign rfl) rfl rfl rfl ?_
          refine AO.nil ?_
          refine AC.back ⟨k - 1, ms.take in9 ++ ms.drop (in9 + 1), q33, s33, ?_, ?_, ⟨?_, ?_, trivial⟩, ⟨?_, ?_, trivial⟩, ⟨rfl, rfl, rfl, trivial⟩, ⟨rfl, rfl, trivial⟩⟩
          · exact ⟨(hJ.1.del in9).up (by omega), by omega, by omega, by omega⟩
          · omega
          · show some (AV.p (PV.v (Value.int IntKind.i64 _))) = _; congr 4; omega
          · rfl
          · rfl
          · refine congrArg some (vecE ?_); rw [List.take_length]; simp
        · -- c34 False
          refine AC.region ?_
          refine AO.yld _ (Yld.move rfl) rfl rfl rfl ?_
          refine AO.yld _ (Yld.move rfl) rfl rfl rfl ?_
          refine AO.yld _ (Yld.move rfl) rfl rfl rfl ?_
          refine AO.callW (wantedN rfl) [0] [0] [0] rfl rfl Tryd.call47 rfl (src_pick_c (by omega) (by omega) (by omega)) (.own rfl) rfl (fun ⟨_, _, _⟩ => rfl) ⟨rfl, trivial⟩ rfl (fun ⟨_, _, _⟩ => rfl) (fun ⟨_, _, _⟩ => rfl) (fun ⟨v49, q49, s49⟩ hv49 => ?_)
          dsimp only at hv49
          refine AO.yld _ (Yld.buildA (zs := [.v (str []), .v (.int .i64 0)]) bld57 rfl rfl) rfl rfl rfl ?_
          refine AO.freeze 1 rfl ?_
          refine AO.callW (wantedN rfl) [1] [] [0] rfl rfl Tryd.call51 rfl (spec_l27Set_c (xs := ms) (e := ⟨[UInt8.ofNat (97 + jn)], v49⟩) hJ.1.rise (by have := hJ.1.len; omega)) (.flat (.view rfl rfl (.own rfl .nil)) (fun _ => by simp [AV.Flat, AV.FlatL, PV.Flat, PV.FlatL]) (fun _ => ⟨flat_map flatNV _, trivial⟩)) rfl (fun _ => rfl) trivial rfl (fun _ => rfl) (fun _ => rfl) (fun _ _ => ?_)
          refine AO.yld _ (Yld.assign rfl) rfl rfl rfl ?_
          refine AO.nil ?_
          refine AC.mark ?_
          refine AC.region ?_
          refine AO.yld _ (Yld.move rfl) rfl rfl rfl ?_
          refine AO.yld _ (Yld.sub rfl rfl (by omega) (by omega)) rfl rfl rfl ?_
          refine AO.yld _ (Yld.assign rfl) rfl rfl rfl ?_
          refine AO.nil ?_
          refine AC.back ⟨k - 1, setL ms ⟨[UInt8.ofNat (97 + jn)], v49⟩, q49, s49, ?_, ?_, ⟨?_, ?_, trivial⟩, ⟨?_, ?_, trivial⟩, ⟨rfl, rfl, rfl, trivial⟩, ⟨rfl, rfl, trivial⟩⟩
          · exact ⟨(hJ.1.set (set_ok hjn6 (by omega) (by omega))).up (by omega), by omega, by omega, by omega⟩
          · omega
          · show some (AV.p (PV.v (Value.int IntKind.i64 _))) = _; congr 4; omega
          · rfl
          · rfl
          · rfl
      · -- s31 False
        refine AO.skipT rfl rfl rfl rfl rfl ?_
        refine AO.skipT rfl rfl rfl rfl rfl ?_
        refine AO.yld _ (Yld.pickF rfl rfl) rfl rfl rfl ?_
        refine AO.nil ?_
        refine AC.condF rfl ?_
        refine AC.region ?_
        refine AO.yld _ (Yld.move rfl) rfl rfl rfl ?_
        refine AO.yld _ (Yld.move rfl) rfl rfl rfl ?_
        refine AO.yld _ (Yld.move rfl) rfl rfl rfl ?_
        refine AO.callW (wantedN rfl) [0] [0] [0] rfl rfl Tryd.call47 rfl (src_pick_c (by omega) (by omega) (by omega)) (.own rfl) rfl (fun ⟨_, _, _⟩ => rfl) ⟨rfl, trivial⟩ rfl (fun ⟨_, _, _⟩ => rfl) (fun ⟨_, _, _⟩ => rfl) (fun ⟨v49, q49, s49⟩ hv49 => ?_)
        dsimp only at hv49
        refine AO.yld _ (Yld.buildA (zs := [.v (str []), .v (.int .i64 0)]) bld57 rfl rfl) rfl rfl rfl ?_
        refine AO.freeze 1 rfl ?_
        refine AO.callW (wantedN rfl) [1] [] [0] rfl rfl Tryd.call51 rfl (spec_l27Set_c (xs := ms) (e := ⟨[UInt8.ofNat (97 + jn)], v49⟩) hJ.1.rise (by have := hJ.1.len; omega)) (.flat (.view rfl rfl (.own rfl .nil)) (fun _ => by simp [AV.Flat, AV.FlatL, PV.Flat, PV.FlatL]) (fun _ => ⟨flat_map flatNV _, trivial⟩)) rfl (fun _ => rfl) trivial rfl (fun _ => rfl) (fun _ => rfl) (fun _ _ => ?_)
        refine AO.yld _ (Yld.assign rfl) rfl rfl rfl ?_
        refine AO.nil ?_
        refine AC.mark ?_
        refine AC.region ?_
        refine AO.yld _ (Yld.move rfl) rfl rfl rfl ?_
        refine AO.yld _ (Yld.sub rfl rfl (by omega) (by omega)) rfl rfl rfl ?_
        refine AO.yld _ (Yld.assign rfl) rfl rfl rfl ?_
        refine AO.nil ?_
        refine AC.back ⟨k - 1, setL ms ⟨[UInt8.ofNat (97 + jn)], v49⟩, q49, s49, ?_, ?_, ⟨?_, ?_, trivial⟩, ⟨?_, ?_, trivial⟩, ⟨rfl, rfl, rfl, trivial⟩, ⟨rfl, rfl, trivial⟩⟩
        · exact ⟨(hJ.1.set (set_ok hjn6 (by omega) (by omega))).up (by omega), by omega, by omega, by omega⟩
        · omega
        · show some (AV.p (PV.v (Value.int IntKind.i64 _))) = _; congr 4; omega
        · rfl
        · rfl
        · rfl
    · -- c18 False
      obtain rfl : k = 0 := by have h := c18; simp only [decide_eq_false_iff_not] at h; omega
      refine AC.exit rfl ?_
      refine AC.seq ?_
      refine AC.region ?_
      refine AO.yld _ (Yld.move rfl) rfl rfl rfl ?_
      refine AO.yld _ (Yld.assign rfl) rfl rfl rfl ?_
      refine AO.nil ?_
      refine FnE.ret (_, _, _) [0, 1] [0, 1] Tryd.results23 (RVs.cons (RV.tmp rfl) RVs.nil) rfl rfl rfl ?_ rfl ⟨⟨_, rfl, rfl⟩, ⟨_, rfl, rfl⟩, trivial⟩
      · -- holds
        exact ⟨hJ.1.up (by omega), by omega, by omega⟩

theorem spec_R8State_c {code : List UInt8} :
    FnE (α := List NV) Tryd.prog 6 [.p (.sl 1 (code.map encB))] [] [] (fun ms => SG ms 5) (fun ms => .h 0) (fun ms => [(0, .vec 57 2 (ms.map encNV))]) := by
  refine FnE.intro Tryd.func6 rfl Tryd.ntmps6 rfl rfl (fun w0 F0 η φ w => ?_)
  refine AC.seq ?_
  refine AC.region ?_
  refine AO.yld _ (Yld.assign rfl) rfl rfl rfl ?_
  refine AO.nil ?_
  refine AC.seq ?_
  refine AC.region ?_
  refine AO.yld _ (Yld.move rfl) rfl rfl rfl ?_
  refine AO.callW (wantedN rfl) [0] [] [0] rfl rfl Tryd.call20 rfl (spec_l00From_c) (.own rfl) rfl (fun _ => rfl) trivial rfl (fun _ => rfl) (fun _ => rfl) (fun _ _ => ?_)
  refine AO.yld _ (Yld.assign rfl) rfl rfl rfl ?_
  refine AO.nil ?_
  refine AC.seq ?_
  refine AC.region ?_
  refine AO.yld _ (Yld.move rfl) rfl rfl rfl ?_
  refine AO.callW (wantedN rfl) [0, 1] [0] [0, 1] rfl rfl Tryd.call22 rfl (spec_l27DrawState_c (by omega) (by omega)) (.own rfl) rfl (fun ⟨_, _, _⟩ => rfl) ⟨rfl, trivial⟩ rfl (fun ⟨_, _, _⟩ => rfl) (fun ⟨_, _, _⟩ => rfl) (fun ⟨ms7, q7, s7⟩ hms7 => ?_)
  dsimp only at hms7
  refine AO.yld _ (Yld.assign rfl) rfl rfl rfl ?_
  refine AO.nil ?_
  refine FnE.ret _ [1] [0] Tryd.results6 (RVs.cons (RV.tmp rfl) RVs.nil) rfl rfl rfl ?_ rfl ⟨⟨_, rfl, rfl⟩, trivial⟩
  · -- holds
    exact hms7.1

theorem spec_R8Changed_c {code : List UInt8} {xs : List NV} {m : Nat} (hx : SG xs m) (hm : m ≤ 24) :
    FnE (α := List NV) Tryd.prog 7 [.p (.sl 1 (code.map encB)), .p (.sl 2 (xs.map encNV))] [] [] (fun ms => SG ms (m + 3)) (fun ms => .h 0) (fun ms => [(0, .vec 57 2 (ms.map encNV))]) := by
  refine FnE.intro Tryd.func7 rfl Tryd.ntmps7 rfl rfl (fun w0 F0 η φ w => ?_)
  refine AC.seq ?_
  refine AC.region ?_
  refine AO.yld _ (Yld.assign rfl) rfl rfl rfl ?_
  refine AO.nil ?_
  refine AC.seq ?_
  refine AC.region ?_
  refine AO.yld _ (Yld.move rfl) rfl rfl rfl ?_
  refine AO.callW (wantedN rfl) [0] [] [0] rfl rfl Tryd.call20 rfl (spec_l00From_c) (.own rfl) rfl (fun _ => rfl) trivial rfl (fun _ => rfl) (fun _ => rfl) (fun _ _ => ?_)
  refine AO.yld _ (Yld.assign rfl) rfl rfl rfl ?_
  refine AO.nil ?_
  refine AC.seq ?_
  refine AC.region ?_
  refine AO.yld _ (Yld.move rfl) rfl rfl rfl ?_
  refine AO.yld _ (Yld.move rfl) rfl rfl rfl ?_
  refine AO.callW (wantedN rfl) [0, 1] [0] [0, 1] rfl rfl Tryd.call23 rfl (spec_l27Changed_c (by omega) (by omega) hx (by omega)) (.own rfl) rfl (fun ⟨_, _, _⟩ => rfl) ⟨rfl, trivial⟩ rfl (fun ⟨_, _, _⟩ => rfl) (fun ⟨_, _, _⟩ => rfl) (fun ⟨ms10, q10, s10⟩ hms10 => ?_)
  dsimp only at hms10
  refine AO.yld _ (Yld.assign rfl) rfl rfl rfl ?_
  refine AO.nil ?_
  refine FnE.ret _ [1] [0] Tryd.results7 (RVs.cons (RV.tmp rfl) RVs.nil) rfl rfl rfl ?_ rfl ⟨⟨_, rfl, rfl⟩, trivial⟩
  · -- holds
    exact hms10.1

theorem spec_l27Draw_c {code : List UInt8} {p sd : Int} (h0 : 0 ≤ p) (h1 : p ≤ 1000000000000) :
    FnE (α := List Ver × Int × Int) Tryd.prog 21 [.h 0] [(0, .box 80 [.p (.sl 1 (code.map encB)), .p (.v (.int .i64 p)), .p (.v (.int .u64 sd))])] [0] (fun ⟨vs, q, s⟩ => HG vs) (fun ⟨vs, q, s⟩ => .h 1) (fun ⟨vs, q, s⟩ => [(0, .box 80 [.p (.sl 1 (code.map encB)), .p (.v (.int .i64 q)), .p (.v (.int .u64 s))]), (1, .vec 48 4 (vs.map encVer))]) := by
  refine FnE.intro Tryd.func21 rfl Tryd.ntmps21 rfl rfl (fun w0 F0 η φ w => ?_)
  refine AC.seq ?_
  refine AC.region ?_
  refine AO.yld _ (Yld.assign rfl) rfl rfl rfl ?_
  refine AO.nil ?_
  refine AC.seq ?_
  refine AC.region ?_
  refine AO.buildSlice (rows := []) 1 Tryd.underlying24 ty48 rfl rfl rfl rfl rfl rfl rfl rfl rfl ?_
  refine AO.yld _ (Yld.assign rfl) rfl rfl rfl ?_
  refine AO.nil ?_
  refine AC.seq ?_
  refine AC.seq ?_
  refine AC.region ?_
  refine AO.yld _ (Yld.move rfl) rfl rfl rfl ?_
  refine AO.callW (wantedN rfl) [0] [0] [0] rfl rfl Tryd.call47 rfl (src_pick_c (by omega) (by omega) (by omega)) (.own rfl) rfl (fun ⟨_, _, _⟩ => rfl) ⟨rfl, trivial⟩ rfl (fun ⟨_, _, _⟩ => rfl) (fun ⟨_, _, _⟩ => rfl) (fun ⟨v11, q11, s11⟩ hv11 => ?_)
  dsimp only at hv11
  refine AO.yld _ (Yld.assign rfl) rfl rfl rfl ?_
  refine AO.nil ?_
  refine AC.block ?_
  refine AC.loopC4 [(0, _), (2, _)] [(900, _)] (fun (k : Nat) (vs : List Ver) (q s : Int) => [(4, .p (.v (.int .i64 (k : Int)))), (3, .h 1)]) (fun (k : Nat) (vs : List Ver) (q s : Int) => [(0, .box 80 [.p (.sl 1 (code.map encB)), .p (.v (.int .i64 q)), .p (.v (.int .u64 s))]), (1, .vec 48 4 (vs.map encVer))]) (fun (k : Nat) (vs : List Ver) (q s : Int) => HG vs ∧ vs.length + k ≤ 5 ∧ p ≤ q ∧ q ≤ p + 2 + 100 * vs.length) (fun (k : Nat) (vs : List Ver) (q s : Int) => k) v11.toNat [] q11 s11 ⟨rfl, rfl, trivial⟩ ⟨rfl, trivial⟩ ⟨(by have : ((v11.toNat : Nat) : Int) = v11 := Int.toNat_of_nonneg hv11.1; rw [this]; rfl), rfl, trivial⟩ ⟨rfl, rfl, trivial⟩ ?_ (fun k vs q s hJ => ?_)
  · exact ⟨HG.nil, by show 0 + _ ≤ 5; omega, by omega, by show _ ≤ _ + 2 + 100 * (0 : Int); omega⟩
  · -- round
    refine AC.seq ?_
    refine AC.seq ?_
    refine AC.region ?_
    refine AO.yld _ (Yld.move rfl) rfl rfl rfl ?_
    refine AO.yld _ (Yld.int rfl rfl rfl) rfl rfl rfl ?_
    refine AO.nil ?_
    refine AC.cond _ rfl (fun c13 => ?_) (fun c13 => ?_)
    · -- c13 True
      have hM : (vs.map encVer).length = vs.length := List.length_map ..
      have hk : 0 < k := by have h := c13; simp only [decide_eq_true_eq] at h; omega
      refine AC.skip ?_
      refine AC.seq ?_
      refine AC.block ?_
      refine AC.seq ?_
      refine AC.region ?_
      refine AO.yld _ (Yld.move rfl) rfl rfl rfl ?_
      refine AO.yld _ (Yld.len Tryd.underlying24 rfl rfl) rfl rfl rfl ?_
      refine AO.yld _ (Yld.assign rfl) rfl rfl rfl ?_
      refine AO.nil ?_
      refine AC.seq ?_
      refine AC.region ?_
      refine AO.yld _ (Yld.move rfl) rfl rfl rfl ?_
      refine AO.yld _ (Yld.move rfl) rfl rfl rfl ?_
      refine AO.yld _ (Yld.add rfl rfl (by omega) (by omega)) rfl rfl rfl ?_
      refine AO.callW (wantedN rfl) [0] [0] [0] rfl rfl Tryd.call47 rfl (src_pick1_c (by omega) (by omega) (by simp only [List.length_map]; omega)) (.own rfl) rfl (fun ⟨_, _, _⟩ => rfl) ⟨rfl, trivial⟩ rfl (fun ⟨_, _, _⟩ => rfl) (fun ⟨_, _, _⟩ => rfl) (fun ⟨v21, q21, s21⟩ hv21 => ?_)
      dsimp only at hv21
      rw [List.length_map] at hv21
      refine AO.yld _ (Yld.assign rfl) rfl rfl rfl ?_
      refine AO.nil ?_
      refine AC.seq ?_
      refine AC.region ?_
      refine AO.yld _ (Yld.move rfl) rfl rfl rfl ?_
      refine AO.callW (wantedN rfl) [0, 2] [0] [0, 1] rfl rfl Tryd.call22 rfl (spec_l27DrawState_c (by omega) (by omega)) (.own rfl) rfl (fun ⟨_, _, _⟩ => rfl) ⟨rfl, trivial⟩ rfl (fun ⟨_, _, _⟩ => rfl) (fun ⟨_, _, _⟩ => rfl) (fun ⟨ms23, q23, s23⟩ hms23 => ?_)
      dsimp only at hms23
      refine AO.yld _ (Yld.assign rfl) rfl rfl rfl ?_
      refine AO.nil ?_
      refine AC.seq ?_
      refine AC.seq ?_
      refine AC.region ?_
      refine AO.yld _ (Yld.move rfl) rfl rfl rfl ?_
      refine AO.freeze 2 rfl ?_
      refine AO.yld _ (Yld.int rfl rfl rfl) rfl rfl rfl ?_
      refine AO.nil ?_
      refine AC.cond _ rfl (fun c25 => ?_) (fun c25 => ?_)
      · -- c25 True
        have hp0 : 0 < v21 := by have h := c25; simp only [decide_eq_true_eq] at h; omega
        obtain ⟨pn, hpn⟩ : ∃ n : Nat, v21 - 1 = (n : Int) := ⟨(v21 - 1).toNat, by omega⟩
        obtain ⟨px, hpx⟩ := get_some (xs := vs) (k := pn) (by omega)
        have hrow := map_row (enc := encVer) hpx
        refine AC.region ?_
        refine AO.yld _ (Yld.move rfl) rfl rfl rfl ?_
        refine AO.yld _ (Yld.move rfl) rfl rfl rfl ?_
        refine AO.yld _ (Yld.move rfl) rfl rfl rfl ?_
        refine AO.yld _ (Yld.sub rfl rfl (by omega) (by omega)) rfl rfl rfl ?_
        refine AO.yld _ (Yld.indexVec Tryd.underlying24 Tryd.sizeOf48 rfl rfl rfl (show _ = ((pn : Nat) : Int) by omega) (by rw [List.length_map]; omega)) rfl rfl rfl ?_
        refine AO.yld _ (Yld.fieldAddr Tryd.underlying48 rfl rfl Tryd.sizeOf26 rfl (behind_el rfl hrow) rfl) rfl rfl rfl ?_
        refine AO.yld _ (Yld.load Tryd.isAgg26 rfl (Eq.trans (behind_el rfl hrow) rfl)) rfl rfl rfl ?_
        refine AO.callW (wantedN rfl) [0, 3] [0] [0, 1] rfl rfl Tryd.call23 rfl (spec_l27Changed_c (xs := px.state) (m := 8 + 3 * pn) (by omega) (by omega) (hJ.1.2 pn px hpx).2.2.2.2 (by omega)) (.own rfl) rfl (fun ⟨_, _, _⟩ => rfl) ⟨rfl, trivial⟩ rfl (fun ⟨_, _, _⟩ => rfl) (fun ⟨_, _, _⟩ => rfl) (fun ⟨ms33, q33, s33⟩ hms33 => ?_)
        dsimp only at hms33
        refine AO.yld _ (Yld.assign rfl) rfl rfl rfl ?_
        refine AO.nil ?_
        refine AC.seq ?_
        refine AC.region ?_
        refine AO.yld _ (Yld.move rfl) rfl rfl rfl ?_
        refine AO.yld _ (Yld.add rfl rfl (by omega) (by omega)) rfl rfl rfl ?_
        refine AO.yld _ (Yld.move rfl) rfl rfl rfl ?_
        refine AO.yld _ (Yld.move rfl) rfl rfl rfl ?_
        refine AO.freeze 3 rfl ?_
        refine AO.yld _ (Yld.buildA (zs := [.v (.int .i64 0), .v (.int .i64 0), .v (str []), .sl 0 []]) bld48 rfl rfl) rfl rfl rfl ?_
        refine AO.alloc 4 Tryd.zeroValue48 rfl rfl rfl ?_
        refine AO.store Tryd.sizeOf48 rfl rfl rfl rfl rfl rfl ?_
        refine AO.nil ?_
        refine AC.seq ?_
        refine AC.region ?_
        refine AO.yld _ (Yld.move rfl) rfl rfl rfl ?_
        refine AO.buildSlice (rows := [[_], [_], [_]]) 5 Tryd.underlying83 ty9 rfl rfl rfl rfl rfl rfl rfl rfl rfl ?_
        refine AO.callW (wantedN rfl) [0, 5] [0, 1] [0] rfl rfl Tryd.call48 rfl (src_text_c (by omega) (by omega) (xs := [[], [110, 101, 119], [97, 32, 98]]) (by decide) (by decide)) (.own rfl) rfl (fun ⟨_, _, _⟩ => rfl) ⟨rfl, rfl, trivial⟩ rfl (fun ⟨_, _, _⟩ => rfl) (fun ⟨_, _, _⟩ => rfl) (fun ⟨v41, q41, s41⟩ hv41 => ?_)
        dsimp only at hv41
        refine AO.yld _ (Yld.fieldAddr Tryd.underlying48 rfl rfl Tryd.sizeOf9 rfl rfl rfl) rfl rfl rfl ?_
        refine AO.store Tryd.sizeOf9 rfl rfl rfl rfl rfl rfl ?_
        refine AO.nil ?_
        refine AC.region ?_
        refine AO.yld _ (Yld.move rfl) rfl rfl rfl ?_
        refine AO.yld _ (Yld.loadAgg Tryd.isAgg48 Tryd.sizeOf48 rfl rfl rfl rfl) rfl rfl rfl ?_
        refine AO.buildSlice (rows := [[_, _, _, _]]) 6 Tryd.underlying24 ty48 rfl rfl rfl rfl rfl rfl rfl rfl rfl ?_
        refine AO.append 1 Tryd.underlying24 ty48 rfl rfl rfl rfl rfl rfl rfl (by intro r hr q hq; simp only [List.mem_cons, List.not_mem_nil, or_false] at hr; subst hr; simp only [List.mem_cons, List.not_mem_nil, or_false] at hq; rcases hq with rfl | rfl | rfl | rfl <;> rfl) (by simp only [List.length_map, List.length_cons, List.length_nil]; omega) (by simp only [List.length_map, List.length_cons, List.length_nil]; omega) rfl ?_
        refine AO.yld _ (Yld.assign rfl) rfl rfl rfl ?_
        refine AO.nil ?_
        refine AC.mark ?_
        refine AC.region ?_
        refine AO.yld _ (Yld.move rfl) rfl rfl rfl ?_
        refine AO.yld _ (Yld.sub rfl rfl (by omega) (by omega)) rfl rfl rfl ?_
        refine AO.yld _ (Yld.assign rfl) rfl rfl rfl ?_
        refine AO.nil ?_
        refine AC.back ⟨k - 1, vs ++ [⟨(vs.length : Int) + 1, v21, v41, ms33⟩], q41, s41, ?_, ?_, ⟨?_, ?_, trivial⟩, ⟨?_, ?_, trivial⟩, ⟨rfl, rfl, trivial⟩, ⟨rfl, trivial⟩⟩
        · exact ⟨hJ.1.add (by omega) rfl (by omega) (by omega) (memo_draw hv41.1) (hms33.1.up (by omega)), by simp only [List.length_append, List.length_cons, List.length_nil]; omega, by omega, by simp only [List.length_append, List.length_cons, List.length_nil]; omega⟩
        · omega
        · show some (AV.p (PV.v (Value.int IntKind.i64 _))) = _; congr 4; omega
        · rfl
        · rfl
        · refine congrArg some (vecE ?_); rw [map_snoc]; simp [encVer]
      · -- c25 False
        refine AC.skip ?_
        refine AC.seq ?_
        refine AC.region ?_
        refine AO.yld _ (Yld.move rfl) rfl rfl rfl ?_
        refine AO.yld _ (Yld.add rfl rfl (by omega) (by omega)) rfl rfl rfl ?_
        refine AO.yld _ (Yld.move rfl) rfl rfl rfl ?_
        refine AO.yld _ (Yld.move rfl) rfl rfl rfl ?_
        refine AO.yld _ (Yld.buildA (zs := [.v (.int .i64 0), .v (.int .i64 0), .v (str []), .sl 0 []]) bld48 rfl rfl) rfl rfl rfl ?_
        refine AO.alloc 3 Tryd.zeroValue48 rfl rfl rfl ?_
        refine AO.store Tryd.sizeOf48 rfl rfl rfl rfl rfl rfl ?_
        refine AO.nil ?_
        refine AC.seq ?_
        refine AC.region ?_
        refine AO.yld _ (Yld.move rfl) rfl rfl rfl ?_
        refine AO.buildSlice (rows := [[_], [_], [_]]) 4 Tryd.underlying83 ty9 rfl rfl rfl rfl rfl rfl rfl rfl rfl ?_
        refine AO.callW (wantedN rfl) [0, 4] [0, 1] [0] rfl rfl Tryd.call48 rfl (src_text_c (by omega) (by omega) (xs := [[], [110, 101, 119], [97, 32, 98]]) (by decide) (by decide)) (.own rfl) rfl (fun ⟨_, _, _⟩ => rfl) ⟨rfl, rfl, trivial⟩ rfl (fun ⟨_, _, _⟩ => rfl) (fun ⟨_, _, _⟩ => rfl) (fun ⟨v41, q41, s41⟩ hv41 => ?_)
        dsimp only at hv41
        refine AO.yld _ (Yld.fieldAddr Tryd.underlying48 rfl rfl Tryd.sizeOf9 rfl rfl rfl) rfl rfl rfl ?_
        refine AO.store Tryd.sizeOf9 rfl rfl rfl rfl rfl rfl ?_
        refine AO.nil ?_
        refine AC.region ?_
        refine AO.yld _ (Yld.move rfl) rfl rfl rfl ?_
        refine AO.yld _ (Yld.loadAgg Tryd.isAgg48 Tryd.sizeOf48 rfl rfl rfl rfl) rfl rfl rfl ?_
        refine AO.buildSlice (rows := [[_, _, _, _]]) 5 Tryd.underlying24 ty48 rfl rfl rfl rfl rfl rfl rfl rfl rfl ?_
        refine AO.append 1 Tryd.underlying24 ty48 rfl rfl rfl rfl rfl rfl rfl (by intro r hr q hq; simp only [List.mem_cons, List.not_mem_nil, or_false] at hr; subst hr; simp only [List.mem_cons, List.not_mem_nil, or_false] at hq; rcases hq with rfl | rfl | rfl | rfl <;> rfl) (by simp only [List.length_map, List.length_cons, List.length_nil]; omega) (by simp only [List.length_map, List.length_cons, List.length_nil]; omega) rfl ?_
        refine AO.yld _ (Yld.assign rfl) rfl rfl rfl ?_
        refine AO.nil ?_
        refine AC.mark ?_
        refine AC.region ?_
        refine AO.yld _ (Yld.move rfl) rfl rfl rfl ?_
        refine AO.yld _ (Yld.sub rfl rfl (by omega) (by omega)) rfl rfl rfl ?_
        refine AO.yld _ (Yld.assign rfl) rfl rfl rfl ?_
        refine AO.nil ?_
        refine AC.back ⟨k - 1, vs ++ [⟨(vs.length : Int) + 1, v21, v41, ms23⟩], q41, s41, ?_, ?_, ⟨?_, ?_, trivial⟩, ⟨?_, ?_, trivial⟩, ⟨rfl, rfl, trivial⟩, ⟨rfl, trivial⟩⟩
        · exact ⟨hJ.1.add (by omega) rfl (by omega) (by omega) (memo_draw hv41.1) (hms23.1.up (by omega)), by simp only [List.length_append, List.length_cons, List.length_nil]; omega, by omega, by simp only [List.length_append, List.length_cons, List.length_nil]; omega⟩
        · omega
        · show some (AV.p (PV.v (Value.int IntKind.i64 _))) = _; congr 4; omega
        · rfl
        · rfl
        · refine congrArg some (vecE ?_); rw [map_snoc]; simp [encVer]
    · -- c13 False
      refine AC.exit rfl ?_
      refine AC.seq ?_
      refine AC.region ?_
      refine AO.yld _ (Yld.move rfl) rfl rfl rfl ?_
      refine AO.yld _ (Yld.assign rfl) rfl rfl rfl ?_
      refine AO.nil ?_
      refine FnE.ret (_, _, _) [0, 1] [0, 1] Tryd.results21 (RVs.cons (RV.tmp rfl) RVs.nil) rfl rfl rfl ?_ rfl ⟨⟨_, rfl, rfl⟩, ⟨_, rfl, rfl⟩, trivial⟩
      · -- holds
        exact hJ.1

theorem spec_R8History_c {code : List UInt8} :
    FnE (α := List Ver) Tryd.prog 5 [.p (.sl 1 (code.map encB))] [] [] (fun vs => HG vs) (fun vs => .h 0) (fun vs => [(0, .vec 48 4 (vs.map encVer))]) := by
  refine FnE.intro Tryd.func5 rfl Tryd.ntmps5 rfl rfl (fun w0 F0 η φ w => ?_)
  refine AC.seq ?_
  refine AC.region ?_
  refine AO.yld _ (Yld.assign rfl) rfl rfl rfl ?_
  refine AO.nil ?_
  refine AC.seq ?_
  refine AC.region ?_
  refine AO.yld _ (Yld.move rfl) rfl rfl rfl ?_
  refine AO.callW (wantedN rfl) [0] [] [0] rfl rfl Tryd.call20 rfl (spec_l00From_c) (.own rfl) rfl (fun _ => rfl) trivial rfl (fun _ => rfl) (fun _ => rfl) (fun _ _ => ?_)
  refine AO.yld _ (Yld.assign rfl) rfl rfl rfl ?_
  refine AO.nil ?_
  refine AC.seq ?_
  refine AC.region ?_
  refine AO.yld _ (Yld.move rfl) rfl rfl rfl ?_
  refine AO.callW (wantedN rfl) [0, 1] [0] [0, 1] rfl rfl Tryd.call21 rfl (spec_l27Draw_c (by omega) (by omega)) (.own rfl) rfl (fun ⟨_, _, _⟩ => rfl) ⟨rfl, trivial⟩ rfl (fun ⟨_, _, _⟩ => rfl) (fun ⟨_, _, _⟩ => rfl) (fun ⟨vs7, q7, s7⟩ hvs7 => ?_)
  dsimp only at hvs7
  refine AO.yld _ (Yld.assign rfl) rfl rfl rfl ?_
  refine AO.nil ?_
  refine FnE.ret _ [1] [0] Tryd.results5 (RVs.cons (RV.tmp rfl) RVs.nil) rfl rfl rfl ?_ rfl ⟨⟨_, rfl, rfl⟩, trivial⟩
  · -- holds
    assumption

end Go.Proofs.YtmnmaakaneaiaaaDoor
/- A row taken out of a slice of one's own: the library's Delete, as a thing of one's own. -/
set_option linter.all false
namespace Go.V
open Go
/-- What the library's Delete does, of one row: in place. -/
def DelAt (P : Program) (f : FuncId) (ty : TypeId) (rs : Nat) (okc : Value → Prop) : Prop :=
  ∀ (g n cap i : Nat) (cur : Array Value) (w : World), w.heap[g]? = some (.cells cur ty (0, 0)) → i < n → n ≤ cap → cap ≤ maxLen → cur.size = cap * rs → (∀ v ∈ cur.toList.take (n * rs), okc v) →
    Calls P f #[.slice (some ⟨g, 0, none⟩) n cap, .int .i64 i, .int .i64 (i + 1 : Nat)] w fun e w' => e = .returned (.slice (some ⟨g, 0, none⟩) (n - 1) cap) ∧
      ∃ cur' : Array Value, w'.heap[g]? = some (.cells cur' ty (0, 0)) ∧ cur'.size = cap * rs ∧ cur'.toList.take ((n - 1) * rs) = (cur.toList.take (n * rs)).take (i * rs) ++ (cur.toList.take (n * rs)).drop ((i + 1) * rs) ∧ w.grownBy w' (some g)
theorem flat_take {α : Type} {rs : Nat} : ∀ (rows : List (List α)) (h : Nat), (∀ r ∈ rows, r.length = rs) → h ≤ rows.length → (rows.take h).flatten = rows.flatten.take (h * rs)
  | [], h, _, _ => by simp
  | r :: rows, 0, _, _ => by simp
  | r :: rows, h + 1, hl, hh => by
    have hr0 := hl r (by simp)
    simp only [List.take_succ_cons, List.flatten_cons]
    rw [flat_take rows h (fun q hq => hl q (by simp [hq])) (by simpa using hh), show (h + 1) * rs = r.length + h * rs by rw [hr0, Nat.add_mul]; omega, List.take_length_add_append]
theorem flat_drop {α : Type} {rs : Nat} : ∀ (rows : List (List α)) (h : Nat), (∀ r ∈ rows, r.length = rs) → h ≤ rows.length → (rows.drop h).flatten = rows.flatten.drop (h * rs)
  | [], h, _, _ => by simp
  | r :: rows, 0, _, _ => by simp
  | r :: rows, h + 1, hl, hh => by
    have hr0 := hl r (by simp)
    simp only [List.drop_succ_cons, List.flatten_cons]
    rw [flat_drop rows h (fun q hq => hl q (by simp [hq])) (by simpa using hh), show (h + 1) * rs = r.length + h * rs by rw [hr0, Nat.add_mul]; omega, List.drop_length_add_append]
theorem del_fnE {P : Program} {f : FuncId} {ty : TypeId} {rs : Nat} {okc : Value → Prop} {rows : List (List PV)} {i : Nat} (h : DelAt P f ty rs okc) (hi : i < rows.length)
    (hok : ∀ (S : Nat → Prop) (w : World) (xs : List Value), RelL S w rows.flatten xs → ∀ v ∈ xs, okc v) :
    FnE (α := Unit) P f [.h 0, .p (.v (.int .i64 i)), .p (.v (.int .i64 (i + 1 : Nat)))] [(0, .vec ty rs rows)] [] (fun _ => True) (fun _ => .h 0) (fun _ => [(0, .vec ty rs (rows.eraseIdx i))]) := by
  intro w0 F0 η φ w us hk hrel
  simp only [ARelL, ARel, Rel] at hrel
  obtain ⟨_, _, rfl, rfl, _, _, rfl, rfl, _, _, rfl, rfl, rfl⟩ := hrel
  obtain ⟨xs, h1, h2, h3, h4⟩ := hk.res 0 _ rfl
  obtain ⟨hl3, h3⟩ := h3
  rcases h3 with ⟨_, hn0⟩ | ⟨g, cap, cur, e0, _, hg, hnc, hcm, hcs, htk⟩
  · omega
  have hgF : g ∈ φ 0 := by rw [h4, e0]; simp [Value.ownBlock]
  have hgs : g < w.heap.size := hk.lt 0 _ g rfl hgF
  rw [e0]
  refine (h g rows.length cap i cur w hg hi hnc hcm hcs (by rw [htk]; exact hok _ w xs h1)).mono ?_
  rintro e w' ⟨rfl, cur', hg', hcs', htk', hgr⟩
  have hS : SOf φ ((900, Res.cust (extC w0 F0)) :: [(0, Res.vec ty rs rows)]) g := ⟨0, _, rfl, hgF⟩
  have hsame : Same (SOf φ ((900, Res.cust (extC w0 F0)) :: [(0, Res.vec ty rs rows)])) w w' := ⟨hgr.size, fun k hk2 hns => hgr.block k hk2 (fun e => hns (by cases e; exact hS))⟩
  have hSS : ∀ k, SOf φ ((900, Res.cust (extC w0 F0)) :: [(0, Res.vec ty rs (rows.eraseIdx i))]) k ↔ SOf φ ((900, Res.cust (extC w0 F0)) :: [(0, Res.vec ty rs rows)]) k := by
    intro k
    constructor
    · rintro ⟨id, r, h5, h6⟩
      rw [get_cons] at h5
      split at h5
      · next e => subst e; exact ⟨900, _, rfl, h6⟩
      · rw [get_cons] at h5
        split at h5
        · next e => subst e; exact ⟨0, _, rfl, h6⟩
        · cases h5
    · rintro ⟨id, r, h5, h6⟩
      rw [get_cons] at h5
      split at h5
      · next e => subst e; exact ⟨900, _, rfl, h6⟩
      · rw [get_cons] at h5
        split at h5
        · next e => subst e; exact ⟨0, _, rfl, h6⟩
        · cases h5
  have hids : ∀ id r, get ((900, Res.cust (extC w0 F0)) :: [(0, Res.vec ty rs (rows.eraseIdx i))]) id = some r → (id = 900 ∧ r = Res.cust (extC w0 F0)) ∨ (id = 0 ∧ r = Res.vec ty rs (rows.eraseIdx i)) := by
    intro id r h5
    rw [get_cons] at h5
    split at h5
    · next e => left; exact ⟨e.symm, (Option.some.inj h5).symm⟩
    · rw [get_cons] at h5
      split at h5
      · next e => right; exact ⟨e.symm, (Option.some.inj h5).symm⟩
      · cases h5
  have hget : ∀ id r, get ((900, Res.cust (extC w0 F0)) :: [(0, Res.vec ty rs (rows.eraseIdx i))]) id = some r → ∃ r', get ((900, Res.cust (extC w0 F0)) :: [(0, Res.vec ty rs rows)]) id = some r' := by
    intro id r h5
    rcases hids id r h5 with ⟨rfl, _⟩ | ⟨rfl, _⟩
    · exact ⟨_, rfl⟩
    · exact ⟨_, rfl⟩
  refine ⟨(), trivial, .slice (some ⟨g, 0, none⟩) (rows.length - 1) cap, fun k => if k = 0 then .slice (some ⟨g, 0, none⟩) (rows.length - 1) cap else η k, φ, rfl, ⟨?_, ?_, ?_⟩, ?_, by simp, ?_, ?_⟩
  · intro id r h5
    rcases hids id r h5 with ⟨rfl, rfl⟩ | ⟨rfl, rfl⟩
    · have hx := hk.res 900 _ rfl
      simp only [show ¬ ((900 : Nat) = 0) by decide, if_false]
      refine RRes.mono hsame (fun k _ hk3 => (hSS k).1 hk3) (fun k hk3 => ?_) _ (fun i hi => rfl) hx
      exact hgr.block k (hk.lt 900 _ k rfl hk3) (fun e => by
        cases e
        have := hk.disj 900 0 _ _ g rfl rfl hk3 hgF
        cases this)
    · simp only [if_true]
      have hel : (rows.eraseIdx i).length = rows.length - 1 := List.length_eraseIdx_of_lt hi
      have hef : (rows.eraseIdx i).flatten = rows.flatten.take (i * rs) ++ rows.flatten.drop ((i + 1) * rs) := by
        rw [List.eraseIdx_eq_take_drop_succ, List.flatten_append, flat_take rows i h2 (by omega), flat_drop rows (i + 1) h2 (by omega)]
      refine ⟨xs.take (i * rs) ++ xs.drop ((i + 1) * rs), ?_, fun r hr => h2 r ((List.eraseIdx_sublist _ _).subset hr), ⟨?_, .inr ⟨g, cap, cur', by rw [hel], Nat.zero_le _, hg', by rw [hel]; omega, hcm, hcs', by rw [hel, htk', htk]⟩⟩, by rw [h4, e0]; rfl⟩
      · rw [hef]
        exact RelL.mono hsame (fun k _ hk3 => (hSS k).1 hk3) _ _ (relL_append _ _ _ _ (relL_take _ _ _ h1) (relL_drop _ _ _ h1))
      · rw [hel, List.length_append, List.length_take, List.length_drop, hl3]
        have e1 : i * rs ≤ rows.length * rs := Nat.mul_le_mul_right _ (by omega)
        rw [Nat.min_eq_left e1, ← Nat.sub_mul, ← Nat.add_mul]
        congr 1; omega
  · intro id id' r r' k h5 h6 h7 h8
    obtain ⟨_, e5⟩ := hget id r h5
    obtain ⟨_, e6⟩ := hget id' r' h6
    exact hk.disj id id' _ _ k e5 e6 h7 h8
  · intro id r k h5 h6
    obtain ⟨_, e5⟩ := hget id r h5
    exact Nat.lt_of_lt_of_le (hk.lt id _ k e5 h6) hgr.size
  · simp only [ARel, if_true]
  · intro id r k h5 h6
    obtain ⟨_, e5⟩ := hget id r h5
    exact .inl ⟨id, _, e5, h6⟩
  · exact ⟨hgr.os, hgr.tape, hgr.output, hgr.size, fun k hk2 hns => hsame.block k hk2 hns⟩
theorem setCells_row (g : Nat) (ty : TypeId) : ∀ (vs : List Value) (o : Nat) (w : World) (cur : Array Value), w.heap[g]? = some (.cells cur ty (0, 0)) → o + vs.length ≤ cur.size →
    ∃ cur' : Array Value, (w.setCells g o vs).heap[g]? = some (.cells cur' ty (0, 0)) ∧ cur'.size = cur.size ∧ cur'.toList = cur.toList.take o ++ vs ++ cur.toList.drop (o + vs.length) ∧ w.grownBy (w.setCells g o vs) (some g)
  | [], o, w, cur, h, _ => ⟨cur, h, rfl, by simp, ⟨rfl, rfl, rfl, Nat.le_refl _, fun _ _ _ => rfl⟩⟩
  | v :: vs, o, w, cur, h, hl => by
    have h1 : (w.setCell ⟨g, o, none⟩ v).heap[g]? = some (.cells (cur.setIfInBounds o v) ty (0, 0)) := heap_setCell_same w g o cur ty v h
    rw [List.length_cons] at hl
    obtain ⟨cur', h2, h3, h4, h5⟩ := setCells_row g ty vs (o + 1) (w.setCell ⟨g, o, none⟩ v) _ h1 (by simp; omega)
    refine ⟨cur', h2, by simpa using h3, ?_, ?_⟩
    · rw [h4, Array.toList_setIfInBounds]
      have ho : o < cur.toList.length := by simp; omega
      rw [List.take_set, List.drop_set_of_lt (by omega), List.take_add_one, List.getElem?_eq_getElem ho]
      simp only [Option.toList_some]
      rw [List.set_append_right _ _ (by rw [List.length_take]; omega)]
      have : o - (List.take o cur.toList).length = 0 := by rw [List.length_take]; omega
      rw [this]
      simp only [List.set_cons_zero, List.append_assoc, List.singleton_append, List.length_cons, List.cons_append, List.nil_append]
      rw [show o + 1 + vs.length = o + (vs.length + 1) by omega]
    · refine ⟨h5.os, h5.tape, h5.output, Nat.le_trans (by simp) h5.size, fun k hk hne => ?_⟩
      refine (h5.block k (by simpa using hk) hne).trans ?_
      exact heap_setCell_other w ⟨g, o, none⟩ k v (fun e => hne (by rw [e]))
theorem del_str {P : Program} {f : FuncId} {ty : TypeId}
    (h : ∀ (b off n c i j : Nat) (Sx : Nat → ByteArray) (w : World), n ≤ c → c ≤ 9223372036854775807 → i ≤ j → j ≤ n → (∀ i, i < n → w.cell? ⟨b, off + i, none⟩ = some (.string (Sx i))) → (∀ j, j < n → w.frozen? ⟨b, off + j, none⟩ = false) →
      Calls P f #[.slice (some ⟨b, off, none⟩) n c, .int .i64 i, .int .i64 j] w fun e w' => e = .returned (.slice (some ⟨b, off, none⟩) (n - (j - i)) c) ∧ ∃ q, w' = (w.drewN q).setCells b off (((Lib.strsOf Sx n).take i ++ (Lib.strsOf Sx n).drop j ++ List.replicate (j - i) []).map (fun l : List UInt8 => Value.string ⟨l.toArray⟩))) :
    DelAt P f ty 1 (fun v => ∃ s, v = .string s) := by
  intro g n cap i cur w hg hi hnc hcm hcs hstr
  simp only [Nat.mul_one] at hcs hstr ⊢
  have hlen : n ≤ cur.toList.length := by simp; omega
  have hget : ∀ k (hk : k < n), ∃ s, cur.toList[k]'(by omega) = .string s := fun k hk => hstr _ (by rw [List.mem_take_iff_getElem]; exact ⟨k, by omega, rfl⟩)
  obtain ⟨Sx, hSx⟩ : ∃ Sx : Nat → ByteArray, ∀ k (hk : k < n), cur.toList[k]'(by omega) = .string (Sx k) := by
    refine ⟨fun k => if hk : k < n then (hget k hk).choose else ⟨#[]⟩, fun k hk => ?_⟩
    simp only [dif_pos hk]
    exact (hget k hk).choose_spec
  have hcell : ∀ k, k < n → w.cell? ⟨g, 0 + k, none⟩ = some (.string (Sx k)) := fun k hk => by
    unfold World.cell?
    rw [show w.heap[(⟨g, 0 + k, none⟩ : Addr).block]? = _ from hg]
    simp only [Nat.zero_add]
    have := hSx k hk
    rw [Array.getElem_toList] at this
    rw [Array.getElem?_eq_getElem (by omega), this]
    rfl
  have hfr : ∀ k, k < n → w.frozen? ⟨g, 0 + k, none⟩ = false := fun k hk => by
    unfold World.frozen?
    rw [show w.heap[(⟨g, 0 + k, none⟩ : Addr).block]? = _ from hg]
    simp
  refine (h g 0 n cap i (i + 1) Sx w hnc (by simpa [maxLen] using hcm) (by omega) (by omega) hcell hfr).mono ?_
  rintro e w' ⟨rfl, q, rfl⟩
  have hz : (cur.toList.take n) = (Lib.strsOf Sx n).map (fun l : List UInt8 => Value.string ⟨l.toArray⟩) := by
    refine List.ext_getElem (by simp [Lib.strsOf]; omega) (fun k h1 h2 => ?_)
    rw [List.getElem_take, hSx k (by simp at h1; omega)]
    simp [Lib.strsOf]
  obtain ⟨cur', h2, h3, h4, h5⟩ := setCells_row g ty (((Lib.strsOf Sx n).take i ++ (Lib.strsOf Sx n).drop (i + 1) ++ List.replicate (i + 1 - i) []).map (fun l : List UInt8 => Value.string ⟨l.toArray⟩)) 0 (w.drewN q) cur hg (by simp [Lib.strsOf]; omega)
  refine ⟨by rw [show n - (i + 1 - i) = n - 1 by omega], cur', h2, by omega, ?_, ⟨h5.os, h5.tape, h5.output, h5.size, h5.block⟩⟩
  rw [h4, hz]
  simp only [List.take_zero, List.nil_append, List.map_append, List.map_take, List.map_drop]
  rw [List.append_assoc, List.take_append_of_le_length (by simp [Lib.strsOf]; omega)]
  rw [List.take_of_length_le (by simp [Lib.strsOf]; omega)]
theorem str_cells {zs : List (List UInt8)} (S : Nat → Prop) (w : World) (xs : List Value) (h : RelL S w (zs.map encS).flatten xs) : ∀ v ∈ xs, ∃ s, v = .string s := by
  induction zs generalizing xs with
  | nil => simp only [List.map_nil, List.flatten_nil, RelL] at h; subst h; simp
  | cons z zs ih =>
    simp only [List.map_cons, List.flatten_cons, Go.V.encS, List.singleton_append, RelL, Rel] at h
    obtain ⟨_, us', rfl, rfl, h⟩ := h
    intro v hv
    rcases List.mem_cons.1 hv with e | e
    · exact ⟨_, e⟩
    · exact ih us' h v e
end Go.V
namespace Go.V
theorem del_fnI {P : Program} {f : FuncId} {ty : TypeId} {rs : Nat} {okc : Value → Prop} {rows : List (List PV)} {i : Nat} {x y : Int} (h : DelAt P f ty rs okc) (hx : x = (i : Int)) (hy : y = x + 1) (hi : i < rows.length)
    (hok : ∀ (S : Nat → Prop) (w : World) (xs : List Value), RelL S w rows.flatten xs → ∀ v ∈ xs, okc v) :
    FnE (α := Unit) P f [.h 0, .p (.v (.int .i64 x)), .p (.v (.int .i64 y))] [(0, .vec ty rs rows)] [] (fun _ => True) (fun _ => .h 0) (fun _ => [(0, .vec ty rs (rows.eraseIdx i))]) := by
  subst hy; subst hx; exact del_fnE h hi hok
end Go.V
/- The library's Delete at settings: rows of two cells. -/
set_option linter.all false
namespace Go.Proofs.YtmnmaakaneaiaaaDoor
open Go Go.V Go.RowKit Go.Shelf Go.Lib Go.Sort
theorem run_clear_two {P : Program} (w : World) (t e ty : TypeId) (z : Value) {v0 v1 : Value} (ht : P.underlying t = some (.slice e)) (hv : ∀ w, (zeroValue e).run P w = .ok z w) (hz : z.cells = #[v0, v1]) (h0 : v0.oneCell' = true) (h1 : v1.oneCell' = true) (b o c : Nat)
    (hc : ∀ j, j < 2 → (w.cell? ⟨b, o + j, none⟩).isSome = true) (hf : ∀ j, j < 2 → w.frozen? ⟨b, o + j, none⟩ = false) :
    (Builtin.clear_ #[t] ty #[.slice (some ⟨b, o, none⟩) 1 c]).run P w = .ok (.tuple #[]) (w.setCells b o [v0, v1]) := by
  have hzc : (Builtin.zeroCells z.cells 1).toList = [v0, v1] := by
    rw [hz]
    unfold Builtin.zeroCells
    simp only [List.size_toArray, List.length_cons, List.length_nil]
    rw [show Array.range (1 * (0 + 1 + 1)) = #[0, 1] from (by show Array.range 2 = #[0, 1]; decide)]
    simp
  have hst := run_storeCells_cells (P := P) b o [v0, v1] 0 w (by simpa using hc) (by simpa using hf) (by
    intro v hv'
    simp only [List.mem_cons, List.not_mem_nil, or_false] at hv'
    rcases hv' with rfl | rfl
    · exact h0
    · exact h1)
  simp only [Nat.add_zero] at hst
  simp [Builtin.clear_, run_underlying ht, hv, hzc, hst]
theorem cells_some {w : World} {g : Nat} {cur : Array Value} {ty : TypeId} (hg : w.heap[g]? = some (.cells cur ty (0, 0))) {k : Nat} (hk : k < cur.size) : (w.cell? ⟨g, k, none⟩) = some cur[k] ∧ w.frozen? ⟨g, k, none⟩ = false := by
  constructor
  · unfold World.cell?
    rw [show w.heap[(⟨g, k, none⟩ : Addr).block]? = _ from hg]
    simp only []
    rw [Array.getElem?_eq_getElem hk]
    rfl
  · unfold World.frozen?
    rw [show w.heap[(⟨g, k, none⟩ : Addr).block]? = _ from hg]
    simp
set_option maxHeartbeats 4000000 in
set_option maxRecDepth 1000000 in
theorem del_raw (g n cap i j : Nat) (cur : Array Value) (w : World) (hg : w.heap[g]? = some (.cells cur 57 (0, 0))) (hij : i < j) (hj1 : j ≤ i + 1) (hj : j ≤ n) (hnc : n ≤ cap) (hcm : cap ≤ maxLen) (hcs : cur.size = cap * 2) (h1c : ∀ v ∈ cur.toList.take (n * 2), v.oneCell' = true) :
    Calls Tryd.prog 34 #[.slice (some ⟨g, 0, none⟩) n cap, .int .i64 i, .int .i64 j] w fun e w' => e = .returned (.slice (some ⟨g, 0, none⟩) (n - 1) cap) ∧
      w' = (w.drew.setCells g (i * 2) ((cur.toList.take (n * 2)).drop (j * 2))).setCells g ((n - 1) * 2) [.string ⟨#[]⟩, .int .i64 0] := by
  have mixed : Tryd.prog.follows .mixedOrders = true := by kernel_rfl
  obtain ⟨i0, hi0, hz0, hz1, hz2⟩ := info_parts ty57
  obtain ⟨news, hnews⟩ : ∃ news, news = (cur.toList.take (n * 2)).drop (j * 2) := ⟨_, rfl⟩
  have hnl : news.length = (n - j) * 2 := by rw [hnews]; simp; omega
  have hcap : cap ≤ 9223372036854775807 := by simpa [maxLen] using hcm
  have hget : ∀ t u, news[t]? = some u → w.drew.cell? ⟨g, j * 2 + t, none⟩ = some u := by
    intro t u hu
    have ht : t < news.length := (List.getElem?_eq_some_iff.1 hu).1
    rw [hnl] at ht
    rw [hnews, List.getElem?_drop, List.getElem?_take_of_lt (by omega), Array.getElem?_toList] at hu
    have hlt : j * 2 + t < cur.size := by omega
    show w.cell? _ = _
    rw [(cells_some hg hlt).1, ← hu, Array.getElem?_eq_getElem hlt]
  obtain ⟨A, hA, hsrc⟩ : ∃ A : Addr, (if cap = j then some (⟨g, 0, none⟩ : Addr) else some ⟨g, j * 2, none⟩) = some A ∧ Hid (∀ t u, news[t]? = some u → w.drew.cell? (A.add t) = some u) := by
    by_cases h : cap = j
    · refine ⟨⟨g, 0, none⟩, by simp [h], fun t u hu => ?_⟩
      have h0 : news.length = 0 := by rw [hnl]; omega
      rw [List.length_eq_zero_iff.1 h0] at hu
      simp at hu
    · refine ⟨⟨g, j * 2, none⟩, by simp [h], fun t u hu => ?_⟩
      rw [Addr.add_lit]
      exact hget t u hu
  have s1 : Hid (news.length = (n - j) * 2) := hnl
  have s2 : Hid (∀ u ∈ news, u.oneCell' = true) := fun u hu => h1c u (List.mem_of_mem_drop (hnews ▸ hu))
  have s3 : Hid (∀ t, t < news.length → (w.drew.cell? ⟨g, 0 + i * 2 + t, none⟩).isSome = true ∧ w.drew.frozen? ⟨g, 0 + i * 2 + t, none⟩ = false) := by
    intro t ht
    rw [hnl] at ht
    have hlt : 0 + i * 2 + t < cur.size := by omega
    exact ⟨by show (w.cell? _).isSome = true; rw [(cells_some hg hlt).1]; rfl, (cells_some hg hlt).2⟩
  obtain ⟨W1, hW1⟩ : ∃ W1, W1 = w.drew.setCells g (0 + i * 2) news := ⟨_, rfl⟩
  obtain ⟨cur1, hg1, hs1, _, _⟩ := setCells_row g 57 news (0 + i * 2) w.drew cur hg (by rw [hnl]; omega)
  rw [← hW1] at hg1
  have hcl : ∀ ty, (Builtin.clear_ #[26] ty #[.slice (some ⟨g, (i + (n - j)) * 2, none⟩) (n - (i + (n - j))) (cap - (i + (n - j)))]).run Tryd.prog W1 = .ok (.tuple #[]) (W1.setCells g ((n - 1) * 2) [.string ⟨#[]⟩, .int .i64 0]) :=
    fun ty => by
     rw [show n - (i + (n - j)) = 1 by omega, show i + (n - j) = n - 1 by omega]
     exact run_clear_two W1 _ _ ty _ Tryd.underlying26 Tryd.zeroValue57 rfl rfl rfl g ((n - 1) * 2) _ (fun j hj => by rw [(cells_some hg1 (by omega)).1]; rfl) (fun j hj => (cells_some hg1 (by omega)).2)
  have hW : Hid (W1 = w.drew.setCells g (0 + i * 2) news) := hW1
  have hX : Aside (W1 = w.drew.setCells g (i * 2) ((cur.toList.take (n * 2)).drop (j * 2))) := by rw [hW1, Nat.zero_add, hnews]; rfl
  have hic : i ≤ cap := by omega
  have hjc : j ≤ cap := by omega
  clear hW1 hg1 hs1 hg hget hnews hnl h1c hcs hcm
  go_enter Tryd.func34, Tryd.ntmps34
  go_wp2_with fail
  go_region_law_o (refine step_append_room rfl (.tmp 22) (.tmp 25) 26 rfl 57 i0 2 Tryd.underlying26 hi0 hz1 g 0 i cap (by simp [Act.eval, Act.put]) A (n - j) (cap - j) news (by simp [Act.eval, Act.put]) s1.out hsrc.out s2.out (by omega) s3.out ?_; rw [← hW.out])
  go_wp2
  go_ret
  exact ⟨by rw [show n - 1 = i + (n - j) by omega]; rfl, by rw [hX.out]⟩
theorem del_set : DelAt Tryd.prog 34 57 2 (fun v => v.oneCell' = true) := by
  intro g n cap i cur w hg hi hnc hcm hcs h1c
  refine (del_raw g n cap i (i + 1) cur w hg (by omega) (by omega) (by omega) hnc hcm hcs h1c).mono ?_
  rintro e w' ⟨rfl, rfl⟩
  have hl : cur.toList.length = cap * 2 := by simpa using hcs
  obtain ⟨news, hnews⟩ : ∃ news, news = (cur.toList.take (n * 2)).drop ((i + 1) * 2) := ⟨_, rfl⟩
  have hnl : news.length = (n - (i + 1)) * 2 := by rw [hnews]; simp; omega
  rw [← hnews]
  obtain ⟨cur1, a1, a2, a3, a4⟩ := setCells_row g 57 news (i * 2) w.drew cur hg (by omega)
  obtain ⟨cur2, b1, b2, b3, b4⟩ := setCells_row g 57 [.string ⟨#[]⟩, .int .i64 0] ((n - 1) * 2) (w.drew.setCells g (i * 2) news) cur1 a1 (by simp; omega)
  refine ⟨rfl, cur2, b1, by omega, ?_, ⟨b4.os.trans a4.os, b4.tape.trans a4.tape, b4.output.trans a4.output, Nat.le_trans a4.size b4.size, fun k hk hne => (b4.block k (Nat.lt_of_lt_of_le hk a4.size) hne).trans (a4.block k hk hne)⟩⟩
  have hl1 : cur1.toList.length = cap * 2 := by simp; omega
  have e1 : (cur.toList.take (n * 2)).take (i * 2) = cur.toList.take (i * 2) := by rw [List.take_take, Nat.min_eq_left (by omega)]
  rw [b3, List.append_assoc, List.take_append_of_le_length (by rw [List.length_take]; omega), List.take_take, Nat.min_self, a3, e1]
  rw [List.take_append_of_le_length (by rw [List.length_append, List.length_take]; omega), List.take_of_length_le (by rw [List.length_append, List.length_take]; omega)]
theorem one_cells {zs : List NV} (S : Nat → Prop) (w : World) (xs : List Value) (h : RelL S w (zs.map encNV).flatten xs) : ∀ v ∈ xs, v.oneCell' = true := by
  induction zs generalizing xs with
  | nil => simp only [List.map_nil, List.flatten_nil, RelL] at h; subst h; simp
  | cons z zs ih =>
    simp only [List.map_cons, List.flatten_cons, encNV, List.cons_append, List.nil_append, RelL, Rel] at h
    obtain ⟨_, us', rfl, rfl, _, us2, rfl, rfl, h⟩ := h
    intro v hv
    rcases List.mem_cons.1 hv with e | hv
    · subst e; rfl
    · rcases List.mem_cons.1 hv with e | hv
      · subst e; rfl
      · exact ih us2 h v hv
theorem map_erase9 {α β : Type} (f : α → β) : ∀ (l : List α) (k : Nat), (l.map f).eraseIdx k = (l.eraseIdx k).map f
  | [], _ => by simp
  | _ :: _, 0 => by simp
  | a :: l, k + 1 => by simp [map_erase9 f l k]
/-- One setting taken out, in place. -/
theorem delN_c {zs : List NV} {i : Nat} {x y : Int} (hx : x = (i : Int)) (hy : y = x + 1) (hi : i < zs.length) :
    FnE (α := Unit) Tryd.prog 34 [.h 0, .p (.v (.int .i64 x)), .p (.v (.int .i64 y))] [(0, .vec 57 2 (zs.map encNV))] [] (fun _ => True) (fun _ => .h 0) (fun _ => [(0, .vec 57 2 ((zs.eraseIdx i).map encNV))]) := by
  rw [← map_erase9]
  exact del_fnI del_set hx hy (by rw [List.length_map]; exact hi) (fun S w xs h => one_cells S w xs h)
end Go.Proofs.YtmnmaakaneaiaaaDoor
/- A slice of one's own whose block a call turns in place. -/
set_option linter.all false
namespace Go.V
open Go
theorem vec_inplace {w0 : World} {F0 : List Nat} {η : Nat → Value} {φ : Nat → List Nat} {w w' : World} {ty : TypeId} {rs : Nat} {rows rows' : List (List PV)} {g n cap : Nat} {cur' : Array Value} {xs' : List Value}
    (hk : HpOk η φ ((900, Res.cust (extC w0 F0)) :: [(0, Res.vec ty rs rows)]) w) (he : η 0 = .slice (some ⟨g, 0, none⟩) n cap) (hF : φ 0 = [g]) (hgr : w.grownBy w' (some g)) (hg' : w'.heap[g]? = some (.cells cur' ty (0, 0))) (hcs : cur'.size = cap * rs) (hcm : cap ≤ maxLen)
    (hlen : ∀ r ∈ rows', r.length = rs) (hl : rows'.length ≤ cap) (hx : cur'.toList.take (rows'.length * rs) = xs') (hxl : xs'.length = rows'.length * rs) (hrel : RelL (SOf φ ((900, Res.cust (extC w0 F0)) :: [(0, Res.vec ty rs rows)])) w rows'.flatten xs') :
    HpOk (fun k => if k = 0 then .slice (some ⟨g, 0, none⟩) rows'.length cap else η k) φ ((900, Res.cust (extC w0 F0)) :: [(0, Res.vec ty rs rows')]) w' ∧
      (∀ i r k, get ((900, Res.cust (extC w0 F0)) :: [(0, Res.vec ty rs rows')]) i = some r → k ∈ φ i → SOf φ ((900, Res.cust (extC w0 F0)) :: [(0, Res.vec ty rs rows)]) k ∨ w.heap.size ≤ k) ∧
      Keep (SOf φ ((900, Res.cust (extC w0 F0)) :: [(0, Res.vec ty rs rows)])) w w' := by
  have hgF : g ∈ φ 0 := by rw [hF]; simp
  have hS : SOf φ ((900, Res.cust (extC w0 F0)) :: [(0, Res.vec ty rs rows)]) g := ⟨0, _, rfl, hgF⟩
  have hsame : Same (SOf φ ((900, Res.cust (extC w0 F0)) :: [(0, Res.vec ty rs rows)])) w w' := ⟨hgr.size, fun k hk2 hns => hgr.block k hk2 (fun e => hns (by cases e; exact hS))⟩
  have hids : ∀ (rw' : List (List PV)) id r, get ((900, Res.cust (extC w0 F0)) :: [(0, Res.vec ty rs rw')]) id = some r → (id = 900 ∧ r = Res.cust (extC w0 F0)) ∨ (id = 0 ∧ r = Res.vec ty rs rw') := by
    intro rw' id r h5
    rw [get_cons] at h5
    split at h5
    · next e => left; exact ⟨e.symm, (Option.some.inj h5).symm⟩
    · rw [get_cons] at h5
      split at h5
      · next e => right; exact ⟨e.symm, (Option.some.inj h5).symm⟩
      · cases h5
  have hget : ∀ id r, get ((900, Res.cust (extC w0 F0)) :: [(0, Res.vec ty rs rows')]) id = some r → ∃ r', get ((900, Res.cust (extC w0 F0)) :: [(0, Res.vec ty rs rows)]) id = some r' := by
    intro id r h5
    rcases hids _ id r h5 with ⟨rfl, _⟩ | ⟨rfl, _⟩
    · exact ⟨_, rfl⟩
    · exact ⟨_, rfl⟩
  have hSS : ∀ k, SOf φ ((900, Res.cust (extC w0 F0)) :: [(0, Res.vec ty rs rows')]) k → SOf φ ((900, Res.cust (extC w0 F0)) :: [(0, Res.vec ty rs rows)]) k := by
    rintro k ⟨id, r, h5, h6⟩
    obtain ⟨r', h7⟩ := hget id r h5
    exact ⟨id, r', h7, h6⟩
  refine ⟨⟨?_, ?_, ?_⟩, ?_, ?_⟩
  · intro id r h5
    rcases hids _ id r h5 with ⟨rfl, rfl⟩ | ⟨rfl, rfl⟩
    · have hx9 := hk.res 900 _ rfl
      simp only [show ¬ ((900 : Nat) = 0) by decide, if_false]
      refine RRes.mono hsame (fun k _ hk3 => hSS k hk3) (fun k hk3 => ?_) _ (fun i hi => rfl) hx9
      exact hgr.block k (hk.lt 900 _ k rfl hk3) (fun e => by
        cases e
        have := hk.disj 900 0 _ _ g rfl rfl hk3 hgF
        cases this)
    · simp only [if_true]
      exact ⟨xs', RelL.mono hsame (fun k _ hk3 => hSS k hk3) _ _ hrel, hlen, ⟨hxl, .inr ⟨g, cap, cur', rfl, Nat.zero_le _, hg', hl, hcm, hcs, hx⟩⟩, by rw [hF]; rfl⟩
  · intro id id' r r' k h5 h6 h7 h8
    obtain ⟨_, e5⟩ := hget id r h5
    obtain ⟨_, e6⟩ := hget id' r' h6
    exact hk.disj id id' _ _ k e5 e6 h7 h8
  · intro id r k h5 h6
    obtain ⟨_, e5⟩ := hget id r h5
    exact Nat.lt_of_lt_of_le (hk.lt id _ k e5 h6) hgr.size
  · intro id r k h5 h6
    obtain ⟨_, e5⟩ := hget id r h5
    exact .inl ⟨id, _, e5, h6⟩
  · exact ⟨hgr.os, hgr.tape, hgr.output, hgr.size, fun k hk2 hns => hsame.block k hk2 hns⟩
end Go.V
/- The library's sort at settings, laid at this program. -/
namespace Go.Proofs
open Go.Shelf
def Tryd.sortSet_ren : Go.Shelf.Ren := ⟨fun | 6 => 31 | 15 => 58 | 14 => 57 | 28 => 75 | 29 => 76 | 20 => 67 | 21 => 68 | 22 => 69 | 23 => 70 | 24 => 71 | 25 => 72 | 26 => 73 | 27 => 74 | 46 => 81 | 47 => 82 | 48 => 83 | 49 => 84 | 50 => 85 | 57 => 91 | n => n, fun | 22 => 26 | 24 => 57 | 25 => 68 | 3 => 3 | 39 => 91 | 0 => 0 | 53 => 104 | 55 => 78 | 4 => 4 | 46 => 97 | 45 => 96 | 50 => 101 | 5 => 5 | 9 => 9 | 66 => 109 | 70 => 113 | 76 => 120 | 77 => 121 | n => n, fun | n => n⟩
theorem Tryd.sortSet : Go.Proofs.SlLaysF0.n6 Tryd.prog Tryd.sortSet_ren := {
  mixed := by kernel_rfl
  f6 := ⟨Tryd.f31.name, by decide, Tryd.func31.trans (congrArg some (by kernel_rfl))⟩
  f14 := ⟨Tryd.f57.name, by decide, Tryd.func57.trans (congrArg some (by kernel_rfl))⟩
  f15 := Tryd.func58.trans (congrArg some (by kernel_rfl))
  f20 := ⟨Tryd.f67.name, by decide, Tryd.func67.trans (congrArg some (by kernel_rfl))⟩
  f21 := ⟨Tryd.f68.name, by decide, Tryd.func68.trans (congrArg some (by kernel_rfl))⟩
  f22 := ⟨Tryd.f69.name, by decide, Tryd.func69.trans (congrArg some (by kernel_rfl))⟩
  f23 := ⟨Tryd.f70.name, by decide, Tryd.func70.trans (congrArg some (by kernel_rfl))⟩
  f24 := ⟨Tryd.f71.name, by decide, Tryd.func71.trans (congrArg some (by kernel_rfl))⟩
  f25 := ⟨Tryd.f72.name, by decide, Tryd.func72.trans (congrArg some (by kernel_rfl))⟩
  f26 := ⟨Tryd.f73.name, by decide, Tryd.func73.trans (congrArg some (by kernel_rfl))⟩
  f27 := ⟨Tryd.f74.name, by decide, Tryd.func74.trans (congrArg some (by kernel_rfl))⟩
  f28 := Tryd.func75.trans (congrArg some (by kernel_rfl))
  f29 := Tryd.func76.trans (congrArg some (by kernel_rfl))
  f46 := ⟨Tryd.f81.name, by decide, Tryd.func81.trans (congrArg some (by kernel_rfl))⟩
  f47 := Tryd.func82.trans (congrArg some (by kernel_rfl))
  f48 := Tryd.func83.trans (congrArg some (by kernel_rfl))
  f49 := ⟨Tryd.f84.name, by decide, Tryd.func84.trans (congrArg some (by kernel_rfl))⟩
  f50 := ⟨Tryd.f85.name, by decide, Tryd.func85.trans (congrArg some (by kernel_rfl))⟩
  f57 := ⟨Tryd.f91.name, by decide, Tryd.func91.trans (congrArg some (by kernel_rfl))⟩
  t0 := Tryd.underlying0
  a0 := Tryd.isAgg0
  z0 := Tryd.sizeOf0
  v0 := Tryd.zeroValue0
  t3 := Tryd.underlying3
  a3 := Tryd.isAgg3
  z3 := Tryd.sizeOf3
  v3 := Tryd.zeroValue3
  t4 := Tryd.underlying4
  a4 := Tryd.isAgg4
  z4 := Tryd.sizeOf4
  v4 := Tryd.zeroValue4
  t5 := Tryd.underlying5
  a5 := Tryd.isAgg5
  z5 := Tryd.sizeOf5
  v5 := Tryd.zeroValue5
  t9 := Tryd.underlying9
  a9 := Tryd.isAgg9
  z9 := Tryd.sizeOf9
  v9 := Tryd.zeroValue9
  t22 := Tryd.underlying26
  a22 := Tryd.isAgg26
  z22 := Tryd.sizeOf26
  v22 := Tryd.zeroValue26
  t25 := Tryd.underlying68
  a25 := Tryd.isAgg68
  z25 := Tryd.sizeOf68
  v25 := Tryd.zeroValue68
  t39 := Tryd.underlying91
  a39 := Tryd.isAgg91
  z39 := Tryd.sizeOf91
  v39 := Tryd.zeroValue91
  t45 := Tryd.underlying96
  a45 := Tryd.isAgg96
  z45 := Tryd.sizeOf96
  v45 := Tryd.zeroValue96
  t46 := Tryd.underlying97
  a46 := Tryd.isAgg97
  z46 := Tryd.sizeOf97
  v46 := Tryd.zeroValue97
  t50 := Tryd.underlying101
  a50 := Tryd.isAgg101
  z50 := Tryd.sizeOf101
  v50 := Tryd.zeroValue101
  t53 := Tryd.underlying104
  a53 := Tryd.isAgg104
  z53 := Tryd.sizeOf104
  v53 := Tryd.zeroValue104
  t55 := Tryd.underlying78
  a55 := Tryd.isAgg78
  z55 := Tryd.sizeOf78
  v55 := Tryd.zeroValue78
  t66 := Tryd.underlying109
  a66 := Tryd.isAgg109
  z66 := Tryd.sizeOf109
  v66 := Tryd.zeroValue109
  t70 := Tryd.underlying113
  a70 := Tryd.isAgg113
  z70 := Tryd.sizeOf113
  v70 := Tryd.zeroValue113
  t76 := Tryd.underlying120
  a76 := Tryd.isAgg120
  z76 := Tryd.sizeOf120
  v76 := Tryd.zeroValue120
  t77 := Tryd.underlying121
  a77 := Tryd.isAgg121
  z77 := Tryd.sizeOf121
  v77 := Tryd.zeroValue121 }
end Go.Proofs
/- The library's sort at settings, by their names: in place. -/
set_option linter.all false
namespace Go.Proofs.YtmnmaakaneaiaaaDoor
open Go Go.V Go.RowKit Go.Shelf Go.Lib Go.Sort
theorem cmp_less : ∀ (a b : List UInt8), decide (Lib.compareBytes a b < 0) = Op.bytesLess a b
  | [], [] => rfl
  | [], _ :: _ => rfl
  | _ :: _, [] => rfl
  | x :: a, y :: b => by
    simp only [Lib.compareBytes, Op.bytesLess]
    by_cases h1 : x < y
    · simp [h1]
    · by_cases h2 : y < x
      · have : ¬ x = y := fun e => by subst e; exact UInt8.lt_irrefl _ h2
        simp [h1, h2, this]
      · have : x = y := UInt8.le_antisymm (UInt8.not_lt.1 h2) (UInt8.not_lt.1 h1)
        simp [h1, h2, this, cmp_less a b]
def cfN (x y : NV) : Int := Lib.compareBytes x.name y.name
theorem lt_cfN (x y : NV) : ltOf cfN x y = Op.bytesLess x.name y.name := cmp_less _ _
theorem less_total {a b : List UInt8} (h1 : Op.bytesLess a b = false) (h2 : Op.bytesLess b a = false) : a = b := by
  induction a generalizing b with
  | nil => cases b with
    | nil => rfl
    | cons y b => simp [Op.bytesLess] at h1
  | cons x a ih => cases b with
    | nil => simp [Op.bytesLess] at h2
    | cons y b =>
      simp only [Op.bytesLess, Bool.or_eq_false_iff, decide_eq_false_iff_not, Bool.and_eq_false_iff, beq_eq_false_iff_ne, ne_eq] at h1 h2
      have hxy : x = y := UInt8.le_antisymm (UInt8.not_lt.1 h2.1) (UInt8.not_lt.1 h1.1)
      subst hxy
      rw [ih (h1.2.resolve_left (fun h => h rfl)) (h2.2.resolve_left (fun h => h rfl))]
theorem swoN : SWO (ltOf cfN) where
  irrefl x := by rw [lt_cfN]; exact bytesLess_irrefl _
  trans x y z h1 h2 := by rw [lt_cfN] at *; exact bytesLess_trans h1 h2
  ntrans x y z h1 h2 := by
    rw [lt_cfN] at *
    cases h : Op.bytesLess x.name z.name with
    | false => rfl
    | true =>
      cases h3 : Op.bytesLess y.name x.name with
      | true => rw [bytesLess_trans h3 h] at h2; cases h2
      | false => rw [less_total h1 h3, h2] at h; cases h
def encN (x : NV) : List Value := [str x.name, .int .i64 x.val]
set_option maxHeartbeats 1000000 in
theorem cmpClo (x y : NV) (W : World) : Calls Tryd.prog 32 #[.agg #[str x.name, .int .i64 x.val], .agg #[str y.name, .int .i64 y.val]] W fun e w' => e = .returned (.int .i64 (cfN x y)) ∧ ∃ q os', w' = grow (W.drewN q) os' := by
  have hcon := fun W' => Tryd.strings_Compare ⟨x.name.toArray⟩ ⟨y.name.toArray⟩ W'
  have e : Lib.compareBytes (ByteArray.mk x.name.toArray).data.toList (ByteArray.mk y.name.toArray).data.toList = cfN x y := by simp [cfN]
  simp only [e] at hcon
  generalize cfN x y = r at hcon ⊢
  unfold str
  go_enter Tryd.func32, Tryd.ntmps32
  go_wp2_with (go_at_call 33; refine (hcon _).mono ?_; rintro e w' ⟨rfl, rfl⟩)
  go_ret
  exact ⟨rfl, 0, _, by rw [alloc_eq_grow, alloc_eq_grow, grow_grow]; rfl⟩
theorem flat_list (zs : List NV) : (flatK encN 2 zs.toArray).toList = (zs.map encN).flatten := by
  have key : ∀ (n : Nat), n ≤ zs.length → (List.range (n * 2)).map (fun t => (encN zs.toArray[t / 2]!)[t % 2]!) = ((zs.take n).map encN).flatten := by
    intro n
    induction n with
    | zero => intro _; simp
    | succ n ih =>
      intro hn
      obtain ⟨x, hx⟩ := get_some (xs := zs) (k := n) (by omega)
      have hx2 : zs.toArray[n]! = x := by
        rw [getElem!_pos zs.toArray n (by simp; omega)]
        obtain ⟨hl, e⟩ := List.getElem?_eq_some_iff.1 hx
        simpa using e
      rw [show (n + 1) * 2 = n * 2 + 1 + 1 by omega, List.range_succ, List.range_succ, List.map_append, List.map_append, ih (by omega), take_snoc hx]
      simp only [List.map_cons, List.map_nil, List.map_append, List.flatten_append, List.flatten_cons, List.flatten_nil, List.append_nil]
      rw [show n * 2 / 2 = n by omega, show (n * 2 + 1) / 2 = n by omega, show n * 2 % 2 = 0 by omega, show (n * 2 + 1) % 2 = 1 by omega, hx2]
      simp [encN]
  have h := key zs.length (Nat.le_refl _)
  rw [List.take_length] at h
  rw [← h]
  simp [flatK, Array.toList_range]
theorem rel_flat {S : Nat → Prop} {w : World} : ∀ {zs : List NV} {xs : List Value}, RelL S w (zs.map encNV).flatten xs → xs = (zs.map encN).flatten
  | [], xs, h => by simpa [RelL] using h
  | z :: zs, xs, h => by
    simp only [List.map_cons, List.flatten_cons, encNV, List.cons_append, List.nil_append, RelL, Rel] at h
    obtain ⟨_, us', rfl, rfl, _, us2, rfl, rfl, h⟩ := h
    rw [rel_flat h]; rfl
theorem flat_rel {S : Nat → Prop} {w : World} : ∀ {zs : List NV}, RelL S w (zs.map encNV).flatten (zs.map encN).flatten
  | [] => by simp [RelL]
  | z :: zs => by
    simp only [List.map_cons, List.flatten_cons, encNV, encN, List.cons_append, List.nil_append, RelL, Rel]
    exact ⟨_, _, rfl, rfl, _, _, rfl, rfl, flat_rel⟩
theorem flat_two (zs : List NV) : (zs.map encN).flatten.length = zs.length * 2 := by
  induction zs with
  | nil => rfl
  | cons z zs ih => simp only [List.map_cons, List.flatten_cons, List.length_append, ih, encN, List.length_cons, List.length_nil]; omega
theorem sort_raw (g n cap : Nat) (cur : Array Value) (zs : List NV) (w : World) (hg : w.heap[g]? = some (.cells cur 57 (0, 0))) (hn : n = zs.length) (hnc : n ≤ cap) (hsz : n ≤ 1048576) (hcs : cur.size = cap * 2) (hcur : cur.toList.take (n * 2) = (zs.map encN).flatten) :
    Calls Tryd.prog 31 #[.slice (some ⟨g, 0, none⟩) n cap, .func (.func 32) #[] #[]] w fun e w' => e = .returned (.tuple #[]) ∧ ∃ ds : List NV, ds.Perm zs ∧ ds.Pairwise (fun x y => Op.bytesLess y.name x.name = false) ∧
      ∃ cur' : Array Value, w'.heap[g]? = some (.cells cur' 57 (0, 0)) ∧ cur'.size = cap * 2 ∧ cur'.toList.take (n * 2) = (ds.map encN).flatten ∧ w.grownBy w' (some g) := by
  subst hn
  have hblk : g < w.heap.size := (Array.getElem?_eq_some_iff.1 hg).1
  have hH : HoldsK encN 2 w g 0 zs.toArray := by
    intro j hj
    rw [size_flatK] at hj
    have hj2 : j < zs.length * 2 := by simpa using hj
    have hlt : j < cur.size := by omega
    rw [Nat.zero_add]
    refine ⟨?_, (cells_some hg hlt).2⟩
    rw [(cells_some hg hlt).1]
    congr 1
    have h1 : (flatK encN 2 zs.toArray)[j]! = (flatK encN 2 zs.toArray).toList[j]! := by
      rw [getElem!_pos _ j (by simpa using hj2), getElem!_pos _ j (by simpa using hj2)]; simp
    rw [show id (flatK encN 2 zs.toArray)[j]! = (flatK encN 2 zs.toArray)[j]! from rfl, h1, flat_list, ← hcur]
    rw [getElem!_pos _ j (by simp; omega)]
    simp
  have eg : ∀ args w, (callFunc 32 args).run Tryd.prog w = .ok (.enter 32 args) w := enters_of Tryd.func32 (by kernel_rfl) rfl
  have hcon := AnyQ.slices_SortFunc Tryd.sortSet 2 Tryd.isAgg57 Tryd.sizeOf57 encN (fun _ => rfl) (fun x v hv => by simp only [encN, List.mem_cons, List.not_mem_nil, or_false] at hv; rcases hv with rfl | rfl <;> rfl) cfN swoN 32 #[] g 0 cap zs.toArray w eg (fun _ _ _ _ x y => cmpClo x y _) hH hblk (by simp; omega)
  change Calls Tryd.prog 31 _ _ _ at hcon
  rw [show zs.toArray.size = zs.length by simp] at hcon
  refine hcon.mono ?_
  rintro e w' ⟨rfl, d', q, os, hp, hs, rfl⟩
  have hdl : d'.size = zs.length := by simpa using hp.1
  have hperm : d'.toList.Perm zs := by
    have := hp.2.2
    rwa [show d'.extract 0 zs.length = d' by rw [← hdl]; simp, show zs.toArray.extract 0 zs.length = zs.toArray by simp] at this
  refine ⟨rfl, d'.toList, hperm, ?_, ?_⟩
  · rw [List.pairwise_iff_getElem]
    intro i j hi hj hij
    have hi' : i < d'.size := by simpa using hi
    have hj' : j < d'.size := by simpa using hj
    have := hs i j (Nat.zero_le _) hij (by omega)
    rw [lt_cfN, getElem!_pos d' i hi', getElem!_pos d' j hj'] at this
    simpa using this
  · have hrow := putRow_eq_setCells id w g 0 (flatK encN 2 zs.toArray) (flatK encN 2 d').toList q hH (by simp [hdl])
    rw [Array.toArray_toList, List.map_id] at hrow
    obtain ⟨cur', a1, a2, a3, a4⟩ := setCells_row g 57 (flatK encN 2 d').toList 0 (w.drewN q) cur hg (by simp; omega)
    have hw : sortWorldK encN 2 w g 0 q d' os = grow ((w.drewN q).setCells g 0 (flatK encN 2 d').toList) os := by
      unfold sortWorldK putRowK; rw [hrow]
    have hfl : (flatK encN 2 d').toList = (d'.toList.map encN).flatten := by have := flat_list d'.toList; rwa [Array.toArray_toList] at this
    rw [hw]
    have hold : ∀ k, k < ((w.drewN q).setCells g 0 (flatK encN 2 d').toList).heap.size → (grow ((w.drewN q).setCells g 0 (flatK encN 2 d').toList) os).heap[k]? = ((w.drewN q).setCells g 0 (flatK encN 2 d').toList).heap[k]? := fun k hk => by
      show (_ ++ os)[k]? = _
      rw [Array.getElem?_append_left hk]
    refine ⟨cur', (hold g (Nat.lt_of_lt_of_le hblk a4.size)).trans a1, by omega, ?_, ⟨a4.os, a4.tape, a4.output, ?_, fun k hk hne => (hold k (Nat.lt_of_lt_of_le hk a4.size)).trans (a4.block k hk hne)⟩⟩
    · rw [a3, List.take_zero, List.nil_append, hfl, List.take_append_of_le_length (by rw [flat_two]; simp; omega), List.take_of_length_le (by rw [flat_two]; simp; omega)]
    · refine Nat.le_trans a4.size ?_
      show _ ≤ (_ ++ os).size
      rw [Array.size_append]; omega
/-- What is sorted, as a thing of one's own. -/
theorem sortN_c {zs ys : List NV} (hne : zs ≠ []) (hl : zs.length ≤ 1048576) (hys : ∀ ds : List NV, ds.Perm zs → ds.Pairwise (fun x y => Op.bytesLess y.name x.name = false) → ds = ys) :
    FnE (α := Unit) Tryd.prog 31 [.h 0, .p (.clo 32 [])] [(0, .vec 57 2 (zs.map encNV))] [0] (fun _ => True) (fun _ => .tup []) (fun _ => [(0, .vec 57 2 (ys.map encNV))]) := by
  intro w0 F0 η φ w us hk hrel
  simp only [ARelL, ARel, RelL, Rel] at hrel
  obtain ⟨_, _, rfl, rfl, _, _, rfl, ⟨us9, rfl, he9⟩, rfl⟩ := hrel
  obtain rfl : us9 = #[] := by simpa [ARelL] using he9
  obtain ⟨xs, h1, h2, h3, h4⟩ := hk.res 0 _ rfl
  obtain ⟨hl3, h3⟩ := h3
  rw [List.length_map] at h3 hl3
  rcases h3 with ⟨_, hn0⟩ | ⟨g, cap, cur, e0, _, hg, hnc, hcm, hcs, htk⟩
  · exact absurd (List.length_eq_zero_iff.1 hn0) hne
  have hxs := rel_flat h1
  rw [e0]
  refine (sort_raw g zs.length cap cur zs w hg rfl hnc hl hcs (by rw [htk, hxs])).mono ?_
  rintro e w' ⟨rfl, ds, hp, hs, cur', a1, a2, a3, a4⟩
  obtain rfl := hys ds hp hs
  have hdl := hp.length_eq
  obtain ⟨b1, b2, b3⟩ := vec_inplace (rows' := ds.map encNV) hk e0 (by rw [h4, e0]; rfl) a4 a1 a2 hcm (fun r hr => by obtain ⟨x, _, rfl⟩ := List.mem_map.1 hr; rfl) (by rw [List.length_map]; omega) (by rw [List.length_map, hdl]; exact a3) (by rw [flat_two, List.length_map]) flat_rel
  refine ⟨(), trivial, _, _, φ, rfl, b1, ?_, ?_, b2, b3⟩
  · simp [ARel, ARelL]
  · intro i hi
    rw [List.mem_singleton] at hi
    subst hi
    simp only [if_true, List.length_map]
    rw [e0, hdl]
end Go.Proofs.YtmnmaakaneaiaaaDoor
/- Changes applied to a state. -/
set_option linter.all false
namespace Go.V
open Go
def okChg (c : Chg) : Bool := (decide (1 ≤ c.kind) && decide (c.kind ≤ 2)) && okSetting c.set
/-- The changes, one by one. -/
def applyA : List Chg → List NV → List NV × Int
  | [], ms => (ms, 0)
  | c :: cs, ms =>
    if c.kind = 1 then (if (setL ms c.set).length > 24 then ([], 5) else applyA cs (setL ms c.set))
    else if idxOf (nameIs c.set.name) ms < 0 then ([], 3)
    else if ms[(idxOf (nameIs c.set.name) ms).toNat]? = some c.set then applyA cs (ms.eraseIdx (idxOf (nameIs c.set.name) ms).toNat) else ([], 6)
def applyC (ms : List NV) (cs : List Chg) : List NV × Int := if okState ms = true ∧ cs.all okChg = true then applyA cs ms else ([], 1)
structure AJ (ms0 : List NV) (cs : List Chg) (k : Nat) (ms : List NV) : Prop where
  le : k ≤ cs.length
  rise : Rises (namesOf ms)
  len : ms.length ≤ 24
  names : ∀ x ∈ ms, x.name.length ≤ 1048576
  run : applyA (cs.drop k) ms = applyA cs ms0
section
variable {ms0 ms : List NV} {cs : List Chg} {k n : Nat} {c : Chg}
theorem AJ.start (h : okState ms0 = true) (hs : ∀ x ∈ ms0, x.name.length ≤ 1048576) : AJ ms0 cs 0 ms0 := ⟨Nat.zero_le _, state_rises h, state_len h, hs, rfl⟩
theorem AJ.fin (h : AJ ms0 cs cs.length ms) : applyA cs ms0 = (ms, 0) := by have := h.run; rw [List.drop_length] at this; exact this.symm
theorem drop_at (hc : cs[k]? = some c) : cs.drop k = c :: cs.drop (k + 1) := by
  have hl := lt_of_get hc
  rw [List.drop_eq_getElem_cons hl]
  rw [List.getElem?_eq_getElem hl] at hc
  rw [Option.some.inj hc]
theorem AJ.step (h : AJ ms0 cs k ms) (hc : cs[k]? = some c) : applyA cs ms0 = applyA (c :: cs.drop (k + 1)) ms := by rw [← drop_at hc]; exact h.run.symm
theorem setL_mem {xs : List NV} {e : NV} : ∀ x ∈ setL xs e, x = e ∨ x ∈ xs := by
  intro x hx
  unfold setL at hx
  rcases List.mem_append.1 hx with h | h
  · exact .inr (List.mem_filter.1 h).1
  · rcases List.mem_cons.1 h with h | h
    · exact .inl h
    · exact .inr (List.mem_filter.1 h).1
theorem AJ.set (h : AJ ms0 cs k ms) (hc : cs[k]? = some c) (hk : c.kind = 1) (hl : ¬ (setL ms c.set).length > 24) (hs : c.set.name.length ≤ 1048576) : AJ ms0 cs (k + 1) (setL ms c.set) := by
  refine ⟨lt_of_get hc, setL_rises h.rise, by omega, fun x hx => ?_, ?_⟩
  · rcases setL_mem x hx with e | e
    · rw [e]; exact hs
    · exact h.names x e
  · rw [h.step hc]; simp only [applyA, if_pos hk, if_neg hl]
theorem AJ.full (h : AJ ms0 cs k ms) (hc : cs[k]? = some c) (hk : c.kind = 1) (hl : (setL ms c.set).length > 24) : applyA cs ms0 = ([], 5) := by
  rw [h.step hc]; simp only [applyA, if_pos hk, if_pos hl]
theorem AJ.miss (h : AJ ms0 cs k ms) (hc : cs[k]? = some c) (hk : ¬ c.kind = 1) (hi : idxOf (nameIs c.set.name) ms < 0) : applyA cs ms0 = ([], 3) := by
  rw [h.step hc]; simp only [applyA, if_neg hk, if_pos hi]
theorem AJ.other (h : AJ ms0 cs k ms) (hc : cs[k]? = some c) (hk : ¬ c.kind = 1) (hi : idxOf (nameIs c.set.name) ms = (n : Int)) {y : NV} (hy : ms[n]? = some y) (hne : ¬ y = c.set) : applyA cs ms0 = ([], 6) := by
  rw [h.step hc]; simp only [applyA, if_neg hk, hi, Int.toNat_natCast, hy]
  rw [if_neg (by omega), if_neg (fun e => hne (Option.some.inj e))]
theorem AJ.del (h : AJ ms0 cs k ms) (hc : cs[k]? = some c) (hk : ¬ c.kind = 1) (hi : idxOf (nameIs c.set.name) ms = (n : Int)) {y : NV} (hy : ms[n]? = some y) (he : y = c.set) : AJ ms0 cs (k + 1) (ms.eraseIdx n) := by
  have hs := List.eraseIdx_sublist ms n
  refine ⟨lt_of_get hc, h.rise.sublist (hs.map NV.name), Nat.le_trans hs.length_le h.len, fun x hx => h.names x (hs.subset hx), ?_⟩
  rw [h.step hc]; simp only [applyA, if_neg hk, hi, Int.toNat_natCast, hy]
  rw [if_neg (by omega), if_pos (by rw [he])]
end
section
variable {ms : List NV} {e y : NV} {n : Nat}
theorem idx_at9 (h : 0 ≤ idxOf (nameIs e.name) ms) : ∃ (n : Nat) (y : NV), idxOf (nameIs e.name) ms = (n : Int) ∧ ms[n]? = some y ∧ y.name = e.name := by
  unfold idxOf at h ⊢
  cases hf : ms.findIdx? (nameIs e.name) with
  | none => rw [hf] at h; simp at h
  | some i =>
    obtain ⟨hlt, hp, _⟩ := List.findIdx?_eq_some_iff_getElem.1 hf
    exact ⟨i, ms[i], rfl, List.getElem?_eq_getElem hlt, by simpa [nameIs] using hp⟩
/-- What is set where it stands. -/
theorem set_at9 (hr : Rises (namesOf ms)) (hy : ms[n]? = some y) (hn : y.name = e.name) : ms.set n e = setL ms e := by
  have hl := lt_of_get hy
  have hd : ms = ms.take n ++ y :: ms.drop (n + 1) := by
    have h1 := List.take_append_drop n ms
    rw [List.drop_eq_getElem_cons hl] at h1
    rw [List.getElem?_eq_getElem hl] at hy
    rw [Option.some.inj hy] at h1
    exact h1.symm
  have hlo : ∀ x ∈ ms.take n, Op.bytesLess x.name e.name = true := by
    intro x hx
    obtain ⟨i, hi⟩ := List.getElem?_of_mem hx
    have hil := lt_of_get hi
    rw [List.length_take] at hil
    rw [List.getElem?_take_of_lt (by omega)] at hi
    rw [← hn]; exact rises_at hr (by omega) hi hy
  have hhi : ∀ x ∈ ms.drop (n + 1), Op.bytesLess e.name x.name = true := by
    intro x hx
    obtain ⟨i, hi⟩ := List.getElem?_of_mem hx
    rw [List.getElem?_drop] at hi
    rw [← hn]; exact rises_at hr (by omega) hy hi
  have hset : ms.set n e = ms.take n ++ e :: ms.drop (n + 1) := List.set_eq_take_append_cons_drop.trans (if_pos hl)
  have f1 : ms.filter (fun x => Op.bytesLess x.name e.name) = ms.take n := by
    conv => lhs; rw [hd]
    rw [List.filter_append, List.filter_cons_of_neg (by rw [hn, bytesLess_irrefl]; decide), List.filter_eq_self.2 (fun x hx => hlo x hx), List.filter_eq_nil_iff.2 (fun x hx => by rw [bytesLess_asymm (hhi x hx)]; decide), List.append_nil]
  have f2 : ms.filter (fun x => Op.bytesLess e.name x.name) = ms.drop (n + 1) := by
    conv => lhs; rw [hd]
    rw [List.filter_append, List.filter_cons_of_neg (by rw [hn, bytesLess_irrefl]; decide), List.filter_eq_self.2 (fun x hx => hhi x hx), List.filter_eq_nil_iff.2 (fun x hx => by rw [bytesLess_asymm (hlo x hx)]; decide), List.nil_append]
  rw [hset]; unfold setL; rw [f1, f2]
theorem none_names (h : idxOf (nameIs e.name) ms < 0) : ∀ x ∈ ms, ¬ x.name = e.name := fun x hx => by
  have := idx_none h x hx; simpa [nameIs] using this
theorem setL_perm (h : ∀ x ∈ ms, ¬ x.name = e.name) : (setL ms e).Perm (ms ++ [e]) := by
  have hf : ms.filter (fun x => Op.bytesLess e.name x.name) = ms.filter (fun x => !Op.bytesLess x.name e.name) := by
    apply List.filter_congr
    intro x hx
    cases h1 : Op.bytesLess x.name e.name with
    | true => rw [bytesLess_asymm h1]; rfl
    | false =>
      cases h2 : Op.bytesLess e.name x.name with
      | true => rfl
      | false => exact absurd (bytesLess_tri h1 h2) (h x hx)
  unfold setL
  rw [hf]
  refine List.perm_middle.trans ?_
  exact (List.Perm.cons e (List.filter_append_perm _ _)).trans (List.perm_append_singleton e ms).symm
theorem setL_new (h : idxOf (nameIs e.name) ms < 0) : (setL ms e).length = ms.length + 1 := by
  rw [(setL_perm (none_names h)).length_eq]; simp
theorem setL_old (hr : Rises (namesOf ms)) (hy : ms[n]? = some y) (hn : y.name = e.name) : (setL ms e).length = ms.length := by
  rw [← set_at9 hr hy hn, List.length_set]
/-- What is sorted behind an addition. -/
theorem sort_new (hr : Rises (namesOf ms)) (h : idxOf (nameIs e.name) ms < 0) : ∀ ds : List NV, ds.Perm (ms ++ [e]) → ds.Pairwise (fun x y => Op.bytesLess y.name x.name = false) → ds = setL ms e := by
  intro ds hp hs
  have hp2 : ds.Perm (setL ms e) := hp.trans (setL_perm (none_names h)).symm
  have hnd : (namesOf (setL ms e)).Nodup := (setL_rises hr).imp (fun {a b} hab e9 => by subst e9; rw [bytesLess_irrefl] at hab; cases hab)
  have hnd2 : (namesOf ds).Nodup := ((hp2.map NV.name).nodup_iff).2 hnd
  have hrd : ds.Pairwise (fun x y => Op.bytesLess x.name y.name = true) := by
    have h1 : ds.Pairwise (fun x y => x.name ≠ y.name) := List.pairwise_map.1 hnd2
    have h2 := List.Pairwise.and hs h1
    refine h2.imp (fun {a b} hab => ?_)
    cases h3 : Op.bytesLess a.name b.name with
    | true => rfl
    | false => exact absurd (bytesLess_tri h3 hab.1) hab.2
  have hrs : (setL ms e).Pairwise (fun x y => Op.bytesLess x.name y.name = true) := List.pairwise_map.1 (setL_rises hr)
  exact hp2.eq_of_pairwise (fun a b _ _ h1 h2 => by rw [bytesLess_asymm h1] at h2; cases h2) hrd hrs
end
end Go.V
namespace Go.V
open Go
def tChg : Ty := .struct [.int .i64, tNV]
theorem hasChg {l : List PV} (h : tChg.Has l) : ∃ x : Chg, l = encChg x ∧ ((x.set.name.length ≤ 9223372036854775807) ∧ True) := by
  simp only [tChg, Ty.Has] at h
  obtain ⟨_, _, rfl, h1, h⟩ := hasL_cons h
  obtain ⟨_, _, rfl, h2, h⟩ := hasL_cons h
  obtain rfl := hasL_nil h
  obtain ⟨a, rfl, w1⟩ := has_int h1
  obtain ⟨b, rfl, w2⟩ := hasNV h2
  exact ⟨⟨a, b⟩, by simp [encChg, encNV], w2.1, trivial⟩
end Go.V
namespace Go.V
theorem applyA_len : ∀ (cs : List Chg) (ms : List NV), (applyA cs ms).1.length ≤ ms.length + cs.length
  | [], ms => by simp [applyA]
  | c :: cs, ms => by
    simp only [applyA]
    split
    · split
      · simp
      · have h1 := applyA_len cs (setL ms c.set)
        have h2 := setL_len (xs := ms) (e := c.set)
        rw [List.length_cons]; omega
    · split
      · simp
      · split
        · have h1 := applyA_len cs (ms.eraseIdx (idxOf (nameIs c.set.name) ms).toNat)
          have h2 := (List.eraseIdx_sublist ms (idxOf (nameIs c.set.name) ms).toNat).length_le
          rw [List.length_cons]; omega
        · simp
theorem applyC_len (ms : List NV) (cs : List Chg) : (applyC ms cs).1.length ≤ ms.length + cs.length := by
  unfold applyC; split
  · exact applyA_len cs ms
  · simp
end Go.V
/- Contracts of functions of the program, each by a walk of its text in the calculus V. -/
set_option linter.all false
set_option linter.unusedSimpArgs false
set_option linter.unnecessarySimpa false
set_option linter.unusedVariables false
namespace Go.Proofs.YtmnmaakaneaiaaaDoor
open Go Go.V

theorem indexFuncChange_c {xs : List Chg} {f : FuncId} {caps : List PV} {p : Chg → Bool} (hn : xs.length ≤ 1048576) (hf : Enters Tryd.prog f) (hp : ∀ x ∈ xs, Pure Tryd.prog f (.agg (encChg x) :: caps) (.v (.bool (p x)))) :
    Pure Tryd.prog 55 [.sl 3 (xs.map encChg), .clo f caps] (.v (.int .i64 (idxOf p xs))) := by
  refine Pure.intro Tryd.func55 rfl Tryd.ntmps55 rfl rfl (fun w => ?_)
  refine AC.seq ?_
  refine AC.region ?_
  refine AO.yld _ (Yld.assign rfl) rfl rfl rfl ?_
  refine AO.nil ?_
  refine AC.seq ?_
  refine AC.seq ?_
  refine AC.region ?_
  refine AO.yld _ (Yld.move rfl) rfl rfl rfl ?_
  refine AO.yld _ (Yld.len Tryd.underlying29 rfl rfl) rfl rfl rfl ?_
  refine AO.yld _ (Yld.move rfl) rfl rfl rfl ?_
  refine AO.nil ?_
  refine AC.block ?_
  refine AC.loopC [(0, _), (1, _), (7, _)] [] (fun (k : Nat) => [(8, .p (.v (.int .i64 (k : Int))))]) (fun (k : Nat) => []) (fun (k : Nat) => k ≤ xs.length ∧ anyTo p xs k = false) (fun (k : Nat) => xs.length - k) 0 ⟨rfl, rfl, rfl, trivial⟩ trivial ⟨rfl, trivial⟩ trivial ?_ (fun k hJ => ?_)
  · exact ⟨Nat.zero_le _, rfl⟩
  · -- round
    refine AC.seq ?_
    refine AC.region ?_
    refine AO.yld _ (Yld.int rfl rfl rfl) rfl rfl rfl ?_
    refine AO.nil ?_
    refine AC.seq ?_
    refine AC.cond _ rfl (fun c9 => ?_) (fun c9 => ?_)
    · -- c9 True
      have hk := lt_of_decM c9
      obtain ⟨x, hx⟩ := get_some hk
      have hrow := map_row (enc := encChg) hx
      refine AC.skip ?_
      refine AC.seq ?_
      refine AC.block ?_
      refine AC.seq ?_
      refine AC.region ?_
      refine AO.yld _ (Yld.move rfl) rfl rfl rfl ?_
      refine AO.yld _ (Yld.assign rfl) rfl rfl rfl ?_
      refine AO.nil ?_
      refine AC.seq ?_
      refine AC.region ?_
      refine AO.yld _ (Yld.move rfl) rfl rfl rfl ?_
      refine AO.yld _ (Yld.move rfl) rfl rfl rfl ?_
      refine AO.yld _ (Yld.move rfl) rfl rfl rfl ?_
      refine AO.yld _ (Yld.indexSl Tryd.underlying29 Tryd.sizeOf60 rfl rfl hrow rfl) rfl rfl rfl ?_
      refine AO.yld _ (Yld.loadAgg Tryd.isAgg60 Tryd.sizeOf60 rfl rfl rfl rfl) rfl rfl rfl ?_
      refine AO.yld _ (Yld.call rfl rfl hf rfl rfl (viewL_p _) (hp x (List.mem_of_getElem? hx)) rfl) rfl rfl rfl ?_
      refine AO.nil ?_
      refine AC.cond _ rfl (fun c16 => ?_) (fun c16 => ?_)
      · -- c16 True
        refine AC.seq ?_
        refine AC.region ?_
        refine AO.yld _ (Yld.move rfl) rfl rfl rfl ?_
        refine AO.yld _ (Yld.assign rfl) rfl rfl rfl ?_
        refine AO.nil ?_
        refine Pure.ret Tryd.results55 (RVs.cons (RV.tmp rfl) RVs.nil) rfl ?_
        first
          | exact ci (idx_hit hJ.2 hx (by simpa using c16))
          | exact ci (idx_miss hJ.2)
      · -- c16 False
        refine AC.skip ?_
        refine AC.mark ?_
        refine AC.region ?_
        refine AO.yld _ (Yld.add rfl rfl (by omega) (by omega)) rfl rfl rfl ?_
        refine AO.yld _ (Yld.move rfl) rfl rfl rfl ?_
        refine AO.nil ?_
        refine AC.back ⟨k + 1, ?_, ?_, ⟨?_, trivial⟩, trivial, ⟨rfl, rfl, rfl, trivial⟩, trivial⟩
        · exact ⟨hk, by rw [anyTo_succ hx, hJ.2]; simpa using c16⟩
        · omega
        · rfl
    · -- c9 False
      obtain rfl : k = xs.length := by have := ge_of_decM c9; omega
      refine AC.exit rfl ?_
      refine AC.seq ?_
      refine AC.region ?_
      refine AO.yld _ (Yld.assign rfl) rfl rfl rfl ?_
      refine AO.nil ?_
      refine Pure.ret Tryd.results55 (RVs.cons (RV.tmp rfl) RVs.nil) rfl ?_
      first
        | exact ci (idx_hit hJ.2 hx (by simpa using c16))
        | exact ci (idx_miss hJ.2)

theorem containsFuncChange_c {xs : List Chg} {f : FuncId} {caps : List PV} {p : Chg → Bool} (hn : xs.length ≤ 1048576) (hf : Enters Tryd.prog f) (hp : ∀ x ∈ xs, Pure Tryd.prog f (.agg (encChg x) :: caps) (.v (.bool (p x)))) :
    Pure Tryd.prog 27 [.sl 3 (xs.map encChg), .clo f caps] (.v (.bool (xs.any p))) := by
  refine Pure.intro Tryd.func27 rfl Tryd.ntmps27 rfl rfl (fun w => ?_)
  refine AC.seq ?_
  refine AC.region ?_
  refine AO.yld _ (Yld.assign rfl) rfl rfl rfl ?_
  refine AO.nil ?_
  refine AC.seq ?_
  refine AC.region ?_
  refine AO.yld _ (Yld.move rfl) rfl rfl rfl ?_
  refine AO.yld _ (Yld.move rfl) rfl rfl rfl ?_
  refine AO.yld _ (Yld.call rfl rfl Tryd.call55 rfl rfl rfl (indexFuncChange_c (by first | assumption | omega) hf hp) rfl) rfl rfl rfl ?_
  refine AO.yld _ (Yld.int rfl rfl rfl) rfl rfl rfl ?_
  refine AO.yld _ (Yld.assign rfl) rfl rfl rfl ?_
  refine AO.nil ?_
  refine Pure.ret Tryd.results27 (RVs.cons (RV.tmp rfl) RVs.nil) rfl ?_
  exact cb idx_any.symm

theorem applyChanges1_c {c : Chg} (hs : c.set.name.length ≤ 1048576) :
    Pure Tryd.prog 28 [.agg (encChg c)] (.v (.bool (!okChg c))) := by
  refine Pure.intro Tryd.func28 rfl Tryd.ntmps28 rfl rfl (fun w => ?_)
  refine AC.seq ?_
  refine AC.region ?_
  refine AO.box 0 rfl rfl rfl rfl rfl ?_
  refine AO.yld _ (Yld.assign rfl) rfl rfl rfl ?_
  refine AO.nil ?_
  refine AC.seq ?_
  refine AC.region ?_
  refine AO.yld _ (Yld.fieldAddr Tryd.underlying60 rfl rfl Tryd.sizeOf2 rfl rfl rfl) rfl rfl rfl ?_
  refine AO.yld _ (Yld.load Tryd.isAgg2 rfl rfl) rfl rfl rfl ?_
  refine AO.yld _ (Yld.int rfl rfl rfl) rfl rfl rfl ?_
  refine AO.yld _ (Yld.move rfl) rfl rfl rfl ?_
  refine AO.splitAt 6 _ rfl (fun s6 => ?_) (fun s6 => ?_)
  · -- s6 True
    refine AO.yldG _ (Yld.fieldAddr Tryd.underlying60 rfl rfl Tryd.sizeOf2 rfl rfl rfl) rfl rfl rfl rfl rfl ?_
    refine AO.yldG _ (Yld.load Tryd.isAgg2 rfl rfl) rfl rfl rfl rfl rfl ?_
    refine AO.yldG _ (Yld.int rfl rfl rfl) rfl rfl rfl rfl rfl ?_
    refine AO.yld _ (Yld.pickT rfl rfl) rfl rfl rfl ?_
    refine AO.yld _ (Yld.move rfl) rfl rfl rfl ?_
    refine AO.splitAt 11 _ rfl (fun s11 => ?_) (fun s11 => ?_)
    · -- s11 True
      refine AO.skipF rfl rfl rfl rfl rfl ?_
      refine AO.skipF rfl rfl rfl rfl rfl ?_
      refine AO.skipF rfl rfl rfl rfl rfl ?_
      refine AO.skipF rfl rfl rfl rfl rfl ?_
      refine AO.yld _ (Yld.pickT rfl rfl) rfl rfl rfl ?_
      refine AO.yld _ (Yld.assign rfl) rfl rfl rfl ?_
      refine AO.nil ?_
      refine Pure.ret Tryd.results28 (RVs.cons (RV.tmp rfl) RVs.nil) rfl ?_
      first | (simp_all [okChg]; done) | (simp_all [okChg]; omega) | grind [okChg]
    · -- s11 False
      refine AO.yldG _ (Yld.fieldAddr Tryd.underlying60 rfl rfl Tryd.sizeOf57 rfl rfl rfl) rfl rfl rfl rfl rfl ?_
      refine AO.yldG _ (Yld.loadAgg Tryd.isAgg57 Tryd.sizeOf57 rfl rfl rfl rfl) rfl rfl rfl rfl rfl ?_
      refine AO.yldG _ (Yld.call rfl rfl Tryd.call29 rfl rfl rfl (impl_validSetting_c (by first | assumption | omega)) rfl) rfl rfl rfl rfl rfl ?_
      refine AO.yldG _ (Yld.not rfl) rfl rfl rfl rfl rfl ?_
      refine AO.yld _ (Yld.pickF rfl rfl) rfl rfl rfl ?_
      refine AO.yld _ (Yld.assign rfl) rfl rfl rfl ?_
      refine AO.nil ?_
      refine Pure.ret Tryd.results28 (RVs.cons (RV.tmp rfl) RVs.nil) rfl ?_
      first | (simp_all [okChg]; done) | (simp_all [okChg]; omega) | grind [okChg]
  · -- s6 False
    refine AO.skipT rfl rfl rfl rfl rfl ?_
    refine AO.skipT rfl rfl rfl rfl rfl ?_
    refine AO.skipT rfl rfl rfl rfl rfl ?_
    refine AO.yld _ (Yld.pickF rfl rfl) rfl rfl rfl ?_
    refine AO.yld _ (Yld.move rfl) rfl rfl rfl ?_
    refine AO.yldG _ (Yld.fieldAddr Tryd.underlying60 rfl rfl Tryd.sizeOf57 rfl rfl rfl) rfl rfl rfl rfl rfl ?_
    refine AO.yldG _ (Yld.loadAgg Tryd.isAgg57 Tryd.sizeOf57 rfl rfl rfl rfl) rfl rfl rfl rfl rfl ?_
    refine AO.yldG _ (Yld.call rfl rfl Tryd.call29 rfl rfl rfl (impl_validSetting_c (by first | assumption | omega)) rfl) rfl rfl rfl rfl rfl ?_
    refine AO.yldG _ (Yld.not rfl) rfl rfl rfl rfl rfl ?_
    refine AO.yld _ (Yld.pickF rfl rfl) rfl rfl rfl ?_
    refine AO.yld _ (Yld.assign rfl) rfl rfl rfl ?_
    refine AO.nil ?_
    refine Pure.ret Tryd.results28 (RVs.cons (RV.tmp rfl) RVs.nil) rfl ?_
    first | (simp_all [okChg]; done) | (simp_all [okChg]; omega) | grind [okChg]

theorem sortA_c {ms : List NV} {e : NV} (hl : ms.length ≤ 1048000) (hr : Rises (namesOf ms)) (hi : idxOf (nameIs e.name) ms < 0) :
    FnE (α := Unit) Tryd.prog 31 [.h 0, .p (.clo 32 [])] [(0, .vec 57 2 (ms.map encNV ++ [encNV e]))] [0] (fun _ => True) (fun _ => .tup []) (fun _ => [(0, .vec 57 2 ((setL ms e).map encNV))]) := by
  have h9 := sortN_c (zs := ms ++ [e]) (ys := setL ms e) (by simp) (by simp; omega) (sort_new hr hi)
  rw [List.map_append] at h9
  exact h9

set_option maxHeartbeats 4000000 in
theorem impl_ApplyChanges_c {xs : List NV} {cs : List Chg} (hn : xs.length ≤ 1048576) (hs : ∀ x ∈ xs, x.name.length ≤ 1048576) (hm : cs.length ≤ 1048576) (hcs : ∀ c ∈ cs, c.set.name.length ≤ 1048576) :
    FnE (α := Unit) Tryd.prog 9 [.p (.sl 2 (xs.map encNV)), .p (.sl 3 (cs.map encChg))] [] [] (fun _ => True) (fun _ => .tup [.h 0, .p (.v (.int .i64 (applyC xs cs).2))]) (fun _ => [(0, .vec 57 2 ((applyC xs cs).1.map encNV))]) := by
  have hC : (cs.map encChg).length = cs.length := List.length_map ..
  refine FnE.intro Tryd.func9 rfl Tryd.ntmps9 rfl rfl (fun w0 F0 η φ w => ?_)
  refine AC.seq ?_
  refine AC.region ?_
  refine AO.yld _ (Yld.assign rfl) rfl rfl rfl ?_
  refine AO.yld _ (Yld.assign rfl) rfl rfl rfl ?_
  refine AO.nil ?_
  refine AC.seq ?_
  refine AC.seq ?_
  refine AC.region ?_
  refine AO.yld _ (Yld.move rfl) rfl rfl rfl ?_
  refine AO.yld _ (Yld.call rfl rfl Tryd.call24 rfl rfl rfl (impl_ValidState_c hn hs) rfl) rfl rfl rfl ?_
  refine AO.yld _ (Yld.not rfl) rfl rfl rfl ?_
  refine AO.yld _ (Yld.move rfl) rfl rfl rfl ?_
  refine AO.splitAt 13 _ rfl (fun s13 => ?_) (fun s13 => ?_)
  · -- s13 True
    have hok : ¬ okState xs = true := by simpa using s13
    have hres : applyC xs cs = ([], 1) := if_neg (fun h => hok h.1)
    refine AO.skipF rfl rfl rfl rfl rfl ?_
    refine AO.skipF rfl rfl rfl rfl rfl ?_
    refine AO.yld _ (Yld.pickT rfl rfl) rfl rfl rfl ?_
    refine AO.nil ?_
    refine AC.condT rfl ?_
    refine AC.seq ?_
    refine AC.region ?_
    refine AO.yld _ (Yld.assign rfl) rfl rfl rfl ?_
    refine AO.yld _ (Yld.assign rfl) rfl rfl rfl ?_
    refine AO.nil ?_
    refine AC.nilVec 4 0 57 2 rfl rfl ?_
    refine FnE.ret () [0] [0] Tryd.results9 (RVs.cons (RV.tmp rfl) (RVs.cons (RV.tmp rfl) RVs.nil)) rfl rfl rfl ?_ ?_ ⟨⟨_, rfl, ?_⟩, trivial⟩
    · -- holds
      trivial
    · -- value
      first | (rw [hres]; rfl) | (rw [hres])
    · -- thing 0
      first | (rw [hres]; rfl) | (rw [hres])
  · -- s13 False
    have hok : okState xs = true := by simpa using s13
    refine AO.yldG _ (Yld.move rfl) rfl rfl rfl rfl rfl ?_
    refine AO.yldG _ (Yld.call rfl rfl Tryd.call27 rfl rfl rfl (containsFuncChange_c (p := fun c => !okChg c) (by omega) Tryd.call28 (fun c hc => applyChanges1_c (hcs c hc))) rfl) rfl rfl rfl rfl rfl ?_
    refine AO.yld _ (Yld.pickF rfl rfl) rfl rfl rfl ?_
    refine AO.nil ?_
    refine AC.cond _ rfl (fun c16 => ?_) (fun c16 => ?_)
    · -- c16 True
      have hres : applyC xs cs = ([], 1) := if_neg (fun h => by obtain ⟨c, hc, h9⟩ := List.any_eq_true.1 c16; rw [List.all_eq_true.1 h.2 c hc] at h9; cases h9)
      refine AC.seq ?_
      refine AC.region ?_
      refine AO.yld _ (Yld.assign rfl) rfl rfl rfl ?_
      refine AO.yld _ (Yld.assign rfl) rfl rfl rfl ?_
      refine AO.nil ?_
      refine AC.nilVec 4 0 57 2 rfl rfl ?_
      refine FnE.ret () [0] [0] Tryd.results9 (RVs.cons (RV.tmp rfl) (RVs.cons (RV.tmp rfl) RVs.nil)) rfl rfl rfl ?_ ?_ ⟨⟨_, rfl, ?_⟩, trivial⟩
      · -- holds
        trivial
      · -- value
        first | (rw [hres]; rfl) | (rw [hres])
      · -- thing 0
        first | (rw [hres]; rfl) | (rw [hres])
    · -- c16 False
      have hall : cs.all okChg = true := List.all_eq_true.2 (fun c hc => by have h9 := List.any_eq_false.1 c16 c hc; simpa using h9)
      have hap : applyC xs cs = applyA cs xs := if_pos ⟨hok, hall⟩
      refine AC.skip ?_
      refine AC.seq ?_
      refine AC.region ?_
      refine AO.yld _ (Yld.move rfl) rfl rfl rfl ?_
      refine AO.callW (wantedN rfl) [0] [] [0] rfl rfl Tryd.call30 rfl (cloneSetting_c (by first | assumption | omega)) (.flat (.view rfl rfl .nil) (fun _ => by simp [AV.Flat, AV.FlatL, PV.Flat, PV.FlatL]) (fun _ => ⟨flat_map flatNV _, trivial⟩)) rfl (fun _ => rfl) trivial rfl (fun _ => rfl) (fun _ => rfl) (fun _ _ => ?_)
      refine AO.yld _ (Yld.assign rfl) rfl rfl rfl ?_
      refine AO.nil ?_
      refine AC.seq ?_
      refine AC.seq ?_
      refine AC.region ?_
      refine AO.yld _ (Yld.move rfl) rfl rfl rfl ?_
      refine AO.yld _ (Yld.len Tryd.underlying29 rfl rfl) rfl rfl rfl ?_
      refine AO.yld _ (Yld.move rfl) rfl rfl rfl ?_
      refine AO.nil ?_
      refine AC.block ?_
      refine AC.loopC2 [(19, _), (20, _)] [(900, _)] (fun (k : Nat) (ms : List NV) => [(21, .p (.v (.int .i64 (k : Int)))), (6, .h 0)]) (fun (k : Nat) (ms : List NV) => [(0, .vec 57 2 (ms.map encNV))]) (fun (k : Nat) (ms : List NV) => AJ xs cs k ms) (fun (k : Nat) (ms : List NV) => cs.length - k) 0 xs ⟨rfl, rfl, trivial⟩ ⟨rfl, trivial⟩ ⟨rfl, rfl, trivial⟩ ⟨rfl, trivial⟩ ?_ (fun k ms hJ => ?_)
      · exact AJ.start hok hs
      · -- round
        have hJl := hJ.le
        have hJn := hJ.len
        refine AC.seq ?_
        refine AC.region ?_
        refine AO.yld _ (Yld.int rfl rfl rfl) rfl rfl rfl ?_
        refine AO.nil ?_
        refine AC.seq ?_
        refine AC.cond _ rfl (fun c22 => ?_) (fun c22 => ?_)
        · -- c22 True
          have hk : k < cs.length := by have h := c22; rw [hC] at h; simpa using h
          obtain ⟨c, hc⟩ := get_some hk
          have hrow := map_row (enc := encChg) hc
          have hokc := List.all_eq_true.1 hall c (List.mem_of_getElem? hc)
          have hcn := hcs c (List.mem_of_getElem? hc)
          refine AC.skip ?_
          refine AC.seq ?_
          refine AC.block ?_
          refine AC.seq ?_
          refine AC.region ?_
          refine AO.yld _ (Yld.indexSl Tryd.underlying29 Tryd.sizeOf60 rfl rfl hrow rfl) rfl rfl rfl ?_
          refine AO.yld _ (Yld.loadAgg Tryd.isAgg60 Tryd.sizeOf60 rfl rfl rfl rfl) rfl rfl rfl ?_
          refine AO.alloc 1 Tryd.zeroValue60 rfl rfl rfl ?_
          refine AO.store Tryd.sizeOf60 rfl rfl rfl rfl rfl rfl ?_
          refine AO.nil ?_
          refine AC.seq ?_
          refine AC.region ?_
          refine AO.yld _ (Yld.move rfl) rfl rfl rfl ?_
          refine AO.yld _ (Yld.fieldAddr Tryd.underlying60 rfl rfl Tryd.sizeOf57 rfl rfl rfl) rfl rfl rfl ?_
          refine AO.yld _ (Yld.fieldAddr Tryd.underlying57 rfl rfl Tryd.sizeOf9 rfl rfl rfl) rfl rfl rfl ?_
          refine AO.yld _ (Yld.load Tryd.isAgg9 rfl rfl) rfl rfl rfl ?_
          refine AO.yld _ (Yld.call rfl rfl Tryd.call25 rfl rfl rfl (impl_settingIndex_c (by omega)) rfl) rfl rfl rfl ?_
          refine AO.yld _ (Yld.assign rfl) rfl rfl rfl ?_
          refine AO.nil ?_
          refine AC.block ?_
          refine AC.seq ?_
          refine AC.region ?_
          refine AO.yld _ (Yld.fieldAddr Tryd.underlying60 rfl rfl Tryd.sizeOf2 rfl rfl rfl) rfl rfl rfl ?_
          refine AO.yld _ (Yld.load Tryd.isAgg2 rfl rfl) rfl rfl rfl ?_
          refine AO.yld _ (Yld.int rfl rfl rfl) rfl rfl rfl ?_
          refine AO.yld _ (Yld.move rfl) rfl rfl rfl ?_
          refine AO.splitAt 39 _ rfl (fun s39 => ?_) (fun s39 => ?_)
          · -- s39 True
            have hk1 : c.kind = 1 := by simpa using s39
            refine AO.yldG _ (Yld.move rfl) rfl rfl rfl rfl rfl ?_
            refine AO.yldG _ (Yld.int rfl rfl rfl) rfl rfl rfl rfl rfl ?_
            refine AO.yld _ (Yld.pickT rfl rfl) rfl rfl rfl ?_
            refine AO.yld _ (Yld.assign rfl) rfl rfl rfl ?_
            refine AO.nil ?_
            refine AC.cond _ rfl (fun c35 => ?_) (fun c35 => ?_)
            · -- c35 True
              have hi0 : 0 ≤ idxOf (nameIs c.set.name) ms := by simpa using c35
              obtain ⟨an, y, han, hy, hyn⟩ := idx_at9 hi0
              have hal := lt_of_get hy
              have hrowY := map_row (enc := encNV) hy
              have hsa := set_at9 hJ.rise hy hyn
              have hso := setL_old hJ.rise hy hyn
              refine AC.region ?_
              refine AO.yld _ (Yld.move rfl) rfl rfl rfl ?_
              refine AO.yld _ (Yld.move rfl) rfl rfl rfl ?_
              refine AO.yld _ (Yld.fieldAddr Tryd.underlying60 rfl rfl Tryd.sizeOf57 rfl rfl rfl) rfl rfl rfl ?_
              refine AO.yld _ (Yld.loadAgg Tryd.isAgg57 Tryd.sizeOf57 rfl rfl rfl rfl) rfl rfl rfl ?_
              refine AO.yld _ (Yld.indexVec Tryd.underlying26 Tryd.sizeOf57 rfl rfl rfl (show _ = ((an : Nat) : Int) from han) (by rw [List.length_map]; exact hal)) rfl rfl rfl ?_
              refine AO.store Tryd.sizeOf57 rfl rfl rfl rfl rfl (store_el rfl hrowY rfl rfl) ?_
              refine AO.nil ?_
              refine AC.mark ?_
              refine AC.mark ?_
              refine AC.region ?_
              refine AO.yld _ (Yld.add rfl rfl (by omega) (by omega)) rfl rfl rfl ?_
              refine AO.yld _ (Yld.move rfl) rfl rfl rfl ?_
              refine AO.nil ?_
              refine AC.back ⟨k + 1, setL ms c.set, ?_, ?_, ⟨?_, ?_, trivial⟩, ⟨?_, trivial⟩, ⟨rfl, rfl, trivial⟩, ⟨rfl, trivial⟩⟩
              · exact hJ.set hc hk1 (by rw [hso]; omega) hcn
              · omega
              · rfl
              · rfl
              · first | rfl | (rw [← hsa, List.map_set]; rfl)
            · -- c35 False
              have hineg : idxOf (nameIs c.set.name) ms < 0 := by have h := c35; simp only [ge_iff_le, decide_eq_false_iff_not] at h; omega
              have hsn := setL_new hineg
              refine AC.seq ?_
              refine AC.region ?_
              refine AO.yld _ (Yld.fieldAddr Tryd.underlying60 rfl rfl Tryd.sizeOf2 rfl rfl rfl) rfl rfl rfl ?_
              refine AO.yld _ (Yld.load Tryd.isAgg2 rfl rfl) rfl rfl rfl ?_
              refine AO.yld _ (Yld.int rfl rfl rfl) rfl rfl rfl ?_
              refine AO.yld _ (Yld.move rfl) rfl rfl rfl ?_
              refine AO.splitAt 52 _ rfl (fun s52 => ?_) (fun s52 => ?_)
              · -- s52 True
                refine AO.yldG _ (Yld.move rfl) rfl rfl rfl rfl rfl ?_
                refine AO.yldG _ (Yld.len Tryd.underlying26 rfl rfl) rfl rfl rfl rfl rfl ?_
                refine AO.yldG _ (Yld.int rfl rfl rfl) rfl rfl rfl rfl rfl ?_
                refine AO.yld _ (Yld.pickT rfl rfl) rfl rfl rfl ?_
                refine AO.yld _ (Yld.assign rfl) rfl rfl rfl ?_
                refine AO.nil ?_
                refine AC.cond _ rfl (fun c48 => ?_) (fun c48 => ?_)
                · -- c48 True
                  have hl24 : ms.length = 24 := by have h := c48; rw [List.length_map] at h; simp at h; omega
                  have hres : applyC xs cs = ([], 5) := hap.trans (hJ.full hc hk1 (by rw [hsn]; omega))
                  refine AC.seq ?_
                  refine AC.region ?_
                  refine AO.yld _ (Yld.assign rfl) rfl rfl rfl ?_
                  refine AO.yld _ (Yld.assign rfl) rfl rfl rfl ?_
                  refine AO.nil ?_
                  refine AC.nilVec 4 2 57 2 rfl rfl ?_
                  refine FnE.ret () [2] [0] Tryd.results9 (RVs.cons (RV.tmp rfl) (RVs.cons (RV.tmp rfl) RVs.nil)) rfl rfl rfl ?_ ?_ ⟨⟨_, rfl, ?_⟩, trivial⟩
                  · -- holds
                    trivial
                  · -- value
                    first | (rw [hres]; rfl) | (rw [hres])
                  · -- thing 0
                    first | (rw [hres]; rfl) | (rw [hres])
                · -- c48 False
                  have hl24 : ¬ ms.length = 24 := by have h := c48; rw [List.length_map] at h; simp at h; omega
                  refine AC.seq ?_
                  refine AC.region ?_
                  refine AO.yld _ (Yld.fieldAddr Tryd.underlying60 rfl rfl Tryd.sizeOf2 rfl rfl rfl) rfl rfl rfl ?_
                  refine AO.yld _ (Yld.load Tryd.isAgg2 rfl rfl) rfl rfl rfl ?_
                  refine AO.yld _ (Yld.int rfl rfl rfl) rfl rfl rfl ?_
                  refine AO.yld _ (Yld.assign rfl) rfl rfl rfl ?_
                  refine AO.nil ?_
                  refine AC.cond _ rfl (fun c57 => ?_) (fun c57 => ?_)
                  · -- c57 True
                    refine AC.seq ?_
                    refine AC.region ?_
                    refine AO.yld _ (Yld.move rfl) rfl rfl rfl ?_
                    refine AO.yld _ (Yld.fieldAddr Tryd.underlying60 rfl rfl Tryd.sizeOf57 rfl rfl rfl) rfl rfl rfl ?_
                    refine AO.yld _ (Yld.loadAgg Tryd.isAgg57 Tryd.sizeOf57 rfl rfl rfl rfl) rfl rfl rfl ?_
                    refine AO.buildSlice (rows := [[_, _]]) 2 Tryd.underlying26 ty57 rfl rfl rfl rfl rfl rfl rfl rfl rfl ?_
                    refine AO.append 0 Tryd.underlying26 ty57 rfl rfl rfl rfl rfl rfl rfl (by simp [pvOne, str]) (by simp only [List.length_map, List.length_cons, List.length_nil, List.length_append, List.length_take, List.length_drop]; omega) (by simp only [List.length_map, List.length_cons, List.length_nil, List.length_append, List.length_take, List.length_drop]; omega) rfl ?_
                    refine AO.yld _ (Yld.assign rfl) rfl rfl rfl ?_
                    refine AO.nil ?_
                    refine AC.region ?_
                    refine AO.yld _ (Yld.move rfl) rfl rfl rfl ?_
                    refine AO.callW (wantedN rfl) [0] [0] [0] rfl rfl Tryd.call31 rfl (sortA_c (ms := ms) (e := c.set) (by omega) hJ.rise hineg) (.own rfl) rfl (fun _ => rfl) ⟨rfl, trivial⟩ rfl (fun _ => rfl) (fun _ => rfl) (fun _ _ => ?_)
                    refine AO.nil ?_
                    refine AC.mark ?_
                    refine AC.mark ?_
                    refine AC.region ?_
                    refine AO.yld _ (Yld.add rfl rfl (by omega) (by omega)) rfl rfl rfl ?_
                    refine AO.yld _ (Yld.move rfl) rfl rfl rfl ?_
                    refine AO.nil ?_
                    refine AC.back ⟨k + 1, setL ms c.set, ?_, ?_, ⟨?_, ?_, trivial⟩, ⟨?_, trivial⟩, ⟨rfl, rfl, trivial⟩, ⟨rfl, trivial⟩⟩
                    · exact hJ.set hc hk1 (by rw [hsn]; omega) hcn
                    · omega
                    · rfl
                    · rfl
                    · first | rfl | (rw [← hsa, List.map_set]; rfl)
                  · -- c57 False
                    exfalso; exact absurd hk1 (by simpa using c57)
              · -- s52 False
                exfalso; exact absurd hk1 (by simpa using s52)
          · -- s39 False
            have hk1 : ¬ c.kind = 1 := by simpa using s39
            refine AO.skipT rfl rfl rfl rfl rfl ?_
            refine AO.skipT rfl rfl rfl rfl rfl ?_
            refine AO.yld _ (Yld.pickF rfl rfl) rfl rfl rfl ?_
            refine AO.yld _ (Yld.assign rfl) rfl rfl rfl ?_
            refine AO.nil ?_
            refine AC.condF rfl ?_
            refine AC.seq ?_
            refine AC.region ?_
            refine AO.yld _ (Yld.fieldAddr Tryd.underlying60 rfl rfl Tryd.sizeOf2 rfl rfl rfl) rfl rfl rfl ?_
            refine AO.yld _ (Yld.load Tryd.isAgg2 rfl rfl) rfl rfl rfl ?_
            refine AO.yld _ (Yld.int rfl rfl rfl) rfl rfl rfl ?_
            refine AO.yld _ (Yld.move rfl) rfl rfl rfl ?_
            refine AO.splitAt 52 _ rfl (fun s52 => ?_) (fun s52 => ?_)
            · -- s52 True
              exfalso; exact hk1 (by simpa using s52)
            · -- s52 False
              refine AO.skipT rfl rfl rfl rfl rfl ?_
              refine AO.skipT rfl rfl rfl rfl rfl ?_
              refine AO.skipT rfl rfl rfl rfl rfl ?_
              refine AO.yld _ (Yld.pickF rfl rfl) rfl rfl rfl ?_
              refine AO.yld _ (Yld.assign rfl) rfl rfl rfl ?_
              refine AO.nil ?_
              refine AC.condF rfl ?_
              refine AC.seq ?_
              refine AC.region ?_
              refine AO.yld _ (Yld.fieldAddr Tryd.underlying60 rfl rfl Tryd.sizeOf2 rfl rfl rfl) rfl rfl rfl ?_
              refine AO.yld _ (Yld.load Tryd.isAgg2 rfl rfl) rfl rfl rfl ?_
              refine AO.yld _ (Yld.int rfl rfl rfl) rfl rfl rfl ?_
              refine AO.yld _ (Yld.assign rfl) rfl rfl rfl ?_
              refine AO.nil ?_
              refine AC.cond _ rfl (fun c57 => ?_) (fun c57 => ?_)
              · -- c57 True
                exfalso; exact hk1 (by simpa using c57)
              · -- c57 False
                refine AC.seq ?_
                refine AC.region ?_
                refine AO.yld _ (Yld.move rfl) rfl rfl rfl ?_
                refine AO.yld _ (Yld.int rfl rfl rfl) rfl rfl rfl ?_
                refine AO.yld _ (Yld.assign rfl) rfl rfl rfl ?_
                refine AO.nil ?_
                refine AC.cond _ rfl (fun c68 => ?_) (fun c68 => ?_)
                · -- c68 True
                  have hres : applyC xs cs = ([], 3) := hap.trans (hJ.miss hc hk1 (by simpa using c68))
                  refine AC.seq ?_
                  refine AC.region ?_
                  refine AO.yld _ (Yld.assign rfl) rfl rfl rfl ?_
                  refine AO.yld _ (Yld.assign rfl) rfl rfl rfl ?_
                  refine AO.nil ?_
                  refine AC.nilVec 4 2 57 2 rfl rfl ?_
                  refine FnE.ret () [2] [0] Tryd.results9 (RVs.cons (RV.tmp rfl) (RVs.cons (RV.tmp rfl) RVs.nil)) rfl rfl rfl ?_ ?_ ⟨⟨_, rfl, ?_⟩, trivial⟩
                  · -- holds
                    trivial
                  · -- value
                    first | (rw [hres]; rfl) | (rw [hres])
                  · -- thing 0
                    first | (rw [hres]; rfl) | (rw [hres])
                · -- c68 False
                  have hi0 : 0 ≤ idxOf (nameIs c.set.name) ms := by simpa using c68
                  obtain ⟨an, y, han, hy, hyn⟩ := idx_at9 hi0
                  have hal := lt_of_get hy
                  have hrowY := map_row (enc := encNV) hy
                  refine AC.seq ?_
                  refine AC.draw (by kernel_rfl) (by kernel_rfl) ?_
                  refine AO.yld _ (Yld.move rfl) rfl rfl rfl ?_
                  refine AO.yld _ (Yld.move rfl) rfl rfl rfl ?_
                  refine AO.yld _ (Yld.indexVec Tryd.underlying26 Tryd.sizeOf57 rfl rfl rfl (show _ = ((an : Nat) : Int) from han) (by rw [List.length_map]; exact hal)) rfl rfl rfl ?_
                  refine AO.yld _ (Yld.loadAgg Tryd.isAgg57 Tryd.sizeOf57 rfl (behind_el rfl hrowY) rfl rfl) rfl rfl rfl ?_
                  refine AO.yld _ (Yld.fieldAddr Tryd.underlying60 rfl rfl Tryd.sizeOf57 rfl rfl rfl) rfl rfl rfl ?_
                  refine AO.yld _ (Yld.loadAgg Tryd.isAgg57 Tryd.sizeOf57 rfl rfl rfl rfl) rfl rfl rfl ?_
                  refine AO.yld _ (Yld.binV rfl rfl rfl rfl rfl rfl (by exact neSetting)) rfl rfl rfl ?_
                  refine AO.yld _ (Yld.assign rfl) rfl rfl rfl ?_
                  refine AO.nil ?_
                  refine AC.cond _ rfl (fun c71 => ?_) (fun c71 => ?_)
                  · -- c71 True
                    have hye : ¬ y = c.set := by simpa using c71
                    have hres : applyC xs cs = ([], 6) := hap.trans (hJ.other hc hk1 han hy hye)
                    refine AC.seq ?_
                    refine AC.region ?_
                    refine AO.yld _ (Yld.assign rfl) rfl rfl rfl ?_
                    refine AO.yld _ (Yld.assign rfl) rfl rfl rfl ?_
                    refine AO.nil ?_
                    refine AC.nilVec 4 2 57 2 rfl rfl ?_
                    refine FnE.ret () [2] [0] Tryd.results9 (RVs.cons (RV.tmp rfl) (RVs.cons (RV.tmp rfl) RVs.nil)) rfl rfl rfl ?_ ?_ ⟨⟨_, rfl, ?_⟩, trivial⟩
                    · -- holds
                      trivial
                    · -- value
                      first | (rw [hres]; rfl) | (rw [hres])
                    · -- thing 0
                      first | (rw [hres]; rfl) | (rw [hres])
                  · -- c71 False
                    have hye : y = c.set := by simpa using c71
                    refine AC.region ?_
                    refine AO.yld _ (Yld.move rfl) rfl rfl rfl ?_
                    refine AO.yld _ (Yld.move rfl) rfl rfl rfl ?_
                    refine AO.yld _ (Yld.move rfl) rfl rfl rfl ?_
                    refine AO.yld _ (Yld.add rfl rfl (by omega) (by omega)) rfl rfl rfl ?_
                    refine AO.callW (wantedN rfl) [0] [0] [0] rfl rfl Tryd.call34 rfl (delN_c (zs := ms) (i := an) han rfl hal) (.own rfl) rfl (fun _ => rfl) ⟨rfl, trivial⟩ rfl (fun _ => rfl) (fun _ => rfl) (fun _ _ => ?_)
                    refine AO.yld _ (Yld.assign rfl) rfl rfl rfl ?_
                    refine AO.nil ?_
                    refine AC.mark ?_
                    refine AC.mark ?_
                    refine AC.region ?_
                    refine AO.yld _ (Yld.add rfl rfl (by omega) (by omega)) rfl rfl rfl ?_
                    refine AO.yld _ (Yld.move rfl) rfl rfl rfl ?_
                    refine AO.nil ?_
                    refine AC.back ⟨k + 1, ms.eraseIdx an, ?_, ?_, ⟨?_, ?_, trivial⟩, ⟨?_, trivial⟩, ⟨rfl, rfl, trivial⟩, ⟨rfl, trivial⟩⟩
                    · exact hJ.del hc hk1 han hy hye
                    · omega
                    · rfl
                    · rfl
                    · first | rfl | (rw [← hsa, List.map_set]; rfl)
        · -- c22 False
          obtain rfl : k = cs.length := by have h := c22; rw [hC] at h; simp at h; omega
          have hres : applyC xs cs = (ms, 0) := hap.trans hJ.fin
          refine AC.exit rfl ?_
          refine AC.seq ?_
          refine AC.region ?_
          refine AO.yld _ (Yld.move rfl) rfl rfl rfl ?_
          refine AO.yld _ (Yld.assign rfl) rfl rfl rfl ?_
          refine AO.yld _ (Yld.assign rfl) rfl rfl rfl ?_
          refine AO.nil ?_
          refine FnE.ret () [0] [0] Tryd.results9 (RVs.cons (RV.tmp rfl) (RVs.cons (RV.tmp rfl) RVs.nil)) rfl rfl rfl ?_ ?_ ⟨⟨_, rfl, ?_⟩, trivial⟩
          · -- holds
            trivial
          · -- value
            first | (rw [hres]; rfl) | (rw [hres])
          · -- thing 0
            first | (rw [hres]; rfl) | (rw [hres])

end Go.Proofs.YtmnmaakaneaiaaaDoor
/- Decimal digits, the last one first. -/
namespace Go.V
open Go
def revN (u : Nat) : List UInt8 := if h : u = 0 then [] else UInt8.ofNat (48 + u % 10) :: revN (u / 10)
termination_by u
decreasing_by omega
theorem revN_zero : revN 0 = [] := by rw [revN, dif_pos rfl]
theorem revN_pos {u : Nat} (h : u ≠ 0) : revN u = UInt8.ofNat (48 + u % 10) :: revN (u / 10) := by rw [revN, dif_neg h]
theorem dec_rev : ∀ (m u : Nat), u ≤ m → u ≠ 0 → Lib.decDigits u = (revN u).reverse := by
  intro m
  induction m with
  | zero => intro u h h0; omega
  | succ m ih =>
    intro u h h0
    rw [revN_pos h0, List.reverse_cons, Lib.decDigits]
    split
    · next h1 =>
      rw [show u / 10 = 0 by omega, revN_zero, show u % 10 = u by omega]; rfl
    · next h1 => rw [ih (u / 10) (by omega) (by omega)]
theorem revN_len : ∀ (k u : Nat), u < 10 ^ k → (revN u).length ≤ k := by
  intro k
  induction k with
  | zero => intro u h; rw [show u = 0 by omega, revN_zero]; simp
  | succ k ih =>
    intro u h
    by_cases h0 : u = 0
    · subst h0; rw [revN_zero]; simp
    · rw [revN_pos h0, List.length_cons]
      have := ih (u / 10) (by rw [Nat.pow_succ] at h; omega)
      omega
/-- The digits with the sign behind. -/
def revD (n : Int) : List UInt8 := revN n.natAbs ++ if n < 0 then [45] else []
theorem itoa_rev {n : Int} (h : n ≠ 0) : Lib.itoa n = (revD n).reverse := by
  unfold Lib.itoa revD
  split
  · next h1 => rw [dec_rev _ _ (Nat.le_refl _) (by omega)]; simp
  · next h1 => rw [dec_rev _ _ (Nat.le_refl _) (by omega), List.append_nil, show n.toNat = n.natAbs by omega]
theorem itoa_zero : Lib.itoa 0 = [48] := by decide +kernel
theorem itoa_len {n : Int} (h : n.natAbs < 1000000000000000000) : (Lib.itoa n).length ≤ 19 := by
  by_cases h0 : n = 0
  · subst h0; rw [itoa_zero]; simp
  · rw [itoa_rev h0, List.length_reverse, revD, List.length_append]
    have := revN_len 18 n.natAbs (by omega)
    split <;> simp <;> omega
theorem dig_i {m : Int} (h : m ≠ 0) : revN m.natAbs = UInt8.ofNat (48 + (m.tmod 10).natAbs) :: revN (m.tdiv 10).natAbs := by
  rw [revN_pos (by omega), Int.natAbs_tmod, Int.natAbs_tdiv]; rfl
theorem digit_of {d : Int} {k : Nat} (h : d = k) (hk : k < 10) : IntKind.u8.wrap (48 + d) = ((UInt8.ofNat (48 + k)).toNat : Int) := by
  subst h
  rw [UInt8.toNat_ofNat']
  simp only [IntKind.wrap, IntKind.signed, IntKind.bits]
  simp
theorem tmod10 (m : Int) : -10 < m.tmod 10 ∧ m.tmod 10 < 10 := by
  have h1 := Int.tmod_lt_of_pos m (b := 10) (by omega)
  have h2 := Int.tmod_lt_of_pos (-m) (b := 10) (by omega)
  rw [Int.neg_tmod] at h2
  omega
theorem revD_len {n : Int} (h : n.natAbs < 1000000000000000000) : (revD n).length ≤ 19 := by
  unfold revD; rw [List.length_append]
  have := revN_len 18 n.natAbs (by omega)
  split <;> simp <;> omega
theorem revN_len18 {n : Int} (h : n.natAbs < 1000000000000000000) : (revN n.natAbs).length ≤ 18 := revN_len 18 n.natAbs (by omega)
theorem rev_at {l : List UInt8} {j : Nat} {c : UInt8} (h : l[l.length - 1 - j]? = some c) (hj : j < l.length) : l.reverse[j]? = some c := by rw [List.getElem?_reverse hj]; exact h
theorem natAbs_t10 (m : Int) : (m.tdiv 10).natAbs = m.natAbs / 10 := by rw [Int.natAbs_tdiv]; rfl
end Go.V
/- A table of the library's that lies in a package-level variable, carried as a thing; numbers as text. -/
namespace Go.V
open Go Go.RowKit Go.Sort Go.Proofs
theorem HpOk.below {η : Nat → Value} {φ : Nat → List Nat} {hp : List (Nat × Res)} {w w' : World} (hok : HpOk η φ hp w) (hb : Below w.heap.size w w') : HpOk η φ hp w' where
  res := fun id r hg => RRes.mono (Same.of_below hb) (fun _ _ => fun x => x) (fun k hk => hb.block k (hok.lt id r k hg hk)) r (fun _ _ => rfl) (hok.res id r hg)
  disj := hok.disj
  lt := fun id r k hg hk => Nat.lt_of_lt_of_le (hok.lt id r k hg hk) hb.size
theorem Keep.of_below {S0 : Nat → Prop} {w w' : World} (hb : Below w.heap.size w w') : Keep S0 w w' := ⟨hb.os, hb.tape, hb.output, hb.size, fun k hk _ => hb.block k hk⟩
theorem var_same {P : Program} {w w' : World} {name : String} {g : Nat} (hg : P.globalNamed name = some g) (h : w'.heap[g]? = w.heap[g]?) : w'.var? P name = w.var? P name := by
  unfold World.var?; rw [hg]; simp only [Option.bind_some]; rw [h]
def tabC (P : Program) (name : String) (k : IntKind) (zs : List Int) : Cust where
  R := fun S w hd F => hd = .pointer none ∧ F = [] ∧ ∃ g, P.globalNamed name = some g ∧ ¬ S g ∧ g < w.heap.size ∧ Lib.TabIs P w name k zs
  view := none
  mono := fun hw hS _ ⟨h1, h2, g, h3, h4, h5, h6⟩ => ⟨h1, h2, g, h3, fun h => h4 (hS g h5 h), Nat.lt_of_lt_of_le h5 hw.size, by unfold Lib.TabIs; rw [var_same h3 (hw.block g h5 h4)]; exact h6⟩
  shape := fun ⟨h1, _⟩ => .inl ⟨_, h1⟩
  ok := fun h => by cases h
def powR (P : Program) : Res := .cust (tabC P "internal/strconv.uint64pow10" .u64 Lib.pow10Tab)
structure FmtInt (P : Program) (f : FuncId) : Prop where
  run : ∀ (n : Int), -9223372036854775808 ≤ n → n ≤ 9223372036854775807 → ∀ (w : World), Lib.TabIs P w "internal/strconv.uint64pow10" .u64 Lib.pow10Tab →
    Calls P f #[.int .i64 n, .int .i64 10] w fun e w' => e = .returned (.string ⟨(Lib.itoa n).toArray⟩) ∧ ∃ k os, w' = Sort.grow (w.drewN k) os
theorem fmt_fn {P : Program} {f : FuncId} (h : FmtInt P f) {n : Int} (h0 : -9223372036854775808 ≤ n) (h1 : n ≤ 9223372036854775807) :
    FnE (α := Unit) P f [.p (.v (.int .i64 n)), .p (.v (.int .i64 10))] [(0, powR P)] [0] (fun _ => True) (fun _ => .p (.v (str (Lib.itoa n)))) (fun _ => [(0, powR P)]) := by
  intro w0 F0 η φ w us hok hrel
  simp only [ARelL, ARel, Rel] at hrel
  obtain ⟨_, us', rfl, rfl, _, us2, rfl, rfl, rfl⟩ := hrel
  obtain ⟨_, _, g, _, _, _, ht⟩ := hok.res 0 _ rfl
  refine (h.run n h0 h1 w ht).mono ?_
  rintro e w' ⟨rfl, k, os, rfl⟩
  have hb : Below w.heap.size w (Sort.grow (w.drewN k) os) := Lib.below_grow _ w (Nat.le_refl _) k os
  exact ⟨(), trivial, _, η, φ, rfl, hok.below hb, by simp only [ARel, Rel]; rfl, fun _ _ => rfl, fun i r k h1 h2 => .inl ⟨i, r, h1, h2⟩, Keep.of_below hb⟩
theorem fmt_small {P : Program} {f : FuncId} (h : ∀ (i : Nat), i < 100 → ∀ (w : World), Calls P f #[.int .i64 i, .int .i64 10] w fun e w' => e = .returned (.string ⟨(Lib.decDigits i).toArray⟩) ∧ w' = w) {n : Int} (h0 : 0 ≤ n) (h1 : n < 100) :
    Pure P f [.v (.int .i64 n), .v (.int .i64 10)] (.v (str (Lib.itoa n))) := by
  intro w us hrel
  simp only [RelL, Rel] at hrel
  obtain ⟨_, us', rfl, rfl, _, us2, rfl, rfl, rfl⟩ := hrel
  have e1 : n = ((n.toNat : Nat) : Int) := by omega
  have := h n.toNat (by omega) w
  rw [← e1] at this
  refine this.mono ?_
  rintro e w' ⟨rfl, rfl⟩
  refine ⟨_, rfl, ?_, Below.refl _ _⟩
  simp only [Rel]
  unfold str Lib.itoa
  rw [if_neg (by omega)]

/-- A contract at one world. -/
def PureAt (P : Program) (w : World) (f : FuncId) (args : List PV) (r : PV) : Prop :=
  ∀ (us : List Value), RelL (fun _ => False) w args us → Calls P f us.toArray w fun e w' => ∃ u, e = .returned u ∧ Rel (fun _ => False) w' r u ∧ Below w.heap.size w w'
theorem Pure.here {P : Program} {f : FuncId} {args : List PV} {r : PV} (h : Pure P f args r) (w : World) : PureAt P w f args r := fun us hr => h w us hr
def avsOf : List PV → List AV := List.map .p
theorem arel_avs {η : Nat → Value} {S : Nat → Prop} {w : World} : ∀ {xs : List PV} {us : List Value}, RelL S w xs us → ARelL η S w (avsOf xs) us
  | [], _, h => h
  | _ :: _, _, h => by
    simp only [RelL] at h
    obtain ⟨u, us', h1, h2, h3⟩ := h
    exact ⟨u, us', h1, h2, arel_avs h3⟩
/-- From a contract that takes the table to one at a world where it is laid. -/
theorem FnE.here {P : Program} {f : FuncId} {args : List PV} {v : Value} (h : FnE (α := Unit) P f (avsOf args) [(0, powR P)] [0] (fun _ => True) (fun _ => .p (.v v)) (fun _ => [(0, powR P)])) {w : World} {g : Nat}
    (hg : P.globalNamed "internal/strconv.uint64pow10" = some g) (hlt : g < w.heap.size) (ht : Lib.TabIs P w "internal/strconv.uint64pow10" .u64 Lib.pow10Tab) : PureAt P w f args (.v v) := by
  intro us hr
  have hS : ∀ k, ¬ SOf (fun _ : Nat => ([] : List Nat)) ((900, Res.cust (extC w [])) :: [(0, powR P)]) k := by
    rintro k ⟨i, r, _, h2⟩; cases h2
  have hres : ∀ id r, get ((900, Res.cust (extC w [])) :: [(0, powR P)]) id = some r → RRes (fun _ => .pointer none) (SOf (fun _ : Nat => ([] : List Nat)) ((900, Res.cust (extC w [])) :: [(0, powR P)])) w (.pointer none) [] r := by
    intro id r h
    rw [get_cons] at h
    split at h
    · obtain rfl := Option.some.inj h
      exact ⟨rfl, rfl, fun k hk => by cases hk⟩
    · rw [get_cons] at h
      split at h
      · obtain rfl := Option.some.inj h
        exact ⟨rfl, rfl, g, hg, hS g, hlt, ht⟩
      · cases h
  have hok : HpOk (fun _ => .pointer none) (fun _ : Nat => ([] : List Nat)) ((900, Res.cust (extC w [])) :: [(0, powR P)]) w :=
    ⟨hres, (by intro _ _ _ _ _ _ _ h; cases h), (by intro _ _ _ _ h; cases h)⟩
  refine (h w [] _ _ w us hok (arel_avs (RelL.mono (⟨Nat.le_refl _, fun _ _ _ => rfl⟩ : Same (fun _ => False) w w) (fun k _ h => hS k h) _ _ hr))).mono ?_
  rintro e w' ⟨_, _, u, η', φ', he, hok', hr', _, _, hk⟩
  simp only [ARel, Rel] at hr'
  exact ⟨u, he, hr', hk.os, hk.tape, hk.output, hk.size, fun k hk' => hk.block k hk' (hS k)⟩
section
open Go.ChangeShapes Go.WideShapes Go.ChangeAt
variable {H : Type} {enc : TypeId × Value → H} {P : Program} {w : World}
/-- A law's contract, out of a contract in the calculus. -/
theorem law_postAt {f : Func} {fid : FuncId} {s : ChangeSpec} {args : Array Value} {ds gs : List (DataW H)} {before : List MemPlace} {base n : Nat} {tys : List Ty} {tb : TypeId} (hl : laidOutB P = true)
    (hrdB : (f.params.toList.all fun t => P.readableRec t && decide (t < P.types.size)) = true) (hvars : s.vars = []) (hres : f.resultTypes = #[tb]) (htb : P.underlying tb = some .bool) (hty : tysAll P n f.params.toList = some tys)
    (hspec : ∀ ds : List (DataW H), ds.length = f.params.toList.length → (s.fn H (ds ++ [])).results = [.lit (.bool true)] ∧ (s.fn H (ds ++ [])).args = ds ∧ (s.fn H (ds ++ [])).vars = [])
    (hval : ∀ (j : Nat) t v, f.params[j]? = some t → args[j]? = some v → Value.okWide P w .any base t v)
    (hW : DataW.Whole enc P f.params.toList s.vars false w args.toList ds gs before)
    (hp : ∀ xs, HasAll tys xs → PureAt P w fid xs (.v (.bool true))) :
    Calls P fid args w fun e W' => ∃ v, e = .returned v ∧ s.post enc P f false true false false w args v W' := by
  have hrd : ∀ t ∈ f.params.toList, P.readableRec t = true ∧ t < P.types.size := fun t ht => by
    have := List.all_eq_true.1 hrdB t ht
    simpa using this
  have hW0 := hW
  have hlt := hW.lt
  obtain ⟨p, q, hA, hV, rfl, hfz, hnd⟩ := hW
  rw [hvars] at hV
  have hg : gs = [] ∧ q = [] := by
    cases gs with
    | nil => exact ⟨rfl, hV⟩
    | cons => exact hV.elim
  obtain ⟨rfl, rfl⟩ := hg
  obtain ⟨xs, h1, h2⟩ := args_rel f.params.toList tys args.toList ds p hty hA (fun j t v h1 h2 => hval j t v (by simpa using h1) (by simpa using h2))
  have hc := hp xs h2 args.toList h1
  simp only [Array.toArray_toList] at hc
  refine hc.mono fun e W' ⟨u, he, hu, hb⟩ => ?_
  simp only [Rel] at hu
  subst hu
  have hlen : ds.length = f.params.toList.length := by
    have : ∀ (ts : List TypeId) (vs : List Value) (ds : List (DataW H)) (ps : List MemPlace), DataW.TrodAll enc P w 0 (fun _ => true) true ts vs ds ps → ds.length = ts.length := by
      intro ts
      induction ts with
      | nil => intro vs ds ps h; cases vs <;> cases ds <;> first | rfl | exact h.elim
      | cons t ts ih =>
        intro vs ds ps h
        match vs, ds, h with
        | v :: vs, d :: ds, h => obtain ⟨p, q, _, h2, _⟩ := h; simp [ih vs ds q h2]
    exact this _ _ _ _ hA
  obtain ⟨s1, s2, s3⟩ := hspec ds hlen
  refine ⟨_, he, ds, [], p ++ [], [], p, [], hW0, ?_, ?_, ?_, hb.frame _, fun h => by cases h⟩
  · rw [s1, hres]
    exact trodAll_mk1 (shut_bool htb true)
  · rw [s2]
    exact trodAll_below hl hb _ _ _ _ hrd hA (fun x hx => hlt x (by simp [hx]))
  · rw [s3, hvars]; rfl

end
end Go.V
/- Versions that are undone. -/
namespace Go.V
open Go
def undoMemo (n : Int) : List UInt8 := [117, 110, 100, 111, 32] ++ Lib.itoa n
theorem undoMemo_len {n : Int} (h : n.natAbs < 1000000000000000000) : (undoMemo n).length ≤ 24 := by
  unfold undoMemo; have := itoa_len h; simp only [List.length_append, List.length_cons, List.length_nil]; omega
def undoVersion (xs : List Ver) (n : Int) : List Ver × Int := if okVers xs = true then (if inVers xs n = true then addV xs n (undoMemo n) (stT xs (par xs n)) else ([], 3)) else ([], 1)
theorem undo_good {xs : List Ver} {n : Int} (hg : VersGood xs) : VersGood (undoVersion xs n).1 := by
  have nil : VersGood [] := ⟨by simp, by simp⟩
  unfold undoVersion
  split
  · next h =>
    have hl := vers_len h
    split
    · next h2 =>
      simp only [inVers, Bool.and_eq_true, decide_eq_true_eq] at h2
      have hm := undoMemo_len (n := n) (by omega)
      exact add_good hg (by omega) (by omega) (by have := state_len (stT_ok h (par xs n)); omega) (stT_names h _)
    · exact nil
  · exact nil
end Go.V
/- Contracts of functions of the program, each by a walk of its text in the calculus V. -/
set_option linter.all false
set_option linter.unusedSimpArgs false
set_option linter.unnecessarySimpa false
set_option linter.unusedVariables false
namespace Go.Proofs.YtmnmaakaneaiaaaDoor
open Go Go.V

theorem impl_Decimal_s {n : Int} (h0 : 0 ≤ n) (h1 : n < 100) :
    Pure Tryd.prog 40 [.v (.int .i64 n)] (.v (str (Lib.itoa n))) := by
  refine Pure.intro Tryd.func40 rfl Tryd.ntmps40 rfl rfl (fun w => ?_)
  refine AC.seq ?_
  refine AC.region ?_
  refine AO.yld _ (Yld.assign rfl) rfl rfl rfl ?_
  refine AO.nil ?_
  refine AC.seq ?_
  refine AC.region ?_
  refine AO.yld _ (Yld.move rfl) rfl rfl rfl ?_
  refine AO.yld _ (Yld.call rfl rfl Tryd.call60 rfl rfl rfl (fmt_small Tryd.strconv_FormatInt_10_small (by omega) (by omega)) rfl) rfl rfl rfl ?_
  refine AO.yld _ (Yld.assign rfl) rfl rfl rfl ?_
  refine AO.nil ?_
  refine Pure.ret Tryd.results40 (RVs.cons (RV.tmp rfl) RVs.nil) rfl ?_
  rfl

theorem impl_UndoVersion_c {xs : List Ver} {n : Int} (hg : VersGood xs) :
    FnE (α := Unit) Tryd.prog 13 [.p (.sl 4 (xs.map encVer)), .p (.v (.int .i64 n))] [] [] (fun _ => True) (fun _ => .tup [.h 0, .p (.v (.int .i64 (undoVersion xs n).2))]) (fun _ => [(0, .cust (nestC 48 4 57 2 (((undoVersion xs n).1).map verC) (((undoVersion xs n).1).map verI) (((undoVersion xs n).1).map encVer) ver_nest))]) := by
  have hn := hg.1
  have hM : (xs.map encVer).length = xs.length := List.length_map ..
  refine FnE.intro Tryd.func13 rfl Tryd.ntmps13 rfl rfl (fun w0 F0 η φ w => ?_)
  refine AC.seq ?_
  refine AC.region ?_
  refine AO.yld _ (Yld.assign rfl) rfl rfl rfl ?_
  refine AO.yld _ (Yld.assign rfl) rfl rfl rfl ?_
  refine AO.nil ?_
  refine AC.seq ?_
  refine AC.seq ?_
  refine AC.region ?_
  refine AO.yld _ (Yld.move rfl) rfl rfl rfl ?_
  refine AO.yld _ (Yld.call rfl rfl Tryd.call36 rfl rfl rfl (impl_ValidHistory_c (by assumption)) rfl) rfl rfl rfl ?_
  refine AO.yld _ (Yld.not rfl) rfl rfl rfl ?_
  refine AO.nil ?_
  refine AC.cond _ rfl (fun c8 => ?_) (fun c8 => ?_)
  · -- c8 True
    have hnk : ¬ okVers xs = true := by simpa using c8
    refine AC.seq ?_
    refine AC.region ?_
    refine AO.yld _ (Yld.assign rfl) rfl rfl rfl ?_
    refine AO.yld _ (Yld.assign rfl) rfl rfl rfl ?_
    refine AO.nil ?_
    refine AC.nilVec 4 0 48 4 rfl rfl ?_
    refine AC.poolNew 1 57 2 rfl ?_
    refine AC.nestJoin 0 1 (cs := ([] : List Ver).map verC) (ins := ([] : List Ver).map verI) (hV := ver_nest) (vs := []) rfl rfl rfl rfl rfl rfl rfl ?_
    refine FnE.ret () [0] [0] Tryd.results13 (RVs.cons (RV.tmp rfl) (RVs.cons (RV.tmp rfl) RVs.nil)) rfl rfl rfl ?_ ?_ ⟨⟨_, rfl, ?_⟩, trivial⟩
    · -- holds
      trivial
    · -- value
      refine tupE ?_; (try simp only [hM] at *); unfold undoVersion; first | (rw [if_pos hok, if_pos hin]; first | done | rfl) | (rw [if_pos hok, if_neg hno]; first | done | rfl) | (rw [if_neg hnk]; first | done | rfl)
    · -- thing 0
      exact nestE (by (try simp only [hM] at *); unfold undoVersion; first | (rw [if_pos hok, if_pos hin]; first | done | rfl) | (rw [if_pos hok, if_neg hno]; first | done | rfl) | (rw [if_neg hnk]; first | done | rfl))
  · -- c8 False
    have hok : okVers xs = true := by simpa using c8
    have hl32 := vers_len hok
    refine AC.skip ?_
    refine AC.seq ?_
    refine AC.seq ?_
    refine AC.region ?_
    refine AO.yld _ (Yld.move rfl) rfl rfl rfl ?_
    refine AO.yld _ (Yld.move rfl) rfl rfl rfl ?_
    refine AO.yld _ (Yld.len Tryd.underlying24 rfl rfl) rfl rfl rfl ?_
    refine AO.yld _ (Yld.call rfl rfl Tryd.call38 rfl rfl rfl (impl_within_c) rfl) rfl rfl rfl ?_
    refine AO.yld _ (Yld.not rfl) rfl rfl rfl ?_
    refine AO.nil ?_
    refine AC.cond _ rfl (fun c13 => ?_) (fun c13 => ?_)
    · -- c13 True
      have hno : ¬ inVers xs n = true := by have h9 := c13; (try simp only [hM] at h9); first | (simpa using h9) | (simp [inVers] at h9 ⊢; omega)
      refine AC.seq ?_
      refine AC.region ?_
      refine AO.yld _ (Yld.assign rfl) rfl rfl rfl ?_
      refine AO.yld _ (Yld.assign rfl) rfl rfl rfl ?_
      refine AO.nil ?_
      refine AC.nilVec 4 0 48 4 rfl rfl ?_
      refine AC.poolNew 1 57 2 rfl ?_
      refine AC.nestJoin 0 1 (cs := ([] : List Ver).map verC) (ins := ([] : List Ver).map verI) (hV := ver_nest) (vs := []) rfl rfl rfl rfl rfl rfl rfl ?_
      refine FnE.ret () [0] [0] Tryd.results13 (RVs.cons (RV.tmp rfl) (RVs.cons (RV.tmp rfl) RVs.nil)) rfl rfl rfl ?_ ?_ ⟨⟨_, rfl, ?_⟩, trivial⟩
      · -- holds
        trivial
      · -- value
        refine tupE ?_; (try simp only [hM] at *); unfold undoVersion; first | (rw [if_pos hok, if_pos hin]; first | done | rfl) | (rw [if_pos hok, if_neg hno]; first | done | rfl) | (rw [if_neg hnk]; first | done | rfl)
      · -- thing 0
        exact nestE (by (try simp only [hM] at *); unfold undoVersion; first | (rw [if_pos hok, if_pos hin]; first | done | rfl) | (rw [if_pos hok, if_neg hno]; first | done | rfl) | (rw [if_neg hnk]; first | done | rfl))
    · -- c13 False
      have hin : inVers xs n = true := by have h9 := c13; (try simp only [hM] at h9); first | (simpa using h9) | (simp [inVers] at h9 ⊢; exact h9)
      have hb : 1 ≤ n ∧ n ≤ xs.length := by simpa [inVers] using hin
      obtain ⟨x, hx⟩ := get_some (xs := xs) (k := (n - 1).toNat) (by omega)
      have hrow := map_row (enc := encVer) hx
      have hpl := par_lim hok (n := n) (by omega)
      have hpe := par_eq hx
      rw [hpe] at hpl
      have hul := undoMemo_len (n := n) (by omega)
      have hsl := state_len (stT_ok hok x.parent)
      refine AC.skip ?_
      refine AC.seq ?_
      apply AC.drawAnyC (α := Unit) [(0, _), (1, _), (6, _), (7, _), (8, _), (9, _), (10, _), (11, _), (12, _), (13, _)] [(900, _)] (fun y => [(4, .h 0), (5, .p (.v (.int .i64 (addV xs n (undoMemo n) (stT xs (par xs n))).2)))]) (fun y => [(0, .cust (nestC 48 4 57 2 (((addV xs n (undoMemo n) (stT xs (par xs n))).1).map verC) (((addV xs n (undoMemo n) (stT xs (par xs n))).1).map verI) (((addV xs n (undoMemo n) (stT xs (par xs n))).1).map encVer) ver_nest))]) (by kernel_rfl)
      · -- orders
        refine ANx.take 0 rfl (by kernel_rfl) (by kernel_rfl) (by kernel_rfl) rfl rfl rfl (YldA.move rfl) ?_
        refine ANx.take 1 rfl (by kernel_rfl) (by kernel_rfl) (by kernel_rfl) rfl rfl rfl (YldA.move rfl) ?_
        refine ANx.take 2 rfl (by kernel_rfl) (by kernel_rfl) (by kernel_rfl) rfl rfl rfl (YldA.move rfl) ?_
        refine ANx.take 5 rfl (by kernel_rfl) (by kernel_rfl) (by kernel_rfl) rfl rfl rfl (YldA.move rfl) ?_
        refine ANx.take 6 rfl (by kernel_rfl) (by kernel_rfl) (by kernel_rfl) rfl rfl rfl (YldA.move rfl) ?_
        refine ANx.take 7 rfl (by kernel_rfl) (by kernel_rfl) (by kernel_rfl) rfl rfl rfl (YldA.move rfl) ?_
        refine ANx.take 8 rfl (by kernel_rfl) (by kernel_rfl) (by kernel_rfl) rfl rfl rfl (YldA.sub rfl rfl (by omega) (by omega)) ?_
        refine ANx.take 9 rfl (by kernel_rfl) (by kernel_rfl) (by kernel_rfl) rfl rfl rfl (YldA.indexSl Tryd.underlying24 Tryd.sizeOf48 rfl rfl hrow (by omega)) ?_
        refine ANx.take 10 rfl (by kernel_rfl) (by kernel_rfl) (by kernel_rfl) rfl rfl rfl (YldA.fieldAddr Tryd.underlying48 rfl rfl Tryd.sizeOf2 rfl rfl rfl) ?_
        refine ANx.all (rs := [3, 11]) (by kernel_rfl) rfl ⟨?_, ?_, trivial⟩
        · -- 3
          refine Stpx.eff rfl rfl (Eff.yld (Yld.call rfl rfl Tryd.call40 rfl rfl rfl (impl_Decimal_s (by omega) (by omega)) rfl) rfl rfl) ?_
          refine ANx.all (rs := [4, 11]) (by kernel_rfl) rfl ⟨?_, ?_, trivial⟩
          · -- 4
            refine Stpx.eff rfl rfl (Eff.yld (Yld.cat rfl rfl (by have := itoa_len (n := n) (by omega); simp only [List.length_cons, List.length_nil]; omega)) rfl rfl) ?_
            refine ANx.all (rs := [11]) (by kernel_rfl) rfl ⟨?_, trivial⟩
            refine Stpx.eff rfl rfl (Eff.yld (Yld.load Tryd.isAgg2 rfl rfl) rfl rfl) ?_
            refine ANx.all (rs := [12]) (by kernel_rfl) rfl ⟨?_, trivial⟩
            refine Stpx.effX rfl rfl (EffX.callW [] [] [] rfl rfl Tryd.call41 rfl (impl_stateOf_c (by assumption) (by omega) (by omega)) (.own rfl) rfl (fun _ => rfl) trivial rfl (fun _ => rfl) (fun _ => rfl)) ?_
            rintro _ ⟨⟨⟩, hu26, rfl⟩
            refine ANx.all (rs := [13]) (by kernel_rfl) rfl ⟨?_, trivial⟩
            refine Stpx.effX rfl rfl (EffX.callW [0] [] [0] rfl rfl Tryd.call39 rfl (impl_addVersion_c (by assumption) (by first | assumption | omega)) (.own rfl) rfl (fun _ => rfl) trivial rfl (fun _ => rfl) (fun _ => rfl)) ?_
            rintro _ ⟨⟨⟩, hu27, rfl⟩
            refine ANx.all (rs := [14, 15]) (by kernel_rfl) rfl ⟨?_, ?_, trivial⟩
            · -- 14
              refine Stpx.eff rfl rfl (Eff.yld (Yld.extract rfl rfl rfl) rfl rfl) ?_
              refine ANx.all (rs := [15]) (by kernel_rfl) rfl ⟨?_, trivial⟩
              refine Stpx.eff rfl rfl (Eff.yld (Yld.extract rfl rfl rfl) rfl rfl) ?_
              refine ANx.take 16 rfl (by kernel_rfl) (by kernel_rfl) (by kernel_rfl) rfl rfl rfl (YldA.assign rfl) ?_
              refine ANx.take 17 rfl (by kernel_rfl) (by kernel_rfl) (by kernel_rfl) rfl rfl rfl (YldA.assign rfl) ?_
              rw [hpe]
              exact ANx.doneC () (by kernel_rfl) ⟨rfl, rfl, trivial⟩ ⟨rfl, trivial⟩ ⟨rfl, rfl, rfl, rfl, rfl, rfl, rfl, rfl, rfl, rfl, trivial⟩ ⟨rfl, trivial⟩
            · -- 15
              refine Stpx.eff rfl rfl (Eff.yld (Yld.extract rfl rfl rfl) rfl rfl) ?_
              refine ANx.all (rs := [14]) (by kernel_rfl) rfl ⟨?_, trivial⟩
              refine Stpx.eff rfl rfl (Eff.yld (Yld.extract rfl rfl rfl) rfl rfl) ?_
              refine ANx.take 16 rfl (by kernel_rfl) (by kernel_rfl) (by kernel_rfl) rfl rfl rfl (YldA.assign rfl) ?_
              refine ANx.take 17 rfl (by kernel_rfl) (by kernel_rfl) (by kernel_rfl) rfl rfl rfl (YldA.assign rfl) ?_
              rw [hpe]
              exact ANx.doneC () (by kernel_rfl) ⟨rfl, rfl, trivial⟩ ⟨rfl, trivial⟩ ⟨rfl, rfl, rfl, rfl, rfl, rfl, rfl, rfl, rfl, rfl, trivial⟩ ⟨rfl, trivial⟩
          · -- 11
            refine Stpx.eff rfl rfl (Eff.yld (Yld.load Tryd.isAgg2 rfl rfl) rfl rfl) ?_
            refine ANx.all (rs := [4, 12]) (by kernel_rfl) rfl ⟨?_, ?_, trivial⟩
            · -- 4
              refine Stpx.eff rfl rfl (Eff.yld (Yld.cat rfl rfl (by have := itoa_len (n := n) (by omega); simp only [List.length_cons, List.length_nil]; omega)) rfl rfl) ?_
              refine ANx.all (rs := [12]) (by kernel_rfl) rfl ⟨?_, trivial⟩
              refine Stpx.effX rfl rfl (EffX.callW [] [] [] rfl rfl Tryd.call41 rfl (impl_stateOf_c (by assumption) (by omega) (by omega)) (.own rfl) rfl (fun _ => rfl) trivial rfl (fun _ => rfl) (fun _ => rfl)) ?_
              rintro _ ⟨⟨⟩, hu26, rfl⟩
              refine ANx.all (rs := [13]) (by kernel_rfl) rfl ⟨?_, trivial⟩
              refine Stpx.effX rfl rfl (EffX.callW [0] [] [0] rfl rfl Tryd.call39 rfl (impl_addVersion_c (by assumption) (by first | assumption | omega)) (.own rfl) rfl (fun _ => rfl) trivial rfl (fun _ => rfl) (fun _ => rfl)) ?_
              rintro _ ⟨⟨⟩, hu27, rfl⟩
              refine ANx.all (rs := [14, 15]) (by kernel_rfl) rfl ⟨?_, ?_, trivial⟩
              · -- 14
                refine Stpx.eff rfl rfl (Eff.yld (Yld.extract rfl rfl rfl) rfl rfl) ?_
                refine ANx.all (rs := [15]) (by kernel_rfl) rfl ⟨?_, trivial⟩
                refine Stpx.eff rfl rfl (Eff.yld (Yld.extract rfl rfl rfl) rfl rfl) ?_
                refine ANx.take 16 rfl (by kernel_rfl) (by kernel_rfl) (by kernel_rfl) rfl rfl rfl (YldA.assign rfl) ?_
                refine ANx.take 17 rfl (by kernel_rfl) (by kernel_rfl) (by kernel_rfl) rfl rfl rfl (YldA.assign rfl) ?_
                rw [hpe]
                exact ANx.doneC () (by kernel_rfl) ⟨rfl, rfl, trivial⟩ ⟨rfl, trivial⟩ ⟨rfl, rfl, rfl, rfl, rfl, rfl, rfl, rfl, rfl, rfl, trivial⟩ ⟨rfl, trivial⟩
              · -- 15
                refine Stpx.eff rfl rfl (Eff.yld (Yld.extract rfl rfl rfl) rfl rfl) ?_
                refine ANx.all (rs := [14]) (by kernel_rfl) rfl ⟨?_, trivial⟩
                refine Stpx.eff rfl rfl (Eff.yld (Yld.extract rfl rfl rfl) rfl rfl) ?_
                refine ANx.take 16 rfl (by kernel_rfl) (by kernel_rfl) (by kernel_rfl) rfl rfl rfl (YldA.assign rfl) ?_
                refine ANx.take 17 rfl (by kernel_rfl) (by kernel_rfl) (by kernel_rfl) rfl rfl rfl (YldA.assign rfl) ?_
                rw [hpe]
                exact ANx.doneC () (by kernel_rfl) ⟨rfl, rfl, trivial⟩ ⟨rfl, trivial⟩ ⟨rfl, rfl, rfl, rfl, rfl, rfl, rfl, rfl, rfl, rfl, trivial⟩ ⟨rfl, trivial⟩
            · -- 12
              refine Stpx.effX rfl rfl (EffX.callW [] [] [] rfl rfl Tryd.call41 rfl (impl_stateOf_c (by assumption) (by omega) (by omega)) (.own rfl) rfl (fun _ => rfl) trivial rfl (fun _ => rfl) (fun _ => rfl)) ?_
              rintro _ ⟨⟨⟩, hu26, rfl⟩
              refine ANx.all (rs := [4]) (by kernel_rfl) rfl ⟨?_, trivial⟩
              refine Stpx.eff rfl rfl (Eff.yld (Yld.cat rfl rfl (by have := itoa_len (n := n) (by omega); simp only [List.length_cons, List.length_nil]; omega)) rfl rfl) ?_
              refine ANx.all (rs := [13]) (by kernel_rfl) rfl ⟨?_, trivial⟩
              refine Stpx.effX rfl rfl (EffX.callW [0] [] [0] rfl rfl Tryd.call39 rfl (impl_addVersion_c (by assumption) (by first | assumption | omega)) (.own rfl) rfl (fun _ => rfl) trivial rfl (fun _ => rfl) (fun _ => rfl)) ?_
              rintro _ ⟨⟨⟩, hu27, rfl⟩
              refine ANx.all (rs := [14, 15]) (by kernel_rfl) rfl ⟨?_, ?_, trivial⟩
              · -- 14
                refine Stpx.eff rfl rfl (Eff.yld (Yld.extract rfl rfl rfl) rfl rfl) ?_
                refine ANx.all (rs := [15]) (by kernel_rfl) rfl ⟨?_, trivial⟩
                refine Stpx.eff rfl rfl (Eff.yld (Yld.extract rfl rfl rfl) rfl rfl) ?_
                refine ANx.take 16 rfl (by kernel_rfl) (by kernel_rfl) (by kernel_rfl) rfl rfl rfl (YldA.assign rfl) ?_
                refine ANx.take 17 rfl (by kernel_rfl) (by kernel_rfl) (by kernel_rfl) rfl rfl rfl (YldA.assign rfl) ?_
                rw [hpe]
                exact ANx.doneC () (by kernel_rfl) ⟨rfl, rfl, trivial⟩ ⟨rfl, trivial⟩ ⟨rfl, rfl, rfl, rfl, rfl, rfl, rfl, rfl, rfl, rfl, trivial⟩ ⟨rfl, trivial⟩
              · -- 15
                refine Stpx.eff rfl rfl (Eff.yld (Yld.extract rfl rfl rfl) rfl rfl) ?_
                refine ANx.all (rs := [14]) (by kernel_rfl) rfl ⟨?_, trivial⟩
                refine Stpx.eff rfl rfl (Eff.yld (Yld.extract rfl rfl rfl) rfl rfl) ?_
                refine ANx.take 16 rfl (by kernel_rfl) (by kernel_rfl) (by kernel_rfl) rfl rfl rfl (YldA.assign rfl) ?_
                refine ANx.take 17 rfl (by kernel_rfl) (by kernel_rfl) (by kernel_rfl) rfl rfl rfl (YldA.assign rfl) ?_
                rw [hpe]
                exact ANx.doneC () (by kernel_rfl) ⟨rfl, rfl, trivial⟩ ⟨rfl, trivial⟩ ⟨rfl, rfl, rfl, rfl, rfl, rfl, rfl, rfl, rfl, rfl, trivial⟩ ⟨rfl, trivial⟩
        · -- 11
          refine Stpx.eff rfl rfl (Eff.yld (Yld.load Tryd.isAgg2 rfl rfl) rfl rfl) ?_
          refine ANx.all (rs := [3]) (by kernel_rfl) rfl ⟨?_, trivial⟩
          refine Stpx.eff rfl rfl (Eff.yld (Yld.call rfl rfl Tryd.call40 rfl rfl rfl (impl_Decimal_s (by omega) (by omega)) rfl) rfl rfl) ?_
          refine ANx.all (rs := [4, 12]) (by kernel_rfl) rfl ⟨?_, ?_, trivial⟩
          · -- 4
            refine Stpx.eff rfl rfl (Eff.yld (Yld.cat rfl rfl (by have := itoa_len (n := n) (by omega); simp only [List.length_cons, List.length_nil]; omega)) rfl rfl) ?_
            refine ANx.all (rs := [12]) (by kernel_rfl) rfl ⟨?_, trivial⟩
            refine Stpx.effX rfl rfl (EffX.callW [] [] [] rfl rfl Tryd.call41 rfl (impl_stateOf_c (by assumption) (by omega) (by omega)) (.own rfl) rfl (fun _ => rfl) trivial rfl (fun _ => rfl) (fun _ => rfl)) ?_
            rintro _ ⟨⟨⟩, hu26, rfl⟩
            refine ANx.all (rs := [13]) (by kernel_rfl) rfl ⟨?_, trivial⟩
            refine Stpx.effX rfl rfl (EffX.callW [0] [] [0] rfl rfl Tryd.call39 rfl (impl_addVersion_c (by assumption) (by first | assumption | omega)) (.own rfl) rfl (fun _ => rfl) trivial rfl (fun _ => rfl) (fun _ => rfl)) ?_
            rintro _ ⟨⟨⟩, hu27, rfl⟩
            refine ANx.all (rs := [14, 15]) (by kernel_rfl) rfl ⟨?_, ?_, trivial⟩
            · -- 14
              refine Stpx.eff rfl rfl (Eff.yld (Yld.extract rfl rfl rfl) rfl rfl) ?_
              refine ANx.all (rs := [15]) (by kernel_rfl) rfl ⟨?_, trivial⟩
              refine Stpx.eff rfl rfl (Eff.yld (Yld.extract rfl rfl rfl) rfl rfl) ?_
              refine ANx.take 16 rfl (by kernel_rfl) (by kernel_rfl) (by kernel_rfl) rfl rfl rfl (YldA.assign rfl) ?_
              refine ANx.take 17 rfl (by kernel_rfl) (by kernel_rfl) (by kernel_rfl) rfl rfl rfl (YldA.assign rfl) ?_
              rw [hpe]
              exact ANx.doneC () (by kernel_rfl) ⟨rfl, rfl, trivial⟩ ⟨rfl, trivial⟩ ⟨rfl, rfl, rfl, rfl, rfl, rfl, rfl, rfl, rfl, rfl, trivial⟩ ⟨rfl, trivial⟩
            · -- 15
              refine Stpx.eff rfl rfl (Eff.yld (Yld.extract rfl rfl rfl) rfl rfl) ?_
              refine ANx.all (rs := [14]) (by kernel_rfl) rfl ⟨?_, trivial⟩
              refine Stpx.eff rfl rfl (Eff.yld (Yld.extract rfl rfl rfl) rfl rfl) ?_
              refine ANx.take 16 rfl (by kernel_rfl) (by kernel_rfl) (by kernel_rfl) rfl rfl rfl (YldA.assign rfl) ?_
              refine ANx.take 17 rfl (by kernel_rfl) (by kernel_rfl) (by kernel_rfl) rfl rfl rfl (YldA.assign rfl) ?_
              rw [hpe]
              exact ANx.doneC () (by kernel_rfl) ⟨rfl, rfl, trivial⟩ ⟨rfl, trivial⟩ ⟨rfl, rfl, rfl, rfl, rfl, rfl, rfl, rfl, rfl, rfl, trivial⟩ ⟨rfl, trivial⟩
          · -- 12
            refine Stpx.effX rfl rfl (EffX.callW [] [] [] rfl rfl Tryd.call41 rfl (impl_stateOf_c (by assumption) (by omega) (by omega)) (.own rfl) rfl (fun _ => rfl) trivial rfl (fun _ => rfl) (fun _ => rfl)) ?_
            rintro _ ⟨⟨⟩, hu26, rfl⟩
            refine ANx.all (rs := [4]) (by kernel_rfl) rfl ⟨?_, trivial⟩
            refine Stpx.eff rfl rfl (Eff.yld (Yld.cat rfl rfl (by have := itoa_len (n := n) (by omega); simp only [List.length_cons, List.length_nil]; omega)) rfl rfl) ?_
            refine ANx.all (rs := [13]) (by kernel_rfl) rfl ⟨?_, trivial⟩
            refine Stpx.effX rfl rfl (EffX.callW [0] [] [0] rfl rfl Tryd.call39 rfl (impl_addVersion_c (by assumption) (by first | assumption | omega)) (.own rfl) rfl (fun _ => rfl) trivial rfl (fun _ => rfl) (fun _ => rfl)) ?_
            rintro _ ⟨⟨⟩, hu27, rfl⟩
            refine ANx.all (rs := [14, 15]) (by kernel_rfl) rfl ⟨?_, ?_, trivial⟩
            · -- 14
              refine Stpx.eff rfl rfl (Eff.yld (Yld.extract rfl rfl rfl) rfl rfl) ?_
              refine ANx.all (rs := [15]) (by kernel_rfl) rfl ⟨?_, trivial⟩
              refine Stpx.eff rfl rfl (Eff.yld (Yld.extract rfl rfl rfl) rfl rfl) ?_
              refine ANx.take 16 rfl (by kernel_rfl) (by kernel_rfl) (by kernel_rfl) rfl rfl rfl (YldA.assign rfl) ?_
              refine ANx.take 17 rfl (by kernel_rfl) (by kernel_rfl) (by kernel_rfl) rfl rfl rfl (YldA.assign rfl) ?_
              rw [hpe]
              exact ANx.doneC () (by kernel_rfl) ⟨rfl, rfl, trivial⟩ ⟨rfl, trivial⟩ ⟨rfl, rfl, rfl, rfl, rfl, rfl, rfl, rfl, rfl, rfl, trivial⟩ ⟨rfl, trivial⟩
            · -- 15
              refine Stpx.eff rfl rfl (Eff.yld (Yld.extract rfl rfl rfl) rfl rfl) ?_
              refine ANx.all (rs := [14]) (by kernel_rfl) rfl ⟨?_, trivial⟩
              refine Stpx.eff rfl rfl (Eff.yld (Yld.extract rfl rfl rfl) rfl rfl) ?_
              refine ANx.take 16 rfl (by kernel_rfl) (by kernel_rfl) (by kernel_rfl) rfl rfl rfl (YldA.assign rfl) ?_
              refine ANx.take 17 rfl (by kernel_rfl) (by kernel_rfl) (by kernel_rfl) rfl rfl rfl (YldA.assign rfl) ?_
              rw [hpe]
              exact ANx.doneC () (by kernel_rfl) ⟨rfl, rfl, trivial⟩ ⟨rfl, trivial⟩ ⟨rfl, rfl, rfl, rfl, rfl, rfl, rfl, rfl, rfl, rfl, trivial⟩ ⟨rfl, trivial⟩
      · -- behind
        rintro y
        refine FnE.ret () [0] [0] Tryd.results13 (RVs.cons (RV.tmp rfl) (RVs.cons (RV.tmp rfl) RVs.nil)) rfl rfl rfl ?_ ?_ ⟨⟨_, rfl, ?_⟩, trivial⟩
        · -- holds
          trivial
        · -- value
          refine tupE ?_; (try simp only [hM] at *); unfold undoVersion; first | (rw [if_pos hok, if_pos hin]; first | done | rfl) | (rw [if_pos hok, if_neg hno]; first | done | rfl) | (rw [if_neg hnk]; first | done | rfl)
        · -- thing 0
          exact nestE (by (try simp only [hM] at *); unfold undoVersion; first | (rw [if_pos hok, if_pos hin]; first | done | rfl) | (rw [if_pos hok, if_neg hno]; first | done | rfl) | (rw [if_neg hnk]; first | done | rfl))

end Go.Proofs.YtmnmaakaneaiaaaDoor
/- Files, machines, as text. -/
namespace Go.V
open Go
theorem media_name {x : NV} (h : okMedia x = true) : isName x.name = true ∧ 1 ≤ x.val ∧ x.val ≤ 100000 := by
  simp only [okMedia, Bool.and_eq_true, decide_eq_true_eq] at h; exact ⟨h.1, h.2⟩
def mediaText (x : NV) : List UInt8 := if okMedia x = true then x.name ++ [32] ++ Lib.itoa x.val else []
def machText (x : Mach) : List UInt8 := if okMachine x = true then x.name ++ [32] ++ Lib.itoa x.offset ++ [32] ++ Lib.itoa x.delay else []
theorem tab_lt {P : Program} {w : World} {name : String} {g : Nat} {k : IntKind} {zs : List Int} (hg : P.globalNamed name = some g) (h : Lib.TabIs P w name k zs) : g < w.heap.size := by
  unfold Lib.TabIs World.var? at h
  rw [hg] at h
  simp only [Option.bind_some] at h
  cases hh : w.heap[g]? with
  | none => rw [hh] at h; cases h
  | some o => exact (Array.getElem?_eq_some_iff.1 hh).1
end Go.V
/- Versions as text. -/
namespace Go.V
open Go
def okVerT (v : Ver) : Bool := (decide (1 ≤ v.number) && decide (v.number ≤ 32)) && (decide (0 ≤ v.parent) && decide (v.parent ≤ v.number - 1)) && okMemo v.memo && okState v.state
def setText (x : NV) : List UInt8 := [32] ++ x.name ++ [61] ++ Lib.itoa x.val
def verTo (v : Ver) (k : Nat) : List UInt8 := Lib.itoa v.number ++ [60] ++ Lib.itoa v.parent ++ ((v.state.take k).map setText).flatten
def memoText (m : List UInt8) : List UInt8 := if m = [] then [] else [32, 35, 32] ++ m
def verText (v : Ver) : List UInt8 := if okVerT v = true then verTo v v.state.length ++ memoText v.memo else []
theorem verTo_zero (v : Ver) : verTo v 0 = Lib.itoa v.number ++ [60] ++ Lib.itoa v.parent := by simp [verTo]
theorem verTo_succ {v : Ver} {k : Nat} {x : NV} (h : v.state[k]? = some x) : verTo v (k + 1) = verTo v k ++ setText x := by
  unfold verTo; rw [take_snoc h]; simp
theorem set_lim8 {xs : List NV} (h : okState xs = true) {x : NV} (hx : x ∈ xs) : x.name.length ≤ 1048576 ∧ 0 ≤ x.val ∧ x.val ≤ 1000 := by
  obtain ⟨k, hk⟩ := List.getElem?_of_mem hx
  have := okB_at (state_ok h) hk
  simp only [okSetting, Bool.and_eq_true, decide_eq_true_eq] at this
  obtain ⟨h1, h2⟩ := this
  refine ⟨?_, h2⟩
  unfold isName at h1; simp only [Bool.and_eq_true, decide_eq_true_eq] at h1; grind
theorem verT_lim {v : Ver} (h : okVerT v = true) : (1 ≤ v.number ∧ v.number ≤ 32) ∧ (0 ≤ v.parent ∧ v.parent ≤ v.number - 1) ∧ okMemo v.memo = true ∧ okState v.state = true := by
  simp only [okVerT, Bool.and_eq_true, decide_eq_true_eq] at h
  exact ⟨h.1.1.1, h.1.1.2, h.1.2, h.2⟩
theorem flat_len8 {f : NV → List UInt8} {m : Nat} : ∀ {xs : List NV}, (∀ x ∈ xs, (f x).length ≤ m) → ((xs.map f).flatten).length ≤ m * xs.length
  | [], _ => by simp
  | x :: xs, h => by
    have h1 := flat_len8 (f := f) (m := m) (xs := xs) (fun y hy => h y (by simp [hy]))
    have h2 := h x (by simp)
    simp only [List.map_cons, List.flatten_cons, List.length_append, List.length_cons]
    rw [Nat.mul_succ]; omega
theorem verTo_len {v : Ver} (h : okVerT v = true) (k : Nat) : (verTo v k).length ≤ 100000000 := by
  obtain ⟨h1, h2, h3, h4⟩ := verT_lim h
  have e1 := itoa_len (n := v.number) (by omega)
  have e2 := itoa_len (n := v.parent) (by omega)
  have e3 := flat_len8 (f := setText) (m := 1048700) (xs := v.state.take k) (fun x hx => by
    have h5 := set_lim8 h4 (List.mem_of_mem_take hx)
    have h6 := itoa_len (n := x.val) (by omega)
    unfold setText
    simp only [List.length_append, List.length_cons, List.length_nil]; omega)
  have e4 := state_len h4
  have e5 : (v.state.take k).length ≤ 24 := by rw [List.length_take]; omega
  have e6 := Nat.mul_le_mul_left 1048700 e5
  unfold verTo
  simp only [List.length_append, List.length_cons, List.length_nil]; omega
end Go.V
