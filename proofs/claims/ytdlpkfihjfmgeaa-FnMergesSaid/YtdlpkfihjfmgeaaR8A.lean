/- Contracts of functions of the program, each by a walk of its text in the calculus V. -/
import Derived.Test.YtdlpkfihjfmgeaaR5C
import Derived.Test.YtdlpkfihjfmgeaaD45
set_option linter.all false
set_option linter.unusedSimpArgs false
set_option linter.unnecessarySimpa false
set_option linter.unusedVariables false
namespace Go.Proofs.Ytdlpkfihjfmgeaa
open Go Go.V
theorem bld101 : BuildIs Try.prog 101 [(0, 1), (1, 1), (2, 1)] (.agg #[.slice none 0 0, .int .i64 0, .int .u64 0]) := by
  intro ps cells w h
  have h2 : Instr.fill (fun i => ([(0, 1), (1, 1), (2, 1)] : List (Nat × Nat))[i]?) #[.slice none 0 0, .int .i64 0, .int .u64 0] ps.toList = some cells := h
  simp [Instr.build, go_sem, Try.zeroValue101, run_underlying Try.underlying101, Try.sizeOf3, Try.sizeOf37, Try.sizeOf99, h2]

theorem src_next_c {code : List UInt8} {p sd : Int} (h0 : 0 ≤ p) (h1 : p ≤ 4611686018427387904) :
    FnE (α := Int × Int) Try.prog 93 [.h 0] [(0, .box 101 [.p (.sl 1 (code.map encB)), .p (.v (.int .i64 p)), .p (.v (.int .u64 sd))])] [0] (fun ⟨v, s⟩ => 0 ≤ v ∧ v ≤ 255) (fun ⟨v, s⟩ => .p (.v (.int .i64 v))) (fun ⟨v, s⟩ => [(0, .box 101 [.p (.sl 1 (code.map encB)), .p (.v (.int .i64 (p + 1))), .p (.v (.int .u64 s))])]) := by
  refine FnE.intro Try.func93 rfl Try.ntmps93 rfl rfl (fun w0 F0 η φ w => ?_)
  refine AC.seq ?_
  refine AC.region ?_
  refine AO.yld _ (Yld.assign rfl) rfl rfl rfl ?_
  refine AO.nil ?_
  refine AC.seq ?_
  refine AC.region ?_
  refine AO.yld _ (Yld.assign rfl) rfl rfl rfl ?_
  refine AO.nil ?_
  refine AC.seq ?_
  refine AC.seq ?_
  refine AC.draw (by kernel_rfl) (by kernel_rfl) ?_
  refine AO.yld _ (Yld.move rfl) rfl rfl rfl ?_
  refine AO.yld _ (Yld.nilCheck rfl rfl) rfl rfl rfl ?_
  refine AO.yld _ (Yld.fieldAddr Try.underlying101 rfl rfl Try.sizeOf3 rfl rfl rfl) rfl rfl rfl ?_
  refine AO.yld _ (Yld.load Try.isAgg3 rfl rfl) rfl rfl rfl ?_
  refine AO.yld _ (Yld.move rfl) rfl rfl rfl ?_
  refine AO.yld _ (Yld.nilCheck rfl rfl) rfl rfl rfl ?_
  refine AO.yld _ (Yld.fieldAddr Try.underlying101 rfl rfl Try.sizeOf37 rfl rfl rfl) rfl rfl rfl ?_
  refine AO.yld _ (Yld.load Try.isAgg37 rfl rfl) rfl rfl rfl ?_
  refine AO.yld _ (Yld.len Try.underlying37 rfl rfl) rfl rfl rfl ?_
  refine AO.yld _ (Yld.int rfl rfl rfl) rfl rfl rfl ?_
  refine AO.nil ?_
  refine AC.cond _ rfl (fun c13 => ?_) (fun c13 => ?_)
  · -- c13 True
    have hp : p < code.length := by have h := c13; simpa using h
    obtain ⟨c, hc⟩ := get_some (xs := code) (k := p.toNat) (by omega)
    have hrow := map_row (enc := encB) hc
    refine AC.draw (by kernel_rfl) (by kernel_rfl) ?_
    refine AO.yld _ (Yld.move rfl) rfl rfl rfl ?_
    refine AO.yld _ (Yld.nilCheck rfl rfl) rfl rfl rfl ?_
    refine AO.yld _ (Yld.fieldAddr Try.underlying101 rfl rfl Try.sizeOf37 rfl rfl rfl) rfl rfl rfl ?_
    refine AO.yld _ (Yld.load Try.isAgg37 rfl rfl) rfl rfl rfl ?_
    refine AO.yld _ (Yld.move rfl) rfl rfl rfl ?_
    refine AO.yld _ (Yld.nilCheck rfl rfl) rfl rfl rfl ?_
    refine AO.yld _ (Yld.fieldAddr Try.underlying101 rfl rfl Try.sizeOf3 rfl rfl rfl) rfl rfl rfl ?_
    refine AO.yld _ (Yld.load Try.isAgg3 rfl rfl) rfl rfl rfl ?_
    refine AO.yld _ (Yld.indexSl Try.underlying37 Try.sizeOf5 rfl rfl hrow (by omega)) rfl rfl rfl ?_
    refine AO.yld _ (Yld.load Try.isAgg5 rfl rfl) rfl rfl rfl ?_
    refine AO.yld _ (Yld.convInt Try.underlying5 Try.underlying3 rfl) rfl rfl rfl ?_
    refine AO.yld _ (Yld.assign rfl) rfl rfl rfl ?_
    refine AO.nil ?_
    refine AC.seq ?_
    refine AC.region ?_
    refine AO.yld _ (Yld.move rfl) rfl rfl rfl ?_
    refine AO.yld _ (Yld.nilCheck rfl rfl) rfl rfl rfl ?_
    refine AO.yld _ (Yld.fieldAddr Try.underlying101 rfl rfl Try.sizeOf3 rfl rfl rfl) rfl rfl rfl ?_
    refine AO.yld _ (Yld.load Try.isAgg3 rfl rfl) rfl rfl rfl ?_
    refine AO.yld _ (Yld.add rfl rfl (by omega) (by omega)) rfl rfl rfl ?_
    refine AO.yld _ (Yld.nilCheck rfl rfl) rfl rfl rfl ?_
    refine AO.yld _ (Yld.fieldAddr Try.underlying101 rfl rfl Try.sizeOf3 rfl rfl rfl) rfl rfl rfl ?_
    refine AO.store Try.sizeOf3 rfl rfl rfl rfl rfl rfl ?_
    refine AO.nil ?_
    refine AC.seq ?_
    refine AC.region ?_
    refine AO.yld _ (Yld.move rfl) rfl rfl rfl ?_
    refine AO.yld _ (Yld.move rfl) rfl rfl rfl ?_
    refine AO.yld _ (Yld.nilCheck rfl rfl) rfl rfl rfl ?_
    refine AO.yld _ (Yld.fieldAddr Try.underlying101 rfl rfl Try.sizeOf99 rfl rfl rfl) rfl rfl rfl ?_
    refine AO.yld _ (Yld.load Try.isAgg99 rfl rfl) rfl rfl rfl ?_
    refine AO.yld _ (Yld.int rfl rfl rfl) rfl rfl rfl ?_
    refine AO.yld _ (Yld.move rfl) rfl rfl rfl ?_
    refine AO.yld _ (Yld.convInt Try.underlying3 Try.underlying99 rfl) rfl rfl rfl ?_
    refine AO.yld _ (Yld.int rfl rfl rfl) rfl rfl rfl ?_
    refine AO.yld _ (Yld.int rfl rfl rfl) rfl rfl rfl ?_
    refine AO.yld _ (Yld.nilCheck rfl rfl) rfl rfl rfl ?_
    refine AO.yld _ (Yld.fieldAddr Try.underlying101 rfl rfl Try.sizeOf99 rfl rfl rfl) rfl rfl rfl ?_
    refine AO.store Try.sizeOf99 rfl rfl rfl rfl rfl rfl ?_
    refine AO.nil ?_
    refine AC.seq ?_
    refine AC.seq ?_
    refine AC.draw (by kernel_rfl) (by kernel_rfl) ?_
    refine AO.yld _ (Yld.move rfl) rfl rfl rfl ?_
    refine AO.yld _ (Yld.nilCheck rfl rfl) rfl rfl rfl ?_
    refine AO.yld _ (Yld.fieldAddr Try.underlying101 rfl rfl Try.sizeOf3 rfl rfl rfl) rfl rfl rfl ?_
    refine AO.yld _ (Yld.load Try.isAgg3 rfl rfl) rfl rfl rfl ?_
    refine AO.yld _ (Yld.move rfl) rfl rfl rfl ?_
    refine AO.yld _ (Yld.nilCheck rfl rfl) rfl rfl rfl ?_
    refine AO.yld _ (Yld.fieldAddr Try.underlying101 rfl rfl Try.sizeOf37 rfl rfl rfl) rfl rfl rfl ?_
    refine AO.yld _ (Yld.load Try.isAgg37 rfl rfl) rfl rfl rfl ?_
    refine AO.yld _ (Yld.len Try.underlying37 rfl rfl) rfl rfl rfl ?_
    refine AO.yld _ (Yld.int rfl rfl rfl) rfl rfl rfl ?_
    refine AO.nil ?_
    refine AC.cond _ rfl (fun c53 => ?_) (fun c53 => ?_)
    · -- c53 True
      refine AC.seq ?_
      refine AC.region ?_
      refine AO.yld _ (Yld.move rfl) rfl rfl rfl ?_
      refine AO.yld _ (Yld.assign rfl) rfl rfl rfl ?_
      refine AO.nil ?_
      refine FnE.ret (_, _) [0] [0] Try.results93 (RVs.cons (RV.tmp rfl) RVs.nil) rfl rfl rfl ?_ rfl ⟨⟨_, rfl, rfl⟩, trivial⟩
      · -- holds
        show 0 ≤ _ ∧ _ ≤ _; first | exact byte_u8 _ | exact byte_of _ | exact ⟨by decide, by decide⟩
    · -- c53 False
      refine AC.skip ?_
      refine AC.seq ?_
      refine AC.region ?_
      refine AO.yld _ (Yld.move rfl) rfl rfl rfl ?_
      refine AO.yld _ (Yld.nilCheck rfl rfl) rfl rfl rfl ?_
      refine AO.yld _ (Yld.fieldAddr Try.underlying101 rfl rfl Try.sizeOf99 rfl rfl rfl) rfl rfl rfl ?_
      refine AO.yld _ (Yld.load Try.isAgg99 rfl rfl) rfl rfl rfl ?_
      refine AO.yld _ (Yld.shr rfl rfl (by omega)) rfl rfl rfl ?_
      refine AO.yld _ (Yld.and rfl rfl) rfl rfl rfl ?_
      refine AO.yld _ (Yld.convInt Try.underlying99 Try.underlying2 rfl) rfl rfl rfl ?_
      refine AO.yld _ (Yld.assign rfl) rfl rfl rfl ?_
      refine AO.nil ?_
      refine FnE.ret (_, _) [0] [0] Try.results93 (RVs.cons (RV.tmp rfl) RVs.nil) rfl rfl rfl ?_ rfl ⟨⟨_, rfl, rfl⟩, trivial⟩
      · -- holds
        show 0 ≤ _ ∧ _ ≤ _; first | exact byte_u8 _ | exact byte_of _ | exact ⟨by decide, by decide⟩
  · -- c13 False
    refine AC.skip ?_
    refine AC.seq ?_
    refine AC.region ?_
    refine AO.yld _ (Yld.move rfl) rfl rfl rfl ?_
    refine AO.yld _ (Yld.nilCheck rfl rfl) rfl rfl rfl ?_
    refine AO.yld _ (Yld.fieldAddr Try.underlying101 rfl rfl Try.sizeOf3 rfl rfl rfl) rfl rfl rfl ?_
    refine AO.yld _ (Yld.load Try.isAgg3 rfl rfl) rfl rfl rfl ?_
    refine AO.yld _ (Yld.add rfl rfl (by omega) (by omega)) rfl rfl rfl ?_
    refine AO.yld _ (Yld.nilCheck rfl rfl) rfl rfl rfl ?_
    refine AO.yld _ (Yld.fieldAddr Try.underlying101 rfl rfl Try.sizeOf3 rfl rfl rfl) rfl rfl rfl ?_
    refine AO.store Try.sizeOf3 rfl rfl rfl rfl rfl rfl ?_
    refine AO.nil ?_
    refine AC.seq ?_
    refine AC.region ?_
    refine AO.yld _ (Yld.move rfl) rfl rfl rfl ?_
    refine AO.yld _ (Yld.move rfl) rfl rfl rfl ?_
    refine AO.yld _ (Yld.nilCheck rfl rfl) rfl rfl rfl ?_
    refine AO.yld _ (Yld.fieldAddr Try.underlying101 rfl rfl Try.sizeOf99 rfl rfl rfl) rfl rfl rfl ?_
    refine AO.yld _ (Yld.load Try.isAgg99 rfl rfl) rfl rfl rfl ?_
    refine AO.yld _ (Yld.int rfl rfl rfl) rfl rfl rfl ?_
    refine AO.yld _ (Yld.move rfl) rfl rfl rfl ?_
    refine AO.yld _ (Yld.convInt Try.underlying3 Try.underlying99 rfl) rfl rfl rfl ?_
    refine AO.yld _ (Yld.int rfl rfl rfl) rfl rfl rfl ?_
    refine AO.yld _ (Yld.int rfl rfl rfl) rfl rfl rfl ?_
    refine AO.yld _ (Yld.nilCheck rfl rfl) rfl rfl rfl ?_
    refine AO.yld _ (Yld.fieldAddr Try.underlying101 rfl rfl Try.sizeOf99 rfl rfl rfl) rfl rfl rfl ?_
    refine AO.store Try.sizeOf99 rfl rfl rfl rfl rfl rfl ?_
    refine AO.nil ?_
    refine AC.seq ?_
    refine AC.seq ?_
    refine AC.draw (by kernel_rfl) (by kernel_rfl) ?_
    refine AO.yld _ (Yld.move rfl) rfl rfl rfl ?_
    refine AO.yld _ (Yld.nilCheck rfl rfl) rfl rfl rfl ?_
    refine AO.yld _ (Yld.fieldAddr Try.underlying101 rfl rfl Try.sizeOf3 rfl rfl rfl) rfl rfl rfl ?_
    refine AO.yld _ (Yld.load Try.isAgg3 rfl rfl) rfl rfl rfl ?_
    refine AO.yld _ (Yld.move rfl) rfl rfl rfl ?_
    refine AO.yld _ (Yld.nilCheck rfl rfl) rfl rfl rfl ?_
    refine AO.yld _ (Yld.fieldAddr Try.underlying101 rfl rfl Try.sizeOf37 rfl rfl rfl) rfl rfl rfl ?_
    refine AO.yld _ (Yld.load Try.isAgg37 rfl rfl) rfl rfl rfl ?_
    refine AO.yld _ (Yld.len Try.underlying37 rfl rfl) rfl rfl rfl ?_
    refine AO.yld _ (Yld.int rfl rfl rfl) rfl rfl rfl ?_
    refine AO.nil ?_
    refine AC.cond _ rfl (fun c53 => ?_) (fun c53 => ?_)
    · -- c53 True
      refine AC.seq ?_
      refine AC.region ?_
      refine AO.yld _ (Yld.move rfl) rfl rfl rfl ?_
      refine AO.yld _ (Yld.assign rfl) rfl rfl rfl ?_
      refine AO.nil ?_
      refine FnE.ret (_, _) [0] [0] Try.results93 (RVs.cons (RV.tmp rfl) RVs.nil) rfl rfl rfl ?_ rfl ⟨⟨_, rfl, rfl⟩, trivial⟩
      · -- holds
        show 0 ≤ _ ∧ _ ≤ _; first | exact byte_u8 _ | exact byte_of _ | exact ⟨by decide, by decide⟩
    · -- c53 False
      refine AC.skip ?_
      refine AC.seq ?_
      refine AC.region ?_
      refine AO.yld _ (Yld.move rfl) rfl rfl rfl ?_
      refine AO.yld _ (Yld.nilCheck rfl rfl) rfl rfl rfl ?_
      refine AO.yld _ (Yld.fieldAddr Try.underlying101 rfl rfl Try.sizeOf99 rfl rfl rfl) rfl rfl rfl ?_
      refine AO.yld _ (Yld.load Try.isAgg99 rfl rfl) rfl rfl rfl ?_
      refine AO.yld _ (Yld.shr rfl rfl (by omega)) rfl rfl rfl ?_
      refine AO.yld _ (Yld.and rfl rfl) rfl rfl rfl ?_
      refine AO.yld _ (Yld.convInt Try.underlying99 Try.underlying2 rfl) rfl rfl rfl ?_
      refine AO.yld _ (Yld.assign rfl) rfl rfl rfl ?_
      refine AO.nil ?_
      refine FnE.ret (_, _) [0] [0] Try.results93 (RVs.cons (RV.tmp rfl) RVs.nil) rfl rfl rfl ?_ rfl ⟨⟨_, rfl, rfl⟩, trivial⟩
      · -- holds
        show 0 ≤ _ ∧ _ ≤ _; first | exact byte_u8 _ | exact byte_of _ | exact ⟨by decide, by decide⟩

theorem src_pick_c {code : List UInt8} {p sd n : Int} (h0 : 0 ≤ p) (h1 : p ≤ 4611686018427387000) (h2 : 1 < n) :
    FnE (α := Int × Int × Int) Try.prog 72 [.h 0, .p (.v (.int .i64 n))] [(0, .box 101 [.p (.sl 1 (code.map encB)), .p (.v (.int .i64 p)), .p (.v (.int .u64 sd))])] [0] (fun ⟨v, q, s⟩ => 0 ≤ v ∧ v < n ∧ p ≤ q ∧ q ≤ p + 2) (fun ⟨v, q, s⟩ => .p (.v (.int .i64 v))) (fun ⟨v, q, s⟩ => [(0, .box 101 [.p (.sl 1 (code.map encB)), .p (.v (.int .i64 q)), .p (.v (.int .u64 s))])]) := by
  refine FnE.intro Try.func72 rfl Try.ntmps72 rfl rfl (fun w0 F0 η φ w => ?_)
  refine AC.seq ?_
  refine AC.region ?_
  refine AO.yld _ (Yld.assign rfl) rfl rfl rfl ?_
  refine AO.nil ?_
  refine AC.seq ?_
  refine AC.seq ?_
  refine AC.region ?_
  refine AO.yld _ (Yld.move rfl) rfl rfl rfl ?_
  refine AO.yld _ (Yld.int rfl rfl rfl) rfl rfl rfl ?_
  refine AO.nil ?_
  refine AC.cond _ rfl (fun c7 => ?_) (fun c7 => ?_)
  · -- c7 True
    exfalso; have h := c7; simp at h; omega
  · -- c7 False
    refine AC.skip ?_
    refine AC.seq ?_
    refine AC.region ?_
    refine AO.yld _ (Yld.move rfl) rfl rfl rfl ?_
    refine AO.callW (wantedN rfl) [0] [0] [0] rfl rfl Try.call93 rfl (src_next_c (by omega) (by omega)) (.own rfl) rfl (fun ⟨_, _⟩ => rfl) ⟨rfl, trivial⟩ rfl (fun ⟨_, _⟩ => rfl) (fun ⟨_, _⟩ => rfl) (fun ⟨v9, s9⟩ hv9 => ?_)
    dsimp only at hv9
    refine AO.yld _ (Yld.assign rfl) rfl rfl rfl ?_
    refine AO.nil ?_
    refine AC.seq ?_
    refine AC.seq ?_
    refine AC.region ?_
    refine AO.yld _ (Yld.move rfl) rfl rfl rfl ?_
    refine AO.yld _ (Yld.int rfl rfl rfl) rfl rfl rfl ?_
    refine AO.nil ?_
    refine AC.cond _ rfl (fun c11 => ?_) (fun c11 => ?_)
    · -- c11 True
      refine AC.region ?_
      refine AO.yld _ (Yld.move rfl) rfl rfl rfl ?_
      refine AO.yld _ (Yld.mul rfl rfl (by omega) (by omega)) rfl rfl rfl ?_
      refine AO.yld _ (Yld.move rfl) rfl rfl rfl ?_
      refine AO.callW (wantedN rfl) [0] [0] [0] rfl rfl Try.call93 rfl (src_next_c (by omega) (by omega)) (.own rfl) rfl (fun ⟨_, _⟩ => rfl) ⟨rfl, trivial⟩ rfl (fun ⟨_, _⟩ => rfl) (fun ⟨_, _⟩ => rfl) (fun ⟨v15, s15⟩ hv15 => ?_)
      dsimp only at hv15
      refine AO.yld _ (Yld.add rfl rfl (by omega) (by omega)) rfl rfl rfl ?_
      refine AO.yld _ (Yld.assign rfl) rfl rfl rfl ?_
      refine AO.nil ?_
      refine AC.seq ?_
      refine AC.region ?_
      refine AO.yld _ (Yld.move rfl) rfl rfl rfl ?_
      refine AO.yld _ (Yld.move rfl) rfl rfl rfl ?_
      refine AO.yld _ (Yld.rem rfl rfl (by omega)) rfl rfl rfl ?_
      refine AO.yld _ (Yld.assign rfl) rfl rfl rfl ?_
      refine AO.nil ?_
      refine FnE.ret (_, _, _) [0] [0] Try.results72 (RVs.cons (RV.tmp rfl) RVs.nil) rfl rfl rfl ?_ rfl ⟨⟨_, rfl, rfl⟩, trivial⟩
      · -- holds
        show 0 ≤ _ ∧ _ < _ ∧ _ ≤ _ ∧ _ ≤ _; first | exact pick_lim hv9 (by omega) (by omega) | exact pick_lim2 hv9 hv15 (by omega) (by omega)
    · -- c11 False
      refine AC.skip ?_
      refine AC.seq ?_
      refine AC.region ?_
      refine AO.yld _ (Yld.move rfl) rfl rfl rfl ?_
      refine AO.yld _ (Yld.move rfl) rfl rfl rfl ?_
      refine AO.yld _ (Yld.rem rfl rfl (by omega)) rfl rfl rfl ?_
      refine AO.yld _ (Yld.assign rfl) rfl rfl rfl ?_
      refine AO.nil ?_
      refine FnE.ret (_, _, _) [0] [0] Try.results72 (RVs.cons (RV.tmp rfl) RVs.nil) rfl rfl rfl ?_ rfl ⟨⟨_, rfl, rfl⟩, trivial⟩
      · -- holds
        show 0 ≤ _ ∧ _ < _ ∧ _ ≤ _ ∧ _ ≤ _; first | exact pick_lim hv9 (by omega) (by omega) | exact pick_lim2 hv9 hv15 (by omega) (by omega)

theorem spec_l00From_c {code : List UInt8} :
    FnE (α := Unit) Try.prog 49 [.p (.sl 1 (code.map encB))] [] [] (fun _ => True) (fun _ => .h 0) (fun _ => [(0, .box 101 [.p (.sl 1 (code.map encB)), .p (.v (.int .i64 0)), .p (.v (.int .u64 0))])]) := by
  refine FnE.intro Try.func49 rfl Try.ntmps49 rfl rfl (fun w0 F0 η φ w => ?_)
  refine AC.seq ?_
  refine AC.region ?_
  refine AO.yld _ (Yld.assign rfl) rfl rfl rfl ?_
  refine AO.nil ?_
  refine AC.seq ?_
  refine AC.region ?_
  refine AO.yld _ (Yld.move rfl) rfl rfl rfl ?_
  refine AO.yld _ (Yld.buildA (zs := [.sl 0 [], .v (.int .i64 0), .v (.int .u64 0)]) bld101 rfl rfl) rfl rfl rfl ?_
  refine AO.box 0 rfl rfl rfl rfl rfl ?_
  refine AO.yld _ (Yld.assign rfl) rfl rfl rfl ?_
  refine AO.nil ?_
  refine FnE.ret () [0] [0] Try.results49 (RVs.cons (RV.tmp rfl) RVs.nil) rfl rfl rfl ?_ ?_ ⟨⟨_, rfl, ?_⟩, trivial⟩
  · -- holds
    trivial
  · -- value
    rfl
  · -- thing 0
    rfl

theorem src_pick1_c {code : List UInt8} {p sd n : Int} (h0 : 0 ≤ p) (h1 : p ≤ 4611686018427387000) (h2 : 0 < n) :
    FnE (α := Int × Int × Int) Try.prog 72 [.h 0, .p (.v (.int .i64 n))] [(0, .box 101 [.p (.sl 1 (code.map encB)), .p (.v (.int .i64 p)), .p (.v (.int .u64 sd))])] [0] (fun ⟨v, q, s⟩ => 0 ≤ v ∧ v < n ∧ p ≤ q ∧ q ≤ p + 2) (fun ⟨v, q, s⟩ => .p (.v (.int .i64 v))) (fun ⟨v, q, s⟩ => [(0, .box 101 [.p (.sl 1 (code.map encB)), .p (.v (.int .i64 q)), .p (.v (.int .u64 s))])]) := by
  refine FnE.intro Try.func72 rfl Try.ntmps72 rfl rfl (fun w0 F0 η φ w => ?_)
  refine AC.seq ?_
  refine AC.region ?_
  refine AO.yld _ (Yld.assign rfl) rfl rfl rfl ?_
  refine AO.nil ?_
  refine AC.seq ?_
  refine AC.seq ?_
  refine AC.region ?_
  refine AO.yld _ (Yld.move rfl) rfl rfl rfl ?_
  refine AO.yld _ (Yld.int rfl rfl rfl) rfl rfl rfl ?_
  refine AO.nil ?_
  refine AC.cond _ rfl (fun c7 => ?_) (fun c7 => ?_)
  · -- c7 True
    refine AC.seq ?_
    refine AC.region ?_
    refine AO.yld _ (Yld.assign rfl) rfl rfl rfl ?_
    refine AO.nil ?_
    refine FnE.ret (_, _, _) [0] [0] Try.results72 (RVs.cons (RV.tmp rfl) RVs.nil) rfl rfl rfl ?_ rfl ⟨⟨_, rfl, rfl⟩, trivial⟩
    · -- holds
      show 0 ≤ _ ∧ _ < _ ∧ _ ≤ _ ∧ _ ≤ _; first | exact pickR0 h2 | exact pick_lim hv9 (by have h := c7; simp at h; omega) (by omega) | exact pick_lim2 hv9 hv15 (by have h := c7; simp at h; omega) (by omega)
  · -- c7 False
    refine AC.skip ?_
    refine AC.seq ?_
    refine AC.region ?_
    refine AO.yld _ (Yld.move rfl) rfl rfl rfl ?_
    refine AO.callW (wantedN rfl) [0] [0] [0] rfl rfl Try.call93 rfl (src_next_c (by omega) (by omega)) (.own rfl) rfl (fun ⟨_, _⟩ => rfl) ⟨rfl, trivial⟩ rfl (fun ⟨_, _⟩ => rfl) (fun ⟨_, _⟩ => rfl) (fun ⟨v9, s9⟩ hv9 => ?_)
    dsimp only at hv9
    refine AO.yld _ (Yld.assign rfl) rfl rfl rfl ?_
    refine AO.nil ?_
    refine AC.seq ?_
    refine AC.seq ?_
    refine AC.region ?_
    refine AO.yld _ (Yld.move rfl) rfl rfl rfl ?_
    refine AO.yld _ (Yld.int rfl rfl rfl) rfl rfl rfl ?_
    refine AO.nil ?_
    refine AC.cond _ rfl (fun c11 => ?_) (fun c11 => ?_)
    · -- c11 True
      refine AC.region ?_
      refine AO.yld _ (Yld.move rfl) rfl rfl rfl ?_
      refine AO.yld _ (Yld.mul rfl rfl (by omega) (by omega)) rfl rfl rfl ?_
      refine AO.yld _ (Yld.move rfl) rfl rfl rfl ?_
      refine AO.callW (wantedN rfl) [0] [0] [0] rfl rfl Try.call93 rfl (src_next_c (by omega) (by omega)) (.own rfl) rfl (fun ⟨_, _⟩ => rfl) ⟨rfl, trivial⟩ rfl (fun ⟨_, _⟩ => rfl) (fun ⟨_, _⟩ => rfl) (fun ⟨v15, s15⟩ hv15 => ?_)
      dsimp only at hv15
      refine AO.yld _ (Yld.add rfl rfl (by omega) (by omega)) rfl rfl rfl ?_
      refine AO.yld _ (Yld.assign rfl) rfl rfl rfl ?_
      refine AO.nil ?_
      refine AC.seq ?_
      refine AC.region ?_
      refine AO.yld _ (Yld.move rfl) rfl rfl rfl ?_
      refine AO.yld _ (Yld.move rfl) rfl rfl rfl ?_
      refine AO.yld _ (Yld.rem rfl rfl (by have h := c7; simp at h; omega)) rfl rfl rfl ?_
      refine AO.yld _ (Yld.assign rfl) rfl rfl rfl ?_
      refine AO.nil ?_
      refine FnE.ret (_, _, _) [0] [0] Try.results72 (RVs.cons (RV.tmp rfl) RVs.nil) rfl rfl rfl ?_ rfl ⟨⟨_, rfl, rfl⟩, trivial⟩
      · -- holds
        show 0 ≤ _ ∧ _ < _ ∧ _ ≤ _ ∧ _ ≤ _; first | exact pickR0 h2 | exact pick_lim hv9 (by have h := c7; simp at h; omega) (by omega) | exact pick_lim2 hv9 hv15 (by have h := c7; simp at h; omega) (by omega)
    · -- c11 False
      refine AC.skip ?_
      refine AC.seq ?_
      refine AC.region ?_
      refine AO.yld _ (Yld.move rfl) rfl rfl rfl ?_
      refine AO.yld _ (Yld.move rfl) rfl rfl rfl ?_
      refine AO.yld _ (Yld.rem rfl rfl (by have h := c7; simp at h; omega)) rfl rfl rfl ?_
      refine AO.yld _ (Yld.assign rfl) rfl rfl rfl ?_
      refine AO.nil ?_
      refine FnE.ret (_, _, _) [0] [0] Try.results72 (RVs.cons (RV.tmp rfl) RVs.nil) rfl rfl rfl ?_ rfl ⟨⟨_, rfl, rfl⟩, trivial⟩
      · -- holds
        show 0 ≤ _ ∧ _ < _ ∧ _ ≤ _ ∧ _ ≤ _; first | exact pickR0 h2 | exact pick_lim hv9 (by have h := c7; simp at h; omega) (by omega) | exact pick_lim2 hv9 hv15 (by have h := c7; simp at h; omega) (by omega)

theorem src_one_c {code : List UInt8} {p sd n : Int} (h0 : 0 ≤ p) (h1 : p ≤ 2000000000000000000) (h2 : 1 < n) :
    FnE (α := Bool × Int × Int) Try.prog 71 [.h 0, .p (.v (.int .i64 n))] [(0, .box 101 [.p (.sl 1 (code.map encB)), .p (.v (.int .i64 p)), .p (.v (.int .u64 sd))])] [0] (fun ⟨b, q, s⟩ => p ≤ q ∧ q ≤ p + 2) (fun ⟨b, q, s⟩ => .p (.v (.bool b))) (fun ⟨b, q, s⟩ => [(0, .box 101 [.p (.sl 1 (code.map encB)), .p (.v (.int .i64 q)), .p (.v (.int .u64 s))])]) := by
  refine FnE.intro Try.func71 rfl Try.ntmps71 rfl rfl (fun w0 F0 η φ w => ?_)
  refine AC.seq ?_
  refine AC.region ?_
  refine AO.yld _ (Yld.assign rfl) rfl rfl rfl ?_
  refine AO.nil ?_
  refine AC.seq ?_
  refine AC.region ?_
  refine AO.yld _ (Yld.move rfl) rfl rfl rfl ?_
  refine AO.yld _ (Yld.move rfl) rfl rfl rfl ?_
  refine AO.callW (wantedN rfl) [0] [0] [0] rfl rfl Try.call72 rfl (src_pick_c (by omega) (by omega) (by omega)) (.own rfl) rfl (fun ⟨_, _, _⟩ => rfl) ⟨rfl, trivial⟩ rfl (fun ⟨_, _, _⟩ => rfl) (fun ⟨_, _, _⟩ => rfl) (fun ⟨v7, q7, s7⟩ hv7 => ?_)
  dsimp only at hv7
  refine AO.yld _ (Yld.int rfl rfl rfl) rfl rfl rfl ?_
  refine AO.yld _ (Yld.assign rfl) rfl rfl rfl ?_
  refine AO.nil ?_
  refine FnE.ret (_, _, _) [0] [0] Try.results71 (RVs.cons (RV.tmp rfl) RVs.nil) rfl rfl rfl ?_ rfl ⟨⟨_, rfl, rfl⟩, trivial⟩
  · -- holds
    show _ ≤ _ ∧ _ ≤ _; omega

theorem src_text_c {code : List UInt8} {p sd : Int} (h0 : 0 ≤ p) (h1 : p ≤ 2000000000000000000) {xs : List (List UInt8)} (hx : 1 < xs.length) (hl : xs.length ≤ 1000) :
    FnE (α := (List UInt8) × Int × Int) Try.prog 77 [.h 0, .h 1] [(0, .box 101 [.p (.sl 1 (code.map encB)), .p (.v (.int .i64 p)), .p (.v (.int .u64 sd))]), (1, .vec 9 1 (xs.map Go.V.encS))] [0] (fun ⟨v, q, s⟩ => v ∈ xs ∧ p ≤ q ∧ q ≤ p + 2) (fun ⟨v, q, s⟩ => .p (.v (str v))) (fun ⟨v, q, s⟩ => [(0, .box 101 [.p (.sl 1 (code.map encB)), .p (.v (.int .i64 q)), .p (.v (.int .u64 s))])]) := by
  have hM : (xs.map Go.V.encS).length = xs.length := List.length_map ..
  refine FnE.intro Try.func77 rfl Try.ntmps77 rfl rfl (fun w0 F0 η φ w => ?_)
  refine AC.seq ?_
  refine AC.region ?_
  refine AO.yld _ (Yld.assign rfl) rfl rfl rfl ?_
  refine AO.nil ?_
  refine AC.seq ?_
  refine AC.region ?_
  refine AO.yld _ (Yld.move rfl) rfl rfl rfl ?_
  refine AO.yld _ (Yld.move rfl) rfl rfl rfl ?_
  refine AO.yld _ (Yld.move rfl) rfl rfl rfl ?_
  refine AO.yld _ (Yld.len Try.underlying42 rfl rfl) rfl rfl rfl ?_
  refine AO.callW (wantedN rfl) [0] [0] [0] rfl rfl Try.call72 rfl (src_pick_c (by omega) (by omega) (by rw [hM]; omega)) (.own rfl) rfl (fun ⟨_, _, _⟩ => rfl) ⟨rfl, trivial⟩ rfl (fun ⟨_, _, _⟩ => rfl) (fun ⟨_, _, _⟩ => rfl) (fun ⟨v9, q9, s9⟩ hv9 => ?_)
  dsimp only at hv9
  rw [hM] at hv9
  obtain ⟨j, hj⟩ := Int.eq_ofNat_of_zero_le hv9.1
  obtain ⟨y, hy⟩ := get_some (xs := xs) (k := j) (by omega)
  have hrow := map_row (enc := Go.V.encS) hy
  refine AO.yld _ (Yld.indexVec Try.underlying42 Try.sizeOf9 rfl rfl rfl hj (by rw [hM]; omega)) rfl rfl rfl ?_
  refine AO.yld _ (Yld.load Try.isAgg9 rfl (Eq.trans (behind_el rfl hrow) rfl)) rfl rfl rfl ?_
  refine AO.yld _ (Yld.assign rfl) rfl rfl rfl ?_
  refine AO.nil ?_
  refine FnE.ret (_, _, _) [0] [0] Try.results77 (RVs.cons (RV.tmp rfl) RVs.nil) rfl rfl rfl ?_ rfl ⟨⟨_, rfl, rfl⟩, trivial⟩
  · -- holds
    exact ⟨List.mem_of_getElem? hy, by omega, by omega⟩

theorem spec_l27DrawState_c {code : List UInt8} {p sd : Int} (h0 : 0 ≤ p) (h1 : p ≤ 1000000000000000) :
    FnE (α := List NV × Int × Int) Try.prog 50 [.h 0] [(0, .box 101 [.p (.sl 1 (code.map encB)), .p (.v (.int .i64 p)), .p (.v (.int .u64 sd))])] [0] (fun ⟨ms, q, s⟩ => SG ms 5 ∧ p ≤ q ∧ q ≤ p + 20) (fun ⟨ms, q, s⟩ => .h 1) (fun ⟨ms, q, s⟩ => [(0, .box 101 [.p (.sl 1 (code.map encB)), .p (.v (.int .i64 q)), .p (.v (.int .u64 s))]), (1, .vec 62 2 (ms.map encNV))]) := by
  refine FnE.intro Try.func50 rfl Try.ntmps50 rfl rfl (fun w0 F0 η φ w => ?_)
  refine AC.seq ?_
  refine AC.region ?_
  refine AO.yld _ (Yld.assign rfl) rfl rfl rfl ?_
  refine AO.nil ?_
  refine AC.seq ?_
  refine AC.region ?_
  refine AO.buildSlice (rows := [[_], [_], [_], [_], [_]]) 1 Try.underlying42 ty9 rfl rfl rfl rfl rfl rfl rfl rfl rfl ?_
  refine AO.yld _ (Yld.assign rfl) rfl rfl rfl ?_
  refine AO.nil ?_
  refine AC.seq ?_
  refine AC.region ?_
  refine AO.buildSlice (rows := []) 2 Try.underlying26 ty62 rfl rfl rfl rfl rfl rfl rfl rfl rfl ?_
  refine AO.yld _ (Yld.assign rfl) rfl rfl rfl ?_
  refine AO.nil ?_
  refine AC.seq ?_
  refine AC.seq ?_
  refine AC.region ?_
  refine AO.yld _ (Yld.assign rfl) rfl rfl rfl ?_
  refine AO.nil ?_
  refine AC.block ?_
  refine AC.loopC4 [(0, _), (2, _), (3, _)] [(1, _), (900, _)] (fun (k : Nat) (ms : List NV) (q s : Int) => [(5, .p (.v (.int .i64 (k : Int)))), (4, .h 2)]) (fun (k : Nat) (ms : List NV) (q s : Int) => [(0, .box 101 [.p (.sl 1 (code.map encB)), .p (.v (.int .i64 q)), .p (.v (.int .u64 s))]), (2, .vec 62 2 (ms.map encNV))]) (fun (k : Nat) (ms : List NV) (q s : Int) => DrawnS ms k ∧ k ≤ 5 ∧ p ≤ q ∧ q ≤ p + 4 * k) (fun (k : Nat) (ms : List NV) (q s : Int) => 5 - k) 0 [] p sd ⟨rfl, rfl, rfl, trivial⟩ ⟨rfl, rfl, trivial⟩ ⟨rfl, rfl, trivial⟩ ⟨rfl, rfl, trivial⟩ ?_ (fun k ms q s hJ => ?_)
  · exact ⟨drawnS_nil, Nat.zero_le _, Int.le_refl _, by omega⟩
  · -- round
    refine AC.seq ?_
    refine AC.seq ?_
    refine AC.region ?_
    refine AO.yld _ (Yld.move rfl) rfl rfl rfl ?_
    refine AO.yld _ (Yld.int rfl rfl rfl) rfl rfl rfl ?_
    refine AO.nil ?_
    refine AC.cond _ rfl (fun c9 => ?_) (fun c9 => ?_)
    · -- c9 True
      have hml := hJ.1.1.len
      have hk : k < 5 := by have h := c9; simp only [decide_eq_true_eq] at h; omega
      have hrowN : ([[PV.v (.string ⟨#[97]⟩)], [PV.v (.string ⟨#[98]⟩)], [PV.v (.string ⟨#[99]⟩)], [PV.v (.string ⟨#[100]⟩)], [PV.v (.string ⟨#[101]⟩)]] : List (List PV))[k]? = some [.v (str [UInt8.ofNat (97 + k)])] := lett5 hk
      refine AC.skip ?_
      refine AC.seq ?_
      refine AC.block ?_
      refine AC.seq ?_
      refine AC.region ?_
      refine AO.yld _ (Yld.move rfl) rfl rfl rfl ?_
      refine AO.callW (wantedN rfl) [0] [0] [0] rfl rfl Try.call71 rfl (src_one_c (by omega) (by omega) (by omega)) (.own rfl) rfl (fun ⟨_, _, _⟩ => rfl) ⟨rfl, trivial⟩ rfl (fun ⟨_, _, _⟩ => rfl) (fun ⟨_, _, _⟩ => rfl) (fun ⟨b13, q13, s13⟩ hb13 => ?_)
      dsimp only at hb13
      refine AO.nil ?_
      refine AC.cond _ rfl (fun c13 => ?_) (fun c13 => ?_)
      · -- c13 True
        apply AC.drawAnyC (α := { y : Int × Int × Int // 0 ≤ y.1 ∧ y.1 < 1001 ∧ q13 ≤ y.2.1 ∧ y.2.1 ≤ q13 + 2 }) [(0, _), (2, _), (3, _), (5, _), (8, _), (9, _), (12, _), (13, _)] [(1, _), (900, _)] (fun y => [(4, .h 2)]) (fun y => [(0, .box 101 [.p (.sl 1 (code.map encB)), .p (.v (.int .i64 y.1.2.1)), .p (.v (.int .u64 y.1.2.2))]), (2, .vec 62 2 (ms.map encNV ++ [[.v (str [UInt8.ofNat (97 + k)]), .v (.int .i64 y.1.1)]]))]) (by kernel_rfl)
        · -- orders
          refine ANx.take 0 rfl (by kernel_rfl) (by kernel_rfl) (by kernel_rfl) rfl rfl rfl (YldA.move rfl) ?_
          refine ANx.take 1 rfl (by kernel_rfl) (by kernel_rfl) (by kernel_rfl) rfl rfl rfl (YldA.move rfl) ?_
          refine ANx.take 2 rfl (by kernel_rfl) (by kernel_rfl) (by kernel_rfl) rfl rfl rfl (YldA.move rfl) ?_
          refine ANx.take 3 rfl (by kernel_rfl) (by kernel_rfl) (by kernel_rfl) rfl rfl rfl (YldA.indexVec Try.underlying42 Try.sizeOf9 rfl rfl rfl rfl (by show k < 5; omega)) ?_
          refine ANx.take 5 rfl (by kernel_rfl) (by kernel_rfl) (by kernel_rfl) rfl rfl rfl (YldA.move rfl) ?_
          refine ANx.all (rs := [4, 6]) (by kernel_rfl) rfl ⟨?_, ?_, trivial⟩
          · -- 4
            refine Stpx.eff rfl rfl (Eff.yld (Yld.load Try.isAgg9 rfl (behind_el (rows := [[PV.v (.string ⟨#[97]⟩)], [PV.v (.string ⟨#[98]⟩)], [PV.v (.string ⟨#[99]⟩)], [PV.v (.string ⟨#[100]⟩)], [PV.v (.string ⟨#[101]⟩)]]) rfl hrowN)) rfl rfl) ?_
            refine ANx.all (rs := [6]) (by kernel_rfl) rfl ⟨?_, trivial⟩
            refine Stpx.effX rfl rfl (EffX.callW [0] [0] [0] rfl rfl Try.call72 rfl (src_pick_c (by omega) (by omega) (by omega)) (.own rfl) rfl (fun ⟨_, _, _⟩ => rfl) ⟨rfl, trivial⟩ rfl (fun ⟨_, _, _⟩ => rfl) (fun ⟨_, _, _⟩ => rfl)) ?_
            rintro _ ⟨⟨v20, q20, s20⟩, hv20, rfl⟩
            dsimp only at hv20
            refine ANx.all (rs := [7]) (by kernel_rfl) rfl ⟨?_, trivial⟩
            refine Stpx.eff rfl rfl (Eff.yld (Yld.buildA (zs := [.v (str []), .v (.int .i64 0)]) bld62 rfl rfl) rfl rfl) ?_
            refine ANx.all (rs := [8]) (by kernel_rfl) rfl ⟨?_, trivial⟩
            refine Stpx.eff rfl rfl (Eff.buildSlice (rows := [[_, _]]) 3 Try.underlying26 ty62 rfl rfl rfl rfl rfl rfl rfl rfl rfl) ?_
            refine ANx.all (rs := [9]) (by kernel_rfl) rfl ⟨?_, trivial⟩
            refine Stpx.eff rfl rfl (Eff.append 2 Try.underlying26 ty62 rfl rfl rfl rfl rfl rfl rfl (by simp [pvOne, str]) (by simp only [List.length_map, List.length_cons, List.length_nil, List.length_append]; omega) (by simp only [List.length_map, List.length_cons, List.length_nil, List.length_append]; omega) rfl) ?_
            refine ANx.take 10 rfl (by kernel_rfl) (by kernel_rfl) (by kernel_rfl) rfl rfl rfl (YldA.assign rfl) ?_
            exact ANx.doneC ⟨(v20, q20, s20), hv20⟩ (by kernel_rfl) ⟨rfl, trivial⟩ ⟨rfl, rfl, trivial⟩ ⟨rfl, rfl, rfl, rfl, rfl, rfl, rfl, rfl, trivial⟩ ⟨rfl, rfl, trivial⟩
          · -- 6
            refine Stpx.effX rfl rfl (EffX.callW [0] [0] [0] rfl rfl Try.call72 rfl (src_pick_c (by omega) (by omega) (by omega)) (.own rfl) rfl (fun ⟨_, _, _⟩ => rfl) ⟨rfl, trivial⟩ rfl (fun ⟨_, _, _⟩ => rfl) (fun ⟨_, _, _⟩ => rfl)) ?_
            rintro _ ⟨⟨v20, q20, s20⟩, hv20, rfl⟩
            dsimp only at hv20
            refine ANx.all (rs := [4]) (by kernel_rfl) rfl ⟨?_, trivial⟩
            refine Stpx.eff rfl rfl (Eff.yld (Yld.load Try.isAgg9 rfl (behind_el (rows := [[PV.v (.string ⟨#[97]⟩)], [PV.v (.string ⟨#[98]⟩)], [PV.v (.string ⟨#[99]⟩)], [PV.v (.string ⟨#[100]⟩)], [PV.v (.string ⟨#[101]⟩)]]) rfl hrowN)) rfl rfl) ?_
            refine ANx.all (rs := [7]) (by kernel_rfl) rfl ⟨?_, trivial⟩
            refine Stpx.eff rfl rfl (Eff.yld (Yld.buildA (zs := [.v (str []), .v (.int .i64 0)]) bld62 rfl rfl) rfl rfl) ?_
            refine ANx.all (rs := [8]) (by kernel_rfl) rfl ⟨?_, trivial⟩
            refine Stpx.eff rfl rfl (Eff.buildSlice (rows := [[_, _]]) 3 Try.underlying26 ty62 rfl rfl rfl rfl rfl rfl rfl rfl rfl) ?_
            refine ANx.all (rs := [9]) (by kernel_rfl) rfl ⟨?_, trivial⟩
            refine Stpx.eff rfl rfl (Eff.append 2 Try.underlying26 ty62 rfl rfl rfl rfl rfl rfl rfl (by simp [pvOne, str]) (by simp only [List.length_map, List.length_cons, List.length_nil, List.length_append]; omega) (by simp only [List.length_map, List.length_cons, List.length_nil, List.length_append]; omega) rfl) ?_
            refine ANx.take 10 rfl (by kernel_rfl) (by kernel_rfl) (by kernel_rfl) rfl rfl rfl (YldA.assign rfl) ?_
            exact ANx.doneC ⟨(v20, q20, s20), hv20⟩ (by kernel_rfl) ⟨rfl, trivial⟩ ⟨rfl, rfl, trivial⟩ ⟨rfl, rfl, rfl, rfl, rfl, rfl, rfl, rfl, trivial⟩ ⟨rfl, rfl, trivial⟩
        · -- behind
          rintro ⟨⟨v2, q2, s2⟩, hv2⟩
          dsimp only at hv2
          refine AC.mark ?_
          refine AC.region ?_
          refine AO.yld _ (Yld.move rfl) rfl rfl rfl ?_
          refine AO.yld _ (Yld.add rfl rfl (by omega) (by omega)) rfl rfl rfl ?_
          refine AO.yld _ (Yld.assign rfl) rfl rfl rfl ?_
          refine AO.nil ?_
          refine AC.back ⟨k + 1, ms ++ [⟨[UInt8.ofNat (97 + k)], v2⟩], q2, s2, ?_, ?_, ⟨?_, ?_, trivial⟩, ⟨?_, ?_, trivial⟩, ⟨rfl, rfl, rfl, trivial⟩, ⟨rfl, rfl, trivial⟩⟩
          · exact ⟨drawnS_add hJ.1 (by omega) (by omega) (by omega), by omega, by omega, by omega⟩
          · omega
          · rfl
          · rfl
          · rfl
          · rw [map_snoc]; rfl
      · -- c13 False
        refine AC.skip ?_
        refine AC.mark ?_
        refine AC.region ?_
        refine AO.yld _ (Yld.move rfl) rfl rfl rfl ?_
        refine AO.yld _ (Yld.add rfl rfl (by omega) (by omega)) rfl rfl rfl ?_
        refine AO.yld _ (Yld.assign rfl) rfl rfl rfl ?_
        refine AO.nil ?_
        refine AC.back ⟨k + 1, ms, q13, s13, ?_, ?_, ⟨?_, ?_, trivial⟩, ⟨?_, ?_, trivial⟩, ⟨rfl, rfl, rfl, trivial⟩, ⟨rfl, rfl, trivial⟩⟩
        · exact ⟨drawnS_up hJ.1, by omega, by omega, by omega⟩
        · omega
        · rfl
        · rfl
        · rfl
        · rfl
    · -- c9 False
      obtain rfl : k = 5 := by have h := c9; simp only [decide_eq_false_iff_not] at h; omega
      refine AC.exit rfl ?_
      refine AC.seq ?_
      refine AC.region ?_
      refine AO.yld _ (Yld.move rfl) rfl rfl rfl ?_
      refine AO.yld _ (Yld.assign rfl) rfl rfl rfl ?_
      refine AO.nil ?_
      refine FnE.ret (_, _, _) [0, 2] [0, 1] Try.results50 (RVs.cons (RV.tmp rfl) RVs.nil) rfl rfl rfl ?_ rfl ⟨⟨_, rfl, rfl⟩, ⟨_, rfl, rfl⟩, trivial⟩
      · -- holds
        exact ⟨hJ.1.1, hJ.2.2.1, by omega⟩

theorem spec_l27Changed_c {code : List UInt8} {p sd : Int} (h0 : 0 ≤ p) (h1 : p ≤ 1000000000000000) {xs : List NV} {m : Nat} (hx : SG xs m) (hm : m ≤ 24) :
    FnE (α := List NV × Int × Int) Try.prog 51 [.h 0, .p (.sl 2 (xs.map encNV))] [(0, .box 101 [.p (.sl 1 (code.map encB)), .p (.v (.int .i64 p)), .p (.v (.int .u64 sd))])] [0] (fun ⟨ms, q, s⟩ => SG ms (m + 3) ∧ p ≤ q ∧ q ≤ p + 30) (fun ⟨ms, q, s⟩ => .h 1) (fun ⟨ms, q, s⟩ => [(0, .box 101 [.p (.sl 1 (code.map encB)), .p (.v (.int .i64 q)), .p (.v (.int .u64 s))]), (1, .vec 62 2 (ms.map encNV))]) := by
  have hxl := hx.len
  refine FnE.intro Try.func51 rfl Try.ntmps51 rfl rfl (fun w0 F0 η φ w => ?_)
  refine AC.seq ?_
  refine AC.region ?_
  refine AO.yld _ (Yld.assign rfl) rfl rfl rfl ?_
  refine AO.nil ?_
  refine AC.seq ?_
  refine AC.region ?_
  refine AO.buildSlice (rows := []) 1 Try.underlying26 ty62 rfl rfl rfl rfl rfl rfl rfl rfl rfl ?_
  refine AO.yld _ (Yld.move rfl) rfl rfl rfl ?_
  refine AO.append 1 Try.underlying26 ty62 rfl rfl rfl rfl rfl rfl rfl (by intro r hr q hq; simp only [List.mem_map, encNV] at hr; obtain ⟨x, _, rfl⟩ := hr; simp only [List.mem_cons, List.not_mem_nil, or_false] at hq; rcases hq with rfl | rfl <;> rfl) (by simp only [List.length_map, List.length_cons, List.length_nil, List.length_append]; omega) (by simp only [List.length_map, List.length_cons, List.length_nil, List.length_append]; omega) rfl ?_
  refine AO.yld _ (Yld.assign rfl) rfl rfl rfl ?_
  refine AO.nil ?_
  refine AC.seq ?_
  refine AC.region ?_
  refine AO.buildSlice (rows := [[_], [_], [_], [_], [_], [_]]) 2 Try.underlying42 ty9 rfl rfl rfl rfl rfl rfl rfl rfl rfl ?_
  refine AO.yld _ (Yld.assign rfl) rfl rfl rfl ?_
  refine AO.nil ?_
  refine AC.seq ?_
  refine AC.seq ?_
  refine AC.region ?_
  refine AO.yld _ (Yld.move rfl) rfl rfl rfl ?_
  refine AO.callW (wantedN rfl) [0] [0] [0] rfl rfl Try.call72 rfl (src_pick_c (by omega) (by omega) (by omega)) (.own rfl) rfl (fun ⟨_, _, _⟩ => rfl) ⟨rfl, trivial⟩ rfl (fun ⟨_, _, _⟩ => rfl) (fun ⟨_, _, _⟩ => rfl) (fun ⟨v16, q16, s16⟩ hv16 => ?_)
  dsimp only at hv16
  refine AO.yld _ (Yld.assign rfl) rfl rfl rfl ?_
  refine AO.nil ?_
  refine AC.block ?_
  refine AC.loopC4 [(0, _), (4, _), (6, _)] [(2, _), (900, _)] (fun (k : Nat) (ms : List NV) (q s : Int) => [(7, .p (.v (.int .i64 (k : Int)))), (5, .h 1)]) (fun (k : Nat) (ms : List NV) (q s : Int) => [(0, .box 101 [.p (.sl 1 (code.map encB)), .p (.v (.int .i64 q)), .p (.v (.int .u64 s))]), (1, .vec 62 2 (ms.map encNV))]) (fun (k : Nat) (ms : List NV) (q s : Int) => SG ms (m + 3 - k) ∧ k ≤ 3 ∧ p ≤ q ∧ q ≤ p + 2 + 6 * (3 - k)) (fun (k : Nat) (ms : List NV) (q s : Int) => k) v16.toNat xs q16 s16 ⟨rfl, rfl, rfl, trivial⟩ ⟨rfl, rfl, trivial⟩ ⟨(by have : ((v16.toNat : Nat) : Int) = v16 := Int.toNat_of_nonneg hv16.1; rw [this]; rfl), rfl, trivial⟩ ⟨rfl, rfl, trivial⟩ ?_ (fun k ms q s hJ => ?_)
  · exact ⟨hx.up (by omega), by omega, by omega, by omega⟩
  · -- round
    refine AC.seq ?_
    refine AC.seq ?_
    refine AC.region ?_
    refine AO.yld _ (Yld.move rfl) rfl rfl rfl ?_
    refine AO.yld _ (Yld.int rfl rfl rfl) rfl rfl rfl ?_
    refine AO.nil ?_
    refine AC.cond _ rfl (fun c18 => ?_) (fun c18 => ?_)
    · -- c18 True
      have hk : 0 < k := by have h := c18; simp only [decide_eq_true_eq] at h; omega
      have hml := hJ.1.len
      refine AC.skip ?_
      refine AC.seq ?_
      refine AC.block ?_
      refine AC.seq ?_
      refine AC.region ?_
      refine AO.yld _ (Yld.move rfl) rfl rfl rfl ?_
      refine AO.yld _ (Yld.move rfl) rfl rfl rfl ?_
      refine AO.callW (wantedN rfl) [0] [0] [0] rfl rfl Try.call72 rfl (src_pick_c (by omega) (by omega) (by omega)) (.own rfl) rfl (fun ⟨_, _, _⟩ => rfl) ⟨rfl, trivial⟩ rfl (fun ⟨_, _, _⟩ => rfl) (fun ⟨_, _, _⟩ => rfl) (fun ⟨v23, q23, s23⟩ hv23 => ?_)
      dsimp only at hv23
      obtain ⟨jn, hjn⟩ := Int.eq_ofNat_of_zero_le hv23.1
      have hjn6 : jn < 6 := by omega
      have hrowN : ([[PV.v (.string ⟨#[97]⟩)], [PV.v (.string ⟨#[98]⟩)], [PV.v (.string ⟨#[99]⟩)], [PV.v (.string ⟨#[100]⟩)], [PV.v (.string ⟨#[101]⟩)], [PV.v (.string ⟨#[102]⟩)]] : List (List PV))[jn]? = some [.v (str [UInt8.ofNat (97 + jn)])] := lett_row hjn6
      refine AO.yld _ (Yld.indexVec Try.underlying42 Try.sizeOf9 rfl rfl rfl hjn (by show jn < 6; omega)) rfl rfl rfl ?_
      refine AO.yld _ (Yld.load Try.isAgg9 rfl (behind_el (rows := [[PV.v (.string ⟨#[97]⟩)], [PV.v (.string ⟨#[98]⟩)], [PV.v (.string ⟨#[99]⟩)], [PV.v (.string ⟨#[100]⟩)], [PV.v (.string ⟨#[101]⟩)], [PV.v (.string ⟨#[102]⟩)]]) rfl hrowN)) rfl rfl rfl ?_
      refine AO.yld _ (Yld.assign rfl) rfl rfl rfl ?_
      refine AO.nil ?_
      refine AC.seq ?_
      refine AC.region ?_
      refine AO.yld _ (Yld.move rfl) rfl rfl rfl ?_
      refine AO.yld _ (Yld.move rfl) rfl rfl rfl ?_
      refine AO.yld _ (Yld.call rfl rfl Try.call33 rfl rfl rfl (spec_l27At_c (by first | assumption | omega)) rfl) rfl rfl rfl ?_
      refine AO.yld _ (Yld.assign rfl) rfl rfl rfl ?_
      refine AO.nil ?_
      refine AC.seq ?_
      refine AC.region ?_
      refine AO.yld _ (Yld.move rfl) rfl rfl rfl ?_
      refine AO.yld _ (Yld.int rfl rfl rfl) rfl rfl rfl ?_
      refine AO.yld _ (Yld.move rfl) rfl rfl rfl ?_
      refine AO.splitAt 31 _ rfl (fun s31 => ?_) (fun s31 => ?_)
      · -- s31 True
        have hi0 : 0 ≤ idxOf (nameIs [UInt8.ofNat (97 + jn)]) ms := by have h := s31; simp only [decide_eq_true_eq] at h; omega
        have hil : idxOf (nameIs [UInt8.ofNat (97 + jn)]) ms < ms.length := idx_lim hi0
        obtain ⟨in9, hin⟩ := Int.eq_ofNat_of_zero_le hi0
        have hinl : in9 < ms.length := by omega
        rw [hin]
        refine AO.yldG _ (Yld.move rfl) rfl rfl rfl rfl rfl ?_
        refine AO.callW (wantedG rfl rfl rfl) [0] [0] [0] rfl rfl Try.call71 rfl (src_one_c (by omega) (by omega) (by omega)) (.own rfl) rfl (fun ⟨_, _, _⟩ => rfl) ⟨rfl, trivial⟩ rfl (fun ⟨_, _, _⟩ => rfl) (fun ⟨_, _, _⟩ => rfl) (fun ⟨b33, q33, s33⟩ hb33 => ?_)
        dsimp only at hb33
        refine AO.yld _ (Yld.pickT rfl rfl) rfl rfl rfl ?_
        refine AO.nil ?_
        refine AC.cond _ rfl (fun c34 => ?_) (fun c34 => ?_)
        · -- c34 True
          refine AC.seq ?_
          refine AC.region ?_
          refine AO.freeze 1 rfl ?_
          refine AO.buildSlice (rows := []) 1 Try.underlying26 ty62 rfl rfl rfl rfl rfl rfl rfl rfl rfl ?_
          refine AO.yld _ (Yld.move rfl) rfl rfl rfl ?_
          refine AO.yld _ (Yld.move rfl) rfl rfl rfl ?_
          refine AO.yld _ (Yld.sliceSl Try.underlying26 Try.sizeOf62 rfl .none (.some (n := in9) rfl (by omega)) (by omega) (by rw [List.length_map]; omega)) rfl rfl rfl ?_
          refine AO.append 1 Try.underlying26 ty62 rfl rfl rfl rfl rfl rfl rfl (by intro r hr q hq; obtain ⟨x, _, rfl⟩ := List.mem_map.1 (List.mem_of_mem_take (List.mem_of_mem_drop hr)); simp only [encNV, List.mem_cons, List.not_mem_nil, or_false] at hq; rcases hq with rfl | rfl <;> rfl) (by simp only [List.length_map, List.length_cons, List.length_nil, List.length_append, List.length_drop, List.length_take]; omega) (by simp only [List.length_map, List.length_cons, List.length_nil, List.length_append, List.length_drop, List.length_take]; omega) rfl ?_
          refine AO.yld _ (Yld.assign rfl) rfl rfl rfl ?_
          refine AO.nil ?_
          refine AC.region ?_
          refine AO.yld _ (Yld.move rfl) rfl rfl rfl ?_
          refine AO.yld _ (Yld.move rfl) rfl rfl rfl ?_
          refine AO.yld _ (Yld.move rfl) rfl rfl rfl ?_
          refine AO.yld _ (Yld.add rfl rfl (by omega) (by omega)) rfl rfl rfl ?_
          refine AO.yld _ (Yld.sliceSl Try.underlying26 Try.sizeOf62 rfl (.some (n := in9 + 1) rfl (by omega)) .none (by rw [List.length_map]; omega) (Nat.le_refl _)) rfl rfl rfl ?_
          refine AO.append 1 Try.underlying26 ty62 rfl rfl rfl rfl rfl rfl rfl (by intro r hr q hq; obtain ⟨x, _, rfl⟩ := List.mem_map.1 (List.mem_of_mem_take (List.mem_of_mem_drop hr)); simp only [encNV, List.mem_cons, List.not_mem_nil, or_false] at hq; rcases hq with rfl | rfl <;> rfl) (by simp only [List.length_map, List.length_cons, List.length_nil, List.length_append, List.length_drop, List.length_take]; omega) (by simp only [List.length_map, List.length_cons, List.length_nil, List.length_append, List.length_drop, List.length_take]; omega) rfl ?_
          refine AO.yld _ (Yld.assign rfl) rfl rfl rfl ?_
          refine AO.nil ?_
          refine AC.mark ?_
          refine AC.region ?_
          refine AO.yld _ (Yld.move rfl) rfl rfl rfl ?_
          refine AO.yld _ (Yld.sub rfl rfl (by omega) (by omega)) rfl rfl rfl ?_
          refine AO.yld _ (Yld.assign rfl) rfl rfl rfl ?_
          refine AO.nil ?_
          refine AC.back ⟨k - 1, ms.take in9 ++ ms.drop (in9 + 1), q33, s33, ?_, ?_, ⟨?_, ?_, trivial⟩, ⟨?_, ?_, trivial⟩, ⟨rfl, rfl, rfl, trivial⟩, ⟨rfl, rfl, trivial⟩⟩
          · exact ⟨(hJ.1.del in9).up (by omega), by omega, by omega, by omega⟩
          · omega
          · show some (AV.p (PV.v (Value.int IntKind.i64 _))) = _; congr 4; omega
          · rfl
          · rfl
          · refine congrArg some (vecE ?_); rw [List.take_length]; simp
        · -- c34 False
          refine AC.region ?_
          refine AO.yld _ (Yld.move rfl) rfl rfl rfl ?_
          refine AO.yld _ (Yld.move rfl) rfl rfl rfl ?_
          refine AO.yld _ (Yld.move rfl) rfl rfl rfl ?_
          refine AO.callW (wantedN rfl) [0] [0] [0] rfl rfl Try.call72 rfl (src_pick_c (by omega) (by omega) (by omega)) (.own rfl) rfl (fun ⟨_, _, _⟩ => rfl) ⟨rfl, trivial⟩ rfl (fun ⟨_, _, _⟩ => rfl) (fun ⟨_, _, _⟩ => rfl) (fun ⟨v49, q49, s49⟩ hv49 => ?_)
          dsimp only at hv49
          refine AO.yld _ (Yld.buildA (zs := [.v (str []), .v (.int .i64 0)]) bld62 rfl rfl) rfl rfl rfl ?_
          refine AO.freeze 1 rfl ?_
          refine AO.callW (wantedN rfl) [1] [] [0] rfl rfl Try.call32 rfl (spec_l27Set_c (xs := ms) (e := ⟨[UInt8.ofNat (97 + jn)], v49⟩) hJ.1.rise (by have := hJ.1.len; omega)) (.flat (.view rfl rfl (.own rfl .nil)) (fun _ => by simp [AV.Flat, AV.FlatL, PV.Flat, PV.FlatL]) (fun _ => ⟨flat_map flatNV _, trivial⟩)) rfl (fun _ => rfl) trivial rfl (fun _ => rfl) (fun _ => rfl) (fun _ _ => ?_)
          refine AO.yld _ (Yld.assign rfl) rfl rfl rfl ?_
          refine AO.nil ?_
          refine AC.mark ?_
          refine AC.region ?_
          refine AO.yld _ (Yld.move rfl) rfl rfl rfl ?_
          refine AO.yld _ (Yld.sub rfl rfl (by omega) (by omega)) rfl rfl rfl ?_
          refine AO.yld _ (Yld.assign rfl) rfl rfl rfl ?_
          refine AO.nil ?_
          refine AC.back ⟨k - 1, setL ms ⟨[UInt8.ofNat (97 + jn)], v49⟩, q49, s49, ?_, ?_, ⟨?_, ?_, trivial⟩, ⟨?_, ?_, trivial⟩, ⟨rfl, rfl, rfl, trivial⟩, ⟨rfl, rfl, trivial⟩⟩
          · exact ⟨(hJ.1.set (set_ok hjn6 (by omega) (by omega))).up (by omega), by omega, by omega, by omega⟩
          · omega
          · show some (AV.p (PV.v (Value.int IntKind.i64 _))) = _; congr 4; omega
          · rfl
          · rfl
          · rfl
      · -- s31 False
        refine AO.skipT rfl rfl rfl rfl rfl ?_
        refine AO.skipT rfl rfl rfl rfl rfl ?_
        refine AO.yld _ (Yld.pickF rfl rfl) rfl rfl rfl ?_
        refine AO.nil ?_
        refine AC.condF rfl ?_
        refine AC.region ?_
        refine AO.yld _ (Yld.move rfl) rfl rfl rfl ?_
        refine AO.yld _ (Yld.move rfl) rfl rfl rfl ?_
        refine AO.yld _ (Yld.move rfl) rfl rfl rfl ?_
        refine AO.callW (wantedN rfl) [0] [0] [0] rfl rfl Try.call72 rfl (src_pick_c (by omega) (by omega) (by omega)) (.own rfl) rfl (fun ⟨_, _, _⟩ => rfl) ⟨rfl, trivial⟩ rfl (fun ⟨_, _, _⟩ => rfl) (fun ⟨_, _, _⟩ => rfl) (fun ⟨v49, q49, s49⟩ hv49 => ?_)
        dsimp only at hv49
        refine AO.yld _ (Yld.buildA (zs := [.v (str []), .v (.int .i64 0)]) bld62 rfl rfl) rfl rfl rfl ?_
        refine AO.freeze 1 rfl ?_
        refine AO.callW (wantedN rfl) [1] [] [0] rfl rfl Try.call32 rfl (spec_l27Set_c (xs := ms) (e := ⟨[UInt8.ofNat (97 + jn)], v49⟩) hJ.1.rise (by have := hJ.1.len; omega)) (.flat (.view rfl rfl (.own rfl .nil)) (fun _ => by simp [AV.Flat, AV.FlatL, PV.Flat, PV.FlatL]) (fun _ => ⟨flat_map flatNV _, trivial⟩)) rfl (fun _ => rfl) trivial rfl (fun _ => rfl) (fun _ => rfl) (fun _ _ => ?_)
        refine AO.yld _ (Yld.assign rfl) rfl rfl rfl ?_
        refine AO.nil ?_
        refine AC.mark ?_
        refine AC.region ?_
        refine AO.yld _ (Yld.move rfl) rfl rfl rfl ?_
        refine AO.yld _ (Yld.sub rfl rfl (by omega) (by omega)) rfl rfl rfl ?_
        refine AO.yld _ (Yld.assign rfl) rfl rfl rfl ?_
        refine AO.nil ?_
        refine AC.back ⟨k - 1, setL ms ⟨[UInt8.ofNat (97 + jn)], v49⟩, q49, s49, ?_, ?_, ⟨?_, ?_, trivial⟩, ⟨?_, ?_, trivial⟩, ⟨rfl, rfl, rfl, trivial⟩, ⟨rfl, rfl, trivial⟩⟩
        · exact ⟨(hJ.1.set (set_ok hjn6 (by omega) (by omega))).up (by omega), by omega, by omega, by omega⟩
        · omega
        · show some (AV.p (PV.v (Value.int IntKind.i64 _))) = _; congr 4; omega
        · rfl
        · rfl
        · rfl
    · -- c18 False
      obtain rfl : k = 0 := by have h := c18; simp only [decide_eq_false_iff_not] at h; omega
      refine AC.exit rfl ?_
      refine AC.seq ?_
      refine AC.region ?_
      refine AO.yld _ (Yld.move rfl) rfl rfl rfl ?_
      refine AO.yld _ (Yld.assign rfl) rfl rfl rfl ?_
      refine AO.nil ?_
      refine FnE.ret (_, _, _) [0, 1] [0, 1] Try.results51 (RVs.cons (RV.tmp rfl) RVs.nil) rfl rfl rfl ?_ rfl ⟨⟨_, rfl, rfl⟩, ⟨_, rfl, rfl⟩, trivial⟩
      · -- holds
        exact ⟨hJ.1.up (by omega), by omega, by omega⟩

theorem spec_R8State_c {code : List UInt8} :
    FnE (α := List NV) Try.prog 17 [.p (.sl 1 (code.map encB))] [] [] (fun ms => SG ms 5) (fun ms => .h 0) (fun ms => [(0, .vec 62 2 (ms.map encNV))]) := by
  refine FnE.intro Try.func17 rfl Try.ntmps17 rfl rfl (fun w0 F0 η φ w => ?_)
  refine AC.seq ?_
  refine AC.region ?_
  refine AO.yld _ (Yld.assign rfl) rfl rfl rfl ?_
  refine AO.nil ?_
  refine AC.seq ?_
  refine AC.region ?_
  refine AO.yld _ (Yld.move rfl) rfl rfl rfl ?_
  refine AO.callW (wantedN rfl) [0] [] [0] rfl rfl Try.call49 rfl (spec_l00From_c) (.own rfl) rfl (fun _ => rfl) trivial rfl (fun _ => rfl) (fun _ => rfl) (fun _ _ => ?_)
  refine AO.yld _ (Yld.assign rfl) rfl rfl rfl ?_
  refine AO.nil ?_
  refine AC.seq ?_
  refine AC.region ?_
  refine AO.yld _ (Yld.move rfl) rfl rfl rfl ?_
  refine AO.callW (wantedN rfl) [0, 1] [0] [0, 1] rfl rfl Try.call50 rfl (spec_l27DrawState_c (by omega) (by omega)) (.own rfl) rfl (fun ⟨_, _, _⟩ => rfl) ⟨rfl, trivial⟩ rfl (fun ⟨_, _, _⟩ => rfl) (fun ⟨_, _, _⟩ => rfl) (fun ⟨ms7, q7, s7⟩ hms7 => ?_)
  dsimp only at hms7
  refine AO.yld _ (Yld.assign rfl) rfl rfl rfl ?_
  refine AO.nil ?_
  refine FnE.ret _ [1] [0] Try.results17 (RVs.cons (RV.tmp rfl) RVs.nil) rfl rfl rfl ?_ rfl ⟨⟨_, rfl, rfl⟩, trivial⟩
  · -- holds
    exact hms7.1

theorem spec_R8Changed_c {code : List UInt8} {xs : List NV} {m : Nat} (hx : SG xs m) (hm : m ≤ 24) :
    FnE (α := List NV) Try.prog 18 [.p (.sl 1 (code.map encB)), .p (.sl 2 (xs.map encNV))] [] [] (fun ms => SG ms (m + 3)) (fun ms => .h 0) (fun ms => [(0, .vec 62 2 (ms.map encNV))]) := by
  refine FnE.intro Try.func18 rfl Try.ntmps18 rfl rfl (fun w0 F0 η φ w => ?_)
  refine AC.seq ?_
  refine AC.region ?_
  refine AO.yld _ (Yld.assign rfl) rfl rfl rfl ?_
  refine AO.nil ?_
  refine AC.seq ?_
  refine AC.region ?_
  refine AO.yld _ (Yld.move rfl) rfl rfl rfl ?_
  refine AO.callW (wantedN rfl) [0] [] [0] rfl rfl Try.call49 rfl (spec_l00From_c) (.own rfl) rfl (fun _ => rfl) trivial rfl (fun _ => rfl) (fun _ => rfl) (fun _ _ => ?_)
  refine AO.yld _ (Yld.assign rfl) rfl rfl rfl ?_
  refine AO.nil ?_
  refine AC.seq ?_
  refine AC.region ?_
  refine AO.yld _ (Yld.move rfl) rfl rfl rfl ?_
  refine AO.yld _ (Yld.move rfl) rfl rfl rfl ?_
  refine AO.callW (wantedN rfl) [0, 1] [0] [0, 1] rfl rfl Try.call51 rfl (spec_l27Changed_c (by omega) (by omega) hx (by omega)) (.own rfl) rfl (fun ⟨_, _, _⟩ => rfl) ⟨rfl, trivial⟩ rfl (fun ⟨_, _, _⟩ => rfl) (fun ⟨_, _, _⟩ => rfl) (fun ⟨ms10, q10, s10⟩ hms10 => ?_)
  dsimp only at hms10
  refine AO.yld _ (Yld.assign rfl) rfl rfl rfl ?_
  refine AO.nil ?_
  refine FnE.ret _ [1] [0] Try.results18 (RVs.cons (RV.tmp rfl) RVs.nil) rfl rfl rfl ?_ rfl ⟨⟨_, rfl, rfl⟩, trivial⟩
  · -- holds
    exact hms10.1

theorem spec_l27Draw_c {code : List UInt8} {p sd : Int} (h0 : 0 ≤ p) (h1 : p ≤ 1000000000000) :
    FnE (α := List Ver × Int × Int) Try.prog 54 [.h 0] [(0, .box 101 [.p (.sl 1 (code.map encB)), .p (.v (.int .i64 p)), .p (.v (.int .u64 sd))])] [0] (fun ⟨vs, q, s⟩ => HG vs) (fun ⟨vs, q, s⟩ => .h 1) (fun ⟨vs, q, s⟩ => [(0, .box 101 [.p (.sl 1 (code.map encB)), .p (.v (.int .i64 q)), .p (.v (.int .u64 s))]), (1, .vec 109 4 (vs.map encVer))]) := by
  refine FnE.intro Try.func54 rfl Try.ntmps54 rfl rfl (fun w0 F0 η φ w => ?_)
  refine AC.seq ?_
  refine AC.region ?_
  refine AO.yld _ (Yld.assign rfl) rfl rfl rfl ?_
  refine AO.nil ?_
  refine AC.seq ?_
  refine AC.region ?_
  refine AO.buildSlice (rows := []) 1 Try.underlying46 ty109 rfl rfl rfl rfl rfl rfl rfl rfl rfl ?_
  refine AO.yld _ (Yld.assign rfl) rfl rfl rfl ?_
  refine AO.nil ?_
  refine AC.seq ?_
  refine AC.seq ?_
  refine AC.region ?_
  refine AO.yld _ (Yld.move rfl) rfl rfl rfl ?_
  refine AO.callW (wantedN rfl) [0] [0] [0] rfl rfl Try.call72 rfl (src_pick_c (by omega) (by omega) (by omega)) (.own rfl) rfl (fun ⟨_, _, _⟩ => rfl) ⟨rfl, trivial⟩ rfl (fun ⟨_, _, _⟩ => rfl) (fun ⟨_, _, _⟩ => rfl) (fun ⟨v11, q11, s11⟩ hv11 => ?_)
  dsimp only at hv11
  refine AO.yld _ (Yld.assign rfl) rfl rfl rfl ?_
  refine AO.nil ?_
  refine AC.block ?_
  refine AC.loopC4 [(0, _), (2, _)] [(900, _)] (fun (k : Nat) (vs : List Ver) (q s : Int) => [(4, .p (.v (.int .i64 (k : Int)))), (3, .h 1)]) (fun (k : Nat) (vs : List Ver) (q s : Int) => [(0, .box 101 [.p (.sl 1 (code.map encB)), .p (.v (.int .i64 q)), .p (.v (.int .u64 s))]), (1, .vec 109 4 (vs.map encVer))]) (fun (k : Nat) (vs : List Ver) (q s : Int) => HG vs ∧ vs.length + k ≤ 5 ∧ p ≤ q ∧ q ≤ p + 2 + 100 * vs.length) (fun (k : Nat) (vs : List Ver) (q s : Int) => k) v11.toNat [] q11 s11 ⟨rfl, rfl, trivial⟩ ⟨rfl, trivial⟩ ⟨(by have : ((v11.toNat : Nat) : Int) = v11 := Int.toNat_of_nonneg hv11.1; rw [this]; rfl), rfl, trivial⟩ ⟨rfl, rfl, trivial⟩ ?_ (fun k vs q s hJ => ?_)
  · exact ⟨HG.nil, by show 0 + _ ≤ 5; omega, by omega, by show _ ≤ _ + 2 + 100 * (0 : Int); omega⟩
  · -- round
    refine AC.seq ?_
    refine AC.seq ?_
    refine AC.region ?_
    refine AO.yld _ (Yld.move rfl) rfl rfl rfl ?_
    refine AO.yld _ (Yld.int rfl rfl rfl) rfl rfl rfl ?_
    refine AO.nil ?_
    refine AC.cond _ rfl (fun c13 => ?_) (fun c13 => ?_)
    · -- c13 True
      have hM : (vs.map encVer).length = vs.length := List.length_map ..
      have hk : 0 < k := by have h := c13; simp only [decide_eq_true_eq] at h; omega
      refine AC.skip ?_
      refine AC.seq ?_
      refine AC.block ?_
      refine AC.seq ?_
      refine AC.region ?_
      refine AO.yld _ (Yld.move rfl) rfl rfl rfl ?_
      refine AO.yld _ (Yld.len Try.underlying46 rfl rfl) rfl rfl rfl ?_
      refine AO.yld _ (Yld.assign rfl) rfl rfl rfl ?_
      refine AO.nil ?_
      refine AC.seq ?_
      refine AC.region ?_
      refine AO.yld _ (Yld.move rfl) rfl rfl rfl ?_
      refine AO.yld _ (Yld.move rfl) rfl rfl rfl ?_
      refine AO.yld _ (Yld.add rfl rfl (by omega) (by omega)) rfl rfl rfl ?_
      refine AO.callW (wantedN rfl) [0] [0] [0] rfl rfl Try.call72 rfl (src_pick1_c (by omega) (by omega) (by simp only [List.length_map]; omega)) (.own rfl) rfl (fun ⟨_, _, _⟩ => rfl) ⟨rfl, trivial⟩ rfl (fun ⟨_, _, _⟩ => rfl) (fun ⟨_, _, _⟩ => rfl) (fun ⟨v21, q21, s21⟩ hv21 => ?_)
      dsimp only at hv21
      rw [List.length_map] at hv21
      refine AO.yld _ (Yld.assign rfl) rfl rfl rfl ?_
      refine AO.nil ?_
      refine AC.seq ?_
      refine AC.region ?_
      refine AO.yld _ (Yld.move rfl) rfl rfl rfl ?_
      refine AO.callW (wantedN rfl) [0, 2] [0] [0, 1] rfl rfl Try.call50 rfl (spec_l27DrawState_c (by omega) (by omega)) (.own rfl) rfl (fun ⟨_, _, _⟩ => rfl) ⟨rfl, trivial⟩ rfl (fun ⟨_, _, _⟩ => rfl) (fun ⟨_, _, _⟩ => rfl) (fun ⟨ms23, q23, s23⟩ hms23 => ?_)
      dsimp only at hms23
      refine AO.yld _ (Yld.assign rfl) rfl rfl rfl ?_
      refine AO.nil ?_
      refine AC.seq ?_
      refine AC.seq ?_
      refine AC.region ?_
      refine AO.yld _ (Yld.move rfl) rfl rfl rfl ?_
      refine AO.freeze 2 rfl ?_
      refine AO.yld _ (Yld.int rfl rfl rfl) rfl rfl rfl ?_
      refine AO.nil ?_
      refine AC.cond _ rfl (fun c25 => ?_) (fun c25 => ?_)
      · -- c25 True
        have hp0 : 0 < v21 := by have h := c25; simp only [decide_eq_true_eq] at h; omega
        obtain ⟨pn, hpn⟩ : ∃ n : Nat, v21 - 1 = (n : Int) := ⟨(v21 - 1).toNat, by omega⟩
        obtain ⟨px, hpx⟩ := get_some (xs := vs) (k := pn) (by omega)
        have hrow := map_row (enc := encVer) hpx
        refine AC.region ?_
        refine AO.yld _ (Yld.move rfl) rfl rfl rfl ?_
        refine AO.yld _ (Yld.move rfl) rfl rfl rfl ?_
        refine AO.yld _ (Yld.move rfl) rfl rfl rfl ?_
        refine AO.yld _ (Yld.sub rfl rfl (by omega) (by omega)) rfl rfl rfl ?_
        refine AO.yld _ (Yld.indexVec Try.underlying46 Try.sizeOf109 rfl rfl rfl (show _ = ((pn : Nat) : Int) by omega) (by rw [List.length_map]; omega)) rfl rfl rfl ?_
        refine AO.yld _ (Yld.fieldAddr Try.underlying109 rfl rfl Try.sizeOf26 rfl (behind_el rfl hrow) rfl) rfl rfl rfl ?_
        refine AO.yld _ (Yld.load Try.isAgg26 rfl (Eq.trans (behind_el rfl hrow) rfl)) rfl rfl rfl ?_
        refine AO.callW (wantedN rfl) [0, 3] [0] [0, 1] rfl rfl Try.call51 rfl (spec_l27Changed_c (xs := px.state) (m := 8 + 3 * pn) (by omega) (by omega) (hJ.1.2 pn px hpx).2.2.2.2 (by omega)) (.own rfl) rfl (fun ⟨_, _, _⟩ => rfl) ⟨rfl, trivial⟩ rfl (fun ⟨_, _, _⟩ => rfl) (fun ⟨_, _, _⟩ => rfl) (fun ⟨ms33, q33, s33⟩ hms33 => ?_)
        dsimp only at hms33
        refine AO.yld _ (Yld.assign rfl) rfl rfl rfl ?_
        refine AO.nil ?_
        refine AC.seq ?_
        refine AC.region ?_
        refine AO.yld _ (Yld.move rfl) rfl rfl rfl ?_
        refine AO.yld _ (Yld.add rfl rfl (by omega) (by omega)) rfl rfl rfl ?_
        refine AO.yld _ (Yld.move rfl) rfl rfl rfl ?_
        refine AO.yld _ (Yld.move rfl) rfl rfl rfl ?_
        refine AO.freeze 3 rfl ?_
        refine AO.yld _ (Yld.buildA (zs := [.v (.int .i64 0), .v (.int .i64 0), .v (str []), .sl 0 []]) bld109 rfl rfl) rfl rfl rfl ?_
        refine AO.alloc 4 Try.zeroValue109 rfl rfl rfl ?_
        refine AO.store Try.sizeOf109 rfl rfl rfl rfl rfl rfl ?_
        refine AO.nil ?_
        refine AC.seq ?_
        refine AC.region ?_
        refine AO.yld _ (Yld.move rfl) rfl rfl rfl ?_
        refine AO.buildSlice (rows := [[_], [_], [_]]) 5 Try.underlying42 ty9 rfl rfl rfl rfl rfl rfl rfl rfl rfl ?_
        refine AO.callW (wantedN rfl) [0, 5] [0, 1] [0] rfl rfl Try.call77 rfl (src_text_c (by omega) (by omega) (xs := [[], [110, 101, 119], [97, 32, 98]]) (by decide) (by decide)) (.own rfl) rfl (fun ⟨_, _, _⟩ => rfl) ⟨rfl, rfl, trivial⟩ rfl (fun ⟨_, _, _⟩ => rfl) (fun ⟨_, _, _⟩ => rfl) (fun ⟨v41, q41, s41⟩ hv41 => ?_)
        dsimp only at hv41
        refine AO.yld _ (Yld.fieldAddr Try.underlying109 rfl rfl Try.sizeOf9 rfl rfl rfl) rfl rfl rfl ?_
        refine AO.store Try.sizeOf9 rfl rfl rfl rfl rfl rfl ?_
        refine AO.nil ?_
        refine AC.region ?_
        refine AO.yld _ (Yld.move rfl) rfl rfl rfl ?_
        refine AO.yld _ (Yld.loadAgg Try.isAgg109 Try.sizeOf109 rfl rfl rfl rfl) rfl rfl rfl ?_
        refine AO.buildSlice (rows := [[_, _, _, _]]) 6 Try.underlying46 ty109 rfl rfl rfl rfl rfl rfl rfl rfl rfl ?_
        refine AO.append 1 Try.underlying46 ty109 rfl rfl rfl rfl rfl rfl rfl (by intro r hr q hq; simp only [List.mem_cons, List.not_mem_nil, or_false] at hr; subst hr; simp only [List.mem_cons, List.not_mem_nil, or_false] at hq; rcases hq with rfl | rfl | rfl | rfl <;> rfl) (by simp only [List.length_map, List.length_cons, List.length_nil]; omega) (by simp only [List.length_map, List.length_cons, List.length_nil]; omega) rfl ?_
        refine AO.yld _ (Yld.assign rfl) rfl rfl rfl ?_
        refine AO.nil ?_
        refine AC.mark ?_
        refine AC.region ?_
        refine AO.yld _ (Yld.move rfl) rfl rfl rfl ?_
        refine AO.yld _ (Yld.sub rfl rfl (by omega) (by omega)) rfl rfl rfl ?_
        refine AO.yld _ (Yld.assign rfl) rfl rfl rfl ?_
        refine AO.nil ?_
        refine AC.back ⟨k - 1, vs ++ [⟨(vs.length : Int) + 1, v21, v41, ms33⟩], q41, s41, ?_, ?_, ⟨?_, ?_, trivial⟩, ⟨?_, ?_, trivial⟩, ⟨rfl, rfl, trivial⟩, ⟨rfl, trivial⟩⟩
        · exact ⟨hJ.1.add (by omega) rfl (by omega) (by omega) (memo_draw hv41.1) (hms33.1.up (by omega)), by simp only [List.length_append, List.length_cons, List.length_nil]; omega, by omega, by simp only [List.length_append, List.length_cons, List.length_nil]; omega⟩
        · omega
        · show some (AV.p (PV.v (Value.int IntKind.i64 _))) = _; congr 4; omega
        · rfl
        · rfl
        · refine congrArg some (vecE ?_); rw [map_snoc]; simp [encVer]
      · -- c25 False
        refine AC.skip ?_
        refine AC.seq ?_
        refine AC.region ?_
        refine AO.yld _ (Yld.move rfl) rfl rfl rfl ?_
        refine AO.yld _ (Yld.add rfl rfl (by omega) (by omega)) rfl rfl rfl ?_
        refine AO.yld _ (Yld.move rfl) rfl rfl rfl ?_
        refine AO.yld _ (Yld.move rfl) rfl rfl rfl ?_
        refine AO.yld _ (Yld.buildA (zs := [.v (.int .i64 0), .v (.int .i64 0), .v (str []), .sl 0 []]) bld109 rfl rfl) rfl rfl rfl ?_
        refine AO.alloc 3 Try.zeroValue109 rfl rfl rfl ?_
        refine AO.store Try.sizeOf109 rfl rfl rfl rfl rfl rfl ?_
        refine AO.nil ?_
        refine AC.seq ?_
        refine AC.region ?_
        refine AO.yld _ (Yld.move rfl) rfl rfl rfl ?_
        refine AO.buildSlice (rows := [[_], [_], [_]]) 4 Try.underlying42 ty9 rfl rfl rfl rfl rfl rfl rfl rfl rfl ?_
        refine AO.callW (wantedN rfl) [0, 4] [0, 1] [0] rfl rfl Try.call77 rfl (src_text_c (by omega) (by omega) (xs := [[], [110, 101, 119], [97, 32, 98]]) (by decide) (by decide)) (.own rfl) rfl (fun ⟨_, _, _⟩ => rfl) ⟨rfl, rfl, trivial⟩ rfl (fun ⟨_, _, _⟩ => rfl) (fun ⟨_, _, _⟩ => rfl) (fun ⟨v41, q41, s41⟩ hv41 => ?_)
        dsimp only at hv41
        refine AO.yld _ (Yld.fieldAddr Try.underlying109 rfl rfl Try.sizeOf9 rfl rfl rfl) rfl rfl rfl ?_
        refine AO.store Try.sizeOf9 rfl rfl rfl rfl rfl rfl ?_
        refine AO.nil ?_
        refine AC.region ?_
        refine AO.yld _ (Yld.move rfl) rfl rfl rfl ?_
        refine AO.yld _ (Yld.loadAgg Try.isAgg109 Try.sizeOf109 rfl rfl rfl rfl) rfl rfl rfl ?_
        refine AO.buildSlice (rows := [[_, _, _, _]]) 5 Try.underlying46 ty109 rfl rfl rfl rfl rfl rfl rfl rfl rfl ?_
        refine AO.append 1 Try.underlying46 ty109 rfl rfl rfl rfl rfl rfl rfl (by intro r hr q hq; simp only [List.mem_cons, List.not_mem_nil, or_false] at hr; subst hr; simp only [List.mem_cons, List.not_mem_nil, or_false] at hq; rcases hq with rfl | rfl | rfl | rfl <;> rfl) (by simp only [List.length_map, List.length_cons, List.length_nil]; omega) (by simp only [List.length_map, List.length_cons, List.length_nil]; omega) rfl ?_
        refine AO.yld _ (Yld.assign rfl) rfl rfl rfl ?_
        refine AO.nil ?_
        refine AC.mark ?_
        refine AC.region ?_
        refine AO.yld _ (Yld.move rfl) rfl rfl rfl ?_
        refine AO.yld _ (Yld.sub rfl rfl (by omega) (by omega)) rfl rfl rfl ?_
        refine AO.yld _ (Yld.assign rfl) rfl rfl rfl ?_
        refine AO.nil ?_
        refine AC.back ⟨k - 1, vs ++ [⟨(vs.length : Int) + 1, v21, v41, ms23⟩], q41, s41, ?_, ?_, ⟨?_, ?_, trivial⟩, ⟨?_, ?_, trivial⟩, ⟨rfl, rfl, trivial⟩, ⟨rfl, trivial⟩⟩
        · exact ⟨hJ.1.add (by omega) rfl (by omega) (by omega) (memo_draw hv41.1) (hms23.1.up (by omega)), by simp only [List.length_append, List.length_cons, List.length_nil]; omega, by omega, by simp only [List.length_append, List.length_cons, List.length_nil]; omega⟩
        · omega
        · show some (AV.p (PV.v (Value.int IntKind.i64 _))) = _; congr 4; omega
        · rfl
        · rfl
        · refine congrArg some (vecE ?_); rw [map_snoc]; simp [encVer]
    · -- c13 False
      refine AC.exit rfl ?_
      refine AC.seq ?_
      refine AC.region ?_
      refine AO.yld _ (Yld.move rfl) rfl rfl rfl ?_
      refine AO.yld _ (Yld.assign rfl) rfl rfl rfl ?_
      refine AO.nil ?_
      refine FnE.ret (_, _, _) [0, 1] [0, 1] Try.results54 (RVs.cons (RV.tmp rfl) RVs.nil) rfl rfl rfl ?_ rfl ⟨⟨_, rfl, rfl⟩, ⟨_, rfl, rfl⟩, trivial⟩
      · -- holds
        exact hJ.1

theorem spec_R8History_c {code : List UInt8} :
    FnE (α := List Ver) Try.prog 23 [.p (.sl 1 (code.map encB))] [] [] (fun vs => HG vs) (fun vs => .h 0) (fun vs => [(0, .vec 109 4 (vs.map encVer))]) := by
  refine FnE.intro Try.func23 rfl Try.ntmps23 rfl rfl (fun w0 F0 η φ w => ?_)
  refine AC.seq ?_
  refine AC.region ?_
  refine AO.yld _ (Yld.assign rfl) rfl rfl rfl ?_
  refine AO.nil ?_
  refine AC.seq ?_
  refine AC.region ?_
  refine AO.yld _ (Yld.move rfl) rfl rfl rfl ?_
  refine AO.callW (wantedN rfl) [0] [] [0] rfl rfl Try.call49 rfl (spec_l00From_c) (.own rfl) rfl (fun _ => rfl) trivial rfl (fun _ => rfl) (fun _ => rfl) (fun _ _ => ?_)
  refine AO.yld _ (Yld.assign rfl) rfl rfl rfl ?_
  refine AO.nil ?_
  refine AC.seq ?_
  refine AC.region ?_
  refine AO.yld _ (Yld.move rfl) rfl rfl rfl ?_
  refine AO.callW (wantedN rfl) [0, 1] [0] [0, 1] rfl rfl Try.call54 rfl (spec_l27Draw_c (by omega) (by omega)) (.own rfl) rfl (fun ⟨_, _, _⟩ => rfl) ⟨rfl, trivial⟩ rfl (fun ⟨_, _, _⟩ => rfl) (fun ⟨_, _, _⟩ => rfl) (fun ⟨vs7, q7, s7⟩ hvs7 => ?_)
  dsimp only at hvs7
  refine AO.yld _ (Yld.assign rfl) rfl rfl rfl ?_
  refine AO.nil ?_
  refine FnE.ret _ [1] [0] Try.results23 (RVs.cons (RV.tmp rfl) RVs.nil) rfl rfl rfl ?_ rfl ⟨⟨_, rfl, rfl⟩, trivial⟩
  · -- holds
    assumption

end Go.Proofs.Ytdlpkfihjfmgeaa
