/- Contracts of functions of the program, each by a walk of its text in the calculus V. -/
import Derived.Test.YtnejigdldeipdaaCC
import Derived.Test.YtnejigdldeipdaaD30
set_option linter.all false
set_option linter.unusedSimpArgs false
set_option linter.unnecessarySimpa false
set_option linter.unusedVariables false
namespace Go.Proofs.Ytnejigdldeipdaa
open Go Go.V
theorem ty9 : TyIs Try.prog 9 (.string ⟨#[]⟩) 1 16 := by unfold TyIs; kernel_rfl
theorem bld52 : BuildIs Try.prog 52 [(0, 1), (1, 1), (2, 1)] (.agg #[.string ⟨#[]⟩, .int .i64 0, .int .i64 0]) := by
  intro ps cells w h
  have h2 : Instr.fill (fun i => ([(0, 1), (1, 1), (2, 1)] : List (Nat × Nat))[i]?) #[.string ⟨#[]⟩, .int .i64 0, .int .i64 0] ps.toList = some cells := h
  simp [Instr.build, go_sem, Try.zeroValue52, run_underlying Try.underlying52, Try.sizeOf2, Try.sizeOf9, h2]
theorem bld94 : BuildIs Try.prog 94 [(0, 1), (1, 1), (2, 1)] (.agg #[.slice none 0 0, .int .i64 0, .int .u64 0]) := by
  intro ps cells w h
  have h2 : Instr.fill (fun i => ([(0, 1), (1, 1), (2, 1)] : List (Nat × Nat))[i]?) #[.slice none 0 0, .int .i64 0, .int .u64 0] ps.toList = some cells := h
  simp [Instr.build, go_sem, Try.zeroValue94, run_underlying Try.underlying94, Try.sizeOf3, Try.sizeOf39, Try.sizeOf92, h2]

theorem src_next_c {code : List UInt8} {p sd : Int} (h0 : 0 ≤ p) (h1 : p ≤ 4611686018427387904) :
    FnE (α := Int × Int) Try.prog 81 [.h 0] [(0, .box 94 [.p (.sl 1 (code.map encB)), .p (.v (.int .i64 p)), .p (.v (.int .u64 sd))])] [0] (fun ⟨v, s⟩ => 0 ≤ v ∧ v ≤ 255) (fun ⟨v, s⟩ => .p (.v (.int .i64 v))) (fun ⟨v, s⟩ => [(0, .box 94 [.p (.sl 1 (code.map encB)), .p (.v (.int .i64 (p + 1))), .p (.v (.int .u64 s))])]) := by
  refine FnE.intro Try.func81 rfl Try.ntmps81 rfl rfl (fun w0 F0 η φ w => ?_)
  refine AC.seq ?_
  refine AC.region ?_
  refine AO.yld _ (Yld.assign rfl) rfl rfl rfl ?_
  refine AO.nil ?_
  refine AC.seq ?_
  refine AC.region ?_
  refine AO.yld _ (Yld.assign rfl) rfl rfl rfl ?_
  refine AO.nil ?_
  refine AC.seq ?_
  refine AC.seq ?_
  refine AC.draw (by kernel_rfl) (by kernel_rfl) ?_
  refine AO.yld _ (Yld.move rfl) rfl rfl rfl ?_
  refine AO.yld _ (Yld.nilCheck rfl rfl) rfl rfl rfl ?_
  refine AO.yld _ (Yld.fieldAddr Try.underlying94 rfl rfl Try.sizeOf3 rfl rfl rfl) rfl rfl rfl ?_
  refine AO.yld _ (Yld.load Try.isAgg3 rfl rfl) rfl rfl rfl ?_
  refine AO.yld _ (Yld.move rfl) rfl rfl rfl ?_
  refine AO.yld _ (Yld.nilCheck rfl rfl) rfl rfl rfl ?_
  refine AO.yld _ (Yld.fieldAddr Try.underlying94 rfl rfl Try.sizeOf39 rfl rfl rfl) rfl rfl rfl ?_
  refine AO.yld _ (Yld.load Try.isAgg39 rfl rfl) rfl rfl rfl ?_
  refine AO.yld _ (Yld.len Try.underlying39 rfl rfl) rfl rfl rfl ?_
  refine AO.yld _ (Yld.int rfl rfl rfl) rfl rfl rfl ?_
  refine AO.nil ?_
  refine AC.cond _ rfl (fun c13 => ?_) (fun c13 => ?_)
  · -- c13 True
    have hp : p < code.length := by have h := c13; simpa using h
    obtain ⟨c, hc⟩ := get_some (xs := code) (k := p.toNat) (by omega)
    have hrow := map_row (enc := encB) hc
    refine AC.draw (by kernel_rfl) (by kernel_rfl) ?_
    refine AO.yld _ (Yld.move rfl) rfl rfl rfl ?_
    refine AO.yld _ (Yld.nilCheck rfl rfl) rfl rfl rfl ?_
    refine AO.yld _ (Yld.fieldAddr Try.underlying94 rfl rfl Try.sizeOf39 rfl rfl rfl) rfl rfl rfl ?_
    refine AO.yld _ (Yld.load Try.isAgg39 rfl rfl) rfl rfl rfl ?_
    refine AO.yld _ (Yld.move rfl) rfl rfl rfl ?_
    refine AO.yld _ (Yld.nilCheck rfl rfl) rfl rfl rfl ?_
    refine AO.yld _ (Yld.fieldAddr Try.underlying94 rfl rfl Try.sizeOf3 rfl rfl rfl) rfl rfl rfl ?_
    refine AO.yld _ (Yld.load Try.isAgg3 rfl rfl) rfl rfl rfl ?_
    refine AO.yld _ (Yld.indexSl Try.underlying39 Try.sizeOf5 rfl rfl hrow (by omega)) rfl rfl rfl ?_
    refine AO.yld _ (Yld.load Try.isAgg5 rfl rfl) rfl rfl rfl ?_
    refine AO.yld _ (Yld.convInt Try.underlying5 Try.underlying3 rfl) rfl rfl rfl ?_
    refine AO.yld _ (Yld.assign rfl) rfl rfl rfl ?_
    refine AO.nil ?_
    refine AC.seq ?_
    refine AC.region ?_
    refine AO.yld _ (Yld.move rfl) rfl rfl rfl ?_
    refine AO.yld _ (Yld.nilCheck rfl rfl) rfl rfl rfl ?_
    refine AO.yld _ (Yld.fieldAddr Try.underlying94 rfl rfl Try.sizeOf3 rfl rfl rfl) rfl rfl rfl ?_
    refine AO.yld _ (Yld.load Try.isAgg3 rfl rfl) rfl rfl rfl ?_
    refine AO.yld _ (Yld.add rfl rfl (by omega) (by omega)) rfl rfl rfl ?_
    refine AO.yld _ (Yld.nilCheck rfl rfl) rfl rfl rfl ?_
    refine AO.yld _ (Yld.fieldAddr Try.underlying94 rfl rfl Try.sizeOf3 rfl rfl rfl) rfl rfl rfl ?_
    refine AO.store Try.sizeOf3 rfl rfl rfl rfl rfl rfl ?_
    refine AO.nil ?_
    refine AC.seq ?_
    refine AC.region ?_
    refine AO.yld _ (Yld.move rfl) rfl rfl rfl ?_
    refine AO.yld _ (Yld.move rfl) rfl rfl rfl ?_
    refine AO.yld _ (Yld.nilCheck rfl rfl) rfl rfl rfl ?_
    refine AO.yld _ (Yld.fieldAddr Try.underlying94 rfl rfl Try.sizeOf92 rfl rfl rfl) rfl rfl rfl ?_
    refine AO.yld _ (Yld.load Try.isAgg92 rfl rfl) rfl rfl rfl ?_
    refine AO.yld _ (Yld.int rfl rfl rfl) rfl rfl rfl ?_
    refine AO.yld _ (Yld.move rfl) rfl rfl rfl ?_
    refine AO.yld _ (Yld.convInt Try.underlying3 Try.underlying92 rfl) rfl rfl rfl ?_
    refine AO.yld _ (Yld.int rfl rfl rfl) rfl rfl rfl ?_
    refine AO.yld _ (Yld.int rfl rfl rfl) rfl rfl rfl ?_
    refine AO.yld _ (Yld.nilCheck rfl rfl) rfl rfl rfl ?_
    refine AO.yld _ (Yld.fieldAddr Try.underlying94 rfl rfl Try.sizeOf92 rfl rfl rfl) rfl rfl rfl ?_
    refine AO.store Try.sizeOf92 rfl rfl rfl rfl rfl rfl ?_
    refine AO.nil ?_
    refine AC.seq ?_
    refine AC.seq ?_
    refine AC.draw (by kernel_rfl) (by kernel_rfl) ?_
    refine AO.yld _ (Yld.move rfl) rfl rfl rfl ?_
    refine AO.yld _ (Yld.nilCheck rfl rfl) rfl rfl rfl ?_
    refine AO.yld _ (Yld.fieldAddr Try.underlying94 rfl rfl Try.sizeOf3 rfl rfl rfl) rfl rfl rfl ?_
    refine AO.yld _ (Yld.load Try.isAgg3 rfl rfl) rfl rfl rfl ?_
    refine AO.yld _ (Yld.move rfl) rfl rfl rfl ?_
    refine AO.yld _ (Yld.nilCheck rfl rfl) rfl rfl rfl ?_
    refine AO.yld _ (Yld.fieldAddr Try.underlying94 rfl rfl Try.sizeOf39 rfl rfl rfl) rfl rfl rfl ?_
    refine AO.yld _ (Yld.load Try.isAgg39 rfl rfl) rfl rfl rfl ?_
    refine AO.yld _ (Yld.len Try.underlying39 rfl rfl) rfl rfl rfl ?_
    refine AO.yld _ (Yld.int rfl rfl rfl) rfl rfl rfl ?_
    refine AO.nil ?_
    refine AC.cond _ rfl (fun c53 => ?_) (fun c53 => ?_)
    · -- c53 True
      refine AC.seq ?_
      refine AC.region ?_
      refine AO.yld _ (Yld.move rfl) rfl rfl rfl ?_
      refine AO.yld _ (Yld.assign rfl) rfl rfl rfl ?_
      refine AO.nil ?_
      refine FnE.ret (_, _) [0] [0] Try.results81 (RVs.cons (RV.tmp rfl) RVs.nil) rfl rfl rfl ?_ rfl ⟨⟨_, rfl, rfl⟩, trivial⟩
      · -- holds
        show 0 ≤ _ ∧ _ ≤ _; first | exact byte_u8 _ | exact byte_of _ | exact ⟨by decide, by decide⟩
    · -- c53 False
      refine AC.skip ?_
      refine AC.seq ?_
      refine AC.region ?_
      refine AO.yld _ (Yld.move rfl) rfl rfl rfl ?_
      refine AO.yld _ (Yld.nilCheck rfl rfl) rfl rfl rfl ?_
      refine AO.yld _ (Yld.fieldAddr Try.underlying94 rfl rfl Try.sizeOf92 rfl rfl rfl) rfl rfl rfl ?_
      refine AO.yld _ (Yld.load Try.isAgg92 rfl rfl) rfl rfl rfl ?_
      refine AO.yld _ (Yld.shr rfl rfl (by omega)) rfl rfl rfl ?_
      refine AO.yld _ (Yld.and rfl rfl) rfl rfl rfl ?_
      refine AO.yld _ (Yld.convInt Try.underlying92 Try.underlying2 rfl) rfl rfl rfl ?_
      refine AO.yld _ (Yld.assign rfl) rfl rfl rfl ?_
      refine AO.nil ?_
      refine FnE.ret (_, _) [0] [0] Try.results81 (RVs.cons (RV.tmp rfl) RVs.nil) rfl rfl rfl ?_ rfl ⟨⟨_, rfl, rfl⟩, trivial⟩
      · -- holds
        show 0 ≤ _ ∧ _ ≤ _; first | exact byte_u8 _ | exact byte_of _ | exact ⟨by decide, by decide⟩
  · -- c13 False
    refine AC.skip ?_
    refine AC.seq ?_
    refine AC.region ?_
    refine AO.yld _ (Yld.move rfl) rfl rfl rfl ?_
    refine AO.yld _ (Yld.nilCheck rfl rfl) rfl rfl rfl ?_
    refine AO.yld _ (Yld.fieldAddr Try.underlying94 rfl rfl Try.sizeOf3 rfl rfl rfl) rfl rfl rfl ?_
    refine AO.yld _ (Yld.load Try.isAgg3 rfl rfl) rfl rfl rfl ?_
    refine AO.yld _ (Yld.add rfl rfl (by omega) (by omega)) rfl rfl rfl ?_
    refine AO.yld _ (Yld.nilCheck rfl rfl) rfl rfl rfl ?_
    refine AO.yld _ (Yld.fieldAddr Try.underlying94 rfl rfl Try.sizeOf3 rfl rfl rfl) rfl rfl rfl ?_
    refine AO.store Try.sizeOf3 rfl rfl rfl rfl rfl rfl ?_
    refine AO.nil ?_
    refine AC.seq ?_
    refine AC.region ?_
    refine AO.yld _ (Yld.move rfl) rfl rfl rfl ?_
    refine AO.yld _ (Yld.move rfl) rfl rfl rfl ?_
    refine AO.yld _ (Yld.nilCheck rfl rfl) rfl rfl rfl ?_
    refine AO.yld _ (Yld.fieldAddr Try.underlying94 rfl rfl Try.sizeOf92 rfl rfl rfl) rfl rfl rfl ?_
    refine AO.yld _ (Yld.load Try.isAgg92 rfl rfl) rfl rfl rfl ?_
    refine AO.yld _ (Yld.int rfl rfl rfl) rfl rfl rfl ?_
    refine AO.yld _ (Yld.move rfl) rfl rfl rfl ?_
    refine AO.yld _ (Yld.convInt Try.underlying3 Try.underlying92 rfl) rfl rfl rfl ?_
    refine AO.yld _ (Yld.int rfl rfl rfl) rfl rfl rfl ?_
    refine AO.yld _ (Yld.int rfl rfl rfl) rfl rfl rfl ?_
    refine AO.yld _ (Yld.nilCheck rfl rfl) rfl rfl rfl ?_
    refine AO.yld _ (Yld.fieldAddr Try.underlying94 rfl rfl Try.sizeOf92 rfl rfl rfl) rfl rfl rfl ?_
    refine AO.store Try.sizeOf92 rfl rfl rfl rfl rfl rfl ?_
    refine AO.nil ?_
    refine AC.seq ?_
    refine AC.seq ?_
    refine AC.draw (by kernel_rfl) (by kernel_rfl) ?_
    refine AO.yld _ (Yld.move rfl) rfl rfl rfl ?_
    refine AO.yld _ (Yld.nilCheck rfl rfl) rfl rfl rfl ?_
    refine AO.yld _ (Yld.fieldAddr Try.underlying94 rfl rfl Try.sizeOf3 rfl rfl rfl) rfl rfl rfl ?_
    refine AO.yld _ (Yld.load Try.isAgg3 rfl rfl) rfl rfl rfl ?_
    refine AO.yld _ (Yld.move rfl) rfl rfl rfl ?_
    refine AO.yld _ (Yld.nilCheck rfl rfl) rfl rfl rfl ?_
    refine AO.yld _ (Yld.fieldAddr Try.underlying94 rfl rfl Try.sizeOf39 rfl rfl rfl) rfl rfl rfl ?_
    refine AO.yld _ (Yld.load Try.isAgg39 rfl rfl) rfl rfl rfl ?_
    refine AO.yld _ (Yld.len Try.underlying39 rfl rfl) rfl rfl rfl ?_
    refine AO.yld _ (Yld.int rfl rfl rfl) rfl rfl rfl ?_
    refine AO.nil ?_
    refine AC.cond _ rfl (fun c53 => ?_) (fun c53 => ?_)
    · -- c53 True
      refine AC.seq ?_
      refine AC.region ?_
      refine AO.yld _ (Yld.move rfl) rfl rfl rfl ?_
      refine AO.yld _ (Yld.assign rfl) rfl rfl rfl ?_
      refine AO.nil ?_
      refine FnE.ret (_, _) [0] [0] Try.results81 (RVs.cons (RV.tmp rfl) RVs.nil) rfl rfl rfl ?_ rfl ⟨⟨_, rfl, rfl⟩, trivial⟩
      · -- holds
        show 0 ≤ _ ∧ _ ≤ _; first | exact byte_u8 _ | exact byte_of _ | exact ⟨by decide, by decide⟩
    · -- c53 False
      refine AC.skip ?_
      refine AC.seq ?_
      refine AC.region ?_
      refine AO.yld _ (Yld.move rfl) rfl rfl rfl ?_
      refine AO.yld _ (Yld.nilCheck rfl rfl) rfl rfl rfl ?_
      refine AO.yld _ (Yld.fieldAddr Try.underlying94 rfl rfl Try.sizeOf92 rfl rfl rfl) rfl rfl rfl ?_
      refine AO.yld _ (Yld.load Try.isAgg92 rfl rfl) rfl rfl rfl ?_
      refine AO.yld _ (Yld.shr rfl rfl (by omega)) rfl rfl rfl ?_
      refine AO.yld _ (Yld.and rfl rfl) rfl rfl rfl ?_
      refine AO.yld _ (Yld.convInt Try.underlying92 Try.underlying2 rfl) rfl rfl rfl ?_
      refine AO.yld _ (Yld.assign rfl) rfl rfl rfl ?_
      refine AO.nil ?_
      refine FnE.ret (_, _) [0] [0] Try.results81 (RVs.cons (RV.tmp rfl) RVs.nil) rfl rfl rfl ?_ rfl ⟨⟨_, rfl, rfl⟩, trivial⟩
      · -- holds
        show 0 ≤ _ ∧ _ ≤ _; first | exact byte_u8 _ | exact byte_of _ | exact ⟨by decide, by decide⟩

theorem src_pick_c {code : List UInt8} {p sd n : Int} (h0 : 0 ≤ p) (h1 : p ≤ 4611686018427387000) (h2 : 1 < n) :
    FnE (α := Int × Int × Int) Try.prog 72 [.h 0, .p (.v (.int .i64 n))] [(0, .box 94 [.p (.sl 1 (code.map encB)), .p (.v (.int .i64 p)), .p (.v (.int .u64 sd))])] [0] (fun ⟨v, q, s⟩ => 0 ≤ v ∧ v < n ∧ p ≤ q ∧ q ≤ p + 2) (fun ⟨v, q, s⟩ => .p (.v (.int .i64 v))) (fun ⟨v, q, s⟩ => [(0, .box 94 [.p (.sl 1 (code.map encB)), .p (.v (.int .i64 q)), .p (.v (.int .u64 s))])]) := by
  refine FnE.intro Try.func72 rfl Try.ntmps72 rfl rfl (fun w0 F0 η φ w => ?_)
  refine AC.seq ?_
  refine AC.region ?_
  refine AO.yld _ (Yld.assign rfl) rfl rfl rfl ?_
  refine AO.nil ?_
  refine AC.seq ?_
  refine AC.seq ?_
  refine AC.region ?_
  refine AO.yld _ (Yld.move rfl) rfl rfl rfl ?_
  refine AO.yld _ (Yld.int rfl rfl rfl) rfl rfl rfl ?_
  refine AO.nil ?_
  refine AC.cond _ rfl (fun c7 => ?_) (fun c7 => ?_)
  · -- c7 True
    exfalso; have h := c7; simp at h; omega
  · -- c7 False
    refine AC.skip ?_
    refine AC.seq ?_
    refine AC.region ?_
    refine AO.yld _ (Yld.move rfl) rfl rfl rfl ?_
    refine AO.callW (wantedN rfl) [0] [0] [0] rfl rfl Try.call81 rfl (src_next_c (by omega) (by omega)) (.own rfl) rfl (fun ⟨_, _⟩ => rfl) ⟨rfl, trivial⟩ rfl (fun ⟨_, _⟩ => rfl) (fun ⟨_, _⟩ => rfl) (fun ⟨v9, s9⟩ hv9 => ?_)
    dsimp only at hv9
    refine AO.yld _ (Yld.assign rfl) rfl rfl rfl ?_
    refine AO.nil ?_
    refine AC.seq ?_
    refine AC.seq ?_
    refine AC.region ?_
    refine AO.yld _ (Yld.move rfl) rfl rfl rfl ?_
    refine AO.yld _ (Yld.int rfl rfl rfl) rfl rfl rfl ?_
    refine AO.nil ?_
    refine AC.cond _ rfl (fun c11 => ?_) (fun c11 => ?_)
    · -- c11 True
      refine AC.region ?_
      refine AO.yld _ (Yld.move rfl) rfl rfl rfl ?_
      refine AO.yld _ (Yld.mul rfl rfl (by omega) (by omega)) rfl rfl rfl ?_
      refine AO.yld _ (Yld.move rfl) rfl rfl rfl ?_
      refine AO.callW (wantedN rfl) [0] [0] [0] rfl rfl Try.call81 rfl (src_next_c (by omega) (by omega)) (.own rfl) rfl (fun ⟨_, _⟩ => rfl) ⟨rfl, trivial⟩ rfl (fun ⟨_, _⟩ => rfl) (fun ⟨_, _⟩ => rfl) (fun ⟨v15, s15⟩ hv15 => ?_)
      dsimp only at hv15
      refine AO.yld _ (Yld.add rfl rfl (by omega) (by omega)) rfl rfl rfl ?_
      refine AO.yld _ (Yld.assign rfl) rfl rfl rfl ?_
      refine AO.nil ?_
      refine AC.seq ?_
      refine AC.region ?_
      refine AO.yld _ (Yld.move rfl) rfl rfl rfl ?_
      refine AO.yld _ (Yld.move rfl) rfl rfl rfl ?_
      refine AO.yld _ (Yld.rem rfl rfl (by omega)) rfl rfl rfl ?_
      refine AO.yld _ (Yld.assign rfl) rfl rfl rfl ?_
      refine AO.nil ?_
      refine FnE.ret (_, _, _) [0] [0] Try.results72 (RVs.cons (RV.tmp rfl) RVs.nil) rfl rfl rfl ?_ rfl ⟨⟨_, rfl, rfl⟩, trivial⟩
      · -- holds
        show 0 ≤ _ ∧ _ < _ ∧ _ ≤ _ ∧ _ ≤ _; first | exact pick_lim hv9 (by omega) (by omega) | exact pick_lim2 hv9 hv15 (by omega) (by omega)
    · -- c11 False
      refine AC.skip ?_
      refine AC.seq ?_
      refine AC.region ?_
      refine AO.yld _ (Yld.move rfl) rfl rfl rfl ?_
      refine AO.yld _ (Yld.move rfl) rfl rfl rfl ?_
      refine AO.yld _ (Yld.rem rfl rfl (by omega)) rfl rfl rfl ?_
      refine AO.yld _ (Yld.assign rfl) rfl rfl rfl ?_
      refine AO.nil ?_
      refine FnE.ret (_, _, _) [0] [0] Try.results72 (RVs.cons (RV.tmp rfl) RVs.nil) rfl rfl rfl ?_ rfl ⟨⟨_, rfl, rfl⟩, trivial⟩
      · -- holds
        show 0 ≤ _ ∧ _ < _ ∧ _ ≤ _ ∧ _ ≤ _; first | exact pick_lim hv9 (by omega) (by omega) | exact pick_lim2 hv9 hv15 (by omega) (by omega)

theorem laws_b10Long_c {code : List UInt8} :
    Pure Try.prog 22 [.sl 1 (code.map encB)] (.v (.bool (decide ((code.length : Int) > 1048576)))) := by
  refine Pure.intro Try.func22 rfl Try.ntmps22 rfl rfl (fun w => ?_)
  refine AC.seq ?_
  refine AC.region ?_
  refine AO.yld _ (Yld.assign rfl) rfl rfl rfl ?_
  refine AO.nil ?_
  refine AC.seq ?_
  refine AC.region ?_
  refine AO.yld _ (Yld.move rfl) rfl rfl rfl ?_
  refine AO.yld _ (Yld.len Try.underlying39 rfl rfl) rfl rfl rfl ?_
  refine AO.yld _ (Yld.int rfl rfl rfl) rfl rfl rfl ?_
  refine AO.yld _ (Yld.assign rfl) rfl rfl rfl ?_
  refine AO.nil ?_
  refine Pure.ret Try.results22 (RVs.cons (RV.tmp rfl) RVs.nil) rfl ?_
  refine cb ?_; simp only [List.length_map] at *

theorem spec_l00From_c {code : List UInt8} :
    FnE (α := Unit) Try.prog 53 [.p (.sl 1 (code.map encB))] [] [] (fun _ => True) (fun _ => .h 0) (fun _ => [(0, .box 94 [.p (.sl 1 (code.map encB)), .p (.v (.int .i64 0)), .p (.v (.int .u64 0))])]) := by
  refine FnE.intro Try.func53 rfl Try.ntmps53 rfl rfl (fun w0 F0 η φ w => ?_)
  refine AC.seq ?_
  refine AC.region ?_
  refine AO.yld _ (Yld.assign rfl) rfl rfl rfl ?_
  refine AO.nil ?_
  refine AC.seq ?_
  refine AC.region ?_
  refine AO.yld _ (Yld.move rfl) rfl rfl rfl ?_
  refine AO.yld _ (Yld.buildA (zs := [.sl 0 [], .v (.int .i64 0), .v (.int .u64 0)]) bld94 rfl rfl) rfl rfl rfl ?_
  refine AO.box 0 rfl rfl rfl rfl rfl ?_
  refine AO.yld _ (Yld.assign rfl) rfl rfl rfl ?_
  refine AO.nil ?_
  refine FnE.ret () [0] [0] Try.results53 (RVs.cons (RV.tmp rfl) RVs.nil) rfl rfl rfl ?_ ?_ ⟨⟨_, rfl, ?_⟩, trivial⟩
  · -- holds
    trivial
  · -- value
    rfl
  · -- thing 0
    rfl

theorem src_pick1_c {code : List UInt8} {p sd n : Int} (h0 : 0 ≤ p) (h1 : p ≤ 4611686018427387000) (h2 : 0 < n) :
    FnE (α := Int × Int × Int) Try.prog 72 [.h 0, .p (.v (.int .i64 n))] [(0, .box 94 [.p (.sl 1 (code.map encB)), .p (.v (.int .i64 p)), .p (.v (.int .u64 sd))])] [0] (fun ⟨v, q, s⟩ => 0 ≤ v ∧ v < n ∧ p ≤ q ∧ q ≤ p + 2) (fun ⟨v, q, s⟩ => .p (.v (.int .i64 v))) (fun ⟨v, q, s⟩ => [(0, .box 94 [.p (.sl 1 (code.map encB)), .p (.v (.int .i64 q)), .p (.v (.int .u64 s))])]) := by
  refine FnE.intro Try.func72 rfl Try.ntmps72 rfl rfl (fun w0 F0 η φ w => ?_)
  refine AC.seq ?_
  refine AC.region ?_
  refine AO.yld _ (Yld.assign rfl) rfl rfl rfl ?_
  refine AO.nil ?_
  refine AC.seq ?_
  refine AC.seq ?_
  refine AC.region ?_
  refine AO.yld _ (Yld.move rfl) rfl rfl rfl ?_
  refine AO.yld _ (Yld.int rfl rfl rfl) rfl rfl rfl ?_
  refine AO.nil ?_
  refine AC.cond _ rfl (fun c7 => ?_) (fun c7 => ?_)
  · -- c7 True
    refine AC.seq ?_
    refine AC.region ?_
    refine AO.yld _ (Yld.assign rfl) rfl rfl rfl ?_
    refine AO.nil ?_
    refine FnE.ret (_, _, _) [0] [0] Try.results72 (RVs.cons (RV.tmp rfl) RVs.nil) rfl rfl rfl ?_ rfl ⟨⟨_, rfl, rfl⟩, trivial⟩
    · -- holds
      show 0 ≤ _ ∧ _ < _ ∧ _ ≤ _ ∧ _ ≤ _; first | exact pickR0 h2 | exact pick_lim hv9 (by have h := c7; simp at h; omega) (by omega) | exact pick_lim2 hv9 hv15 (by have h := c7; simp at h; omega) (by omega)
  · -- c7 False
    refine AC.skip ?_
    refine AC.seq ?_
    refine AC.region ?_
    refine AO.yld _ (Yld.move rfl) rfl rfl rfl ?_
    refine AO.callW (wantedN rfl) [0] [0] [0] rfl rfl Try.call81 rfl (src_next_c (by omega) (by omega)) (.own rfl) rfl (fun ⟨_, _⟩ => rfl) ⟨rfl, trivial⟩ rfl (fun ⟨_, _⟩ => rfl) (fun ⟨_, _⟩ => rfl) (fun ⟨v9, s9⟩ hv9 => ?_)
    dsimp only at hv9
    refine AO.yld _ (Yld.assign rfl) rfl rfl rfl ?_
    refine AO.nil ?_
    refine AC.seq ?_
    refine AC.seq ?_
    refine AC.region ?_
    refine AO.yld _ (Yld.move rfl) rfl rfl rfl ?_
    refine AO.yld _ (Yld.int rfl rfl rfl) rfl rfl rfl ?_
    refine AO.nil ?_
    refine AC.cond _ rfl (fun c11 => ?_) (fun c11 => ?_)
    · -- c11 True
      refine AC.region ?_
      refine AO.yld _ (Yld.move rfl) rfl rfl rfl ?_
      refine AO.yld _ (Yld.mul rfl rfl (by omega) (by omega)) rfl rfl rfl ?_
      refine AO.yld _ (Yld.move rfl) rfl rfl rfl ?_
      refine AO.callW (wantedN rfl) [0] [0] [0] rfl rfl Try.call81 rfl (src_next_c (by omega) (by omega)) (.own rfl) rfl (fun ⟨_, _⟩ => rfl) ⟨rfl, trivial⟩ rfl (fun ⟨_, _⟩ => rfl) (fun ⟨_, _⟩ => rfl) (fun ⟨v15, s15⟩ hv15 => ?_)
      dsimp only at hv15
      refine AO.yld _ (Yld.add rfl rfl (by omega) (by omega)) rfl rfl rfl ?_
      refine AO.yld _ (Yld.assign rfl) rfl rfl rfl ?_
      refine AO.nil ?_
      refine AC.seq ?_
      refine AC.region ?_
      refine AO.yld _ (Yld.move rfl) rfl rfl rfl ?_
      refine AO.yld _ (Yld.move rfl) rfl rfl rfl ?_
      refine AO.yld _ (Yld.rem rfl rfl (by have h := c7; simp at h; omega)) rfl rfl rfl ?_
      refine AO.yld _ (Yld.assign rfl) rfl rfl rfl ?_
      refine AO.nil ?_
      refine FnE.ret (_, _, _) [0] [0] Try.results72 (RVs.cons (RV.tmp rfl) RVs.nil) rfl rfl rfl ?_ rfl ⟨⟨_, rfl, rfl⟩, trivial⟩
      · -- holds
        show 0 ≤ _ ∧ _ < _ ∧ _ ≤ _ ∧ _ ≤ _; first | exact pickR0 h2 | exact pick_lim hv9 (by have h := c7; simp at h; omega) (by omega) | exact pick_lim2 hv9 hv15 (by have h := c7; simp at h; omega) (by omega)
    · -- c11 False
      refine AC.skip ?_
      refine AC.seq ?_
      refine AC.region ?_
      refine AO.yld _ (Yld.move rfl) rfl rfl rfl ?_
      refine AO.yld _ (Yld.move rfl) rfl rfl rfl ?_
      refine AO.yld _ (Yld.rem rfl rfl (by have h := c7; simp at h; omega)) rfl rfl rfl ?_
      refine AO.yld _ (Yld.assign rfl) rfl rfl rfl ?_
      refine AO.nil ?_
      refine FnE.ret (_, _, _) [0] [0] Try.results72 (RVs.cons (RV.tmp rfl) RVs.nil) rfl rfl rfl ?_ rfl ⟨⟨_, rfl, rfl⟩, trivial⟩
      · -- holds
        show 0 ≤ _ ∧ _ < _ ∧ _ ≤ _ ∧ _ ≤ _; first | exact pickR0 h2 | exact pick_lim hv9 (by have h := c7; simp at h; omega) (by omega) | exact pick_lim2 hv9 hv15 (by have h := c7; simp at h; omega) (by omega)

theorem src_one_c {code : List UInt8} {p sd n : Int} (h0 : 0 ≤ p) (h1 : p ≤ 2000000000000000000) (h2 : 1 < n) :
    FnE (α := Bool × Int × Int) Try.prog 70 [.h 0, .p (.v (.int .i64 n))] [(0, .box 94 [.p (.sl 1 (code.map encB)), .p (.v (.int .i64 p)), .p (.v (.int .u64 sd))])] [0] (fun ⟨b, q, s⟩ => p ≤ q ∧ q ≤ p + 2) (fun ⟨b, q, s⟩ => .p (.v (.bool b))) (fun ⟨b, q, s⟩ => [(0, .box 94 [.p (.sl 1 (code.map encB)), .p (.v (.int .i64 q)), .p (.v (.int .u64 s))])]) := by
  refine FnE.intro Try.func70 rfl Try.ntmps70 rfl rfl (fun w0 F0 η φ w => ?_)
  refine AC.seq ?_
  refine AC.region ?_
  refine AO.yld _ (Yld.assign rfl) rfl rfl rfl ?_
  refine AO.nil ?_
  refine AC.seq ?_
  refine AC.region ?_
  refine AO.yld _ (Yld.move rfl) rfl rfl rfl ?_
  refine AO.yld _ (Yld.move rfl) rfl rfl rfl ?_
  refine AO.callW (wantedN rfl) [0] [0] [0] rfl rfl Try.call72 rfl (src_pick_c (by omega) (by omega) (by omega)) (.own rfl) rfl (fun ⟨_, _, _⟩ => rfl) ⟨rfl, trivial⟩ rfl (fun ⟨_, _, _⟩ => rfl) (fun ⟨_, _, _⟩ => rfl) (fun ⟨v7, q7, s7⟩ hv7 => ?_)
  dsimp only at hv7
  refine AO.yld _ (Yld.int rfl rfl rfl) rfl rfl rfl ?_
  refine AO.yld _ (Yld.assign rfl) rfl rfl rfl ?_
  refine AO.nil ?_
  refine FnE.ret (_, _, _) [0] [0] Try.results70 (RVs.cons (RV.tmp rfl) RVs.nil) rfl rfl rfl ?_ rfl ⟨⟨_, rfl, rfl⟩, trivial⟩
  · -- holds
    show _ ≤ _ ∧ _ ≤ _; omega

theorem src_among_c {code : List UInt8} {p sd : Int} (h0 : 0 ≤ p) (h1 : p ≤ 2000000000000000000) {xs : List (Int)} (hx : 1 < xs.length) (hl : xs.length ≤ 1000) :
    FnE (α := Int × Int × Int) Try.prog 74 [.h 0, .h 1] [(0, .box 94 [.p (.sl 1 (code.map encB)), .p (.v (.int .i64 p)), .p (.v (.int .u64 sd))]), (1, .vec 2 1 (xs.map encI))] [0] (fun ⟨v, q, s⟩ => v ∈ xs ∧ p ≤ q ∧ q ≤ p + 2) (fun ⟨v, q, s⟩ => .p (.v (.int .i64 v))) (fun ⟨v, q, s⟩ => [(0, .box 94 [.p (.sl 1 (code.map encB)), .p (.v (.int .i64 q)), .p (.v (.int .u64 s))])]) := by
  have hM : (xs.map encI).length = xs.length := List.length_map ..
  refine FnE.intro Try.func74 rfl Try.ntmps74 rfl rfl (fun w0 F0 η φ w => ?_)
  refine AC.seq ?_
  refine AC.region ?_
  refine AO.yld _ (Yld.assign rfl) rfl rfl rfl ?_
  refine AO.nil ?_
  refine AC.seq ?_
  refine AC.region ?_
  refine AO.yld _ (Yld.move rfl) rfl rfl rfl ?_
  refine AO.yld _ (Yld.move rfl) rfl rfl rfl ?_
  refine AO.yld _ (Yld.move rfl) rfl rfl rfl ?_
  refine AO.yld _ (Yld.len Try.underlying23 rfl rfl) rfl rfl rfl ?_
  refine AO.callW (wantedN rfl) [0] [0] [0] rfl rfl Try.call72 rfl (src_pick_c (by omega) (by omega) (by rw [hM]; omega)) (.own rfl) rfl (fun ⟨_, _, _⟩ => rfl) ⟨rfl, trivial⟩ rfl (fun ⟨_, _, _⟩ => rfl) (fun ⟨_, _, _⟩ => rfl) (fun ⟨v9, q9, s9⟩ hv9 => ?_)
  dsimp only at hv9
  rw [hM] at hv9
  obtain ⟨j, hj⟩ := Int.eq_ofNat_of_zero_le hv9.1
  obtain ⟨y, hy⟩ := get_some (xs := xs) (k := j) (by omega)
  have hrow := map_row (enc := encI) hy
  refine AO.yld _ (Yld.indexVec Try.underlying23 Try.sizeOf2 rfl rfl rfl hj (by rw [hM]; omega)) rfl rfl rfl ?_
  refine AO.yld _ (Yld.load Try.isAgg2 rfl (Eq.trans (behind_el rfl hrow) rfl)) rfl rfl rfl ?_
  refine AO.yld _ (Yld.assign rfl) rfl rfl rfl ?_
  refine AO.nil ?_
  refine FnE.ret (_, _, _) [0] [0] Try.results74 (RVs.cons (RV.tmp rfl) RVs.nil) rfl rfl rfl ?_ rfl ⟨⟨_, rfl, rfl⟩, trivial⟩
  · -- holds
    exact ⟨List.mem_of_getElem? hy, by omega, by omega⟩

theorem src_text_c {code : List UInt8} {p sd : Int} (h0 : 0 ≤ p) (h1 : p ≤ 2000000000000000000) {xs : List (List UInt8)} (hx : 1 < xs.length) (hl : xs.length ≤ 1000) :
    FnE (α := (List UInt8) × Int × Int) Try.prog 82 [.h 0, .h 1] [(0, .box 94 [.p (.sl 1 (code.map encB)), .p (.v (.int .i64 p)), .p (.v (.int .u64 sd))]), (1, .vec 9 1 (xs.map encS))] [0] (fun ⟨v, q, s⟩ => v ∈ xs ∧ p ≤ q ∧ q ≤ p + 2) (fun ⟨v, q, s⟩ => .p (.v (str v))) (fun ⟨v, q, s⟩ => [(0, .box 94 [.p (.sl 1 (code.map encB)), .p (.v (.int .i64 q)), .p (.v (.int .u64 s))])]) := by
  have hM : (xs.map encS).length = xs.length := List.length_map ..
  refine FnE.intro Try.func82 rfl Try.ntmps82 rfl rfl (fun w0 F0 η φ w => ?_)
  refine AC.seq ?_
  refine AC.region ?_
  refine AO.yld _ (Yld.assign rfl) rfl rfl rfl ?_
  refine AO.nil ?_
  refine AC.seq ?_
  refine AC.region ?_
  refine AO.yld _ (Yld.move rfl) rfl rfl rfl ?_
  refine AO.yld _ (Yld.move rfl) rfl rfl rfl ?_
  refine AO.yld _ (Yld.move rfl) rfl rfl rfl ?_
  refine AO.yld _ (Yld.len Try.underlying95 rfl rfl) rfl rfl rfl ?_
  refine AO.callW (wantedN rfl) [0] [0] [0] rfl rfl Try.call72 rfl (src_pick_c (by omega) (by omega) (by rw [hM]; omega)) (.own rfl) rfl (fun ⟨_, _, _⟩ => rfl) ⟨rfl, trivial⟩ rfl (fun ⟨_, _, _⟩ => rfl) (fun ⟨_, _, _⟩ => rfl) (fun ⟨v9, q9, s9⟩ hv9 => ?_)
  dsimp only at hv9
  rw [hM] at hv9
  obtain ⟨j, hj⟩ := Int.eq_ofNat_of_zero_le hv9.1
  obtain ⟨y, hy⟩ := get_some (xs := xs) (k := j) (by omega)
  have hrow := map_row (enc := encS) hy
  refine AO.yld _ (Yld.indexVec Try.underlying95 Try.sizeOf9 rfl rfl rfl hj (by rw [hM]; omega)) rfl rfl rfl ?_
  refine AO.yld _ (Yld.load Try.isAgg9 rfl (Eq.trans (behind_el rfl hrow) rfl)) rfl rfl rfl ?_
  refine AO.yld _ (Yld.assign rfl) rfl rfl rfl ?_
  refine AO.nil ?_
  refine FnE.ret (_, _, _) [0] [0] Try.results82 (RVs.cons (RV.tmp rfl) RVs.nil) rfl rfl rfl ?_ rfl ⟨⟨_, rfl, rfl⟩, trivial⟩
  · -- holds
    exact ⟨List.mem_of_getElem? hy, by omega, by omega⟩

theorem spec_l24DrawOne_c {code : List UInt8} {p sd : Int} (h0 : 0 ≤ p) (h1 : p ≤ 1000000000000000000) {nm : List UInt8} :
    FnE (α := Int × Int × Int × Int) Try.prog 71 [.h 0, .p (.v (str nm))] [(0, .box 94 [.p (.sl 1 (code.map encB)), .p (.v (.int .i64 p)), .p (.v (.int .u64 sd))])] [0] (fun ⟨pe, wi, q, s⟩ => p ≤ q ∧ q ≤ p + 4) (fun ⟨pe, wi, q, s⟩ => .agg [.p (.v (str nm)), .p (.v (.int .i64 pe)), .p (.v (.int .i64 wi))]) (fun ⟨pe, wi, q, s⟩ => [(0, .box 94 [.p (.sl 1 (code.map encB)), .p (.v (.int .i64 q)), .p (.v (.int .u64 s))])]) := by
  refine FnE.intro Try.func71 rfl Try.ntmps71 rfl rfl (fun w0 F0 η φ w => ?_)
  refine AC.seq ?_
  refine AC.region ?_
  refine AO.alloc 1 Try.zeroValue52 rfl rfl rfl ?_
  refine AO.nil ?_
  refine AC.seq ?_
  refine AC.region ?_
  refine AO.yld _ (Yld.move rfl) rfl rfl rfl ?_
  refine AO.yld _ (Yld.move rfl) rfl rfl rfl ?_
  refine AO.callW (wantedN rfl) [0] [0] [0] rfl rfl Try.call72 rfl (src_pick_c (by omega) (by omega) (by omega)) (.own rfl) rfl (fun ⟨_, _, _⟩ => rfl) ⟨rfl, trivial⟩ rfl (fun ⟨_, _, _⟩ => rfl) (fun ⟨_, _, _⟩ => rfl) (fun ⟨v8, q8, s8⟩ hv8 => ?_)
  dsimp only at hv8
  refine AO.yld _ (Yld.add rfl rfl (by omega) (by omega)) rfl rfl rfl ?_
  refine AO.yld _ (Yld.buildA (zs := [.v (str []), .v (.int .i64 0), .v (.int .i64 0)]) bld52 rfl rfl) rfl rfl rfl ?_
  refine AO.alloc 2 Try.zeroValue52 rfl rfl rfl ?_
  refine AO.store Try.sizeOf52 rfl rfl rfl rfl rfl rfl ?_
  refine AO.nil ?_
  refine AC.seq ?_
  refine AC.region ?_
  refine AO.yld _ (Yld.move rfl) rfl rfl rfl ?_
  refine AO.callW (wantedN rfl) [0] [0] [0] rfl rfl Try.call72 rfl (src_pick_c (by omega) (by omega) (by omega)) (.own rfl) rfl (fun ⟨_, _, _⟩ => rfl) ⟨rfl, trivial⟩ rfl (fun ⟨_, _, _⟩ => rfl) (fun ⟨_, _, _⟩ => rfl) (fun ⟨v12, q12, s12⟩ hv12 => ?_)
  dsimp only at hv12
  refine AO.yld _ (Yld.sub rfl rfl (by omega) (by omega)) rfl rfl rfl ?_
  refine AO.yld _ (Yld.fieldAddr Try.underlying52 rfl rfl Try.sizeOf2 rfl rfl rfl) rfl rfl rfl ?_
  refine AO.store Try.sizeOf2 rfl rfl rfl rfl rfl rfl ?_
  refine AO.nil ?_
  refine AC.seq ?_
  refine AC.region ?_
  refine AO.yld _ (Yld.loadAgg Try.isAgg52 Try.sizeOf52 rfl rfl rfl rfl) rfl rfl rfl ?_
  refine AO.store Try.sizeOf52 rfl rfl rfl rfl rfl rfl ?_
  refine AO.nil ?_
  refine FnE.ret (_, _, _, _) [0] [0] Try.results71 (RVs.cons (RV.cell Try.isAgg52 Try.sizeOf52 rfl rfl rfl rfl) RVs.nil) rfl rfl rfl ?_ rfl ⟨⟨_, rfl, rfl⟩, trivial⟩
  · -- holds
    show _ ≤ _ ∧ _ ≤ _; omega

theorem spec_l24Bend_c {code : List UInt8} {p sd pe wi : Int} (h0 : 0 ≤ p) (h1 : p ≤ 1000000000000000000) {nm : List UInt8} (hn : nm.length ≤ 2) :
    FnE (α := (List UInt8) × Int × Int × Int × Int) Try.prog 73 [.h 0, .agg [.p (.v (str nm)), .p (.v (.int .i64 pe)), .p (.v (.int .i64 wi))]] [(0, .box 94 [.p (.sl 1 (code.map encB)), .p (.v (.int .i64 p)), .p (.v (.int .u64 sd))])] [0] (fun ⟨n2, pe2, wi2, q, s⟩ => n2.length ≤ 2 ∧ p ≤ q ∧ q ≤ p + 4) (fun ⟨n2, pe2, wi2, q, s⟩ => .agg [.p (.v (str n2)), .p (.v (.int .i64 pe2)), .p (.v (.int .i64 wi2))]) (fun ⟨n2, pe2, wi2, q, s⟩ => [(0, .box 94 [.p (.sl 1 (code.map encB)), .p (.v (.int .i64 q)), .p (.v (.int .u64 s))])]) := by
  refine FnE.intro Try.func73 rfl Try.ntmps73 rfl rfl (fun w0 F0 η φ w => ?_)
  refine AC.seq ?_
  refine AC.region ?_
  refine AO.box 1 rfl rfl rfl rfl rfl ?_
  refine AO.alloc 2 Try.zeroValue52 rfl rfl rfl ?_
  refine AO.nil ?_
  refine AC.seq ?_
  refine AC.seq ?_
  refine AC.region ?_
  refine AO.yld _ (Yld.move rfl) rfl rfl rfl ?_
  refine AO.callW (wantedN rfl) [0] [0] [0] rfl rfl Try.call72 rfl (src_pick_c (by omega) (by omega) (by omega)) (.own rfl) rfl (fun ⟨_, _, _⟩ => rfl) ⟨rfl, trivial⟩ rfl (fun ⟨_, _, _⟩ => rfl) (fun ⟨_, _, _⟩ => rfl) (fun ⟨v6, q6, s6⟩ hv6 => ?_)
  dsimp only at hv6
  refine AO.nil ?_
  refine AC.block ?_
  refine AC.seq ?_
  refine AC.region ?_
  refine AO.yld _ (Yld.int rfl rfl rfl) rfl rfl rfl ?_
  refine AO.yld _ (Yld.assign rfl) rfl rfl rfl ?_
  refine AO.nil ?_
  refine AC.cond _ rfl (fun c7 => ?_) (fun c7 => ?_)
  · -- c7 True
    refine AC.region ?_
    refine AO.yld _ (Yld.move rfl) rfl rfl rfl ?_
    refine AO.buildSlice (rows := [[_], [_], [_]]) 3 Try.underlying23 ty2 rfl rfl rfl rfl rfl rfl rfl rfl rfl ?_
    refine AO.callW (wantedN rfl) [0, 3] [0, 1] [0] rfl rfl Try.call74 rfl (src_among_c (by omega) (by omega) (xs := [0, 40, 41]) (by decide) (by decide)) (.own rfl) rfl (fun ⟨_, _, _⟩ => rfl) ⟨rfl, rfl, trivial⟩ rfl (fun ⟨_, _, _⟩ => rfl) (fun ⟨_, _, _⟩ => rfl) (fun ⟨v11, q11, s11⟩ hv11 => ?_)
    dsimp only at hv11
    refine AO.yld _ (Yld.fieldAddr Try.underlying52 rfl rfl Try.sizeOf2 rfl rfl rfl) rfl rfl rfl ?_
    refine AO.store Try.sizeOf2 rfl rfl rfl rfl rfl rfl ?_
    refine AO.nil ?_
    refine AC.mark ?_
    refine AC.seq ?_
    refine AC.region ?_
    refine AO.yld _ (Yld.loadAgg Try.isAgg52 Try.sizeOf52 rfl rfl rfl rfl) rfl rfl rfl ?_
    refine AO.store Try.sizeOf52 rfl rfl rfl rfl rfl rfl ?_
    refine AO.nil ?_
    refine FnE.ret (_, _, _, _, _) [0] [0] Try.results73 (RVs.cons (RV.cell Try.isAgg52 Try.sizeOf52 rfl rfl rfl rfl) RVs.nil) rfl rfl rfl ?_ rfl ⟨⟨_, rfl, rfl⟩, trivial⟩
    · -- holds
      show List.length _ ≤ 2 ∧ _ ≤ _ ∧ _ ≤ _; refine ⟨?_, by omega, by omega⟩; first | exact hn | (have h := hv23.1; simp at h; rcases h with h | h <;> rw [h] <;> decide)
  · -- c7 False
    refine AC.seq ?_
    refine AC.region ?_
    refine AO.yld _ (Yld.int rfl rfl rfl) rfl rfl rfl ?_
    refine AO.yld _ (Yld.assign rfl) rfl rfl rfl ?_
    refine AO.nil ?_
    refine AC.cond _ rfl (fun c13 => ?_) (fun c13 => ?_)
    · -- c13 True
      refine AC.region ?_
      refine AO.yld _ (Yld.move rfl) rfl rfl rfl ?_
      refine AO.buildSlice (rows := [[_], [_], [_]]) 3 Try.underlying23 ty2 rfl rfl rfl rfl rfl rfl rfl rfl rfl ?_
      refine AO.callW (wantedN rfl) [0, 3] [0, 1] [0] rfl rfl Try.call74 rfl (src_among_c (by omega) (by omega) (xs := [-2, 9, 10]) (by decide) (by decide)) (.own rfl) rfl (fun ⟨_, _, _⟩ => rfl) ⟨rfl, rfl, trivial⟩ rfl (fun ⟨_, _, _⟩ => rfl) (fun ⟨_, _, _⟩ => rfl) (fun ⟨v17, q17, s17⟩ hv17 => ?_)
      dsimp only at hv17
      refine AO.yld _ (Yld.fieldAddr Try.underlying52 rfl rfl Try.sizeOf2 rfl rfl rfl) rfl rfl rfl ?_
      refine AO.store Try.sizeOf2 rfl rfl rfl rfl rfl rfl ?_
      refine AO.nil ?_
      refine AC.mark ?_
      refine AC.seq ?_
      refine AC.region ?_
      refine AO.yld _ (Yld.loadAgg Try.isAgg52 Try.sizeOf52 rfl rfl rfl rfl) rfl rfl rfl ?_
      refine AO.store Try.sizeOf52 rfl rfl rfl rfl rfl rfl ?_
      refine AO.nil ?_
      refine FnE.ret (_, _, _, _, _) [0] [0] Try.results73 (RVs.cons (RV.cell Try.isAgg52 Try.sizeOf52 rfl rfl rfl rfl) RVs.nil) rfl rfl rfl ?_ rfl ⟨⟨_, rfl, rfl⟩, trivial⟩
      · -- holds
        show List.length _ ≤ 2 ∧ _ ≤ _ ∧ _ ≤ _; refine ⟨?_, by omega, by omega⟩; first | exact hn | (have h := hv23.1; simp at h; rcases h with h | h <;> rw [h] <;> decide)
    · -- c13 False
      refine AC.seq ?_
      refine AC.region ?_
      refine AO.yld _ (Yld.int rfl rfl rfl) rfl rfl rfl ?_
      refine AO.yld _ (Yld.assign rfl) rfl rfl rfl ?_
      refine AO.nil ?_
      refine AC.cond _ rfl (fun c19 => ?_) (fun c19 => ?_)
      · -- c19 True
        refine AC.region ?_
        refine AO.yld _ (Yld.move rfl) rfl rfl rfl ?_
        refine AO.buildSlice (rows := [[_], [_]]) 3 Try.underlying95 ty9 rfl rfl rfl rfl rfl rfl rfl rfl rfl ?_
        refine AO.callW (wantedN rfl) [0, 3] [0, 1] [0] rfl rfl Try.call82 rfl (src_text_c (by omega) (by omega) (xs := [[], [71]]) (by decide) (by decide)) (.own rfl) rfl (fun ⟨_, _, _⟩ => rfl) ⟨rfl, rfl, trivial⟩ rfl (fun ⟨_, _, _⟩ => rfl) (fun ⟨_, _, _⟩ => rfl) (fun ⟨v23, q23, s23⟩ hv23 => ?_)
        dsimp only at hv23
        refine AO.yld _ (Yld.fieldAddr Try.underlying52 rfl rfl Try.sizeOf9 rfl rfl rfl) rfl rfl rfl ?_
        refine AO.store Try.sizeOf9 rfl rfl rfl rfl rfl rfl ?_
        refine AO.nil ?_
        refine AC.mark ?_
        refine AC.seq ?_
        refine AC.region ?_
        refine AO.yld _ (Yld.loadAgg Try.isAgg52 Try.sizeOf52 rfl rfl rfl rfl) rfl rfl rfl ?_
        refine AO.store Try.sizeOf52 rfl rfl rfl rfl rfl rfl ?_
        refine AO.nil ?_
        refine FnE.ret (_, _, _, _, _) [0] [0] Try.results73 (RVs.cons (RV.cell Try.isAgg52 Try.sizeOf52 rfl rfl rfl rfl) RVs.nil) rfl rfl rfl ?_ rfl ⟨⟨_, rfl, rfl⟩, trivial⟩
        · -- holds
          show List.length _ ≤ 2 ∧ _ ≤ _ ∧ _ ≤ _; refine ⟨?_, by omega, by omega⟩; first | exact hn | (have h := hv23.1; simp at h; rcases h with h | h <;> rw [h] <;> decide)
      · -- c19 False
        refine AC.skip ?_
        refine AC.mark ?_
        refine AC.seq ?_
        refine AC.region ?_
        refine AO.yld _ (Yld.loadAgg Try.isAgg52 Try.sizeOf52 rfl rfl rfl rfl) rfl rfl rfl ?_
        refine AO.store Try.sizeOf52 rfl rfl rfl rfl rfl rfl ?_
        refine AO.nil ?_
        refine FnE.ret (_, _, _, _, _) [0] [0] Try.results73 (RVs.cons (RV.cell Try.isAgg52 Try.sizeOf52 rfl rfl rfl rfl) RVs.nil) rfl rfl rfl ?_ rfl ⟨⟨_, rfl, rfl⟩, trivial⟩
        · -- holds
          show List.length _ ≤ 2 ∧ _ ≤ _ ∧ _ ≤ _; refine ⟨?_, by omega, by omega⟩; first | exact hn | (have h := hv23.1; simp at h; rcases h with h | h <;> rw [h] <;> decide)

theorem spec_l24Draw_c {code : List UInt8} {p sd : Int} (h0 : 0 ≤ p) (h1 : p ≤ 1000000000000000) :
    FnE (α := List Group × Int × Int) Try.prog 54 [.h 0] [(0, .box 94 [.p (.sl 1 (code.map encB)), .p (.v (.int .i64 p)), .p (.v (.int .u64 sd))])] [0] (fun ⟨gs, q, s⟩ => DrawnG gs ∧ p ≤ q ∧ q ≤ p + 200) (fun ⟨gs, q, s⟩ => .h 1) (fun ⟨gs, q, s⟩ => [(0, .box 94 [.p (.sl 1 (code.map encB)), .p (.v (.int .i64 q)), .p (.v (.int .u64 s))]), (1, .vec 52 3 (gs.map encGroup))]) := by
  refine FnE.intro Try.func54 rfl Try.ntmps54 rfl rfl (fun w0 F0 η φ w => ?_)
  refine AC.seq ?_
  refine AC.region ?_
  refine AO.yld _ (Yld.assign rfl) rfl rfl rfl ?_
  refine AO.nil ?_
  refine AC.seq ?_
  refine AC.region ?_
  refine AO.buildSlice (rows := [[_], [_], [_], [_], [_], [_]]) 1 Try.underlying95 ty9 rfl rfl rfl rfl rfl rfl rfl rfl rfl ?_
  refine AO.yld _ (Yld.assign rfl) rfl rfl rfl ?_
  refine AO.nil ?_
  refine AC.seq ?_
  refine AC.region ?_
  refine AO.buildSlice (rows := []) 2 Try.underlying27 ty52 rfl rfl rfl rfl rfl rfl rfl rfl rfl ?_
  refine AO.yld _ (Yld.assign rfl) rfl rfl rfl ?_
  refine AO.nil ?_
  refine AC.seq ?_
  refine AC.seq ?_
  refine AC.region ?_
  refine AO.yld _ (Yld.assign rfl) rfl rfl rfl ?_
  refine AO.nil ?_
  refine AC.block ?_
  refine AC.loopC4 [(0, _), (2, _), (3, _)] [(1, _), (900, _)] (fun (k : Nat) (gs : List Group) (q s : Int) => [(5, .p (.v (.int .i64 (k : Int)))), (4, .h 2)]) (fun (k : Nat) (gs : List Group) (q s : Int) => [(0, .box 94 [.p (.sl 1 (code.map encB)), .p (.v (.int .i64 q)), .p (.v (.int .u64 s))]), (2, .vec 52 3 (gs.map encGroup))]) (fun (k : Nat) (gs : List Group) (q s : Int) => DrawnTo gs k ∧ k ≤ 6 ∧ p ≤ q ∧ q ≤ p + 6 * (k : Nat)) (fun (k : Nat) (gs : List Group) (q s : Int) => 6 - k) 0 [] p sd ⟨rfl, rfl, rfl, trivial⟩ ⟨rfl, rfl, trivial⟩ ⟨rfl, rfl, trivial⟩ ⟨rfl, rfl, trivial⟩ ?_ (fun k gs q s hJ => ?_)
  · exact ⟨drawnTo_nil, by omega, by omega, by omega⟩
  · -- round
    have hgl1 := hJ.1.1
    have hJ2 := hJ.2
    refine AC.seq ?_
    refine AC.seq ?_
    refine AC.region ?_
    refine AO.yld _ (Yld.move rfl) rfl rfl rfl ?_
    refine AO.yld _ (Yld.move rfl) rfl rfl rfl ?_
    refine AO.yld _ (Yld.len Try.underlying95 rfl rfl) rfl rfl rfl ?_
    refine AO.yld _ (Yld.int rfl rfl rfl) rfl rfl rfl ?_
    refine AO.nil ?_
    refine AC.cond _ rfl (fun c13 => ?_) (fun c13 => ?_)
    · -- c13 True
      have hk6 : k < 6 := by have h := c13; simp at h; omega
      obtain ⟨cn, hrowN⟩ := lett6 hk6
      refine AC.skip ?_
      refine AC.seq ?_
      refine AC.block ?_
      refine AC.seq ?_
      refine AC.region ?_
      refine AO.yld _ (Yld.move rfl) rfl rfl rfl ?_
      refine AO.callW (wantedN rfl) [0] [0] [0] rfl rfl Try.call70 rfl (src_one_c (by omega) (by omega) (by omega)) (.own rfl) rfl (fun ⟨_, _, _⟩ => rfl) ⟨rfl, trivial⟩ rfl (fun ⟨_, _, _⟩ => rfl) (fun ⟨_, _, _⟩ => rfl) (fun ⟨b17, q17, s17⟩ hb17 => ?_)
      dsimp only at hb17
      refine AO.yld _ (Yld.not rfl) rfl rfl rfl ?_
      refine AO.nil ?_
      refine AC.cond _ rfl (fun c18 => ?_) (fun c18 => ?_)
      · -- c18 True
        refine AC.region ?_
        refine AO.yld _ (Yld.move rfl) rfl rfl rfl ?_
        refine AO.yld _ (Yld.move rfl) rfl rfl rfl ?_
        refine AO.yld _ (Yld.move rfl) rfl rfl rfl ?_
        refine AO.yld _ (Yld.move rfl) rfl rfl rfl ?_
        refine AO.yld _ (Yld.indexVec Try.underlying95 Try.sizeOf9 rfl rfl rfl rfl (by show k < 6; omega)) rfl rfl rfl ?_
        refine AO.yld _ (Yld.load Try.isAgg9 rfl (behind_el (rows := [[PV.v (.string ⟨#[97]⟩)], [PV.v (.string ⟨#[98]⟩)], [PV.v (.string ⟨#[99]⟩)], [PV.v (.string ⟨#[100]⟩)], [PV.v (.string ⟨#[101]⟩)], [PV.v (.string ⟨#[102]⟩)]]) rfl hrowN)) rfl rfl rfl ?_
        refine AO.callW (wantedN rfl) [0] [0] [0] rfl rfl Try.call71 rfl (spec_l24DrawOne_c (by omega) (by omega)) (.own rfl) rfl (fun ⟨_, _, _, _⟩ => rfl) ⟨rfl, trivial⟩ rfl (fun ⟨_, _, _, _⟩ => rfl) (fun ⟨_, _, _, _⟩ => rfl) (fun ⟨pe25, wi25, q25, s25⟩ hpe25 => ?_)
        dsimp only at hpe25
        obtain ⟨ng, hng⟩ : ∃ ng, ng = gs ++ [⟨[cn], pe25, wi25⟩] := ⟨_, rfl⟩
        obtain ⟨nq, hnq⟩ : ∃ nq, nq = q25 := ⟨_, rfl⟩
        obtain ⟨ns, hns⟩ : ∃ ns, ns = s25 := ⟨_, rfl⟩
        have hJn : DrawnTo ng (k + 1) ∧ k + 1 ≤ 6 ∧ p ≤ nq ∧ nq ≤ p + 6 * (k + 1 : Nat) := ⟨by rw [hng]; exact drawnTo_add hJ.1 (by simp), by omega, by omega, by omega⟩
        refine AO.buildSlice (rows := [[_, _, _]]) 3 Try.underlying27 ty52 rfl rfl rfl rfl rfl rfl rfl rfl rfl ?_
        refine AO.append 2 Try.underlying27 ty52 rfl rfl rfl rfl rfl rfl rfl (by simp [pvOne, str]) (by simp only [List.length_map, List.length_cons, List.length_nil]; omega) (by simp only [List.length_map, List.length_cons, List.length_nil]; omega) rfl ?_
        refine AO.yld _ (Yld.assign rfl) rfl rfl rfl ?_
        refine AO.nil ?_
        refine AC.mark ?_
        refine AC.region ?_
        refine AO.yld _ (Yld.move rfl) rfl rfl rfl ?_
        refine AO.yld _ (Yld.add rfl rfl (by omega) (by omega)) rfl rfl rfl ?_
        refine AO.yld _ (Yld.assign rfl) rfl rfl rfl ?_
        refine AO.nil ?_
        refine AC.back ⟨k + 1, ng, nq, ns, ?_, ?_, ⟨?_, ?_, trivial⟩, ⟨?_, ?_, trivial⟩, ⟨rfl, rfl, rfl, trivial⟩, ⟨rfl, rfl, trivial⟩⟩
        · exact hJn
        · omega
        · rfl
        · rfl
        · first | (subst hnq hns; rfl) | rfl
        · first | (rw [hng, map_snocG]; rfl) | (rw [hng]; rfl)
      · -- c18 False
        obtain ⟨ng, hng⟩ : ∃ ng, ng = gs := ⟨_, rfl⟩
        obtain ⟨nq, hnq⟩ : ∃ nq, nq = q17 := ⟨_, rfl⟩
        obtain ⟨ns, hns⟩ : ∃ ns, ns = s17 := ⟨_, rfl⟩
        have hJn : DrawnTo ng (k + 1) ∧ k + 1 ≤ 6 ∧ p ≤ nq ∧ nq ≤ p + 6 * (k + 1 : Nat) := ⟨by rw [hng]; exact drawnTo_up hJ.1, by omega, by omega, by omega⟩
        refine AC.skip ?_
        refine AC.mark ?_
        refine AC.region ?_
        refine AO.yld _ (Yld.move rfl) rfl rfl rfl ?_
        refine AO.yld _ (Yld.add rfl rfl (by omega) (by omega)) rfl rfl rfl ?_
        refine AO.yld _ (Yld.assign rfl) rfl rfl rfl ?_
        refine AO.nil ?_
        refine AC.back ⟨k + 1, ng, nq, ns, ?_, ?_, ⟨?_, ?_, trivial⟩, ⟨?_, ?_, trivial⟩, ⟨rfl, rfl, rfl, trivial⟩, ⟨rfl, rfl, trivial⟩⟩
        · exact hJn
        · omega
        · rfl
        · rfl
        · first | (subst hnq hns; rfl) | rfl
        · first | (rw [hng, map_snocG]; rfl) | (rw [hng]; rfl)
    · -- c13 False
      have hk6 : k = 6 := by have h := c13; simp at h; omega
      refine AC.exit rfl ?_
      refine AC.seq ?_
      refine AC.seq ?_
      refine AC.region ?_
      refine AO.yld _ (Yld.move rfl) rfl rfl rfl ?_
      refine AO.callW (wantedN rfl) [0] [0] [0] rfl rfl Try.call72 rfl (src_pick_c (by omega) (by omega) (by omega)) (.own rfl) rfl (fun ⟨_, _, _⟩ => rfl) ⟨rfl, trivial⟩ rfl (fun ⟨_, _, _⟩ => rfl) (fun ⟨_, _, _⟩ => rfl) (fun ⟨v29, q29, s29⟩ hv29 => ?_)
      dsimp only at hv29
      refine AO.nil ?_
      refine AC.block ?_
      refine AC.seq ?_
      refine AC.region ?_
      refine AO.yld _ (Yld.int rfl rfl rfl) rfl rfl rfl ?_
      refine AO.yld _ (Yld.assign rfl) rfl rfl rfl ?_
      refine AO.nil ?_
      refine AC.cond _ rfl (fun c30 => ?_) (fun c30 => ?_)
      · -- c30 True
        refine AC.region ?_
        refine AO.yld _ (Yld.move rfl) rfl rfl rfl ?_
        refine AO.yld _ (Yld.move rfl) rfl rfl rfl ?_
        refine AO.yld _ (Yld.move rfl) rfl rfl rfl ?_
        refine AO.callW (wantedN rfl) [0] [0] [0] rfl rfl Try.call71 rfl (spec_l24DrawOne_c (by omega) (by omega)) (.own rfl) rfl (fun ⟨_, _, _, _⟩ => rfl) ⟨rfl, trivial⟩ rfl (fun ⟨_, _, _, _⟩ => rfl) (fun ⟨_, _, _, _⟩ => rfl) (fun ⟨pe35, wi35, q35, s35⟩ hpe35 => ?_)
        dsimp only at hpe35
        refine AO.callW (wantedN rfl) [0] [0] [0] rfl rfl Try.call73 rfl (spec_l24Bend_c (by omega) (by omega) (by first | assumption | simp)) (.own rfl) rfl (fun ⟨_, _, _, _, _⟩ => rfl) ⟨rfl, trivial⟩ rfl (fun ⟨_, _, _, _, _⟩ => rfl) (fun ⟨_, _, _, _, _⟩ => rfl) (fun ⟨n236, pe236, wi236, q36, s36⟩ hn236 => ?_)
        dsimp only at hn236
        refine AO.buildSlice (rows := [[_, _, _]]) 3 Try.underlying27 ty52 rfl rfl rfl rfl rfl rfl rfl rfl rfl ?_
        refine AO.append 2 Try.underlying27 ty52 rfl rfl rfl rfl rfl rfl rfl (by simp [pvOne, str]) (by simp only [List.length_map, List.length_cons, List.length_nil]; omega) (by simp only [List.length_map, List.length_cons, List.length_nil]; omega) rfl ?_
        refine AO.yld _ (Yld.assign rfl) rfl rfl rfl ?_
        refine AO.nil ?_
        refine AC.mark ?_
        refine AC.seq ?_
        refine AC.region ?_
        refine AO.yld _ (Yld.move rfl) rfl rfl rfl ?_
        refine AO.yld _ (Yld.assign rfl) rfl rfl rfl ?_
        refine AO.nil ?_
        refine FnE.ret (gs ++ [⟨n236, pe236, wi236⟩], q36, s36) [0, 2] [0, 1] Try.results54 (RVs.cons (RV.tmp rfl) RVs.nil) rfl rfl rfl ?_ ?_ ⟨⟨_, rfl, ?_⟩, ⟨_, rfl, ?_⟩, trivial⟩
        · -- holds
          show DrawnG _ ∧ _ ≤ _ ∧ _ ≤ _; have hk6 := hJ.2.1; refine ⟨?_, by omega, by omega⟩; first | exact drawnTo_ok hI.1 (by omega) | exact drawnTo_ok (drawnTo_add (g := ⟨_, _, _⟩) hJ.1 hn236.1) (by omega) | exact drawnTo_ok hJ.1 (by omega)
        · -- value
          rfl
        · -- thing 0
          rfl
        · -- thing 1
          first | rfl | (rw [map_snocG]; rfl)
      · -- c30 False
        refine AC.seq ?_
        refine AC.region ?_
        refine AO.yld _ (Yld.int rfl rfl rfl) rfl rfl rfl ?_
        refine AO.yld _ (Yld.assign rfl) rfl rfl rfl ?_
        refine AO.nil ?_
        refine AC.cond _ rfl (fun c39 => ?_) (fun c39 => ?_)
        · -- c39 True
          refine AC.seq ?_
          refine AC.region ?_
          refine AO.yld _ (Yld.move rfl) rfl rfl rfl ?_
          refine AO.buildSlice (rows := [[_], [_]]) 3 Try.underlying23 ty2 rfl rfl rfl rfl rfl rfl rfl rfl rfl ?_
          refine AO.callW (wantedN rfl) [0, 3] [0, 1] [0] rfl rfl Try.call74 rfl (src_among_c (by omega) (by omega) (xs := [12, 13]) (by decide) (by decide)) (.own rfl) rfl (fun ⟨_, _, _⟩ => rfl) ⟨rfl, rfl, trivial⟩ rfl (fun ⟨_, _, _⟩ => rfl) (fun ⟨_, _, _⟩ => rfl) (fun ⟨v43, q43, s43⟩ hv43 => ?_)
          dsimp only at hv43
          have hm13 : v43 ≤ 13 := by have h := hv43.1; simp at h; omega
          refine AO.yld _ (Yld.assign rfl) rfl rfl rfl ?_
          refine AO.nil ?_
          refine AC.seq ?_
          refine AC.region ?_
          refine AO.buildSlice (rows := []) 4 Try.underlying27 ty52 rfl rfl rfl rfl rfl rfl rfl rfl rfl ?_
          refine AO.yld _ (Yld.assign rfl) rfl rfl rfl ?_
          refine AO.nil ?_
          refine AC.seq ?_
          refine AC.region ?_
          refine AO.yld _ (Yld.assign rfl) rfl rfl rfl ?_
          refine AO.nil ?_
          refine AC.block ?_
          refine AC.loopC2 [(2, _), (6, _)] [(0, _), (1, _), (2, _), (900, _)] (fun (k : Nat) (gs2 : List Group) => [(7, .p (.v (.int .i64 (k : Int)))), (4, .h 4)]) (fun (k : Nat) (gs2 : List Group) => [(4, .vec 52 3 (gs2.map encGroup))]) (fun (k : Nat) (gs2 : List Group) => DrawnTo gs2 k ∧ (k : Int) ≤ 13) (fun (k : Nat) (gs2 : List Group) => 13 - k) 0 [] ⟨rfl, rfl, trivial⟩ ⟨rfl, rfl, rfl, rfl, trivial⟩ ⟨rfl, rfl, trivial⟩ ⟨rfl, trivial⟩ ?_ (fun k gs2 hI => ?_)
          · exact ⟨drawnTo_nil, by omega⟩
          · -- round
            have hgl2 := hI.1.1
            obtain ⟨cw, hcw⟩ := byte_wrap (97 + (k : Int))
            refine AC.seq ?_
            refine AC.seq ?_
            refine AC.region ?_
            refine AO.yld _ (Yld.move rfl) rfl rfl rfl ?_
            refine AO.yld _ (Yld.move rfl) rfl rfl rfl ?_
            refine AO.yld _ (Yld.int rfl rfl rfl) rfl rfl rfl ?_
            refine AO.nil ?_
            refine AC.cond _ rfl (fun c47 => ?_) (fun c47 => ?_)
            · -- c47 True
              have hkm : (k : Int) < v43 := by simpa using c47
              refine AC.skip ?_
              refine AC.seq ?_
              refine AC.block ?_
              refine AC.region ?_
              refine AO.yld _ (Yld.move rfl) rfl rfl rfl ?_
              refine AO.yld _ (Yld.move rfl) rfl rfl rfl ?_
              refine AO.yld _ (Yld.add rfl rfl (by omega) (by omega)) rfl rfl rfl ?_
              refine AO.yld _ (Yld.convInt Try.underlying2 Try.underlying5 rfl) rfl rfl rfl ?_
              refine AO.buildSlice (rows := [[_]]) 5 Try.underlying39 ty5 rfl rfl rfl rfl rfl rfl rfl rfl rfl ?_
              refine AO.yld _ (Yld.convBytes (l := [cw]) Try.underlying39 Try.underlying5 Try.underlying9 rfl (by show some (PV.sl 1 [[PV.v (.int .u8 (IntKind.u8.wrap (97 + (k : Int))))]]) = _; rw [hcw]; rfl)) rfl rfl rfl ?_
              refine AO.yld _ (Yld.cat rfl rfl (by simp)) rfl rfl rfl ?_
              refine AO.yld _ (Yld.buildA (zs := [.v (str []), .v (.int .i64 0), .v (.int .i64 0)]) bld52 rfl rfl) rfl rfl rfl ?_
              refine AO.buildSlice (rows := [[_, _, _]]) 6 Try.underlying27 ty52 rfl rfl rfl rfl rfl rfl rfl rfl rfl ?_
              refine AO.append 4 Try.underlying27 ty52 rfl rfl rfl rfl rfl rfl rfl (by simp [pvOne, str]) (by simp only [List.length_map, List.length_cons, List.length_nil]; omega) (by simp only [List.length_map, List.length_cons, List.length_nil]; omega) rfl ?_
              refine AO.yld _ (Yld.assign rfl) rfl rfl rfl ?_
              refine AO.nil ?_
              refine AC.mark ?_
              refine AC.region ?_
              refine AO.yld _ (Yld.move rfl) rfl rfl rfl ?_
              refine AO.yld _ (Yld.add rfl rfl (by omega) (by omega)) rfl rfl rfl ?_
              refine AO.yld _ (Yld.assign rfl) rfl rfl rfl ?_
              refine AO.nil ?_
              refine AC.back ⟨k + 1, gs2 ++ [⟨[110, cw], 3, -1⟩], ?_, ?_, ⟨?_, ?_, trivial⟩, ⟨?_, trivial⟩, ⟨rfl, rfl, trivial⟩, ⟨rfl, rfl, rfl, rfl, trivial⟩⟩
              · exact ⟨drawnTo_add hI.1 (by simp), by omega⟩
              · omega
              · rfl
              · rfl
              · rw [map_snocG]; rfl
            · -- c47 False
              refine AC.exit rfl ?_
              refine AC.mark ?_
              refine AC.seq ?_
              refine AC.region ?_
              refine AO.yld _ (Yld.move rfl) rfl rfl rfl ?_
              refine AO.yld _ (Yld.assign rfl) rfl rfl rfl ?_
              refine AO.nil ?_
              refine FnE.ret (gs2, q43, s43) [0, 4] [0, 1] Try.results54 (RVs.cons (RV.tmp rfl) RVs.nil) rfl rfl rfl ?_ ?_ ⟨⟨_, rfl, ?_⟩, ⟨_, rfl, ?_⟩, trivial⟩
              · -- holds
                show DrawnG _ ∧ _ ≤ _ ∧ _ ≤ _; have hk6 := hJ.2.1; refine ⟨?_, by omega, by omega⟩; first | exact drawnTo_ok hI.1 (by omega) | exact drawnTo_ok (drawnTo_add (g := ⟨_, _, _⟩) hJ.1 hn236.1) (by omega) | exact drawnTo_ok hJ.1 (by omega)
              · -- value
                rfl
              · -- thing 0
                rfl
              · -- thing 1
                first | rfl | (rw [map_snocG]; rfl)
        · -- c39 False
          refine AC.skip ?_
          refine AC.mark ?_
          refine AC.seq ?_
          refine AC.region ?_
          refine AO.yld _ (Yld.move rfl) rfl rfl rfl ?_
          refine AO.yld _ (Yld.assign rfl) rfl rfl rfl ?_
          refine AO.nil ?_
          refine FnE.ret (gs, q29, s29) [0, 2] [0, 1] Try.results54 (RVs.cons (RV.tmp rfl) RVs.nil) rfl rfl rfl ?_ ?_ ⟨⟨_, rfl, ?_⟩, ⟨_, rfl, ?_⟩, trivial⟩
          · -- holds
            show DrawnG _ ∧ _ ≤ _ ∧ _ ≤ _; have hk6 := hJ.2.1; refine ⟨?_, by omega, by omega⟩; first | exact drawnTo_ok hI.1 (by omega) | exact drawnTo_ok (drawnTo_add (g := ⟨_, _, _⟩) hJ.1 hn236.1) (by omega) | exact drawnTo_ok hJ.1 (by omega)
          · -- value
            rfl
          · -- thing 0
            rfl
          · -- thing 1
            first | rfl | (rw [map_snocG]; rfl)

theorem spec_l24DrawRows_c {code : List UInt8} {p sd : Int} (h0 : 0 ≤ p) (h1 : p ≤ 1000000000000000) :
    FnE (α := List Int × Int × Int) Try.prog 55 [.h 0] [(0, .box 94 [.p (.sl 1 (code.map encB)), .p (.v (.int .i64 p)), .p (.v (.int .u64 sd))])] [0] (fun ⟨rs, q, s⟩ => rs.length ≤ 11 ∧ p ≤ q ∧ q ≤ p + 200) (fun ⟨rs, q, s⟩ => .h 1) (fun ⟨rs, q, s⟩ => [(0, .box 94 [.p (.sl 1 (code.map encB)), .p (.v (.int .i64 q)), .p (.v (.int .u64 s))]), (1, .vec 2 1 (rs.map encI))]) := by
  refine FnE.intro Try.func55 rfl Try.ntmps55 rfl rfl (fun w0 F0 η φ w => ?_)
  refine AC.seq ?_
  refine AC.region ?_
  refine AO.yld _ (Yld.assign rfl) rfl rfl rfl ?_
  refine AO.nil ?_
  refine AC.seq ?_
  refine AC.region ?_
  refine AO.buildSlice (rows := []) 1 Try.underlying23 ty2 rfl rfl rfl rfl rfl rfl rfl rfl rfl ?_
  refine AO.yld _ (Yld.assign rfl) rfl rfl rfl ?_
  refine AO.nil ?_
  refine AC.seq ?_
  refine AC.seq ?_
  refine AC.region ?_
  refine AO.yld _ (Yld.move rfl) rfl rfl rfl ?_
  refine AO.callW (wantedN rfl) [0] [0] [0] rfl rfl Try.call72 rfl (src_pick_c (by omega) (by omega) (by omega)) (.own rfl) rfl (fun ⟨_, _, _⟩ => rfl) ⟨rfl, trivial⟩ rfl (fun ⟨_, _, _⟩ => rfl) (fun ⟨_, _, _⟩ => rfl) (fun ⟨v7, q7, s7⟩ hv7 => ?_)
  dsimp only at hv7
  refine AO.yld _ (Yld.assign rfl) rfl rfl rfl ?_
  refine AO.nil ?_
  refine AC.block ?_
  refine AC.loopC4 [(0, _), (2, _)] [(900, _)] (fun (k : Nat) (rs : List Int) (q s : Int) => [(4, .p (.v (.int .i64 (v7 - (k : Int))))), (3, .h 1)]) (fun (k : Nat) (rs : List Int) (q s : Int) => [(0, .box 94 [.p (.sl 1 (code.map encB)), .p (.v (.int .i64 q)), .p (.v (.int .u64 s))]), (1, .vec 2 1 (rs.map encI))]) (fun (k : Nat) (rs : List Int) (q s : Int) => rs.length = k ∧ (k : Int) ≤ v7 ∧ p ≤ q ∧ q ≤ p + 2 + 2 * (k : Int)) (fun (k : Nat) (rs : List Int) (q s : Int) => v7.toNat - k) 0 [] q7 s7 ⟨rfl, rfl, trivial⟩ ⟨rfl, trivial⟩ ⟨by show some (AV.p (PV.v (Value.int IntKind.i64 _))) = _; rw [show v7 - ((0 : Nat) : Int) = v7 by omega], rfl, trivial⟩ ⟨rfl, rfl, trivial⟩ ?_ (fun k rs q s hJ => ?_)
  · exact ⟨rfl, by omega, by omega, by omega⟩
  · -- round
    refine AC.seq ?_
    refine AC.seq ?_
    refine AC.region ?_
    refine AO.yld _ (Yld.move rfl) rfl rfl rfl ?_
    refine AO.yld _ (Yld.int rfl rfl rfl) rfl rfl rfl ?_
    refine AO.nil ?_
    refine AC.cond _ rfl (fun c9 => ?_) (fun c9 => ?_)
    · -- c9 True
      have hkv : (k : Int) < v7 := by have h := c9; simp at h; omega
      refine AC.skip ?_
      refine AC.seq ?_
      refine AC.block ?_
      refine AC.region ?_
      refine AO.yld _ (Yld.move rfl) rfl rfl rfl ?_
      refine AO.yld _ (Yld.move rfl) rfl rfl rfl ?_
      refine AO.callW (wantedN rfl) [0] [0] [0] rfl rfl Try.call72 rfl (src_pick_c (by omega) (by omega) (by omega)) (.own rfl) rfl (fun ⟨_, _, _⟩ => rfl) ⟨rfl, trivial⟩ rfl (fun ⟨_, _, _⟩ => rfl) (fun ⟨_, _, _⟩ => rfl) (fun ⟨v14, q14, s14⟩ hv14 => ?_)
      dsimp only at hv14
      refine AO.buildSlice (rows := [[_]]) 2 Try.underlying23 ty2 rfl rfl rfl rfl rfl rfl rfl rfl rfl ?_
      refine AO.append 1 Try.underlying23 ty2 rfl rfl rfl rfl rfl rfl rfl (by simp [pvOne, str]) (by simp only [List.length_map, List.length_cons, List.length_nil]; omega) (by simp only [List.length_map, List.length_cons, List.length_nil]; omega) rfl ?_
      refine AO.yld _ (Yld.assign rfl) rfl rfl rfl ?_
      refine AO.nil ?_
      refine AC.mark ?_
      refine AC.region ?_
      refine AO.yld _ (Yld.move rfl) rfl rfl rfl ?_
      refine AO.yld _ (Yld.sub rfl rfl (by omega) (by omega)) rfl rfl rfl ?_
      refine AO.yld _ (Yld.assign rfl) rfl rfl rfl ?_
      refine AO.nil ?_
      refine AC.back ⟨k + 1, rs ++ [v14], q14, s14, ?_, ?_, ⟨?_, ?_, trivial⟩, ⟨?_, ?_, trivial⟩, ⟨rfl, rfl, trivial⟩, ⟨rfl, trivial⟩⟩
      · exact ⟨by simp [hJ.1], by omega, by omega, by omega⟩
      · omega
      · show some (AV.p (PV.v (Value.int IntKind.i64 _))) = _; congr 4; omega
      · rfl
      · rfl
      · rw [map_snocG]; rfl
    · -- c9 False
      refine AC.exit rfl ?_
      refine AC.seq ?_
      refine AC.seq ?_
      refine AC.region ?_
      refine AO.yld _ (Yld.move rfl) rfl rfl rfl ?_
      refine AO.callW (wantedN rfl) [0] [0] [0] rfl rfl Try.call72 rfl (src_pick_c (by omega) (by omega) (by omega)) (.own rfl) rfl (fun ⟨_, _, _⟩ => rfl) ⟨rfl, trivial⟩ rfl (fun ⟨_, _, _⟩ => rfl) (fun ⟨_, _, _⟩ => rfl) (fun ⟨v18, q18, s18⟩ hv18 => ?_)
      dsimp only at hv18
      refine AO.nil ?_
      refine AC.block ?_
      refine AC.seq ?_
      refine AC.region ?_
      refine AO.yld _ (Yld.int rfl rfl rfl) rfl rfl rfl ?_
      refine AO.yld _ (Yld.assign rfl) rfl rfl rfl ?_
      refine AO.nil ?_
      refine AC.cond _ rfl (fun c19 => ?_) (fun c19 => ?_)
      · -- c19 True
        refine AC.region ?_
        refine AO.yld _ (Yld.move rfl) rfl rfl rfl ?_
        refine AO.yld _ (Yld.move rfl) rfl rfl rfl ?_
        refine AO.buildSlice (rows := [[_], [_], [_]]) 2 Try.underlying23 ty2 rfl rfl rfl rfl rfl rfl rfl rfl rfl ?_
        refine AO.callW (wantedN rfl) [0, 2] [0, 1] [0] rfl rfl Try.call74 rfl (src_among_c (by omega) (by omega) (xs := [-1, 40, 41]) (by decide) (by decide)) (.own rfl) rfl (fun ⟨_, _, _⟩ => rfl) ⟨rfl, rfl, trivial⟩ rfl (fun ⟨_, _, _⟩ => rfl) (fun ⟨_, _, _⟩ => rfl) (fun ⟨v24, q24, s24⟩ hv24 => ?_)
        dsimp only at hv24
        refine AO.buildSlice (rows := [[_]]) 3 Try.underlying23 ty2 rfl rfl rfl rfl rfl rfl rfl rfl rfl ?_
        refine AO.append 1 Try.underlying23 ty2 rfl rfl rfl rfl rfl rfl rfl (by simp [pvOne, str]) (by simp only [List.length_map, List.length_cons, List.length_nil]; omega) (by simp only [List.length_map, List.length_cons, List.length_nil]; omega) rfl ?_
        refine AO.yld _ (Yld.assign rfl) rfl rfl rfl ?_
        refine AO.nil ?_
        refine AC.mark ?_
        refine AC.seq ?_
        refine AC.region ?_
        refine AO.yld _ (Yld.move rfl) rfl rfl rfl ?_
        refine AO.yld _ (Yld.assign rfl) rfl rfl rfl ?_
        refine AO.nil ?_
        refine FnE.ret (rs ++ [v24], q24, s24) [0, 1] [0, 1] Try.results55 (RVs.cons (RV.tmp rfl) RVs.nil) rfl rfl rfl ?_ ?_ ⟨⟨_, rfl, ?_⟩, ⟨_, rfl, ?_⟩, trivial⟩
        · -- holds
          show List.length _ ≤ 11 ∧ _ ≤ _ ∧ _ ≤ _; refine ⟨?_, by omega, by omega⟩; first | (simp; omega) | omega
        · -- value
          rfl
        · -- thing 0
          rfl
        · -- thing 1
          first | rfl | (rw [map_snocG]; rfl) | exact congrArg (Res.vec 2 1) (zero_rows nn)
      · -- c19 False
        refine AC.seq ?_
        refine AC.region ?_
        refine AO.yld _ (Yld.int rfl rfl rfl) rfl rfl rfl ?_
        refine AO.yld _ (Yld.assign rfl) rfl rfl rfl ?_
        refine AO.nil ?_
        refine AC.cond _ rfl (fun c27 => ?_) (fun c27 => ?_)
        · -- c27 True
          refine AC.region ?_
          refine AO.yld _ (Yld.move rfl) rfl rfl rfl ?_
          refine AO.buildSlice (rows := [[_], [_]]) 2 Try.underlying23 ty2 rfl rfl rfl rfl rfl rfl rfl rfl rfl ?_
          refine AO.callW (wantedN rfl) [0, 2] [0, 1] [0] rfl rfl Try.call74 rfl (src_among_c (by omega) (by omega) (xs := [10, 11]) (by decide) (by decide)) (.own rfl) rfl (fun ⟨_, _, _⟩ => rfl) ⟨rfl, rfl, trivial⟩ rfl (fun ⟨_, _, _⟩ => rfl) (fun ⟨_, _, _⟩ => rfl) (fun ⟨v31, q31, s31⟩ hv31 => ?_)
          dsimp only at hv31
          have hm11 : 0 ≤ v31 ∧ v31 ≤ 11 := by have h := hv31.1; simp at h; omega
          obtain ⟨nn, hnn⟩ := Int.eq_ofNat_of_zero_le hm11.1
          subst hnn
          refine AO.make 3 Try.underlying23 ty2 rfl rfl rfl rfl rfl (Nat.le_refl _) (by omega) (by omega) rfl rfl ?_
          refine AO.yld _ (Yld.assign rfl) rfl rfl rfl ?_
          refine AO.nil ?_
          refine AC.mark ?_
          refine AC.seq ?_
          refine AC.region ?_
          refine AO.yld _ (Yld.move rfl) rfl rfl rfl ?_
          refine AO.yld _ (Yld.assign rfl) rfl rfl rfl ?_
          refine AO.nil ?_
          refine FnE.ret (List.replicate nn 0, q31, s31) [0, 3] [0, 1] Try.results55 (RVs.cons (RV.tmp rfl) RVs.nil) rfl rfl rfl ?_ ?_ ⟨⟨_, rfl, ?_⟩, ⟨_, rfl, ?_⟩, trivial⟩
          · -- holds
            show List.length _ ≤ 11 ∧ _ ≤ _ ∧ _ ≤ _; refine ⟨?_, by omega, by omega⟩; first | (simp; omega) | omega
          · -- value
            rfl
          · -- thing 0
            rfl
          · -- thing 1
            first | rfl | (rw [map_snocG]; rfl) | exact congrArg (Res.vec 2 1) (zero_rows nn)
        · -- c27 False
          refine AC.skip ?_
          refine AC.mark ?_
          refine AC.seq ?_
          refine AC.region ?_
          refine AO.yld _ (Yld.move rfl) rfl rfl rfl ?_
          refine AO.yld _ (Yld.assign rfl) rfl rfl rfl ?_
          refine AO.nil ?_
          refine FnE.ret (rs, q18, s18) [0, 1] [0, 1] Try.results55 (RVs.cons (RV.tmp rfl) RVs.nil) rfl rfl rfl ?_ ?_ ⟨⟨_, rfl, ?_⟩, ⟨_, rfl, ?_⟩, trivial⟩
          · -- holds
            show List.length _ ≤ 11 ∧ _ ≤ _ ∧ _ ≤ _; refine ⟨?_, by omega, by omega⟩; first | (simp; omega) | omega
          · -- value
            rfl
          · -- thing 0
            rfl
          · -- thing 1
            first | rfl | (rw [map_snocG]; rfl) | exact congrArg (Res.vec 2 1) (zero_rows nn)

theorem spec_l08DrawBudget_c {code : List UInt8} {p sd : Int} (h0 : 0 ≤ p) (h1 : p ≤ 1000000000000000) :
    FnE (α := Int × Int × Int) Try.prog 56 [.h 0] [(0, .box 94 [.p (.sl 1 (code.map encB)), .p (.v (.int .i64 p)), .p (.v (.int .u64 sd))])] [0] (fun ⟨v, q, s⟩ => p ≤ q ∧ q ≤ p + 10) (fun ⟨v, q, s⟩ => .p (.v (.int .i64 v))) (fun ⟨v, q, s⟩ => [(0, .box 94 [.p (.sl 1 (code.map encB)), .p (.v (.int .i64 q)), .p (.v (.int .u64 s))])]) := by
  refine FnE.intro Try.func56 rfl Try.ntmps56 rfl rfl (fun w0 F0 η φ w => ?_)
  refine AC.seq ?_
  refine AC.region ?_
  refine AO.yld _ (Yld.assign rfl) rfl rfl rfl ?_
  refine AO.nil ?_
  refine AC.seq ?_
  refine AC.seq ?_
  refine AC.region ?_
  refine AO.yld _ (Yld.move rfl) rfl rfl rfl ?_
  refine AO.callW (wantedN rfl) [0] [0] [0] rfl rfl Try.call70 rfl (src_one_c (by omega) (by omega) (by omega)) (.own rfl) rfl (fun ⟨_, _, _⟩ => rfl) ⟨rfl, trivial⟩ rfl (fun ⟨_, _, _⟩ => rfl) (fun ⟨_, _, _⟩ => rfl) (fun ⟨b4, q4, s4⟩ hb4 => ?_)
  dsimp only at hb4
  refine AO.nil ?_
  refine AC.cond _ rfl (fun c4 => ?_) (fun c4 => ?_)
  · -- c4 True
    refine AC.seq ?_
    refine AC.region ?_
    refine AO.yld _ (Yld.move rfl) rfl rfl rfl ?_
    refine AO.buildSlice (rows := [[_], [_], [_], [_], [_]]) 1 Try.underlying23 ty2 rfl rfl rfl rfl rfl rfl rfl rfl rfl ?_
    refine AO.callW (wantedN rfl) [0, 1] [0, 1] [0] rfl rfl Try.call74 rfl (src_among_c (by omega) (by omega) (xs := [0, 1, 5, 20000, 20001]) (by decide) (by decide)) (.own rfl) rfl (fun ⟨_, _, _⟩ => rfl) ⟨rfl, rfl, trivial⟩ rfl (fun ⟨_, _, _⟩ => rfl) (fun ⟨_, _, _⟩ => rfl) (fun ⟨v7, q7, s7⟩ hv7 => ?_)
    dsimp only at hv7
    refine AO.yld _ (Yld.assign rfl) rfl rfl rfl ?_
    refine AO.nil ?_
    refine FnE.ret (_, _, _) [0] [0] Try.results56 (RVs.cons (RV.tmp rfl) RVs.nil) rfl rfl rfl ?_ rfl ⟨⟨_, rfl, rfl⟩, trivial⟩
    · -- holds
      show _ ≤ _ ∧ _ ≤ _; omega
  · -- c4 False
    refine AC.skip ?_
    refine AC.seq ?_
    refine AC.region ?_
    refine AO.yld _ (Yld.move rfl) rfl rfl rfl ?_
    refine AO.callW (wantedN rfl) [0] [0] [0] rfl rfl Try.call72 rfl (src_pick_c (by omega) (by omega) (by omega)) (.own rfl) rfl (fun ⟨_, _, _⟩ => rfl) ⟨rfl, trivial⟩ rfl (fun ⟨_, _, _⟩ => rfl) (fun ⟨_, _, _⟩ => rfl) (fun ⟨v9, q9, s9⟩ hv9 => ?_)
    dsimp only at hv9
    refine AO.yld _ (Yld.add rfl rfl (by omega) (by omega)) rfl rfl rfl ?_
    refine AO.yld _ (Yld.assign rfl) rfl rfl rfl ?_
    refine AO.nil ?_
    refine FnE.ret (_, _, _) [0] [0] Try.results56 (RVs.cons (RV.tmp rfl) RVs.nil) rfl rfl rfl ?_ rfl ⟨⟨_, rfl, rfl⟩, trivial⟩
    · -- holds
      show _ ≤ _ ∧ _ ≤ _; omega

theorem spec_DrawMostSeated_c {code : List UInt8} :
    FnE (α := List Group × List Int × Int) Try.prog 23 [.p (.sl 1 (code.map encB))] [] [] (fun ⟨gs, rs, b⟩ => DrawnG gs ∧ rs.length ≤ 11) (fun ⟨gs, rs, b⟩ => .tup [.h 0, .h 1, .p (.v (.int .i64 b))]) (fun ⟨gs, rs, b⟩ => [(0, .vec 52 3 (gs.map encGroup)), (1, .vec 2 1 (rs.map encI))]) := by
  refine FnE.intro Try.func23 rfl Try.ntmps23 rfl rfl (fun w0 F0 η φ w => ?_)
  refine AC.seq ?_
  refine AC.region ?_
  refine AO.yld _ (Yld.assign rfl) rfl rfl rfl ?_
  refine AO.yld _ (Yld.assign rfl) rfl rfl rfl ?_
  refine AO.yld _ (Yld.assign rfl) rfl rfl rfl ?_
  refine AO.nil ?_
  refine AC.seq ?_
  refine AC.region ?_
  refine AO.yld _ (Yld.move rfl) rfl rfl rfl ?_
  refine AO.callW (wantedN rfl) [0] [] [0] rfl rfl Try.call53 rfl (spec_l00From_c) (.own rfl) rfl (fun _ => rfl) trivial rfl (fun _ => rfl) (fun _ => rfl) (fun _ _ => ?_)
  refine AO.yld _ (Yld.assign rfl) rfl rfl rfl ?_
  refine AO.nil ?_
  refine AC.seq ?_
  refine AC.region ?_
  refine AO.yld _ (Yld.move rfl) rfl rfl rfl ?_
  refine AO.callW (wantedN rfl) [0, 1] [0] [0, 1] rfl rfl Try.call54 rfl (spec_l24Draw_c (by omega) (by omega)) (.own rfl) rfl (fun ⟨_, _, _⟩ => rfl) ⟨rfl, trivial⟩ rfl (fun ⟨_, _, _⟩ => rfl) (fun ⟨_, _, _⟩ => rfl) (fun ⟨gs11, q11, s11⟩ hgs11 => ?_)
  dsimp only at hgs11
  refine AO.yld _ (Yld.assign rfl) rfl rfl rfl ?_
  refine AO.nil ?_
  refine AC.seq ?_
  refine AC.region ?_
  refine AO.yld _ (Yld.move rfl) rfl rfl rfl ?_
  refine AO.callW (wantedN rfl) [0, 2] [0] [0, 1] rfl rfl Try.call55 rfl (spec_l24DrawRows_c (by omega) (by omega)) (.own rfl) rfl (fun ⟨_, _, _⟩ => rfl) ⟨rfl, trivial⟩ rfl (fun ⟨_, _, _⟩ => rfl) (fun ⟨_, _, _⟩ => rfl) (fun ⟨rs13, q13, s13⟩ hrs13 => ?_)
  dsimp only at hrs13
  refine AO.yld _ (Yld.assign rfl) rfl rfl rfl ?_
  refine AO.nil ?_
  refine AC.seq ?_
  refine AC.region ?_
  refine AO.yld _ (Yld.move rfl) rfl rfl rfl ?_
  refine AO.yld _ (Yld.move rfl) rfl rfl rfl ?_
  refine AO.yld _ (Yld.move rfl) rfl rfl rfl ?_
  refine AO.callW (wantedN rfl) [0] [0] [0] rfl rfl Try.call56 rfl (spec_l08DrawBudget_c (by omega) (by omega)) (.own rfl) rfl (fun ⟨_, _, _⟩ => rfl) ⟨rfl, trivial⟩ rfl (fun ⟨_, _, _⟩ => rfl) (fun ⟨_, _, _⟩ => rfl) (fun ⟨v17, q17, s17⟩ hv17 => ?_)
  dsimp only at hv17
  refine AO.yld _ (Yld.assign rfl) rfl rfl rfl ?_
  refine AO.yld _ (Yld.assign rfl) rfl rfl rfl ?_
  refine AO.yld _ (Yld.assign rfl) rfl rfl rfl ?_
  refine AO.nil ?_
  refine FnE.ret (_, _, _) [1, 2] [0, 1] Try.results23 (RVs.cons (RV.tmp rfl) (RVs.cons (RV.tmp rfl) (RVs.cons (RV.tmp rfl) RVs.nil))) rfl rfl rfl ?_ rfl ⟨⟨_, rfl, rfl⟩, ⟨_, rfl, rfl⟩, trivial⟩
  · -- holds
    show DrawnG _ ∧ List.length _ ≤ 11; constructor <;> (first | assumption | exact (by simp_all) | fail)

theorem areRows1_c {n : Int} :
    Pure Try.prog 75 [.v (.int .i64 n)] (.v (.bool (!(decide (-1 ≤ n) && decide (n ≤ 9))))) := by
  refine Pure.intro Try.func75 rfl Try.ntmps75 rfl rfl (fun w => ?_)
  refine AC.seq ?_
  refine AC.region ?_
  refine AO.yld _ (Yld.assign rfl) rfl rfl rfl ?_
  refine AO.nil ?_
  refine AC.seq ?_
  refine AC.region ?_
  refine AO.yld _ (Yld.move rfl) rfl rfl rfl ?_
  refine AO.yld _ (Yld.call rfl rfl Try.call42 rfl rfl rfl (impl_within_c) rfl) rfl rfl rfl ?_
  refine AO.yld _ (Yld.not rfl) rfl rfl rfl ?_
  refine AO.yld _ (Yld.assign rfl) rfl rfl rfl ?_
  refine AO.nil ?_
  refine Pure.ret Try.results75 (RVs.cons (RV.tmp rfl) RVs.nil) rfl ?_
  first | rfl | (simp_all; done) | (simp_all; intros; omega) | grind

theorem impl_areRows_c {gs : List Group} {pl : List Int} (hp : pl.length ≤ 1048576) :
    Pure Try.prog 57 [.sl 3 (gs.map encGroup), .sl 1 (pl.map encI)] (.v (.bool (areR gs pl))) := by
  refine Pure.intro Try.func57 rfl Try.ntmps57 rfl rfl (fun w => ?_)
  refine AC.seq ?_
  refine AC.region ?_
  refine AO.yld _ (Yld.assign rfl) rfl rfl rfl ?_
  refine AO.nil ?_
  refine AC.seq ?_
  refine AC.region ?_
  refine AO.yld _ (Yld.move rfl) rfl rfl rfl ?_
  refine AO.yld _ (Yld.len Try.underlying23 rfl rfl) rfl rfl rfl ?_
  refine AO.yld _ (Yld.move rfl) rfl rfl rfl ?_
  refine AO.yld _ (Yld.len Try.underlying27 rfl rfl) rfl rfl rfl ?_
  refine AO.yld _ (Yld.int rfl rfl rfl) rfl rfl rfl ?_
  refine AO.yld _ (Yld.move rfl) rfl rfl rfl ?_
  refine AO.splitAt 10 _ rfl (fun s10 => ?_) (fun s10 => ?_)
  · -- s10 True
    have he : pl.length = gs.length := by have h := s10; simp only [List.length_map] at h; simp at h; omega
    refine AO.yldG _ (Yld.move rfl) rfl rfl rfl rfl rfl ?_
    refine AO.yldG _ (Yld.call rfl rfl Try.call65 rfl rfl rfl (containsFuncInt_c (p := fun n => !(decide (-1 ≤ n) && decide (n ≤ 9))) (by omega) Try.call75 (fun x hx => areRows1_c)) rfl) rfl rfl rfl rfl rfl ?_
    refine AO.yldG _ (Yld.not rfl) rfl rfl rfl rfl rfl ?_
    refine AO.yld _ (Yld.pickT rfl rfl) rfl rfl rfl ?_
    refine AO.yld _ (Yld.assign rfl) rfl rfl rfl ?_
    refine AO.nil ?_
    refine Pure.ret Try.results57 (RVs.cons (RV.tmp rfl) RVs.nil) rfl ?_
    first | (refine cb ?_; unfold areR; rw [decide_eq_true he, Bool.true_and, all_not]; simp) | (refine cb ?_; unfold areR; rw [decide_eq_false he, Bool.false_and])
  · -- s10 False
    have he : ¬ pl.length = gs.length := by have h := s10; simp only [List.length_map] at h; simp at h; omega
    refine AO.skipT rfl rfl rfl rfl rfl ?_
    refine AO.skipT rfl rfl rfl rfl rfl ?_
    refine AO.skipT rfl rfl rfl rfl rfl ?_
    refine AO.yld _ (Yld.pickF rfl rfl) rfl rfl rfl ?_
    refine AO.yld _ (Yld.assign rfl) rfl rfl rfl ?_
    refine AO.nil ?_
    refine Pure.ret Try.results57 (RVs.cons (RV.tmp rfl) RVs.nil) rfl ?_
    first | (refine cb ?_; unfold areR; rw [decide_eq_true he, Bool.true_and, all_not]; simp) | (refine cb ?_; unfold areR; rw [decide_eq_false he, Bool.false_and])

theorem impl_seatsLeft_c {gs : List Group} {rs pl : List Int} (hok : okGroups gs = true) (hrk : rs.all okRow = true) (hrl : rs.length ≤ 10) (hp : pl.length ≤ 1048576) :
    FnE (α := Unit) Try.prog 59 [.p (.sl 3 (gs.map encGroup)), .p (.sl 1 (rs.map encI)), .p (.sl 1 (pl.map encI))] [] [] (fun _ => True) (fun _ => .tup [.h 0, .p (.v (.bool (leftF (persL gs) rs pl).isSome))]) (fun _ => [(0, .vec 2 1 (((leftF (persL gs) rs pl).getD []).map encI))]) := by
  have hM : (gs.map encGroup).length = gs.length := List.length_map ..
  have hMr : (rs.map encI).length = rs.length := List.length_map ..
  have hgl := groups_len hok
  refine FnE.intro Try.func59 rfl Try.ntmps59 rfl rfl (fun w0 F0 η φ w => ?_)
  refine AC.seq ?_
  refine AC.region ?_
  refine AO.yld _ (Yld.assign rfl) rfl rfl rfl ?_
  refine AO.yld _ (Yld.assign rfl) rfl rfl rfl ?_
  refine AO.nil ?_
  refine AC.seq ?_
  refine AC.seq ?_
  refine AC.region ?_
  refine AO.yld _ (Yld.move rfl) rfl rfl rfl ?_
  refine AO.yld _ (Yld.len Try.underlying23 rfl rfl) rfl rfl rfl ?_
  refine AO.yld _ (Yld.move rfl) rfl rfl rfl ?_
  refine AO.yld _ (Yld.len Try.underlying27 rfl rfl) rfl rfl rfl ?_
  refine AO.yld _ (Yld.int rfl rfl rfl) rfl rfl rfl ?_
  refine AO.nil ?_
  refine AC.cond _ rfl (fun c15 => ?_) (fun c15 => ?_)
  · -- c15 True
    have hS : (leftF (persL gs) rs pl) = none := leftF_len _ _ _ (by have h := c15; simp only [List.length_map] at h; simp [persL]; simp at h; omega)
    refine AC.seq ?_
    refine AC.region ?_
    refine AO.yld _ (Yld.assign rfl) rfl rfl rfl ?_
    refine AO.yld _ (Yld.assign rfl) rfl rfl rfl ?_
    refine AO.nil ?_
    refine AC.nilVec 6 0 2 1 rfl rfl ?_
    refine FnE.ret () [0] [0] Try.results59 (RVs.cons (RV.tmp rfl) (RVs.cons (RV.tmp rfl) RVs.nil)) rfl rfl rfl ?_ ?_ ⟨⟨_, rfl, ?_⟩, trivial⟩
    · -- holds
      trivial
    · -- value
      first | (rw [hS]; rfl) | (rw [hS]; done) | fail
    · -- thing 0
      refine vecE ?_; first | (rw [hS]; rfl) | (rw [hS]; done) | fail
  · -- c15 False
    have hl : pl.length = gs.length := by have h := c15; simp only [List.length_map] at h; simp at h; omega
    refine AC.skip ?_
    refine AC.seq ?_
    refine AC.region ?_
    refine AO.yld _ (Yld.move rfl) rfl rfl rfl ?_
    refine AO.callW (wantedN rfl) [0] [] [0] rfl rfl Try.call43 rfl (cloneInt_c (by first | assumption | omega)) (.flat (.view rfl rfl .nil) (fun _ => by simp [AV.Flat, AV.FlatL, PV.Flat, PV.FlatL]) (fun _ => ⟨flat_map flatI _, trivial⟩)) rfl (fun _ => rfl) trivial rfl (fun _ => rfl) (fun _ => rfl) (fun _ _ => ?_)
    refine AO.yld _ (Yld.assign rfl) rfl rfl rfl ?_
    refine AO.nil ?_
    refine AC.seq ?_
    refine AC.seq ?_
    refine AC.region ?_
    refine AO.yld _ (Yld.move rfl) rfl rfl rfl ?_
    refine AO.yld _ (Yld.len Try.underlying23 rfl rfl) rfl rfl rfl ?_
    refine AO.yld _ (Yld.move rfl) rfl rfl rfl ?_
    refine AO.nil ?_
    refine AC.block ?_
    refine AC.loopC2 [(0, _), (1, _), (8, _), (18, _), (19, _)] [(900, _)] (fun (k : Nat) (cur : List Int) => [(20, .p (.v (.int .i64 (k : Int)))), (8, .h 0)]) (fun (k : Nat) (cur : List Int) => [(0, .vec 2 1 (cur.map encI))]) (fun (k : Nat) (cur : List Int) => LeftJ gs rs pl k cur ∧ cur.all okRow = true) (fun (k : Nat) (cur : List Int) => pl.length - k) 0 rs ⟨rfl, rfl, rfl, rfl, rfl, trivial⟩ ⟨rfl, trivial⟩ ⟨rfl, rfl, trivial⟩ ⟨rfl, trivial⟩ ?_ (fun k cur hJ => ?_)
    · exact ⟨⟨Nat.zero_le _, rfl, rfl⟩, hrk⟩
    · -- round
      have hJl := hJ.1.2.2
      have hJ2 := hJ.2
      refine AC.seq ?_
      refine AC.region ?_
      refine AO.yld _ (Yld.int rfl rfl rfl) rfl rfl rfl ?_
      refine AO.nil ?_
      refine AC.seq ?_
      refine AC.cond _ rfl (fun c21 => ?_) (fun c21 => ?_)
      · -- c21 True
        have hk : k < pl.length := lt_of_decM c21
        obtain ⟨r, hr⟩ := get_some hk
        have hrow := map_row (enc := encI) hr
        obtain ⟨g, hg⟩ := get_some (xs := gs) (k := k) (by omega)
        have hrowG := map_row (enc := encGroup) hg
        have hgp := group_lim (groups_at hok hg)
        refine AC.skip ?_
        refine AC.seq ?_
        refine AC.block ?_
        refine AC.seq ?_
        refine AC.region ?_
        refine AO.yld _ (Yld.move rfl) rfl rfl rfl ?_
        refine AO.yld _ (Yld.indexSl Try.underlying23 Try.sizeOf2 rfl rfl hrow rfl) rfl rfl rfl ?_
        refine AO.yld _ (Yld.load Try.isAgg2 rfl rfl) rfl rfl rfl ?_
        refine AO.yld _ (Yld.assign rfl) rfl rfl rfl ?_
        refine AO.yld _ (Yld.assign rfl) rfl rfl rfl ?_
        refine AO.nil ?_
        refine AC.seq ?_
        refine AC.seq ?_
        refine AC.region ?_
        refine AO.yld _ (Yld.move rfl) rfl rfl rfl ?_
        refine AO.yld _ (Yld.move rfl) rfl rfl rfl ?_
        refine AO.yld _ (Yld.len Try.underlying23 rfl rfl) rfl rfl rfl ?_
        refine AO.yld _ (Yld.sub rfl rfl (by omega) (by omega)) rfl rfl rfl ?_
        refine AO.yld _ (Yld.call rfl rfl Try.call42 rfl rfl rfl (impl_within_c) rfl) rfl rfl rfl ?_
        refine AO.yld _ (Yld.not rfl) rfl rfl rfl ?_
        refine AO.nil ?_
        refine AC.cond _ rfl (fun c30 => ?_) (fun c30 => ?_)
        · -- c30 True
          have hS : (leftF (persL gs) rs pl) = none := leftJ_out hJ.1 hg hr (by have h := c30; rw [hMr] at h; simp at h; omega)
          refine AC.seq ?_
          refine AC.region ?_
          refine AO.yld _ (Yld.assign rfl) rfl rfl rfl ?_
          refine AO.yld _ (Yld.assign rfl) rfl rfl rfl ?_
          refine AO.nil ?_
          refine AC.nilVec 6 1 2 1 rfl rfl ?_
          refine FnE.ret () [1] [0] Try.results59 (RVs.cons (RV.tmp rfl) (RVs.cons (RV.tmp rfl) RVs.nil)) rfl rfl rfl ?_ ?_ ⟨⟨_, rfl, ?_⟩, trivial⟩
          · -- holds
            trivial
          · -- value
            first | (rw [hS]; rfl) | (rw [hS]; done) | fail
          · -- thing 0
            refine vecE ?_; first | (rw [hS]; rfl) | (rw [hS]; done) | fail
        · -- c30 False
          have hin : -1 ≤ r ∧ r ≤ (rs.length : Int) - 1 := by have h := c30; rw [hMr] at h; simp at h; omega
          refine AC.skip ?_
          refine AC.seq ?_
          refine AC.region ?_
          refine AO.yld _ (Yld.move rfl) rfl rfl rfl ?_
          refine AO.yld _ (Yld.int rfl rfl rfl) rfl rfl rfl ?_
          refine AO.nil ?_
          refine AC.cond _ rfl (fun c32 => ?_) (fun c32 => ?_)
          · -- c32 True
            obtain ⟨n, rfl⟩ := Int.eq_ofNat_of_zero_le (show 0 ≤ r by simpa using c32)
            obtain ⟨z, hz⟩ := get_some (xs := cur) (k := n) (by omega)
            have hrowZ := map_row (enc := encI) hz
            have hzr : 0 ≤ z ∧ z ≤ 40 := by have h := all_at hJ2 hz; simpa [okRow] using h
            have hrowZ2 : ((cur.map encI).set n (encI (z - g.persons)))[n]? = some (encI (z - g.persons)) := by rw [List.getElem?_set_self (by rw [List.length_map]; omega)]
            refine AC.seq ?_
            apply AC.drawAny ⟨[(0, _), (1, _), (8, _), (9, _), (10, _), (18, _), (19, _), (20, _), (21, _), (22, _), (23, _), (24, _), (25, _), (26, _), (27, _), (28, _), (29, _), (30, _), (31, _), (32, _), (33, _), (34, _), (35, _), (36, _), (37, _), (38, _), (39, _), (40, _), (41, _), (42, _), (43, _)], [(0, _), (900, _)]⟩ (by kernel_rfl)
            · -- orders
              refine AN.take 0 rfl (by kernel_rfl) (by kernel_rfl) (by kernel_rfl) rfl rfl rfl (YldA.move rfl) ?_
              refine AN.take 1 rfl (by kernel_rfl) (by kernel_rfl) (by kernel_rfl) rfl rfl rfl (YldA.move rfl) ?_
              refine AN.take 2 rfl (by kernel_rfl) (by kernel_rfl) (by kernel_rfl) rfl rfl rfl (YldA.indexVec Try.underlying23 Try.sizeOf2 rfl rfl rfl rfl (by rw [List.length_map]; omega)) ?_
              refine AN.take 4 rfl (by kernel_rfl) (by kernel_rfl) (by kernel_rfl) rfl rfl rfl (YldA.move rfl) ?_
              refine AN.take 5 rfl (by kernel_rfl) (by kernel_rfl) (by kernel_rfl) rfl rfl rfl (YldA.move rfl) ?_
              refine AN.take 6 rfl (by kernel_rfl) (by kernel_rfl) (by kernel_rfl) rfl rfl rfl (YldA.indexSl Try.underlying27 Try.sizeOf52 rfl rfl hrowG rfl) ?_
              refine AN.take 7 rfl (by kernel_rfl) (by kernel_rfl) (by kernel_rfl) rfl rfl rfl (YldA.fieldAddr Try.underlying52 rfl rfl Try.sizeOf2 rfl rfl rfl) ?_
              refine AN.all (rs := [3, 8]) (by kernel_rfl) rfl ⟨?_, ?_, trivial⟩
              · refine Stp.eff rfl rfl (Eff.yld (Yld.load Try.isAgg2 rfl (Eq.trans (behind_el rfl hrowZ) rfl)) rfl rfl) ?_
                refine AN.all (rs := [8]) (by kernel_rfl) rfl ⟨?_, trivial⟩
                refine Stp.eff rfl rfl (Eff.yld (Yld.load Try.isAgg2 rfl rfl) rfl rfl) ?_
                refine AN.take 9 rfl (by kernel_rfl) (by kernel_rfl) (by kernel_rfl) rfl rfl rfl (YldA.sub rfl rfl (by omega) (by omega)) ?_
                refine AN.take 10 rfl (by kernel_rfl) (by kernel_rfl) (by kernel_rfl) rfl rfl rfl (YldA.indexVec Try.underlying23 Try.sizeOf2 rfl rfl rfl rfl (by rw [List.length_map]; omega)) ?_
                refine AN.all (rs := [11]) (by kernel_rfl) rfl ⟨?_, trivial⟩
                refine Stp.eff rfl rfl (Eff.store Try.sizeOf2 rfl rfl rfl rfl rfl (store_el rfl hrowZ rfl rfl)) ?_
                exact AN.done (by kernel_rfl) (Le.intro ⟨rfl, rfl, rfl, rfl, rfl, rfl, rfl, rfl, rfl, rfl, rfl, rfl, rfl, rfl, rfl, rfl, rfl, rfl, rfl, rfl, rfl, rfl, rfl, rfl, rfl, rfl, rfl, rfl, rfl, rfl, rfl, trivial⟩ ⟨rfl, rfl, trivial⟩)
              · refine Stp.eff rfl rfl (Eff.yld (Yld.load Try.isAgg2 rfl rfl) rfl rfl) ?_
                refine AN.all (rs := [3]) (by kernel_rfl) rfl ⟨?_, trivial⟩
                refine Stp.eff rfl rfl (Eff.yld (Yld.load Try.isAgg2 rfl (Eq.trans (behind_el rfl hrowZ) rfl)) rfl rfl) ?_
                refine AN.take 9 rfl (by kernel_rfl) (by kernel_rfl) (by kernel_rfl) rfl rfl rfl (YldA.sub rfl rfl (by omega) (by omega)) ?_
                refine AN.take 10 rfl (by kernel_rfl) (by kernel_rfl) (by kernel_rfl) rfl rfl rfl (YldA.indexVec Try.underlying23 Try.sizeOf2 rfl rfl rfl rfl (by rw [List.length_map]; omega)) ?_
                refine AN.all (rs := [11]) (by kernel_rfl) rfl ⟨?_, trivial⟩
                refine Stp.eff rfl rfl (Eff.store Try.sizeOf2 rfl rfl rfl rfl rfl (store_el rfl hrowZ rfl rfl)) ?_
                exact AN.done (by kernel_rfl) (Le.intro ⟨rfl, rfl, rfl, rfl, rfl, rfl, rfl, rfl, rfl, rfl, rfl, rfl, rfl, rfl, rfl, rfl, rfl, rfl, rfl, rfl, rfl, rfl, rfl, rfl, rfl, rfl, rfl, rfl, rfl, rfl, rfl, trivial⟩ ⟨rfl, rfl, trivial⟩)
            · -- behind
              refine AC.seq ?_
              refine AC.region ?_
              refine AO.yld _ (Yld.move rfl) rfl rfl rfl ?_
              refine AO.yld _ (Yld.move rfl) rfl rfl rfl ?_
              refine AO.yld _ (Yld.indexVec Try.underlying23 Try.sizeOf2 rfl rfl rfl rfl (by rw [List.length_set, List.length_map]; omega)) rfl rfl rfl ?_
              refine AO.yld _ (Yld.load Try.isAgg2 rfl (Eq.trans (behind_el rfl hrowZ2) rfl)) rfl rfl rfl ?_
              refine AO.yld _ (Yld.int rfl rfl rfl) rfl rfl rfl ?_
              refine AO.nil ?_
              refine AC.cond _ rfl (fun c48 => ?_) (fun c48 => ?_)
              · -- c48 True
                have hS : (leftF (persL gs) rs pl) = none := leftJ_full hJ.1 hg hr hin hz (by simpa using c48)
                refine AC.seq ?_
                refine AC.region ?_
                refine AO.yld _ (Yld.assign rfl) rfl rfl rfl ?_
                refine AO.yld _ (Yld.assign rfl) rfl rfl rfl ?_
                refine AO.nil ?_
                refine AC.nilVec 6 1 2 1 rfl rfl ?_
                refine FnE.ret () [1] [0] Try.results59 (RVs.cons (RV.tmp rfl) (RVs.cons (RV.tmp rfl) RVs.nil)) rfl rfl rfl ?_ ?_ ⟨⟨_, rfl, ?_⟩, trivial⟩
                · -- holds
                  trivial
                · -- value
                  first | (rw [hS]; rfl) | (rw [hS]; done) | fail
                · -- thing 0
                  refine vecE ?_; first | (rw [hS]; rfl) | (rw [hS]; done) | fail
              · -- c48 False
                have hlt : ¬ z - g.persons < 0 := by simpa using c48
                obtain ⟨nc, hnc⟩ : ∃ nc, nc = cur.set n (z - g.persons) := ⟨_, rfl⟩
                have hJn : LeftJ gs rs pl (k + 1) nc ∧ nc.all okRow = true := by rw [hnc]; exact ⟨leftJ_sit hJ.1 hg hr hin hz hlt, rows_set hJ2 (by simp [okRow]; omega)⟩
                refine AC.skip ?_
                refine AC.mark ?_
                refine AC.region ?_
                refine AO.yld _ (Yld.add rfl rfl (by omega) (by omega)) rfl rfl rfl ?_
                refine AO.yld _ (Yld.move rfl) rfl rfl rfl ?_
                refine AO.nil ?_
                refine AC.back ⟨k + 1, nc, ?_, ?_, ⟨?_, ?_, trivial⟩, ⟨?_, trivial⟩, ⟨rfl, rfl, rfl, rfl, rfl, trivial⟩, ⟨rfl, trivial⟩⟩
                · exact hJn
                · omega
                · rfl
                · rfl
                · first | (rw [hnc]; rfl) | (rw [hnc, List.map_set]; rfl)
          · -- c32 False
            obtain ⟨nc, hnc⟩ : ∃ nc, nc = cur := ⟨_, rfl⟩
            have hJn : LeftJ gs rs pl (k + 1) nc ∧ nc.all okRow = true := by rw [hnc]; exact ⟨leftJ_skip hJ.1 hg hr hin (by simpa using c32), hJ2⟩
            refine AC.skip ?_
            refine AC.mark ?_
            refine AC.region ?_
            refine AO.yld _ (Yld.add rfl rfl (by omega) (by omega)) rfl rfl rfl ?_
            refine AO.yld _ (Yld.move rfl) rfl rfl rfl ?_
            refine AO.nil ?_
            refine AC.back ⟨k + 1, nc, ?_, ?_, ⟨?_, ?_, trivial⟩, ⟨?_, trivial⟩, ⟨rfl, rfl, rfl, rfl, rfl, trivial⟩, ⟨rfl, trivial⟩⟩
            · exact hJn
            · omega
            · rfl
            · rfl
            · first | (rw [hnc]; rfl) | (rw [hnc, List.map_set]; rfl)
      · -- c21 False
        obtain rfl : k = pl.length := by have := ge_of_decM c21; have := hJ.1.1; omega
        have hS := leftJ_end hJ.1 hl
        refine AC.exit rfl ?_
        refine AC.seq ?_
        refine AC.region ?_
        refine AO.yld _ (Yld.move rfl) rfl rfl rfl ?_
        refine AO.yld _ (Yld.assign rfl) rfl rfl rfl ?_
        refine AO.yld _ (Yld.assign rfl) rfl rfl rfl ?_
        refine AO.nil ?_
        refine FnE.ret () [0] [0] Try.results59 (RVs.cons (RV.tmp rfl) (RVs.cons (RV.tmp rfl) RVs.nil)) rfl rfl rfl ?_ ?_ ⟨⟨_, rfl, ?_⟩, trivial⟩
        · -- holds
          trivial
        · -- value
          first | (rw [hS]; rfl) | (rw [hS]; done) | fail
        · -- thing 0
          refine vecE ?_; first | (rw [hS]; rfl) | (rw [hS]; done) | fail

theorem impl_IsSeating_c {gs : List Group} {rs pl : List Int} (hn : gs.length ≤ 1048576) (hs : ∀ x ∈ gs, x.name.length ≤ 1048576) (hr : rs.length ≤ 1048576) (hp : pl.length ≤ 1048576) :
    Pure Try.prog 26 [.sl 3 (gs.map encGroup), .sl 1 (rs.map encI), .sl 1 (pl.map encI)] (.v (.bool (isSeat gs rs pl))) := by
  refine Pure.intro Try.func26 rfl Try.ntmps26 rfl rfl (fun w => ?_)
  refine AC.seq ?_
  refine AC.region ?_
  refine AO.yld _ (Yld.assign rfl) rfl rfl rfl ?_
  refine AO.nil ?_
  refine AC.seq ?_
  refine AC.seq ?_
  refine AC.region ?_
  refine AO.yld _ (Yld.move rfl) rfl rfl rfl ?_
  refine AO.yld _ (Yld.call rfl rfl Try.call40 rfl rfl rfl (impl_ValidGroups_c (by first | assumption | omega) (by assumption)) rfl) rfl rfl rfl ?_
  refine AO.yld _ (Yld.not rfl) rfl rfl rfl ?_
  refine AO.yld _ (Yld.move rfl) rfl rfl rfl ?_
  refine AO.splitAt 12 _ rfl (fun s12 => ?_) (fun s12 => ?_)
  · -- s12 True
    have hbad : ¬ (okGroups gs = true ∧ okRows rs = true) := by clear hs; first | (simp_all; done) | grind
    refine AO.skipF rfl rfl rfl rfl rfl ?_
    refine AO.skipF rfl rfl rfl rfl rfl ?_
    refine AO.skipF rfl rfl rfl rfl rfl ?_
    refine AO.yld _ (Yld.pickT rfl rfl) rfl rfl rfl ?_
    refine AO.nil ?_
    refine AC.condT rfl ?_
    refine AC.seq ?_
    refine AC.region ?_
    refine AO.yld _ (Yld.assign rfl) rfl rfl rfl ?_
    refine AO.nil ?_
    refine Pure.ret Try.results26 (RVs.cons (RV.tmp rfl) RVs.nil) rfl ?_
    first | (refine cb ?_; rw [hS]) | (have hS : isSeat gs rs pl = false := by (clear hs; unfold isSeat; cases h1 : okGroups gs <;> cases h2 : okRows rs <;> simp_all)); first | exact cb hS | exact cb hS.symm
  · -- s12 False
    refine AO.yldG _ (Yld.move rfl) rfl rfl rfl rfl rfl ?_
    refine AO.yldG _ (Yld.call rfl rfl Try.call41 rfl rfl rfl (impl_ValidRows_c (by first | assumption | omega)) rfl) rfl rfl rfl rfl rfl ?_
    refine AO.yldG _ (Yld.not rfl) rfl rfl rfl rfl rfl ?_
    refine AO.yld _ (Yld.pickF rfl rfl) rfl rfl rfl ?_
    refine AO.nil ?_
    refine AC.cond _ rfl (fun c16 => ?_) (fun c16 => ?_)
    · -- c16 True
      have hbad : ¬ (okGroups gs = true ∧ okRows rs = true) := by clear hs; first | (simp_all; done) | grind
      have hS : isSeat gs rs pl = false := by clear hs; unfold isSeat; cases h1 : okGroups gs <;> cases h2 : okRows rs <;> simp_all
      refine AC.seq ?_
      refine AC.region ?_
      refine AO.yld _ (Yld.assign rfl) rfl rfl rfl ?_
      refine AO.nil ?_
      refine Pure.ret Try.results26 (RVs.cons (RV.tmp rfl) RVs.nil) rfl ?_
      first | (refine cb ?_; rw [hS]) | (have hS : isSeat gs rs pl = false := by (clear hs; unfold isSeat; cases h1 : okGroups gs <;> cases h2 : okRows rs <;> simp_all)); first | exact cb hS | exact cb hS.symm
    · -- c16 False
      have hv : okGroups gs = true ∧ okRows rs = true := by first | (simp_all; done) | grind
      have hok := hv.1
      have hrk := rows_all hv.2
      have hrl := rows_len hv.2
      have hS : isSeat gs rs pl = (leftF (persL gs) rs pl).isSome := by unfold isSeat; rw [hv.1, hv.2]; rfl
      refine AC.skip ?_
      refine AC.seq ?_
      refine AC.region ?_
      refine AO.yld _ (Yld.move rfl) rfl rfl rfl ?_
      refine AO.yld _ (Yld.move rfl) rfl rfl rfl ?_
      refine AO.yld _ (Yld.move rfl) rfl rfl rfl ?_
      refine AO.callW (wantedN rfl) [0] [] [0] rfl rfl Try.call59 rfl (impl_seatsLeft_c (by assumption) (by assumption) (by omega) (by omega)) (.flat (.view rfl rfl (.view rfl rfl (.view rfl rfl .nil))) (fun _ => by simp [AV.Flat, AV.FlatL, PV.Flat, PV.FlatL]) (fun _ => ⟨flat_map flatI _, trivial⟩)) rfl (fun _ => rfl) trivial rfl (fun _ => rfl) (fun _ => rfl) (fun _ _ => ?_)
      refine AO.yld _ (Yld.move rfl) rfl rfl rfl ?_
      refine AO.yld _ (Yld.extract rfl rfl rfl) rfl rfl rfl ?_
      refine AO.yld _ (Yld.extract rfl rfl rfl) rfl rfl rfl ?_
      refine AO.yld _ (Yld.assign rfl) rfl rfl rfl ?_
      refine AO.yld _ (Yld.assign rfl) rfl rfl rfl ?_
      refine AO.nil ?_
      refine AC.seq ?_
      refine AC.region ?_
      refine AO.yld _ (Yld.move rfl) rfl rfl rfl ?_
      refine AO.yld _ (Yld.assign rfl) rfl rfl rfl ?_
      refine AO.nil ?_
      refine Pure.ret Try.results26 (RVs.cons (RV.tmp rfl) RVs.nil) rfl ?_
      first | (refine cb ?_; rw [hS]) | (have hS : isSeat gs rs pl = false := by (clear hs; unfold isSeat; cases h1 : okGroups gs <;> cases h2 : okRows rs <;> simp_all)); first | exact cb hS | exact cb hS.symm

theorem impl_SeatsNeeded_c {gs : List Group} (hn : gs.length ≤ 1048576) (hs : ∀ x ∈ gs, x.name.length ≤ 1048576) :
    Pure Try.prog 25 [.sl 3 (gs.map encGroup)] (.tup [.v (.int .i64 (needP gs).1), .v (.int .i64 (needP gs).2)]) := by
  refine Pure.intro Try.func25 rfl Try.ntmps25 rfl rfl (fun w => ?_)
  refine AC.seq ?_
  refine AC.region ?_
  refine AO.yld _ (Yld.assign rfl) rfl rfl rfl ?_
  refine AO.yld _ (Yld.assign rfl) rfl rfl rfl ?_
  refine AO.nil ?_
  refine AC.seq ?_
  refine AC.seq ?_
  refine AC.region ?_
  refine AO.yld _ (Yld.move rfl) rfl rfl rfl ?_
  refine AO.yld _ (Yld.call rfl rfl Try.call40 rfl rfl rfl (impl_ValidGroups_c (by first | assumption | omega) (by assumption)) rfl) rfl rfl rfl ?_
  refine AO.yld _ (Yld.not rfl) rfl rfl rfl ?_
  refine AO.nil ?_
  refine AC.cond _ rfl (fun c6 => ?_) (fun c6 => ?_)
  · -- c6 True
    have hS : needP gs = (0, 1) := by unfold needP; rw [if_neg (by simpa using c6)]
    refine AC.seq ?_
    refine AC.region ?_
    refine AO.yld _ (Yld.assign rfl) rfl rfl rfl ?_
    refine AO.yld _ (Yld.assign rfl) rfl rfl rfl ?_
    refine AO.nil ?_
    refine Pure.retT Try.results25 (RVs.cons (RV.tmp rfl) (RVs.cons (RV.tmp rfl) RVs.nil)) rfl ?_
    rw [hS]
  · -- c6 False
    have hok : okGroups gs = true := by simpa using c6
    have hS : needP gs = (sumP gs, 0) := by unfold needP; rw [if_pos hok]
    have hp : ∀ g ∈ gs, 1 ≤ g.persons ∧ g.persons ≤ 40 := fun g hg => pers_lim hok _ (List.mem_map.2 ⟨g, hg, rfl⟩)
    refine AC.skip ?_
    refine AC.seq ?_
    refine AC.region ?_
    refine AO.yld _ (Yld.move rfl) rfl rfl rfl ?_
    refine AO.yld _ (Yld.call rfl rfl Try.call58 rfl rfl rfl (impl_personsOf_c (by first | assumption | (simp; omega) | omega) (by assumption)) rfl) rfl rfl rfl ?_
    refine AO.yld _ (Yld.assign rfl) rfl rfl rfl ?_
    refine AO.yld _ (Yld.assign rfl) rfl rfl rfl ?_
    refine AO.nil ?_
    refine Pure.retT Try.results25 (RVs.cons (RV.tmp rfl) (RVs.cons (RV.tmp rfl) RVs.nil)) rfl ?_
    rw [hS]

theorem impl_SeatedPersons_c {gs : List Group} {pl : List Int} (hn : gs.length ≤ 1048576) (hs : ∀ x ∈ gs, x.name.length ≤ 1048576) (hp : pl.length ≤ 1048576) :
    Pure Try.prog 24 [.sl 3 (gs.map encGroup), .sl 1 (pl.map encI)] (.tup [.v (.int .i64 (seatedP gs pl).1), .v (.int .i64 (seatedP gs pl).2)]) := by
  have hM : (pl.map encI).length = pl.length := List.length_map ..
  refine Pure.intro Try.func24 rfl Try.ntmps24 rfl rfl (fun w => ?_)
  refine AC.seq ?_
  refine AC.region ?_
  refine AO.yld _ (Yld.assign rfl) rfl rfl rfl ?_
  refine AO.yld _ (Yld.assign rfl) rfl rfl rfl ?_
  refine AO.nil ?_
  refine AC.seq ?_
  refine AC.seq ?_
  refine AC.region ?_
  refine AO.yld _ (Yld.move rfl) rfl rfl rfl ?_
  refine AO.yld _ (Yld.call rfl rfl Try.call40 rfl rfl rfl (impl_ValidGroups_c (by first | assumption | omega) (by assumption)) rfl) rfl rfl rfl ?_
  refine AO.yld _ (Yld.not rfl) rfl rfl rfl ?_
  refine AO.nil ?_
  refine AC.cond _ rfl (fun c11 => ?_) (fun c11 => ?_)
  · -- c11 True
    have hS : seatedP gs pl = (0, 1) := by unfold seatedP; rw [if_neg (by simpa using c11)]
    refine AC.seq ?_
    refine AC.region ?_
    refine AO.yld _ (Yld.assign rfl) rfl rfl rfl ?_
    refine AO.yld _ (Yld.assign rfl) rfl rfl rfl ?_
    refine AO.nil ?_
    refine Pure.retT Try.results24 (RVs.cons (RV.tmp rfl) (RVs.cons (RV.tmp rfl) RVs.nil)) rfl ?_
    first | (rw [hS]; done) | (rw [hS, hfin]; done) | fail
  · -- c11 False
    have hok : okGroups gs = true := by simpa using c11
    refine AC.skip ?_
    refine AC.seq ?_
    refine AC.seq ?_
    refine AC.region ?_
    refine AO.yld _ (Yld.move rfl) rfl rfl rfl ?_
    refine AO.yld _ (Yld.move rfl) rfl rfl rfl ?_
    refine AO.yld _ (Yld.call rfl rfl Try.call57 rfl rfl rfl (impl_areRows_c (by first | assumption | omega)) rfl) rfl rfl rfl ?_
    refine AO.yld _ (Yld.not rfl) rfl rfl rfl ?_
    refine AO.nil ?_
    refine AC.cond _ rfl (fun c15 => ?_) (fun c15 => ?_)
    · -- c15 True
      have hS : seatedP gs pl = (0, 2) := by unfold seatedP; rw [if_pos hok, if_neg (by simpa using c15)]
      refine AC.seq ?_
      refine AC.region ?_
      refine AO.yld _ (Yld.assign rfl) rfl rfl rfl ?_
      refine AO.yld _ (Yld.assign rfl) rfl rfl rfl ?_
      refine AO.nil ?_
      refine Pure.retT Try.results24 (RVs.cons (RV.tmp rfl) (RVs.cons (RV.tmp rfl) RVs.nil)) rfl ?_
      first | (rw [hS]; done) | (rw [hS, hfin]; done) | fail
    · -- c15 False
      have har : areR gs pl = true := by simpa using c15
      have hl : pl.length = gs.length := by have h := har; unfold areR at h; rw [Bool.and_eq_true] at h; simpa using h.1
      have hS : seatedP gs pl = (seatedOf (persL gs) pl, 0) := by unfold seatedP; rw [if_pos hok, if_pos har]
      refine AC.skip ?_
      refine AC.seq ?_
      refine AC.region ?_
      refine AO.yld _ (Yld.assign rfl) rfl rfl rfl ?_
      refine AO.nil ?_
      refine AC.seq ?_
      refine AC.seq ?_
      refine AC.region ?_
      refine AO.yld _ (Yld.move rfl) rfl rfl rfl ?_
      refine AO.yld _ (Yld.len Try.underlying23 rfl rfl) rfl rfl rfl ?_
      refine AO.yld _ (Yld.move rfl) rfl rfl rfl ?_
      refine AO.nil ?_
      refine AC.block ?_
      refine AC.loopC [(0, _), (4, _), (5, _), (16, _), (17, _)] [] (fun (k : Nat) => [(18, .p (.v (.int .i64 (k : Int)))), (6, .p (.v (.int .i64 (seatedOf ((persL gs).take k) (pl.take k)))))]) (fun (k : Nat) => []) (fun (k : Nat) => k ≤ pl.length) (fun (k : Nat) => pl.length - k) 0 ⟨rfl, rfl, rfl, rfl, rfl, trivial⟩ trivial ⟨rfl, rfl, trivial⟩ trivial ?_ (fun k hJ => ?_)
      · exact Nat.zero_le _
      · -- round
        refine AC.seq ?_
        refine AC.region ?_
        refine AO.yld _ (Yld.int rfl rfl rfl) rfl rfl rfl ?_
        refine AO.nil ?_
        refine AC.seq ?_
        refine AC.cond _ rfl (fun c19 => ?_) (fun c19 => ?_)
        · -- c19 True
          have hk : k < pl.length := lt_of_decM c19
          obtain ⟨r, hr⟩ := get_some hk
          have hrow := map_row (enc := encI) hr
          obtain ⟨g, hg⟩ := get_some (xs := gs) (k := k) (by omega)
          have hrowG := map_row (enc := encGroup) hg
          have hgp := group_lim (groups_at hok hg)
          have hbd := seatedOf_bound ((persL gs).take k) (pl.take k) (fun p hp => by have := pers_lim hok p (List.mem_of_mem_take hp); omega)
          have hbl : ((persL gs).take k).length ≤ 1048576 := by simp; omega
          have hst := seatedOf_take hl hg hr
          refine AC.skip ?_
          refine AC.seq ?_
          refine AC.block ?_
          refine AC.seq ?_
          refine AC.region ?_
          refine AO.yld _ (Yld.move rfl) rfl rfl rfl ?_
          refine AO.yld _ (Yld.indexSl Try.underlying23 Try.sizeOf2 rfl rfl hrow rfl) rfl rfl rfl ?_
          refine AO.yld _ (Yld.load Try.isAgg2 rfl rfl) rfl rfl rfl ?_
          refine AO.yld _ (Yld.assign rfl) rfl rfl rfl ?_
          refine AO.yld _ (Yld.assign rfl) rfl rfl rfl ?_
          refine AO.nil ?_
          refine AC.seq ?_
          refine AC.region ?_
          refine AO.yld _ (Yld.move rfl) rfl rfl rfl ?_
          refine AO.yld _ (Yld.int rfl rfl rfl) rfl rfl rfl ?_
          refine AO.nil ?_
          refine AC.cond _ rfl (fun c24 => ?_) (fun c24 => ?_)
          · -- c24 True
            rw [if_pos (show 0 ≤ r by simpa using c24)] at hst
            refine AC.region ?_
            refine AO.yld _ (Yld.move rfl) rfl rfl rfl ?_
            refine AO.yld _ (Yld.move rfl) rfl rfl rfl ?_
            refine AO.yld _ (Yld.move rfl) rfl rfl rfl ?_
            refine AO.yld _ (Yld.indexSl Try.underlying27 Try.sizeOf52 rfl rfl hrowG rfl) rfl rfl rfl ?_
            refine AO.yld _ (Yld.fieldAddr Try.underlying52 rfl rfl Try.sizeOf2 rfl rfl rfl) rfl rfl rfl ?_
            refine AO.yld _ (Yld.load Try.isAgg2 rfl rfl) rfl rfl rfl ?_
            refine AO.yld _ (Yld.add rfl rfl (by omega) (by omega)) rfl rfl rfl ?_
            refine AO.yld _ (Yld.assign rfl) rfl rfl rfl ?_
            refine AO.nil ?_
            refine AC.mark ?_
            refine AC.region ?_
            refine AO.yld _ (Yld.add rfl rfl (by omega) (by omega)) rfl rfl rfl ?_
            refine AO.yld _ (Yld.move rfl) rfl rfl rfl ?_
            refine AO.nil ?_
            refine AC.back ⟨k + 1, ?_, ?_, ⟨?_, ?_, trivial⟩, trivial, ⟨rfl, rfl, rfl, rfl, rfl, trivial⟩, trivial⟩
            · exact hk
            · omega
            · rfl
            · first | (rw [hst]; rfl) | (rw [hst, Int.add_zero]; rfl)
          · -- c24 False
            rw [if_neg (show ¬ 0 ≤ r by simpa using c24)] at hst
            refine AC.skip ?_
            refine AC.mark ?_
            refine AC.region ?_
            refine AO.yld _ (Yld.add rfl rfl (by omega) (by omega)) rfl rfl rfl ?_
            refine AO.yld _ (Yld.move rfl) rfl rfl rfl ?_
            refine AO.nil ?_
            refine AC.back ⟨k + 1, ?_, ?_, ⟨?_, ?_, trivial⟩, trivial, ⟨rfl, rfl, rfl, rfl, rfl, trivial⟩, trivial⟩
            · exact hk
            · omega
            · rfl
            · first | (rw [hst]; rfl) | (rw [hst, Int.add_zero]; rfl)
        · -- c19 False
          obtain rfl : k = pl.length := by have := ge_of_decM c19; omega
          have hfin : (seatedOf ((persL gs).take pl.length) (pl.take pl.length)) = seatedOf (persL gs) pl := by rw [List.take_of_length_le (show (persL gs).length ≤ pl.length by simp [persL]; omega), List.take_of_length_le (Nat.le_refl _)]
          refine AC.exit rfl ?_
          refine AC.seq ?_
          refine AC.region ?_
          refine AO.yld _ (Yld.move rfl) rfl rfl rfl ?_
          refine AO.yld _ (Yld.assign rfl) rfl rfl rfl ?_
          refine AO.yld _ (Yld.assign rfl) rfl rfl rfl ?_
          refine AO.nil ?_
          refine Pure.retT Try.results24 (RVs.cons (RV.tmp rfl) (RVs.cons (RV.tmp rfl) RVs.nil)) rfl ?_
          first | (rw [hS]; done) | (rw [hS, hfin]; done) | fail

end Go.Proofs.Ytnejigdldeipdaa
