/- Contracts of functions of the program, each by a walk of its text in the calculus V. -/
import Derived.Test.YtbbechcbdeknnaaR4A
import Derived.Test.YtbbechcbdeknnaaD16
import Derived.Test.YtbbechcbdeknnaaV18
set_option linter.all false
set_option linter.unusedSimpArgs false
set_option linter.unnecessarySimpa false
set_option linter.unusedVariables false
namespace Go.Proofs.Ytbbechcbdeknnaa
open Go Go.V
theorem ty9 : TyIs Try.prog 9 (.string ⟨#[]⟩) 1 16 := by unfold TyIs; kernel_rfl
theorem ty29 : TyIs Try.prog 29 (.agg #[.string ⟨#[]⟩, .int .i64 0]) 2 24 := by unfold TyIs; kernel_rfl
theorem bld29 : BuildIs Try.prog 29 [(0, 1), (1, 1)] (.agg #[.string ⟨#[]⟩, .int .i64 0]) := by
  intro ps cells w h
  have h2 : Instr.fill (fun i => ([(0, 1), (1, 1)] : List (Nat × Nat))[i]?) #[.string ⟨#[]⟩, .int .i64 0] ps.toList = some cells := h
  simp [Instr.build, go_sem, Try.zeroValue29, run_underlying Try.underlying29, Try.sizeOf2, Try.sizeOf9, h2]
theorem bld51 : BuildIs Try.prog 51 [(0, 1), (1, 1), (2, 1)] (.agg #[.slice none 0 0, .int .i64 0, .int .u64 0]) := by
  intro ps cells w h
  have h2 : Instr.fill (fun i => ([(0, 1), (1, 1), (2, 1)] : List (Nat × Nat))[i]?) #[.slice none 0 0, .int .i64 0, .int .u64 0] ps.toList = some cells := h
  simp [Instr.build, go_sem, Try.zeroValue51, run_underlying Try.underlying51, Try.sizeOf3, Try.sizeOf22, Try.sizeOf49, h2]

theorem src_next_c {code : List UInt8} {p sd : Int} (h0 : 0 ≤ p) (h1 : p ≤ 4611686018427387904) :
    FnE (α := Int × Int) Try.prog 25 [.h 0] [(0, .box 51 [.p (.sl 1 (code.map encB)), .p (.v (.int .i64 p)), .p (.v (.int .u64 sd))])] [0] (fun ⟨v, s⟩ => 0 ≤ v ∧ v ≤ 255) (fun ⟨v, s⟩ => .p (.v (.int .i64 v))) (fun ⟨v, s⟩ => [(0, .box 51 [.p (.sl 1 (code.map encB)), .p (.v (.int .i64 (p + 1))), .p (.v (.int .u64 s))])]) := by
  refine FnE.intro Try.func25 rfl Try.ntmps25 rfl rfl (fun w0 F0 η φ w => ?_)
  refine AC.seq ?_
  refine AC.region ?_
  refine AO.yld _ (Yld.assign rfl) rfl rfl rfl ?_
  refine AO.nil ?_
  refine AC.seq ?_
  refine AC.region ?_
  refine AO.yld _ (Yld.assign rfl) rfl rfl rfl ?_
  refine AO.nil ?_
  refine AC.seq ?_
  refine AC.seq ?_
  refine AC.draw (by kernel_rfl) (by kernel_rfl) ?_
  refine AO.yld _ (Yld.move rfl) rfl rfl rfl ?_
  refine AO.yld _ (Yld.nilCheck rfl rfl) rfl rfl rfl ?_
  refine AO.yld _ (Yld.fieldAddr Try.underlying51 rfl rfl Try.sizeOf3 rfl rfl rfl) rfl rfl rfl ?_
  refine AO.yld _ (Yld.load Try.isAgg3 rfl rfl) rfl rfl rfl ?_
  refine AO.yld _ (Yld.move rfl) rfl rfl rfl ?_
  refine AO.yld _ (Yld.nilCheck rfl rfl) rfl rfl rfl ?_
  refine AO.yld _ (Yld.fieldAddr Try.underlying51 rfl rfl Try.sizeOf22 rfl rfl rfl) rfl rfl rfl ?_
  refine AO.yld _ (Yld.load Try.isAgg22 rfl rfl) rfl rfl rfl ?_
  refine AO.yld _ (Yld.len Try.underlying22 rfl rfl) rfl rfl rfl ?_
  refine AO.yld _ (Yld.int rfl rfl rfl) rfl rfl rfl ?_
  refine AO.nil ?_
  refine AC.cond _ rfl (fun c13 => ?_) (fun c13 => ?_)
  · -- c13 True
    have hp : p < code.length := by have h := c13; simpa using h
    obtain ⟨c, hc⟩ := get_some (xs := code) (k := p.toNat) (by omega)
    have hrow := map_row (enc := encB) hc
    refine AC.draw (by kernel_rfl) (by kernel_rfl) ?_
    refine AO.yld _ (Yld.move rfl) rfl rfl rfl ?_
    refine AO.yld _ (Yld.nilCheck rfl rfl) rfl rfl rfl ?_
    refine AO.yld _ (Yld.fieldAddr Try.underlying51 rfl rfl Try.sizeOf22 rfl rfl rfl) rfl rfl rfl ?_
    refine AO.yld _ (Yld.load Try.isAgg22 rfl rfl) rfl rfl rfl ?_
    refine AO.yld _ (Yld.move rfl) rfl rfl rfl ?_
    refine AO.yld _ (Yld.nilCheck rfl rfl) rfl rfl rfl ?_
    refine AO.yld _ (Yld.fieldAddr Try.underlying51 rfl rfl Try.sizeOf3 rfl rfl rfl) rfl rfl rfl ?_
    refine AO.yld _ (Yld.load Try.isAgg3 rfl rfl) rfl rfl rfl ?_
    refine AO.yld _ (Yld.indexSl Try.underlying22 Try.sizeOf5 rfl rfl hrow (by omega)) rfl rfl rfl ?_
    refine AO.yld _ (Yld.load Try.isAgg5 rfl rfl) rfl rfl rfl ?_
    refine AO.yld _ (Yld.convInt Try.underlying5 Try.underlying3 rfl) rfl rfl rfl ?_
    refine AO.yld _ (Yld.assign rfl) rfl rfl rfl ?_
    refine AO.nil ?_
    refine AC.seq ?_
    refine AC.region ?_
    refine AO.yld _ (Yld.move rfl) rfl rfl rfl ?_
    refine AO.yld _ (Yld.nilCheck rfl rfl) rfl rfl rfl ?_
    refine AO.yld _ (Yld.fieldAddr Try.underlying51 rfl rfl Try.sizeOf3 rfl rfl rfl) rfl rfl rfl ?_
    refine AO.yld _ (Yld.load Try.isAgg3 rfl rfl) rfl rfl rfl ?_
    refine AO.yld _ (Yld.add rfl rfl (by omega) (by omega)) rfl rfl rfl ?_
    refine AO.yld _ (Yld.nilCheck rfl rfl) rfl rfl rfl ?_
    refine AO.yld _ (Yld.fieldAddr Try.underlying51 rfl rfl Try.sizeOf3 rfl rfl rfl) rfl rfl rfl ?_
    refine AO.store Try.sizeOf3 rfl rfl rfl rfl rfl rfl ?_
    refine AO.nil ?_
    refine AC.seq ?_
    refine AC.region ?_
    refine AO.yld _ (Yld.move rfl) rfl rfl rfl ?_
    refine AO.yld _ (Yld.move rfl) rfl rfl rfl ?_
    refine AO.yld _ (Yld.nilCheck rfl rfl) rfl rfl rfl ?_
    refine AO.yld _ (Yld.fieldAddr Try.underlying51 rfl rfl Try.sizeOf49 rfl rfl rfl) rfl rfl rfl ?_
    refine AO.yld _ (Yld.load Try.isAgg49 rfl rfl) rfl rfl rfl ?_
    refine AO.yld _ (Yld.int rfl rfl rfl) rfl rfl rfl ?_
    refine AO.yld _ (Yld.move rfl) rfl rfl rfl ?_
    refine AO.yld _ (Yld.convInt Try.underlying3 Try.underlying49 rfl) rfl rfl rfl ?_
    refine AO.yld _ (Yld.int rfl rfl rfl) rfl rfl rfl ?_
    refine AO.yld _ (Yld.int rfl rfl rfl) rfl rfl rfl ?_
    refine AO.yld _ (Yld.nilCheck rfl rfl) rfl rfl rfl ?_
    refine AO.yld _ (Yld.fieldAddr Try.underlying51 rfl rfl Try.sizeOf49 rfl rfl rfl) rfl rfl rfl ?_
    refine AO.store Try.sizeOf49 rfl rfl rfl rfl rfl rfl ?_
    refine AO.nil ?_
    refine AC.seq ?_
    refine AC.seq ?_
    refine AC.draw (by kernel_rfl) (by kernel_rfl) ?_
    refine AO.yld _ (Yld.move rfl) rfl rfl rfl ?_
    refine AO.yld _ (Yld.nilCheck rfl rfl) rfl rfl rfl ?_
    refine AO.yld _ (Yld.fieldAddr Try.underlying51 rfl rfl Try.sizeOf3 rfl rfl rfl) rfl rfl rfl ?_
    refine AO.yld _ (Yld.load Try.isAgg3 rfl rfl) rfl rfl rfl ?_
    refine AO.yld _ (Yld.move rfl) rfl rfl rfl ?_
    refine AO.yld _ (Yld.nilCheck rfl rfl) rfl rfl rfl ?_
    refine AO.yld _ (Yld.fieldAddr Try.underlying51 rfl rfl Try.sizeOf22 rfl rfl rfl) rfl rfl rfl ?_
    refine AO.yld _ (Yld.load Try.isAgg22 rfl rfl) rfl rfl rfl ?_
    refine AO.yld _ (Yld.len Try.underlying22 rfl rfl) rfl rfl rfl ?_
    refine AO.yld _ (Yld.int rfl rfl rfl) rfl rfl rfl ?_
    refine AO.nil ?_
    refine AC.cond _ rfl (fun c53 => ?_) (fun c53 => ?_)
    · -- c53 True
      refine AC.seq ?_
      refine AC.region ?_
      refine AO.yld _ (Yld.move rfl) rfl rfl rfl ?_
      refine AO.yld _ (Yld.assign rfl) rfl rfl rfl ?_
      refine AO.nil ?_
      refine FnE.ret (_, _) [0] [0] Try.results25 (RVs.cons (RV.tmp rfl) RVs.nil) rfl rfl rfl ?_ rfl ⟨⟨_, rfl, rfl⟩, trivial⟩
      · -- holds
        show 0 ≤ _ ∧ _ ≤ _; first | exact byte_u8 _ | exact byte_of _ | exact ⟨by decide, by decide⟩
    · -- c53 False
      refine AC.skip ?_
      refine AC.seq ?_
      refine AC.region ?_
      refine AO.yld _ (Yld.move rfl) rfl rfl rfl ?_
      refine AO.yld _ (Yld.nilCheck rfl rfl) rfl rfl rfl ?_
      refine AO.yld _ (Yld.fieldAddr Try.underlying51 rfl rfl Try.sizeOf49 rfl rfl rfl) rfl rfl rfl ?_
      refine AO.yld _ (Yld.load Try.isAgg49 rfl rfl) rfl rfl rfl ?_
      refine AO.yld _ (Yld.shr rfl rfl (by omega)) rfl rfl rfl ?_
      refine AO.yld _ (Yld.and rfl rfl) rfl rfl rfl ?_
      refine AO.yld _ (Yld.convInt Try.underlying49 Try.underlying2 rfl) rfl rfl rfl ?_
      refine AO.yld _ (Yld.assign rfl) rfl rfl rfl ?_
      refine AO.nil ?_
      refine FnE.ret (_, _) [0] [0] Try.results25 (RVs.cons (RV.tmp rfl) RVs.nil) rfl rfl rfl ?_ rfl ⟨⟨_, rfl, rfl⟩, trivial⟩
      · -- holds
        show 0 ≤ _ ∧ _ ≤ _; first | exact byte_u8 _ | exact byte_of _ | exact ⟨by decide, by decide⟩
  · -- c13 False
    refine AC.skip ?_
    refine AC.seq ?_
    refine AC.region ?_
    refine AO.yld _ (Yld.move rfl) rfl rfl rfl ?_
    refine AO.yld _ (Yld.nilCheck rfl rfl) rfl rfl rfl ?_
    refine AO.yld _ (Yld.fieldAddr Try.underlying51 rfl rfl Try.sizeOf3 rfl rfl rfl) rfl rfl rfl ?_
    refine AO.yld _ (Yld.load Try.isAgg3 rfl rfl) rfl rfl rfl ?_
    refine AO.yld _ (Yld.add rfl rfl (by omega) (by omega)) rfl rfl rfl ?_
    refine AO.yld _ (Yld.nilCheck rfl rfl) rfl rfl rfl ?_
    refine AO.yld _ (Yld.fieldAddr Try.underlying51 rfl rfl Try.sizeOf3 rfl rfl rfl) rfl rfl rfl ?_
    refine AO.store Try.sizeOf3 rfl rfl rfl rfl rfl rfl ?_
    refine AO.nil ?_
    refine AC.seq ?_
    refine AC.region ?_
    refine AO.yld _ (Yld.move rfl) rfl rfl rfl ?_
    refine AO.yld _ (Yld.move rfl) rfl rfl rfl ?_
    refine AO.yld _ (Yld.nilCheck rfl rfl) rfl rfl rfl ?_
    refine AO.yld _ (Yld.fieldAddr Try.underlying51 rfl rfl Try.sizeOf49 rfl rfl rfl) rfl rfl rfl ?_
    refine AO.yld _ (Yld.load Try.isAgg49 rfl rfl) rfl rfl rfl ?_
    refine AO.yld _ (Yld.int rfl rfl rfl) rfl rfl rfl ?_
    refine AO.yld _ (Yld.move rfl) rfl rfl rfl ?_
    refine AO.yld _ (Yld.convInt Try.underlying3 Try.underlying49 rfl) rfl rfl rfl ?_
    refine AO.yld _ (Yld.int rfl rfl rfl) rfl rfl rfl ?_
    refine AO.yld _ (Yld.int rfl rfl rfl) rfl rfl rfl ?_
    refine AO.yld _ (Yld.nilCheck rfl rfl) rfl rfl rfl ?_
    refine AO.yld _ (Yld.fieldAddr Try.underlying51 rfl rfl Try.sizeOf49 rfl rfl rfl) rfl rfl rfl ?_
    refine AO.store Try.sizeOf49 rfl rfl rfl rfl rfl rfl ?_
    refine AO.nil ?_
    refine AC.seq ?_
    refine AC.seq ?_
    refine AC.draw (by kernel_rfl) (by kernel_rfl) ?_
    refine AO.yld _ (Yld.move rfl) rfl rfl rfl ?_
    refine AO.yld _ (Yld.nilCheck rfl rfl) rfl rfl rfl ?_
    refine AO.yld _ (Yld.fieldAddr Try.underlying51 rfl rfl Try.sizeOf3 rfl rfl rfl) rfl rfl rfl ?_
    refine AO.yld _ (Yld.load Try.isAgg3 rfl rfl) rfl rfl rfl ?_
    refine AO.yld _ (Yld.move rfl) rfl rfl rfl ?_
    refine AO.yld _ (Yld.nilCheck rfl rfl) rfl rfl rfl ?_
    refine AO.yld _ (Yld.fieldAddr Try.underlying51 rfl rfl Try.sizeOf22 rfl rfl rfl) rfl rfl rfl ?_
    refine AO.yld _ (Yld.load Try.isAgg22 rfl rfl) rfl rfl rfl ?_
    refine AO.yld _ (Yld.len Try.underlying22 rfl rfl) rfl rfl rfl ?_
    refine AO.yld _ (Yld.int rfl rfl rfl) rfl rfl rfl ?_
    refine AO.nil ?_
    refine AC.cond _ rfl (fun c53 => ?_) (fun c53 => ?_)
    · -- c53 True
      refine AC.seq ?_
      refine AC.region ?_
      refine AO.yld _ (Yld.move rfl) rfl rfl rfl ?_
      refine AO.yld _ (Yld.assign rfl) rfl rfl rfl ?_
      refine AO.nil ?_
      refine FnE.ret (_, _) [0] [0] Try.results25 (RVs.cons (RV.tmp rfl) RVs.nil) rfl rfl rfl ?_ rfl ⟨⟨_, rfl, rfl⟩, trivial⟩
      · -- holds
        show 0 ≤ _ ∧ _ ≤ _; first | exact byte_u8 _ | exact byte_of _ | exact ⟨by decide, by decide⟩
    · -- c53 False
      refine AC.skip ?_
      refine AC.seq ?_
      refine AC.region ?_
      refine AO.yld _ (Yld.move rfl) rfl rfl rfl ?_
      refine AO.yld _ (Yld.nilCheck rfl rfl) rfl rfl rfl ?_
      refine AO.yld _ (Yld.fieldAddr Try.underlying51 rfl rfl Try.sizeOf49 rfl rfl rfl) rfl rfl rfl ?_
      refine AO.yld _ (Yld.load Try.isAgg49 rfl rfl) rfl rfl rfl ?_
      refine AO.yld _ (Yld.shr rfl rfl (by omega)) rfl rfl rfl ?_
      refine AO.yld _ (Yld.and rfl rfl) rfl rfl rfl ?_
      refine AO.yld _ (Yld.convInt Try.underlying49 Try.underlying2 rfl) rfl rfl rfl ?_
      refine AO.yld _ (Yld.assign rfl) rfl rfl rfl ?_
      refine AO.nil ?_
      refine FnE.ret (_, _) [0] [0] Try.results25 (RVs.cons (RV.tmp rfl) RVs.nil) rfl rfl rfl ?_ rfl ⟨⟨_, rfl, rfl⟩, trivial⟩
      · -- holds
        show 0 ≤ _ ∧ _ ≤ _; first | exact byte_u8 _ | exact byte_of _ | exact ⟨by decide, by decide⟩

theorem src_pick_c {code : List UInt8} {p sd n : Int} (h0 : 0 ≤ p) (h1 : p ≤ 4611686018427387000) (h2 : 1 < n) :
    FnE (α := Int × Int × Int) Try.prog 22 [.h 0, .p (.v (.int .i64 n))] [(0, .box 51 [.p (.sl 1 (code.map encB)), .p (.v (.int .i64 p)), .p (.v (.int .u64 sd))])] [0] (fun ⟨v, q, s⟩ => 0 ≤ v ∧ v < n ∧ p ≤ q ∧ q ≤ p + 2) (fun ⟨v, q, s⟩ => .p (.v (.int .i64 v))) (fun ⟨v, q, s⟩ => [(0, .box 51 [.p (.sl 1 (code.map encB)), .p (.v (.int .i64 q)), .p (.v (.int .u64 s))])]) := by
  refine FnE.intro Try.func22 rfl Try.ntmps22 rfl rfl (fun w0 F0 η φ w => ?_)
  refine AC.seq ?_
  refine AC.region ?_
  refine AO.yld _ (Yld.assign rfl) rfl rfl rfl ?_
  refine AO.nil ?_
  refine AC.seq ?_
  refine AC.seq ?_
  refine AC.region ?_
  refine AO.yld _ (Yld.move rfl) rfl rfl rfl ?_
  refine AO.yld _ (Yld.int rfl rfl rfl) rfl rfl rfl ?_
  refine AO.nil ?_
  refine AC.cond _ rfl (fun c7 => ?_) (fun c7 => ?_)
  · -- c7 True
    exfalso; have h := c7; simp at h; omega
  · -- c7 False
    refine AC.skip ?_
    refine AC.seq ?_
    refine AC.region ?_
    refine AO.yld _ (Yld.move rfl) rfl rfl rfl ?_
    refine AO.callW (wantedN rfl) [0] [0] [0] rfl rfl Try.call25 rfl (src_next_c (by omega) (by omega)) (.own rfl) rfl (fun ⟨_, _⟩ => rfl) ⟨rfl, trivial⟩ rfl (fun ⟨_, _⟩ => rfl) (fun ⟨_, _⟩ => rfl) (fun ⟨v9, s9⟩ hv9 => ?_)
    dsimp only at hv9
    refine AO.yld _ (Yld.assign rfl) rfl rfl rfl ?_
    refine AO.nil ?_
    refine AC.seq ?_
    refine AC.seq ?_
    refine AC.region ?_
    refine AO.yld _ (Yld.move rfl) rfl rfl rfl ?_
    refine AO.yld _ (Yld.int rfl rfl rfl) rfl rfl rfl ?_
    refine AO.nil ?_
    refine AC.cond _ rfl (fun c11 => ?_) (fun c11 => ?_)
    · -- c11 True
      refine AC.region ?_
      refine AO.yld _ (Yld.move rfl) rfl rfl rfl ?_
      refine AO.yld _ (Yld.mul rfl rfl (by omega) (by omega)) rfl rfl rfl ?_
      refine AO.yld _ (Yld.move rfl) rfl rfl rfl ?_
      refine AO.callW (wantedN rfl) [0] [0] [0] rfl rfl Try.call25 rfl (src_next_c (by omega) (by omega)) (.own rfl) rfl (fun ⟨_, _⟩ => rfl) ⟨rfl, trivial⟩ rfl (fun ⟨_, _⟩ => rfl) (fun ⟨_, _⟩ => rfl) (fun ⟨v15, s15⟩ hv15 => ?_)
      dsimp only at hv15
      refine AO.yld _ (Yld.add rfl rfl (by omega) (by omega)) rfl rfl rfl ?_
      refine AO.yld _ (Yld.assign rfl) rfl rfl rfl ?_
      refine AO.nil ?_
      refine AC.seq ?_
      refine AC.region ?_
      refine AO.yld _ (Yld.move rfl) rfl rfl rfl ?_
      refine AO.yld _ (Yld.move rfl) rfl rfl rfl ?_
      refine AO.yld _ (Yld.rem rfl rfl (by omega)) rfl rfl rfl ?_
      refine AO.yld _ (Yld.assign rfl) rfl rfl rfl ?_
      refine AO.nil ?_
      refine FnE.ret (_, _, _) [0] [0] Try.results22 (RVs.cons (RV.tmp rfl) RVs.nil) rfl rfl rfl ?_ rfl ⟨⟨_, rfl, rfl⟩, trivial⟩
      · -- holds
        show 0 ≤ _ ∧ _ < _ ∧ _ ≤ _ ∧ _ ≤ _; first | exact pick_lim hv9 (by omega) (by omega) | exact pick_lim2 hv9 hv15 (by omega) (by omega)
    · -- c11 False
      refine AC.skip ?_
      refine AC.seq ?_
      refine AC.region ?_
      refine AO.yld _ (Yld.move rfl) rfl rfl rfl ?_
      refine AO.yld _ (Yld.move rfl) rfl rfl rfl ?_
      refine AO.yld _ (Yld.rem rfl rfl (by omega)) rfl rfl rfl ?_
      refine AO.yld _ (Yld.assign rfl) rfl rfl rfl ?_
      refine AO.nil ?_
      refine FnE.ret (_, _, _) [0] [0] Try.results22 (RVs.cons (RV.tmp rfl) RVs.nil) rfl rfl rfl ?_ rfl ⟨⟨_, rfl, rfl⟩, trivial⟩
      · -- holds
        show 0 ≤ _ ∧ _ < _ ∧ _ ≤ _ ∧ _ ≤ _; first | exact pick_lim hv9 (by omega) (by omega) | exact pick_lim2 hv9 hv15 (by omega) (by omega)

theorem spec_l00From_c {code : List UInt8} :
    FnE (α := Unit) Try.prog 12 [.p (.sl 1 (code.map encB))] [] [] (fun _ => True) (fun _ => .h 0) (fun _ => [(0, .box 51 [.p (.sl 1 (code.map encB)), .p (.v (.int .i64 0)), .p (.v (.int .u64 0))])]) := by
  refine FnE.intro Try.func12 rfl Try.ntmps12 rfl rfl (fun w0 F0 η φ w => ?_)
  refine AC.seq ?_
  refine AC.region ?_
  refine AO.yld _ (Yld.assign rfl) rfl rfl rfl ?_
  refine AO.nil ?_
  refine AC.seq ?_
  refine AC.region ?_
  refine AO.yld _ (Yld.move rfl) rfl rfl rfl ?_
  refine AO.yld _ (Yld.buildA (zs := [.sl 0 [], .v (.int .i64 0), .v (.int .u64 0)]) bld51 rfl rfl) rfl rfl rfl ?_
  refine AO.box 0 rfl rfl rfl rfl rfl ?_
  refine AO.yld _ (Yld.assign rfl) rfl rfl rfl ?_
  refine AO.nil ?_
  refine FnE.ret () [0] [0] Try.results12 (RVs.cons (RV.tmp rfl) RVs.nil) rfl rfl rfl ?_ ?_ ⟨⟨_, rfl, ?_⟩, trivial⟩
  · -- holds
    trivial
  · -- value
    rfl
  · -- thing 0
    rfl

theorem spec_l25Draw_c {code : List UInt8} {p sd : Int} (h0 : 0 ≤ p) (h1 : p ≤ 1000000) :
    FnE (α := List NV × Int × Int) Try.prog 13 [.h 0] [(0, .box 51 [.p (.sl 1 (code.map encB)), .p (.v (.int .i64 p)), .p (.v (.int .u64 sd))])] [0] (fun ⟨ms, q, s⟩ => DrawnM ms) (fun ⟨ms, q, s⟩ => .h 1) (fun ⟨ms, q, s⟩ => [(0, .box 51 [.p (.sl 1 (code.map encB)), .p (.v (.int .i64 q)), .p (.v (.int .u64 s))]), (1, .vec 29 2 (ms.map encNV))]) := by
  refine FnE.intro Try.func13 rfl Try.ntmps13 rfl rfl (fun w0 F0 η φ w => ?_)
  refine AC.seq ?_
  refine AC.region ?_
  refine AO.yld _ (Yld.assign rfl) rfl rfl rfl ?_
  refine AO.nil ?_
  refine AC.seq ?_
  refine AC.region ?_
  refine AO.buildSlice (rows := [[_], [_], [_], [_], [_], [_]]) 1 Try.underlying52 ty9 rfl rfl rfl rfl rfl rfl rfl rfl rfl ?_
  refine AO.yld _ (Yld.assign rfl) rfl rfl rfl ?_
  refine AO.nil ?_
  refine AC.seq ?_
  refine AC.region ?_
  refine AO.yld _ (Yld.move rfl) rfl rfl rfl ?_
  refine AO.callW (wantedN rfl) [0] [0] [0] rfl rfl Try.call22 rfl (src_pick_c (by omega) (by omega) (by omega)) (.own rfl) rfl (fun ⟨_, _, _⟩ => rfl) ⟨rfl, trivial⟩ rfl (fun ⟨_, _, _⟩ => rfl) (fun ⟨_, _, _⟩ => rfl) (fun ⟨v9, q9, s9⟩ hv9 => ?_)
  dsimp only at hv9
  refine AO.yld _ (Yld.assign rfl) rfl rfl rfl ?_
  refine AO.nil ?_
  refine AC.seq ?_
  refine AC.region ?_
  refine AO.buildSlice (rows := []) 2 Try.underlying24 ty29 rfl rfl rfl rfl rfl rfl rfl rfl rfl ?_
  refine AO.yld _ (Yld.assign rfl) rfl rfl rfl ?_
  refine AO.nil ?_
  refine AC.seq ?_
  refine AC.seq ?_
  refine AC.region ?_
  refine AO.yld _ (Yld.assign rfl) rfl rfl rfl ?_
  refine AO.nil ?_
  refine AC.block ?_
  refine AC.loopC4 [(0, _), (2, _), (3, _), (4, _)] [(1, _), (900, _)] (fun (k : Nat) (ms : List NV) (q s : Int) => [(6, .p (.v (.int .i64 (k : Int)))), (5, .h 2)]) (fun (k : Nat) (ms : List NV) (q s : Int) => [(0, .box 51 [.p (.sl 1 (code.map encB)), .p (.v (.int .i64 q)), .p (.v (.int .u64 s))]), (2, .vec 29 2 (ms.map encNV))]) (fun (k : Nat) (ms : List NV) (q s : Int) => DrawnM ms ∧ ms.length = k ∧ (k : Int) ≤ v9 ∧ 0 ≤ q ∧ q ≤ p + 2 + 2 * k) (fun (k : Nat) (ms : List NV) (q s : Int) => v9.toNat - k) 0 [] q9 s9 ⟨rfl, rfl, rfl, rfl, trivial⟩ ⟨rfl, rfl, trivial⟩ ⟨rfl, rfl, trivial⟩ ⟨rfl, rfl, trivial⟩ ?_ (fun k ms q s hJ => ?_)
  · exact ⟨drawn_nil, rfl, by omega, by omega, by omega⟩
  · -- round
    refine AC.seq ?_
    refine AC.seq ?_
    refine AC.region ?_
    refine AO.yld _ (Yld.move rfl) rfl rfl rfl ?_
    refine AO.yld _ (Yld.move rfl) rfl rfl rfl ?_
    refine AO.yld _ (Yld.int rfl rfl rfl) rfl rfl rfl ?_
    refine AO.nil ?_
    refine AC.cond _ rfl (fun c13 => ?_) (fun c13 => ?_)
    · -- c13 True
      have hk : (k : Int) < v9 := by simpa using c13
      have hk6 : k < 6 := by omega
      have hrowN : ([[PV.v (.string ⟨#[97]⟩)], [PV.v (.string ⟨#[98]⟩)], [PV.v (.string ⟨#[99]⟩)], [PV.v (.string ⟨#[100]⟩)], [PV.v (.string ⟨#[101]⟩)], [PV.v (.string ⟨#[102]⟩)]] : List (List PV))[k]? = some [.v (str [UInt8.ofNat (97 + k)])] := lett_row hk6
      refine AC.skip ?_
      refine AC.seq ?_
      refine AC.block ?_
      apply AC.drawAnyC (α := { y : Int × Int × Int // 0 ≤ y.1 ∧ y.1 < 50 ∧ q ≤ y.2.1 ∧ y.2.1 ≤ q + 2 }) [(0, _), (2, _), (3, _), (4, _), (6, _), (11, _), (12, _), (13, _)] [(1, _), (900, _)] (fun y => [(5, .h 2)]) (fun y => [(0, .box 51 [.p (.sl 1 (code.map encB)), .p (.v (.int .i64 y.1.2.1)), .p (.v (.int .u64 y.1.2.2))]), (2, .vec 29 2 (ms.map encNV ++ [[.v (str [UInt8.ofNat (97 + k)]), .v (.int .i64 (1 + y.1.1))]]))]) (by kernel_rfl)
      · -- orders
        refine ANx.take 0 rfl (by kernel_rfl) (by kernel_rfl) (by kernel_rfl) rfl rfl rfl (YldA.move rfl) ?_
        refine ANx.take 1 rfl (by kernel_rfl) (by kernel_rfl) (by kernel_rfl) rfl rfl rfl (YldA.move rfl) ?_
        refine ANx.take 2 rfl (by kernel_rfl) (by kernel_rfl) (by kernel_rfl) rfl rfl rfl (YldA.move rfl) ?_
        refine ANx.take 3 rfl (by kernel_rfl) (by kernel_rfl) (by kernel_rfl) rfl rfl rfl (YldA.indexVec Try.underlying52 Try.sizeOf9 rfl rfl rfl rfl (by show k < 6; omega)) ?_
        refine ANx.take 5 rfl (by kernel_rfl) (by kernel_rfl) (by kernel_rfl) rfl rfl rfl (YldA.move rfl) ?_
        refine ANx.all (rs := [4, 6]) (by kernel_rfl) rfl ⟨?_, ?_, trivial⟩
        · -- 4
          refine Stpx.eff rfl rfl (Eff.yld (Yld.load Try.isAgg9 rfl (behind_el (rows := [[PV.v (.string ⟨#[97]⟩)], [PV.v (.string ⟨#[98]⟩)], [PV.v (.string ⟨#[99]⟩)], [PV.v (.string ⟨#[100]⟩)], [PV.v (.string ⟨#[101]⟩)], [PV.v (.string ⟨#[102]⟩)]]) rfl hrowN)) rfl rfl) ?_
          refine ANx.all (rs := [6]) (by kernel_rfl) rfl ⟨?_, trivial⟩
          refine Stpx.effX rfl rfl (EffX.callW [0] [0] [0] rfl rfl Try.call22 rfl (src_pick_c (by omega) (by omega) (by omega)) (.own rfl) rfl (fun ⟨_, _, _⟩ => rfl) ⟨rfl, trivial⟩ rfl (fun ⟨_, _, _⟩ => rfl) (fun ⟨_, _, _⟩ => rfl)) ?_
          rintro _ ⟨⟨v22, q22, s22⟩, hv22, rfl⟩
          dsimp only at hv22
          refine ANx.take 7 rfl (by kernel_rfl) (by kernel_rfl) (by kernel_rfl) rfl rfl rfl (YldA.add rfl rfl (by omega) (by omega)) ?_
          refine ANx.all (rs := [8]) (by kernel_rfl) rfl ⟨?_, trivial⟩
          refine Stpx.eff rfl rfl (Eff.yld (Yld.buildA (zs := [.v (str []), .v (.int .i64 0)]) bld29 rfl rfl) rfl rfl) ?_
          refine ANx.all (rs := [9]) (by kernel_rfl) rfl ⟨?_, trivial⟩
          refine Stpx.eff rfl rfl (Eff.buildSlice (rows := [[_, _]]) 3 Try.underlying24 ty29 rfl rfl rfl rfl rfl rfl rfl rfl rfl) ?_
          refine ANx.all (rs := [10]) (by kernel_rfl) rfl ⟨?_, trivial⟩
          refine Stpx.eff rfl rfl (Eff.append 2 Try.underlying24 ty29 rfl rfl rfl rfl rfl rfl rfl (by simp [pvOne, str]) (by simp only [List.length_map, List.length_cons, List.length_nil]; omega) (by simp only [List.length_map, List.length_cons, List.length_nil]; omega) rfl) ?_
          refine ANx.take 11 rfl (by kernel_rfl) (by kernel_rfl) (by kernel_rfl) rfl rfl rfl (YldA.assign rfl) ?_
          exact ANx.doneC ⟨(v22, q22, s22), hv22⟩ (by kernel_rfl) ⟨rfl, trivial⟩ ⟨rfl, rfl, trivial⟩ ⟨rfl, rfl, rfl, rfl, rfl, rfl, rfl, rfl, trivial⟩ ⟨rfl, rfl, trivial⟩
        · -- 6
          refine Stpx.effX rfl rfl (EffX.callW [0] [0] [0] rfl rfl Try.call22 rfl (src_pick_c (by omega) (by omega) (by omega)) (.own rfl) rfl (fun ⟨_, _, _⟩ => rfl) ⟨rfl, trivial⟩ rfl (fun ⟨_, _, _⟩ => rfl) (fun ⟨_, _, _⟩ => rfl)) ?_
          rintro _ ⟨⟨v22, q22, s22⟩, hv22, rfl⟩
          dsimp only at hv22
          refine ANx.take 7 rfl (by kernel_rfl) (by kernel_rfl) (by kernel_rfl) rfl rfl rfl (YldA.add rfl rfl (by omega) (by omega)) ?_
          refine ANx.all (rs := [4]) (by kernel_rfl) rfl ⟨?_, trivial⟩
          refine Stpx.eff rfl rfl (Eff.yld (Yld.load Try.isAgg9 rfl (behind_el (rows := [[PV.v (.string ⟨#[97]⟩)], [PV.v (.string ⟨#[98]⟩)], [PV.v (.string ⟨#[99]⟩)], [PV.v (.string ⟨#[100]⟩)], [PV.v (.string ⟨#[101]⟩)], [PV.v (.string ⟨#[102]⟩)]]) rfl hrowN)) rfl rfl) ?_
          refine ANx.all (rs := [8]) (by kernel_rfl) rfl ⟨?_, trivial⟩
          refine Stpx.eff rfl rfl (Eff.yld (Yld.buildA (zs := [.v (str []), .v (.int .i64 0)]) bld29 rfl rfl) rfl rfl) ?_
          refine ANx.all (rs := [9]) (by kernel_rfl) rfl ⟨?_, trivial⟩
          refine Stpx.eff rfl rfl (Eff.buildSlice (rows := [[_, _]]) 3 Try.underlying24 ty29 rfl rfl rfl rfl rfl rfl rfl rfl rfl) ?_
          refine ANx.all (rs := [10]) (by kernel_rfl) rfl ⟨?_, trivial⟩
          refine Stpx.eff rfl rfl (Eff.append 2 Try.underlying24 ty29 rfl rfl rfl rfl rfl rfl rfl (by simp [pvOne, str]) (by simp only [List.length_map, List.length_cons, List.length_nil]; omega) (by simp only [List.length_map, List.length_cons, List.length_nil]; omega) rfl) ?_
          refine ANx.take 11 rfl (by kernel_rfl) (by kernel_rfl) (by kernel_rfl) rfl rfl rfl (YldA.assign rfl) ?_
          exact ANx.doneC ⟨(v22, q22, s22), hv22⟩ (by kernel_rfl) ⟨rfl, trivial⟩ ⟨rfl, rfl, trivial⟩ ⟨rfl, rfl, rfl, rfl, rfl, rfl, rfl, rfl, trivial⟩ ⟨rfl, rfl, trivial⟩
      · -- behind
        rintro ⟨⟨v2, q2, s2⟩, hv2⟩
        dsimp only at hv2
        refine AC.mark ?_
        refine AC.region ?_
        refine AO.yld _ (Yld.move rfl) rfl rfl rfl ?_
        refine AO.yld _ (Yld.add rfl rfl (by omega) (by omega)) rfl rfl rfl ?_
        refine AO.yld _ (Yld.assign rfl) rfl rfl rfl ?_
        refine AO.nil ?_
        refine AC.back ⟨k + 1, ms ++ [⟨[UInt8.ofNat (97 + k)], 1 + v2⟩], q2, s2, ?_, ?_, ⟨?_, ?_, trivial⟩, ⟨?_, ?_, trivial⟩, ⟨rfl, rfl, rfl, rfl, trivial⟩, ⟨rfl, rfl, trivial⟩⟩
        · exact ⟨drawn_add hJ.1 hJ.2.1 (by omega) (by omega) (by omega), by simp [hJ.2.1], by omega, by omega, by omega⟩
        · omega
        · rfl
        · rfl
        · rfl
        · rw [map_snoc]; rfl
    · -- c13 False
      refine AC.exit rfl ?_
      refine AC.seq ?_
      refine AC.region ?_
      refine AO.yld _ (Yld.move rfl) rfl rfl rfl ?_
      refine AO.yld _ (Yld.assign rfl) rfl rfl rfl ?_
      refine AO.nil ?_
      refine FnE.ret (_, _, _) [0, 2] [0, 1] Try.results13 (RVs.cons (RV.tmp rfl) RVs.nil) rfl rfl rfl ?_ rfl ⟨⟨_, rfl, rfl⟩, ⟨_, rfl, rfl⟩, trivial⟩
      · -- holds
        exact hJ.1

theorem spec_R8Media_c {code : List UInt8} :
    FnE (α := List NV) Try.prog 5 [.p (.sl 1 (code.map encB))] [] [] (fun ms => DrawnM ms) (fun ms => .h 0) (fun ms => [(0, .vec 29 2 (ms.map encNV))]) := by
  refine FnE.intro Try.func5 rfl Try.ntmps5 rfl rfl (fun w0 F0 η φ w => ?_)
  refine AC.seq ?_
  refine AC.region ?_
  refine AO.yld _ (Yld.assign rfl) rfl rfl rfl ?_
  refine AO.nil ?_
  refine AC.seq ?_
  refine AC.region ?_
  refine AO.yld _ (Yld.move rfl) rfl rfl rfl ?_
  refine AO.callW (wantedN rfl) [0] [] [0] rfl rfl Try.call12 rfl (spec_l00From_c) (.own rfl) rfl (fun _ => rfl) trivial rfl (fun _ => rfl) (fun _ => rfl) (fun _ _ => ?_)
  refine AO.yld _ (Yld.assign rfl) rfl rfl rfl ?_
  refine AO.nil ?_
  refine AC.seq ?_
  refine AC.region ?_
  refine AO.yld _ (Yld.move rfl) rfl rfl rfl ?_
  refine AO.callW (wantedN rfl) [0, 1] [0] [0, 1] rfl rfl Try.call13 rfl (spec_l25Draw_c (by omega) (by omega)) (.own rfl) rfl (fun ⟨_, _, _⟩ => rfl) ⟨rfl, trivial⟩ rfl (fun ⟨_, _, _⟩ => rfl) (fun ⟨_, _, _⟩ => rfl) (fun ⟨ms7, q7, s7⟩ hms7 => ?_)
  dsimp only at hms7
  refine AO.yld _ (Yld.assign rfl) rfl rfl rfl ?_
  refine AO.nil ?_
  refine FnE.ret _ [1] [0] Try.results5 (RVs.cons (RV.tmp rfl) RVs.nil) rfl rfl rfl ?_ rfl ⟨⟨_, rfl, rfl⟩, trivial⟩
  · -- holds
    assumption

end Go.Proofs.Ytbbechcbdeknnaa
