/- Contracts of functions of the program, each by a walk of its text in the calculus V. -/
import Derived.Test.YtdpanmnnfamfmaaR13
import Derived.Test.YtdpanmnnfamfmaaD51
import Derived.Test.YtdpanmnnfamfmaaV22
set_option linter.all false
set_option linter.unusedSimpArgs false
set_option linter.unnecessarySimpa false
set_option linter.unusedVariables false
namespace Go.Proofs.Ytdpanmnnfamfmaa
open Go Go.V
theorem ty2 : TyIs Try.prog 2 (.int .i64 0) 1 8 := by unfold TyIs; kernel_rfl
theorem ty58 : TyIs Try.prog 58 (.agg #[.string ⟨#[]⟩, .int .i64 0]) 2 24 := by unfold TyIs; kernel_rfl
theorem bld58 : BuildIs Try.prog 58 [(0, 1), (1, 1)] (.agg #[.string ⟨#[]⟩, .int .i64 0]) := by
  intro ps cells w h
  have h2 : Instr.fill (fun i => ([(0, 1), (1, 1)] : List (Nat × Nat))[i]?) #[.string ⟨#[]⟩, .int .i64 0] ps.toList = some cells := h
  simp [Instr.build, go_sem, Try.zeroValue58, run_underlying Try.underlying58, Try.sizeOf2, Try.sizeOf9, h2]
theorem bld109 : BuildIs Try.prog 109 [(0, 1), (1, 1), (2, 1)] (.agg #[.slice none 0 0, .int .i64 0, .int .u64 0]) := by
  intro ps cells w h
  have h2 : Instr.fill (fun i => ([(0, 1), (1, 1), (2, 1)] : List (Nat × Nat))[i]?) #[.slice none 0 0, .int .i64 0, .int .u64 0] ps.toList = some cells := h
  simp [Instr.build, go_sem, Try.zeroValue109, run_underlying Try.underlying109, Try.sizeOf3, Try.sizeOf30, Try.sizeOf107, h2]

theorem src_next_c {code : List UInt8} {p sd : Int} (h0 : 0 ≤ p) (h1 : p ≤ 4611686018427387904) :
    FnE (α := Int × Int) Try.prog 73 [.h 0] [(0, .box 109 [.p (.sl 1 (code.map encB)), .p (.v (.int .i64 p)), .p (.v (.int .u64 sd))])] [0] (fun ⟨v, s⟩ => 0 ≤ v ∧ v ≤ 255) (fun ⟨v, s⟩ => .p (.v (.int .i64 v))) (fun ⟨v, s⟩ => [(0, .box 109 [.p (.sl 1 (code.map encB)), .p (.v (.int .i64 (p + 1))), .p (.v (.int .u64 s))])]) := by
  refine FnE.intro Try.func73 rfl Try.ntmps73 rfl rfl (fun w0 F0 η φ w => ?_)
  refine AC.seq ?_
  refine AC.region ?_
  refine AO.yld _ (Yld.assign rfl) rfl rfl rfl ?_
  refine AO.nil ?_
  refine AC.seq ?_
  refine AC.region ?_
  refine AO.yld _ (Yld.assign rfl) rfl rfl rfl ?_
  refine AO.nil ?_
  refine AC.seq ?_
  refine AC.seq ?_
  refine AC.draw (by kernel_rfl) (by kernel_rfl) ?_
  refine AO.yld _ (Yld.move rfl) rfl rfl rfl ?_
  refine AO.yld _ (Yld.nilCheck rfl rfl) rfl rfl rfl ?_
  refine AO.yld _ (Yld.fieldAddr Try.underlying109 rfl rfl Try.sizeOf3 rfl rfl rfl) rfl rfl rfl ?_
  refine AO.yld _ (Yld.load Try.isAgg3 rfl rfl) rfl rfl rfl ?_
  refine AO.yld _ (Yld.move rfl) rfl rfl rfl ?_
  refine AO.yld _ (Yld.nilCheck rfl rfl) rfl rfl rfl ?_
  refine AO.yld _ (Yld.fieldAddr Try.underlying109 rfl rfl Try.sizeOf30 rfl rfl rfl) rfl rfl rfl ?_
  refine AO.yld _ (Yld.load Try.isAgg30 rfl rfl) rfl rfl rfl ?_
  refine AO.yld _ (Yld.len Try.underlying30 rfl rfl) rfl rfl rfl ?_
  refine AO.yld _ (Yld.int rfl rfl rfl) rfl rfl rfl ?_
  refine AO.nil ?_
  refine AC.cond _ rfl (fun c13 => ?_) (fun c13 => ?_)
  · -- c13 True
    have hp : p < code.length := by have h := c13; simpa using h
    obtain ⟨c, hc⟩ := get_some (xs := code) (k := p.toNat) (by omega)
    have hrow := map_row (enc := encB) hc
    refine AC.draw (by kernel_rfl) (by kernel_rfl) ?_
    refine AO.yld _ (Yld.move rfl) rfl rfl rfl ?_
    refine AO.yld _ (Yld.nilCheck rfl rfl) rfl rfl rfl ?_
    refine AO.yld _ (Yld.fieldAddr Try.underlying109 rfl rfl Try.sizeOf30 rfl rfl rfl) rfl rfl rfl ?_
    refine AO.yld _ (Yld.load Try.isAgg30 rfl rfl) rfl rfl rfl ?_
    refine AO.yld _ (Yld.move rfl) rfl rfl rfl ?_
    refine AO.yld _ (Yld.nilCheck rfl rfl) rfl rfl rfl ?_
    refine AO.yld _ (Yld.fieldAddr Try.underlying109 rfl rfl Try.sizeOf3 rfl rfl rfl) rfl rfl rfl ?_
    refine AO.yld _ (Yld.load Try.isAgg3 rfl rfl) rfl rfl rfl ?_
    refine AO.yld _ (Yld.indexSl Try.underlying30 Try.sizeOf5 rfl rfl hrow (by omega)) rfl rfl rfl ?_
    refine AO.yld _ (Yld.load Try.isAgg5 rfl rfl) rfl rfl rfl ?_
    refine AO.yld _ (Yld.convInt Try.underlying5 Try.underlying3 rfl) rfl rfl rfl ?_
    refine AO.yld _ (Yld.assign rfl) rfl rfl rfl ?_
    refine AO.nil ?_
    refine AC.seq ?_
    refine AC.region ?_
    refine AO.yld _ (Yld.move rfl) rfl rfl rfl ?_
    refine AO.yld _ (Yld.nilCheck rfl rfl) rfl rfl rfl ?_
    refine AO.yld _ (Yld.fieldAddr Try.underlying109 rfl rfl Try.sizeOf3 rfl rfl rfl) rfl rfl rfl ?_
    refine AO.yld _ (Yld.load Try.isAgg3 rfl rfl) rfl rfl rfl ?_
    refine AO.yld _ (Yld.add rfl rfl (by omega) (by omega)) rfl rfl rfl ?_
    refine AO.yld _ (Yld.nilCheck rfl rfl) rfl rfl rfl ?_
    refine AO.yld _ (Yld.fieldAddr Try.underlying109 rfl rfl Try.sizeOf3 rfl rfl rfl) rfl rfl rfl ?_
    refine AO.store Try.sizeOf3 rfl rfl rfl rfl rfl rfl ?_
    refine AO.nil ?_
    refine AC.seq ?_
    refine AC.region ?_
    refine AO.yld _ (Yld.move rfl) rfl rfl rfl ?_
    refine AO.yld _ (Yld.move rfl) rfl rfl rfl ?_
    refine AO.yld _ (Yld.nilCheck rfl rfl) rfl rfl rfl ?_
    refine AO.yld _ (Yld.fieldAddr Try.underlying109 rfl rfl Try.sizeOf107 rfl rfl rfl) rfl rfl rfl ?_
    refine AO.yld _ (Yld.load Try.isAgg107 rfl rfl) rfl rfl rfl ?_
    refine AO.yld _ (Yld.int rfl rfl rfl) rfl rfl rfl ?_
    refine AO.yld _ (Yld.move rfl) rfl rfl rfl ?_
    refine AO.yld _ (Yld.convInt Try.underlying3 Try.underlying107 rfl) rfl rfl rfl ?_
    refine AO.yld _ (Yld.int rfl rfl rfl) rfl rfl rfl ?_
    refine AO.yld _ (Yld.int rfl rfl rfl) rfl rfl rfl ?_
    refine AO.yld _ (Yld.nilCheck rfl rfl) rfl rfl rfl ?_
    refine AO.yld _ (Yld.fieldAddr Try.underlying109 rfl rfl Try.sizeOf107 rfl rfl rfl) rfl rfl rfl ?_
    refine AO.store Try.sizeOf107 rfl rfl rfl rfl rfl rfl ?_
    refine AO.nil ?_
    refine AC.seq ?_
    refine AC.seq ?_
    refine AC.draw (by kernel_rfl) (by kernel_rfl) ?_
    refine AO.yld _ (Yld.move rfl) rfl rfl rfl ?_
    refine AO.yld _ (Yld.nilCheck rfl rfl) rfl rfl rfl ?_
    refine AO.yld _ (Yld.fieldAddr Try.underlying109 rfl rfl Try.sizeOf3 rfl rfl rfl) rfl rfl rfl ?_
    refine AO.yld _ (Yld.load Try.isAgg3 rfl rfl) rfl rfl rfl ?_
    refine AO.yld _ (Yld.move rfl) rfl rfl rfl ?_
    refine AO.yld _ (Yld.nilCheck rfl rfl) rfl rfl rfl ?_
    refine AO.yld _ (Yld.fieldAddr Try.underlying109 rfl rfl Try.sizeOf30 rfl rfl rfl) rfl rfl rfl ?_
    refine AO.yld _ (Yld.load Try.isAgg30 rfl rfl) rfl rfl rfl ?_
    refine AO.yld _ (Yld.len Try.underlying30 rfl rfl) rfl rfl rfl ?_
    refine AO.yld _ (Yld.int rfl rfl rfl) rfl rfl rfl ?_
    refine AO.nil ?_
    refine AC.cond _ rfl (fun c53 => ?_) (fun c53 => ?_)
    · -- c53 True
      refine AC.seq ?_
      refine AC.region ?_
      refine AO.yld _ (Yld.move rfl) rfl rfl rfl ?_
      refine AO.yld _ (Yld.assign rfl) rfl rfl rfl ?_
      refine AO.nil ?_
      refine FnE.ret (_, _) [0] [0] Try.results73 (RVs.cons (RV.tmp rfl) RVs.nil) rfl rfl rfl ?_ rfl ⟨⟨_, rfl, rfl⟩, trivial⟩
      · -- holds
        show 0 ≤ _ ∧ _ ≤ _; first | exact byte_u8 _ | exact byte_of _ | exact ⟨by decide, by decide⟩
    · -- c53 False
      refine AC.skip ?_
      refine AC.seq ?_
      refine AC.region ?_
      refine AO.yld _ (Yld.move rfl) rfl rfl rfl ?_
      refine AO.yld _ (Yld.nilCheck rfl rfl) rfl rfl rfl ?_
      refine AO.yld _ (Yld.fieldAddr Try.underlying109 rfl rfl Try.sizeOf107 rfl rfl rfl) rfl rfl rfl ?_
      refine AO.yld _ (Yld.load Try.isAgg107 rfl rfl) rfl rfl rfl ?_
      refine AO.yld _ (Yld.shr rfl rfl (by omega)) rfl rfl rfl ?_
      refine AO.yld _ (Yld.and rfl rfl) rfl rfl rfl ?_
      refine AO.yld _ (Yld.convInt Try.underlying107 Try.underlying2 rfl) rfl rfl rfl ?_
      refine AO.yld _ (Yld.assign rfl) rfl rfl rfl ?_
      refine AO.nil ?_
      refine FnE.ret (_, _) [0] [0] Try.results73 (RVs.cons (RV.tmp rfl) RVs.nil) rfl rfl rfl ?_ rfl ⟨⟨_, rfl, rfl⟩, trivial⟩
      · -- holds
        show 0 ≤ _ ∧ _ ≤ _; first | exact byte_u8 _ | exact byte_of _ | exact ⟨by decide, by decide⟩
  · -- c13 False
    refine AC.skip ?_
    refine AC.seq ?_
    refine AC.region ?_
    refine AO.yld _ (Yld.move rfl) rfl rfl rfl ?_
    refine AO.yld _ (Yld.nilCheck rfl rfl) rfl rfl rfl ?_
    refine AO.yld _ (Yld.fieldAddr Try.underlying109 rfl rfl Try.sizeOf3 rfl rfl rfl) rfl rfl rfl ?_
    refine AO.yld _ (Yld.load Try.isAgg3 rfl rfl) rfl rfl rfl ?_
    refine AO.yld _ (Yld.add rfl rfl (by omega) (by omega)) rfl rfl rfl ?_
    refine AO.yld _ (Yld.nilCheck rfl rfl) rfl rfl rfl ?_
    refine AO.yld _ (Yld.fieldAddr Try.underlying109 rfl rfl Try.sizeOf3 rfl rfl rfl) rfl rfl rfl ?_
    refine AO.store Try.sizeOf3 rfl rfl rfl rfl rfl rfl ?_
    refine AO.nil ?_
    refine AC.seq ?_
    refine AC.region ?_
    refine AO.yld _ (Yld.move rfl) rfl rfl rfl ?_
    refine AO.yld _ (Yld.move rfl) rfl rfl rfl ?_
    refine AO.yld _ (Yld.nilCheck rfl rfl) rfl rfl rfl ?_
    refine AO.yld _ (Yld.fieldAddr Try.underlying109 rfl rfl Try.sizeOf107 rfl rfl rfl) rfl rfl rfl ?_
    refine AO.yld _ (Yld.load Try.isAgg107 rfl rfl) rfl rfl rfl ?_
    refine AO.yld _ (Yld.int rfl rfl rfl) rfl rfl rfl ?_
    refine AO.yld _ (Yld.move rfl) rfl rfl rfl ?_
    refine AO.yld _ (Yld.convInt Try.underlying3 Try.underlying107 rfl) rfl rfl rfl ?_
    refine AO.yld _ (Yld.int rfl rfl rfl) rfl rfl rfl ?_
    refine AO.yld _ (Yld.int rfl rfl rfl) rfl rfl rfl ?_
    refine AO.yld _ (Yld.nilCheck rfl rfl) rfl rfl rfl ?_
    refine AO.yld _ (Yld.fieldAddr Try.underlying109 rfl rfl Try.sizeOf107 rfl rfl rfl) rfl rfl rfl ?_
    refine AO.store Try.sizeOf107 rfl rfl rfl rfl rfl rfl ?_
    refine AO.nil ?_
    refine AC.seq ?_
    refine AC.seq ?_
    refine AC.draw (by kernel_rfl) (by kernel_rfl) ?_
    refine AO.yld _ (Yld.move rfl) rfl rfl rfl ?_
    refine AO.yld _ (Yld.nilCheck rfl rfl) rfl rfl rfl ?_
    refine AO.yld _ (Yld.fieldAddr Try.underlying109 rfl rfl Try.sizeOf3 rfl rfl rfl) rfl rfl rfl ?_
    refine AO.yld _ (Yld.load Try.isAgg3 rfl rfl) rfl rfl rfl ?_
    refine AO.yld _ (Yld.move rfl) rfl rfl rfl ?_
    refine AO.yld _ (Yld.nilCheck rfl rfl) rfl rfl rfl ?_
    refine AO.yld _ (Yld.fieldAddr Try.underlying109 rfl rfl Try.sizeOf30 rfl rfl rfl) rfl rfl rfl ?_
    refine AO.yld _ (Yld.load Try.isAgg30 rfl rfl) rfl rfl rfl ?_
    refine AO.yld _ (Yld.len Try.underlying30 rfl rfl) rfl rfl rfl ?_
    refine AO.yld _ (Yld.int rfl rfl rfl) rfl rfl rfl ?_
    refine AO.nil ?_
    refine AC.cond _ rfl (fun c53 => ?_) (fun c53 => ?_)
    · -- c53 True
      refine AC.seq ?_
      refine AC.region ?_
      refine AO.yld _ (Yld.move rfl) rfl rfl rfl ?_
      refine AO.yld _ (Yld.assign rfl) rfl rfl rfl ?_
      refine AO.nil ?_
      refine FnE.ret (_, _) [0] [0] Try.results73 (RVs.cons (RV.tmp rfl) RVs.nil) rfl rfl rfl ?_ rfl ⟨⟨_, rfl, rfl⟩, trivial⟩
      · -- holds
        show 0 ≤ _ ∧ _ ≤ _; first | exact byte_u8 _ | exact byte_of _ | exact ⟨by decide, by decide⟩
    · -- c53 False
      refine AC.skip ?_
      refine AC.seq ?_
      refine AC.region ?_
      refine AO.yld _ (Yld.move rfl) rfl rfl rfl ?_
      refine AO.yld _ (Yld.nilCheck rfl rfl) rfl rfl rfl ?_
      refine AO.yld _ (Yld.fieldAddr Try.underlying109 rfl rfl Try.sizeOf107 rfl rfl rfl) rfl rfl rfl ?_
      refine AO.yld _ (Yld.load Try.isAgg107 rfl rfl) rfl rfl rfl ?_
      refine AO.yld _ (Yld.shr rfl rfl (by omega)) rfl rfl rfl ?_
      refine AO.yld _ (Yld.and rfl rfl) rfl rfl rfl ?_
      refine AO.yld _ (Yld.convInt Try.underlying107 Try.underlying2 rfl) rfl rfl rfl ?_
      refine AO.yld _ (Yld.assign rfl) rfl rfl rfl ?_
      refine AO.nil ?_
      refine FnE.ret (_, _) [0] [0] Try.results73 (RVs.cons (RV.tmp rfl) RVs.nil) rfl rfl rfl ?_ rfl ⟨⟨_, rfl, rfl⟩, trivial⟩
      · -- holds
        show 0 ≤ _ ∧ _ ≤ _; first | exact byte_u8 _ | exact byte_of _ | exact ⟨by decide, by decide⟩

theorem src_pick_c {code : List UInt8} {p sd n : Int} (h0 : 0 ≤ p) (h1 : p ≤ 4611686018427387000) (h2 : 1 < n) :
    FnE (α := Int × Int × Int) Try.prog 48 [.h 0, .p (.v (.int .i64 n))] [(0, .box 109 [.p (.sl 1 (code.map encB)), .p (.v (.int .i64 p)), .p (.v (.int .u64 sd))])] [0] (fun ⟨v, q, s⟩ => 0 ≤ v ∧ v < n ∧ p ≤ q ∧ q ≤ p + 2) (fun ⟨v, q, s⟩ => .p (.v (.int .i64 v))) (fun ⟨v, q, s⟩ => [(0, .box 109 [.p (.sl 1 (code.map encB)), .p (.v (.int .i64 q)), .p (.v (.int .u64 s))])]) := by
  refine FnE.intro Try.func48 rfl Try.ntmps48 rfl rfl (fun w0 F0 η φ w => ?_)
  refine AC.seq ?_
  refine AC.region ?_
  refine AO.yld _ (Yld.assign rfl) rfl rfl rfl ?_
  refine AO.nil ?_
  refine AC.seq ?_
  refine AC.seq ?_
  refine AC.region ?_
  refine AO.yld _ (Yld.move rfl) rfl rfl rfl ?_
  refine AO.yld _ (Yld.int rfl rfl rfl) rfl rfl rfl ?_
  refine AO.nil ?_
  refine AC.cond _ rfl (fun c7 => ?_) (fun c7 => ?_)
  · -- c7 True
    exfalso; have h := c7; simp at h; omega
  · -- c7 False
    refine AC.skip ?_
    refine AC.seq ?_
    refine AC.region ?_
    refine AO.yld _ (Yld.move rfl) rfl rfl rfl ?_
    refine AO.callW (wantedN rfl) [0] [0] [0] rfl rfl Try.call73 rfl (src_next_c (by omega) (by omega)) (.own rfl) rfl (fun ⟨_, _⟩ => rfl) ⟨rfl, trivial⟩ rfl (fun ⟨_, _⟩ => rfl) (fun ⟨_, _⟩ => rfl) (fun ⟨v9, s9⟩ hv9 => ?_)
    dsimp only at hv9
    refine AO.yld _ (Yld.assign rfl) rfl rfl rfl ?_
    refine AO.nil ?_
    refine AC.seq ?_
    refine AC.seq ?_
    refine AC.region ?_
    refine AO.yld _ (Yld.move rfl) rfl rfl rfl ?_
    refine AO.yld _ (Yld.int rfl rfl rfl) rfl rfl rfl ?_
    refine AO.nil ?_
    refine AC.cond _ rfl (fun c11 => ?_) (fun c11 => ?_)
    · -- c11 True
      refine AC.region ?_
      refine AO.yld _ (Yld.move rfl) rfl rfl rfl ?_
      refine AO.yld _ (Yld.mul rfl rfl (by omega) (by omega)) rfl rfl rfl ?_
      refine AO.yld _ (Yld.move rfl) rfl rfl rfl ?_
      refine AO.callW (wantedN rfl) [0] [0] [0] rfl rfl Try.call73 rfl (src_next_c (by omega) (by omega)) (.own rfl) rfl (fun ⟨_, _⟩ => rfl) ⟨rfl, trivial⟩ rfl (fun ⟨_, _⟩ => rfl) (fun ⟨_, _⟩ => rfl) (fun ⟨v15, s15⟩ hv15 => ?_)
      dsimp only at hv15
      refine AO.yld _ (Yld.add rfl rfl (by omega) (by omega)) rfl rfl rfl ?_
      refine AO.yld _ (Yld.assign rfl) rfl rfl rfl ?_
      refine AO.nil ?_
      refine AC.seq ?_
      refine AC.region ?_
      refine AO.yld _ (Yld.move rfl) rfl rfl rfl ?_
      refine AO.yld _ (Yld.move rfl) rfl rfl rfl ?_
      refine AO.yld _ (Yld.rem rfl rfl (by omega)) rfl rfl rfl ?_
      refine AO.yld _ (Yld.assign rfl) rfl rfl rfl ?_
      refine AO.nil ?_
      refine FnE.ret (_, _, _) [0] [0] Try.results48 (RVs.cons (RV.tmp rfl) RVs.nil) rfl rfl rfl ?_ rfl ⟨⟨_, rfl, rfl⟩, trivial⟩
      · -- holds
        show 0 ≤ _ ∧ _ < _ ∧ _ ≤ _ ∧ _ ≤ _; first | exact pick_lim hv9 (by omega) (by omega) | exact pick_lim2 hv9 hv15 (by omega) (by omega)
    · -- c11 False
      refine AC.skip ?_
      refine AC.seq ?_
      refine AC.region ?_
      refine AO.yld _ (Yld.move rfl) rfl rfl rfl ?_
      refine AO.yld _ (Yld.move rfl) rfl rfl rfl ?_
      refine AO.yld _ (Yld.rem rfl rfl (by omega)) rfl rfl rfl ?_
      refine AO.yld _ (Yld.assign rfl) rfl rfl rfl ?_
      refine AO.nil ?_
      refine FnE.ret (_, _, _) [0] [0] Try.results48 (RVs.cons (RV.tmp rfl) RVs.nil) rfl rfl rfl ?_ rfl ⟨⟨_, rfl, rfl⟩, trivial⟩
      · -- holds
        show 0 ≤ _ ∧ _ < _ ∧ _ ≤ _ ∧ _ ≤ _; first | exact pick_lim hv9 (by omega) (by omega) | exact pick_lim2 hv9 hv15 (by omega) (by omega)

theorem spec_l00From_c {code : List UInt8} :
    FnE (α := Unit) Try.prog 44 [.p (.sl 1 (code.map encB))] [] [] (fun _ => True) (fun _ => .h 0) (fun _ => [(0, .box 109 [.p (.sl 1 (code.map encB)), .p (.v (.int .i64 0)), .p (.v (.int .u64 0))])]) := by
  refine FnE.intro Try.func44 rfl Try.ntmps44 rfl rfl (fun w0 F0 η φ w => ?_)
  refine AC.seq ?_
  refine AC.region ?_
  refine AO.yld _ (Yld.assign rfl) rfl rfl rfl ?_
  refine AO.nil ?_
  refine AC.seq ?_
  refine AC.region ?_
  refine AO.yld _ (Yld.move rfl) rfl rfl rfl ?_
  refine AO.yld _ (Yld.buildA (zs := [.sl 0 [], .v (.int .i64 0), .v (.int .u64 0)]) bld109 rfl rfl) rfl rfl rfl ?_
  refine AO.box 0 rfl rfl rfl rfl rfl ?_
  refine AO.yld _ (Yld.assign rfl) rfl rfl rfl ?_
  refine AO.nil ?_
  refine FnE.ret () [0] [0] Try.results44 (RVs.cons (RV.tmp rfl) RVs.nil) rfl rfl rfl ?_ ?_ ⟨⟨_, rfl, ?_⟩, trivial⟩
  · -- holds
    trivial
  · -- value
    rfl
  · -- thing 0
    rfl

theorem spec_l25Draw_c {code : List UInt8} {p sd : Int} (h0 : 0 ≤ p) (h1 : p ≤ 1000000) :
    FnE (α := List NV × Int × Int) Try.prog 61 [.h 0] [(0, .box 109 [.p (.sl 1 (code.map encB)), .p (.v (.int .i64 p)), .p (.v (.int .u64 sd))])] [0] (fun ⟨ms, q, s⟩ => DrawnM ms) (fun ⟨ms, q, s⟩ => .h 1) (fun ⟨ms, q, s⟩ => [(0, .box 109 [.p (.sl 1 (code.map encB)), .p (.v (.int .i64 q)), .p (.v (.int .u64 s))]), (1, .vec 58 2 (ms.map encNV))]) := by
  refine FnE.intro Try.func61 rfl Try.ntmps61 rfl rfl (fun w0 F0 η φ w => ?_)
  refine AC.seq ?_
  refine AC.region ?_
  refine AO.yld _ (Yld.assign rfl) rfl rfl rfl ?_
  refine AO.nil ?_
  refine AC.seq ?_
  refine AC.region ?_
  refine AO.buildSlice (rows := [[_], [_], [_], [_], [_], [_]]) 1 Try.underlying59 ty9 rfl rfl rfl rfl rfl rfl rfl rfl rfl ?_
  refine AO.yld _ (Yld.assign rfl) rfl rfl rfl ?_
  refine AO.nil ?_
  refine AC.seq ?_
  refine AC.region ?_
  refine AO.yld _ (Yld.move rfl) rfl rfl rfl ?_
  refine AO.callW (wantedN rfl) [0] [0] [0] rfl rfl Try.call48 rfl (src_pick_c (by omega) (by omega) (by omega)) (.own rfl) rfl (fun ⟨_, _, _⟩ => rfl) ⟨rfl, trivial⟩ rfl (fun ⟨_, _, _⟩ => rfl) (fun ⟨_, _, _⟩ => rfl) (fun ⟨v9, q9, s9⟩ hv9 => ?_)
  dsimp only at hv9
  refine AO.yld _ (Yld.assign rfl) rfl rfl rfl ?_
  refine AO.nil ?_
  refine AC.seq ?_
  refine AC.region ?_
  refine AO.buildSlice (rows := []) 2 Try.underlying54 ty58 rfl rfl rfl rfl rfl rfl rfl rfl rfl ?_
  refine AO.yld _ (Yld.assign rfl) rfl rfl rfl ?_
  refine AO.nil ?_
  refine AC.seq ?_
  refine AC.seq ?_
  refine AC.region ?_
  refine AO.yld _ (Yld.assign rfl) rfl rfl rfl ?_
  refine AO.nil ?_
  refine AC.block ?_
  refine AC.loopC4 [(0, _), (2, _), (3, _), (4, _)] [(1, _), (900, _)] (fun (k : Nat) (ms : List NV) (q s : Int) => [(6, .p (.v (.int .i64 (k : Int)))), (5, .h 2)]) (fun (k : Nat) (ms : List NV) (q s : Int) => [(0, .box 109 [.p (.sl 1 (code.map encB)), .p (.v (.int .i64 q)), .p (.v (.int .u64 s))]), (2, .vec 58 2 (ms.map encNV))]) (fun (k : Nat) (ms : List NV) (q s : Int) => DrawnM ms ∧ ms.length = k ∧ (k : Int) ≤ v9 ∧ 0 ≤ q ∧ q ≤ p + 2 + 2 * k) (fun (k : Nat) (ms : List NV) (q s : Int) => v9.toNat - k) 0 [] q9 s9 ⟨rfl, rfl, rfl, rfl, trivial⟩ ⟨rfl, rfl, trivial⟩ ⟨rfl, rfl, trivial⟩ ⟨rfl, rfl, trivial⟩ ?_ (fun k ms q s hJ => ?_)
  · exact ⟨drawn_nil, rfl, by omega, by omega, by omega⟩
  · -- round
    refine AC.seq ?_
    refine AC.seq ?_
    refine AC.region ?_
    refine AO.yld _ (Yld.move rfl) rfl rfl rfl ?_
    refine AO.yld _ (Yld.move rfl) rfl rfl rfl ?_
    refine AO.yld _ (Yld.int rfl rfl rfl) rfl rfl rfl ?_
    refine AO.nil ?_
    refine AC.cond _ rfl (fun c13 => ?_) (fun c13 => ?_)
    · -- c13 True
      have hk : (k : Int) < v9 := by simpa using c13
      have hk6 : k < 6 := by omega
      have hrowN : ([[PV.v (.string ⟨#[97]⟩)], [PV.v (.string ⟨#[98]⟩)], [PV.v (.string ⟨#[99]⟩)], [PV.v (.string ⟨#[100]⟩)], [PV.v (.string ⟨#[101]⟩)], [PV.v (.string ⟨#[102]⟩)]] : List (List PV))[k]? = some [.v (str [UInt8.ofNat (97 + k)])] := lett_row hk6
      refine AC.skip ?_
      refine AC.seq ?_
      refine AC.block ?_
      apply AC.drawAnyC (α := { y : Int × Int × Int // 0 ≤ y.1 ∧ y.1 < 50 ∧ q ≤ y.2.1 ∧ y.2.1 ≤ q + 2 }) [(0, _), (2, _), (3, _), (4, _), (6, _), (11, _), (12, _), (13, _)] [(1, _), (900, _)] (fun y => [(5, .h 2)]) (fun y => [(0, .box 109 [.p (.sl 1 (code.map encB)), .p (.v (.int .i64 y.1.2.1)), .p (.v (.int .u64 y.1.2.2))]), (2, .vec 58 2 (ms.map encNV ++ [[.v (str [UInt8.ofNat (97 + k)]), .v (.int .i64 (1 + y.1.1))]]))]) (by kernel_rfl)
      · -- orders
        refine ANx.take 0 rfl (by kernel_rfl) (by kernel_rfl) (by kernel_rfl) rfl rfl rfl (YldA.move rfl) ?_
        refine ANx.take 1 rfl (by kernel_rfl) (by kernel_rfl) (by kernel_rfl) rfl rfl rfl (YldA.move rfl) ?_
        refine ANx.take 2 rfl (by kernel_rfl) (by kernel_rfl) (by kernel_rfl) rfl rfl rfl (YldA.move rfl) ?_
        refine ANx.take 3 rfl (by kernel_rfl) (by kernel_rfl) (by kernel_rfl) rfl rfl rfl (YldA.indexVec Try.underlying59 Try.sizeOf9 rfl rfl rfl rfl (by show k < 6; omega)) ?_
        refine ANx.take 5 rfl (by kernel_rfl) (by kernel_rfl) (by kernel_rfl) rfl rfl rfl (YldA.move rfl) ?_
        refine ANx.all (rs := [4, 6]) (by kernel_rfl) rfl ⟨?_, ?_, trivial⟩
        · -- 4
          refine Stpx.eff rfl rfl (Eff.yld (Yld.load Try.isAgg9 rfl (behind_el (rows := [[PV.v (.string ⟨#[97]⟩)], [PV.v (.string ⟨#[98]⟩)], [PV.v (.string ⟨#[99]⟩)], [PV.v (.string ⟨#[100]⟩)], [PV.v (.string ⟨#[101]⟩)], [PV.v (.string ⟨#[102]⟩)]]) rfl hrowN)) rfl rfl) ?_
          refine ANx.all (rs := [6]) (by kernel_rfl) rfl ⟨?_, trivial⟩
          refine Stpx.effX rfl rfl (EffX.callW [0] [0] [0] rfl rfl Try.call48 rfl (src_pick_c (by omega) (by omega) (by omega)) (.own rfl) rfl (fun ⟨_, _, _⟩ => rfl) ⟨rfl, trivial⟩ rfl (fun ⟨_, _, _⟩ => rfl) (fun ⟨_, _, _⟩ => rfl)) ?_
          rintro _ ⟨⟨v22, q22, s22⟩, hv22, rfl⟩
          dsimp only at hv22
          refine ANx.take 7 rfl (by kernel_rfl) (by kernel_rfl) (by kernel_rfl) rfl rfl rfl (YldA.add rfl rfl (by omega) (by omega)) ?_
          refine ANx.all (rs := [8]) (by kernel_rfl) rfl ⟨?_, trivial⟩
          refine Stpx.eff rfl rfl (Eff.yld (Yld.buildA (zs := [.v (str []), .v (.int .i64 0)]) bld58 rfl rfl) rfl rfl) ?_
          refine ANx.all (rs := [9]) (by kernel_rfl) rfl ⟨?_, trivial⟩
          refine Stpx.eff rfl rfl (Eff.buildSlice (rows := [[_, _]]) 3 Try.underlying54 ty58 rfl rfl rfl rfl rfl rfl rfl rfl rfl) ?_
          refine ANx.all (rs := [10]) (by kernel_rfl) rfl ⟨?_, trivial⟩
          refine Stpx.eff rfl rfl (Eff.append 2 Try.underlying54 ty58 rfl rfl rfl rfl rfl rfl rfl (by simp [pvOne, str]) (by simp only [List.length_map, List.length_cons, List.length_nil]; omega) (by simp only [List.length_map, List.length_cons, List.length_nil]; omega) rfl) ?_
          refine ANx.take 11 rfl (by kernel_rfl) (by kernel_rfl) (by kernel_rfl) rfl rfl rfl (YldA.assign rfl) ?_
          exact ANx.doneC ⟨(v22, q22, s22), hv22⟩ (by kernel_rfl) ⟨rfl, trivial⟩ ⟨rfl, rfl, trivial⟩ ⟨rfl, rfl, rfl, rfl, rfl, rfl, rfl, rfl, trivial⟩ ⟨rfl, rfl, trivial⟩
        · -- 6
          refine Stpx.effX rfl rfl (EffX.callW [0] [0] [0] rfl rfl Try.call48 rfl (src_pick_c (by omega) (by omega) (by omega)) (.own rfl) rfl (fun ⟨_, _, _⟩ => rfl) ⟨rfl, trivial⟩ rfl (fun ⟨_, _, _⟩ => rfl) (fun ⟨_, _, _⟩ => rfl)) ?_
          rintro _ ⟨⟨v22, q22, s22⟩, hv22, rfl⟩
          dsimp only at hv22
          refine ANx.take 7 rfl (by kernel_rfl) (by kernel_rfl) (by kernel_rfl) rfl rfl rfl (YldA.add rfl rfl (by omega) (by omega)) ?_
          refine ANx.all (rs := [4]) (by kernel_rfl) rfl ⟨?_, trivial⟩
          refine Stpx.eff rfl rfl (Eff.yld (Yld.load Try.isAgg9 rfl (behind_el (rows := [[PV.v (.string ⟨#[97]⟩)], [PV.v (.string ⟨#[98]⟩)], [PV.v (.string ⟨#[99]⟩)], [PV.v (.string ⟨#[100]⟩)], [PV.v (.string ⟨#[101]⟩)], [PV.v (.string ⟨#[102]⟩)]]) rfl hrowN)) rfl rfl) ?_
          refine ANx.all (rs := [8]) (by kernel_rfl) rfl ⟨?_, trivial⟩
          refine Stpx.eff rfl rfl (Eff.yld (Yld.buildA (zs := [.v (str []), .v (.int .i64 0)]) bld58 rfl rfl) rfl rfl) ?_
          refine ANx.all (rs := [9]) (by kernel_rfl) rfl ⟨?_, trivial⟩
          refine Stpx.eff rfl rfl (Eff.buildSlice (rows := [[_, _]]) 3 Try.underlying54 ty58 rfl rfl rfl rfl rfl rfl rfl rfl rfl) ?_
          refine ANx.all (rs := [10]) (by kernel_rfl) rfl ⟨?_, trivial⟩
          refine Stpx.eff rfl rfl (Eff.append 2 Try.underlying54 ty58 rfl rfl rfl rfl rfl rfl rfl (by simp [pvOne, str]) (by simp only [List.length_map, List.length_cons, List.length_nil]; omega) (by simp only [List.length_map, List.length_cons, List.length_nil]; omega) rfl) ?_
          refine ANx.take 11 rfl (by kernel_rfl) (by kernel_rfl) (by kernel_rfl) rfl rfl rfl (YldA.assign rfl) ?_
          exact ANx.doneC ⟨(v22, q22, s22), hv22⟩ (by kernel_rfl) ⟨rfl, trivial⟩ ⟨rfl, rfl, trivial⟩ ⟨rfl, rfl, rfl, rfl, rfl, rfl, rfl, rfl, trivial⟩ ⟨rfl, rfl, trivial⟩
      · -- behind
        rintro ⟨⟨v2, q2, s2⟩, hv2⟩
        dsimp only at hv2
        refine AC.mark ?_
        refine AC.region ?_
        refine AO.yld _ (Yld.move rfl) rfl rfl rfl ?_
        refine AO.yld _ (Yld.add rfl rfl (by omega) (by omega)) rfl rfl rfl ?_
        refine AO.yld _ (Yld.assign rfl) rfl rfl rfl ?_
        refine AO.nil ?_
        refine AC.back ⟨k + 1, ms ++ [⟨[UInt8.ofNat (97 + k)], 1 + v2⟩], q2, s2, ?_, ?_, ⟨?_, ?_, trivial⟩, ⟨?_, ?_, trivial⟩, ⟨rfl, rfl, rfl, rfl, trivial⟩, ⟨rfl, rfl, trivial⟩⟩
        · exact ⟨drawn_add hJ.1 hJ.2.1 (by omega) (by omega) (by omega), by simp [hJ.2.1], by omega, by omega, by omega⟩
        · omega
        · rfl
        · rfl
        · rfl
        · rw [map_snoc]; rfl
    · -- c13 False
      refine AC.exit rfl ?_
      refine AC.seq ?_
      refine AC.region ?_
      refine AO.yld _ (Yld.move rfl) rfl rfl rfl ?_
      refine AO.yld _ (Yld.assign rfl) rfl rfl rfl ?_
      refine AO.nil ?_
      refine FnE.ret (_, _, _) [0, 2] [0, 1] Try.results61 (RVs.cons (RV.tmp rfl) RVs.nil) rfl rfl rfl ?_ rfl ⟨⟨_, rfl, rfl⟩, ⟨_, rfl, rfl⟩, trivial⟩
      · -- holds
        exact hJ.1

theorem spec_R8Media_c {code : List UInt8} :
    FnE (α := List NV) Try.prog 28 [.p (.sl 1 (code.map encB))] [] [] (fun ms => DrawnM ms) (fun ms => .h 0) (fun ms => [(0, .vec 58 2 (ms.map encNV))]) := by
  refine FnE.intro Try.func28 rfl Try.ntmps28 rfl rfl (fun w0 F0 η φ w => ?_)
  refine AC.seq ?_
  refine AC.region ?_
  refine AO.yld _ (Yld.assign rfl) rfl rfl rfl ?_
  refine AO.nil ?_
  refine AC.seq ?_
  refine AC.region ?_
  refine AO.yld _ (Yld.move rfl) rfl rfl rfl ?_
  refine AO.callW (wantedN rfl) [0] [] [0] rfl rfl Try.call44 rfl (spec_l00From_c) (.own rfl) rfl (fun _ => rfl) trivial rfl (fun _ => rfl) (fun _ => rfl) (fun _ _ => ?_)
  refine AO.yld _ (Yld.assign rfl) rfl rfl rfl ?_
  refine AO.nil ?_
  refine AC.seq ?_
  refine AC.region ?_
  refine AO.yld _ (Yld.move rfl) rfl rfl rfl ?_
  refine AO.callW (wantedN rfl) [0, 1] [0] [0, 1] rfl rfl Try.call61 rfl (spec_l25Draw_c (by omega) (by omega)) (.own rfl) rfl (fun ⟨_, _, _⟩ => rfl) ⟨rfl, trivial⟩ rfl (fun ⟨_, _, _⟩ => rfl) (fun ⟨_, _, _⟩ => rfl) (fun ⟨ms7, q7, s7⟩ hms7 => ?_)
  dsimp only at hms7
  refine AO.yld _ (Yld.assign rfl) rfl rfl rfl ?_
  refine AO.nil ?_
  refine FnE.ret _ [1] [0] Try.results28 (RVs.cons (RV.tmp rfl) RVs.nil) rfl rfl rfl ?_ rfl ⟨⟨_, rfl, rfl⟩, trivial⟩
  · -- holds
    assumption

theorem laws_r8Long_c {code more : List UInt8} :
    Pure Try.prog 27 [.sl 1 (code.map encB), .sl 1 (more.map encB)] (.v (.bool (decide ((code.length : Int) > 1048576) || decide ((more.length : Int) > 1048576)))) := by
  refine Pure.intro Try.func27 rfl Try.ntmps27 rfl rfl (fun w => ?_)
  refine AC.seq ?_
  refine AC.region ?_
  refine AO.yld _ (Yld.assign rfl) rfl rfl rfl ?_
  refine AO.nil ?_
  refine AC.seq ?_
  refine AC.region ?_
  refine AO.yld _ (Yld.move rfl) rfl rfl rfl ?_
  refine AO.yld _ (Yld.len Try.underlying30 rfl rfl) rfl rfl rfl ?_
  refine AO.yld _ (Yld.int rfl rfl rfl) rfl rfl rfl ?_
  refine AO.yld _ (Yld.move rfl) rfl rfl rfl ?_
  refine AO.splitAt 8 _ rfl (fun s8 => ?_) (fun s8 => ?_)
  · -- s8 True
    refine AO.skipF rfl rfl rfl rfl rfl ?_
    refine AO.skipF rfl rfl rfl rfl rfl ?_
    refine AO.skipF rfl rfl rfl rfl rfl ?_
    refine AO.yld _ (Yld.pickT rfl rfl) rfl rfl rfl ?_
    refine AO.yld _ (Yld.assign rfl) rfl rfl rfl ?_
    refine AO.nil ?_
    refine Pure.ret Try.results27 (RVs.cons (RV.tmp rfl) RVs.nil) rfl ?_
    refine cb ?_; simp only [List.length_map] at *; first | (simp_all; done) | grind
  · -- s8 False
    refine AO.yldG _ (Yld.move rfl) rfl rfl rfl rfl rfl ?_
    refine AO.yldG _ (Yld.len Try.underlying30 rfl rfl) rfl rfl rfl rfl rfl ?_
    refine AO.yldG _ (Yld.int rfl rfl rfl) rfl rfl rfl rfl rfl ?_
    refine AO.yld _ (Yld.pickF rfl rfl) rfl rfl rfl ?_
    refine AO.yld _ (Yld.assign rfl) rfl rfl rfl ?_
    refine AO.nil ?_
    refine Pure.ret Try.results27 (RVs.cons (RV.tmp rfl) RVs.nil) rfl ?_
    refine cb ?_; simp only [List.length_map] at *; first | (simp_all; done) | grind

theorem laws_r8At_c {l : List UInt8} {k n : Int} (h0 : 0 ≤ k) :
    Pure Try.prog 29 [.sl 1 (l.map encB), .v (.int .i64 k), .v (.int .i64 n)] (.v (.int .i64 (r8At l k n))) := by
  have hM : (l.map encB).length = l.length := List.length_map ..
  refine Pure.intro Try.func29 rfl Try.ntmps29 rfl rfl (fun w => ?_)
  refine AC.seq ?_
  refine AC.region ?_
  refine AO.yld _ (Yld.assign rfl) rfl rfl rfl ?_
  refine AO.nil ?_
  refine AC.seq ?_
  refine AC.seq ?_
  refine AC.region ?_
  refine AO.yld _ (Yld.move rfl) rfl rfl rfl ?_
  refine AO.yld _ (Yld.int rfl rfl rfl) rfl rfl rfl ?_
  refine AO.yld _ (Yld.move rfl) rfl rfl rfl ?_
  refine AO.splitAt 9 _ rfl (fun s9 => ?_) (fun s9 => ?_)
  · -- s9 True
    refine AO.skipF rfl rfl rfl rfl rfl ?_
    refine AO.skipF rfl rfl rfl rfl rfl ?_
    refine AO.skipF rfl rfl rfl rfl rfl ?_
    refine AO.skipF rfl rfl rfl rfl rfl ?_
    refine AO.yld _ (Yld.pickT rfl rfl) rfl rfl rfl ?_
    refine AO.nil ?_
    refine AC.condT rfl ?_
    refine AC.seq ?_
    refine AC.region ?_
    refine AO.yld _ (Yld.assign rfl) rfl rfl rfl ?_
    refine AO.nil ?_
    refine Pure.ret Try.results29 (RVs.cons (RV.tmp rfl) RVs.nil) rfl ?_
    first | exact ci (r8At_hit hn1 hk hc).symm | exact ci (r8At_no (.inl (by simpa using s9))).symm | exact ci (r8At_no (.inr (by have h := c14; rw [hM] at h; simpa using h))).symm
  · -- s9 False
    refine AO.yldG _ (Yld.move rfl) rfl rfl rfl rfl rfl ?_
    refine AO.yldG _ (Yld.move rfl) rfl rfl rfl rfl rfl ?_
    refine AO.yldG _ (Yld.len Try.underlying30 rfl rfl) rfl rfl rfl rfl rfl ?_
    refine AO.yldG _ (Yld.int rfl rfl rfl) rfl rfl rfl rfl rfl ?_
    refine AO.yld _ (Yld.pickF rfl rfl) rfl rfl rfl ?_
    refine AO.nil ?_
    refine AC.cond _ rfl (fun c14 => ?_) (fun c14 => ?_)
    · -- c14 True
      refine AC.seq ?_
      refine AC.region ?_
      refine AO.yld _ (Yld.assign rfl) rfl rfl rfl ?_
      refine AO.nil ?_
      refine Pure.ret Try.results29 (RVs.cons (RV.tmp rfl) RVs.nil) rfl ?_
      first | exact ci (r8At_hit hn1 hk hc).symm | exact ci (r8At_no (.inl (by simpa using s9))).symm | exact ci (r8At_no (.inr (by have h := c14; rw [hM] at h; simpa using h))).symm
    · -- c14 False
      have hn1 : ¬ n ≤ 1 := by simpa using s9
      have hk : k < l.length := by have h := c14; rw [hM] at h; simp at h; omega
      obtain ⟨c, hc⟩ := get_some (xs := l) (k := k.toNat) (by omega)
      have hrow := map_row (enc := encB) hc
      refine AC.skip ?_
      refine AC.seq ?_
      refine AC.region ?_
      refine AO.yld _ (Yld.move rfl) rfl rfl rfl ?_
      refine AO.yld _ (Yld.move rfl) rfl rfl rfl ?_
      refine AO.yld _ (Yld.indexSl Try.underlying30 Try.sizeOf5 rfl rfl hrow (by omega)) rfl rfl rfl ?_
      refine AO.yld _ (Yld.load Try.isAgg5 rfl rfl) rfl rfl rfl ?_
      refine AO.yld _ (Yld.convInt Try.underlying5 Try.underlying2 rfl) rfl rfl rfl ?_
      refine AO.yld _ (Yld.move rfl) rfl rfl rfl ?_
      refine AO.yld _ (Yld.rem rfl rfl (by omega)) rfl rfl rfl ?_
      refine AO.yld _ (Yld.assign rfl) rfl rfl rfl ?_
      refine AO.nil ?_
      refine Pure.ret Try.results29 (RVs.cons (RV.tmp rfl) RVs.nil) rfl ?_
      first | exact ci (r8At_hit hn1 hk hc).symm | exact ci (r8At_no (.inl (by simpa using s9))).symm | exact ci (r8At_no (.inr (by have h := c14; rw [hM] at h; simpa using h))).symm

theorem laws_r8HasText_c {xs : List (List UInt8)} {n : List UInt8} (hn : xs.length ≤ 1048576) :
    Pure Try.prog 30 [.sl 1 (xs.map Go.V.encS), .v (str n)] (.v (.bool (xs.any (fun y => decide (y = n))))) := by
  have hM : (xs.map Go.V.encS).length = xs.length := List.length_map ..
  refine Pure.intro Try.func30 rfl Try.ntmps30 rfl rfl (fun w => ?_)
  refine AC.seq ?_
  refine AC.region ?_
  refine AO.yld _ (Yld.assign rfl) rfl rfl rfl ?_
  refine AO.nil ?_
  refine AC.seq ?_
  refine AC.seq ?_
  refine AC.region ?_
  refine AO.yld _ (Yld.assign rfl) rfl rfl rfl ?_
  refine AO.nil ?_
  refine AC.block ?_
  refine AC.loopC [(0, _), (1, _)] [] (fun (k : Nat) => [(5, .p (.v (.int .i64 (k : Int))))]) (fun (k : Nat) => []) (fun (k : Nat) => k ≤ xs.length ∧ anyTo (fun y => decide (y = n)) xs k = false) (fun (k : Nat) => xs.length - k) 0 ⟨rfl, rfl, trivial⟩ trivial ⟨rfl, trivial⟩ trivial ?_ (fun k hJ => ?_)
  · exact ⟨Nat.zero_le _, rfl⟩
  · -- round
    refine AC.seq ?_
    refine AC.seq ?_
    refine AC.region ?_
    refine AO.yld _ (Yld.move rfl) rfl rfl rfl ?_
    refine AO.yld _ (Yld.move rfl) rfl rfl rfl ?_
    refine AO.yld _ (Yld.len Try.underlying59 rfl rfl) rfl rfl rfl ?_
    refine AO.yld _ (Yld.int rfl rfl rfl) rfl rfl rfl ?_
    refine AO.nil ?_
    refine AC.cond _ rfl (fun c9 => ?_) (fun c9 => ?_)
    · -- c9 True
      have hk : k < xs.length := by have h := c9; rw [hM] at h; simpa using h
      obtain ⟨x, hx⟩ := get_some hk
      have hrow := map_row (enc := Go.V.encS) hx
      refine AC.skip ?_
      refine AC.seq ?_
      refine AC.block ?_
      refine AC.seq ?_
      refine AC.region ?_
      refine AO.yld _ (Yld.move rfl) rfl rfl rfl ?_
      refine AO.yld _ (Yld.move rfl) rfl rfl rfl ?_
      refine AO.yld _ (Yld.indexSl Try.underlying59 Try.sizeOf9 rfl rfl hrow rfl) rfl rfl rfl ?_
      refine AO.yld _ (Yld.load Try.isAgg9 rfl rfl) rfl rfl rfl ?_
      refine AO.yld _ (Yld.move rfl) rfl rfl rfl ?_
      refine AO.yld _ (Yld.cmpStr rfl rfl rfl) rfl rfl rfl ?_
      refine AO.nil ?_
      refine AC.cond _ rfl (fun c17 => ?_) (fun c17 => ?_)
      · -- c17 True
        refine AC.seq ?_
        refine AC.region ?_
        refine AO.yld _ (Yld.assign rfl) rfl rfl rfl ?_
        refine AO.nil ?_
        refine Pure.ret Try.results30 (RVs.cons (RV.tmp rfl) RVs.nil) rfl ?_
        first | (refine cb ?_; rw [hany]; done) | (refine cb ?_; rw [hany]; rfl) | (refine cb ?_; rw [any_hit hx (by simpa using c17)])
      · -- c17 False
        refine AC.skip ?_
        refine AC.mark ?_
        refine AC.region ?_
        refine AO.yld _ (Yld.move rfl) rfl rfl rfl ?_
        refine AO.yld _ (Yld.add rfl rfl (by omega) (by omega)) rfl rfl rfl ?_
        refine AO.yld _ (Yld.assign rfl) rfl rfl rfl ?_
        refine AO.nil ?_
        refine AC.back ⟨k + 1, ?_, ?_, ⟨?_, trivial⟩, trivial, ⟨rfl, rfl, trivial⟩, trivial⟩
        · exact ⟨hk, by rw [anyTo_succ hx, hJ.2]; simpa using c17⟩
        · omega
        · rfl
    · -- c9 False
      obtain rfl : k = xs.length := by have h := c9; rw [hM] at h; simp at h; omega
      have hany := hJ.2
      rw [anyTo_all] at hany
      refine AC.exit rfl ?_
      refine AC.seq ?_
      refine AC.region ?_
      refine AO.yld _ (Yld.assign rfl) rfl rfl rfl ?_
      refine AO.nil ?_
      refine Pure.ret Try.results30 (RVs.cons (RV.tmp rfl) RVs.nil) rfl ?_
      first | (refine cb ?_; rw [hany]; done) | (refine cb ?_; rw [hany]; rfl) | (refine cb ?_; rw [any_hit hx (by simpa using c17)])

set_option maxHeartbeats 8000000 in
theorem laws_FnCaches_c {code more : List UInt8} :
    Pure Try.prog 7 [.sl 1 (code.map encB), .sl 1 (more.map encB)] (.v (.bool true)) := by
  refine Pure.intro Try.func7 rfl Try.ntmps7 rfl rfl (fun w => ?_)
  refine AC.seq ?_
  refine AC.region ?_
  refine AO.yld _ (Yld.assign rfl) rfl rfl rfl ?_
  refine AO.nil ?_
  refine AC.seq ?_
  refine AC.seq ?_
  refine AC.region ?_
  refine AO.yld _ (Yld.move rfl) rfl rfl rfl ?_
  refine AO.yld _ (Yld.move rfl) rfl rfl rfl ?_
  refine AO.yld _ (Yld.call rfl rfl Try.call27 rfl rfl rfl (laws_r8Long_c) rfl) rfl rfl rfl ?_
  refine AO.nil ?_
  refine AC.cond _ rfl (fun c25 => ?_) (fun c25 => ?_)
  · -- c25 True
    refine AC.seq ?_
    refine AC.region ?_
    refine AO.yld _ (Yld.assign rfl) rfl rfl rfl ?_
    refine AO.nil ?_
    refine Pure.ret Try.results7 (RVs.cons (RV.tmp rfl) RVs.nil) rfl ?_
    first | rfl | (refine cb ?_; have h0 : (decide (r8At more 0 2 = 0)) = true := (by have h1 := r8At_lim (l := more) (k := 0) (n := 2) (by omega); have h2 := s186; simp only [beq_eq_false_iff_ne, ne_eq] at h2; rw [decide_eq_true_eq]; omega); have h6 := unit_best hcl (hfu h0) ((bn : Int) + 1); symm; rw [beq_iff_eq]; omega)
  · -- c25 False
    refine AC.skip ?_
    refine AC.seq ?_
    refine AC.region ?_
    refine AO.yld _ (Yld.move rfl) rfl rfl rfl ?_
    refine AO.callW (wantedN rfl) [0] [] [0] rfl rfl Try.call28 rfl (spec_R8Media_c) (.own rfl) rfl (fun _ => rfl) trivial rfl (fun _ => rfl) (fun _ => rfl) (fun ms27 hms27 => ?_)
    have hM27 : ∀ k, ((setK ms27 (decide (r8At more 0 2 = 0)) k).map encNV).length = ms27.length := fun k => by rw [List.length_map, setK_len]
    have hml6 := hms27.1
    refine AO.yld _ (Yld.assign rfl) rfl rfl rfl ?_
    refine AO.nil ?_
    refine AC.seq ?_
    refine AC.seq ?_
    refine AC.region ?_
    refine AO.yld _ (Yld.assign rfl) rfl rfl rfl ?_
    refine AO.nil ?_
    refine AC.block ?_
    refine AC.loopC [(1, _), (4, _), (5, _)] [] (fun (k : Nat) => [(6, .p (.v (.int .i64 (k : Int)))), (5, .h 0)]) (fun (k : Nat) => [(0, .vec 58 2 ((setK ms27 (decide (r8At more 0 2 = 0)) k).map encNV))]) (fun (k : Nat) => k ≤ ms27.length) (fun (k : Nat) => ms27.length - k) 0 ⟨rfl, rfl, rfl, trivial⟩ trivial ⟨rfl, rfl, trivial⟩ ⟨by rw [setK_zero]; rfl, trivial⟩ ?_ (fun k hJ => ?_)
    · exact Nat.zero_le _
    · -- round
      refine AC.seq ?_
      refine AC.seq ?_
      refine AC.region ?_
      refine AO.yld _ (Yld.move rfl) rfl rfl rfl ?_
      refine AO.yld _ (Yld.move rfl) rfl rfl rfl ?_
      refine AO.yld _ (Yld.len Try.underlying54 rfl rfl) rfl rfl rfl ?_
      refine AO.yld _ (Yld.int rfl rfl rfl) rfl rfl rfl ?_
      refine AO.nil ?_
      refine AC.cond _ rfl (fun c31 => ?_) (fun c31 => ?_)
      · -- c31 True
        have hk : k < ms27.length := by have h := c31; rw [hM27] at h; simpa using h
        obtain ⟨x, hx⟩ := get_some hk
        have hrow := map_row (enc := encNV) ((setK_get (ms := ms27) (b := (decide (r8At more 0 2 = 0))) hk).trans hx)
        refine AC.skip ?_
        refine AC.seq ?_
        refine AC.block ?_
        refine AC.seq ?_
        refine AC.region ?_
        refine AO.yld _ (Yld.move rfl) rfl rfl rfl ?_
        refine AO.yld _ (Yld.call rfl rfl Try.call29 rfl rfl rfl (laws_r8At_c (by omega)) rfl) rfl rfl rfl ?_
        refine AO.yld _ (Yld.int rfl rfl rfl) rfl rfl rfl ?_
        refine AO.nil ?_
        refine AC.cond _ rfl (fun c36 => ?_) (fun c36 => ?_)
        · -- c36 True
          have hb : (decide (r8At more 0 2 = 0)) = true := by simpa using c36
          refine AC.region ?_
          refine AO.yld _ (Yld.move rfl) rfl rfl rfl ?_
          refine AO.yld _ (Yld.move rfl) rfl rfl rfl ?_
          refine AO.yld _ (Yld.indexVec Try.underlying54 Try.sizeOf58 rfl rfl rfl rfl (by rw [hM27]; exact hk)) rfl rfl rfl ?_
          refine AO.yld _ (Yld.fieldAddr Try.underlying58 rfl rfl Try.sizeOf2 rfl (behind_el rfl hrow) rfl) rfl rfl rfl ?_
          refine AO.store Try.sizeOf2 rfl rfl rfl rfl rfl (store_el rfl hrow rfl rfl) ?_
          refine AO.nil ?_
          refine AC.mark ?_
          refine AC.region ?_
          refine AO.yld _ (Yld.move rfl) rfl rfl rfl ?_
          refine AO.yld _ (Yld.add rfl rfl (by omega) (by omega)) rfl rfl rfl ?_
          refine AO.yld _ (Yld.assign rfl) rfl rfl rfl ?_
          refine AO.nil ?_
          refine AC.back ⟨k + 1, ?_, ?_, ⟨?_, ?_, trivial⟩, ⟨?_, trivial⟩, ⟨rfl, rfl, rfl, trivial⟩, trivial⟩
          · exact hk
          · omega
          · rfl
          · rfl
          · first | exact congrArg some (vecE (setK_T hb hx)) | exact congrArg some (vecE (congrArg (List.map encNV) (setK_F hb))) | (rw [← setK_T hb hx]; rfl) | (rw [← setK_F hb]; rfl)
        · -- c36 False
          have hb : (decide (r8At more 0 2 = 0)) = false := by simpa using c36
          refine AC.skip ?_
          refine AC.mark ?_
          refine AC.region ?_
          refine AO.yld _ (Yld.move rfl) rfl rfl rfl ?_
          refine AO.yld _ (Yld.add rfl rfl (by omega) (by omega)) rfl rfl rfl ?_
          refine AO.yld _ (Yld.assign rfl) rfl rfl rfl ?_
          refine AO.nil ?_
          refine AC.back ⟨k + 1, ?_, ?_, ⟨?_, ?_, trivial⟩, ⟨?_, trivial⟩, ⟨rfl, rfl, rfl, trivial⟩, trivial⟩
          · exact hk
          · omega
          · rfl
          · rfl
          · first | exact congrArg some (vecE (setK_T hb hx)) | exact congrArg some (vecE (congrArg (List.map encNV) (setK_F hb))) | (rw [← setK_T hb hx]; rfl) | (rw [← setK_F hb]; rfl)
      · -- c31 False
        obtain rfl : k = ms27.length := by have h := c31; rw [hM27] at h; simp at h; omega
        have hdr := setK_drawn (b := (decide (r8At more 0 2 = 0))) hms27
        have hfv := setK_five (ms := ms27) (b := (decide (r8At more 0 2 = 0)))
        generalize setK ms27 (decide (r8At more 0 2 = 0)) ms27.length = ml at *
        have hml := hdr.1
        have hnm := drawn_names hdr
        have hnl : ml.length ≤ 1048576 := by omega
        refine AC.exit rfl ?_
        refine AC.seq ?_
        refine AC.region ?_
        refine AO.buildSlice (rows := []) 1 Try.underlying59 ty9 rfl rfl rfl rfl rfl rfl rfl rfl rfl ?_
        refine AO.yld _ (Yld.assign rfl) rfl rfl rfl ?_
        refine AO.nil ?_
        refine AC.seq ?_
        refine AC.region ?_
        refine AO.buildSlice (rows := []) 2 Try.underlying59 ty9 rfl rfl rfl rfl rfl rfl rfl rfl rfl ?_
        refine AO.yld _ (Yld.assign rfl) rfl rfl rfl ?_
        refine AO.nil ?_
        refine AC.seq ?_
        refine AC.seq ?_
        refine AC.region ?_
        refine AO.yld _ (Yld.assign rfl) rfl rfl rfl ?_
        refine AO.nil ?_
        refine AC.block ?_
        refine AC.loopC [(1, _), (4, _), (5, _)] [(0, _)] (fun (k : Nat) => [(9, .p (.v (.int .i64 (k : Int)))), (7, .h 1), (8, .h 2)]) (fun (k : Nat) => [(1, .vec 9 1 ((usesK ml more k).map Go.V.encS)), (2, .vec 9 1 ((seenOf (usesK ml more k)).map Go.V.encS))]) (fun (k : Nat) => k ≤ 20 ∧ (k = 0 ∨ 0 < ml.length)) (fun (k : Nat) => 20 - k) 0 ⟨rfl, rfl, rfl, trivial⟩ ⟨rfl, trivial⟩ ⟨rfl, rfl, rfl, trivial⟩ ⟨rfl, rfl, trivial⟩ ?_ (fun k hI => ?_)
        · exact ⟨by omega, .inl rfl⟩
        · -- round
          refine AC.seq ?_
          refine AC.seq ?_
          refine AC.region ?_
          refine AO.yld _ (Yld.move rfl) rfl rfl rfl ?_
          refine AO.yld _ (Yld.int rfl rfl rfl) rfl rfl rfl ?_
          refine AO.yld _ (Yld.move rfl) rfl rfl rfl ?_
          refine AO.splitAt 45 _ rfl (fun s45 => ?_) (fun s45 => ?_)
          · -- s45 True
            refine AO.yldG _ (Yld.move rfl) rfl rfl rfl rfl rfl ?_
            refine AO.yldG _ (Yld.len Try.underlying54 rfl rfl) rfl rfl rfl rfl rfl ?_
            refine AO.yldG _ (Yld.int rfl rfl rfl) rfl rfl rfl rfl rfl ?_
            refine AO.yld _ (Yld.pickT rfl rfl) rfl rfl rfl ?_
            refine AO.nil ?_
            refine AC.cond _ rfl (fun c49 => ?_) (fun c49 => ?_)
            · -- c49 True
              have hk : k < 20 := by have h := s45; simp at h; omega
              have hpos : 0 < ml.length := by have h := c49; rw [List.length_map] at h; simp at h; simpa using h
              have hrl := r8At_lim (l := more) (k := 2 + (k : Int)) (n := (ml.length : Int)) (by omega)
              obtain ⟨jn, hjn⟩ := Int.eq_ofNat_of_zero_le hrl.1
              have hjl : jn < ml.length := by omega
              obtain ⟨xj, hxj⟩ := get_some hjl
              have hrowJ := map_row (enc := encNV) hxj
              have hsl := (seenOf_facts (usesK ml more k)).2.2
              rw [usesK_len] at hsl
              have hul := usesK_len (ml := ml) (more := more) (k := k)
              refine AC.skip ?_
              refine AC.seq ?_
              refine AC.block ?_
              refine AC.seq ?_
              refine AC.region ?_
              refine AO.yld _ (Yld.move rfl) rfl rfl rfl ?_
              refine AO.yld _ (Yld.move rfl) rfl rfl rfl ?_
              refine AO.yld _ (Yld.move rfl) rfl rfl rfl ?_
              refine AO.yld _ (Yld.add rfl rfl (by omega) (by omega)) rfl rfl rfl ?_
              refine AO.yld _ (Yld.move rfl) rfl rfl rfl ?_
              refine AO.yld _ (Yld.len Try.underlying54 rfl rfl) rfl rfl rfl ?_
              refine AO.yld _ (Yld.call rfl rfl Try.call29 rfl rfl rfl (laws_r8At_c (by omega)) rfl) rfl rfl rfl ?_
              refine AO.yld _ (Yld.indexVec Try.underlying54 Try.sizeOf58 rfl rfl rfl (show _ = ((jn : Nat) : Int) by rw [List.length_map]; exact hjn) (by rw [List.length_map]; exact hjl)) rfl rfl rfl ?_
              refine AO.yld _ (Yld.fieldAddr Try.underlying58 rfl rfl Try.sizeOf9 rfl (behind_el rfl hrowJ) rfl) rfl rfl rfl ?_
              refine AO.yld _ (Yld.load Try.isAgg9 rfl (Eq.trans (behind_el rfl hrowJ) rfl)) rfl rfl rfl ?_
              refine AO.yld _ (Yld.assign rfl) rfl rfl rfl ?_
              refine AO.nil ?_
              refine AC.seq ?_
              refine AC.region ?_
              refine AO.yld _ (Yld.move rfl) rfl rfl rfl ?_
              refine AO.yld _ (Yld.move rfl) rfl rfl rfl ?_
              refine AO.buildSlice (rows := [[_]]) 3 Try.underlying59 ty9 rfl rfl rfl rfl rfl rfl rfl rfl rfl ?_
              refine AO.append 1 Try.underlying59 ty9 rfl rfl rfl rfl rfl rfl rfl (by simp [pvOne, str]) (by simp only [List.length_map, List.length_cons, List.length_nil, List.length_append]; omega) (by simp only [List.length_map, List.length_cons, List.length_nil, List.length_append]; omega) rfl ?_
              refine AO.yld _ (Yld.assign rfl) rfl rfl rfl ?_
              refine AO.nil ?_
              refine AC.seq ?_
              refine AC.region ?_
              refine AO.yld _ (Yld.move rfl) rfl rfl rfl ?_
              refine AO.yld _ (Yld.move rfl) rfl rfl rfl ?_
              refine AO.yld _ (Yld.call rfl rfl Try.call30 rfl rfl rfl (laws_r8HasText_c (by omega)) rfl) rfl rfl rfl ?_
              refine AO.yld _ (Yld.not rfl) rfl rfl rfl ?_
              refine AO.nil ?_
              refine AC.cond _ rfl (fun c69 => ?_) (fun c69 => ?_)
              · -- c69 True
                have hsn : seenOf (usesK ml more (k + 1)) = seenOf (usesK ml more k) ++ [xj.name] := by rw [usesK_succ hjn hxj, seenOf_snoc, if_neg (fun e => by have h9 := c69; rw [show (seenOf (usesK ml more k)).any (fun y => decide (y = xj.name)) = true from List.any_eq_true.2 ⟨_, e, by simp⟩] at h9; cases h9)]
                refine AC.region ?_
                refine AO.yld _ (Yld.move rfl) rfl rfl rfl ?_
                refine AO.yld _ (Yld.move rfl) rfl rfl rfl ?_
                refine AO.buildSlice (rows := [[_]]) 4 Try.underlying59 ty9 rfl rfl rfl rfl rfl rfl rfl rfl rfl ?_
                refine AO.append 2 Try.underlying59 ty9 rfl rfl rfl rfl rfl rfl rfl (by simp [pvOne, str]) (by simp only [List.length_map, List.length_cons, List.length_nil, List.length_append]; omega) (by simp only [List.length_map, List.length_cons, List.length_nil, List.length_append]; omega) rfl ?_
                refine AO.yld _ (Yld.assign rfl) rfl rfl rfl ?_
                refine AO.nil ?_
                refine AC.mark ?_
                refine AC.region ?_
                refine AO.yld _ (Yld.move rfl) rfl rfl rfl ?_
                refine AO.yld _ (Yld.add rfl rfl (by omega) (by omega)) rfl rfl rfl ?_
                refine AO.yld _ (Yld.assign rfl) rfl rfl rfl ?_
                refine AO.nil ?_
                refine AC.back ⟨k + 1, ?_, ?_, ⟨?_, ?_, ?_, trivial⟩, ⟨?_, ?_, trivial⟩, ⟨rfl, rfl, rfl, trivial⟩, ⟨rfl, trivial⟩⟩
                · exact ⟨by omega, .inr hpos⟩
                · omega
                · rfl
                · rfl
                · rfl
                · first | rfl | (rw [usesK_succ hjn hxj, map_snoc]; rfl)
                · first | (rw [hsn]; rfl) | (rw [hsn, map_snoc]; rfl)
              · -- c69 False
                have hsn : seenOf (usesK ml more (k + 1)) = seenOf (usesK ml more k) := by rw [usesK_succ hjn hxj, seenOf_snoc, if_pos (by have h9 := c69; simp only [Bool.not_eq_false'] at h9; obtain ⟨z, hz, hz2⟩ := List.any_eq_true.1 h9; rw [decide_eq_true_eq] at hz2; exact hz2 ▸ hz)]
                refine AC.skip ?_
                refine AC.mark ?_
                refine AC.region ?_
                refine AO.yld _ (Yld.move rfl) rfl rfl rfl ?_
                refine AO.yld _ (Yld.add rfl rfl (by omega) (by omega)) rfl rfl rfl ?_
                refine AO.yld _ (Yld.assign rfl) rfl rfl rfl ?_
                refine AO.nil ?_
                refine AC.back ⟨k + 1, ?_, ?_, ⟨?_, ?_, ?_, trivial⟩, ⟨?_, ?_, trivial⟩, ⟨rfl, rfl, rfl, trivial⟩, ⟨rfl, trivial⟩⟩
                · exact ⟨by omega, .inr hpos⟩
                · omega
                · rfl
                · rfl
                · rfl
                · first | rfl | (rw [usesK_succ hjn hxj, map_snoc]; rfl)
                · first | (rw [hsn]; rfl) | (rw [hsn, map_snoc]; rfl)
            · -- c49 False
              have hcap := r8At_lim (l := more) (k := 1) (n := 40) (by omega)
              have hcl : CacheL ml (usesK ml more k) (1 + r8At more 1 40) := cacheL_of hdr (by omega) hI.1 hI.2
              have hcp : 1 + r8At more 1 40 ≤ 1600000 := by omega
              have hsl9 := (seenOf_facts (usesK ml more k)).2.2
              have hul9 : (usesK ml more k).length ≤ 20 := hcl.len
              have hfu : (decide (r8At more 0 2 = 0)) = true → ∀ y ∈ usesK ml more k, lookup ml y = 5 := fun hb => usesK_five (hfv hb) hI.2
              generalize usesK ml more k = us at *
              refine AC.exit rfl ?_
              refine AC.seq ?_
              refine AC.region ?_
              refine AO.yld _ (Yld.move rfl) rfl rfl rfl ?_
              refine AO.yld _ (Yld.call rfl rfl Try.call29 rfl rfl rfl (laws_r8At_c (by omega)) rfl) rfl rfl rfl ?_
              refine AO.yld _ (Yld.add rfl rfl (by omega) (by omega)) rfl rfl rfl ?_
              refine AO.yld _ (Yld.assign rfl) rfl rfl rfl ?_
              refine AO.nil ?_
              refine AC.seq ?_
              refine AC.region ?_
              refine AO.buildSlice (rows := []) 3 Try.underlying42 ty2 rfl rfl rfl rfl rfl rfl rfl rfl rfl ?_
              refine AO.yld _ (Yld.assign rfl) rfl rfl rfl ?_
              refine AO.nil ?_
              refine AC.seq ?_
              refine AC.seq ?_
              refine AC.region ?_
              refine AO.yld _ (Yld.assign rfl) rfl rfl rfl ?_
              refine AO.nil ?_
              refine AC.block ?_
              refine AC.loopC [(1, _), (5, _), (7, _), (8, _), (11, _)] [(0, _), (1, _), (2, _)] (fun (k : Nat) => [(13, .p (.v (.int .i64 ((k : Int) + 1)))), (12, .h 3)]) (fun (k : Nat) => [(3, .vec 2 1 ((missL (missF ml us (1 + r8At more 1 40)) k).map Go.V.encI))]) (fun (k : Nat) => k ≤ 3) (fun (k : Nat) => 3 - k) 0 ⟨rfl, rfl, rfl, rfl, rfl, trivial⟩ ⟨rfl, rfl, rfl, trivial⟩ ⟨rfl, rfl, trivial⟩ ⟨rfl, trivial⟩ ?_ (fun k hJ => ?_)
              · exact Nat.zero_le _
              · -- round
                refine AC.seq ?_
                refine AC.seq ?_
                refine AC.region ?_
                refine AO.yld _ (Yld.move rfl) rfl rfl rfl ?_
                refine AO.yld _ (Yld.int rfl rfl rfl) rfl rfl rfl ?_
                refine AO.nil ?_
                refine AC.cond _ rfl (fun c79 => ?_) (fun c79 => ?_)
                · -- c79 True
                  have hk : k < 3 := by have h := c79; simp at h; omega
                  obtain ⟨q1, q2, q3, q4, q5⟩ := cache_facts hcl ((k : Int) + 1)
                  have hmll := missL_len (missF ml us (1 + r8At more 1 40)) k
                  refine AC.skip ?_
                  refine AC.seq ?_
                  refine AC.block ?_
                  refine AC.seq ?_
                  refine AC.region ?_
                  refine AO.yld _ (Yld.move rfl) rfl rfl rfl ?_
                  refine AO.yld _ (Yld.move rfl) rfl rfl rfl ?_
                  refine AO.yld _ (Yld.move rfl) rfl rfl rfl ?_
                  refine AO.yld _ (Yld.move rfl) rfl rfl rfl ?_
                  refine AO.callW (wantedN rfl) [4] [] [0] rfl rfl Try.call31 rfl (impl_CacheAfter_c (ms := ml) (uses := us) (cap := (1 + r8At more 1 40)) (pol := (k : Int) + 1) hnl hnm hcl hcp (by omega)) (.flat (.view rfl rfl (.view rfl rfl (.view rfl rfl (.view rfl rfl .nil)))) (fun _ => by simp [AV.Flat, AV.FlatL, PV.Flat, PV.FlatL]) (fun _ => ⟨flat_map flatS _, trivial⟩)) rfl (fun _ => rfl) trivial rfl (fun _ => rfl) (fun _ => rfl) (fun _ _ => ?_)
                  refine AO.yld _ (Yld.move rfl) rfl rfl rfl ?_
                  refine AO.yld _ (Yld.extract rfl rfl rfl) rfl rfl rfl ?_
                  refine AO.yld _ (Yld.extract rfl rfl rfl) rfl rfl rfl ?_
                  refine AO.yld _ (Yld.assign rfl) rfl rfl rfl ?_
                  refine AO.yld _ (Yld.assign rfl) rfl rfl rfl ?_
                  refine AO.nil ?_
                  refine AC.seq ?_
                  refine AC.region ?_
                  refine AO.yld _ (Yld.move rfl) rfl rfl rfl ?_
                  refine AO.yld _ (Yld.move rfl) rfl rfl rfl ?_
                  refine AO.yld _ (Yld.move rfl) rfl rfl rfl ?_
                  refine AO.yld _ (Yld.move rfl) rfl rfl rfl ?_
                  refine AO.yld _ (Yld.call rfl rfl Try.call32 rfl rfl rfl (impl_MissesOf_c (ms := ml) (uses := us) (cap := (1 + r8At more 1 40)) (pol := (k : Int) + 1) hnl hnm hcl hcp (by omega)) rfl) rfl rfl rfl ?_
                  refine AO.yld _ (Yld.move rfl) rfl rfl rfl ?_
                  refine AO.yld _ (Yld.extract rfl rfl rfl) rfl rfl rfl ?_
                  refine AO.yld _ (Yld.extract rfl rfl rfl) rfl rfl rfl ?_
                  refine AO.yld _ (Yld.assign rfl) rfl rfl rfl ?_
                  refine AO.yld _ (Yld.assign rfl) rfl rfl rfl ?_
                  refine AO.nil ?_
                  refine AC.seq ?_
                  refine AC.region ?_
                  refine AO.yld _ (Yld.move rfl) rfl rfl rfl ?_
                  refine AO.yld _ (Yld.move rfl) rfl rfl rfl ?_
                  refine AO.yld _ (Yld.call rfl rfl Try.call33 rfl rfl rfl (spec_TotalSize_c (by omega) hnm (by omega)) rfl) rfl rfl rfl ?_
                  refine AO.yld _ (Yld.move rfl) rfl rfl rfl ?_
                  refine AO.yld _ (Yld.extract rfl rfl rfl) rfl rfl rfl ?_
                  refine AO.yld _ (Yld.extract rfl rfl rfl) rfl rfl rfl ?_
                  refine AO.yld _ (Yld.assign rfl) rfl rfl rfl ?_
                  refine AO.yld _ (Yld.assign rfl) rfl rfl rfl ?_
                  refine AO.nil ?_
                  refine AC.seq ?_
                  refine AC.seq ?_
                  refine AC.region ?_
                  refine AO.yld _ (Yld.move rfl) rfl rfl rfl ?_
                  refine AO.yld _ (Yld.int rfl rfl rfl) rfl rfl rfl ?_
                  refine AO.yld _ (Yld.move rfl) rfl rfl rfl ?_
                  refine AO.splitAt 106 _ rfl (fun s106 => ?_) (fun s106 => ?_)
                  · -- s106 True
                    exfalso; simp at s106
                  · -- s106 False
                    refine AO.yldG _ (Yld.move rfl) rfl rfl rfl rfl rfl ?_
                    refine AO.yldG _ (Yld.int rfl rfl rfl) rfl rfl rfl rfl rfl ?_
                    refine AO.yld _ (Yld.pickF rfl rfl) rfl rfl rfl ?_
                    refine AO.yld _ (Yld.move rfl) rfl rfl rfl ?_
                    refine AO.splitAt 110 _ rfl (fun s110 => ?_) (fun s110 => ?_)
                    · -- s110 True
                      exfalso; simp at s110
                    · -- s110 False
                      refine AO.yldG _ (Yld.move rfl) rfl rfl rfl rfl rfl ?_
                      refine AO.yldG _ (Yld.int rfl rfl rfl) rfl rfl rfl rfl rfl ?_
                      refine AO.yld _ (Yld.pickF rfl rfl) rfl rfl rfl ?_
                      refine AO.yld _ (Yld.move rfl) rfl rfl rfl ?_
                      refine AO.splitAt 114 _ rfl (fun s114 => ?_) (fun s114 => ?_)
                      · -- s114 True
                        exfalso; rw [q1] at s114; simp at s114
                      · -- s114 False
                        refine AO.yldG _ (Yld.move rfl) rfl rfl rfl rfl rfl ?_
                        refine AO.yldG _ (Yld.move rfl) rfl rfl rfl rfl rfl ?_
                        refine AO.yldG _ (Yld.int rfl rfl rfl) rfl rfl rfl rfl rfl ?_
                        refine AO.yld _ (Yld.pickF rfl rfl) rfl rfl rfl ?_
                        refine AO.yld _ (Yld.move rfl) rfl rfl rfl ?_
                        refine AO.splitAt 119 _ rfl (fun s119 => ?_) (fun s119 => ?_)
                        · -- s119 True
                          exfalso; have h9 := s119; simp only [decide_eq_true_eq] at h9; omega
                        · -- s119 False
                          refine AO.yldG _ (Yld.move rfl) rfl rfl rfl rfl rfl ?_
                          refine AO.yldG _ (Yld.move rfl) rfl rfl rfl rfl rfl ?_
                          refine AO.yldG _ (Yld.len Try.underlying59 rfl rfl) rfl rfl rfl rfl rfl ?_
                          refine AO.yldG _ (Yld.int rfl rfl rfl) rfl rfl rfl rfl rfl ?_
                          refine AO.yld _ (Yld.pickF rfl rfl) rfl rfl rfl ?_
                          refine AO.yld _ (Yld.move rfl) rfl rfl rfl ?_
                          refine AO.splitAt 125 _ rfl (fun s125 => ?_) (fun s125 => ?_)
                          · -- s125 True
                            exfalso; have h9 := s125; simp only [decide_eq_true_eq, List.length_map] at h9; omega
                          · -- s125 False
                            refine AO.yldG _ (Yld.move rfl) rfl rfl rfl rfl rfl ?_
                            refine AO.yldG _ (Yld.move rfl) rfl rfl rfl rfl rfl ?_
                            refine AO.yldG _ (Yld.len Try.underlying59 rfl rfl) rfl rfl rfl rfl rfl ?_
                            refine AO.yldG _ (Yld.int rfl rfl rfl) rfl rfl rfl rfl rfl ?_
                            refine AO.yld _ (Yld.pickF rfl rfl) rfl rfl rfl ?_
                            refine AO.nil ?_
                            refine AC.cond _ rfl (fun c130 => ?_) (fun c130 => ?_)
                            · -- c130 True
                              exfalso; have h9 := c130; simp only [decide_eq_true_eq, List.length_map] at h9; omega
                            · -- c130 False
                              refine AC.skip ?_
                              refine AC.region ?_
                              refine AO.yld _ (Yld.move rfl) rfl rfl rfl ?_
                              refine AO.yld _ (Yld.move rfl) rfl rfl rfl ?_
                              refine AO.buildSlice (rows := [[_]]) 5 Try.underlying42 ty2 rfl rfl rfl rfl rfl rfl rfl rfl rfl ?_
                              refine AO.append 3 Try.underlying42 ty2 rfl rfl rfl rfl rfl rfl rfl (by simp [pvOne]) (by simp only [List.length_map, List.length_cons, List.length_nil, List.length_append]; omega) (by simp only [List.length_map, List.length_cons, List.length_nil, List.length_append]; omega) rfl ?_
                              refine AO.yld _ (Yld.assign rfl) rfl rfl rfl ?_
                              refine AO.nil ?_
                              refine AC.mark ?_
                              refine AC.region ?_
                              refine AO.yld _ (Yld.move rfl) rfl rfl rfl ?_
                              refine AO.yld _ (Yld.add rfl rfl (by omega) (by omega)) rfl rfl rfl ?_
                              refine AO.yld _ (Yld.assign rfl) rfl rfl rfl ?_
                              refine AO.nil ?_
                              refine AC.back ⟨k + 1, ?_, ?_, ⟨?_, ?_, trivial⟩, ⟨?_, trivial⟩, ⟨rfl, rfl, rfl, rfl, rfl, trivial⟩, ⟨rfl, rfl, rfl, trivial⟩⟩
                              · exact hk
                              · omega
                              · show some (AV.p (PV.v (Value.int IntKind.i64 _))) = _; first | rfl | (congr 4; done) | (congr 4; omega)
                              · rfl
                              · rw [missL_succ, map_snoc]; rfl
                · -- c79 False
                  obtain rfl : k = 3 := by have h := c79; simp at h; omega
                  obtain ⟨bn, b1, b2, b3, b4, b5, b6, b7⟩ := best_facts (missF ml us (1 + r8At more 1 40))
                  have hrowB := map_row (enc := Go.V.encI) b4
                  have hrow0 : ((missL (missF ml us (1 + r8At more 1 40)) 3).map Go.V.encI)[0]? = some (Go.V.encI ((missF ml us (1 + r8At more 1 40)) 1)) := rfl
                  have hrow1 : ((missL (missF ml us (1 + r8At more 1 40)) 3).map Go.V.encI)[1]? = some (Go.V.encI ((missF ml us (1 + r8At more 1 40)) 2)) := rfl
                  have hrow2 : ((missL (missF ml us (1 + r8At more 1 40)) 3).map Go.V.encI)[2]? = some (Go.V.encI ((missF ml us (1 + r8At more 1 40)) 3)) := rfl
                  refine AC.exit rfl ?_
                  refine AC.seq ?_
                  refine AC.region ?_
                  refine AO.yld _ (Yld.move rfl) rfl rfl rfl ?_
                  refine AO.yld _ (Yld.move rfl) rfl rfl rfl ?_
                  refine AO.yld _ (Yld.move rfl) rfl rfl rfl ?_
                  refine AO.yld _ (Yld.call rfl rfl Try.call34 rfl rfl rfl (impl_BestPolicy_c (ms := ml) (uses := us) (cap := (1 + r8At more 1 40)) hnl hnm hcl hcp) rfl) rfl rfl rfl ?_
                  refine AO.yld _ (Yld.move rfl) rfl rfl rfl ?_
                  refine AO.yld _ (Yld.extract rfl rfl rfl) rfl rfl rfl ?_
                  refine AO.yld _ (Yld.extract rfl rfl rfl) rfl rfl rfl ?_
                  refine AO.yld _ (Yld.extract rfl rfl rfl) rfl rfl rfl ?_
                  refine AO.yld _ (Yld.assign rfl) rfl rfl rfl ?_
                  refine AO.yld _ (Yld.assign rfl) rfl rfl rfl ?_
                  refine AO.yld _ (Yld.assign rfl) rfl rfl rfl ?_
                  refine AO.nil ?_
                  refine AC.seq ?_
                  refine AC.seq ?_
                  refine AC.region ?_
                  refine AO.yld _ (Yld.move rfl) rfl rfl rfl ?_
                  refine AO.yld _ (Yld.int rfl rfl rfl) rfl rfl rfl ?_
                  refine AO.yld _ (Yld.move rfl) rfl rfl rfl ?_
                  refine AO.splitAt 145 _ rfl (fun s145 => ?_) (fun s145 => ?_)
                  · -- s145 True
                    exfalso; simp at s145
                  · -- s145 False
                    refine AO.yldG _ (Yld.move rfl) rfl rfl rfl rfl rfl ?_
                    refine AO.yldG _ (Yld.int rfl rfl rfl) rfl rfl rfl rfl rfl ?_
                    refine AO.yld _ (Yld.pickF rfl rfl) rfl rfl rfl ?_
                    refine AO.yld _ (Yld.move rfl) rfl rfl rfl ?_
                    refine AO.splitAt 149 _ rfl (fun s149 => ?_) (fun s149 => ?_)
                    · -- s149 True
                      exfalso; have h9 := s149; simp only [decide_eq_true_eq] at h9; omega
                    · -- s149 False
                      refine AO.yldG _ (Yld.move rfl) rfl rfl rfl rfl rfl ?_
                      refine AO.yldG _ (Yld.int rfl rfl rfl) rfl rfl rfl rfl rfl ?_
                      refine AO.yld _ (Yld.pickF rfl rfl) rfl rfl rfl ?_
                      refine AO.yld _ (Yld.move rfl) rfl rfl rfl ?_
                      refine AO.splitAt 153 _ rfl (fun s153 => ?_) (fun s153 => ?_)
                      · -- s153 True
                        exfalso; have h9 := s153; simp only [decide_eq_true_eq] at h9; omega
                      · -- s153 False
                        refine AO.yldG _ (Yld.move rfl) rfl rfl rfl rfl rfl ?_
                        refine AO.yldG _ (Yld.move rfl) rfl rfl rfl rfl rfl ?_
                        refine AO.yldG _ (Yld.sub rfl rfl (by omega) (by omega)) rfl rfl rfl rfl rfl ?_
                        refine AO.yldG _ (Yld.indexVec Try.underlying42 Try.sizeOf2 rfl rfl rfl (show _ = ((bn : Nat) : Int) by omega) (by rw [List.length_map, missL_len]; omega)) rfl rfl rfl rfl rfl ?_
                        refine AO.yldG _ (Yld.load Try.isAgg2 rfl (Eq.trans (behind_el rfl hrowB) rfl)) rfl rfl rfl rfl rfl ?_
                        refine AO.yldG _ (Yld.move rfl) rfl rfl rfl rfl rfl ?_
                        refine AO.yldG _ (Yld.int rfl rfl rfl) rfl rfl rfl rfl rfl ?_
                        refine AO.yld _ (Yld.pickF rfl rfl) rfl rfl rfl ?_
                        refine AO.yld _ (Yld.move rfl) rfl rfl rfl ?_
                        refine AO.splitAt 162 _ rfl (fun s162 => ?_) (fun s162 => ?_)
                        · -- s162 True
                          exfalso; rw [b3] at s162; simp at s162
                        · -- s162 False
                          refine AO.yldG _ (Yld.move rfl) rfl rfl rfl rfl rfl ?_
                          refine AO.yldG _ (Yld.move rfl) rfl rfl rfl rfl rfl ?_
                          refine AO.yldG _ (Yld.indexVec Try.underlying42 Try.sizeOf2 rfl rfl rfl (show _ = ((0 : Nat) : Int) from rfl) (by rw [List.length_map, missL_len]; decide)) rfl rfl rfl rfl rfl ?_
                          refine AO.yldG _ (Yld.load Try.isAgg2 rfl (Eq.trans (behind_el rfl hrow0) rfl)) rfl rfl rfl rfl rfl ?_
                          refine AO.yldG _ (Yld.int rfl rfl rfl) rfl rfl rfl rfl rfl ?_
                          refine AO.yld _ (Yld.pickF rfl rfl) rfl rfl rfl ?_
                          refine AO.yld _ (Yld.move rfl) rfl rfl rfl ?_
                          refine AO.splitAt 169 _ rfl (fun s169 => ?_) (fun s169 => ?_)
                          · -- s169 True
                            exfalso; have h9 := s169; simp only [decide_eq_true_eq] at h9; omega
                          · -- s169 False
                            refine AO.yldG _ (Yld.move rfl) rfl rfl rfl rfl rfl ?_
                            refine AO.yldG _ (Yld.move rfl) rfl rfl rfl rfl rfl ?_
                            refine AO.yldG _ (Yld.indexVec Try.underlying42 Try.sizeOf2 rfl rfl rfl (show _ = ((1 : Nat) : Int) from rfl) (by rw [List.length_map, missL_len]; decide)) rfl rfl rfl rfl rfl ?_
                            refine AO.yldG _ (Yld.load Try.isAgg2 rfl (Eq.trans (behind_el rfl hrow1) rfl)) rfl rfl rfl rfl rfl ?_
                            refine AO.yldG _ (Yld.int rfl rfl rfl) rfl rfl rfl rfl rfl ?_
                            refine AO.yld _ (Yld.pickF rfl rfl) rfl rfl rfl ?_
                            refine AO.yld _ (Yld.move rfl) rfl rfl rfl ?_
                            refine AO.splitAt 176 _ rfl (fun s176 => ?_) (fun s176 => ?_)
                            · -- s176 True
                              exfalso; have h9 := s176; simp only [decide_eq_true_eq] at h9; omega
                            · -- s176 False
                              refine AO.yldG _ (Yld.move rfl) rfl rfl rfl rfl rfl ?_
                              refine AO.yldG _ (Yld.move rfl) rfl rfl rfl rfl rfl ?_
                              refine AO.yldG _ (Yld.indexVec Try.underlying42 Try.sizeOf2 rfl rfl rfl (show _ = ((2 : Nat) : Int) from rfl) (by rw [List.length_map, missL_len]; decide)) rfl rfl rfl rfl rfl ?_
                              refine AO.yldG _ (Yld.load Try.isAgg2 rfl (Eq.trans (behind_el rfl hrow2) rfl)) rfl rfl rfl rfl rfl ?_
                              refine AO.yldG _ (Yld.int rfl rfl rfl) rfl rfl rfl rfl rfl ?_
                              refine AO.yld _ (Yld.pickF rfl rfl) rfl rfl rfl ?_
                              refine AO.nil ?_
                              refine AC.cond _ rfl (fun c182 => ?_) (fun c182 => ?_)
                              · -- c182 True
                                exfalso; have h9 := c182; simp only [decide_eq_true_eq] at h9; omega
                              · -- c182 False
                                refine AC.skip ?_
                                refine AC.seq ?_
                                refine AC.region ?_
                                refine AO.yld _ (Yld.move rfl) rfl rfl rfl ?_
                                refine AO.yld _ (Yld.call rfl rfl Try.call29 rfl rfl rfl (laws_r8At_c (by omega)) rfl) rfl rfl rfl ?_
                                refine AO.yld _ (Yld.int rfl rfl rfl) rfl rfl rfl ?_
                                refine AO.yld _ (Yld.move rfl) rfl rfl rfl ?_
                                refine AO.splitAt 186 _ rfl (fun s186 => ?_) (fun s186 => ?_)
                                · -- s186 True
                                  refine AO.skipF rfl rfl rfl rfl rfl ?_
                                  refine AO.skipF rfl rfl rfl rfl rfl ?_
                                  refine AO.skipF rfl rfl rfl rfl rfl ?_
                                  refine AO.skipF rfl rfl rfl rfl rfl ?_
                                  refine AO.skipF rfl rfl rfl rfl rfl ?_
                                  refine AO.yld _ (Yld.pickT rfl rfl) rfl rfl rfl ?_
                                  refine AO.yld _ (Yld.assign rfl) rfl rfl rfl ?_
                                  refine AO.nil ?_
                                  refine Pure.ret Try.results7 (RVs.cons (RV.tmp rfl) RVs.nil) rfl ?_
                                  first | rfl | (refine cb ?_; have h0 : (decide (r8At more 0 2 = 0)) = true := (by have h1 := r8At_lim (l := more) (k := 0) (n := 2) (by omega); have h2 := s186; simp only [beq_eq_false_iff_ne, ne_eq] at h2; rw [decide_eq_true_eq]; omega); have h6 := unit_best hcl (hfu h0) ((bn : Int) + 1); symm; rw [beq_iff_eq]; omega)
                                · -- s186 False
                                  refine AO.yldG _ (Yld.move rfl) rfl rfl rfl rfl rfl ?_
                                  refine AO.yldG _ (Yld.indexVec Try.underlying42 Try.sizeOf2 rfl rfl rfl (show _ = ((2 : Nat) : Int) from rfl) (by rw [List.length_map, missL_len]; decide)) rfl rfl rfl rfl rfl ?_
                                  refine AO.yldG _ (Yld.load Try.isAgg2 rfl (Eq.trans (behind_el rfl hrow2) rfl)) rfl rfl rfl rfl rfl ?_
                                  refine AO.yldG _ (Yld.move rfl) rfl rfl rfl rfl rfl ?_
                                  refine AO.yldG _ (Yld.int rfl rfl rfl) rfl rfl rfl rfl rfl ?_
                                  refine AO.yld _ (Yld.pickF rfl rfl) rfl rfl rfl ?_
                                  refine AO.yld _ (Yld.assign rfl) rfl rfl rfl ?_
                                  refine AO.nil ?_
                                  refine Pure.ret Try.results7 (RVs.cons (RV.tmp rfl) RVs.nil) rfl ?_
                                  first | rfl | (refine cb ?_; have h0 : (decide (r8At more 0 2 = 0)) = true := (by have h1 := r8At_lim (l := more) (k := 0) (n := 2) (by omega); have h2 := s186; simp only [beq_eq_false_iff_ne, ne_eq] at h2; rw [decide_eq_true_eq]; omega); have h6 := unit_best hcl (hfu h0) ((bn : Int) + 1); symm; rw [beq_iff_eq]; omega)
          · -- s45 False
            have hcap := r8At_lim (l := more) (k := 1) (n := 40) (by omega)
            have hcl : CacheL ml (usesK ml more k) (1 + r8At more 1 40) := cacheL_of hdr (by omega) hI.1 hI.2
            have hcp : 1 + r8At more 1 40 ≤ 1600000 := by omega
            have hsl9 := (seenOf_facts (usesK ml more k)).2.2
            have hul9 : (usesK ml more k).length ≤ 20 := hcl.len
            have hfu : (decide (r8At more 0 2 = 0)) = true → ∀ y ∈ usesK ml more k, lookup ml y = 5 := fun hb => usesK_five (hfv hb) hI.2
            generalize usesK ml more k = us at *
            refine AO.skipT rfl rfl rfl rfl rfl ?_
            refine AO.skipT rfl rfl rfl rfl rfl ?_
            refine AO.skipT rfl rfl rfl rfl rfl ?_
            refine AO.yld _ (Yld.pickF rfl rfl) rfl rfl rfl ?_
            refine AO.nil ?_
            refine AC.condF rfl ?_
            refine AC.exit rfl ?_
            refine AC.seq ?_
            refine AC.region ?_
            refine AO.yld _ (Yld.move rfl) rfl rfl rfl ?_
            refine AO.yld _ (Yld.call rfl rfl Try.call29 rfl rfl rfl (laws_r8At_c (by omega)) rfl) rfl rfl rfl ?_
            refine AO.yld _ (Yld.add rfl rfl (by omega) (by omega)) rfl rfl rfl ?_
            refine AO.yld _ (Yld.assign rfl) rfl rfl rfl ?_
            refine AO.nil ?_
            refine AC.seq ?_
            refine AC.region ?_
            refine AO.buildSlice (rows := []) 3 Try.underlying42 ty2 rfl rfl rfl rfl rfl rfl rfl rfl rfl ?_
            refine AO.yld _ (Yld.assign rfl) rfl rfl rfl ?_
            refine AO.nil ?_
            refine AC.seq ?_
            refine AC.seq ?_
            refine AC.region ?_
            refine AO.yld _ (Yld.assign rfl) rfl rfl rfl ?_
            refine AO.nil ?_
            refine AC.block ?_
            refine AC.loopC [(1, _), (5, _), (7, _), (8, _), (11, _)] [(0, _), (1, _), (2, _)] (fun (k : Nat) => [(13, .p (.v (.int .i64 ((k : Int) + 1)))), (12, .h 3)]) (fun (k : Nat) => [(3, .vec 2 1 ((missL (missF ml us (1 + r8At more 1 40)) k).map Go.V.encI))]) (fun (k : Nat) => k ≤ 3) (fun (k : Nat) => 3 - k) 0 ⟨rfl, rfl, rfl, rfl, rfl, trivial⟩ ⟨rfl, rfl, rfl, trivial⟩ ⟨rfl, rfl, trivial⟩ ⟨rfl, trivial⟩ ?_ (fun k hJ => ?_)
            · exact Nat.zero_le _
            · -- round
              refine AC.seq ?_
              refine AC.seq ?_
              refine AC.region ?_
              refine AO.yld _ (Yld.move rfl) rfl rfl rfl ?_
              refine AO.yld _ (Yld.int rfl rfl rfl) rfl rfl rfl ?_
              refine AO.nil ?_
              refine AC.cond _ rfl (fun c79 => ?_) (fun c79 => ?_)
              · -- c79 True
                have hk : k < 3 := by have h := c79; simp at h; omega
                obtain ⟨q1, q2, q3, q4, q5⟩ := cache_facts hcl ((k : Int) + 1)
                have hmll := missL_len (missF ml us (1 + r8At more 1 40)) k
                refine AC.skip ?_
                refine AC.seq ?_
                refine AC.block ?_
                refine AC.seq ?_
                refine AC.region ?_
                refine AO.yld _ (Yld.move rfl) rfl rfl rfl ?_
                refine AO.yld _ (Yld.move rfl) rfl rfl rfl ?_
                refine AO.yld _ (Yld.move rfl) rfl rfl rfl ?_
                refine AO.yld _ (Yld.move rfl) rfl rfl rfl ?_
                refine AO.callW (wantedN rfl) [4] [] [0] rfl rfl Try.call31 rfl (impl_CacheAfter_c (ms := ml) (uses := us) (cap := (1 + r8At more 1 40)) (pol := (k : Int) + 1) hnl hnm hcl hcp (by omega)) (.flat (.view rfl rfl (.view rfl rfl (.view rfl rfl (.view rfl rfl .nil)))) (fun _ => by simp [AV.Flat, AV.FlatL, PV.Flat, PV.FlatL]) (fun _ => ⟨flat_map flatS _, trivial⟩)) rfl (fun _ => rfl) trivial rfl (fun _ => rfl) (fun _ => rfl) (fun _ _ => ?_)
                refine AO.yld _ (Yld.move rfl) rfl rfl rfl ?_
                refine AO.yld _ (Yld.extract rfl rfl rfl) rfl rfl rfl ?_
                refine AO.yld _ (Yld.extract rfl rfl rfl) rfl rfl rfl ?_
                refine AO.yld _ (Yld.assign rfl) rfl rfl rfl ?_
                refine AO.yld _ (Yld.assign rfl) rfl rfl rfl ?_
                refine AO.nil ?_
                refine AC.seq ?_
                refine AC.region ?_
                refine AO.yld _ (Yld.move rfl) rfl rfl rfl ?_
                refine AO.yld _ (Yld.move rfl) rfl rfl rfl ?_
                refine AO.yld _ (Yld.move rfl) rfl rfl rfl ?_
                refine AO.yld _ (Yld.move rfl) rfl rfl rfl ?_
                refine AO.yld _ (Yld.call rfl rfl Try.call32 rfl rfl rfl (impl_MissesOf_c (ms := ml) (uses := us) (cap := (1 + r8At more 1 40)) (pol := (k : Int) + 1) hnl hnm hcl hcp (by omega)) rfl) rfl rfl rfl ?_
                refine AO.yld _ (Yld.move rfl) rfl rfl rfl ?_
                refine AO.yld _ (Yld.extract rfl rfl rfl) rfl rfl rfl ?_
                refine AO.yld _ (Yld.extract rfl rfl rfl) rfl rfl rfl ?_
                refine AO.yld _ (Yld.assign rfl) rfl rfl rfl ?_
                refine AO.yld _ (Yld.assign rfl) rfl rfl rfl ?_
                refine AO.nil ?_
                refine AC.seq ?_
                refine AC.region ?_
                refine AO.yld _ (Yld.move rfl) rfl rfl rfl ?_
                refine AO.yld _ (Yld.move rfl) rfl rfl rfl ?_
                refine AO.yld _ (Yld.call rfl rfl Try.call33 rfl rfl rfl (spec_TotalSize_c (by omega) hnm (by omega)) rfl) rfl rfl rfl ?_
                refine AO.yld _ (Yld.move rfl) rfl rfl rfl ?_
                refine AO.yld _ (Yld.extract rfl rfl rfl) rfl rfl rfl ?_
                refine AO.yld _ (Yld.extract rfl rfl rfl) rfl rfl rfl ?_
                refine AO.yld _ (Yld.assign rfl) rfl rfl rfl ?_
                refine AO.yld _ (Yld.assign rfl) rfl rfl rfl ?_
                refine AO.nil ?_
                refine AC.seq ?_
                refine AC.seq ?_
                refine AC.region ?_
                refine AO.yld _ (Yld.move rfl) rfl rfl rfl ?_
                refine AO.yld _ (Yld.int rfl rfl rfl) rfl rfl rfl ?_
                refine AO.yld _ (Yld.move rfl) rfl rfl rfl ?_
                refine AO.splitAt 106 _ rfl (fun s106 => ?_) (fun s106 => ?_)
                · -- s106 True
                  exfalso; simp at s106
                · -- s106 False
                  refine AO.yldG _ (Yld.move rfl) rfl rfl rfl rfl rfl ?_
                  refine AO.yldG _ (Yld.int rfl rfl rfl) rfl rfl rfl rfl rfl ?_
                  refine AO.yld _ (Yld.pickF rfl rfl) rfl rfl rfl ?_
                  refine AO.yld _ (Yld.move rfl) rfl rfl rfl ?_
                  refine AO.splitAt 110 _ rfl (fun s110 => ?_) (fun s110 => ?_)
                  · -- s110 True
                    exfalso; simp at s110
                  · -- s110 False
                    refine AO.yldG _ (Yld.move rfl) rfl rfl rfl rfl rfl ?_
                    refine AO.yldG _ (Yld.int rfl rfl rfl) rfl rfl rfl rfl rfl ?_
                    refine AO.yld _ (Yld.pickF rfl rfl) rfl rfl rfl ?_
                    refine AO.yld _ (Yld.move rfl) rfl rfl rfl ?_
                    refine AO.splitAt 114 _ rfl (fun s114 => ?_) (fun s114 => ?_)
                    · -- s114 True
                      exfalso; rw [q1] at s114; simp at s114
                    · -- s114 False
                      refine AO.yldG _ (Yld.move rfl) rfl rfl rfl rfl rfl ?_
                      refine AO.yldG _ (Yld.move rfl) rfl rfl rfl rfl rfl ?_
                      refine AO.yldG _ (Yld.int rfl rfl rfl) rfl rfl rfl rfl rfl ?_
                      refine AO.yld _ (Yld.pickF rfl rfl) rfl rfl rfl ?_
                      refine AO.yld _ (Yld.move rfl) rfl rfl rfl ?_
                      refine AO.splitAt 119 _ rfl (fun s119 => ?_) (fun s119 => ?_)
                      · -- s119 True
                        exfalso; have h9 := s119; simp only [decide_eq_true_eq] at h9; omega
                      · -- s119 False
                        refine AO.yldG _ (Yld.move rfl) rfl rfl rfl rfl rfl ?_
                        refine AO.yldG _ (Yld.move rfl) rfl rfl rfl rfl rfl ?_
                        refine AO.yldG _ (Yld.len Try.underlying59 rfl rfl) rfl rfl rfl rfl rfl ?_
                        refine AO.yldG _ (Yld.int rfl rfl rfl) rfl rfl rfl rfl rfl ?_
                        refine AO.yld _ (Yld.pickF rfl rfl) rfl rfl rfl ?_
                        refine AO.yld _ (Yld.move rfl) rfl rfl rfl ?_
                        refine AO.splitAt 125 _ rfl (fun s125 => ?_) (fun s125 => ?_)
                        · -- s125 True
                          exfalso; have h9 := s125; simp only [decide_eq_true_eq, List.length_map] at h9; omega
                        · -- s125 False
                          refine AO.yldG _ (Yld.move rfl) rfl rfl rfl rfl rfl ?_
                          refine AO.yldG _ (Yld.move rfl) rfl rfl rfl rfl rfl ?_
                          refine AO.yldG _ (Yld.len Try.underlying59 rfl rfl) rfl rfl rfl rfl rfl ?_
                          refine AO.yldG _ (Yld.int rfl rfl rfl) rfl rfl rfl rfl rfl ?_
                          refine AO.yld _ (Yld.pickF rfl rfl) rfl rfl rfl ?_
                          refine AO.nil ?_
                          refine AC.cond _ rfl (fun c130 => ?_) (fun c130 => ?_)
                          · -- c130 True
                            exfalso; have h9 := c130; simp only [decide_eq_true_eq, List.length_map] at h9; omega
                          · -- c130 False
                            refine AC.skip ?_
                            refine AC.region ?_
                            refine AO.yld _ (Yld.move rfl) rfl rfl rfl ?_
                            refine AO.yld _ (Yld.move rfl) rfl rfl rfl ?_
                            refine AO.buildSlice (rows := [[_]]) 5 Try.underlying42 ty2 rfl rfl rfl rfl rfl rfl rfl rfl rfl ?_
                            refine AO.append 3 Try.underlying42 ty2 rfl rfl rfl rfl rfl rfl rfl (by simp [pvOne]) (by simp only [List.length_map, List.length_cons, List.length_nil, List.length_append]; omega) (by simp only [List.length_map, List.length_cons, List.length_nil, List.length_append]; omega) rfl ?_
                            refine AO.yld _ (Yld.assign rfl) rfl rfl rfl ?_
                            refine AO.nil ?_
                            refine AC.mark ?_
                            refine AC.region ?_
                            refine AO.yld _ (Yld.move rfl) rfl rfl rfl ?_
                            refine AO.yld _ (Yld.add rfl rfl (by omega) (by omega)) rfl rfl rfl ?_
                            refine AO.yld _ (Yld.assign rfl) rfl rfl rfl ?_
                            refine AO.nil ?_
                            refine AC.back ⟨k + 1, ?_, ?_, ⟨?_, ?_, trivial⟩, ⟨?_, trivial⟩, ⟨rfl, rfl, rfl, rfl, rfl, trivial⟩, ⟨rfl, rfl, rfl, trivial⟩⟩
                            · exact hk
                            · omega
                            · show some (AV.p (PV.v (Value.int IntKind.i64 _))) = _; first | rfl | (congr 4; done) | (congr 4; omega)
                            · rfl
                            · rw [missL_succ, map_snoc]; rfl
              · -- c79 False
                obtain rfl : k = 3 := by have h := c79; simp at h; omega
                obtain ⟨bn, b1, b2, b3, b4, b5, b6, b7⟩ := best_facts (missF ml us (1 + r8At more 1 40))
                have hrowB := map_row (enc := Go.V.encI) b4
                have hrow0 : ((missL (missF ml us (1 + r8At more 1 40)) 3).map Go.V.encI)[0]? = some (Go.V.encI ((missF ml us (1 + r8At more 1 40)) 1)) := rfl
                have hrow1 : ((missL (missF ml us (1 + r8At more 1 40)) 3).map Go.V.encI)[1]? = some (Go.V.encI ((missF ml us (1 + r8At more 1 40)) 2)) := rfl
                have hrow2 : ((missL (missF ml us (1 + r8At more 1 40)) 3).map Go.V.encI)[2]? = some (Go.V.encI ((missF ml us (1 + r8At more 1 40)) 3)) := rfl
                refine AC.exit rfl ?_
                refine AC.seq ?_
                refine AC.region ?_
                refine AO.yld _ (Yld.move rfl) rfl rfl rfl ?_
                refine AO.yld _ (Yld.move rfl) rfl rfl rfl ?_
                refine AO.yld _ (Yld.move rfl) rfl rfl rfl ?_
                refine AO.yld _ (Yld.call rfl rfl Try.call34 rfl rfl rfl (impl_BestPolicy_c (ms := ml) (uses := us) (cap := (1 + r8At more 1 40)) hnl hnm hcl hcp) rfl) rfl rfl rfl ?_
                refine AO.yld _ (Yld.move rfl) rfl rfl rfl ?_
                refine AO.yld _ (Yld.extract rfl rfl rfl) rfl rfl rfl ?_
                refine AO.yld _ (Yld.extract rfl rfl rfl) rfl rfl rfl ?_
                refine AO.yld _ (Yld.extract rfl rfl rfl) rfl rfl rfl ?_
                refine AO.yld _ (Yld.assign rfl) rfl rfl rfl ?_
                refine AO.yld _ (Yld.assign rfl) rfl rfl rfl ?_
                refine AO.yld _ (Yld.assign rfl) rfl rfl rfl ?_
                refine AO.nil ?_
                refine AC.seq ?_
                refine AC.seq ?_
                refine AC.region ?_
                refine AO.yld _ (Yld.move rfl) rfl rfl rfl ?_
                refine AO.yld _ (Yld.int rfl rfl rfl) rfl rfl rfl ?_
                refine AO.yld _ (Yld.move rfl) rfl rfl rfl ?_
                refine AO.splitAt 145 _ rfl (fun s145 => ?_) (fun s145 => ?_)
                · -- s145 True
                  exfalso; simp at s145
                · -- s145 False
                  refine AO.yldG _ (Yld.move rfl) rfl rfl rfl rfl rfl ?_
                  refine AO.yldG _ (Yld.int rfl rfl rfl) rfl rfl rfl rfl rfl ?_
                  refine AO.yld _ (Yld.pickF rfl rfl) rfl rfl rfl ?_
                  refine AO.yld _ (Yld.move rfl) rfl rfl rfl ?_
                  refine AO.splitAt 149 _ rfl (fun s149 => ?_) (fun s149 => ?_)
                  · -- s149 True
                    exfalso; have h9 := s149; simp only [decide_eq_true_eq] at h9; omega
                  · -- s149 False
                    refine AO.yldG _ (Yld.move rfl) rfl rfl rfl rfl rfl ?_
                    refine AO.yldG _ (Yld.int rfl rfl rfl) rfl rfl rfl rfl rfl ?_
                    refine AO.yld _ (Yld.pickF rfl rfl) rfl rfl rfl ?_
                    refine AO.yld _ (Yld.move rfl) rfl rfl rfl ?_
                    refine AO.splitAt 153 _ rfl (fun s153 => ?_) (fun s153 => ?_)
                    · -- s153 True
                      exfalso; have h9 := s153; simp only [decide_eq_true_eq] at h9; omega
                    · -- s153 False
                      refine AO.yldG _ (Yld.move rfl) rfl rfl rfl rfl rfl ?_
                      refine AO.yldG _ (Yld.move rfl) rfl rfl rfl rfl rfl ?_
                      refine AO.yldG _ (Yld.sub rfl rfl (by omega) (by omega)) rfl rfl rfl rfl rfl ?_
                      refine AO.yldG _ (Yld.indexVec Try.underlying42 Try.sizeOf2 rfl rfl rfl (show _ = ((bn : Nat) : Int) by omega) (by rw [List.length_map, missL_len]; omega)) rfl rfl rfl rfl rfl ?_
                      refine AO.yldG _ (Yld.load Try.isAgg2 rfl (Eq.trans (behind_el rfl hrowB) rfl)) rfl rfl rfl rfl rfl ?_
                      refine AO.yldG _ (Yld.move rfl) rfl rfl rfl rfl rfl ?_
                      refine AO.yldG _ (Yld.int rfl rfl rfl) rfl rfl rfl rfl rfl ?_
                      refine AO.yld _ (Yld.pickF rfl rfl) rfl rfl rfl ?_
                      refine AO.yld _ (Yld.move rfl) rfl rfl rfl ?_
                      refine AO.splitAt 162 _ rfl (fun s162 => ?_) (fun s162 => ?_)
                      · -- s162 True
                        exfalso; rw [b3] at s162; simp at s162
                      · -- s162 False
                        refine AO.yldG _ (Yld.move rfl) rfl rfl rfl rfl rfl ?_
                        refine AO.yldG _ (Yld.move rfl) rfl rfl rfl rfl rfl ?_
                        refine AO.yldG _ (Yld.indexVec Try.underlying42 Try.sizeOf2 rfl rfl rfl (show _ = ((0 : Nat) : Int) from rfl) (by rw [List.length_map, missL_len]; decide)) rfl rfl rfl rfl rfl ?_
                        refine AO.yldG _ (Yld.load Try.isAgg2 rfl (Eq.trans (behind_el rfl hrow0) rfl)) rfl rfl rfl rfl rfl ?_
                        refine AO.yldG _ (Yld.int rfl rfl rfl) rfl rfl rfl rfl rfl ?_
                        refine AO.yld _ (Yld.pickF rfl rfl) rfl rfl rfl ?_
                        refine AO.yld _ (Yld.move rfl) rfl rfl rfl ?_
                        refine AO.splitAt 169 _ rfl (fun s169 => ?_) (fun s169 => ?_)
                        · -- s169 True
                          exfalso; have h9 := s169; simp only [decide_eq_true_eq] at h9; omega
                        · -- s169 False
                          refine AO.yldG _ (Yld.move rfl) rfl rfl rfl rfl rfl ?_
                          refine AO.yldG _ (Yld.move rfl) rfl rfl rfl rfl rfl ?_
                          refine AO.yldG _ (Yld.indexVec Try.underlying42 Try.sizeOf2 rfl rfl rfl (show _ = ((1 : Nat) : Int) from rfl) (by rw [List.length_map, missL_len]; decide)) rfl rfl rfl rfl rfl ?_
                          refine AO.yldG _ (Yld.load Try.isAgg2 rfl (Eq.trans (behind_el rfl hrow1) rfl)) rfl rfl rfl rfl rfl ?_
                          refine AO.yldG _ (Yld.int rfl rfl rfl) rfl rfl rfl rfl rfl ?_
                          refine AO.yld _ (Yld.pickF rfl rfl) rfl rfl rfl ?_
                          refine AO.yld _ (Yld.move rfl) rfl rfl rfl ?_
                          refine AO.splitAt 176 _ rfl (fun s176 => ?_) (fun s176 => ?_)
                          · -- s176 True
                            exfalso; have h9 := s176; simp only [decide_eq_true_eq] at h9; omega
                          · -- s176 False
                            refine AO.yldG _ (Yld.move rfl) rfl rfl rfl rfl rfl ?_
                            refine AO.yldG _ (Yld.move rfl) rfl rfl rfl rfl rfl ?_
                            refine AO.yldG _ (Yld.indexVec Try.underlying42 Try.sizeOf2 rfl rfl rfl (show _ = ((2 : Nat) : Int) from rfl) (by rw [List.length_map, missL_len]; decide)) rfl rfl rfl rfl rfl ?_
                            refine AO.yldG _ (Yld.load Try.isAgg2 rfl (Eq.trans (behind_el rfl hrow2) rfl)) rfl rfl rfl rfl rfl ?_
                            refine AO.yldG _ (Yld.int rfl rfl rfl) rfl rfl rfl rfl rfl ?_
                            refine AO.yld _ (Yld.pickF rfl rfl) rfl rfl rfl ?_
                            refine AO.nil ?_
                            refine AC.cond _ rfl (fun c182 => ?_) (fun c182 => ?_)
                            · -- c182 True
                              exfalso; have h9 := c182; simp only [decide_eq_true_eq] at h9; omega
                            · -- c182 False
                              refine AC.skip ?_
                              refine AC.seq ?_
                              refine AC.region ?_
                              refine AO.yld _ (Yld.move rfl) rfl rfl rfl ?_
                              refine AO.yld _ (Yld.call rfl rfl Try.call29 rfl rfl rfl (laws_r8At_c (by omega)) rfl) rfl rfl rfl ?_
                              refine AO.yld _ (Yld.int rfl rfl rfl) rfl rfl rfl ?_
                              refine AO.yld _ (Yld.move rfl) rfl rfl rfl ?_
                              refine AO.splitAt 186 _ rfl (fun s186 => ?_) (fun s186 => ?_)
                              · -- s186 True
                                refine AO.skipF rfl rfl rfl rfl rfl ?_
                                refine AO.skipF rfl rfl rfl rfl rfl ?_
                                refine AO.skipF rfl rfl rfl rfl rfl ?_
                                refine AO.skipF rfl rfl rfl rfl rfl ?_
                                refine AO.skipF rfl rfl rfl rfl rfl ?_
                                refine AO.yld _ (Yld.pickT rfl rfl) rfl rfl rfl ?_
                                refine AO.yld _ (Yld.assign rfl) rfl rfl rfl ?_
                                refine AO.nil ?_
                                refine Pure.ret Try.results7 (RVs.cons (RV.tmp rfl) RVs.nil) rfl ?_
                                first | rfl | (refine cb ?_; have h0 : (decide (r8At more 0 2 = 0)) = true := (by have h1 := r8At_lim (l := more) (k := 0) (n := 2) (by omega); have h2 := s186; simp only [beq_eq_false_iff_ne, ne_eq] at h2; rw [decide_eq_true_eq]; omega); have h6 := unit_best hcl (hfu h0) ((bn : Int) + 1); symm; rw [beq_iff_eq]; omega)
                              · -- s186 False
                                refine AO.yldG _ (Yld.move rfl) rfl rfl rfl rfl rfl ?_
                                refine AO.yldG _ (Yld.indexVec Try.underlying42 Try.sizeOf2 rfl rfl rfl (show _ = ((2 : Nat) : Int) from rfl) (by rw [List.length_map, missL_len]; decide)) rfl rfl rfl rfl rfl ?_
                                refine AO.yldG _ (Yld.load Try.isAgg2 rfl (Eq.trans (behind_el rfl hrow2) rfl)) rfl rfl rfl rfl rfl ?_
                                refine AO.yldG _ (Yld.move rfl) rfl rfl rfl rfl rfl ?_
                                refine AO.yldG _ (Yld.int rfl rfl rfl) rfl rfl rfl rfl rfl ?_
                                refine AO.yld _ (Yld.pickF rfl rfl) rfl rfl rfl ?_
                                refine AO.yld _ (Yld.assign rfl) rfl rfl rfl ?_
                                refine AO.nil ?_
                                refine Pure.ret Try.results7 (RVs.cons (RV.tmp rfl) RVs.nil) rfl ?_
                                first | rfl | (refine cb ?_; have h0 : (decide (r8At more 0 2 = 0)) = true := (by have h1 := r8At_lim (l := more) (k := 0) (n := 2) (by omega); have h2 := s186; simp only [beq_eq_false_iff_ne, ne_eq] at h2; rw [decide_eq_true_eq]; omega); have h6 := unit_best hcl (hfu h0) ((bn : Int) + 1); symm; rw [beq_iff_eq]; omega)

end Go.Proofs.Ytdpanmnnfamfmaa
