/- Contracts of functions of the program, each by a walk of its text in the calculus V. -/
import Derived.Test.YtdpanmnnfamfmaaR11
import Derived.Test.YtdpanmnnfamfmaaD47
import Derived.Test.YtdpanmnnfamfmaaV22
set_option linter.all false
set_option linter.unusedSimpArgs false
set_option linter.unnecessarySimpa false
set_option linter.unusedVariables false
namespace Go.Proofs.Ytdpanmnnfamfmaa
open Go Go.V
theorem ty2 : TyIs Try.prog 2 (.int .i64 0) 1 8 := by unfold TyIs; kernel_rfl
theorem bld35 : BuildIs Try.prog 35 [(0, 1), (1, 1), (2, 1), (3, 1)] (.agg #[.int .i64 0, .int .i64 0, .int .i64 0, .int .i64 0]) := by
  intro ps cells w h
  have h2 : Instr.fill (fun i => ([(0, 1), (1, 1), (2, 1), (3, 1)] : List (Nat × Nat))[i]?) #[.int .i64 0, .int .i64 0, .int .i64 0, .int .i64 0] ps.toList = some cells := h
  simp [Instr.build, go_sem, Try.zeroValue35, run_underlying Try.underlying35, Try.sizeOf2, h2]
theorem bld109 : BuildIs Try.prog 109 [(0, 1), (1, 1), (2, 1)] (.agg #[.slice none 0 0, .int .i64 0, .int .u64 0]) := by
  intro ps cells w h
  have h2 : Instr.fill (fun i => ([(0, 1), (1, 1), (2, 1)] : List (Nat × Nat))[i]?) #[.slice none 0 0, .int .i64 0, .int .u64 0] ps.toList = some cells := h
  simp [Instr.build, go_sem, Try.zeroValue109, run_underlying Try.underlying109, Try.sizeOf3, Try.sizeOf30, Try.sizeOf107, h2]

theorem src_next_c {code : List UInt8} {p sd : Int} (h0 : 0 ≤ p) (h1 : p ≤ 4611686018427387904) :
    FnE (α := Int × Int) Try.prog 73 [.h 0] [(0, .box 109 [.p (.sl 1 (code.map encB)), .p (.v (.int .i64 p)), .p (.v (.int .u64 sd))])] [0] (fun ⟨v, s⟩ => 0 ≤ v ∧ v ≤ 255) (fun ⟨v, s⟩ => .p (.v (.int .i64 v))) (fun ⟨v, s⟩ => [(0, .box 109 [.p (.sl 1 (code.map encB)), .p (.v (.int .i64 (p + 1))), .p (.v (.int .u64 s))])]) := by
  refine FnE.intro Try.func73 rfl Try.ntmps73 rfl rfl (fun w0 F0 η φ w => ?_)
  refine AC.seq ?_
  refine AC.region ?_
  refine AO.yld _ (Yld.assign rfl) rfl rfl rfl ?_
  refine AO.nil ?_
  refine AC.seq ?_
  refine AC.region ?_
  refine AO.yld _ (Yld.assign rfl) rfl rfl rfl ?_
  refine AO.nil ?_
  refine AC.seq ?_
  refine AC.seq ?_
  refine AC.draw (by kernel_rfl) (by kernel_rfl) ?_
  refine AO.yld _ (Yld.move rfl) rfl rfl rfl ?_
  refine AO.yld _ (Yld.nilCheck rfl rfl) rfl rfl rfl ?_
  refine AO.yld _ (Yld.fieldAddr Try.underlying109 rfl rfl Try.sizeOf3 rfl rfl rfl) rfl rfl rfl ?_
  refine AO.yld _ (Yld.load Try.isAgg3 rfl rfl) rfl rfl rfl ?_
  refine AO.yld _ (Yld.move rfl) rfl rfl rfl ?_
  refine AO.yld _ (Yld.nilCheck rfl rfl) rfl rfl rfl ?_
  refine AO.yld _ (Yld.fieldAddr Try.underlying109 rfl rfl Try.sizeOf30 rfl rfl rfl) rfl rfl rfl ?_
  refine AO.yld _ (Yld.load Try.isAgg30 rfl rfl) rfl rfl rfl ?_
  refine AO.yld _ (Yld.len Try.underlying30 rfl rfl) rfl rfl rfl ?_
  refine AO.yld _ (Yld.int rfl rfl rfl) rfl rfl rfl ?_
  refine AO.nil ?_
  refine AC.cond _ rfl (fun c13 => ?_) (fun c13 => ?_)
  · -- c13 True
    have hp : p < code.length := by have h := c13; simpa using h
    obtain ⟨c, hc⟩ := get_some (xs := code) (k := p.toNat) (by omega)
    have hrow := map_row (enc := encB) hc
    refine AC.draw (by kernel_rfl) (by kernel_rfl) ?_
    refine AO.yld _ (Yld.move rfl) rfl rfl rfl ?_
    refine AO.yld _ (Yld.nilCheck rfl rfl) rfl rfl rfl ?_
    refine AO.yld _ (Yld.fieldAddr Try.underlying109 rfl rfl Try.sizeOf30 rfl rfl rfl) rfl rfl rfl ?_
    refine AO.yld _ (Yld.load Try.isAgg30 rfl rfl) rfl rfl rfl ?_
    refine AO.yld _ (Yld.move rfl) rfl rfl rfl ?_
    refine AO.yld _ (Yld.nilCheck rfl rfl) rfl rfl rfl ?_
    refine AO.yld _ (Yld.fieldAddr Try.underlying109 rfl rfl Try.sizeOf3 rfl rfl rfl) rfl rfl rfl ?_
    refine AO.yld _ (Yld.load Try.isAgg3 rfl rfl) rfl rfl rfl ?_
    refine AO.yld _ (Yld.indexSl Try.underlying30 Try.sizeOf5 rfl rfl hrow (by omega)) rfl rfl rfl ?_
    refine AO.yld _ (Yld.load Try.isAgg5 rfl rfl) rfl rfl rfl ?_
    refine AO.yld _ (Yld.convInt Try.underlying5 Try.underlying3 rfl) rfl rfl rfl ?_
    refine AO.yld _ (Yld.assign rfl) rfl rfl rfl ?_
    refine AO.nil ?_
    refine AC.seq ?_
    refine AC.region ?_
    refine AO.yld _ (Yld.move rfl) rfl rfl rfl ?_
    refine AO.yld _ (Yld.nilCheck rfl rfl) rfl rfl rfl ?_
    refine AO.yld _ (Yld.fieldAddr Try.underlying109 rfl rfl Try.sizeOf3 rfl rfl rfl) rfl rfl rfl ?_
    refine AO.yld _ (Yld.load Try.isAgg3 rfl rfl) rfl rfl rfl ?_
    refine AO.yld _ (Yld.add rfl rfl (by omega) (by omega)) rfl rfl rfl ?_
    refine AO.yld _ (Yld.nilCheck rfl rfl) rfl rfl rfl ?_
    refine AO.yld _ (Yld.fieldAddr Try.underlying109 rfl rfl Try.sizeOf3 rfl rfl rfl) rfl rfl rfl ?_
    refine AO.store Try.sizeOf3 rfl rfl rfl rfl rfl rfl ?_
    refine AO.nil ?_
    refine AC.seq ?_
    refine AC.region ?_
    refine AO.yld _ (Yld.move rfl) rfl rfl rfl ?_
    refine AO.yld _ (Yld.move rfl) rfl rfl rfl ?_
    refine AO.yld _ (Yld.nilCheck rfl rfl) rfl rfl rfl ?_
    refine AO.yld _ (Yld.fieldAddr Try.underlying109 rfl rfl Try.sizeOf107 rfl rfl rfl) rfl rfl rfl ?_
    refine AO.yld _ (Yld.load Try.isAgg107 rfl rfl) rfl rfl rfl ?_
    refine AO.yld _ (Yld.int rfl rfl rfl) rfl rfl rfl ?_
    refine AO.yld _ (Yld.move rfl) rfl rfl rfl ?_
    refine AO.yld _ (Yld.convInt Try.underlying3 Try.underlying107 rfl) rfl rfl rfl ?_
    refine AO.yld _ (Yld.int rfl rfl rfl) rfl rfl rfl ?_
    refine AO.yld _ (Yld.int rfl rfl rfl) rfl rfl rfl ?_
    refine AO.yld _ (Yld.nilCheck rfl rfl) rfl rfl rfl ?_
    refine AO.yld _ (Yld.fieldAddr Try.underlying109 rfl rfl Try.sizeOf107 rfl rfl rfl) rfl rfl rfl ?_
    refine AO.store Try.sizeOf107 rfl rfl rfl rfl rfl rfl ?_
    refine AO.nil ?_
    refine AC.seq ?_
    refine AC.seq ?_
    refine AC.draw (by kernel_rfl) (by kernel_rfl) ?_
    refine AO.yld _ (Yld.move rfl) rfl rfl rfl ?_
    refine AO.yld _ (Yld.nilCheck rfl rfl) rfl rfl rfl ?_
    refine AO.yld _ (Yld.fieldAddr Try.underlying109 rfl rfl Try.sizeOf3 rfl rfl rfl) rfl rfl rfl ?_
    refine AO.yld _ (Yld.load Try.isAgg3 rfl rfl) rfl rfl rfl ?_
    refine AO.yld _ (Yld.move rfl) rfl rfl rfl ?_
    refine AO.yld _ (Yld.nilCheck rfl rfl) rfl rfl rfl ?_
    refine AO.yld _ (Yld.fieldAddr Try.underlying109 rfl rfl Try.sizeOf30 rfl rfl rfl) rfl rfl rfl ?_
    refine AO.yld _ (Yld.load Try.isAgg30 rfl rfl) rfl rfl rfl ?_
    refine AO.yld _ (Yld.len Try.underlying30 rfl rfl) rfl rfl rfl ?_
    refine AO.yld _ (Yld.int rfl rfl rfl) rfl rfl rfl ?_
    refine AO.nil ?_
    refine AC.cond _ rfl (fun c53 => ?_) (fun c53 => ?_)
    · -- c53 True
      refine AC.seq ?_
      refine AC.region ?_
      refine AO.yld _ (Yld.move rfl) rfl rfl rfl ?_
      refine AO.yld _ (Yld.assign rfl) rfl rfl rfl ?_
      refine AO.nil ?_
      refine FnE.ret (_, _) [0] [0] Try.results73 (RVs.cons (RV.tmp rfl) RVs.nil) rfl rfl rfl ?_ rfl ⟨⟨_, rfl, rfl⟩, trivial⟩
      · -- holds
        show 0 ≤ _ ∧ _ ≤ _; first | exact byte_u8 _ | exact byte_of _ | exact ⟨by decide, by decide⟩
    · -- c53 False
      refine AC.skip ?_
      refine AC.seq ?_
      refine AC.region ?_
      refine AO.yld _ (Yld.move rfl) rfl rfl rfl ?_
      refine AO.yld _ (Yld.nilCheck rfl rfl) rfl rfl rfl ?_
      refine AO.yld _ (Yld.fieldAddr Try.underlying109 rfl rfl Try.sizeOf107 rfl rfl rfl) rfl rfl rfl ?_
      refine AO.yld _ (Yld.load Try.isAgg107 rfl rfl) rfl rfl rfl ?_
      refine AO.yld _ (Yld.shr rfl rfl (by omega)) rfl rfl rfl ?_
      refine AO.yld _ (Yld.and rfl rfl) rfl rfl rfl ?_
      refine AO.yld _ (Yld.convInt Try.underlying107 Try.underlying2 rfl) rfl rfl rfl ?_
      refine AO.yld _ (Yld.assign rfl) rfl rfl rfl ?_
      refine AO.nil ?_
      refine FnE.ret (_, _) [0] [0] Try.results73 (RVs.cons (RV.tmp rfl) RVs.nil) rfl rfl rfl ?_ rfl ⟨⟨_, rfl, rfl⟩, trivial⟩
      · -- holds
        show 0 ≤ _ ∧ _ ≤ _; first | exact byte_u8 _ | exact byte_of _ | exact ⟨by decide, by decide⟩
  · -- c13 False
    refine AC.skip ?_
    refine AC.seq ?_
    refine AC.region ?_
    refine AO.yld _ (Yld.move rfl) rfl rfl rfl ?_
    refine AO.yld _ (Yld.nilCheck rfl rfl) rfl rfl rfl ?_
    refine AO.yld _ (Yld.fieldAddr Try.underlying109 rfl rfl Try.sizeOf3 rfl rfl rfl) rfl rfl rfl ?_
    refine AO.yld _ (Yld.load Try.isAgg3 rfl rfl) rfl rfl rfl ?_
    refine AO.yld _ (Yld.add rfl rfl (by omega) (by omega)) rfl rfl rfl ?_
    refine AO.yld _ (Yld.nilCheck rfl rfl) rfl rfl rfl ?_
    refine AO.yld _ (Yld.fieldAddr Try.underlying109 rfl rfl Try.sizeOf3 rfl rfl rfl) rfl rfl rfl ?_
    refine AO.store Try.sizeOf3 rfl rfl rfl rfl rfl rfl ?_
    refine AO.nil ?_
    refine AC.seq ?_
    refine AC.region ?_
    refine AO.yld _ (Yld.move rfl) rfl rfl rfl ?_
    refine AO.yld _ (Yld.move rfl) rfl rfl rfl ?_
    refine AO.yld _ (Yld.nilCheck rfl rfl) rfl rfl rfl ?_
    refine AO.yld _ (Yld.fieldAddr Try.underlying109 rfl rfl Try.sizeOf107 rfl rfl rfl) rfl rfl rfl ?_
    refine AO.yld _ (Yld.load Try.isAgg107 rfl rfl) rfl rfl rfl ?_
    refine AO.yld _ (Yld.int rfl rfl rfl) rfl rfl rfl ?_
    refine AO.yld _ (Yld.move rfl) rfl rfl rfl ?_
    refine AO.yld _ (Yld.convInt Try.underlying3 Try.underlying107 rfl) rfl rfl rfl ?_
    refine AO.yld _ (Yld.int rfl rfl rfl) rfl rfl rfl ?_
    refine AO.yld _ (Yld.int rfl rfl rfl) rfl rfl rfl ?_
    refine AO.yld _ (Yld.nilCheck rfl rfl) rfl rfl rfl ?_
    refine AO.yld _ (Yld.fieldAddr Try.underlying109 rfl rfl Try.sizeOf107 rfl rfl rfl) rfl rfl rfl ?_
    refine AO.store Try.sizeOf107 rfl rfl rfl rfl rfl rfl ?_
    refine AO.nil ?_
    refine AC.seq ?_
    refine AC.seq ?_
    refine AC.draw (by kernel_rfl) (by kernel_rfl) ?_
    refine AO.yld _ (Yld.move rfl) rfl rfl rfl ?_
    refine AO.yld _ (Yld.nilCheck rfl rfl) rfl rfl rfl ?_
    refine AO.yld _ (Yld.fieldAddr Try.underlying109 rfl rfl Try.sizeOf3 rfl rfl rfl) rfl rfl rfl ?_
    refine AO.yld _ (Yld.load Try.isAgg3 rfl rfl) rfl rfl rfl ?_
    refine AO.yld _ (Yld.move rfl) rfl rfl rfl ?_
    refine AO.yld _ (Yld.nilCheck rfl rfl) rfl rfl rfl ?_
    refine AO.yld _ (Yld.fieldAddr Try.underlying109 rfl rfl Try.sizeOf30 rfl rfl rfl) rfl rfl rfl ?_
    refine AO.yld _ (Yld.load Try.isAgg30 rfl rfl) rfl rfl rfl ?_
    refine AO.yld _ (Yld.len Try.underlying30 rfl rfl) rfl rfl rfl ?_
    refine AO.yld _ (Yld.int rfl rfl rfl) rfl rfl rfl ?_
    refine AO.nil ?_
    refine AC.cond _ rfl (fun c53 => ?_) (fun c53 => ?_)
    · -- c53 True
      refine AC.seq ?_
      refine AC.region ?_
      refine AO.yld _ (Yld.move rfl) rfl rfl rfl ?_
      refine AO.yld _ (Yld.assign rfl) rfl rfl rfl ?_
      refine AO.nil ?_
      refine FnE.ret (_, _) [0] [0] Try.results73 (RVs.cons (RV.tmp rfl) RVs.nil) rfl rfl rfl ?_ rfl ⟨⟨_, rfl, rfl⟩, trivial⟩
      · -- holds
        show 0 ≤ _ ∧ _ ≤ _; first | exact byte_u8 _ | exact byte_of _ | exact ⟨by decide, by decide⟩
    · -- c53 False
      refine AC.skip ?_
      refine AC.seq ?_
      refine AC.region ?_
      refine AO.yld _ (Yld.move rfl) rfl rfl rfl ?_
      refine AO.yld _ (Yld.nilCheck rfl rfl) rfl rfl rfl ?_
      refine AO.yld _ (Yld.fieldAddr Try.underlying109 rfl rfl Try.sizeOf107 rfl rfl rfl) rfl rfl rfl ?_
      refine AO.yld _ (Yld.load Try.isAgg107 rfl rfl) rfl rfl rfl ?_
      refine AO.yld _ (Yld.shr rfl rfl (by omega)) rfl rfl rfl ?_
      refine AO.yld _ (Yld.and rfl rfl) rfl rfl rfl ?_
      refine AO.yld _ (Yld.convInt Try.underlying107 Try.underlying2 rfl) rfl rfl rfl ?_
      refine AO.yld _ (Yld.assign rfl) rfl rfl rfl ?_
      refine AO.nil ?_
      refine FnE.ret (_, _) [0] [0] Try.results73 (RVs.cons (RV.tmp rfl) RVs.nil) rfl rfl rfl ?_ rfl ⟨⟨_, rfl, rfl⟩, trivial⟩
      · -- holds
        show 0 ≤ _ ∧ _ ≤ _; first | exact byte_u8 _ | exact byte_of _ | exact ⟨by decide, by decide⟩

theorem src_pick_c {code : List UInt8} {p sd n : Int} (h0 : 0 ≤ p) (h1 : p ≤ 4611686018427387000) (h2 : 1 < n) :
    FnE (α := Int × Int × Int) Try.prog 48 [.h 0, .p (.v (.int .i64 n))] [(0, .box 109 [.p (.sl 1 (code.map encB)), .p (.v (.int .i64 p)), .p (.v (.int .u64 sd))])] [0] (fun ⟨v, q, s⟩ => 0 ≤ v ∧ v < n ∧ p ≤ q ∧ q ≤ p + 2) (fun ⟨v, q, s⟩ => .p (.v (.int .i64 v))) (fun ⟨v, q, s⟩ => [(0, .box 109 [.p (.sl 1 (code.map encB)), .p (.v (.int .i64 q)), .p (.v (.int .u64 s))])]) := by
  refine FnE.intro Try.func48 rfl Try.ntmps48 rfl rfl (fun w0 F0 η φ w => ?_)
  refine AC.seq ?_
  refine AC.region ?_
  refine AO.yld _ (Yld.assign rfl) rfl rfl rfl ?_
  refine AO.nil ?_
  refine AC.seq ?_
  refine AC.seq ?_
  refine AC.region ?_
  refine AO.yld _ (Yld.move rfl) rfl rfl rfl ?_
  refine AO.yld _ (Yld.int rfl rfl rfl) rfl rfl rfl ?_
  refine AO.nil ?_
  refine AC.cond _ rfl (fun c7 => ?_) (fun c7 => ?_)
  · -- c7 True
    exfalso; have h := c7; simp at h; omega
  · -- c7 False
    refine AC.skip ?_
    refine AC.seq ?_
    refine AC.region ?_
    refine AO.yld _ (Yld.move rfl) rfl rfl rfl ?_
    refine AO.callW (wantedN rfl) [0] [0] [0] rfl rfl Try.call73 rfl (src_next_c (by omega) (by omega)) (.own rfl) rfl (fun ⟨_, _⟩ => rfl) ⟨rfl, trivial⟩ rfl (fun ⟨_, _⟩ => rfl) (fun ⟨_, _⟩ => rfl) (fun ⟨v9, s9⟩ hv9 => ?_)
    dsimp only at hv9
    refine AO.yld _ (Yld.assign rfl) rfl rfl rfl ?_
    refine AO.nil ?_
    refine AC.seq ?_
    refine AC.seq ?_
    refine AC.region ?_
    refine AO.yld _ (Yld.move rfl) rfl rfl rfl ?_
    refine AO.yld _ (Yld.int rfl rfl rfl) rfl rfl rfl ?_
    refine AO.nil ?_
    refine AC.cond _ rfl (fun c11 => ?_) (fun c11 => ?_)
    · -- c11 True
      refine AC.region ?_
      refine AO.yld _ (Yld.move rfl) rfl rfl rfl ?_
      refine AO.yld _ (Yld.mul rfl rfl (by omega) (by omega)) rfl rfl rfl ?_
      refine AO.yld _ (Yld.move rfl) rfl rfl rfl ?_
      refine AO.callW (wantedN rfl) [0] [0] [0] rfl rfl Try.call73 rfl (src_next_c (by omega) (by omega)) (.own rfl) rfl (fun ⟨_, _⟩ => rfl) ⟨rfl, trivial⟩ rfl (fun ⟨_, _⟩ => rfl) (fun ⟨_, _⟩ => rfl) (fun ⟨v15, s15⟩ hv15 => ?_)
      dsimp only at hv15
      refine AO.yld _ (Yld.add rfl rfl (by omega) (by omega)) rfl rfl rfl ?_
      refine AO.yld _ (Yld.assign rfl) rfl rfl rfl ?_
      refine AO.nil ?_
      refine AC.seq ?_
      refine AC.region ?_
      refine AO.yld _ (Yld.move rfl) rfl rfl rfl ?_
      refine AO.yld _ (Yld.move rfl) rfl rfl rfl ?_
      refine AO.yld _ (Yld.rem rfl rfl (by omega)) rfl rfl rfl ?_
      refine AO.yld _ (Yld.assign rfl) rfl rfl rfl ?_
      refine AO.nil ?_
      refine FnE.ret (_, _, _) [0] [0] Try.results48 (RVs.cons (RV.tmp rfl) RVs.nil) rfl rfl rfl ?_ rfl ⟨⟨_, rfl, rfl⟩, trivial⟩
      · -- holds
        show 0 ≤ _ ∧ _ < _ ∧ _ ≤ _ ∧ _ ≤ _; first | exact pick_lim hv9 (by omega) (by omega) | exact pick_lim2 hv9 hv15 (by omega) (by omega)
    · -- c11 False
      refine AC.skip ?_
      refine AC.seq ?_
      refine AC.region ?_
      refine AO.yld _ (Yld.move rfl) rfl rfl rfl ?_
      refine AO.yld _ (Yld.move rfl) rfl rfl rfl ?_
      refine AO.yld _ (Yld.rem rfl rfl (by omega)) rfl rfl rfl ?_
      refine AO.yld _ (Yld.assign rfl) rfl rfl rfl ?_
      refine AO.nil ?_
      refine FnE.ret (_, _, _) [0] [0] Try.results48 (RVs.cons (RV.tmp rfl) RVs.nil) rfl rfl rfl ?_ rfl ⟨⟨_, rfl, rfl⟩, trivial⟩
      · -- holds
        show 0 ≤ _ ∧ _ < _ ∧ _ ≤ _ ∧ _ ≤ _; first | exact pick_lim hv9 (by omega) (by omega) | exact pick_lim2 hv9 hv15 (by omega) (by omega)

theorem laws_b10Long_c {code : List UInt8} :
    Pure Try.prog 13 [.sl 1 (code.map encB)] (.v (.bool (decide ((code.length : Int) > 1048576)))) := by
  refine Pure.intro Try.func13 rfl Try.ntmps13 rfl rfl (fun w => ?_)
  refine AC.seq ?_
  refine AC.region ?_
  refine AO.yld _ (Yld.assign rfl) rfl rfl rfl ?_
  refine AO.nil ?_
  refine AC.seq ?_
  refine AC.region ?_
  refine AO.yld _ (Yld.move rfl) rfl rfl rfl ?_
  refine AO.yld _ (Yld.len Try.underlying30 rfl rfl) rfl rfl rfl ?_
  refine AO.yld _ (Yld.int rfl rfl rfl) rfl rfl rfl ?_
  refine AO.yld _ (Yld.assign rfl) rfl rfl rfl ?_
  refine AO.nil ?_
  refine Pure.ret Try.results13 (RVs.cons (RV.tmp rfl) RVs.nil) rfl ?_
  refine cb ?_; simp only [List.length_map] at *

theorem spec_l00From_c {code : List UInt8} :
    FnE (α := Unit) Try.prog 44 [.p (.sl 1 (code.map encB))] [] [] (fun _ => True) (fun _ => .h 0) (fun _ => [(0, .box 109 [.p (.sl 1 (code.map encB)), .p (.v (.int .i64 0)), .p (.v (.int .u64 0))])]) := by
  refine FnE.intro Try.func44 rfl Try.ntmps44 rfl rfl (fun w0 F0 η φ w => ?_)
  refine AC.seq ?_
  refine AC.region ?_
  refine AO.yld _ (Yld.assign rfl) rfl rfl rfl ?_
  refine AO.nil ?_
  refine AC.seq ?_
  refine AC.region ?_
  refine AO.yld _ (Yld.move rfl) rfl rfl rfl ?_
  refine AO.yld _ (Yld.buildA (zs := [.sl 0 [], .v (.int .i64 0), .v (.int .u64 0)]) bld109 rfl rfl) rfl rfl rfl ?_
  refine AO.box 0 rfl rfl rfl rfl rfl ?_
  refine AO.yld _ (Yld.assign rfl) rfl rfl rfl ?_
  refine AO.nil ?_
  refine FnE.ret () [0] [0] Try.results44 (RVs.cons (RV.tmp rfl) RVs.nil) rfl rfl rfl ?_ ?_ ⟨⟨_, rfl, ?_⟩, trivial⟩
  · -- holds
    trivial
  · -- value
    rfl
  · -- thing 0
    rfl

theorem src_pick1_c {code : List UInt8} {p sd n : Int} (h0 : 0 ≤ p) (h1 : p ≤ 4611686018427387000) (h2 : 0 < n) :
    FnE (α := Int × Int × Int) Try.prog 48 [.h 0, .p (.v (.int .i64 n))] [(0, .box 109 [.p (.sl 1 (code.map encB)), .p (.v (.int .i64 p)), .p (.v (.int .u64 sd))])] [0] (fun ⟨v, q, s⟩ => 0 ≤ v ∧ v < n ∧ p ≤ q ∧ q ≤ p + 2) (fun ⟨v, q, s⟩ => .p (.v (.int .i64 v))) (fun ⟨v, q, s⟩ => [(0, .box 109 [.p (.sl 1 (code.map encB)), .p (.v (.int .i64 q)), .p (.v (.int .u64 s))])]) := by
  refine FnE.intro Try.func48 rfl Try.ntmps48 rfl rfl (fun w0 F0 η φ w => ?_)
  refine AC.seq ?_
  refine AC.region ?_
  refine AO.yld _ (Yld.assign rfl) rfl rfl rfl ?_
  refine AO.nil ?_
  refine AC.seq ?_
  refine AC.seq ?_
  refine AC.region ?_
  refine AO.yld _ (Yld.move rfl) rfl rfl rfl ?_
  refine AO.yld _ (Yld.int rfl rfl rfl) rfl rfl rfl ?_
  refine AO.nil ?_
  refine AC.cond _ rfl (fun c7 => ?_) (fun c7 => ?_)
  · -- c7 True
    refine AC.seq ?_
    refine AC.region ?_
    refine AO.yld _ (Yld.assign rfl) rfl rfl rfl ?_
    refine AO.nil ?_
    refine FnE.ret (_, _, _) [0] [0] Try.results48 (RVs.cons (RV.tmp rfl) RVs.nil) rfl rfl rfl ?_ rfl ⟨⟨_, rfl, rfl⟩, trivial⟩
    · -- holds
      show 0 ≤ _ ∧ _ < _ ∧ _ ≤ _ ∧ _ ≤ _; first | exact pickR0 h2 | exact pick_lim hv9 (by have h := c7; simp at h; omega) (by omega) | exact pick_lim2 hv9 hv15 (by have h := c7; simp at h; omega) (by omega)
  · -- c7 False
    refine AC.skip ?_
    refine AC.seq ?_
    refine AC.region ?_
    refine AO.yld _ (Yld.move rfl) rfl rfl rfl ?_
    refine AO.callW (wantedN rfl) [0] [0] [0] rfl rfl Try.call73 rfl (src_next_c (by omega) (by omega)) (.own rfl) rfl (fun ⟨_, _⟩ => rfl) ⟨rfl, trivial⟩ rfl (fun ⟨_, _⟩ => rfl) (fun ⟨_, _⟩ => rfl) (fun ⟨v9, s9⟩ hv9 => ?_)
    dsimp only at hv9
    refine AO.yld _ (Yld.assign rfl) rfl rfl rfl ?_
    refine AO.nil ?_
    refine AC.seq ?_
    refine AC.seq ?_
    refine AC.region ?_
    refine AO.yld _ (Yld.move rfl) rfl rfl rfl ?_
    refine AO.yld _ (Yld.int rfl rfl rfl) rfl rfl rfl ?_
    refine AO.nil ?_
    refine AC.cond _ rfl (fun c11 => ?_) (fun c11 => ?_)
    · -- c11 True
      refine AC.region ?_
      refine AO.yld _ (Yld.move rfl) rfl rfl rfl ?_
      refine AO.yld _ (Yld.mul rfl rfl (by omega) (by omega)) rfl rfl rfl ?_
      refine AO.yld _ (Yld.move rfl) rfl rfl rfl ?_
      refine AO.callW (wantedN rfl) [0] [0] [0] rfl rfl Try.call73 rfl (src_next_c (by omega) (by omega)) (.own rfl) rfl (fun ⟨_, _⟩ => rfl) ⟨rfl, trivial⟩ rfl (fun ⟨_, _⟩ => rfl) (fun ⟨_, _⟩ => rfl) (fun ⟨v15, s15⟩ hv15 => ?_)
      dsimp only at hv15
      refine AO.yld _ (Yld.add rfl rfl (by omega) (by omega)) rfl rfl rfl ?_
      refine AO.yld _ (Yld.assign rfl) rfl rfl rfl ?_
      refine AO.nil ?_
      refine AC.seq ?_
      refine AC.region ?_
      refine AO.yld _ (Yld.move rfl) rfl rfl rfl ?_
      refine AO.yld _ (Yld.move rfl) rfl rfl rfl ?_
      refine AO.yld _ (Yld.rem rfl rfl (by have h := c7; simp at h; omega)) rfl rfl rfl ?_
      refine AO.yld _ (Yld.assign rfl) rfl rfl rfl ?_
      refine AO.nil ?_
      refine FnE.ret (_, _, _) [0] [0] Try.results48 (RVs.cons (RV.tmp rfl) RVs.nil) rfl rfl rfl ?_ rfl ⟨⟨_, rfl, rfl⟩, trivial⟩
      · -- holds
        show 0 ≤ _ ∧ _ < _ ∧ _ ≤ _ ∧ _ ≤ _; first | exact pickR0 h2 | exact pick_lim hv9 (by have h := c7; simp at h; omega) (by omega) | exact pick_lim2 hv9 hv15 (by have h := c7; simp at h; omega) (by omega)
    · -- c11 False
      refine AC.skip ?_
      refine AC.seq ?_
      refine AC.region ?_
      refine AO.yld _ (Yld.move rfl) rfl rfl rfl ?_
      refine AO.yld _ (Yld.move rfl) rfl rfl rfl ?_
      refine AO.yld _ (Yld.rem rfl rfl (by have h := c7; simp at h; omega)) rfl rfl rfl ?_
      refine AO.yld _ (Yld.assign rfl) rfl rfl rfl ?_
      refine AO.nil ?_
      refine FnE.ret (_, _, _) [0] [0] Try.results48 (RVs.cons (RV.tmp rfl) RVs.nil) rfl rfl rfl ?_ rfl ⟨⟨_, rfl, rfl⟩, trivial⟩
      · -- holds
        show 0 ≤ _ ∧ _ < _ ∧ _ ≤ _ ∧ _ ≤ _; first | exact pickR0 h2 | exact pick_lim hv9 (by have h := c7; simp at h; omega) (by omega) | exact pick_lim2 hv9 hv15 (by have h := c7; simp at h; omega) (by omega)

theorem src_one_c {code : List UInt8} {p sd n : Int} (h0 : 0 ≤ p) (h1 : p ≤ 2000000000000000000) (h2 : 1 < n) :
    FnE (α := Bool × Int × Int) Try.prog 46 [.h 0, .p (.v (.int .i64 n))] [(0, .box 109 [.p (.sl 1 (code.map encB)), .p (.v (.int .i64 p)), .p (.v (.int .u64 sd))])] [0] (fun ⟨b, q, s⟩ => p ≤ q ∧ q ≤ p + 2) (fun ⟨b, q, s⟩ => .p (.v (.bool b))) (fun ⟨b, q, s⟩ => [(0, .box 109 [.p (.sl 1 (code.map encB)), .p (.v (.int .i64 q)), .p (.v (.int .u64 s))])]) := by
  refine FnE.intro Try.func46 rfl Try.ntmps46 rfl rfl (fun w0 F0 η φ w => ?_)
  refine AC.seq ?_
  refine AC.region ?_
  refine AO.yld _ (Yld.assign rfl) rfl rfl rfl ?_
  refine AO.nil ?_
  refine AC.seq ?_
  refine AC.region ?_
  refine AO.yld _ (Yld.move rfl) rfl rfl rfl ?_
  refine AO.yld _ (Yld.move rfl) rfl rfl rfl ?_
  refine AO.callW (wantedN rfl) [0] [0] [0] rfl rfl Try.call48 rfl (src_pick_c (by omega) (by omega) (by omega)) (.own rfl) rfl (fun ⟨_, _, _⟩ => rfl) ⟨rfl, trivial⟩ rfl (fun ⟨_, _, _⟩ => rfl) (fun ⟨_, _, _⟩ => rfl) (fun ⟨v7, q7, s7⟩ hv7 => ?_)
  dsimp only at hv7
  refine AO.yld _ (Yld.int rfl rfl rfl) rfl rfl rfl ?_
  refine AO.yld _ (Yld.assign rfl) rfl rfl rfl ?_
  refine AO.nil ?_
  refine FnE.ret (_, _, _) [0] [0] Try.results46 (RVs.cons (RV.tmp rfl) RVs.nil) rfl rfl rfl ?_ rfl ⟨⟨_, rfl, rfl⟩, trivial⟩
  · -- holds
    show _ ≤ _ ∧ _ ≤ _; omega

theorem src_among_c {code : List UInt8} {p sd : Int} (h0 : 0 ≤ p) (h1 : p ≤ 2000000000000000000) {xs : List (Int)} (hx : 1 < xs.length) (hl : xs.length ≤ 1000) :
    FnE (α := Int × Int × Int) Try.prog 47 [.h 0, .h 1] [(0, .box 109 [.p (.sl 1 (code.map encB)), .p (.v (.int .i64 p)), .p (.v (.int .u64 sd))]), (1, .vec 2 1 (xs.map Go.V.encI))] [0] (fun ⟨v, q, s⟩ => v ∈ xs ∧ p ≤ q ∧ q ≤ p + 2) (fun ⟨v, q, s⟩ => .p (.v (.int .i64 v))) (fun ⟨v, q, s⟩ => [(0, .box 109 [.p (.sl 1 (code.map encB)), .p (.v (.int .i64 q)), .p (.v (.int .u64 s))])]) := by
  have hM : (xs.map Go.V.encI).length = xs.length := List.length_map ..
  refine FnE.intro Try.func47 rfl Try.ntmps47 rfl rfl (fun w0 F0 η φ w => ?_)
  refine AC.seq ?_
  refine AC.region ?_
  refine AO.yld _ (Yld.assign rfl) rfl rfl rfl ?_
  refine AO.nil ?_
  refine AC.seq ?_
  refine AC.region ?_
  refine AO.yld _ (Yld.move rfl) rfl rfl rfl ?_
  refine AO.yld _ (Yld.move rfl) rfl rfl rfl ?_
  refine AO.yld _ (Yld.move rfl) rfl rfl rfl ?_
  refine AO.yld _ (Yld.len Try.underlying42 rfl rfl) rfl rfl rfl ?_
  refine AO.callW (wantedN rfl) [0] [0] [0] rfl rfl Try.call48 rfl (src_pick_c (by omega) (by omega) (by rw [hM]; omega)) (.own rfl) rfl (fun ⟨_, _, _⟩ => rfl) ⟨rfl, trivial⟩ rfl (fun ⟨_, _, _⟩ => rfl) (fun ⟨_, _, _⟩ => rfl) (fun ⟨v9, q9, s9⟩ hv9 => ?_)
  dsimp only at hv9
  rw [hM] at hv9
  obtain ⟨j, hj⟩ := Int.eq_ofNat_of_zero_le hv9.1
  obtain ⟨y, hy⟩ := get_some (xs := xs) (k := j) (by omega)
  have hrow := map_row (enc := Go.V.encI) hy
  refine AO.yld _ (Yld.indexVec Try.underlying42 Try.sizeOf2 rfl rfl rfl hj (by rw [hM]; omega)) rfl rfl rfl ?_
  refine AO.yld _ (Yld.load Try.isAgg2 rfl (Eq.trans (behind_el rfl hrow) rfl)) rfl rfl rfl ?_
  refine AO.yld _ (Yld.assign rfl) rfl rfl rfl ?_
  refine AO.nil ?_
  refine FnE.ret (_, _, _) [0] [0] Try.results47 (RVs.cons (RV.tmp rfl) RVs.nil) rfl rfl rfl ?_ rfl ⟨⟨_, rfl, rfl⟩, trivial⟩
  · -- holds
    exact ⟨List.mem_of_getElem? hy, by omega, by omega⟩

theorem src_text_c {code : List UInt8} {p sd : Int} (h0 : 0 ≤ p) (h1 : p ≤ 2000000000000000000) {xs : List (List UInt8)} (hx : 1 < xs.length) (hl : xs.length ≤ 1000) :
    FnE (α := (List UInt8) × Int × Int) Try.prog 93 [.h 0, .h 1] [(0, .box 109 [.p (.sl 1 (code.map encB)), .p (.v (.int .i64 p)), .p (.v (.int .u64 sd))]), (1, .vec 9 1 (xs.map Go.V.encS))] [0] (fun ⟨v, q, s⟩ => v ∈ xs ∧ p ≤ q ∧ q ≤ p + 2) (fun ⟨v, q, s⟩ => .p (.v (str v))) (fun ⟨v, q, s⟩ => [(0, .box 109 [.p (.sl 1 (code.map encB)), .p (.v (.int .i64 q)), .p (.v (.int .u64 s))])]) := by
  have hM : (xs.map Go.V.encS).length = xs.length := List.length_map ..
  refine FnE.intro Try.func93 rfl Try.ntmps93 rfl rfl (fun w0 F0 η φ w => ?_)
  refine AC.seq ?_
  refine AC.region ?_
  refine AO.yld _ (Yld.assign rfl) rfl rfl rfl ?_
  refine AO.nil ?_
  refine AC.seq ?_
  refine AC.region ?_
  refine AO.yld _ (Yld.move rfl) rfl rfl rfl ?_
  refine AO.yld _ (Yld.move rfl) rfl rfl rfl ?_
  refine AO.yld _ (Yld.move rfl) rfl rfl rfl ?_
  refine AO.yld _ (Yld.len Try.underlying59 rfl rfl) rfl rfl rfl ?_
  refine AO.callW (wantedN rfl) [0] [0] [0] rfl rfl Try.call48 rfl (src_pick_c (by omega) (by omega) (by rw [hM]; omega)) (.own rfl) rfl (fun ⟨_, _, _⟩ => rfl) ⟨rfl, trivial⟩ rfl (fun ⟨_, _, _⟩ => rfl) (fun ⟨_, _, _⟩ => rfl) (fun ⟨v9, q9, s9⟩ hv9 => ?_)
  dsimp only at hv9
  rw [hM] at hv9
  obtain ⟨j, hj⟩ := Int.eq_ofNat_of_zero_le hv9.1
  obtain ⟨y, hy⟩ := get_some (xs := xs) (k := j) (by omega)
  have hrow := map_row (enc := Go.V.encS) hy
  refine AO.yld _ (Yld.indexVec Try.underlying59 Try.sizeOf9 rfl rfl rfl hj (by rw [hM]; omega)) rfl rfl rfl ?_
  refine AO.yld _ (Yld.load Try.isAgg9 rfl (Eq.trans (behind_el rfl hrow) rfl)) rfl rfl rfl ?_
  refine AO.yld _ (Yld.assign rfl) rfl rfl rfl ?_
  refine AO.nil ?_
  refine FnE.ret (_, _, _) [0] [0] Try.results93 (RVs.cons (RV.tmp rfl) RVs.nil) rfl rfl rfl ?_ rfl ⟨⟨_, rfl, rfl⟩, trivial⟩
  · -- holds
    exact ⟨List.mem_of_getElem? hy, by omega, by omega⟩

theorem spec_l28DrawSession_c {code : List UInt8} {p sd : Int} (h0 : 0 ≤ p) (h1 : p ≤ 1000000000000000000) {dy : Int} :
    FnE (α := Int × Int × Int × Int × Int) Try.prog 71 [.h 0, .p (.v (.int .i64 dy))] [(0, .box 109 [.p (.sl 1 (code.map encB)), .p (.v (.int .i64 p)), .p (.v (.int .u64 sd))])] [0] (fun ⟨tu, li, er, q, s⟩ => p ≤ q ∧ q ≤ p + 6) (fun ⟨tu, li, er, q, s⟩ => .agg [.p (.v (.int .i64 dy)), .p (.v (.int .i64 tu)), .p (.v (.int .i64 li)), .p (.v (.int .i64 er))]) (fun ⟨tu, li, er, q, s⟩ => [(0, .box 109 [.p (.sl 1 (code.map encB)), .p (.v (.int .i64 q)), .p (.v (.int .u64 s))])]) := by
  refine FnE.intro Try.func71 rfl Try.ntmps71 rfl rfl (fun w0 F0 η φ w => ?_)
  refine AC.seq ?_
  refine AC.region ?_
  refine AO.alloc 1 Try.zeroValue35 rfl rfl rfl ?_
  refine AO.nil ?_
  refine AC.seq ?_
  refine AC.region ?_
  refine AO.yld _ (Yld.move rfl) rfl rfl rfl ?_
  refine AO.yld _ (Yld.move rfl) rfl rfl rfl ?_
  refine AO.callW (wantedN rfl) [0] [0] [0] rfl rfl Try.call48 rfl (src_pick_c (by omega) (by omega) (by omega)) (.own rfl) rfl (fun ⟨_, _, _⟩ => rfl) ⟨rfl, trivial⟩ rfl (fun ⟨_, _, _⟩ => rfl) (fun ⟨_, _, _⟩ => rfl) (fun ⟨v8, q8, s8⟩ hv8 => ?_)
  dsimp only at hv8
  refine AO.yld _ (Yld.sub rfl rfl (by omega) (by omega)) rfl rfl rfl ?_
  refine AO.yld _ (Yld.buildA (zs := [.v (.int .i64 0), .v (.int .i64 0), .v (.int .i64 0), .v (.int .i64 0)]) bld35 rfl rfl) rfl rfl rfl ?_
  refine AO.alloc 2 Try.zeroValue35 rfl rfl rfl ?_
  refine AO.store Try.sizeOf35 rfl rfl rfl rfl rfl rfl ?_
  refine AO.nil ?_
  refine AC.seq ?_
  refine AC.region ?_
  refine AO.yld _ (Yld.move rfl) rfl rfl rfl ?_
  refine AO.callW (wantedN rfl) [0] [0] [0] rfl rfl Try.call48 rfl (src_pick_c (by omega) (by omega) (by omega)) (.own rfl) rfl (fun ⟨_, _, _⟩ => rfl) ⟨rfl, trivial⟩ rfl (fun ⟨_, _, _⟩ => rfl) (fun ⟨_, _, _⟩ => rfl) (fun ⟨v12, q12, s12⟩ hv12 => ?_)
  dsimp only at hv12
  refine AO.yld _ (Yld.sub rfl rfl (by omega) (by omega)) rfl rfl rfl ?_
  refine AO.yld _ (Yld.fieldAddr Try.underlying35 rfl rfl Try.sizeOf2 rfl rfl rfl) rfl rfl rfl ?_
  refine AO.store Try.sizeOf2 rfl rfl rfl rfl rfl rfl ?_
  refine AO.nil ?_
  refine AC.seq ?_
  refine AC.region ?_
  refine AO.yld _ (Yld.move rfl) rfl rfl rfl ?_
  refine AO.callW (wantedN rfl) [0] [0] [0] rfl rfl Try.call48 rfl (src_pick_c (by omega) (by omega) (by omega)) (.own rfl) rfl (fun ⟨_, _, _⟩ => rfl) ⟨rfl, trivial⟩ rfl (fun ⟨_, _, _⟩ => rfl) (fun ⟨_, _, _⟩ => rfl) (fun ⟨v16, q16, s16⟩ hv16 => ?_)
  dsimp only at hv16
  refine AO.yld _ (Yld.fieldAddr Try.underlying35 rfl rfl Try.sizeOf2 rfl rfl rfl) rfl rfl rfl ?_
  refine AO.store Try.sizeOf2 rfl rfl rfl rfl rfl rfl ?_
  refine AO.nil ?_
  refine AC.seq ?_
  refine AC.region ?_
  refine AO.yld _ (Yld.loadAgg Try.isAgg35 Try.sizeOf35 rfl rfl rfl rfl) rfl rfl rfl ?_
  refine AO.store Try.sizeOf35 rfl rfl rfl rfl rfl rfl ?_
  refine AO.nil ?_
  refine FnE.ret (_, _, _, _, _) [0] [0] Try.results71 (RVs.cons (RV.cell Try.isAgg35 Try.sizeOf35 rfl rfl rfl rfl) RVs.nil) rfl rfl rfl ?_ rfl ⟨⟨_, rfl, rfl⟩, trivial⟩
  · -- holds
    show _ ≤ _ ∧ _ ≤ _; omega

theorem spec_l28Bend_c {code : List UInt8} {p sd dy tu li er : Int} (h0 : 0 ≤ p) (h1 : p ≤ 1000000000000000000) :
    FnE (α := Int × Int × Int × Int × Int × Int) Try.prog 72 [.h 0, .agg [.p (.v (.int .i64 dy)), .p (.v (.int .i64 tu)), .p (.v (.int .i64 li)), .p (.v (.int .i64 er))]] [(0, .box 109 [.p (.sl 1 (code.map encB)), .p (.v (.int .i64 p)), .p (.v (.int .u64 sd))])] [0] (fun ⟨dy2, tu2, li2, er2, q, s⟩ => p ≤ q ∧ q ≤ p + 4) (fun ⟨dy2, tu2, li2, er2, q, s⟩ => .agg [.p (.v (.int .i64 dy2)), .p (.v (.int .i64 tu2)), .p (.v (.int .i64 li2)), .p (.v (.int .i64 er2))]) (fun ⟨dy2, tu2, li2, er2, q, s⟩ => [(0, .box 109 [.p (.sl 1 (code.map encB)), .p (.v (.int .i64 q)), .p (.v (.int .u64 s))])]) := by
  refine FnE.intro Try.func72 rfl Try.ntmps72 rfl rfl (fun w0 F0 η φ w => ?_)
  refine AC.seq ?_
  refine AC.region ?_
  refine AO.box 1 rfl rfl rfl rfl rfl ?_
  refine AO.alloc 2 Try.zeroValue35 rfl rfl rfl ?_
  refine AO.nil ?_
  refine AC.seq ?_
  refine AC.seq ?_
  refine AC.region ?_
  refine AO.yld _ (Yld.move rfl) rfl rfl rfl ?_
  refine AO.callW (wantedN rfl) [0] [0] [0] rfl rfl Try.call48 rfl (src_pick_c (by omega) (by omega) (by omega)) (.own rfl) rfl (fun ⟨_, _, _⟩ => rfl) ⟨rfl, trivial⟩ rfl (fun ⟨_, _, _⟩ => rfl) (fun ⟨_, _, _⟩ => rfl) (fun ⟨v6, q6, s6⟩ hv6 => ?_)
  dsimp only at hv6
  refine AO.nil ?_
  refine AC.block ?_
  refine AC.seq ?_
  refine AC.region ?_
  refine AO.yld _ (Yld.int rfl rfl rfl) rfl rfl rfl ?_
  refine AO.yld _ (Yld.assign rfl) rfl rfl rfl ?_
  refine AO.nil ?_
  refine AC.cond _ rfl (fun c7 => ?_) (fun c7 => ?_)
  · -- c7 True
    refine AC.region ?_
    refine AO.yld _ (Yld.move rfl) rfl rfl rfl ?_
    refine AO.buildSlice (rows := [[_], [_], [_]]) 3 Try.underlying42 ty2 rfl rfl rfl rfl rfl rfl rfl rfl rfl ?_
    refine AO.callW (wantedN rfl) [0, 3] [0, 1] [0] rfl rfl Try.call47 rfl (src_among_c (by omega) (by omega) (xs := [-5001, 5000, 5001]) (by decide) (by decide)) (.own rfl) rfl (fun ⟨_, _, _⟩ => rfl) ⟨rfl, rfl, trivial⟩ rfl (fun ⟨_, _, _⟩ => rfl) (fun ⟨_, _, _⟩ => rfl) (fun ⟨v11, q11, s11⟩ hv11 => ?_)
    dsimp only at hv11
    refine AO.yld _ (Yld.fieldAddr Try.underlying35 rfl rfl Try.sizeOf2 rfl rfl rfl) rfl rfl rfl ?_
    refine AO.store Try.sizeOf2 rfl rfl rfl rfl rfl rfl ?_
    refine AO.nil ?_
    refine AC.mark ?_
    refine AC.seq ?_
    refine AC.region ?_
    refine AO.yld _ (Yld.loadAgg Try.isAgg35 Try.sizeOf35 rfl rfl rfl rfl) rfl rfl rfl ?_
    refine AO.store Try.sizeOf35 rfl rfl rfl rfl rfl rfl ?_
    refine AO.nil ?_
    refine FnE.ret (_, _, _, _, _, _) [0] [0] Try.results72 (RVs.cons (RV.cell Try.isAgg35 Try.sizeOf35 rfl rfl rfl rfl) RVs.nil) rfl rfl rfl ?_ rfl ⟨⟨_, rfl, rfl⟩, trivial⟩
    · -- holds
      show _ ≤ _ ∧ _ ≤ _; omega
  · -- c7 False
    refine AC.seq ?_
    refine AC.region ?_
    refine AO.yld _ (Yld.int rfl rfl rfl) rfl rfl rfl ?_
    refine AO.yld _ (Yld.assign rfl) rfl rfl rfl ?_
    refine AO.nil ?_
    refine AC.cond _ rfl (fun c13 => ?_) (fun c13 => ?_)
    · -- c13 True
      refine AC.region ?_
      refine AO.yld _ (Yld.move rfl) rfl rfl rfl ?_
      refine AO.buildSlice (rows := [[_], [_], [_]]) 3 Try.underlying42 ty2 rfl rfl rfl rfl rfl rfl rfl rfl rfl ?_
      refine AO.callW (wantedN rfl) [0, 3] [0, 1] [0] rfl rfl Try.call47 rfl (src_among_c (by omega) (by omega) (xs := [-1, 180000, 180001]) (by decide) (by decide)) (.own rfl) rfl (fun ⟨_, _, _⟩ => rfl) ⟨rfl, rfl, trivial⟩ rfl (fun ⟨_, _, _⟩ => rfl) (fun ⟨_, _, _⟩ => rfl) (fun ⟨v17, q17, s17⟩ hv17 => ?_)
      dsimp only at hv17
      refine AO.yld _ (Yld.fieldAddr Try.underlying35 rfl rfl Try.sizeOf2 rfl rfl rfl) rfl rfl rfl ?_
      refine AO.store Try.sizeOf2 rfl rfl rfl rfl rfl rfl ?_
      refine AO.nil ?_
      refine AC.mark ?_
      refine AC.seq ?_
      refine AC.region ?_
      refine AO.yld _ (Yld.loadAgg Try.isAgg35 Try.sizeOf35 rfl rfl rfl rfl) rfl rfl rfl ?_
      refine AO.store Try.sizeOf35 rfl rfl rfl rfl rfl rfl ?_
      refine AO.nil ?_
      refine FnE.ret (_, _, _, _, _, _) [0] [0] Try.results72 (RVs.cons (RV.cell Try.isAgg35 Try.sizeOf35 rfl rfl rfl rfl) RVs.nil) rfl rfl rfl ?_ rfl ⟨⟨_, rfl, rfl⟩, trivial⟩
      · -- holds
        show _ ≤ _ ∧ _ ≤ _; omega
    · -- c13 False
      refine AC.seq ?_
      refine AC.region ?_
      refine AO.yld _ (Yld.int rfl rfl rfl) rfl rfl rfl ?_
      refine AO.yld _ (Yld.assign rfl) rfl rfl rfl ?_
      refine AO.nil ?_
      refine AC.cond _ rfl (fun c19 => ?_) (fun c19 => ?_)
      · -- c19 True
        refine AC.region ?_
        refine AO.yld _ (Yld.move rfl) rfl rfl rfl ?_
        refine AO.buildSlice (rows := [[_], [_]]) 3 Try.underlying42 ty2 rfl rfl rfl rfl rfl rfl rfl rfl rfl ?_
        refine AO.callW (wantedN rfl) [0, 3] [0, 1] [0] rfl rfl Try.call47 rfl (src_among_c (by omega) (by omega) (xs := [-1, 100001]) (by decide) (by decide)) (.own rfl) rfl (fun ⟨_, _, _⟩ => rfl) ⟨rfl, rfl, trivial⟩ rfl (fun ⟨_, _, _⟩ => rfl) (fun ⟨_, _, _⟩ => rfl) (fun ⟨v23, q23, s23⟩ hv23 => ?_)
        dsimp only at hv23
        refine AO.yld _ (Yld.fieldAddr Try.underlying35 rfl rfl Try.sizeOf2 rfl rfl rfl) rfl rfl rfl ?_
        refine AO.store Try.sizeOf2 rfl rfl rfl rfl rfl rfl ?_
        refine AO.nil ?_
        refine AC.mark ?_
        refine AC.seq ?_
        refine AC.region ?_
        refine AO.yld _ (Yld.loadAgg Try.isAgg35 Try.sizeOf35 rfl rfl rfl rfl) rfl rfl rfl ?_
        refine AO.store Try.sizeOf35 rfl rfl rfl rfl rfl rfl ?_
        refine AO.nil ?_
        refine FnE.ret (_, _, _, _, _, _) [0] [0] Try.results72 (RVs.cons (RV.cell Try.isAgg35 Try.sizeOf35 rfl rfl rfl rfl) RVs.nil) rfl rfl rfl ?_ rfl ⟨⟨_, rfl, rfl⟩, trivial⟩
        · -- holds
          show _ ≤ _ ∧ _ ≤ _; omega
      · -- c19 False
        refine AC.skip ?_
        refine AC.mark ?_
        refine AC.seq ?_
        refine AC.region ?_
        refine AO.yld _ (Yld.loadAgg Try.isAgg35 Try.sizeOf35 rfl rfl rfl rfl) rfl rfl rfl ?_
        refine AO.store Try.sizeOf35 rfl rfl rfl rfl rfl rfl ?_
        refine AO.nil ?_
        refine FnE.ret (_, _, _, _, _, _) [0] [0] Try.results72 (RVs.cons (RV.cell Try.isAgg35 Try.sizeOf35 rfl rfl rfl rfl) RVs.nil) rfl rfl rfl ?_ rfl ⟨⟨_, rfl, rfl⟩, trivial⟩
        · -- holds
          show _ ≤ _ ∧ _ ≤ _; omega

set_option maxHeartbeats 2000000 in
theorem spec_l28DrawSessions_c {code : List UInt8} {p sd : Int} (h0 : 0 ≤ p) (h1 : p ≤ 1000000000000000) :
    FnE (α := List Session × Int × Int) Try.prog 45 [.h 0] [(0, .box 109 [.p (.sl 1 (code.map encB)), .p (.v (.int .i64 p)), .p (.v (.int .u64 sd))])] [0] (fun ⟨xs, q, s⟩ => xs.length ≤ 40 ∧ p ≤ q ∧ q ≤ p + 200) (fun ⟨xs, q, s⟩ => .h 1) (fun ⟨xs, q, s⟩ => [(0, .box 109 [.p (.sl 1 (code.map encB)), .p (.v (.int .i64 q)), .p (.v (.int .u64 s))]), (1, .vec 35 4 (xs.map encSession))]) := by
  refine FnE.intro Try.func45 rfl Try.ntmps45 rfl rfl (fun w0 F0 η φ w => ?_)
  refine AC.seq ?_
  refine AC.region ?_
  refine AO.yld _ (Yld.assign rfl) rfl rfl rfl ?_
  refine AO.nil ?_
  refine AC.seq ?_
  refine AC.region ?_
  refine AO.buildSlice (rows := []) 1 Try.underlying26 ty35 rfl rfl rfl rfl rfl rfl rfl rfl rfl ?_
  refine AO.yld _ (Yld.assign rfl) rfl rfl rfl ?_
  refine AO.nil ?_
  refine AC.seq ?_
  refine AC.region ?_
  refine AO.yld _ (Yld.move rfl) rfl rfl rfl ?_
  refine AO.callW (wantedN rfl) [0] [0] [0] rfl rfl Try.call48 rfl (src_pick_c (by omega) (by omega) (by omega)) (.own rfl) rfl (fun ⟨_, _, _⟩ => rfl) ⟨rfl, trivial⟩ rfl (fun ⟨_, _, _⟩ => rfl) (fun ⟨_, _, _⟩ => rfl) (fun ⟨v10, q10, s10⟩ hv10 => ?_)
  dsimp only at hv10
  refine AO.yld _ (Yld.assign rfl) rfl rfl rfl ?_
  refine AO.nil ?_
  refine AC.seq ?_
  refine AC.seq ?_
  refine AC.region ?_
  refine AO.yld _ (Yld.move rfl) rfl rfl rfl ?_
  refine AO.callW (wantedN rfl) [0] [0] [0] rfl rfl Try.call48 rfl (src_pick_c (by omega) (by omega) (by omega)) (.own rfl) rfl (fun ⟨_, _, _⟩ => rfl) ⟨rfl, trivial⟩ rfl (fun ⟨_, _, _⟩ => rfl) (fun ⟨_, _, _⟩ => rfl) (fun ⟨v12, q12, s12⟩ hv12 => ?_)
  dsimp only at hv12
  refine AO.yld _ (Yld.assign rfl) rfl rfl rfl ?_
  refine AO.nil ?_
  refine AC.block ?_
  refine AC.loopC5 [(0, _), (2, _)] [(900, _)] (fun (k : Nat) (xs : List Session) (dy q s : Int) => [(5, .p (.v (.int .i64 (k : Int)))), (4, .p (.v (.int .i64 dy))), (3, .h 1)]) (fun (k : Nat) (xs : List Session) (dy q s : Int) => [(0, .box 109 [.p (.sl 1 (code.map encB)), .p (.v (.int .i64 q)), .p (.v (.int .u64 s))]), (1, .vec 35 4 (xs.map encSession))]) (fun (k : Nat) (xs : List Session) (dy q s : Int) => xs.length + k ≤ 5 ∧ 0 ≤ dy ∧ dy ≤ 100 + 100 * (xs.length : Int) ∧ p ≤ q ∧ q ≤ p + 4 + 20 * (xs.length : Int)) (fun (k : Nat) (xs : List Session) (dy q s : Int) => k) v12.toNat [] v10 q12 s12 ⟨rfl, rfl, trivial⟩ ⟨rfl, trivial⟩ ⟨(by have : ((v12.toNat : Nat) : Int) = v12 := Int.toNat_of_nonneg hv12.1; rw [this]; rfl), rfl, rfl, trivial⟩ ⟨rfl, rfl, trivial⟩ ?_ (fun k xs dy q s hJ => ?_)
  · exact ⟨by show 0 + _ ≤ 5; omega, by omega, by show _ ≤ 100 + 100 * (0 : Int); omega, by omega, by show _ ≤ _ + 4 + 20 * (0 : Int); omega⟩
  · -- round
    refine AC.seq ?_
    refine AC.seq ?_
    refine AC.region ?_
    refine AO.yld _ (Yld.move rfl) rfl rfl rfl ?_
    refine AO.yld _ (Yld.int rfl rfl rfl) rfl rfl rfl ?_
    refine AO.nil ?_
    refine AC.cond _ rfl (fun c14 => ?_) (fun c14 => ?_)
    · -- c14 True
      have hk : 0 < k := by have h := c14; simp only [decide_eq_true_eq] at h; omega
      refine AC.skip ?_
      refine AC.seq ?_
      refine AC.block ?_
      refine AC.seq ?_
      refine AC.region ?_
      refine AO.yld _ (Yld.move rfl) rfl rfl rfl ?_
      refine AO.yld _ (Yld.move rfl) rfl rfl rfl ?_
      refine AO.yld _ (Yld.move rfl) rfl rfl rfl ?_
      refine AO.callW (wantedN rfl) [0] [0] [0] rfl rfl Try.call71 rfl (spec_l28DrawSession_c (by omega) (by omega)) (.own rfl) rfl (fun ⟨_, _, _, _, _⟩ => rfl) ⟨rfl, trivial⟩ rfl (fun ⟨_, _, _, _, _⟩ => rfl) (fun ⟨_, _, _, _, _⟩ => rfl) (fun ⟨tu20, li20, er20, q20, s20⟩ htu20 => ?_)
      dsimp only at htu20
      refine AO.buildSlice (rows := [[_, _, _, _]]) 2 Try.underlying26 ty35 rfl rfl rfl rfl rfl rfl rfl rfl rfl ?_
      refine AO.append 1 Try.underlying26 ty35 rfl rfl rfl rfl rfl rfl rfl (by simp [pvOne]) (by simp only [List.length_map, List.length_cons, List.length_nil, List.length_append]; omega) (by simp only [List.length_map, List.length_cons, List.length_nil, List.length_append]; omega) rfl ?_
      refine AO.yld _ (Yld.assign rfl) rfl rfl rfl ?_
      refine AO.nil ?_
      refine AC.region ?_
      refine AO.yld _ (Yld.move rfl) rfl rfl rfl ?_
      refine AO.yld _ (Yld.move rfl) rfl rfl rfl ?_
      refine AO.callW (wantedN rfl) [0] [0] [0] rfl rfl Try.call48 rfl (src_pick_c (by omega) (by omega) (by omega)) (.own rfl) rfl (fun ⟨_, _, _⟩ => rfl) ⟨rfl, trivial⟩ rfl (fun ⟨_, _, _⟩ => rfl) (fun ⟨_, _, _⟩ => rfl) (fun ⟨v25, q25, s25⟩ hv25 => ?_)
      dsimp only at hv25
      refine AO.yld _ (Yld.add rfl rfl (by omega) (by omega)) rfl rfl rfl ?_
      refine AO.yld _ (Yld.add rfl rfl (by omega) (by omega)) rfl rfl rfl ?_
      refine AO.yld _ (Yld.assign rfl) rfl rfl rfl ?_
      refine AO.nil ?_
      refine AC.mark ?_
      refine AC.region ?_
      refine AO.yld _ (Yld.move rfl) rfl rfl rfl ?_
      refine AO.yld _ (Yld.sub rfl rfl (by omega) (by omega)) rfl rfl rfl ?_
      refine AO.yld _ (Yld.assign rfl) rfl rfl rfl ?_
      refine AO.nil ?_
      refine AC.back ⟨k - 1, xs ++ [⟨dy, tu20, li20, er20⟩], dy + (1 + v25), q25, s25, ?_, ?_, ⟨?_, ?_, ?_, trivial⟩, ⟨?_, ?_, trivial⟩, ⟨rfl, rfl, trivial⟩, ⟨rfl, trivial⟩⟩
      · exact ⟨by simp only [List.length_append, List.length_cons, List.length_nil]; omega, by omega, by simp only [List.length_append, List.length_cons, List.length_nil]; omega, by omega, by simp only [List.length_append, List.length_cons, List.length_nil]; omega⟩
      · omega
      · show some (AV.p (PV.v (Value.int IntKind.i64 _))) = _; congr 4; omega
      · rfl
      · rfl
      · rfl
      · rw [map_snoc]; rfl
    · -- c14 False
      refine AC.exit rfl ?_
      refine AC.seq ?_
      refine AC.seq ?_
      refine AC.region ?_
      refine AO.yld _ (Yld.move rfl) rfl rfl rfl ?_
      refine AO.callW (wantedN rfl) [0] [0] [0] rfl rfl Try.call48 rfl (src_pick_c (by omega) (by omega) (by omega)) (.own rfl) rfl (fun ⟨_, _, _⟩ => rfl) ⟨rfl, trivial⟩ rfl (fun ⟨_, _, _⟩ => rfl) (fun ⟨_, _, _⟩ => rfl) (fun ⟨v29, q29, s29⟩ hv29 => ?_)
      dsimp only at hv29
      refine AO.nil ?_
      refine AC.block ?_
      refine AC.seq ?_
      refine AC.region ?_
      refine AO.yld _ (Yld.int rfl rfl rfl) rfl rfl rfl ?_
      refine AO.yld _ (Yld.assign rfl) rfl rfl rfl ?_
      refine AO.nil ?_
      refine AC.cond _ rfl (fun c30 => ?_) (fun c30 => ?_)
      · -- c30 True
        refine AC.region ?_
        refine AO.yld _ (Yld.move rfl) rfl rfl rfl ?_
        refine AO.yld _ (Yld.move rfl) rfl rfl rfl ?_
        refine AO.yld _ (Yld.move rfl) rfl rfl rfl ?_
        refine AO.callW (wantedN rfl) [0] [0] [0] rfl rfl Try.call71 rfl (spec_l28DrawSession_c (by omega) (by omega)) (.own rfl) rfl (fun ⟨_, _, _, _, _⟩ => rfl) ⟨rfl, trivial⟩ rfl (fun ⟨_, _, _, _, _⟩ => rfl) (fun ⟨_, _, _, _, _⟩ => rfl) (fun ⟨tu35, li35, er35, q35, s35⟩ htu35 => ?_)
        dsimp only at htu35
        refine AO.callW (wantedN rfl) [0] [0] [0] rfl rfl Try.call72 rfl (spec_l28Bend_c (by omega) (by omega)) (.own rfl) rfl (fun ⟨_, _, _, _, _, _⟩ => rfl) ⟨rfl, trivial⟩ rfl (fun ⟨_, _, _, _, _, _⟩ => rfl) (fun ⟨_, _, _, _, _, _⟩ => rfl) (fun ⟨dy236, tu236, li236, er236, q36, s36⟩ hdy236 => ?_)
        dsimp only at hdy236
        refine AO.buildSlice (rows := [[_, _, _, _]]) 2 Try.underlying26 ty35 rfl rfl rfl rfl rfl rfl rfl rfl rfl ?_
        refine AO.append 1 Try.underlying26 ty35 rfl rfl rfl rfl rfl rfl rfl (by simp [pvOne]) (by simp only [List.length_map, List.length_cons, List.length_nil, List.length_append]; omega) (by simp only [List.length_map, List.length_cons, List.length_nil, List.length_append]; omega) rfl ?_
        refine AO.yld _ (Yld.assign rfl) rfl rfl rfl ?_
        refine AO.nil ?_
        refine AC.mark ?_
        refine AC.seq ?_
        refine AC.region ?_
        refine AO.yld _ (Yld.move rfl) rfl rfl rfl ?_
        refine AO.yld _ (Yld.assign rfl) rfl rfl rfl ?_
        refine AO.nil ?_
        refine FnE.ret (xs ++ [⟨dy236, tu236, li236, er236⟩], q36, s36) [0, 1] [0, 1] Try.results45 (RVs.cons (RV.tmp rfl) RVs.nil) rfl rfl rfl ?_ ?_ ⟨⟨_, rfl, ?_⟩, ⟨_, rfl, ?_⟩, trivial⟩
        · -- holds
          show List.length _ ≤ 40 ∧ _ ≤ _ ∧ _ ≤ _; refine ⟨?_, by omega, by omega⟩; first | (simp only [List.length_append, List.length_cons, List.length_nil]; omega) | omega
        · -- value
          rfl
        · -- thing 0
          rfl
        · -- thing 1
          first | rfl | (rw [map_snoc]; rfl)
      · -- c30 False
        refine AC.seq ?_
        refine AC.region ?_
        refine AO.yld _ (Yld.int rfl rfl rfl) rfl rfl rfl ?_
        refine AO.yld _ (Yld.assign rfl) rfl rfl rfl ?_
        refine AO.nil ?_
        refine AC.cond _ rfl (fun c39 => ?_) (fun c39 => ?_)
        · -- c39 True
          refine AC.seq ?_
          refine AC.region ?_
          refine AO.yld _ (Yld.move rfl) rfl rfl rfl ?_
          refine AO.buildSlice (rows := [[_], [_]]) 2 Try.underlying42 ty2 rfl rfl rfl rfl rfl rfl rfl rfl rfl ?_
          refine AO.callW (wantedN rfl) [0, 2] [0, 1] [0] rfl rfl Try.call47 rfl (src_among_c (by omega) (by omega) (xs := [32, 33]) (by decide) (by decide)) (.own rfl) rfl (fun ⟨_, _, _⟩ => rfl) ⟨rfl, rfl, trivial⟩ rfl (fun ⟨_, _, _⟩ => rfl) (fun ⟨_, _, _⟩ => rfl) (fun ⟨v43, q43, s43⟩ hv43 => ?_)
          dsimp only at hv43
          have hm33 : v43 ≤ 33 := by have h := hv43.1; simp at h; omega
          refine AO.yld _ (Yld.assign rfl) rfl rfl rfl ?_
          refine AO.nil ?_
          refine AC.seq ?_
          refine AC.region ?_
          refine AO.buildSlice (rows := []) 3 Try.underlying26 ty35 rfl rfl rfl rfl rfl rfl rfl rfl rfl ?_
          refine AO.yld _ (Yld.assign rfl) rfl rfl rfl ?_
          refine AO.nil ?_
          refine AC.seq ?_
          refine AC.region ?_
          refine AO.yld _ (Yld.assign rfl) rfl rfl rfl ?_
          refine AO.nil ?_
          refine AC.block ?_
          refine AC.loopC2 [(2, _), (6, _)] [(0, _), (1, _), (900, _)] (fun (k : Nat) (xs2 : List Session) => [(7, .p (.v (.int .i64 (k : Int)))), (3, .h 3)]) (fun (k : Nat) (xs2 : List Session) => [(3, .vec 35 4 (xs2.map encSession))]) (fun (k : Nat) (xs2 : List Session) => xs2.length = k ∧ (k : Int) ≤ 33) (fun (k : Nat) (xs2 : List Session) => 33 - k) 0 [] ⟨rfl, rfl, trivial⟩ ⟨rfl, rfl, rfl, trivial⟩ ⟨rfl, rfl, trivial⟩ ⟨rfl, trivial⟩ ?_ (fun k xs2 hI => ?_)
          · exact ⟨rfl, by omega⟩
          · -- round
            have hgl2 := hI.1
            refine AC.seq ?_
            refine AC.seq ?_
            refine AC.region ?_
            refine AO.yld _ (Yld.move rfl) rfl rfl rfl ?_
            refine AO.yld _ (Yld.move rfl) rfl rfl rfl ?_
            refine AO.yld _ (Yld.int rfl rfl rfl) rfl rfl rfl ?_
            refine AO.nil ?_
            refine AC.cond _ rfl (fun c47 => ?_) (fun c47 => ?_)
            · -- c47 True
              have hkm : (k : Int) < v43 := by simpa using c47
              refine AC.skip ?_
              refine AC.seq ?_
              refine AC.block ?_
              refine AC.region ?_
              refine AO.yld _ (Yld.move rfl) rfl rfl rfl ?_
              refine AO.yld _ (Yld.move rfl) rfl rfl rfl ?_
              refine AO.yld _ (Yld.mul rfl rfl (by omega) (by omega)) rfl rfl rfl ?_
              refine AO.yld _ (Yld.move rfl) rfl rfl rfl ?_
              refine AO.yld _ (Yld.buildA (zs := [.v (.int .i64 0), .v (.int .i64 0), .v (.int .i64 0), .v (.int .i64 0)]) bld35 rfl rfl) rfl rfl rfl ?_
              refine AO.buildSlice (rows := [[_, _, _, _]]) 4 Try.underlying26 ty35 rfl rfl rfl rfl rfl rfl rfl rfl rfl ?_
              refine AO.append 3 Try.underlying26 ty35 rfl rfl rfl rfl rfl rfl rfl (by simp [pvOne]) (by simp only [List.length_map, List.length_cons, List.length_nil, List.length_append]; omega) (by simp only [List.length_map, List.length_cons, List.length_nil, List.length_append]; omega) rfl ?_
              refine AO.yld _ (Yld.assign rfl) rfl rfl rfl ?_
              refine AO.nil ?_
              refine AC.mark ?_
              refine AC.region ?_
              refine AO.yld _ (Yld.move rfl) rfl rfl rfl ?_
              refine AO.yld _ (Yld.add rfl rfl (by omega) (by omega)) rfl rfl rfl ?_
              refine AO.yld _ (Yld.assign rfl) rfl rfl rfl ?_
              refine AO.nil ?_
              refine AC.back ⟨k + 1, xs2 ++ [⟨5 * (k : Int), (k : Int), 0, 0⟩], ?_, ?_, ⟨?_, ?_, trivial⟩, ⟨?_, trivial⟩, ⟨rfl, rfl, trivial⟩, ⟨rfl, rfl, rfl, trivial⟩⟩
              · exact ⟨by simp [hI.1], by omega⟩
              · omega
              · rfl
              · rfl
              · rw [map_snoc]; rfl
            · -- c47 False
              refine AC.exit rfl ?_
              refine AC.mark ?_
              refine AC.seq ?_
              refine AC.region ?_
              refine AO.yld _ (Yld.move rfl) rfl rfl rfl ?_
              refine AO.yld _ (Yld.assign rfl) rfl rfl rfl ?_
              refine AO.nil ?_
              refine FnE.ret (xs2, q43, s43) [0, 3] [0, 1] Try.results45 (RVs.cons (RV.tmp rfl) RVs.nil) rfl rfl rfl ?_ ?_ ⟨⟨_, rfl, ?_⟩, ⟨_, rfl, ?_⟩, trivial⟩
              · -- holds
                show List.length _ ≤ 40 ∧ _ ≤ _ ∧ _ ≤ _; refine ⟨?_, by omega, by omega⟩; first | (simp only [List.length_append, List.length_cons, List.length_nil]; omega) | omega
              · -- value
                rfl
              · -- thing 0
                rfl
              · -- thing 1
                first | rfl | (rw [map_snoc]; rfl)
        · -- c39 False
          refine AC.skip ?_
          refine AC.mark ?_
          refine AC.seq ?_
          refine AC.region ?_
          refine AO.yld _ (Yld.move rfl) rfl rfl rfl ?_
          refine AO.yld _ (Yld.assign rfl) rfl rfl rfl ?_
          refine AO.nil ?_
          refine FnE.ret (xs, q29, s29) [0, 1] [0, 1] Try.results45 (RVs.cons (RV.tmp rfl) RVs.nil) rfl rfl rfl ?_ ?_ ⟨⟨_, rfl, ?_⟩, ⟨_, rfl, ?_⟩, trivial⟩
          · -- holds
            show List.length _ ≤ 40 ∧ _ ≤ _ ∧ _ ≤ _; refine ⟨?_, by omega, by omega⟩; first | (simp only [List.length_append, List.length_cons, List.length_nil]; omega) | omega
          · -- value
            rfl
          · -- thing 0
            rfl
          · -- thing 1
            first | rfl | (rw [map_snoc]; rfl)

theorem spec_l28DrawDay_c {code : List UInt8} {p sd : Int} (h0 : 0 ≤ p) (h1 : p ≤ 1000000000000000) :
    FnE (α := Int × Int × Int) Try.prog 49 [.h 0] [(0, .box 109 [.p (.sl 1 (code.map encB)), .p (.v (.int .i64 p)), .p (.v (.int .u64 sd))])] [0] (fun ⟨v, q, s⟩ => p ≤ q ∧ q ≤ p + 10) (fun ⟨v, q, s⟩ => .p (.v (.int .i64 v))) (fun ⟨v, q, s⟩ => [(0, .box 109 [.p (.sl 1 (code.map encB)), .p (.v (.int .i64 q)), .p (.v (.int .u64 s))])]) := by
  refine FnE.intro Try.func49 rfl Try.ntmps49 rfl rfl (fun w0 F0 η φ w => ?_)
  refine AC.seq ?_
  refine AC.region ?_
  refine AO.yld _ (Yld.assign rfl) rfl rfl rfl ?_
  refine AO.nil ?_
  refine AC.seq ?_
  refine AC.seq ?_
  refine AC.region ?_
  refine AO.yld _ (Yld.move rfl) rfl rfl rfl ?_
  refine AO.callW (wantedN rfl) [0] [0] [0] rfl rfl Try.call46 rfl (src_one_c (by omega) (by omega) (by omega)) (.own rfl) rfl (fun ⟨_, _, _⟩ => rfl) ⟨rfl, trivial⟩ rfl (fun ⟨_, _, _⟩ => rfl) (fun ⟨_, _, _⟩ => rfl) (fun ⟨b4, q4, s4⟩ hb4 => ?_)
  dsimp only at hb4
  refine AO.nil ?_
  refine AC.cond _ rfl (fun c4 => ?_) (fun c4 => ?_)
  · -- c4 True
    refine AC.seq ?_
    refine AC.region ?_
    refine AO.yld _ (Yld.move rfl) rfl rfl rfl ?_
    refine AO.buildSlice (rows := [[_], [_], [_], [_]]) 1 Try.underlying42 ty2 rfl rfl rfl rfl rfl rfl rfl rfl rfl ?_
    refine AO.callW (wantedN rfl) [0, 1] [0, 1] [0] rfl rfl Try.call47 rfl (src_among_c (by omega) (by omega) (xs := [-1, 0, 100000, 100001]) (by decide) (by decide)) (.own rfl) rfl (fun ⟨_, _, _⟩ => rfl) ⟨rfl, rfl, trivial⟩ rfl (fun ⟨_, _, _⟩ => rfl) (fun ⟨_, _, _⟩ => rfl) (fun ⟨v7, q7, s7⟩ hv7 => ?_)
    dsimp only at hv7
    refine AO.yld _ (Yld.assign rfl) rfl rfl rfl ?_
    refine AO.nil ?_
    refine FnE.ret (_, _, _) [0] [0] Try.results49 (RVs.cons (RV.tmp rfl) RVs.nil) rfl rfl rfl ?_ rfl ⟨⟨_, rfl, rfl⟩, trivial⟩
    · -- holds
      show _ ≤ _ ∧ _ ≤ _; omega
  · -- c4 False
    refine AC.skip ?_
    refine AC.seq ?_
    refine AC.region ?_
    refine AO.yld _ (Yld.move rfl) rfl rfl rfl ?_
    refine AO.callW (wantedN rfl) [0] [0] [0] rfl rfl Try.call48 rfl (src_pick_c (by omega) (by omega) (by omega)) (.own rfl) rfl (fun ⟨_, _, _⟩ => rfl) ⟨rfl, trivial⟩ rfl (fun ⟨_, _, _⟩ => rfl) (fun ⟨_, _, _⟩ => rfl) (fun ⟨v9, q9, s9⟩ hv9 => ?_)
    dsimp only at hv9
    refine AO.yld _ (Yld.assign rfl) rfl rfl rfl ?_
    refine AO.nil ?_
    refine FnE.ret (_, _, _) [0] [0] Try.results49 (RVs.cons (RV.tmp rfl) RVs.nil) rfl rfl rfl ?_ rfl ⟨⟨_, rfl, rfl⟩, trivial⟩
    · -- holds
      show _ ≤ _ ∧ _ ≤ _; omega

theorem spec_DrawErrorOn_c {code : List UInt8} :
    FnE (α := List Session × Int) Try.prog 16 [.p (.sl 1 (code.map encB))] [] [] (fun ⟨xs, v⟩ => xs.length ≤ 40) (fun ⟨xs, v⟩ => .tup [.h 0, .p (.v (.int .i64 v))]) (fun ⟨xs, v⟩ => [(0, .vec 35 4 (xs.map encSession))]) := by
  refine FnE.intro Try.func16 rfl Try.ntmps16 rfl rfl (fun w0 F0 η φ w => ?_)
  refine AC.seq ?_
  refine AC.region ?_
  refine AO.yld _ (Yld.assign rfl) rfl rfl rfl ?_
  refine AO.yld _ (Yld.assign rfl) rfl rfl rfl ?_
  refine AO.nil ?_
  refine AC.seq ?_
  refine AC.region ?_
  refine AO.yld _ (Yld.move rfl) rfl rfl rfl ?_
  refine AO.callW (wantedN rfl) [0] [] [0] rfl rfl Try.call44 rfl (spec_l00From_c) (.own rfl) rfl (fun _ => rfl) trivial rfl (fun _ => rfl) (fun _ => rfl) (fun _ _ => ?_)
  refine AO.yld _ (Yld.assign rfl) rfl rfl rfl ?_
  refine AO.nil ?_
  refine AC.seq ?_
  refine AC.region ?_
  refine AO.yld _ (Yld.move rfl) rfl rfl rfl ?_
  refine AO.callW (wantedN rfl) [0, 1] [0] [0, 1] rfl rfl Try.call45 rfl (spec_l28DrawSessions_c (by omega) (by omega)) (.own rfl) rfl (fun ⟨_, _, _⟩ => rfl) ⟨rfl, trivial⟩ rfl (fun ⟨_, _, _⟩ => rfl) (fun ⟨_, _, _⟩ => rfl) (fun ⟨xs9, q9, s9⟩ hxs9 => ?_)
  dsimp only at hxs9
  refine AO.yld _ (Yld.assign rfl) rfl rfl rfl ?_
  refine AO.nil ?_
  refine AC.seq ?_
  refine AC.region ?_
  refine AO.yld _ (Yld.move rfl) rfl rfl rfl ?_
  refine AO.yld _ (Yld.move rfl) rfl rfl rfl ?_
  refine AO.callW (wantedN rfl) [0] [0] [0] rfl rfl Try.call49 rfl (spec_l28DrawDay_c (by omega) (by omega)) (.own rfl) rfl (fun ⟨_, _, _⟩ => rfl) ⟨rfl, trivial⟩ rfl (fun ⟨_, _, _⟩ => rfl) (fun ⟨_, _, _⟩ => rfl) (fun ⟨v12, q12, s12⟩ hv12 => ?_)
  dsimp only at hv12
  refine AO.yld _ (Yld.assign rfl) rfl rfl rfl ?_
  refine AO.yld _ (Yld.assign rfl) rfl rfl rfl ?_
  refine AO.nil ?_
  refine FnE.ret (_, _) [1] [0] Try.results16 (RVs.cons (RV.tmp rfl) (RVs.cons (RV.tmp rfl) RVs.nil)) rfl rfl rfl ?_ rfl ⟨⟨_, rfl, rfl⟩, trivial⟩
  · -- holds
    exact hxs9.1

theorem spec_DrawDueDay_c {code : List UInt8} :
    FnE (α := List Session × Int) Try.prog 14 [.p (.sl 1 (code.map encB))] [] [] (fun ⟨xs, v⟩ => xs.length ≤ 40) (fun ⟨xs, v⟩ => .tup [.h 0, .p (.v (.int .i64 v))]) (fun ⟨xs, v⟩ => [(0, .vec 35 4 (xs.map encSession))]) := by
  refine FnE.intro Try.func14 rfl Try.ntmps14 rfl rfl (fun w0 F0 η φ w => ?_)
  refine AC.seq ?_
  refine AC.region ?_
  refine AO.yld _ (Yld.assign rfl) rfl rfl rfl ?_
  refine AO.yld _ (Yld.assign rfl) rfl rfl rfl ?_
  refine AO.nil ?_
  refine AC.seq ?_
  refine AC.region ?_
  refine AO.yld _ (Yld.move rfl) rfl rfl rfl ?_
  refine AO.callW (wantedN rfl) [0] [] [0] rfl rfl Try.call44 rfl (spec_l00From_c) (.own rfl) rfl (fun _ => rfl) trivial rfl (fun _ => rfl) (fun _ => rfl) (fun _ _ => ?_)
  refine AO.yld _ (Yld.assign rfl) rfl rfl rfl ?_
  refine AO.nil ?_
  refine AC.seq ?_
  refine AC.region ?_
  refine AO.yld _ (Yld.move rfl) rfl rfl rfl ?_
  refine AO.callW (wantedN rfl) [0, 1] [0] [0, 1] rfl rfl Try.call45 rfl (spec_l28DrawSessions_c (by omega) (by omega)) (.own rfl) rfl (fun ⟨_, _, _⟩ => rfl) ⟨rfl, trivial⟩ rfl (fun ⟨_, _, _⟩ => rfl) (fun ⟨_, _, _⟩ => rfl) (fun ⟨xs9, q9, s9⟩ hxs9 => ?_)
  dsimp only at hxs9
  refine AO.yld _ (Yld.assign rfl) rfl rfl rfl ?_
  refine AO.nil ?_
  refine AC.seq ?_
  refine AC.seq ?_
  refine AC.region ?_
  refine AO.yld _ (Yld.move rfl) rfl rfl rfl ?_
  refine AO.callW (wantedN rfl) [0] [0] [0] rfl rfl Try.call46 rfl (src_one_c (by omega) (by omega) (by omega)) (.own rfl) rfl (fun ⟨_, _, _⟩ => rfl) ⟨rfl, trivial⟩ rfl (fun ⟨_, _, _⟩ => rfl) (fun ⟨_, _, _⟩ => rfl) (fun ⟨b11, q11, s11⟩ hb11 => ?_)
  dsimp only at hb11
  refine AO.nil ?_
  refine AC.cond _ rfl (fun c11 => ?_) (fun c11 => ?_)
  · -- c11 True
    refine AC.seq ?_
    refine AC.region ?_
    refine AO.yld _ (Yld.move rfl) rfl rfl rfl ?_
    refine AO.yld _ (Yld.move rfl) rfl rfl rfl ?_
    refine AO.buildSlice (rows := [[_], [_], [_], [_]]) 2 Try.underlying42 ty2 rfl rfl rfl rfl rfl rfl rfl rfl rfl ?_
    refine AO.callW (wantedN rfl) [0, 2] [0, 1] [0] rfl rfl Try.call47 rfl (src_among_c (by omega) (by omega) (xs := [-1, 0, 180000, 180001]) (by decide) (by decide)) (.own rfl) rfl (fun ⟨_, _, _⟩ => rfl) ⟨rfl, rfl, trivial⟩ rfl (fun ⟨_, _, _⟩ => rfl) (fun ⟨_, _, _⟩ => rfl) (fun ⟨v15, q15, s15⟩ hv15 => ?_)
    dsimp only at hv15
    refine AO.yld _ (Yld.assign rfl) rfl rfl rfl ?_
    refine AO.yld _ (Yld.assign rfl) rfl rfl rfl ?_
    refine AO.nil ?_
    refine FnE.ret (_, _) [1] [0] Try.results14 (RVs.cons (RV.tmp rfl) (RVs.cons (RV.tmp rfl) RVs.nil)) rfl rfl rfl ?_ rfl ⟨⟨_, rfl, rfl⟩, trivial⟩
    · -- holds
      exact hxs9.1
  · -- c11 False
    refine AC.skip ?_
    refine AC.seq ?_
    refine AC.region ?_
    refine AO.yld _ (Yld.move rfl) rfl rfl rfl ?_
    refine AO.yld _ (Yld.move rfl) rfl rfl rfl ?_
    refine AO.callW (wantedN rfl) [0] [0] [0] rfl rfl Try.call48 rfl (src_pick_c (by omega) (by omega) (by omega)) (.own rfl) rfl (fun ⟨_, _, _⟩ => rfl) ⟨rfl, trivial⟩ rfl (fun ⟨_, _, _⟩ => rfl) (fun ⟨_, _, _⟩ => rfl) (fun ⟨v18, q18, s18⟩ hv18 => ?_)
    dsimp only at hv18
    refine AO.yld _ (Yld.assign rfl) rfl rfl rfl ?_
    refine AO.yld _ (Yld.assign rfl) rfl rfl rfl ?_
    refine AO.nil ?_
    refine FnE.ret (_, _) [1] [0] Try.results14 (RVs.cons (RV.tmp rfl) (RVs.cons (RV.tmp rfl) RVs.nil)) rfl rfl rfl ?_ rfl ⟨⟨_, rfl, rfl⟩, trivial⟩
    · -- holds
      exact hxs9.1

theorem laws_r8Long_c {code more : List UInt8} :
    Pure Try.prog 27 [.sl 1 (code.map encB), .sl 1 (more.map encB)] (.v (.bool (decide ((code.length : Int) > 1048576) || decide ((more.length : Int) > 1048576)))) := by
  refine Pure.intro Try.func27 rfl Try.ntmps27 rfl rfl (fun w => ?_)
  refine AC.seq ?_
  refine AC.region ?_
  refine AO.yld _ (Yld.assign rfl) rfl rfl rfl ?_
  refine AO.nil ?_
  refine AC.seq ?_
  refine AC.region ?_
  refine AO.yld _ (Yld.move rfl) rfl rfl rfl ?_
  refine AO.yld _ (Yld.len Try.underlying30 rfl rfl) rfl rfl rfl ?_
  refine AO.yld _ (Yld.int rfl rfl rfl) rfl rfl rfl ?_
  refine AO.yld _ (Yld.move rfl) rfl rfl rfl ?_
  refine AO.splitAt 8 _ rfl (fun s8 => ?_) (fun s8 => ?_)
  · -- s8 True
    refine AO.skipF rfl rfl rfl rfl rfl ?_
    refine AO.skipF rfl rfl rfl rfl rfl ?_
    refine AO.skipF rfl rfl rfl rfl rfl ?_
    refine AO.yld _ (Yld.pickT rfl rfl) rfl rfl rfl ?_
    refine AO.yld _ (Yld.assign rfl) rfl rfl rfl ?_
    refine AO.nil ?_
    refine Pure.ret Try.results27 (RVs.cons (RV.tmp rfl) RVs.nil) rfl ?_
    refine cb ?_; simp only [List.length_map] at *; first | (simp_all; done) | grind
  · -- s8 False
    refine AO.yldG _ (Yld.move rfl) rfl rfl rfl rfl rfl ?_
    refine AO.yldG _ (Yld.len Try.underlying30 rfl rfl) rfl rfl rfl rfl rfl ?_
    refine AO.yldG _ (Yld.int rfl rfl rfl) rfl rfl rfl rfl rfl ?_
    refine AO.yld _ (Yld.pickF rfl rfl) rfl rfl rfl ?_
    refine AO.yld _ (Yld.assign rfl) rfl rfl rfl ?_
    refine AO.nil ?_
    refine Pure.ret Try.results27 (RVs.cons (RV.tmp rfl) RVs.nil) rfl ?_
    refine cb ?_; simp only [List.length_map] at *; first | (simp_all; done) | grind

theorem laws_r8At_c {l : List UInt8} {k n : Int} (h0 : 0 ≤ k) :
    Pure Try.prog 29 [.sl 1 (l.map encB), .v (.int .i64 k), .v (.int .i64 n)] (.v (.int .i64 (r8At l k n))) := by
  have hM : (l.map encB).length = l.length := List.length_map ..
  refine Pure.intro Try.func29 rfl Try.ntmps29 rfl rfl (fun w => ?_)
  refine AC.seq ?_
  refine AC.region ?_
  refine AO.yld _ (Yld.assign rfl) rfl rfl rfl ?_
  refine AO.nil ?_
  refine AC.seq ?_
  refine AC.seq ?_
  refine AC.region ?_
  refine AO.yld _ (Yld.move rfl) rfl rfl rfl ?_
  refine AO.yld _ (Yld.int rfl rfl rfl) rfl rfl rfl ?_
  refine AO.yld _ (Yld.move rfl) rfl rfl rfl ?_
  refine AO.splitAt 9 _ rfl (fun s9 => ?_) (fun s9 => ?_)
  · -- s9 True
    refine AO.skipF rfl rfl rfl rfl rfl ?_
    refine AO.skipF rfl rfl rfl rfl rfl ?_
    refine AO.skipF rfl rfl rfl rfl rfl ?_
    refine AO.skipF rfl rfl rfl rfl rfl ?_
    refine AO.yld _ (Yld.pickT rfl rfl) rfl rfl rfl ?_
    refine AO.nil ?_
    refine AC.condT rfl ?_
    refine AC.seq ?_
    refine AC.region ?_
    refine AO.yld _ (Yld.assign rfl) rfl rfl rfl ?_
    refine AO.nil ?_
    refine Pure.ret Try.results29 (RVs.cons (RV.tmp rfl) RVs.nil) rfl ?_
    first | exact ci (r8At_hit hn1 hk hc).symm | exact ci (r8At_no (.inl (by simpa using s9))).symm | exact ci (r8At_no (.inr (by have h := c14; rw [hM] at h; simpa using h))).symm
  · -- s9 False
    refine AO.yldG _ (Yld.move rfl) rfl rfl rfl rfl rfl ?_
    refine AO.yldG _ (Yld.move rfl) rfl rfl rfl rfl rfl ?_
    refine AO.yldG _ (Yld.len Try.underlying30 rfl rfl) rfl rfl rfl rfl rfl ?_
    refine AO.yldG _ (Yld.int rfl rfl rfl) rfl rfl rfl rfl rfl ?_
    refine AO.yld _ (Yld.pickF rfl rfl) rfl rfl rfl ?_
    refine AO.nil ?_
    refine AC.cond _ rfl (fun c14 => ?_) (fun c14 => ?_)
    · -- c14 True
      refine AC.seq ?_
      refine AC.region ?_
      refine AO.yld _ (Yld.assign rfl) rfl rfl rfl ?_
      refine AO.nil ?_
      refine Pure.ret Try.results29 (RVs.cons (RV.tmp rfl) RVs.nil) rfl ?_
      first | exact ci (r8At_hit hn1 hk hc).symm | exact ci (r8At_no (.inl (by simpa using s9))).symm | exact ci (r8At_no (.inr (by have h := c14; rw [hM] at h; simpa using h))).symm
    · -- c14 False
      have hn1 : ¬ n ≤ 1 := by simpa using s9
      have hk : k < l.length := by have h := c14; rw [hM] at h; simp at h; omega
      obtain ⟨c, hc⟩ := get_some (xs := l) (k := k.toNat) (by omega)
      have hrow := map_row (enc := encB) hc
      refine AC.skip ?_
      refine AC.seq ?_
      refine AC.region ?_
      refine AO.yld _ (Yld.move rfl) rfl rfl rfl ?_
      refine AO.yld _ (Yld.move rfl) rfl rfl rfl ?_
      refine AO.yld _ (Yld.indexSl Try.underlying30 Try.sizeOf5 rfl rfl hrow (by omega)) rfl rfl rfl ?_
      refine AO.yld _ (Yld.load Try.isAgg5 rfl rfl) rfl rfl rfl ?_
      refine AO.yld _ (Yld.convInt Try.underlying5 Try.underlying2 rfl) rfl rfl rfl ?_
      refine AO.yld _ (Yld.move rfl) rfl rfl rfl ?_
      refine AO.yld _ (Yld.rem rfl rfl (by omega)) rfl rfl rfl ?_
      refine AO.yld _ (Yld.assign rfl) rfl rfl rfl ?_
      refine AO.nil ?_
      refine Pure.ret Try.results29 (RVs.cons (RV.tmp rfl) RVs.nil) rfl ?_
      first | exact ci (r8At_hit hn1 hk hc).symm | exact ci (r8At_no (.inl (by simpa using s9))).symm | exact ci (r8At_no (.inr (by have h := c14; rw [hM] at h; simpa using h))).symm

set_option maxHeartbeats 2000000 in
theorem laws_FnDue_c {code more : List UInt8} :
    Pure Try.prog 4 [.sl 1 (code.map encB), .sl 1 (more.map encB)] (.v (.bool true)) := by
  refine Pure.intro Try.func4 rfl Try.ntmps4 rfl rfl (fun w => ?_)
  refine AC.seq ?_
  refine AC.region ?_
  refine AO.yld _ (Yld.assign rfl) rfl rfl rfl ?_
  refine AO.nil ?_
  refine AC.seq ?_
  refine AC.seq ?_
  refine AC.region ?_
  refine AO.yld _ (Yld.move rfl) rfl rfl rfl ?_
  refine AO.yld _ (Yld.call rfl rfl Try.call13 rfl rfl rfl (laws_b10Long_c) rfl) rfl rfl rfl ?_
  refine AO.yld _ (Yld.move rfl) rfl rfl rfl ?_
  refine AO.splitAt 21 _ rfl (fun s21 => ?_) (fun s21 => ?_)
  · -- s21 True
    refine AO.skipF rfl rfl rfl rfl rfl ?_
    refine AO.skipF rfl rfl rfl rfl rfl ?_
    refine AO.yld _ (Yld.pickT rfl rfl) rfl rfl rfl ?_
    refine AO.nil ?_
    refine AC.condT rfl ?_
    refine AC.seq ?_
    refine AC.region ?_
    refine AO.yld _ (Yld.assign rfl) rfl rfl rfl ?_
    refine AO.nil ?_
    refine Pure.ret Try.results4 (RVs.cons (RV.tmp rfl) RVs.nil) rfl ?_
    first | rfl | (rw [hmb]; rfl) | (refine cb ?_; have z9 : xs92.length = 1 := (by have y9 := s122; rw [beq_iff_eq] at y9; omega); rw [List.length_map, z9]; rfl) | (exfalso; simp only [decide_eq_true_eq, decide_eq_false_iff_not, bne_iff_ne, ne_eq, beq_iff_eq, beq_eq_false_iff_ne, bne_eq_false_iff_eq, List.length_map] at *; omega)
  · -- s21 False
    refine AO.yldG _ (Yld.move rfl) rfl rfl rfl rfl rfl ?_
    refine AO.yldG _ (Yld.call rfl rfl Try.call13 rfl rfl rfl (laws_b10Long_c) rfl) rfl rfl rfl rfl rfl ?_
    refine AO.yld _ (Yld.pickF rfl rfl) rfl rfl rfl ?_
    refine AO.nil ?_
    refine AC.cond _ rfl (fun c24 => ?_) (fun c24 => ?_)
    · -- c24 True
      refine AC.seq ?_
      refine AC.region ?_
      refine AO.yld _ (Yld.assign rfl) rfl rfl rfl ?_
      refine AO.nil ?_
      refine Pure.ret Try.results4 (RVs.cons (RV.tmp rfl) RVs.nil) rfl ?_
      first | rfl | (rw [hmb]; rfl) | (refine cb ?_; have z9 : xs92.length = 1 := (by have y9 := s122; rw [beq_iff_eq] at y9; omega); rw [List.length_map, z9]; rfl) | (exfalso; simp only [decide_eq_true_eq, decide_eq_false_iff_not, bne_iff_ne, ne_eq, beq_iff_eq, beq_eq_false_iff_ne, bne_eq_false_iff_eq, List.length_map] at *; omega)
    · -- c24 False
      refine AC.skip ?_
      refine AC.seq ?_
      refine AC.region ?_
      refine AO.yld _ (Yld.move rfl) rfl rfl rfl ?_
      refine AO.callW (wantedN rfl) [0] [] [0] rfl rfl Try.call14 rfl (spec_DrawDueDay_c) (.own rfl) rfl (fun ⟨_, _⟩ => rfl) trivial rfl (fun ⟨_, _⟩ => rfl) (fun ⟨_, _⟩ => rfl) (fun ⟨xs27, v27⟩ hxs27 => ?_)
      dsimp only at hxs27
      refine AO.yld _ (Yld.move rfl) rfl rfl rfl ?_
      refine AO.yld _ (Yld.extract rfl rfl rfl) rfl rfl rfl ?_
      refine AO.yld _ (Yld.extract rfl rfl rfl) rfl rfl rfl ?_
      refine AO.yld _ (Yld.assign rfl) rfl rfl rfl ?_
      refine AO.yld _ (Yld.assign rfl) rfl rfl rfl ?_
      refine AO.nil ?_
      refine AC.seq ?_
      refine AC.region ?_
      refine AO.yld _ (Yld.move rfl) rfl rfl rfl ?_
      refine AO.yld _ (Yld.move rfl) rfl rfl rfl ?_
      refine AO.yld _ (Yld.call rfl rfl Try.call15 rfl rfl rfl (impl_DueDay_c (by omega)) rfl) rfl rfl rfl ?_
      refine AO.yld _ (Yld.move rfl) rfl rfl rfl ?_
      refine AO.yld _ (Yld.extract rfl rfl rfl) rfl rfl rfl ?_
      refine AO.yld _ (Yld.extract rfl rfl rfl) rfl rfl rfl ?_
      refine AO.yld _ (Yld.assign rfl) rfl rfl rfl ?_
      refine AO.yld _ (Yld.assign rfl) rfl rfl rfl ?_
      refine AO.nil ?_
      refine AC.seq ?_
      refine AC.seq ?_
      refine AC.region ?_
      refine AO.yld _ (Yld.move rfl) rfl rfl rfl ?_
      refine AO.yld _ (Yld.int rfl rfl rfl) rfl rfl rfl ?_
      refine AO.nil ?_
      refine AC.cond _ rfl (fun c37 => ?_) (fun c37 => ?_)
      · -- c37 True
        have h0 : (dueDay xs27 v27).2 = 0 := by simpa using c37
        obtain ⟨f1, f2, f3, f4, f5, f6, f7, f8⟩ := due_facts h0
        have hM : (xs27.map encSession).length = xs27.length := List.length_map ..
        obtain ⟨xl, hxl⟩ := get_some (xs := xs27) (k := xs27.length - 1) (by omega)
        have hel := lastS_eq hxl
        have hrowL := map_row (enc := encSession) hxl
        rw [hel] at f3 f4 f8
        refine AC.seq ?_
        refine AC.region ?_
        refine AO.yld _ (Yld.move rfl) rfl rfl rfl ?_
        refine AO.yld _ (Yld.move rfl) rfl rfl rfl ?_
        refine AO.yld _ (Yld.call rfl rfl Try.call11 rfl rfl rfl (impl_ErrorOn_c (by omega)) rfl) rfl rfl rfl ?_
        refine AO.yld _ (Yld.move rfl) rfl rfl rfl ?_
        refine AO.yld _ (Yld.extract rfl rfl rfl) rfl rfl rfl ?_
        refine AO.yld _ (Yld.extract rfl rfl rfl) rfl rfl rfl ?_
        refine AO.yld _ (Yld.assign rfl) rfl rfl rfl ?_
        refine AO.yld _ (Yld.assign rfl) rfl rfl rfl ?_
        refine AO.nil ?_
        refine AC.seq ?_
        refine AC.seq ?_
        refine AC.region ?_
        refine AO.yld _ (Yld.move rfl) rfl rfl rfl ?_
        refine AO.yld _ (Yld.int rfl rfl rfl) rfl rfl rfl ?_
        refine AO.yld _ (Yld.move rfl) rfl rfl rfl ?_
        refine AO.splitAt 46 _ rfl (fun s46 => ?_) (fun s46 => ?_)
        · -- s46 True
          refine AO.skipF rfl rfl rfl rfl rfl ?_
          refine AO.skipF rfl rfl rfl rfl rfl ?_
          refine AO.skipF rfl rfl rfl rfl rfl ?_
          refine AO.yld _ (Yld.pickT rfl rfl) rfl rfl rfl ?_
          refine AO.yld _ (Yld.move rfl) rfl rfl rfl ?_
          refine AO.skipF rfl rfl rfl rfl rfl ?_
          refine AO.skipF rfl rfl rfl rfl rfl ?_
          refine AO.skipF rfl rfl rfl rfl rfl ?_
          refine AO.yld _ (Yld.pickT rfl rfl) rfl rfl rfl ?_
          refine AO.yld _ (Yld.move rfl) rfl rfl rfl ?_
          refine AO.skipF rfl rfl rfl rfl rfl ?_
          refine AO.skipF rfl rfl rfl rfl rfl ?_
          refine AO.skipF rfl rfl rfl rfl rfl ?_
          refine AO.skipF rfl rfl rfl rfl rfl ?_
          refine AO.skipF rfl rfl rfl rfl rfl ?_
          refine AO.skipF rfl rfl rfl rfl rfl ?_
          refine AO.skipF rfl rfl rfl rfl rfl ?_
          refine AO.skipF rfl rfl rfl rfl rfl ?_
          refine AO.skipF rfl rfl rfl rfl rfl ?_
          refine AO.yld _ (Yld.pickT rfl rfl) rfl rfl rfl ?_
          refine AO.nil ?_
          refine AC.condT rfl ?_
          refine AC.seq ?_
          refine AC.region ?_
          refine AO.yld _ (Yld.assign rfl) rfl rfl rfl ?_
          refine AO.nil ?_
          refine Pure.ret Try.results4 (RVs.cons (RV.tmp rfl) RVs.nil) rfl ?_
          first | rfl | (rw [hmb]; rfl) | (refine cb ?_; have z9 : xs92.length = 1 := (by have y9 := s122; rw [beq_iff_eq] at y9; omega); rw [List.length_map, z9]; rfl) | (exfalso; simp only [decide_eq_true_eq, decide_eq_false_iff_not, bne_iff_ne, ne_eq, beq_iff_eq, beq_eq_false_iff_ne, bne_eq_false_iff_eq, List.length_map] at *; omega)
        · -- s46 False
          refine AO.yldG _ (Yld.move rfl) rfl rfl rfl rfl rfl ?_
          refine AO.yldG _ (Yld.move rfl) rfl rfl rfl rfl rfl ?_
          refine AO.yldG _ (Yld.int rfl rfl rfl) rfl rfl rfl rfl rfl ?_
          refine AO.yld _ (Yld.pickF rfl rfl) rfl rfl rfl ?_
          refine AO.yld _ (Yld.move rfl) rfl rfl rfl ?_
          refine AO.splitAt 51 _ rfl (fun s51 => ?_) (fun s51 => ?_)
          · -- s51 True
            refine AO.skipF rfl rfl rfl rfl rfl ?_
            refine AO.skipF rfl rfl rfl rfl rfl ?_
            refine AO.skipF rfl rfl rfl rfl rfl ?_
            refine AO.yld _ (Yld.pickT rfl rfl) rfl rfl rfl ?_
            refine AO.yld _ (Yld.move rfl) rfl rfl rfl ?_
            refine AO.skipF rfl rfl rfl rfl rfl ?_
            refine AO.skipF rfl rfl rfl rfl rfl ?_
            refine AO.skipF rfl rfl rfl rfl rfl ?_
            refine AO.skipF rfl rfl rfl rfl rfl ?_
            refine AO.skipF rfl rfl rfl rfl rfl ?_
            refine AO.skipF rfl rfl rfl rfl rfl ?_
            refine AO.skipF rfl rfl rfl rfl rfl ?_
            refine AO.skipF rfl rfl rfl rfl rfl ?_
            refine AO.skipF rfl rfl rfl rfl rfl ?_
            refine AO.yld _ (Yld.pickT rfl rfl) rfl rfl rfl ?_
            refine AO.nil ?_
            refine AC.condT rfl ?_
            refine AC.seq ?_
            refine AC.region ?_
            refine AO.yld _ (Yld.assign rfl) rfl rfl rfl ?_
            refine AO.nil ?_
            refine Pure.ret Try.results4 (RVs.cons (RV.tmp rfl) RVs.nil) rfl ?_
            first | rfl | (rw [hmb]; rfl) | (refine cb ?_; have z9 : xs92.length = 1 := (by have y9 := s122; rw [beq_iff_eq] at y9; omega); rw [List.length_map, z9]; rfl) | (exfalso; simp only [decide_eq_true_eq, decide_eq_false_iff_not, bne_iff_ne, ne_eq, beq_iff_eq, beq_eq_false_iff_ne, bne_eq_false_iff_eq, List.length_map] at *; omega)
          · -- s51 False
            refine AO.yldG _ (Yld.move rfl) rfl rfl rfl rfl rfl ?_
            refine AO.yldG _ (Yld.len Try.underlying26 rfl rfl) rfl rfl rfl rfl rfl ?_
            refine AO.yldG _ (Yld.int rfl rfl rfl) rfl rfl rfl rfl rfl ?_
            refine AO.yld _ (Yld.pickF rfl rfl) rfl rfl rfl ?_
            refine AO.yld _ (Yld.move rfl) rfl rfl rfl ?_
            refine AO.splitAt 56 _ rfl (fun s56 => ?_) (fun s56 => ?_)
            · -- s56 True
              refine AO.skipF rfl rfl rfl rfl rfl ?_
              refine AO.skipF rfl rfl rfl rfl rfl ?_
              refine AO.skipF rfl rfl rfl rfl rfl ?_
              refine AO.skipF rfl rfl rfl rfl rfl ?_
              refine AO.skipF rfl rfl rfl rfl rfl ?_
              refine AO.skipF rfl rfl rfl rfl rfl ?_
              refine AO.skipF rfl rfl rfl rfl rfl ?_
              refine AO.skipF rfl rfl rfl rfl rfl ?_
              refine AO.skipF rfl rfl rfl rfl rfl ?_
              refine AO.yld _ (Yld.pickT rfl rfl) rfl rfl rfl ?_
              refine AO.nil ?_
              refine AC.condT rfl ?_
              refine AC.seq ?_
              refine AC.region ?_
              refine AO.yld _ (Yld.assign rfl) rfl rfl rfl ?_
              refine AO.nil ?_
              refine Pure.ret Try.results4 (RVs.cons (RV.tmp rfl) RVs.nil) rfl ?_
              first | rfl | (rw [hmb]; rfl) | (refine cb ?_; have z9 : xs92.length = 1 := (by have y9 := s122; rw [beq_iff_eq] at y9; omega); rw [List.length_map, z9]; rfl) | (exfalso; simp only [decide_eq_true_eq, decide_eq_false_iff_not, bne_iff_ne, ne_eq, beq_iff_eq, beq_eq_false_iff_ne, bne_eq_false_iff_eq, List.length_map] at *; omega)
            · -- s56 False
              refine AO.yldG _ (Yld.move rfl) rfl rfl rfl rfl rfl ?_
              refine AO.yldG _ (Yld.move rfl) rfl rfl rfl rfl rfl ?_
              refine AO.yldG _ (Yld.move rfl) rfl rfl rfl rfl rfl ?_
              refine AO.yldG _ (Yld.len Try.underlying26 rfl rfl) rfl rfl rfl rfl rfl ?_
              refine AO.yldG _ (Yld.sub rfl rfl (by omega) (by omega)) rfl rfl rfl rfl rfl ?_
              refine AO.yldG _ (Yld.indexVec Try.underlying26 Try.sizeOf35 rfl rfl rfl (show _ = ((xs27.length - 1 : Nat) : Int) by rw [hM]; omega) (by rw [hM]; omega)) rfl rfl rfl rfl rfl ?_
              refine AO.yldG _ (Yld.fieldAddr Try.underlying35 rfl rfl Try.sizeOf2 rfl (behind_el rfl hrowL) rfl) rfl rfl rfl rfl rfl ?_
              refine AO.yldG _ (Yld.load Try.isAgg2 rfl (Eq.trans (behind_el rfl hrowL) rfl)) rfl rfl rfl rfl rfl ?_
              refine AO.yldG _ (Yld.int rfl rfl rfl) rfl rfl rfl rfl rfl ?_
              refine AO.yld _ (Yld.pickF rfl rfl) rfl rfl rfl ?_
              refine AO.nil ?_
              refine AC.cond _ rfl (fun c66 => ?_) (fun c66 => ?_)
              · -- c66 True
                refine AC.seq ?_
                refine AC.region ?_
                refine AO.yld _ (Yld.assign rfl) rfl rfl rfl ?_
                refine AO.nil ?_
                refine Pure.ret Try.results4 (RVs.cons (RV.tmp rfl) RVs.nil) rfl ?_
                first | rfl | (rw [hmb]; rfl) | (refine cb ?_; have z9 : xs92.length = 1 := (by have y9 := s122; rw [beq_iff_eq] at y9; omega); rw [List.length_map, z9]; rfl) | (exfalso; simp only [decide_eq_true_eq, decide_eq_false_iff_not, bne_iff_ne, ne_eq, beq_iff_eq, beq_eq_false_iff_ne, bne_eq_false_iff_eq, List.length_map] at *; omega)
              · -- c66 False
                refine AC.skip ?_
                refine AC.seq ?_
                refine AC.region ?_
                refine AO.yld _ (Yld.move rfl) rfl rfl rfl ?_
                refine AO.yld _ (Yld.move rfl) rfl rfl rfl ?_
                refine AO.yld _ (Yld.move rfl) rfl rfl rfl ?_
                refine AO.yld _ (Yld.len Try.underlying26 rfl rfl) rfl rfl rfl ?_
                refine AO.yld _ (Yld.sub rfl rfl (by omega) (by omega)) rfl rfl rfl ?_
                refine AO.yld _ (Yld.indexVec Try.underlying26 Try.sizeOf35 rfl rfl rfl (show _ = ((xs27.length - 1 : Nat) : Int) by rw [hM]; omega) (by rw [hM]; omega)) rfl rfl rfl ?_
                refine AO.yld _ (Yld.fieldAddr Try.underlying35 rfl rfl Try.sizeOf2 rfl (behind_el rfl hrowL) rfl) rfl rfl rfl ?_
                refine AO.yld _ (Yld.load Try.isAgg2 rfl (Eq.trans (behind_el rfl hrowL) rfl)) rfl rfl rfl ?_
                refine AO.yld _ (Yld.int rfl rfl rfl) rfl rfl rfl ?_
                refine AO.nil ?_
                refine AC.cond _ rfl (fun c75 => ?_) (fun c75 => ?_)
                · -- c75 True
                  have h75 : xl.day < (dueDay xs27 v27).1 := by simpa using c75
                  obtain ⟨g1, g2⟩ := f8 h75
                  refine AC.seq ?_
                  refine AC.region ?_
                  refine AO.yld _ (Yld.move rfl) rfl rfl rfl ?_
                  refine AO.yld _ (Yld.move rfl) rfl rfl rfl ?_
                  refine AO.yld _ (Yld.sub rfl rfl (by omega) (by omega)) rfl rfl rfl ?_
                  refine AO.yld _ (Yld.call rfl rfl Try.call11 rfl rfl rfl (impl_ErrorOn_c (by omega)) rfl) rfl rfl rfl ?_
                  refine AO.yld _ (Yld.move rfl) rfl rfl rfl ?_
                  refine AO.yld _ (Yld.extract rfl rfl rfl) rfl rfl rfl ?_
                  refine AO.yld _ (Yld.extract rfl rfl rfl) rfl rfl rfl ?_
                  refine AO.yld _ (Yld.assign rfl) rfl rfl rfl ?_
                  refine AO.yld _ (Yld.assign rfl) rfl rfl rfl ?_
                  refine AO.nil ?_
                  refine AC.seq ?_
                  refine AC.region ?_
                  refine AO.yld _ (Yld.move rfl) rfl rfl rfl ?_
                  refine AO.yld _ (Yld.int rfl rfl rfl) rfl rfl rfl ?_
                  refine AO.yld _ (Yld.move rfl) rfl rfl rfl ?_
                  refine AO.splitAt 85 _ rfl (fun s85 => ?_) (fun s85 => ?_)
                  · -- s85 True
                    refine AO.skipF rfl rfl rfl rfl rfl ?_
                    refine AO.skipF rfl rfl rfl rfl rfl ?_
                    refine AO.skipF rfl rfl rfl rfl rfl ?_
                    refine AO.yld _ (Yld.pickT rfl rfl) rfl rfl rfl ?_
                    refine AO.nil ?_
                    refine AC.condT rfl ?_
                    refine AC.seq ?_
                    refine AC.region ?_
                    refine AO.yld _ (Yld.assign rfl) rfl rfl rfl ?_
                    refine AO.nil ?_
                    refine Pure.ret Try.results4 (RVs.cons (RV.tmp rfl) RVs.nil) rfl ?_
                    first | rfl | (rw [hmb]; rfl) | (refine cb ?_; have z9 : xs92.length = 1 := (by have y9 := s122; rw [beq_iff_eq] at y9; omega); rw [List.length_map, z9]; rfl) | (exfalso; simp only [decide_eq_true_eq, decide_eq_false_iff_not, bne_iff_ne, ne_eq, beq_iff_eq, beq_eq_false_iff_ne, bne_eq_false_iff_eq, List.length_map] at *; omega)
                  · -- s85 False
                    refine AO.yldG _ (Yld.move rfl) rfl rfl rfl rfl rfl ?_
                    refine AO.yldG _ (Yld.move rfl) rfl rfl rfl rfl rfl ?_
                    refine AO.yldG _ (Yld.int rfl rfl rfl) rfl rfl rfl rfl rfl ?_
                    refine AO.yld _ (Yld.pickF rfl rfl) rfl rfl rfl ?_
                    refine AO.nil ?_
                    refine AC.cond _ rfl (fun c89 => ?_) (fun c89 => ?_)
                    · -- c89 True
                      refine AC.seq ?_
                      refine AC.region ?_
                      refine AO.yld _ (Yld.assign rfl) rfl rfl rfl ?_
                      refine AO.nil ?_
                      refine Pure.ret Try.results4 (RVs.cons (RV.tmp rfl) RVs.nil) rfl ?_
                      first | rfl | (rw [hmb]; rfl) | (refine cb ?_; have z9 : xs92.length = 1 := (by have y9 := s122; rw [beq_iff_eq] at y9; omega); rw [List.length_map, z9]; rfl) | (exfalso; simp only [decide_eq_true_eq, decide_eq_false_iff_not, bne_iff_ne, ne_eq, beq_iff_eq, beq_eq_false_iff_ne, bne_eq_false_iff_eq, List.length_map] at *; omega)
                    · -- c89 False
                      refine AC.skip ?_
                      refine AC.seq ?_
                      refine AC.region ?_
                      refine AO.yld _ (Yld.move rfl) rfl rfl rfl ?_
                      refine AO.callW (wantedN rfl) [1] [] [0] rfl rfl Try.call16 rfl (spec_DrawErrorOn_c) (.own rfl) rfl (fun ⟨_, _⟩ => rfl) trivial rfl (fun ⟨_, _⟩ => rfl) (fun ⟨_, _⟩ => rfl) (fun ⟨xs92, v92⟩ hxs92 => ?_)
                      dsimp only at hxs92
                      refine AO.yld _ (Yld.move rfl) rfl rfl rfl ?_
                      refine AO.yld _ (Yld.extract rfl rfl rfl) rfl rfl rfl ?_
                      refine AO.yld _ (Yld.extract rfl rfl rfl) rfl rfl rfl ?_
                      refine AO.yld _ (Yld.assign rfl) rfl rfl rfl ?_
                      refine AO.yld _ (Yld.assign rfl) rfl rfl rfl ?_
                      refine AO.nil ?_
                      refine AC.seq ?_
                      refine AC.region ?_
                      refine AO.yld _ (Yld.move rfl) rfl rfl rfl ?_
                      refine AO.yld _ (Yld.move rfl) rfl rfl rfl ?_
                      refine AO.yld _ (Yld.call rfl rfl Try.call11 rfl rfl rfl (impl_ErrorOn_c (by omega)) rfl) rfl rfl rfl ?_
                      refine AO.yld _ (Yld.move rfl) rfl rfl rfl ?_
                      refine AO.yld _ (Yld.extract rfl rfl rfl) rfl rfl rfl ?_
                      refine AO.yld _ (Yld.extract rfl rfl rfl) rfl rfl rfl ?_
                      refine AO.yld _ (Yld.assign rfl) rfl rfl rfl ?_
                      refine AO.yld _ (Yld.assign rfl) rfl rfl rfl ?_
                      refine AO.nil ?_
                      refine AC.seq ?_
                      refine AC.seq ?_
                      refine AC.region ?_
                      refine AO.yld _ (Yld.move rfl) rfl rfl rfl ?_
                      refine AO.yld _ (Yld.int rfl rfl rfl) rfl rfl rfl ?_
                      refine AO.nil ?_
                      refine AC.cond _ rfl (fun c102 => ?_) (fun c102 => ?_)
                      · -- c102 True
                        have h0m : ¬ (errorOn xs92 v92).2 = 0 := by simpa using c102
                        have hmb := errorOn_bad h0m
                        refine AC.seq ?_
                        refine AC.region ?_
                        refine AO.yld _ (Yld.move rfl) rfl rfl rfl ?_
                        refine AO.yld _ (Yld.int rfl rfl rfl) rfl rfl rfl ?_
                        refine AO.yld _ (Yld.assign rfl) rfl rfl rfl ?_
                        refine AO.nil ?_
                        refine Pure.ret Try.results4 (RVs.cons (RV.tmp rfl) RVs.nil) rfl ?_
                        first | rfl | (rw [hmb]; rfl) | (refine cb ?_; have z9 : xs92.length = 1 := (by have y9 := s122; rw [beq_iff_eq] at y9; omega); rw [List.length_map, z9]; rfl) | (exfalso; simp only [decide_eq_true_eq, decide_eq_false_iff_not, bne_iff_ne, ne_eq, beq_iff_eq, beq_eq_false_iff_ne, bne_eq_false_iff_eq, List.length_map] at *; omega)
                      · -- c102 False
                        have h0m : (errorOn xs92 v92).2 = 0 := by simpa using c102
                        obtain ⟨m1, m2⟩ := errorOn_facts h0m
                        refine AC.skip ?_
                        refine AC.seq ?_
                        refine AC.region ?_
                        refine AO.yld _ (Yld.move rfl) rfl rfl rfl ?_
                        refine AO.yld _ (Yld.call rfl rfl Try.call17 rfl rfl rfl (impl_DriftPerDay_c (by omega)) rfl) rfl rfl rfl ?_
                        refine AO.yld _ (Yld.move rfl) rfl rfl rfl ?_
                        refine AO.yld _ (Yld.extract rfl rfl rfl) rfl rfl rfl ?_
                        refine AO.yld _ (Yld.extract rfl rfl rfl) rfl rfl rfl ?_
                        refine AO.yld _ (Yld.assign rfl) rfl rfl rfl ?_
                        refine AO.yld _ (Yld.assign rfl) rfl rfl rfl ?_
                        refine AO.nil ?_
                        refine AC.seq ?_
                        refine AC.region ?_
                        refine AO.yld _ (Yld.move rfl) rfl rfl rfl ?_
                        refine AO.yld _ (Yld.int rfl rfl rfl) rfl rfl rfl ?_
                        refine AO.yld _ (Yld.move rfl) rfl rfl rfl ?_
                        refine AO.splitAt 112 _ rfl (fun s112 => ?_) (fun s112 => ?_)
                        · -- s112 True
                          refine AO.yldG _ (Yld.move rfl) rfl rfl rfl rfl rfl ?_
                          refine AO.yldG _ (Yld.int rfl rfl rfl) rfl rfl rfl rfl rfl ?_
                          refine AO.yldG _ (Yld.move rfl) rfl rfl rfl rfl rfl ?_
                          refine AO.splitAt 115 _ rfl (fun s115 => ?_) (fun s115 => ?_)
                          · -- s115 True
                            refine AO.yldG _ (Yld.move rfl) rfl rfl rfl rfl rfl ?_
                            refine AO.yldG _ (Yld.int rfl rfl rfl) rfl rfl rfl rfl rfl ?_
                            refine AO.yldG _ (Yld.pickT rfl rfl) rfl rfl rfl rfl rfl ?_
                            refine AO.yldG _ (Yld.move rfl) rfl rfl rfl rfl rfl ?_
                            refine AO.splitAt 119 _ rfl (fun s119 => ?_) (fun s119 => ?_)
                            · -- s119 True
                              refine AO.skipF rfl rfl rfl rfl rfl ?_
                              refine AO.skipF rfl rfl rfl rfl rfl ?_
                              refine AO.skipF rfl rfl rfl rfl rfl ?_
                              refine AO.skipU rfl rfl rfl rfl rfl ?_
                              refine AO.skipU rfl rfl rfl rfl rfl ?_
                              refine AO.skipU rfl rfl rfl rfl rfl ?_
                              refine AO.skipF rfl rfl rfl rfl rfl ?_
                              refine AO.yldG _ (Yld.pickT rfl rfl) rfl rfl rfl rfl rfl ?_
                              refine AO.yld _ (Yld.pickT rfl rfl) rfl rfl rfl ?_
                              refine AO.yld _ (Yld.assign rfl) rfl rfl rfl ?_
                              refine AO.nil ?_
                              refine Pure.ret Try.results4 (RVs.cons (RV.tmp rfl) RVs.nil) rfl ?_
                              first | rfl | (rw [hmb]; rfl) | (refine cb ?_; have z9 : xs92.length = 1 := (by have y9 := s122; rw [beq_iff_eq] at y9; omega); rw [List.length_map, z9]; rfl) | (exfalso; simp only [decide_eq_true_eq, decide_eq_false_iff_not, bne_iff_ne, ne_eq, beq_iff_eq, beq_eq_false_iff_ne, bne_eq_false_iff_eq, List.length_map] at *; omega)
                            · -- s119 False
                              refine AO.yldG _ (Yld.move rfl) rfl rfl rfl rfl rfl ?_
                              refine AO.yldG _ (Yld.int rfl rfl rfl) rfl rfl rfl rfl rfl ?_
                              refine AO.yldG _ (Yld.move rfl) rfl rfl rfl rfl rfl ?_
                              refine AO.splitAt 122 _ rfl (fun s122 => ?_) (fun s122 => ?_)
                              · -- s122 True
                                refine AO.yldG _ (Yld.move rfl) rfl rfl rfl rfl rfl ?_
                                refine AO.yldG _ (Yld.len Try.underlying26 rfl rfl) rfl rfl rfl rfl rfl ?_
                                refine AO.yldG _ (Yld.int rfl rfl rfl) rfl rfl rfl rfl rfl ?_
                                refine AO.yldG _ (Yld.pickT rfl rfl) rfl rfl rfl rfl rfl ?_
                                refine AO.yldG _ (Yld.pickF rfl rfl) rfl rfl rfl rfl rfl ?_
                                refine AO.yld _ (Yld.pickT rfl rfl) rfl rfl rfl ?_
                                refine AO.yld _ (Yld.assign rfl) rfl rfl rfl ?_
                                refine AO.nil ?_
                                refine Pure.ret Try.results4 (RVs.cons (RV.tmp rfl) RVs.nil) rfl ?_
                                first | rfl | (rw [hmb]; rfl) | (refine cb ?_; have z9 : xs92.length = 1 := (by have y9 := s122; rw [beq_iff_eq] at y9; omega); rw [List.length_map, z9]; rfl) | (exfalso; simp only [decide_eq_true_eq, decide_eq_false_iff_not, bne_iff_ne, ne_eq, beq_iff_eq, beq_eq_false_iff_ne, bne_eq_false_iff_eq, List.length_map] at *; omega)
                              · -- s122 False
                                refine AO.skipT rfl rfl rfl rfl rfl ?_
                                refine AO.skipT rfl rfl rfl rfl rfl ?_
                                refine AO.skipT rfl rfl rfl rfl rfl ?_
                                refine AO.yldG _ (Yld.pickF rfl rfl) rfl rfl rfl rfl rfl ?_
                                refine AO.yldG _ (Yld.pickF rfl rfl) rfl rfl rfl rfl rfl ?_
                                refine AO.yld _ (Yld.pickT rfl rfl) rfl rfl rfl ?_
                                refine AO.yld _ (Yld.assign rfl) rfl rfl rfl ?_
                                refine AO.nil ?_
                                refine Pure.ret Try.results4 (RVs.cons (RV.tmp rfl) RVs.nil) rfl ?_
                                first | rfl | (rw [hmb]; rfl) | (refine cb ?_; have z9 : xs92.length = 1 := (by have y9 := s122; rw [beq_iff_eq] at y9; omega); rw [List.length_map, z9]; rfl) | (exfalso; simp only [decide_eq_true_eq, decide_eq_false_iff_not, bne_iff_ne, ne_eq, beq_iff_eq, beq_eq_false_iff_ne, bne_eq_false_iff_eq, List.length_map] at *; omega)
                          · -- s115 False
                            refine AO.skipT rfl rfl rfl rfl rfl ?_
                            refine AO.skipT rfl rfl rfl rfl rfl ?_
                            refine AO.yldG _ (Yld.pickF rfl rfl) rfl rfl rfl rfl rfl ?_
                            refine AO.yldG _ (Yld.move rfl) rfl rfl rfl rfl rfl ?_
                            refine AO.yldG _ (Yld.move rfl) rfl rfl rfl rfl rfl ?_
                            refine AO.yldG _ (Yld.int rfl rfl rfl) rfl rfl rfl rfl rfl ?_
                            refine AO.yldG _ (Yld.move rfl) rfl rfl rfl rfl rfl ?_
                            refine AO.splitAt 122 _ rfl (fun s122 => ?_) (fun s122 => ?_)
                            · -- s122 True
                              refine AO.yldG _ (Yld.move rfl) rfl rfl rfl rfl rfl ?_
                              refine AO.yldG _ (Yld.len Try.underlying26 rfl rfl) rfl rfl rfl rfl rfl ?_
                              refine AO.yldG _ (Yld.int rfl rfl rfl) rfl rfl rfl rfl rfl ?_
                              refine AO.yldG _ (Yld.pickT rfl rfl) rfl rfl rfl rfl rfl ?_
                              refine AO.yldG _ (Yld.pickF rfl rfl) rfl rfl rfl rfl rfl ?_
                              refine AO.yld _ (Yld.pickT rfl rfl) rfl rfl rfl ?_
                              refine AO.yld _ (Yld.assign rfl) rfl rfl rfl ?_
                              refine AO.nil ?_
                              refine Pure.ret Try.results4 (RVs.cons (RV.tmp rfl) RVs.nil) rfl ?_
                              first | rfl | (rw [hmb]; rfl) | (refine cb ?_; have z9 : xs92.length = 1 := (by have y9 := s122; rw [beq_iff_eq] at y9; omega); rw [List.length_map, z9]; rfl) | (exfalso; simp only [decide_eq_true_eq, decide_eq_false_iff_not, bne_iff_ne, ne_eq, beq_iff_eq, beq_eq_false_iff_ne, bne_eq_false_iff_eq, List.length_map] at *; omega)
                            · -- s122 False
                              refine AO.skipT rfl rfl rfl rfl rfl ?_
                              refine AO.skipT rfl rfl rfl rfl rfl ?_
                              refine AO.skipT rfl rfl rfl rfl rfl ?_
                              refine AO.yldG _ (Yld.pickF rfl rfl) rfl rfl rfl rfl rfl ?_
                              refine AO.yldG _ (Yld.pickF rfl rfl) rfl rfl rfl rfl rfl ?_
                              refine AO.yld _ (Yld.pickT rfl rfl) rfl rfl rfl ?_
                              refine AO.yld _ (Yld.assign rfl) rfl rfl rfl ?_
                              refine AO.nil ?_
                              refine Pure.ret Try.results4 (RVs.cons (RV.tmp rfl) RVs.nil) rfl ?_
                              first | rfl | (rw [hmb]; rfl) | (refine cb ?_; have z9 : xs92.length = 1 := (by have y9 := s122; rw [beq_iff_eq] at y9; omega); rw [List.length_map, z9]; rfl) | (exfalso; simp only [decide_eq_true_eq, decide_eq_false_iff_not, bne_iff_ne, ne_eq, beq_iff_eq, beq_eq_false_iff_ne, bne_eq_false_iff_eq, List.length_map] at *; omega)
                        · -- s112 False
                          refine AO.skipT rfl rfl rfl rfl rfl ?_
                          refine AO.skipT rfl rfl rfl rfl rfl ?_
                          refine AO.skipT rfl rfl rfl rfl rfl ?_
                          refine AO.skipU rfl rfl rfl rfl rfl ?_
                          refine AO.skipU rfl rfl rfl rfl rfl ?_
                          refine AO.skipT rfl rfl rfl rfl rfl ?_
                          refine AO.skipT rfl rfl rfl rfl rfl ?_
                          refine AO.skipU rfl rfl rfl rfl rfl ?_
                          refine AO.skipU rfl rfl rfl rfl rfl ?_
                          refine AO.skipU rfl rfl rfl rfl rfl ?_
                          refine AO.skipU rfl rfl rfl rfl rfl ?_
                          refine AO.skipU rfl rfl rfl rfl rfl ?_
                          refine AO.skipU rfl rfl rfl rfl rfl ?_
                          refine AO.skipU rfl rfl rfl rfl rfl ?_
                          refine AO.skipT rfl rfl rfl rfl rfl ?_
                          refine AO.yld _ (Yld.pickF rfl rfl) rfl rfl rfl ?_
                          refine AO.yld _ (Yld.assign rfl) rfl rfl rfl ?_
                          refine AO.nil ?_
                          refine Pure.ret Try.results4 (RVs.cons (RV.tmp rfl) RVs.nil) rfl ?_
                          first | rfl | (rw [hmb]; rfl) | (refine cb ?_; have z9 : xs92.length = 1 := (by have y9 := s122; rw [beq_iff_eq] at y9; omega); rw [List.length_map, z9]; rfl) | (exfalso; simp only [decide_eq_true_eq, decide_eq_false_iff_not, bne_iff_ne, ne_eq, beq_iff_eq, beq_eq_false_iff_ne, bne_eq_false_iff_eq, List.length_map] at *; omega)
                · -- c75 False
                  refine AC.skip ?_
                  refine AC.seq ?_
                  refine AC.region ?_
                  refine AO.yld _ (Yld.move rfl) rfl rfl rfl ?_
                  refine AO.callW (wantedN rfl) [1] [] [0] rfl rfl Try.call16 rfl (spec_DrawErrorOn_c) (.own rfl) rfl (fun ⟨_, _⟩ => rfl) trivial rfl (fun ⟨_, _⟩ => rfl) (fun ⟨_, _⟩ => rfl) (fun ⟨xs92, v92⟩ hxs92 => ?_)
                  dsimp only at hxs92
                  refine AO.yld _ (Yld.move rfl) rfl rfl rfl ?_
                  refine AO.yld _ (Yld.extract rfl rfl rfl) rfl rfl rfl ?_
                  refine AO.yld _ (Yld.extract rfl rfl rfl) rfl rfl rfl ?_
                  refine AO.yld _ (Yld.assign rfl) rfl rfl rfl ?_
                  refine AO.yld _ (Yld.assign rfl) rfl rfl rfl ?_
                  refine AO.nil ?_
                  refine AC.seq ?_
                  refine AC.region ?_
                  refine AO.yld _ (Yld.move rfl) rfl rfl rfl ?_
                  refine AO.yld _ (Yld.move rfl) rfl rfl rfl ?_
                  refine AO.yld _ (Yld.call rfl rfl Try.call11 rfl rfl rfl (impl_ErrorOn_c (by omega)) rfl) rfl rfl rfl ?_
                  refine AO.yld _ (Yld.move rfl) rfl rfl rfl ?_
                  refine AO.yld _ (Yld.extract rfl rfl rfl) rfl rfl rfl ?_
                  refine AO.yld _ (Yld.extract rfl rfl rfl) rfl rfl rfl ?_
                  refine AO.yld _ (Yld.assign rfl) rfl rfl rfl ?_
                  refine AO.yld _ (Yld.assign rfl) rfl rfl rfl ?_
                  refine AO.nil ?_
                  refine AC.seq ?_
                  refine AC.seq ?_
                  refine AC.region ?_
                  refine AO.yld _ (Yld.move rfl) rfl rfl rfl ?_
                  refine AO.yld _ (Yld.int rfl rfl rfl) rfl rfl rfl ?_
                  refine AO.nil ?_
                  refine AC.cond _ rfl (fun c102 => ?_) (fun c102 => ?_)
                  · -- c102 True
                    have h0m : ¬ (errorOn xs92 v92).2 = 0 := by simpa using c102
                    have hmb := errorOn_bad h0m
                    refine AC.seq ?_
                    refine AC.region ?_
                    refine AO.yld _ (Yld.move rfl) rfl rfl rfl ?_
                    refine AO.yld _ (Yld.int rfl rfl rfl) rfl rfl rfl ?_
                    refine AO.yld _ (Yld.assign rfl) rfl rfl rfl ?_
                    refine AO.nil ?_
                    refine Pure.ret Try.results4 (RVs.cons (RV.tmp rfl) RVs.nil) rfl ?_
                    first | rfl | (rw [hmb]; rfl) | (refine cb ?_; have z9 : xs92.length = 1 := (by have y9 := s122; rw [beq_iff_eq] at y9; omega); rw [List.length_map, z9]; rfl) | (exfalso; simp only [decide_eq_true_eq, decide_eq_false_iff_not, bne_iff_ne, ne_eq, beq_iff_eq, beq_eq_false_iff_ne, bne_eq_false_iff_eq, List.length_map] at *; omega)
                  · -- c102 False
                    have h0m : (errorOn xs92 v92).2 = 0 := by simpa using c102
                    obtain ⟨m1, m2⟩ := errorOn_facts h0m
                    refine AC.skip ?_
                    refine AC.seq ?_
                    refine AC.region ?_
                    refine AO.yld _ (Yld.move rfl) rfl rfl rfl ?_
                    refine AO.yld _ (Yld.call rfl rfl Try.call17 rfl rfl rfl (impl_DriftPerDay_c (by omega)) rfl) rfl rfl rfl ?_
                    refine AO.yld _ (Yld.move rfl) rfl rfl rfl ?_
                    refine AO.yld _ (Yld.extract rfl rfl rfl) rfl rfl rfl ?_
                    refine AO.yld _ (Yld.extract rfl rfl rfl) rfl rfl rfl ?_
                    refine AO.yld _ (Yld.assign rfl) rfl rfl rfl ?_
                    refine AO.yld _ (Yld.assign rfl) rfl rfl rfl ?_
                    refine AO.nil ?_
                    refine AC.seq ?_
                    refine AC.region ?_
                    refine AO.yld _ (Yld.move rfl) rfl rfl rfl ?_
                    refine AO.yld _ (Yld.int rfl rfl rfl) rfl rfl rfl ?_
                    refine AO.yld _ (Yld.move rfl) rfl rfl rfl ?_
                    refine AO.splitAt 112 _ rfl (fun s112 => ?_) (fun s112 => ?_)
                    · -- s112 True
                      refine AO.yldG _ (Yld.move rfl) rfl rfl rfl rfl rfl ?_
                      refine AO.yldG _ (Yld.int rfl rfl rfl) rfl rfl rfl rfl rfl ?_
                      refine AO.yldG _ (Yld.move rfl) rfl rfl rfl rfl rfl ?_
                      refine AO.splitAt 115 _ rfl (fun s115 => ?_) (fun s115 => ?_)
                      · -- s115 True
                        refine AO.yldG _ (Yld.move rfl) rfl rfl rfl rfl rfl ?_
                        refine AO.yldG _ (Yld.int rfl rfl rfl) rfl rfl rfl rfl rfl ?_
                        refine AO.yldG _ (Yld.pickT rfl rfl) rfl rfl rfl rfl rfl ?_
                        refine AO.yldG _ (Yld.move rfl) rfl rfl rfl rfl rfl ?_
                        refine AO.splitAt 119 _ rfl (fun s119 => ?_) (fun s119 => ?_)
                        · -- s119 True
                          refine AO.skipF rfl rfl rfl rfl rfl ?_
                          refine AO.skipF rfl rfl rfl rfl rfl ?_
                          refine AO.skipF rfl rfl rfl rfl rfl ?_
                          refine AO.skipU rfl rfl rfl rfl rfl ?_
                          refine AO.skipU rfl rfl rfl rfl rfl ?_
                          refine AO.skipU rfl rfl rfl rfl rfl ?_
                          refine AO.skipF rfl rfl rfl rfl rfl ?_
                          refine AO.yldG _ (Yld.pickT rfl rfl) rfl rfl rfl rfl rfl ?_
                          refine AO.yld _ (Yld.pickT rfl rfl) rfl rfl rfl ?_
                          refine AO.yld _ (Yld.assign rfl) rfl rfl rfl ?_
                          refine AO.nil ?_
                          refine Pure.ret Try.results4 (RVs.cons (RV.tmp rfl) RVs.nil) rfl ?_
                          first | rfl | (rw [hmb]; rfl) | (refine cb ?_; have z9 : xs92.length = 1 := (by have y9 := s122; rw [beq_iff_eq] at y9; omega); rw [List.length_map, z9]; rfl) | (exfalso; simp only [decide_eq_true_eq, decide_eq_false_iff_not, bne_iff_ne, ne_eq, beq_iff_eq, beq_eq_false_iff_ne, bne_eq_false_iff_eq, List.length_map] at *; omega)
                        · -- s119 False
                          refine AO.yldG _ (Yld.move rfl) rfl rfl rfl rfl rfl ?_
                          refine AO.yldG _ (Yld.int rfl rfl rfl) rfl rfl rfl rfl rfl ?_
                          refine AO.yldG _ (Yld.move rfl) rfl rfl rfl rfl rfl ?_
                          refine AO.splitAt 122 _ rfl (fun s122 => ?_) (fun s122 => ?_)
                          · -- s122 True
                            refine AO.yldG _ (Yld.move rfl) rfl rfl rfl rfl rfl ?_
                            refine AO.yldG _ (Yld.len Try.underlying26 rfl rfl) rfl rfl rfl rfl rfl ?_
                            refine AO.yldG _ (Yld.int rfl rfl rfl) rfl rfl rfl rfl rfl ?_
                            refine AO.yldG _ (Yld.pickT rfl rfl) rfl rfl rfl rfl rfl ?_
                            refine AO.yldG _ (Yld.pickF rfl rfl) rfl rfl rfl rfl rfl ?_
                            refine AO.yld _ (Yld.pickT rfl rfl) rfl rfl rfl ?_
                            refine AO.yld _ (Yld.assign rfl) rfl rfl rfl ?_
                            refine AO.nil ?_
                            refine Pure.ret Try.results4 (RVs.cons (RV.tmp rfl) RVs.nil) rfl ?_
                            first | rfl | (rw [hmb]; rfl) | (refine cb ?_; have z9 : xs92.length = 1 := (by have y9 := s122; rw [beq_iff_eq] at y9; omega); rw [List.length_map, z9]; rfl) | (exfalso; simp only [decide_eq_true_eq, decide_eq_false_iff_not, bne_iff_ne, ne_eq, beq_iff_eq, beq_eq_false_iff_ne, bne_eq_false_iff_eq, List.length_map] at *; omega)
                          · -- s122 False
                            refine AO.skipT rfl rfl rfl rfl rfl ?_
                            refine AO.skipT rfl rfl rfl rfl rfl ?_
                            refine AO.skipT rfl rfl rfl rfl rfl ?_
                            refine AO.yldG _ (Yld.pickF rfl rfl) rfl rfl rfl rfl rfl ?_
                            refine AO.yldG _ (Yld.pickF rfl rfl) rfl rfl rfl rfl rfl ?_
                            refine AO.yld _ (Yld.pickT rfl rfl) rfl rfl rfl ?_
                            refine AO.yld _ (Yld.assign rfl) rfl rfl rfl ?_
                            refine AO.nil ?_
                            refine Pure.ret Try.results4 (RVs.cons (RV.tmp rfl) RVs.nil) rfl ?_
                            first | rfl | (rw [hmb]; rfl) | (refine cb ?_; have z9 : xs92.length = 1 := (by have y9 := s122; rw [beq_iff_eq] at y9; omega); rw [List.length_map, z9]; rfl) | (exfalso; simp only [decide_eq_true_eq, decide_eq_false_iff_not, bne_iff_ne, ne_eq, beq_iff_eq, beq_eq_false_iff_ne, bne_eq_false_iff_eq, List.length_map] at *; omega)
                      · -- s115 False
                        refine AO.skipT rfl rfl rfl rfl rfl ?_
                        refine AO.skipT rfl rfl rfl rfl rfl ?_
                        refine AO.yldG _ (Yld.pickF rfl rfl) rfl rfl rfl rfl rfl ?_
                        refine AO.yldG _ (Yld.move rfl) rfl rfl rfl rfl rfl ?_
                        refine AO.yldG _ (Yld.move rfl) rfl rfl rfl rfl rfl ?_
                        refine AO.yldG _ (Yld.int rfl rfl rfl) rfl rfl rfl rfl rfl ?_
                        refine AO.yldG _ (Yld.move rfl) rfl rfl rfl rfl rfl ?_
                        refine AO.splitAt 122 _ rfl (fun s122 => ?_) (fun s122 => ?_)
                        · -- s122 True
                          refine AO.yldG _ (Yld.move rfl) rfl rfl rfl rfl rfl ?_
                          refine AO.yldG _ (Yld.len Try.underlying26 rfl rfl) rfl rfl rfl rfl rfl ?_
                          refine AO.yldG _ (Yld.int rfl rfl rfl) rfl rfl rfl rfl rfl ?_
                          refine AO.yldG _ (Yld.pickT rfl rfl) rfl rfl rfl rfl rfl ?_
                          refine AO.yldG _ (Yld.pickF rfl rfl) rfl rfl rfl rfl rfl ?_
                          refine AO.yld _ (Yld.pickT rfl rfl) rfl rfl rfl ?_
                          refine AO.yld _ (Yld.assign rfl) rfl rfl rfl ?_
                          refine AO.nil ?_
                          refine Pure.ret Try.results4 (RVs.cons (RV.tmp rfl) RVs.nil) rfl ?_
                          first | rfl | (rw [hmb]; rfl) | (refine cb ?_; have z9 : xs92.length = 1 := (by have y9 := s122; rw [beq_iff_eq] at y9; omega); rw [List.length_map, z9]; rfl) | (exfalso; simp only [decide_eq_true_eq, decide_eq_false_iff_not, bne_iff_ne, ne_eq, beq_iff_eq, beq_eq_false_iff_ne, bne_eq_false_iff_eq, List.length_map] at *; omega)
                        · -- s122 False
                          refine AO.skipT rfl rfl rfl rfl rfl ?_
                          refine AO.skipT rfl rfl rfl rfl rfl ?_
                          refine AO.skipT rfl rfl rfl rfl rfl ?_
                          refine AO.yldG _ (Yld.pickF rfl rfl) rfl rfl rfl rfl rfl ?_
                          refine AO.yldG _ (Yld.pickF rfl rfl) rfl rfl rfl rfl rfl ?_
                          refine AO.yld _ (Yld.pickT rfl rfl) rfl rfl rfl ?_
                          refine AO.yld _ (Yld.assign rfl) rfl rfl rfl ?_
                          refine AO.nil ?_
                          refine Pure.ret Try.results4 (RVs.cons (RV.tmp rfl) RVs.nil) rfl ?_
                          first | rfl | (rw [hmb]; rfl) | (refine cb ?_; have z9 : xs92.length = 1 := (by have y9 := s122; rw [beq_iff_eq] at y9; omega); rw [List.length_map, z9]; rfl) | (exfalso; simp only [decide_eq_true_eq, decide_eq_false_iff_not, bne_iff_ne, ne_eq, beq_iff_eq, beq_eq_false_iff_ne, bne_eq_false_iff_eq, List.length_map] at *; omega)
                    · -- s112 False
                      refine AO.skipT rfl rfl rfl rfl rfl ?_
                      refine AO.skipT rfl rfl rfl rfl rfl ?_
                      refine AO.skipT rfl rfl rfl rfl rfl ?_
                      refine AO.skipU rfl rfl rfl rfl rfl ?_
                      refine AO.skipU rfl rfl rfl rfl rfl ?_
                      refine AO.skipT rfl rfl rfl rfl rfl ?_
                      refine AO.skipT rfl rfl rfl rfl rfl ?_
                      refine AO.skipU rfl rfl rfl rfl rfl ?_
                      refine AO.skipU rfl rfl rfl rfl rfl ?_
                      refine AO.skipU rfl rfl rfl rfl rfl ?_
                      refine AO.skipU rfl rfl rfl rfl rfl ?_
                      refine AO.skipU rfl rfl rfl rfl rfl ?_
                      refine AO.skipU rfl rfl rfl rfl rfl ?_
                      refine AO.skipU rfl rfl rfl rfl rfl ?_
                      refine AO.skipT rfl rfl rfl rfl rfl ?_
                      refine AO.yld _ (Yld.pickF rfl rfl) rfl rfl rfl ?_
                      refine AO.yld _ (Yld.assign rfl) rfl rfl rfl ?_
                      refine AO.nil ?_
                      refine Pure.ret Try.results4 (RVs.cons (RV.tmp rfl) RVs.nil) rfl ?_
                      first | rfl | (rw [hmb]; rfl) | (refine cb ?_; have z9 : xs92.length = 1 := (by have y9 := s122; rw [beq_iff_eq] at y9; omega); rw [List.length_map, z9]; rfl) | (exfalso; simp only [decide_eq_true_eq, decide_eq_false_iff_not, bne_iff_ne, ne_eq, beq_iff_eq, beq_eq_false_iff_ne, bne_eq_false_iff_eq, List.length_map] at *; omega)
      · -- c37 False
        refine AC.skip ?_
        refine AC.seq ?_
        refine AC.region ?_
        refine AO.yld _ (Yld.move rfl) rfl rfl rfl ?_
        refine AO.callW (wantedN rfl) [1] [] [0] rfl rfl Try.call16 rfl (spec_DrawErrorOn_c) (.own rfl) rfl (fun ⟨_, _⟩ => rfl) trivial rfl (fun ⟨_, _⟩ => rfl) (fun ⟨_, _⟩ => rfl) (fun ⟨xs92, v92⟩ hxs92 => ?_)
        dsimp only at hxs92
        refine AO.yld _ (Yld.move rfl) rfl rfl rfl ?_
        refine AO.yld _ (Yld.extract rfl rfl rfl) rfl rfl rfl ?_
        refine AO.yld _ (Yld.extract rfl rfl rfl) rfl rfl rfl ?_
        refine AO.yld _ (Yld.assign rfl) rfl rfl rfl ?_
        refine AO.yld _ (Yld.assign rfl) rfl rfl rfl ?_
        refine AO.nil ?_
        refine AC.seq ?_
        refine AC.region ?_
        refine AO.yld _ (Yld.move rfl) rfl rfl rfl ?_
        refine AO.yld _ (Yld.move rfl) rfl rfl rfl ?_
        refine AO.yld _ (Yld.call rfl rfl Try.call11 rfl rfl rfl (impl_ErrorOn_c (by omega)) rfl) rfl rfl rfl ?_
        refine AO.yld _ (Yld.move rfl) rfl rfl rfl ?_
        refine AO.yld _ (Yld.extract rfl rfl rfl) rfl rfl rfl ?_
        refine AO.yld _ (Yld.extract rfl rfl rfl) rfl rfl rfl ?_
        refine AO.yld _ (Yld.assign rfl) rfl rfl rfl ?_
        refine AO.yld _ (Yld.assign rfl) rfl rfl rfl ?_
        refine AO.nil ?_
        refine AC.seq ?_
        refine AC.seq ?_
        refine AC.region ?_
        refine AO.yld _ (Yld.move rfl) rfl rfl rfl ?_
        refine AO.yld _ (Yld.int rfl rfl rfl) rfl rfl rfl ?_
        refine AO.nil ?_
        refine AC.cond _ rfl (fun c102 => ?_) (fun c102 => ?_)
        · -- c102 True
          have h0m : ¬ (errorOn xs92 v92).2 = 0 := by simpa using c102
          have hmb := errorOn_bad h0m
          refine AC.seq ?_
          refine AC.region ?_
          refine AO.yld _ (Yld.move rfl) rfl rfl rfl ?_
          refine AO.yld _ (Yld.int rfl rfl rfl) rfl rfl rfl ?_
          refine AO.yld _ (Yld.assign rfl) rfl rfl rfl ?_
          refine AO.nil ?_
          refine Pure.ret Try.results4 (RVs.cons (RV.tmp rfl) RVs.nil) rfl ?_
          first | rfl | (rw [hmb]; rfl) | (refine cb ?_; have z9 : xs92.length = 1 := (by have y9 := s122; rw [beq_iff_eq] at y9; omega); rw [List.length_map, z9]; rfl) | (exfalso; simp only [decide_eq_true_eq, decide_eq_false_iff_not, bne_iff_ne, ne_eq, beq_iff_eq, beq_eq_false_iff_ne, bne_eq_false_iff_eq, List.length_map] at *; omega)
        · -- c102 False
          have h0m : (errorOn xs92 v92).2 = 0 := by simpa using c102
          obtain ⟨m1, m2⟩ := errorOn_facts h0m
          refine AC.skip ?_
          refine AC.seq ?_
          refine AC.region ?_
          refine AO.yld _ (Yld.move rfl) rfl rfl rfl ?_
          refine AO.yld _ (Yld.call rfl rfl Try.call17 rfl rfl rfl (impl_DriftPerDay_c (by omega)) rfl) rfl rfl rfl ?_
          refine AO.yld _ (Yld.move rfl) rfl rfl rfl ?_
          refine AO.yld _ (Yld.extract rfl rfl rfl) rfl rfl rfl ?_
          refine AO.yld _ (Yld.extract rfl rfl rfl) rfl rfl rfl ?_
          refine AO.yld _ (Yld.assign rfl) rfl rfl rfl ?_
          refine AO.yld _ (Yld.assign rfl) rfl rfl rfl ?_
          refine AO.nil ?_
          refine AC.seq ?_
          refine AC.region ?_
          refine AO.yld _ (Yld.move rfl) rfl rfl rfl ?_
          refine AO.yld _ (Yld.int rfl rfl rfl) rfl rfl rfl ?_
          refine AO.yld _ (Yld.move rfl) rfl rfl rfl ?_
          refine AO.splitAt 112 _ rfl (fun s112 => ?_) (fun s112 => ?_)
          · -- s112 True
            refine AO.yldG _ (Yld.move rfl) rfl rfl rfl rfl rfl ?_
            refine AO.yldG _ (Yld.int rfl rfl rfl) rfl rfl rfl rfl rfl ?_
            refine AO.yldG _ (Yld.move rfl) rfl rfl rfl rfl rfl ?_
            refine AO.splitAt 115 _ rfl (fun s115 => ?_) (fun s115 => ?_)
            · -- s115 True
              refine AO.yldG _ (Yld.move rfl) rfl rfl rfl rfl rfl ?_
              refine AO.yldG _ (Yld.int rfl rfl rfl) rfl rfl rfl rfl rfl ?_
              refine AO.yldG _ (Yld.pickT rfl rfl) rfl rfl rfl rfl rfl ?_
              refine AO.yldG _ (Yld.move rfl) rfl rfl rfl rfl rfl ?_
              refine AO.splitAt 119 _ rfl (fun s119 => ?_) (fun s119 => ?_)
              · -- s119 True
                refine AO.skipF rfl rfl rfl rfl rfl ?_
                refine AO.skipF rfl rfl rfl rfl rfl ?_
                refine AO.skipF rfl rfl rfl rfl rfl ?_
                refine AO.skipU rfl rfl rfl rfl rfl ?_
                refine AO.skipU rfl rfl rfl rfl rfl ?_
                refine AO.skipU rfl rfl rfl rfl rfl ?_
                refine AO.skipF rfl rfl rfl rfl rfl ?_
                refine AO.yldG _ (Yld.pickT rfl rfl) rfl rfl rfl rfl rfl ?_
                refine AO.yld _ (Yld.pickT rfl rfl) rfl rfl rfl ?_
                refine AO.yld _ (Yld.assign rfl) rfl rfl rfl ?_
                refine AO.nil ?_
                refine Pure.ret Try.results4 (RVs.cons (RV.tmp rfl) RVs.nil) rfl ?_
                first | rfl | (rw [hmb]; rfl) | (refine cb ?_; have z9 : xs92.length = 1 := (by have y9 := s122; rw [beq_iff_eq] at y9; omega); rw [List.length_map, z9]; rfl) | (exfalso; simp only [decide_eq_true_eq, decide_eq_false_iff_not, bne_iff_ne, ne_eq, beq_iff_eq, beq_eq_false_iff_ne, bne_eq_false_iff_eq, List.length_map] at *; omega)
              · -- s119 False
                refine AO.yldG _ (Yld.move rfl) rfl rfl rfl rfl rfl ?_
                refine AO.yldG _ (Yld.int rfl rfl rfl) rfl rfl rfl rfl rfl ?_
                refine AO.yldG _ (Yld.move rfl) rfl rfl rfl rfl rfl ?_
                refine AO.splitAt 122 _ rfl (fun s122 => ?_) (fun s122 => ?_)
                · -- s122 True
                  refine AO.yldG _ (Yld.move rfl) rfl rfl rfl rfl rfl ?_
                  refine AO.yldG _ (Yld.len Try.underlying26 rfl rfl) rfl rfl rfl rfl rfl ?_
                  refine AO.yldG _ (Yld.int rfl rfl rfl) rfl rfl rfl rfl rfl ?_
                  refine AO.yldG _ (Yld.pickT rfl rfl) rfl rfl rfl rfl rfl ?_
                  refine AO.yldG _ (Yld.pickF rfl rfl) rfl rfl rfl rfl rfl ?_
                  refine AO.yld _ (Yld.pickT rfl rfl) rfl rfl rfl ?_
                  refine AO.yld _ (Yld.assign rfl) rfl rfl rfl ?_
                  refine AO.nil ?_
                  refine Pure.ret Try.results4 (RVs.cons (RV.tmp rfl) RVs.nil) rfl ?_
                  first | rfl | (rw [hmb]; rfl) | (refine cb ?_; have z9 : xs92.length = 1 := (by have y9 := s122; rw [beq_iff_eq] at y9; omega); rw [List.length_map, z9]; rfl) | (exfalso; simp only [decide_eq_true_eq, decide_eq_false_iff_not, bne_iff_ne, ne_eq, beq_iff_eq, beq_eq_false_iff_ne, bne_eq_false_iff_eq, List.length_map] at *; omega)
                · -- s122 False
                  refine AO.skipT rfl rfl rfl rfl rfl ?_
                  refine AO.skipT rfl rfl rfl rfl rfl ?_
                  refine AO.skipT rfl rfl rfl rfl rfl ?_
                  refine AO.yldG _ (Yld.pickF rfl rfl) rfl rfl rfl rfl rfl ?_
                  refine AO.yldG _ (Yld.pickF rfl rfl) rfl rfl rfl rfl rfl ?_
                  refine AO.yld _ (Yld.pickT rfl rfl) rfl rfl rfl ?_
                  refine AO.yld _ (Yld.assign rfl) rfl rfl rfl ?_
                  refine AO.nil ?_
                  refine Pure.ret Try.results4 (RVs.cons (RV.tmp rfl) RVs.nil) rfl ?_
                  first | rfl | (rw [hmb]; rfl) | (refine cb ?_; have z9 : xs92.length = 1 := (by have y9 := s122; rw [beq_iff_eq] at y9; omega); rw [List.length_map, z9]; rfl) | (exfalso; simp only [decide_eq_true_eq, decide_eq_false_iff_not, bne_iff_ne, ne_eq, beq_iff_eq, beq_eq_false_iff_ne, bne_eq_false_iff_eq, List.length_map] at *; omega)
            · -- s115 False
              refine AO.skipT rfl rfl rfl rfl rfl ?_
              refine AO.skipT rfl rfl rfl rfl rfl ?_
              refine AO.yldG _ (Yld.pickF rfl rfl) rfl rfl rfl rfl rfl ?_
              refine AO.yldG _ (Yld.move rfl) rfl rfl rfl rfl rfl ?_
              refine AO.yldG _ (Yld.move rfl) rfl rfl rfl rfl rfl ?_
              refine AO.yldG _ (Yld.int rfl rfl rfl) rfl rfl rfl rfl rfl ?_
              refine AO.yldG _ (Yld.move rfl) rfl rfl rfl rfl rfl ?_
              refine AO.splitAt 122 _ rfl (fun s122 => ?_) (fun s122 => ?_)
              · -- s122 True
                refine AO.yldG _ (Yld.move rfl) rfl rfl rfl rfl rfl ?_
                refine AO.yldG _ (Yld.len Try.underlying26 rfl rfl) rfl rfl rfl rfl rfl ?_
                refine AO.yldG _ (Yld.int rfl rfl rfl) rfl rfl rfl rfl rfl ?_
                refine AO.yldG _ (Yld.pickT rfl rfl) rfl rfl rfl rfl rfl ?_
                refine AO.yldG _ (Yld.pickF rfl rfl) rfl rfl rfl rfl rfl ?_
                refine AO.yld _ (Yld.pickT rfl rfl) rfl rfl rfl ?_
                refine AO.yld _ (Yld.assign rfl) rfl rfl rfl ?_
                refine AO.nil ?_
                refine Pure.ret Try.results4 (RVs.cons (RV.tmp rfl) RVs.nil) rfl ?_
                first | rfl | (rw [hmb]; rfl) | (refine cb ?_; have z9 : xs92.length = 1 := (by have y9 := s122; rw [beq_iff_eq] at y9; omega); rw [List.length_map, z9]; rfl) | (exfalso; simp only [decide_eq_true_eq, decide_eq_false_iff_not, bne_iff_ne, ne_eq, beq_iff_eq, beq_eq_false_iff_ne, bne_eq_false_iff_eq, List.length_map] at *; omega)
              · -- s122 False
                refine AO.skipT rfl rfl rfl rfl rfl ?_
                refine AO.skipT rfl rfl rfl rfl rfl ?_
                refine AO.skipT rfl rfl rfl rfl rfl ?_
                refine AO.yldG _ (Yld.pickF rfl rfl) rfl rfl rfl rfl rfl ?_
                refine AO.yldG _ (Yld.pickF rfl rfl) rfl rfl rfl rfl rfl ?_
                refine AO.yld _ (Yld.pickT rfl rfl) rfl rfl rfl ?_
                refine AO.yld _ (Yld.assign rfl) rfl rfl rfl ?_
                refine AO.nil ?_
                refine Pure.ret Try.results4 (RVs.cons (RV.tmp rfl) RVs.nil) rfl ?_
                first | rfl | (rw [hmb]; rfl) | (refine cb ?_; have z9 : xs92.length = 1 := (by have y9 := s122; rw [beq_iff_eq] at y9; omega); rw [List.length_map, z9]; rfl) | (exfalso; simp only [decide_eq_true_eq, decide_eq_false_iff_not, bne_iff_ne, ne_eq, beq_iff_eq, beq_eq_false_iff_ne, bne_eq_false_iff_eq, List.length_map] at *; omega)
          · -- s112 False
            refine AO.skipT rfl rfl rfl rfl rfl ?_
            refine AO.skipT rfl rfl rfl rfl rfl ?_
            refine AO.skipT rfl rfl rfl rfl rfl ?_
            refine AO.skipU rfl rfl rfl rfl rfl ?_
            refine AO.skipU rfl rfl rfl rfl rfl ?_
            refine AO.skipT rfl rfl rfl rfl rfl ?_
            refine AO.skipT rfl rfl rfl rfl rfl ?_
            refine AO.skipU rfl rfl rfl rfl rfl ?_
            refine AO.skipU rfl rfl rfl rfl rfl ?_
            refine AO.skipU rfl rfl rfl rfl rfl ?_
            refine AO.skipU rfl rfl rfl rfl rfl ?_
            refine AO.skipU rfl rfl rfl rfl rfl ?_
            refine AO.skipU rfl rfl rfl rfl rfl ?_
            refine AO.skipU rfl rfl rfl rfl rfl ?_
            refine AO.skipT rfl rfl rfl rfl rfl ?_
            refine AO.yld _ (Yld.pickF rfl rfl) rfl rfl rfl ?_
            refine AO.yld _ (Yld.assign rfl) rfl rfl rfl ?_
            refine AO.nil ?_
            refine Pure.ret Try.results4 (RVs.cons (RV.tmp rfl) RVs.nil) rfl ?_
            first | rfl | (rw [hmb]; rfl) | (refine cb ?_; have z9 : xs92.length = 1 := (by have y9 := s122; rw [beq_iff_eq] at y9; omega); rw [List.length_map, z9]; rfl) | (exfalso; simp only [decide_eq_true_eq, decide_eq_false_iff_not, bne_iff_ne, ne_eq, beq_iff_eq, beq_eq_false_iff_ne, bne_eq_false_iff_eq, List.length_map] at *; omega)

end Go.Proofs.Ytdpanmnnfamfmaa
