/- Contracts of functions of the program, each by a walk of its text in the calculus V. -/
import Derived.Test.YtiilobkfonjlhaaR2D
import Derived.Test.YtiilobkfonjlhaaD10
set_option linter.all false
set_option linter.unusedSimpArgs false
set_option linter.unnecessarySimpa false
set_option linter.unusedVariables false
namespace Go.Proofs.Ytiilobkfonjlhaa
open Go Go.V
theorem ty2 : TyIs Try.prog 2 (.int .i64 0) 1 8 := by unfold TyIs; kernel_rfl
theorem ty5 : TyIs Try.prog 5 (.int .u8 0) 1 1 := by unfold TyIs; kernel_rfl
theorem ty82 : TyIs Try.prog 82 (.agg #[.string ⟨#[]⟩, .int .i64 0, .int .i64 0]) 3 32 := by unfold TyIs; kernel_rfl
theorem ty126 : TyIs Try.prog 126 (.agg #[.string ⟨#[]⟩, .int .i64 0]) 2 24 := by unfold TyIs; kernel_rfl

theorem laws_toNeed_c {x : NV} :
    Pure Try.prog 98 [.agg (encNV x)] (.agg (encNV x)) := by
  refine Pure.intro Try.func98 rfl Try.ntmps98 rfl rfl (fun w => ?_)
  refine AC.seq ?_
  refine AC.region ?_
  refine AO.box 0 rfl rfl rfl rfl rfl ?_
  refine AO.alloc 1 Try.zeroValue126 rfl rfl rfl ?_
  refine AO.nil ?_
  refine AC.seq ?_
  refine AC.region ?_
  refine AO.alloc 2 Try.zeroValue126 rfl rfl rfl ?_
  refine AO.nil ?_
  refine AC.seq ?_
  refine AC.region ?_
  refine AO.yld _ (Yld.fieldAddr Try.underlying121 rfl rfl Try.sizeOf9 rfl rfl rfl) rfl rfl rfl ?_
  refine AO.yld _ (Yld.load Try.isAgg9 rfl rfl) rfl rfl rfl ?_
  refine AO.yld _ (Yld.fieldAddr Try.underlying126 rfl rfl Try.sizeOf9 rfl rfl rfl) rfl rfl rfl ?_
  refine AO.store Try.sizeOf9 rfl rfl rfl rfl rfl rfl ?_
  refine AO.nil ?_
  refine AC.seq ?_
  refine AC.region ?_
  refine AO.yld _ (Yld.fieldAddr Try.underlying121 rfl rfl Try.sizeOf2 rfl rfl rfl) rfl rfl rfl ?_
  refine AO.yld _ (Yld.load Try.isAgg2 rfl rfl) rfl rfl rfl ?_
  refine AO.yld _ (Yld.fieldAddr Try.underlying126 rfl rfl Try.sizeOf2 rfl rfl rfl) rfl rfl rfl ?_
  refine AO.store Try.sizeOf2 rfl rfl rfl rfl rfl rfl ?_
  refine AO.nil ?_
  refine AC.seq ?_
  refine AC.region ?_
  refine AO.yld _ (Yld.loadAgg Try.isAgg126 Try.sizeOf126 rfl rfl rfl rfl) rfl rfl rfl ?_
  refine AO.store Try.sizeOf126 rfl rfl rfl rfl rfl rfl ?_
  refine AO.nil ?_
  refine Pure.ret Try.results98 (RVs.cons (RV.cell Try.isAgg126 Try.sizeOf126 rfl rfl rfl rfl) RVs.nil) rfl ?_
  first | rfl | (simp_all; done) | (simp_all; intros; omega) | grind

theorem laws_toNeedS_c {xs : List NV} (hn : xs.length ≤ 1048576) :
    Mk Try.prog 39 [.sl 2 (xs.map encNV)] (.h 0) 126 2 (xs.map encNV) := by
  have hM : (xs.map encNV).length = xs.length := List.length_map ..
  refine Mk.intro Try.func39 rfl Try.ntmps39 rfl rfl (fun w => ?_)
  refine AC.seq ?_
  refine AC.region ?_
  refine AO.yld _ (Yld.assign rfl) rfl rfl rfl ?_
  refine AO.nil ?_
  refine AC.seq ?_
  refine AC.region ?_
  refine AO.yld _ (Yld.move rfl) rfl rfl rfl ?_
  refine AO.yld _ (Yld.len Try.underlying51 rfl rfl) rfl rfl rfl ?_
  refine AO.make 0 Try.underlying57 ty126 rfl rfl rfl rfl rfl (Nat.le_refl _) (by rw [hM]; omega) (by rw [hM]; omega) rfl rfl ?_
  refine AO.yld _ (Yld.assign rfl) rfl rfl rfl ?_
  refine AO.nil ?_
  refine AC.seq ?_
  refine AC.seq ?_
  refine AC.region ?_
  refine AO.yld _ (Yld.assign rfl) rfl rfl rfl ?_
  refine AO.nil ?_
  refine AC.block ?_
  refine AC.loopC [(0, _), (2, _), (3, _)] [] (fun (k : Nat) => [(4, .p (.v (.int .i64 (k : Int))))]) (fun (k : Nat) => [(0, .vec 126 2 (filled encNV [.v (.string ⟨#[]⟩), .v (.int .i64 0)] xs k))]) (fun (k : Nat) => k ≤ xs.length) (fun (k : Nat) => xs.length - k) 0 ⟨rfl, rfl, rfl, trivial⟩ trivial ⟨rfl, trivial⟩ ⟨by rw [filled_zero, ← hM]; rfl, trivial⟩ ?_ (fun k hJ => ?_)
  · simp
  · -- round
    refine AC.seq ?_
    refine AC.seq ?_
    refine AC.region ?_
    refine AO.yld _ (Yld.move rfl) rfl rfl rfl ?_
    refine AO.yld _ (Yld.move rfl) rfl rfl rfl ?_
    refine AO.yld _ (Yld.len Try.underlying51 rfl rfl) rfl rfl rfl ?_
    refine AO.yld _ (Yld.int rfl rfl rfl) rfl rfl rfl ?_
    refine AO.nil ?_
    refine AC.cond _ rfl (fun c11 => ?_) (fun c11 => ?_)
    · -- c11 True
      have hk := lt_of_decM c11
      obtain ⟨x, hx⟩ := get_some hk
      have hrow := map_row (enc := encNV) hx
      refine AC.skip ?_
      refine AC.seq ?_
      refine AC.block ?_
      refine AC.region ?_
      refine AO.yld _ (Yld.move rfl) rfl rfl rfl ?_
      refine AO.yld _ (Yld.move rfl) rfl rfl rfl ?_
      refine AO.yld _ (Yld.move rfl) rfl rfl rfl ?_
      refine AO.yld _ (Yld.move rfl) rfl rfl rfl ?_
      refine AO.yld _ (Yld.indexSl Try.underlying51 Try.sizeOf121 rfl rfl hrow rfl) rfl rfl rfl ?_
      refine AO.yld _ (Yld.loadAgg Try.isAgg121 Try.sizeOf121 rfl rfl rfl rfl) rfl rfl rfl ?_
      refine AO.yld _ (Yld.call rfl rfl Try.call98 rfl rfl rfl (laws_toNeed_c) rfl) rfl rfl rfl ?_
      refine AO.yld _ (Yld.indexVec Try.underlying57 Try.sizeOf126 rfl rfl rfl rfl (by rw [filled_length (by omega)]; exact hk)) rfl rfl rfl ?_
      refine AO.store Try.sizeOf126 rfl rfl rfl rfl rfl (store_el rfl (filled_get hk) rfl rfl) ?_
      refine AO.nil ?_
      refine AC.mark ?_
      refine AC.region ?_
      refine AO.yld _ (Yld.move rfl) rfl rfl rfl ?_
      refine AO.yld _ (Yld.add rfl rfl (by omega) (by omega)) rfl rfl rfl ?_
      refine AO.yld _ (Yld.assign rfl) rfl rfl rfl ?_
      refine AO.nil ?_
      refine AC.back ⟨k + 1, ?_, ?_, ⟨?_, trivial⟩, ⟨?_, trivial⟩, ⟨rfl, rfl, rfl, trivial⟩, trivial⟩
      · omega
      · omega
      · rfl
      · rw [← filled_set hx]; rfl
    · -- c11 False
      obtain rfl : k = xs.length := by have := ge_of_decM c11; omega
      refine AC.exit rfl ?_
      refine AC.seq ?_
      refine AC.region ?_
      refine AO.yld _ (Yld.move rfl) rfl rfl rfl ?_
      refine AO.yld _ (Yld.assign rfl) rfl rfl rfl ?_
      refine AO.nil ?_
      refine Mk.ret 0 Try.results39 (RVs.cons (RV.tmp rfl) RVs.nil) rfl rfl ?_
      exact filled_end

theorem laws_eqNeed_c {x y : NV} :
    Pure Try.prog 103 [.agg (encNV x), .agg (encNV y)] (.v (.bool (decide (x = y)))) := by
  refine Pure.intro Try.func103 rfl Try.ntmps103 rfl rfl (fun w => ?_)
  refine AC.seq ?_
  refine AC.region ?_
  refine AO.box 0 rfl rfl rfl rfl rfl ?_
  refine AO.box 1 rfl rfl rfl rfl rfl ?_
  refine AO.yld _ (Yld.assign rfl) rfl rfl rfl ?_
  refine AO.nil ?_
  refine AC.seq ?_
  refine AC.seq ?_
  refine AC.region ?_
  refine AO.yld _ (Yld.fieldAddr Try.underlying126 rfl rfl Try.sizeOf9 rfl rfl rfl) rfl rfl rfl ?_
  refine AO.yld _ (Yld.load Try.isAgg9 rfl rfl) rfl rfl rfl ?_
  refine AO.yld _ (Yld.fieldAddr Try.underlying126 rfl rfl Try.sizeOf9 rfl rfl rfl) rfl rfl rfl ?_
  refine AO.yld _ (Yld.load Try.isAgg9 rfl rfl) rfl rfl rfl ?_
  refine AO.yld _ (Yld.cmpStr rfl rfl rfl) rfl rfl rfl ?_
  refine AO.nil ?_
  refine AC.cond _ rfl (fun c9 => ?_) (fun c9 => ?_)
  · -- c9 True
    refine AC.seq ?_
    refine AC.region ?_
    refine AO.yld _ (Yld.assign rfl) rfl rfl rfl ?_
    refine AO.nil ?_
    refine Pure.ret Try.results103 (RVs.cons (RV.tmp rfl) RVs.nil) rfl ?_
    cases x; cases y; simp_all
  · -- c9 False
    refine AC.skip ?_
    refine AC.seq ?_
    refine AC.seq ?_
    refine AC.region ?_
    refine AO.yld _ (Yld.fieldAddr Try.underlying126 rfl rfl Try.sizeOf2 rfl rfl rfl) rfl rfl rfl ?_
    refine AO.yld _ (Yld.load Try.isAgg2 rfl rfl) rfl rfl rfl ?_
    refine AO.yld _ (Yld.fieldAddr Try.underlying126 rfl rfl Try.sizeOf2 rfl rfl rfl) rfl rfl rfl ?_
    refine AO.yld _ (Yld.load Try.isAgg2 rfl rfl) rfl rfl rfl ?_
    refine AO.yld _ (Yld.int rfl rfl rfl) rfl rfl rfl ?_
    refine AO.nil ?_
    refine AC.cond _ rfl (fun c14 => ?_) (fun c14 => ?_)
    · -- c14 True
      refine AC.seq ?_
      refine AC.region ?_
      refine AO.yld _ (Yld.assign rfl) rfl rfl rfl ?_
      refine AO.nil ?_
      refine Pure.ret Try.results103 (RVs.cons (RV.tmp rfl) RVs.nil) rfl ?_
      cases x; cases y; simp_all
    · -- c14 False
      refine AC.skip ?_
      refine AC.seq ?_
      refine AC.region ?_
      refine AO.yld _ (Yld.assign rfl) rfl rfl rfl ?_
      refine AO.nil ?_
      refine Pure.ret Try.results103 (RVs.cons (RV.tmp rfl) RVs.nil) rfl ?_
      cases x; cases y; simp_all

theorem laws_eqNeedS_c {xs ys : List NV} (hn : xs.length ≤ 1048576) :
    Pure Try.prog 42 [.sl 2 (xs.map encNV), .sl 2 (ys.map encNV)] (.v (.bool (decide (xs = ys)))) := by
  refine Pure.intro Try.func42 rfl Try.ntmps42 rfl rfl (fun w => ?_)
  refine AC.seq ?_
  refine AC.region ?_
  refine AO.yld _ (Yld.assign rfl) rfl rfl rfl ?_
  refine AO.nil ?_
  refine AC.seq ?_
  refine AC.seq ?_
  refine AC.region ?_
  refine AO.yld _ (Yld.move rfl) rfl rfl rfl ?_
  refine AO.yld _ (Yld.len Try.underlying57 rfl rfl) rfl rfl rfl ?_
  refine AO.yld _ (Yld.move rfl) rfl rfl rfl ?_
  refine AO.yld _ (Yld.len Try.underlying57 rfl rfl) rfl rfl rfl ?_
  refine AO.yld _ (Yld.int rfl rfl rfl) rfl rfl rfl ?_
  refine AO.nil ?_
  refine AC.cond _ rfl (fun c10 => ?_) (fun c10 => ?_)
  · -- c10 True
    have hl : xs.length ≠ ys.length := by have h := c10; simp only [List.length_map, bne_iff_ne, ne_eq] at h; omega
    refine AC.seq ?_
    refine AC.region ?_
    refine AO.yld _ (Yld.assign rfl) rfl rfl rfl ?_
    refine AO.nil ?_
    refine Pure.ret Try.results42 (RVs.cons (RV.tmp rfl) RVs.nil) rfl ?_
    first
      | (exact congrArg (fun b => PV.v (.bool b)) (decide_eq_false (fun e => hl (congrArg List.length e))).symm)
      | (refine congrArg (fun b => PV.v (.bool b)) (decide_eq_false (fun e => ?_)).symm; subst e; rw [hx] at hy; simp_all)
      | (refine congrArg (fun b => PV.v (.bool b)) (decide_eq_true ?_).symm; have := hJ.2; rw [List.take_of_length_le (Nat.le_refl _), List.take_of_length_le (by omega)] at this; exact this)
  · -- c10 False
    have hl : xs.length = ys.length := by have h := c10; simp only [List.length_map, bne_eq_false_iff_eq] at h; omega
    refine AC.skip ?_
    refine AC.seq ?_
    refine AC.seq ?_
    refine AC.region ?_
    refine AO.yld _ (Yld.assign rfl) rfl rfl rfl ?_
    refine AO.nil ?_
    refine AC.block ?_
    refine AC.loopC [(0, _), (1, _)] [] (fun (k : Nat) => [(5, .p (.v (.int .i64 (k : Int))))]) (fun (k : Nat) => []) (fun (k : Nat) => k ≤ xs.length ∧ xs.take k = ys.take k) (fun (k : Nat) => xs.length - k) 0 ⟨rfl, rfl, trivial⟩ trivial ⟨rfl, trivial⟩ trivial ?_ (fun k hJ => ?_)
    · simp
    · -- round
      refine AC.seq ?_
      refine AC.seq ?_
      refine AC.region ?_
      refine AO.yld _ (Yld.move rfl) rfl rfl rfl ?_
      refine AO.yld _ (Yld.move rfl) rfl rfl rfl ?_
      refine AO.yld _ (Yld.len Try.underlying57 rfl rfl) rfl rfl rfl ?_
      refine AO.yld _ (Yld.int rfl rfl rfl) rfl rfl rfl ?_
      refine AO.nil ?_
      refine AC.cond _ rfl (fun c14 => ?_) (fun c14 => ?_)
      · -- c14 True
        have hk := lt_of_decM c14
        obtain ⟨x, hx⟩ := get_some hk
        have hrow := map_row (enc := encNV) hx
        obtain ⟨y, hy⟩ := get_some (xs := ys) (k := k) (by omega)
        have hrow2 := map_row (enc := encNV) hy
        refine AC.skip ?_
        refine AC.seq ?_
        refine AC.block ?_
        refine AC.seq ?_
        refine AC.draw (by kernel_rfl) (by kernel_rfl) ?_
        refine AO.yld _ (Yld.move rfl) rfl rfl rfl ?_
        refine AO.yld _ (Yld.move rfl) rfl rfl rfl ?_
        refine AO.yld _ (Yld.indexSl Try.underlying57 Try.sizeOf126 rfl rfl hrow rfl) rfl rfl rfl ?_
        refine AO.yld _ (Yld.loadAgg Try.isAgg126 Try.sizeOf126 rfl rfl rfl rfl) rfl rfl rfl ?_
        refine AO.yld _ (Yld.move rfl) rfl rfl rfl ?_
        refine AO.yld _ (Yld.move rfl) rfl rfl rfl ?_
        refine AO.yld _ (Yld.indexSl Try.underlying57 Try.sizeOf126 rfl rfl hrow2 rfl) rfl rfl rfl ?_
        refine AO.yld _ (Yld.loadAgg Try.isAgg126 Try.sizeOf126 rfl rfl rfl rfl) rfl rfl rfl ?_
        refine AO.yld _ (Yld.call rfl rfl Try.call103 rfl rfl rfl (laws_eqNeed_c) rfl) rfl rfl rfl ?_
        refine AO.yld _ (Yld.not rfl) rfl rfl rfl ?_
        refine AO.nil ?_
        refine AC.cond _ rfl (fun c26 => ?_) (fun c26 => ?_)
        · -- c26 True
          refine AC.seq ?_
          refine AC.region ?_
          refine AO.yld _ (Yld.assign rfl) rfl rfl rfl ?_
          refine AO.nil ?_
          refine Pure.ret Try.results42 (RVs.cons (RV.tmp rfl) RVs.nil) rfl ?_
          first
            | (exact congrArg (fun b => PV.v (.bool b)) (decide_eq_false (fun e => hl (congrArg List.length e))).symm)
            | (refine congrArg (fun b => PV.v (.bool b)) (decide_eq_false (fun e => ?_)).symm; subst e; rw [hx] at hy; simp_all)
            | (refine congrArg (fun b => PV.v (.bool b)) (decide_eq_true ?_).symm; have := hJ.2; rw [List.take_of_length_le (Nat.le_refl _), List.take_of_length_le (by omega)] at this; exact this)
        · -- c26 False
          refine AC.skip ?_
          refine AC.mark ?_
          refine AC.region ?_
          refine AO.yld _ (Yld.move rfl) rfl rfl rfl ?_
          refine AO.yld _ (Yld.add rfl rfl (by omega) (by omega)) rfl rfl rfl ?_
          refine AO.yld _ (Yld.assign rfl) rfl rfl rfl ?_
          refine AO.nil ?_
          refine AC.back ⟨k + 1, ?_, ?_, ⟨?_, trivial⟩, trivial, ⟨rfl, rfl, trivial⟩, trivial⟩
          · exact ⟨hk, by rw [take_snoc hx, take_snoc hy, hJ.2, show x = y by simpa using c26]⟩
          · omega
          · rfl
      · -- c14 False
        obtain rfl : k = xs.length := by have := ge_of_decM c14; omega
        refine AC.exit rfl ?_
        refine AC.seq ?_
        refine AC.region ?_
        refine AO.yld _ (Yld.assign rfl) rfl rfl rfl ?_
        refine AO.nil ?_
        refine Pure.ret Try.results42 (RVs.cons (RV.tmp rfl) RVs.nil) rfl ?_
        first
          | (exact congrArg (fun b => PV.v (.bool b)) (decide_eq_false (fun e => hl (congrArg List.length e))).symm)
          | (refine congrArg (fun b => PV.v (.bool b)) (decide_eq_false (fun e => ?_)).symm; subst e; rw [hx] at hy; simp_all)
          | (refine congrArg (fun b => PV.v (.bool b)) (decide_eq_true ?_).symm; have := hJ.2; rw [List.take_of_length_le (Nat.le_refl _), List.take_of_length_le (by omega)] at this; exact this)

theorem laws_szNeed_c {x : NV} {left : Int} (h0 : 0 ≤ left) (h1 : left ≤ 1048576) (hs : x.name.length ≤ 9223372036854775807) :
    Pure Try.prog 94 [.agg (encNV x), .v (.int .i64 left)] (.v (.int .i64 (szOne x.name left))) := by
  refine Pure.intro Try.func94 rfl Try.ntmps94 rfl rfl (fun w => ?_)
  refine AC.seq ?_
  refine AC.region ?_
  refine AO.box 0 rfl rfl rfl rfl rfl ?_
  refine AO.yld _ (Yld.assign rfl) rfl rfl rfl ?_
  refine AO.nil ?_
  refine AC.seq ?_
  refine AC.region ?_
  refine AO.yld _ (Yld.move rfl) rfl rfl rfl ?_
  refine AO.yld _ (Yld.fieldAddr Try.underlying121 rfl rfl Try.sizeOf9 rfl rfl rfl) rfl rfl rfl ?_
  refine AO.yld _ (Yld.load Try.isAgg9 rfl rfl) rfl rfl rfl ?_
  refine AO.yld _ (Yld.lenStr Try.underlying9 rfl) rfl rfl rfl ?_
  refine AO.yld _ (Yld.sub rfl rfl (by omega) (by omega)) rfl rfl rfl ?_
  refine AO.yld _ (Yld.assign rfl) rfl rfl rfl ?_
  refine AO.nil ?_
  refine AC.seq ?_
  refine AC.seq ?_
  refine AC.region ?_
  refine AO.yld _ (Yld.move rfl) rfl rfl rfl ?_
  refine AO.yld _ (Yld.int rfl rfl rfl) rfl rfl rfl ?_
  refine AO.nil ?_
  refine AC.cond _ rfl (fun c11 => ?_) (fun c11 => ?_)
  · -- c11 True
    refine AC.seq ?_
    refine AC.region ?_
    refine AO.yld _ (Yld.assign rfl) rfl rfl rfl ?_
    refine AO.nil ?_
    refine Pure.ret Try.results94 (RVs.cons (RV.tmp rfl) RVs.nil) rfl ?_
    simp only [szOne]; split <;> simp_all <;> omega
  · -- c11 False
    refine AC.skip ?_
    refine AC.seq ?_
    refine AC.region ?_
    refine AO.yld _ (Yld.move rfl) rfl rfl rfl ?_
    refine AO.yld _ (Yld.assign rfl) rfl rfl rfl ?_
    refine AO.nil ?_
    refine Pure.ret Try.results94 (RVs.cons (RV.tmp rfl) RVs.nil) rfl ?_
    simp only [szOne]; split <;> simp_all <;> omega

theorem laws_toGroup_c {x : Group} :
    Pure Try.prog 80 [.agg (encGroup x)] (.agg (encGroup x)) := by
  refine Pure.intro Try.func80 rfl Try.ntmps80 rfl rfl (fun w => ?_)
  refine AC.seq ?_
  refine AC.region ?_
  refine AO.box 0 rfl rfl rfl rfl rfl ?_
  refine AO.alloc 1 Try.zeroValue82 rfl rfl rfl ?_
  refine AO.nil ?_
  refine AC.seq ?_
  refine AC.region ?_
  refine AO.alloc 2 Try.zeroValue82 rfl rfl rfl ?_
  refine AO.nil ?_
  refine AC.seq ?_
  refine AC.region ?_
  refine AO.yld _ (Yld.fieldAddr Try.underlying97 rfl rfl Try.sizeOf9 rfl rfl rfl) rfl rfl rfl ?_
  refine AO.yld _ (Yld.load Try.isAgg9 rfl rfl) rfl rfl rfl ?_
  refine AO.yld _ (Yld.fieldAddr Try.underlying82 rfl rfl Try.sizeOf9 rfl rfl rfl) rfl rfl rfl ?_
  refine AO.store Try.sizeOf9 rfl rfl rfl rfl rfl rfl ?_
  refine AO.nil ?_
  refine AC.seq ?_
  refine AC.region ?_
  refine AO.yld _ (Yld.fieldAddr Try.underlying97 rfl rfl Try.sizeOf2 rfl rfl rfl) rfl rfl rfl ?_
  refine AO.yld _ (Yld.load Try.isAgg2 rfl rfl) rfl rfl rfl ?_
  refine AO.yld _ (Yld.fieldAddr Try.underlying82 rfl rfl Try.sizeOf2 rfl rfl rfl) rfl rfl rfl ?_
  refine AO.store Try.sizeOf2 rfl rfl rfl rfl rfl rfl ?_
  refine AO.nil ?_
  refine AC.seq ?_
  refine AC.region ?_
  refine AO.yld _ (Yld.fieldAddr Try.underlying97 rfl rfl Try.sizeOf2 rfl rfl rfl) rfl rfl rfl ?_
  refine AO.yld _ (Yld.load Try.isAgg2 rfl rfl) rfl rfl rfl ?_
  refine AO.yld _ (Yld.fieldAddr Try.underlying82 rfl rfl Try.sizeOf2 rfl rfl rfl) rfl rfl rfl ?_
  refine AO.store Try.sizeOf2 rfl rfl rfl rfl rfl rfl ?_
  refine AO.nil ?_
  refine AC.seq ?_
  refine AC.region ?_
  refine AO.yld _ (Yld.loadAgg Try.isAgg82 Try.sizeOf82 rfl rfl rfl rfl) rfl rfl rfl ?_
  refine AO.store Try.sizeOf82 rfl rfl rfl rfl rfl rfl ?_
  refine AO.nil ?_
  refine Pure.ret Try.results80 (RVs.cons (RV.cell Try.isAgg82 Try.sizeOf82 rfl rfl rfl rfl) RVs.nil) rfl ?_
  first | rfl | (simp_all; done) | (simp_all; intros; omega) | grind

theorem laws_toGroupS_c {xs : List Group} (hn : xs.length ≤ 1048576) :
    Mk Try.prog 20 [.sl 3 (xs.map encGroup)] (.h 0) 82 3 (xs.map encGroup) := by
  have hM : (xs.map encGroup).length = xs.length := List.length_map ..
  refine Mk.intro Try.func20 rfl Try.ntmps20 rfl rfl (fun w => ?_)
  refine AC.seq ?_
  refine AC.region ?_
  refine AO.yld _ (Yld.assign rfl) rfl rfl rfl ?_
  refine AO.nil ?_
  refine AC.seq ?_
  refine AC.region ?_
  refine AO.yld _ (Yld.move rfl) rfl rfl rfl ?_
  refine AO.yld _ (Yld.len Try.underlying30 rfl rfl) rfl rfl rfl ?_
  refine AO.make 0 Try.underlying35 ty82 rfl rfl rfl rfl rfl (Nat.le_refl _) (by rw [hM]; omega) (by rw [hM]; omega) rfl rfl ?_
  refine AO.yld _ (Yld.assign rfl) rfl rfl rfl ?_
  refine AO.nil ?_
  refine AC.seq ?_
  refine AC.seq ?_
  refine AC.region ?_
  refine AO.yld _ (Yld.assign rfl) rfl rfl rfl ?_
  refine AO.nil ?_
  refine AC.block ?_
  refine AC.loopC [(0, _), (2, _), (3, _)] [] (fun (k : Nat) => [(4, .p (.v (.int .i64 (k : Int))))]) (fun (k : Nat) => [(0, .vec 82 3 (filled encGroup [.v (.string ⟨#[]⟩), .v (.int .i64 0), .v (.int .i64 0)] xs k))]) (fun (k : Nat) => k ≤ xs.length) (fun (k : Nat) => xs.length - k) 0 ⟨rfl, rfl, rfl, trivial⟩ trivial ⟨rfl, trivial⟩ ⟨by rw [filled_zero, ← hM]; rfl, trivial⟩ ?_ (fun k hJ => ?_)
  · simp
  · -- round
    refine AC.seq ?_
    refine AC.seq ?_
    refine AC.region ?_
    refine AO.yld _ (Yld.move rfl) rfl rfl rfl ?_
    refine AO.yld _ (Yld.move rfl) rfl rfl rfl ?_
    refine AO.yld _ (Yld.len Try.underlying30 rfl rfl) rfl rfl rfl ?_
    refine AO.yld _ (Yld.int rfl rfl rfl) rfl rfl rfl ?_
    refine AO.nil ?_
    refine AC.cond _ rfl (fun c11 => ?_) (fun c11 => ?_)
    · -- c11 True
      have hk := lt_of_decM c11
      obtain ⟨x, hx⟩ := get_some hk
      have hrow := map_row (enc := encGroup) hx
      refine AC.skip ?_
      refine AC.seq ?_
      refine AC.block ?_
      refine AC.region ?_
      refine AO.yld _ (Yld.move rfl) rfl rfl rfl ?_
      refine AO.yld _ (Yld.move rfl) rfl rfl rfl ?_
      refine AO.yld _ (Yld.move rfl) rfl rfl rfl ?_
      refine AO.yld _ (Yld.move rfl) rfl rfl rfl ?_
      refine AO.yld _ (Yld.indexSl Try.underlying30 Try.sizeOf97 rfl rfl hrow rfl) rfl rfl rfl ?_
      refine AO.yld _ (Yld.loadAgg Try.isAgg97 Try.sizeOf97 rfl rfl rfl rfl) rfl rfl rfl ?_
      refine AO.yld _ (Yld.call rfl rfl Try.call80 rfl rfl rfl (laws_toGroup_c) rfl) rfl rfl rfl ?_
      refine AO.yld _ (Yld.indexVec Try.underlying35 Try.sizeOf82 rfl rfl rfl rfl (by rw [filled_length (by omega)]; exact hk)) rfl rfl rfl ?_
      refine AO.store Try.sizeOf82 rfl rfl rfl rfl rfl (store_el rfl (filled_get hk) rfl rfl) ?_
      refine AO.nil ?_
      refine AC.mark ?_
      refine AC.region ?_
      refine AO.yld _ (Yld.move rfl) rfl rfl rfl ?_
      refine AO.yld _ (Yld.add rfl rfl (by omega) (by omega)) rfl rfl rfl ?_
      refine AO.yld _ (Yld.assign rfl) rfl rfl rfl ?_
      refine AO.nil ?_
      refine AC.back ⟨k + 1, ?_, ?_, ⟨?_, trivial⟩, ⟨?_, trivial⟩, ⟨rfl, rfl, rfl, trivial⟩, trivial⟩
      · omega
      · omega
      · rfl
      · rw [← filled_set hx]; rfl
    · -- c11 False
      obtain rfl : k = xs.length := by have := ge_of_decM c11; omega
      refine AC.exit rfl ?_
      refine AC.seq ?_
      refine AC.region ?_
      refine AO.yld _ (Yld.move rfl) rfl rfl rfl ?_
      refine AO.yld _ (Yld.assign rfl) rfl rfl rfl ?_
      refine AO.nil ?_
      refine Mk.ret 0 Try.results20 (RVs.cons (RV.tmp rfl) RVs.nil) rfl rfl ?_
      exact filled_end

theorem laws_eqGroup_c {x y : Group} :
    Pure Try.prog 85 [.agg (encGroup x), .agg (encGroup y)] (.v (.bool (decide (x = y)))) := by
  refine Pure.intro Try.func85 rfl Try.ntmps85 rfl rfl (fun w => ?_)
  refine AC.seq ?_
  refine AC.region ?_
  refine AO.box 0 rfl rfl rfl rfl rfl ?_
  refine AO.box 1 rfl rfl rfl rfl rfl ?_
  refine AO.yld _ (Yld.assign rfl) rfl rfl rfl ?_
  refine AO.nil ?_
  refine AC.seq ?_
  refine AC.seq ?_
  refine AC.region ?_
  refine AO.yld _ (Yld.fieldAddr Try.underlying82 rfl rfl Try.sizeOf9 rfl rfl rfl) rfl rfl rfl ?_
  refine AO.yld _ (Yld.load Try.isAgg9 rfl rfl) rfl rfl rfl ?_
  refine AO.yld _ (Yld.fieldAddr Try.underlying82 rfl rfl Try.sizeOf9 rfl rfl rfl) rfl rfl rfl ?_
  refine AO.yld _ (Yld.load Try.isAgg9 rfl rfl) rfl rfl rfl ?_
  refine AO.yld _ (Yld.cmpStr rfl rfl rfl) rfl rfl rfl ?_
  refine AO.nil ?_
  refine AC.cond _ rfl (fun c9 => ?_) (fun c9 => ?_)
  · -- c9 True
    refine AC.seq ?_
    refine AC.region ?_
    refine AO.yld _ (Yld.assign rfl) rfl rfl rfl ?_
    refine AO.nil ?_
    refine Pure.ret Try.results85 (RVs.cons (RV.tmp rfl) RVs.nil) rfl ?_
    cases x; cases y; simp_all
  · -- c9 False
    refine AC.skip ?_
    refine AC.seq ?_
    refine AC.seq ?_
    refine AC.region ?_
    refine AO.yld _ (Yld.fieldAddr Try.underlying82 rfl rfl Try.sizeOf2 rfl rfl rfl) rfl rfl rfl ?_
    refine AO.yld _ (Yld.load Try.isAgg2 rfl rfl) rfl rfl rfl ?_
    refine AO.yld _ (Yld.fieldAddr Try.underlying82 rfl rfl Try.sizeOf2 rfl rfl rfl) rfl rfl rfl ?_
    refine AO.yld _ (Yld.load Try.isAgg2 rfl rfl) rfl rfl rfl ?_
    refine AO.yld _ (Yld.int rfl rfl rfl) rfl rfl rfl ?_
    refine AO.nil ?_
    refine AC.cond _ rfl (fun c14 => ?_) (fun c14 => ?_)
    · -- c14 True
      refine AC.seq ?_
      refine AC.region ?_
      refine AO.yld _ (Yld.assign rfl) rfl rfl rfl ?_
      refine AO.nil ?_
      refine Pure.ret Try.results85 (RVs.cons (RV.tmp rfl) RVs.nil) rfl ?_
      cases x; cases y; simp_all
    · -- c14 False
      refine AC.skip ?_
      refine AC.seq ?_
      refine AC.seq ?_
      refine AC.region ?_
      refine AO.yld _ (Yld.fieldAddr Try.underlying82 rfl rfl Try.sizeOf2 rfl rfl rfl) rfl rfl rfl ?_
      refine AO.yld _ (Yld.load Try.isAgg2 rfl rfl) rfl rfl rfl ?_
      refine AO.yld _ (Yld.fieldAddr Try.underlying82 rfl rfl Try.sizeOf2 rfl rfl rfl) rfl rfl rfl ?_
      refine AO.yld _ (Yld.load Try.isAgg2 rfl rfl) rfl rfl rfl ?_
      refine AO.yld _ (Yld.int rfl rfl rfl) rfl rfl rfl ?_
      refine AO.nil ?_
      refine AC.cond _ rfl (fun c19 => ?_) (fun c19 => ?_)
      · -- c19 True
        refine AC.seq ?_
        refine AC.region ?_
        refine AO.yld _ (Yld.assign rfl) rfl rfl rfl ?_
        refine AO.nil ?_
        refine Pure.ret Try.results85 (RVs.cons (RV.tmp rfl) RVs.nil) rfl ?_
        cases x; cases y; simp_all
      · -- c19 False
        refine AC.skip ?_
        refine AC.seq ?_
        refine AC.region ?_
        refine AO.yld _ (Yld.assign rfl) rfl rfl rfl ?_
        refine AO.nil ?_
        refine Pure.ret Try.results85 (RVs.cons (RV.tmp rfl) RVs.nil) rfl ?_
        cases x; cases y; simp_all

theorem laws_eqGroupS_c {xs ys : List Group} (hn : xs.length ≤ 1048576) :
    Pure Try.prog 24 [.sl 3 (xs.map encGroup), .sl 3 (ys.map encGroup)] (.v (.bool (decide (xs = ys)))) := by
  refine Pure.intro Try.func24 rfl Try.ntmps24 rfl rfl (fun w => ?_)
  refine AC.seq ?_
  refine AC.region ?_
  refine AO.yld _ (Yld.assign rfl) rfl rfl rfl ?_
  refine AO.nil ?_
  refine AC.seq ?_
  refine AC.seq ?_
  refine AC.region ?_
  refine AO.yld _ (Yld.move rfl) rfl rfl rfl ?_
  refine AO.yld _ (Yld.len Try.underlying35 rfl rfl) rfl rfl rfl ?_
  refine AO.yld _ (Yld.move rfl) rfl rfl rfl ?_
  refine AO.yld _ (Yld.len Try.underlying35 rfl rfl) rfl rfl rfl ?_
  refine AO.yld _ (Yld.int rfl rfl rfl) rfl rfl rfl ?_
  refine AO.nil ?_
  refine AC.cond _ rfl (fun c10 => ?_) (fun c10 => ?_)
  · -- c10 True
    have hl : xs.length ≠ ys.length := by have h := c10; simp only [List.length_map, bne_iff_ne, ne_eq] at h; omega
    refine AC.seq ?_
    refine AC.region ?_
    refine AO.yld _ (Yld.assign rfl) rfl rfl rfl ?_
    refine AO.nil ?_
    refine Pure.ret Try.results24 (RVs.cons (RV.tmp rfl) RVs.nil) rfl ?_
    first
      | (exact congrArg (fun b => PV.v (.bool b)) (decide_eq_false (fun e => hl (congrArg List.length e))).symm)
      | (refine congrArg (fun b => PV.v (.bool b)) (decide_eq_false (fun e => ?_)).symm; subst e; rw [hx] at hy; simp_all)
      | (refine congrArg (fun b => PV.v (.bool b)) (decide_eq_true ?_).symm; have := hJ.2; rw [List.take_of_length_le (Nat.le_refl _), List.take_of_length_le (by omega)] at this; exact this)
  · -- c10 False
    have hl : xs.length = ys.length := by have h := c10; simp only [List.length_map, bne_eq_false_iff_eq] at h; omega
    refine AC.skip ?_
    refine AC.seq ?_
    refine AC.seq ?_
    refine AC.region ?_
    refine AO.yld _ (Yld.assign rfl) rfl rfl rfl ?_
    refine AO.nil ?_
    refine AC.block ?_
    refine AC.loopC [(0, _), (1, _)] [] (fun (k : Nat) => [(5, .p (.v (.int .i64 (k : Int))))]) (fun (k : Nat) => []) (fun (k : Nat) => k ≤ xs.length ∧ xs.take k = ys.take k) (fun (k : Nat) => xs.length - k) 0 ⟨rfl, rfl, trivial⟩ trivial ⟨rfl, trivial⟩ trivial ?_ (fun k hJ => ?_)
    · simp
    · -- round
      refine AC.seq ?_
      refine AC.seq ?_
      refine AC.region ?_
      refine AO.yld _ (Yld.move rfl) rfl rfl rfl ?_
      refine AO.yld _ (Yld.move rfl) rfl rfl rfl ?_
      refine AO.yld _ (Yld.len Try.underlying35 rfl rfl) rfl rfl rfl ?_
      refine AO.yld _ (Yld.int rfl rfl rfl) rfl rfl rfl ?_
      refine AO.nil ?_
      refine AC.cond _ rfl (fun c14 => ?_) (fun c14 => ?_)
      · -- c14 True
        have hk := lt_of_decM c14
        obtain ⟨x, hx⟩ := get_some hk
        have hrow := map_row (enc := encGroup) hx
        obtain ⟨y, hy⟩ := get_some (xs := ys) (k := k) (by omega)
        have hrow2 := map_row (enc := encGroup) hy
        refine AC.skip ?_
        refine AC.seq ?_
        refine AC.block ?_
        refine AC.seq ?_
        refine AC.draw (by kernel_rfl) (by kernel_rfl) ?_
        refine AO.yld _ (Yld.move rfl) rfl rfl rfl ?_
        refine AO.yld _ (Yld.move rfl) rfl rfl rfl ?_
        refine AO.yld _ (Yld.indexSl Try.underlying35 Try.sizeOf82 rfl rfl hrow rfl) rfl rfl rfl ?_
        refine AO.yld _ (Yld.loadAgg Try.isAgg82 Try.sizeOf82 rfl rfl rfl rfl) rfl rfl rfl ?_
        refine AO.yld _ (Yld.move rfl) rfl rfl rfl ?_
        refine AO.yld _ (Yld.move rfl) rfl rfl rfl ?_
        refine AO.yld _ (Yld.indexSl Try.underlying35 Try.sizeOf82 rfl rfl hrow2 rfl) rfl rfl rfl ?_
        refine AO.yld _ (Yld.loadAgg Try.isAgg82 Try.sizeOf82 rfl rfl rfl rfl) rfl rfl rfl ?_
        refine AO.yld _ (Yld.call rfl rfl Try.call85 rfl rfl rfl (laws_eqGroup_c) rfl) rfl rfl rfl ?_
        refine AO.yld _ (Yld.not rfl) rfl rfl rfl ?_
        refine AO.nil ?_
        refine AC.cond _ rfl (fun c26 => ?_) (fun c26 => ?_)
        · -- c26 True
          refine AC.seq ?_
          refine AC.region ?_
          refine AO.yld _ (Yld.assign rfl) rfl rfl rfl ?_
          refine AO.nil ?_
          refine Pure.ret Try.results24 (RVs.cons (RV.tmp rfl) RVs.nil) rfl ?_
          first
            | (exact congrArg (fun b => PV.v (.bool b)) (decide_eq_false (fun e => hl (congrArg List.length e))).symm)
            | (refine congrArg (fun b => PV.v (.bool b)) (decide_eq_false (fun e => ?_)).symm; subst e; rw [hx] at hy; simp_all)
            | (refine congrArg (fun b => PV.v (.bool b)) (decide_eq_true ?_).symm; have := hJ.2; rw [List.take_of_length_le (Nat.le_refl _), List.take_of_length_le (by omega)] at this; exact this)
        · -- c26 False
          refine AC.skip ?_
          refine AC.mark ?_
          refine AC.region ?_
          refine AO.yld _ (Yld.move rfl) rfl rfl rfl ?_
          refine AO.yld _ (Yld.add rfl rfl (by omega) (by omega)) rfl rfl rfl ?_
          refine AO.yld _ (Yld.assign rfl) rfl rfl rfl ?_
          refine AO.nil ?_
          refine AC.back ⟨k + 1, ?_, ?_, ⟨?_, trivial⟩, trivial, ⟨rfl, rfl, trivial⟩, trivial⟩
          · exact ⟨hk, by rw [take_snoc hx, take_snoc hy, hJ.2, show x = y by simpa using c26]⟩
          · omega
          · rfl
      · -- c14 False
        obtain rfl : k = xs.length := by have := ge_of_decM c14; omega
        refine AC.exit rfl ?_
        refine AC.seq ?_
        refine AC.region ?_
        refine AO.yld _ (Yld.assign rfl) rfl rfl rfl ?_
        refine AO.nil ?_
        refine Pure.ret Try.results24 (RVs.cons (RV.tmp rfl) RVs.nil) rfl ?_
        first
          | (exact congrArg (fun b => PV.v (.bool b)) (decide_eq_false (fun e => hl (congrArg List.length e))).symm)
          | (refine congrArg (fun b => PV.v (.bool b)) (decide_eq_false (fun e => ?_)).symm; subst e; rw [hx] at hy; simp_all)
          | (refine congrArg (fun b => PV.v (.bool b)) (decide_eq_true ?_).symm; have := hJ.2; rw [List.take_of_length_le (Nat.le_refl _), List.take_of_length_le (by omega)] at this; exact this)

theorem laws_szGroup_c {x : Group} {left : Int} (h0 : 0 ≤ left) (h1 : left ≤ 1048576) (hs : x.name.length ≤ 9223372036854775807) :
    Pure Try.prog 74 [.agg (encGroup x), .v (.int .i64 left)] (.v (.int .i64 (szOne x.name left))) := by
  refine Pure.intro Try.func74 rfl Try.ntmps74 rfl rfl (fun w => ?_)
  refine AC.seq ?_
  refine AC.region ?_
  refine AO.box 0 rfl rfl rfl rfl rfl ?_
  refine AO.yld _ (Yld.assign rfl) rfl rfl rfl ?_
  refine AO.nil ?_
  refine AC.seq ?_
  refine AC.region ?_
  refine AO.yld _ (Yld.move rfl) rfl rfl rfl ?_
  refine AO.yld _ (Yld.fieldAddr Try.underlying97 rfl rfl Try.sizeOf9 rfl rfl rfl) rfl rfl rfl ?_
  refine AO.yld _ (Yld.load Try.isAgg9 rfl rfl) rfl rfl rfl ?_
  refine AO.yld _ (Yld.lenStr Try.underlying9 rfl) rfl rfl rfl ?_
  refine AO.yld _ (Yld.sub rfl rfl (by omega) (by omega)) rfl rfl rfl ?_
  refine AO.yld _ (Yld.assign rfl) rfl rfl rfl ?_
  refine AO.nil ?_
  refine AC.seq ?_
  refine AC.seq ?_
  refine AC.region ?_
  refine AO.yld _ (Yld.move rfl) rfl rfl rfl ?_
  refine AO.yld _ (Yld.int rfl rfl rfl) rfl rfl rfl ?_
  refine AO.nil ?_
  refine AC.cond _ rfl (fun c11 => ?_) (fun c11 => ?_)
  · -- c11 True
    refine AC.seq ?_
    refine AC.region ?_
    refine AO.yld _ (Yld.assign rfl) rfl rfl rfl ?_
    refine AO.nil ?_
    refine Pure.ret Try.results74 (RVs.cons (RV.tmp rfl) RVs.nil) rfl ?_
    simp only [szOne]; split <;> simp_all <;> omega
  · -- c11 False
    refine AC.skip ?_
    refine AC.seq ?_
    refine AC.region ?_
    refine AO.yld _ (Yld.move rfl) rfl rfl rfl ?_
    refine AO.yld _ (Yld.assign rfl) rfl rfl rfl ?_
    refine AO.nil ?_
    refine Pure.ret Try.results74 (RVs.cons (RV.tmp rfl) RVs.nil) rfl ?_
    simp only [szOne]; split <;> simp_all <;> omega

theorem laws_szNeedS_c {xs : List NV} {left : Int} (h0 : 0 ≤ left) (h1 : left ≤ 1048576) (hn : xs.length ≤ 9223372036854775807) (hs : ∀ x ∈ xs, (x.name).length ≤ 9223372036854775807) :
    Pure Try.prog 36 [.sl 2 (xs.map encNV), .v (.int .i64 left)] (.v (.int .i64 (szAll (NV.name) xs left))) := by
  refine Pure.intro Try.func36 rfl Try.ntmps36 rfl rfl (fun w => ?_)
  refine AC.seq ?_
  refine AC.region ?_
  refine AO.yld _ (Yld.assign rfl) rfl rfl rfl ?_
  refine AO.nil ?_
  refine AC.seq ?_
  refine AC.region ?_
  refine AO.yld _ (Yld.move rfl) rfl rfl rfl ?_
  refine AO.yld _ (Yld.move rfl) rfl rfl rfl ?_
  refine AO.yld _ (Yld.len Try.underlying51 rfl rfl) rfl rfl rfl ?_
  refine AO.yld _ (Yld.sub rfl rfl (by simp only [List.length_map]; omega) (by simp only [List.length_map]; omega)) rfl rfl rfl ?_
  refine AO.yld _ (Yld.assign rfl) rfl rfl rfl ?_
  refine AO.nil ?_
  refine AC.seq ?_
  refine AC.seq ?_
  refine AC.region ?_
  refine AO.yld _ (Yld.move rfl) rfl rfl rfl ?_
  refine AO.yld _ (Yld.int rfl rfl rfl) rfl rfl rfl ?_
  refine AO.nil ?_
  refine AC.cond _ rfl (fun c11 => ?_) (fun c11 => ?_)
  · -- c11 True
    refine AC.seq ?_
    refine AC.region ?_
    refine AO.yld _ (Yld.assign rfl) rfl rfl rfl ?_
    refine AO.nil ?_
    refine Pure.ret Try.results36 (RVs.cons (RV.tmp rfl) RVs.nil) rfl ?_
    first
      | (refine ci ?_; have h := c11; have hl := lens_nonneg (f := (NV.name)) (xs := xs); simp only [List.length_map, decide_eq_true_eq] at h; unfold szAll; rw [if_pos (by omega)])
      | (refine ci ?_; have h := szOne_lt c25; unfold szAll; rw [if_pos (by omega)])
      | (refine ci ?_; rw [lensTo_all] at hJ ⊢; unfold szAll; rw [if_neg (by omega)])
  · -- c11 False
    refine AC.skip ?_
    refine AC.seq ?_
    refine AC.seq ?_
    refine AC.region ?_
    refine AO.yld _ (Yld.assign rfl) rfl rfl rfl ?_
    refine AO.nil ?_
    refine AC.block ?_
    refine AC.loopC [(0, _)] [] (fun (k : Nat) => [(5, .p (.v (.int .i64 (k : Int)))), (1, .p (.v (.int .i64 (left - xs.length - lensTo (NV.name) xs k))))]) (fun (k : Nat) => []) (fun (k : Nat) => k ≤ xs.length ∧ 0 ≤ left - xs.length - lensTo (NV.name) xs k) (fun (k : Nat) => xs.length - k) 0 ⟨rfl, trivial⟩ trivial ⟨rfl, by show some (AV.p (PV.v (Value.int IntKind.i64 _))) = _; simp only [List.length_map, lensTo_zero, Int.sub_zero], trivial⟩ trivial ?_ (fun k hJ => ?_)
    · refine ⟨Nat.zero_le _, ?_⟩; rw [lensTo_zero]; simp only [List.length_map, decide_eq_false_iff_not] at c11; omega
    · -- round
      refine AC.seq ?_
      refine AC.seq ?_
      refine AC.region ?_
      refine AO.yld _ (Yld.move rfl) rfl rfl rfl ?_
      refine AO.yld _ (Yld.move rfl) rfl rfl rfl ?_
      refine AO.yld _ (Yld.len Try.underlying51 rfl rfl) rfl rfl rfl ?_
      refine AO.yld _ (Yld.int rfl rfl rfl) rfl rfl rfl ?_
      refine AO.nil ?_
      refine AC.cond _ rfl (fun c15 => ?_) (fun c15 => ?_)
      · -- c15 True
        have hk := lt_of_decM c15
        obtain ⟨x, hx⟩ := get_some hk
        have hrow := map_row (enc := encNV) hx
        have hsx := hs x (List.mem_of_getElem? hx)
        have hle := lens_ge (f := (NV.name)) (xs := xs) (k + 1)
        rw [lensTo_succ hx] at hle
        have hnn := lensTo_nonneg (f := (NV.name)) (xs := xs) (k := k)
        refine AC.skip ?_
        refine AC.seq ?_
        refine AC.block ?_
        refine AC.seq ?_
        refine AC.region ?_
        refine AO.yld _ (Yld.move rfl) rfl rfl rfl ?_
        refine AO.yld _ (Yld.move rfl) rfl rfl rfl ?_
        refine AO.yld _ (Yld.indexSl Try.underlying51 Try.sizeOf121 rfl rfl hrow rfl) rfl rfl rfl ?_
        refine AO.yld _ (Yld.loadAgg Try.isAgg121 Try.sizeOf121 rfl rfl rfl rfl) rfl rfl rfl ?_
        refine AO.yld _ (Yld.move rfl) rfl rfl rfl ?_
        refine AO.yld _ (Yld.call rfl rfl Try.call94 rfl rfl rfl (laws_szNeed_c (by omega) (by omega) (by first | assumption | omega)) rfl) rfl rfl rfl ?_
        refine AO.yld _ (Yld.assign rfl) rfl rfl rfl ?_
        refine AO.nil ?_
        refine AC.seq ?_
        refine AC.region ?_
        refine AO.yld _ (Yld.move rfl) rfl rfl rfl ?_
        refine AO.yld _ (Yld.int rfl rfl rfl) rfl rfl rfl ?_
        refine AO.nil ?_
        refine AC.cond _ rfl (fun c25 => ?_) (fun c25 => ?_)
        · -- c25 True
          refine AC.seq ?_
          refine AC.region ?_
          refine AO.yld _ (Yld.assign rfl) rfl rfl rfl ?_
          refine AO.nil ?_
          refine Pure.ret Try.results36 (RVs.cons (RV.tmp rfl) RVs.nil) rfl ?_
          first
            | (refine ci ?_; have h := c11; have hl := lens_nonneg (f := (NV.name)) (xs := xs); simp only [List.length_map, decide_eq_true_eq] at h; unfold szAll; rw [if_pos (by omega)])
            | (refine ci ?_; have h := szOne_lt c25; unfold szAll; rw [if_pos (by omega)])
            | (refine ci ?_; rw [lensTo_all] at hJ ⊢; unfold szAll; rw [if_neg (by omega)])
        · -- c25 False
          refine AC.skip ?_
          refine AC.mark ?_
          refine AC.region ?_
          refine AO.yld _ (Yld.move rfl) rfl rfl rfl ?_
          refine AO.yld _ (Yld.add rfl rfl (by omega) (by omega)) rfl rfl rfl ?_
          refine AO.yld _ (Yld.assign rfl) rfl rfl rfl ?_
          refine AO.nil ?_
          refine AC.back ⟨k + 1, ?_, ?_, ⟨?_, ?_, trivial⟩, trivial, ⟨rfl, trivial⟩, trivial⟩
          · refine ⟨hk, ?_⟩; rw [lensTo_succ hx]; have h := szOne_ge c25; omega
          · omega
          · rfl
          · show some (AV.p (PV.v (Value.int IntKind.i64 _))) = _; rw [lensTo_succ hx, (szOne_ge c25).1]; congr 4; omega
      · -- c15 False
        obtain rfl : k = xs.length := by have := ge_of_decM c15; omega
        refine AC.exit rfl ?_
        refine AC.seq ?_
        refine AC.region ?_
        refine AO.yld _ (Yld.move rfl) rfl rfl rfl ?_
        refine AO.yld _ (Yld.assign rfl) rfl rfl rfl ?_
        refine AO.nil ?_
        refine Pure.ret Try.results36 (RVs.cons (RV.tmp rfl) RVs.nil) rfl ?_
        first
          | (refine ci ?_; have h := c11; have hl := lens_nonneg (f := (NV.name)) (xs := xs); simp only [List.length_map, decide_eq_true_eq] at h; unfold szAll; rw [if_pos (by omega)])
          | (refine ci ?_; have h := szOne_lt c25; unfold szAll; rw [if_pos (by omega)])
          | (refine ci ?_; rw [lensTo_all] at hJ ⊢; unfold szAll; rw [if_neg (by omega)])

theorem laws_szGroupS_c {xs : List Group} {left : Int} (h0 : 0 ≤ left) (h1 : left ≤ 1048576) (hn : xs.length ≤ 9223372036854775807) (hs : ∀ x ∈ xs, (x.name).length ≤ 9223372036854775807) :
    Pure Try.prog 18 [.sl 3 (xs.map encGroup), .v (.int .i64 left)] (.v (.int .i64 (szAll (Group.name) xs left))) := by
  refine Pure.intro Try.func18 rfl Try.ntmps18 rfl rfl (fun w => ?_)
  refine AC.seq ?_
  refine AC.region ?_
  refine AO.yld _ (Yld.assign rfl) rfl rfl rfl ?_
  refine AO.nil ?_
  refine AC.seq ?_
  refine AC.region ?_
  refine AO.yld _ (Yld.move rfl) rfl rfl rfl ?_
  refine AO.yld _ (Yld.move rfl) rfl rfl rfl ?_
  refine AO.yld _ (Yld.len Try.underlying30 rfl rfl) rfl rfl rfl ?_
  refine AO.yld _ (Yld.sub rfl rfl (by simp only [List.length_map]; omega) (by simp only [List.length_map]; omega)) rfl rfl rfl ?_
  refine AO.yld _ (Yld.assign rfl) rfl rfl rfl ?_
  refine AO.nil ?_
  refine AC.seq ?_
  refine AC.seq ?_
  refine AC.region ?_
  refine AO.yld _ (Yld.move rfl) rfl rfl rfl ?_
  refine AO.yld _ (Yld.int rfl rfl rfl) rfl rfl rfl ?_
  refine AO.nil ?_
  refine AC.cond _ rfl (fun c11 => ?_) (fun c11 => ?_)
  · -- c11 True
    refine AC.seq ?_
    refine AC.region ?_
    refine AO.yld _ (Yld.assign rfl) rfl rfl rfl ?_
    refine AO.nil ?_
    refine Pure.ret Try.results18 (RVs.cons (RV.tmp rfl) RVs.nil) rfl ?_
    first
      | (refine ci ?_; have h := c11; have hl := lens_nonneg (f := (Group.name)) (xs := xs); simp only [List.length_map, decide_eq_true_eq] at h; unfold szAll; rw [if_pos (by omega)])
      | (refine ci ?_; have h := szOne_lt c25; unfold szAll; rw [if_pos (by omega)])
      | (refine ci ?_; rw [lensTo_all] at hJ ⊢; unfold szAll; rw [if_neg (by omega)])
  · -- c11 False
    refine AC.skip ?_
    refine AC.seq ?_
    refine AC.seq ?_
    refine AC.region ?_
    refine AO.yld _ (Yld.assign rfl) rfl rfl rfl ?_
    refine AO.nil ?_
    refine AC.block ?_
    refine AC.loopC [(0, _)] [] (fun (k : Nat) => [(5, .p (.v (.int .i64 (k : Int)))), (1, .p (.v (.int .i64 (left - xs.length - lensTo (Group.name) xs k))))]) (fun (k : Nat) => []) (fun (k : Nat) => k ≤ xs.length ∧ 0 ≤ left - xs.length - lensTo (Group.name) xs k) (fun (k : Nat) => xs.length - k) 0 ⟨rfl, trivial⟩ trivial ⟨rfl, by show some (AV.p (PV.v (Value.int IntKind.i64 _))) = _; simp only [List.length_map, lensTo_zero, Int.sub_zero], trivial⟩ trivial ?_ (fun k hJ => ?_)
    · refine ⟨Nat.zero_le _, ?_⟩; rw [lensTo_zero]; simp only [List.length_map, decide_eq_false_iff_not] at c11; omega
    · -- round
      refine AC.seq ?_
      refine AC.seq ?_
      refine AC.region ?_
      refine AO.yld _ (Yld.move rfl) rfl rfl rfl ?_
      refine AO.yld _ (Yld.move rfl) rfl rfl rfl ?_
      refine AO.yld _ (Yld.len Try.underlying30 rfl rfl) rfl rfl rfl ?_
      refine AO.yld _ (Yld.int rfl rfl rfl) rfl rfl rfl ?_
      refine AO.nil ?_
      refine AC.cond _ rfl (fun c15 => ?_) (fun c15 => ?_)
      · -- c15 True
        have hk := lt_of_decM c15
        obtain ⟨x, hx⟩ := get_some hk
        have hrow := map_row (enc := encGroup) hx
        have hsx := hs x (List.mem_of_getElem? hx)
        have hle := lens_ge (f := (Group.name)) (xs := xs) (k + 1)
        rw [lensTo_succ hx] at hle
        have hnn := lensTo_nonneg (f := (Group.name)) (xs := xs) (k := k)
        refine AC.skip ?_
        refine AC.seq ?_
        refine AC.block ?_
        refine AC.seq ?_
        refine AC.region ?_
        refine AO.yld _ (Yld.move rfl) rfl rfl rfl ?_
        refine AO.yld _ (Yld.move rfl) rfl rfl rfl ?_
        refine AO.yld _ (Yld.indexSl Try.underlying30 Try.sizeOf97 rfl rfl hrow rfl) rfl rfl rfl ?_
        refine AO.yld _ (Yld.loadAgg Try.isAgg97 Try.sizeOf97 rfl rfl rfl rfl) rfl rfl rfl ?_
        refine AO.yld _ (Yld.move rfl) rfl rfl rfl ?_
        refine AO.yld _ (Yld.call rfl rfl Try.call74 rfl rfl rfl (laws_szGroup_c (by omega) (by omega) (by first | assumption | omega)) rfl) rfl rfl rfl ?_
        refine AO.yld _ (Yld.assign rfl) rfl rfl rfl ?_
        refine AO.nil ?_
        refine AC.seq ?_
        refine AC.region ?_
        refine AO.yld _ (Yld.move rfl) rfl rfl rfl ?_
        refine AO.yld _ (Yld.int rfl rfl rfl) rfl rfl rfl ?_
        refine AO.nil ?_
        refine AC.cond _ rfl (fun c25 => ?_) (fun c25 => ?_)
        · -- c25 True
          refine AC.seq ?_
          refine AC.region ?_
          refine AO.yld _ (Yld.assign rfl) rfl rfl rfl ?_
          refine AO.nil ?_
          refine Pure.ret Try.results18 (RVs.cons (RV.tmp rfl) RVs.nil) rfl ?_
          first
            | (refine ci ?_; have h := c11; have hl := lens_nonneg (f := (Group.name)) (xs := xs); simp only [List.length_map, decide_eq_true_eq] at h; unfold szAll; rw [if_pos (by omega)])
            | (refine ci ?_; have h := szOne_lt c25; unfold szAll; rw [if_pos (by omega)])
            | (refine ci ?_; rw [lensTo_all] at hJ ⊢; unfold szAll; rw [if_neg (by omega)])
        · -- c25 False
          refine AC.skip ?_
          refine AC.mark ?_
          refine AC.region ?_
          refine AO.yld _ (Yld.move rfl) rfl rfl rfl ?_
          refine AO.yld _ (Yld.add rfl rfl (by omega) (by omega)) rfl rfl rfl ?_
          refine AO.yld _ (Yld.assign rfl) rfl rfl rfl ?_
          refine AO.nil ?_
          refine AC.back ⟨k + 1, ?_, ?_, ⟨?_, ?_, trivial⟩, trivial, ⟨rfl, trivial⟩, trivial⟩
          · refine ⟨hk, ?_⟩; rw [lensTo_succ hx]; have h := szOne_ge c25; omega
          · omega
          · rfl
          · show some (AV.p (PV.v (Value.int IntKind.i64 _))) = _; rw [lensTo_succ hx, (szOne_ge c25).1]; congr 4; omega
      · -- c15 False
        obtain rfl : k = xs.length := by have := ge_of_decM c15; omega
        refine AC.exit rfl ?_
        refine AC.seq ?_
        refine AC.region ?_
        refine AO.yld _ (Yld.move rfl) rfl rfl rfl ?_
        refine AO.yld _ (Yld.assign rfl) rfl rfl rfl ?_
        refine AO.nil ?_
        refine Pure.ret Try.results18 (RVs.cons (RV.tmp rfl) RVs.nil) rfl ?_
        first
          | (refine ci ?_; have h := c11; have hl := lens_nonneg (f := (Group.name)) (xs := xs); simp only [List.length_map, decide_eq_true_eq] at h; unfold szAll; rw [if_pos (by omega)])
          | (refine ci ?_; have h := szOne_lt c25; unfold szAll; rw [if_pos (by omega)])
          | (refine ci ?_; rw [lensTo_all] at hJ ⊢; unfold szAll; rw [if_neg (by omega)])

theorem laws_markText_c {k : Int} (h1 : k ≤ 100000000000000) :
    Pure Try.prog 86 [.v (.int .i64 k)] (.v (str (mText k))) := by
  refine Pure.intro Try.func86 rfl Try.ntmps86 rfl rfl (fun w => ?_)
  refine AC.seq ?_
  refine AC.region ?_
  refine AO.yld _ (Yld.assign rfl) rfl rfl rfl ?_
  refine AO.nil ?_
  refine AC.seq ?_
  refine AC.seq ?_
  refine AC.region ?_
  refine AO.yld _ (Yld.move rfl) rfl rfl rfl ?_
  refine AO.yld _ (Yld.int rfl rfl rfl) rfl rfl rfl ?_
  refine AO.nil ?_
  refine AC.cond _ rfl (fun c5 => ?_) (fun c5 => ?_)
  · -- c5 True
    refine AC.seq ?_
    refine AC.region ?_
    refine AO.yld _ (Yld.assign rfl) rfl rfl rfl ?_
    refine AO.nil ?_
    refine Pure.ret Try.results86 (RVs.cons (RV.tmp rfl) RVs.nil) rfl ?_
    first
      | (refine congrArg (fun s => PV.v (str s)) ?_; have h := hJ.1; rw [mt_zero] at h; rw [h, mText, if_neg (by omega)]; rfl)
      | (refine congrArg (fun s => PV.v (str s)) ?_; rw [mText, if_pos (by simpa using c5)])
  · -- c5 False
    have hk0 : 0 < k := by simpa using c5
    refine AC.skip ?_
    refine AC.seq ?_
    refine AC.region ?_
    refine AO.yld _ (Yld.assign rfl) rfl rfl rfl ?_
    refine AO.nil ?_
    refine AC.seq ?_
    refine AC.block ?_
    refine AC.loopC2 [(2, _)] [] (fun (j : Nat) (acc : List UInt8) => [(0, .p (.v (.int .i64 (j : Int)))), (3, .p (.v (str acc)))]) (fun (j : Nat) (acc : List UInt8) => []) (fun (j : Nat) (acc : List UInt8) => mt j acc = mt k.toNat [] ∧ acc.length ≤ 40 ∧ j < 10 ^ (40 - acc.length) ∧ j ≤ 100000000000000) (fun (j : Nat) (acc : List UInt8) => j) k.toNat [] ⟨rfl, trivial⟩ trivial ⟨by show some (AV.p (PV.v (Value.int IntKind.i64 _))) = _; rw [Int.toNat_of_nonneg (by omega)], rfl, trivial⟩ trivial ?_ (fun j acc hJ => ?_)
    · exact ⟨rfl, by simp, by simp; omega, by omega⟩
    · -- round
      refine AC.seq ?_
      refine AC.seq ?_
      refine AC.region ?_
      refine AO.yld _ (Yld.move rfl) rfl rfl rfl ?_
      refine AO.yld _ (Yld.int rfl rfl rfl) rfl rfl rfl ?_
      refine AO.nil ?_
      refine AC.cond _ rfl (fun c7 => ?_) (fun c7 => ?_)
      · -- c7 True
        have hj : 0 < j := by simpa using c7
        have hps := pow_step hJ.2.2.1 (by omega)
        have htm : ((j : Int)).tmod 10 = ((j % 10 : Nat) : Int) := by rw [Int.tmod_eq_emod_of_nonneg (by omega)]; omega
        refine AC.skip ?_
        refine AC.block ?_
        refine AC.seq ?_
        refine AC.region ?_
        refine AO.yld _ (Yld.move rfl) rfl rfl rfl ?_
        refine AO.yld _ (Yld.rem rfl rfl (by omega)) rfl rfl rfl ?_
        refine AO.yld _ (Yld.add rfl rfl (by omega) (by omega)) rfl rfl rfl ?_
        refine AO.yld _ (Yld.convInt Try.underlying3 Try.underlying5 rfl) rfl rfl rfl ?_
        refine AO.buildSlice (rows := [[_]]) 0 Try.underlying73 ty5 rfl rfl rfl rfl rfl rfl rfl rfl rfl ?_
        refine AO.yld _ (Yld.convBytes (l := [UInt8.ofNat (48 + j % 10)]) Try.underlying73 Try.underlying5 Try.underlying9 rfl (by show some (PV.sl 1 [[PV.v (.int .u8 (IntKind.u8.wrap (48 + (j : Int).tmod 10)))]]) = _; rw [digit_u8 rfl]; rfl)) rfl rfl rfl ?_
        refine AO.yld _ (Yld.move rfl) rfl rfl rfl ?_
        refine AO.yld _ (Yld.cat rfl rfl (by simp only [List.length_singleton]; omega)) rfl rfl rfl ?_
        refine AO.yld _ (Yld.assign rfl) rfl rfl rfl ?_
        refine AO.nil ?_
        refine AC.region ?_
        refine AO.yld _ (Yld.move rfl) rfl rfl rfl ?_
        refine AO.yld _ (Yld.quoP rfl rfl (by omega) (by omega) (by omega)) rfl rfl rfl ?_
        refine AO.yld _ (Yld.assign rfl) rfl rfl rfl ?_
        refine AO.nil ?_
        refine AC.mark ?_
        refine AC.back ⟨j / 10, UInt8.ofNat (48 + j % 10) :: acc, ?_, ?_, ⟨?_, ?_, trivial⟩, trivial, ⟨rfl, trivial⟩, trivial⟩
        · exact ⟨(mt_step (by omega) acc).symm.trans hJ.1, by simp only [List.length_cons]; omega, hps.2, by omega⟩
        · omega
        · show some (AV.p (PV.v (Value.int IntKind.i64 _))) = _; rw [Int.tdiv_eq_ediv_of_nonneg (by omega)]; rfl
        · rfl
      · -- c7 False
        obtain rfl : j = 0 := by have h := c7; simp at h; exact h
        refine AC.exit rfl ?_
        refine AC.seq ?_
        refine AC.region ?_
        refine AO.yld _ (Yld.move rfl) rfl rfl rfl ?_
        refine AO.yld _ (Yld.cat rfl rfl (by have := hJ.2.1; show [(109 : UInt8)].length + _ < _; simp only [List.length_singleton]; omega)) rfl rfl rfl ?_
        refine AO.yld _ (Yld.assign rfl) rfl rfl rfl ?_
        refine AO.nil ?_
        refine Pure.ret Try.results86 (RVs.cons (RV.tmp rfl) RVs.nil) rfl ?_
        first
          | (refine congrArg (fun s => PV.v (str s)) ?_; have h := hJ.1; rw [mt_zero] at h; rw [h, mText, if_neg (by omega)]; rfl)
          | (refine congrArg (fun s => PV.v (str s)) ?_; rw [mText, if_pos (by simpa using c5)])

theorem laws_toInt64S_c {xs : List Int} (hn : xs.length ≤ 1048576) :
    Mk Try.prog 21 [.sl 1 (xs.map encI)] (.h 0) 2 1 (xs.map encI) := by
  have hM : (xs.map encI).length = xs.length := List.length_map ..
  refine Mk.intro Try.func21 rfl Try.ntmps21 rfl rfl (fun w => ?_)
  refine AC.seq ?_
  refine AC.region ?_
  refine AO.yld _ (Yld.assign rfl) rfl rfl rfl ?_
  refine AO.nil ?_
  refine AC.seq ?_
  refine AC.region ?_
  refine AO.yld _ (Yld.move rfl) rfl rfl rfl ?_
  refine AO.yld _ (Yld.len Try.underlying31 rfl rfl) rfl rfl rfl ?_
  refine AO.make 0 Try.underlying31 ty2 rfl rfl rfl rfl rfl (Nat.le_refl _) (by rw [hM]; omega) (by rw [hM]; omega) rfl rfl ?_
  refine AO.yld _ (Yld.assign rfl) rfl rfl rfl ?_
  refine AO.nil ?_
  refine AC.seq ?_
  refine AC.seq ?_
  refine AC.region ?_
  refine AO.yld _ (Yld.assign rfl) rfl rfl rfl ?_
  refine AO.nil ?_
  refine AC.block ?_
  refine AC.loopC [(0, _), (2, _), (3, _)] [] (fun (k : Nat) => [(4, .p (.v (.int .i64 (k : Int))))]) (fun (k : Nat) => [(0, .vec 2 1 (filled encI [.v (.int .i64 0)] xs k))]) (fun (k : Nat) => k ≤ xs.length) (fun (k : Nat) => xs.length - k) 0 ⟨rfl, rfl, rfl, trivial⟩ trivial ⟨rfl, trivial⟩ ⟨by rw [filled_zero, ← hM]; rfl, trivial⟩ ?_ (fun k hJ => ?_)
  · exact Nat.zero_le _
  · -- round
    refine AC.seq ?_
    refine AC.seq ?_
    refine AC.region ?_
    refine AO.yld _ (Yld.move rfl) rfl rfl rfl ?_
    refine AO.yld _ (Yld.move rfl) rfl rfl rfl ?_
    refine AO.yld _ (Yld.len Try.underlying31 rfl rfl) rfl rfl rfl ?_
    refine AO.yld _ (Yld.int rfl rfl rfl) rfl rfl rfl ?_
    refine AO.nil ?_
    refine AC.cond _ rfl (fun c11 => ?_) (fun c11 => ?_)
    · -- c11 True
      have hk := lt_of_decM c11
      obtain ⟨x, hx⟩ := get_some hk
      have hrow := map_row (enc := encI) hx
      refine AC.skip ?_
      refine AC.seq ?_
      refine AC.block ?_
      refine AC.region ?_
      refine AO.yld _ (Yld.move rfl) rfl rfl rfl ?_
      refine AO.yld _ (Yld.move rfl) rfl rfl rfl ?_
      refine AO.yld _ (Yld.move rfl) rfl rfl rfl ?_
      refine AO.yld _ (Yld.move rfl) rfl rfl rfl ?_
      refine AO.yld _ (Yld.indexSl Try.underlying31 Try.sizeOf2 rfl rfl hrow rfl) rfl rfl rfl ?_
      refine AO.yld _ (Yld.load Try.isAgg2 rfl rfl) rfl rfl rfl ?_
      refine AO.yld _ (Yld.indexVec Try.underlying31 Try.sizeOf2 rfl rfl rfl rfl (by rw [filled_length (by omega)]; exact hk)) rfl rfl rfl ?_
      refine AO.store Try.sizeOf2 rfl rfl rfl rfl rfl (store_el rfl (filled_get hk) rfl rfl) ?_
      refine AO.nil ?_
      refine AC.mark ?_
      refine AC.region ?_
      refine AO.yld _ (Yld.move rfl) rfl rfl rfl ?_
      refine AO.yld _ (Yld.add rfl rfl (by omega) (by omega)) rfl rfl rfl ?_
      refine AO.yld _ (Yld.assign rfl) rfl rfl rfl ?_
      refine AO.nil ?_
      refine AC.back ⟨k + 1, ?_, ?_, ⟨?_, trivial⟩, ⟨?_, trivial⟩, ⟨rfl, rfl, rfl, trivial⟩, trivial⟩
      · exact hk
      · omega
      · rfl
      · rw [← filled_set hx]; rfl
    · -- c11 False
      obtain rfl : k = xs.length := by have := ge_of_decM c11; omega
      refine AC.exit rfl ?_
      refine AC.seq ?_
      refine AC.region ?_
      refine AO.yld _ (Yld.move rfl) rfl rfl rfl ?_
      refine AO.yld _ (Yld.assign rfl) rfl rfl rfl ?_
      refine AO.nil ?_
      refine Mk.ret 0 Try.results21 (RVs.cons (RV.tmp rfl) RVs.nil) rfl rfl ?_
      exact filled_end

theorem laws_eqInt64S_c {xs ys : List Int} (hn : xs.length ≤ 1048576) :
    Pure Try.prog 23 [.sl 1 (xs.map encI), .sl 1 (ys.map encI)] (.v (.bool (decide (xs = ys)))) := by
  refine Pure.intro Try.func23 rfl Try.ntmps23 rfl rfl (fun w => ?_)
  refine AC.seq ?_
  refine AC.region ?_
  refine AO.yld _ (Yld.assign rfl) rfl rfl rfl ?_
  refine AO.nil ?_
  refine AC.seq ?_
  refine AC.seq ?_
  refine AC.region ?_
  refine AO.yld _ (Yld.move rfl) rfl rfl rfl ?_
  refine AO.yld _ (Yld.len Try.underlying31 rfl rfl) rfl rfl rfl ?_
  refine AO.yld _ (Yld.move rfl) rfl rfl rfl ?_
  refine AO.yld _ (Yld.len Try.underlying31 rfl rfl) rfl rfl rfl ?_
  refine AO.yld _ (Yld.int rfl rfl rfl) rfl rfl rfl ?_
  refine AO.nil ?_
  refine AC.cond _ rfl (fun c10 => ?_) (fun c10 => ?_)
  · -- c10 True
    have hl : xs.length ≠ ys.length := by have h := c10; simp only [List.length_map, bne_iff_ne, ne_eq] at h; omega
    refine AC.seq ?_
    refine AC.region ?_
    refine AO.yld _ (Yld.assign rfl) rfl rfl rfl ?_
    refine AO.nil ?_
    refine Pure.ret Try.results23 (RVs.cons (RV.tmp rfl) RVs.nil) rfl ?_
    first
      | (exact congrArg (fun b => PV.v (.bool b)) (decide_eq_false (fun e => hl (congrArg List.length e))).symm)
      | (refine congrArg (fun b => PV.v (.bool b)) (decide_eq_false (fun e => ?_)).symm; subst e; rw [hx] at hy; simp_all; done)
      | (refine congrArg (fun b => PV.v (.bool b)) (decide_eq_true ?_).symm; have := hJ.2; rw [List.take_of_length_le (Nat.le_refl _), List.take_of_length_le (by omega)] at this; exact this)
  · -- c10 False
    have hl : xs.length = ys.length := by have h := c10; simp only [List.length_map, bne_eq_false_iff_eq] at h; omega
    refine AC.skip ?_
    refine AC.seq ?_
    refine AC.seq ?_
    refine AC.region ?_
    refine AO.yld _ (Yld.assign rfl) rfl rfl rfl ?_
    refine AO.nil ?_
    refine AC.block ?_
    refine AC.loopC [(0, _), (1, _)] [] (fun (k : Nat) => [(5, .p (.v (.int .i64 (k : Int))))]) (fun (k : Nat) => []) (fun (k : Nat) => k ≤ xs.length ∧ xs.take k = ys.take k) (fun (k : Nat) => xs.length - k) 0 ⟨rfl, rfl, trivial⟩ trivial ⟨rfl, trivial⟩ trivial ?_ (fun k hJ => ?_)
    · exact ⟨Nat.zero_le _, rfl⟩
    · -- round
      refine AC.seq ?_
      refine AC.seq ?_
      refine AC.region ?_
      refine AO.yld _ (Yld.move rfl) rfl rfl rfl ?_
      refine AO.yld _ (Yld.move rfl) rfl rfl rfl ?_
      refine AO.yld _ (Yld.len Try.underlying31 rfl rfl) rfl rfl rfl ?_
      refine AO.yld _ (Yld.int rfl rfl rfl) rfl rfl rfl ?_
      refine AO.nil ?_
      refine AC.cond _ rfl (fun c14 => ?_) (fun c14 => ?_)
      · -- c14 True
        have hk := lt_of_decM c14
        obtain ⟨x, hx⟩ := get_some hk
        have hrow := map_row (enc := encI) hx
        obtain ⟨y, hy⟩ := get_some (xs := ys) (k := k) (by omega)
        have hrow2 := map_row (enc := encI) hy
        refine AC.skip ?_
        refine AC.seq ?_
        refine AC.block ?_
        refine AC.seq ?_
        refine AC.draw (by kernel_rfl) (by kernel_rfl) ?_
        refine AO.yld _ (Yld.move rfl) rfl rfl rfl ?_
        refine AO.yld _ (Yld.move rfl) rfl rfl rfl ?_
        refine AO.yld _ (Yld.indexSl Try.underlying31 Try.sizeOf2 rfl rfl hrow rfl) rfl rfl rfl ?_
        refine AO.yld _ (Yld.load Try.isAgg2 rfl rfl) rfl rfl rfl ?_
        refine AO.yld _ (Yld.move rfl) rfl rfl rfl ?_
        refine AO.yld _ (Yld.move rfl) rfl rfl rfl ?_
        refine AO.yld _ (Yld.indexSl Try.underlying31 Try.sizeOf2 rfl rfl hrow2 rfl) rfl rfl rfl ?_
        refine AO.yld _ (Yld.load Try.isAgg2 rfl rfl) rfl rfl rfl ?_
        refine AO.yld _ (Yld.int rfl rfl rfl) rfl rfl rfl ?_
        refine AO.nil ?_
        refine AC.cond _ rfl (fun c25 => ?_) (fun c25 => ?_)
        · -- c25 True
          refine AC.seq ?_
          refine AC.region ?_
          refine AO.yld _ (Yld.assign rfl) rfl rfl rfl ?_
          refine AO.nil ?_
          refine Pure.ret Try.results23 (RVs.cons (RV.tmp rfl) RVs.nil) rfl ?_
          first
            | (exact congrArg (fun b => PV.v (.bool b)) (decide_eq_false (fun e => hl (congrArg List.length e))).symm)
            | (refine congrArg (fun b => PV.v (.bool b)) (decide_eq_false (fun e => ?_)).symm; subst e; rw [hx] at hy; simp_all; done)
            | (refine congrArg (fun b => PV.v (.bool b)) (decide_eq_true ?_).symm; have := hJ.2; rw [List.take_of_length_le (Nat.le_refl _), List.take_of_length_le (by omega)] at this; exact this)
        · -- c25 False
          refine AC.skip ?_
          refine AC.mark ?_
          refine AC.region ?_
          refine AO.yld _ (Yld.move rfl) rfl rfl rfl ?_
          refine AO.yld _ (Yld.add rfl rfl (by omega) (by omega)) rfl rfl rfl ?_
          refine AO.yld _ (Yld.assign rfl) rfl rfl rfl ?_
          refine AO.nil ?_
          refine AC.back ⟨k + 1, ?_, ?_, ⟨?_, trivial⟩, trivial, ⟨rfl, rfl, trivial⟩, trivial⟩
          · exact ⟨hk, by rw [take_snoc hx, take_snoc hy, hJ.2, show x = y by simpa using c25]⟩
          · omega
          · rfl
      · -- c14 False
        obtain rfl : k = xs.length := by have := ge_of_decM c14; omega
        refine AC.exit rfl ?_
        refine AC.seq ?_
        refine AC.region ?_
        refine AO.yld _ (Yld.assign rfl) rfl rfl rfl ?_
        refine AO.nil ?_
        refine Pure.ret Try.results23 (RVs.cons (RV.tmp rfl) RVs.nil) rfl ?_
        first
          | (exact congrArg (fun b => PV.v (.bool b)) (decide_eq_false (fun e => hl (congrArg List.length e))).symm)
          | (refine congrArg (fun b => PV.v (.bool b)) (decide_eq_false (fun e => ?_)).symm; subst e; rw [hx] at hy; simp_all; done)
          | (refine congrArg (fun b => PV.v (.bool b)) (decide_eq_true ?_).symm; have := hJ.2; rw [List.take_of_length_le (Nat.le_refl _), List.take_of_length_le (by omega)] at this; exact this)

theorem laws_markMediaS_c {xs : List NV} {k0 : Int} (h0 : 0 ≤ k0) (h1 : k0 ≤ 10000000000000) (hn : xs.length ≤ 1048576) :
    FnE (α := Unit) Try.prog 43 [.h 0, .p (.v (.int .i64 k0))] [(0, .vec 124 2 (xs.map encNV))] [0] (fun _ => True) (fun _ => .p (.v (.int .i64 (k0 + ((xs.length * 2 : Nat) : Int))))) (fun _ => [(0, .vec 124 2 (mkAll [true, false] k0 xs.length))]) := by
  have hM : (xs.map encNV).length = xs.length := List.length_map ..
  refine FnE.intro Try.func43 rfl Try.ntmps43 rfl rfl (fun w0 F0 η φ w => ?_)
  refine AC.seq ?_
  refine AC.region ?_
  refine AO.yld _ (Yld.assign rfl) rfl rfl rfl ?_
  refine AO.nil ?_
  refine AC.seq ?_
  refine AC.seq ?_
  refine AC.region ?_
  refine AO.yld _ (Yld.assign rfl) rfl rfl rfl ?_
  refine AO.nil ?_
  refine AC.block ?_
  refine AC.loopC [(0, _), (4, _)] [(900, _)] (fun (k : Nat) => [(5, .p (.v (.int .i64 (k : Int)))), (1, .p (.v (.int .i64 (k0 + ((k * 2 : Nat) : Int)))))]) (fun (k : Nat) => [(0, .vec 124 2 (mkd [true, false] k0 (xs.map encNV) k))]) (fun (k : Nat) => k ≤ xs.length) (fun (k : Nat) => xs.length - k) 0 ⟨rfl, rfl, trivial⟩ ⟨rfl, trivial⟩ ⟨rfl, by show some (AV.p (PV.v (Value.int IntKind.i64 _))) = _; simp, trivial⟩ ⟨by rw [mkd_zero]; rfl, trivial⟩ ?_ (fun k hJ => ?_)
  · exact Nat.zero_le _
  · -- round
    refine AC.seq ?_
    refine AC.seq ?_
    refine AC.region ?_
    refine AO.yld _ (Yld.move rfl) rfl rfl rfl ?_
    refine AO.yld _ (Yld.move rfl) rfl rfl rfl ?_
    refine AO.yld _ (Yld.len Try.underlying55 rfl rfl) rfl rfl rfl ?_
    refine AO.yld _ (Yld.int rfl rfl rfl) rfl rfl rfl ?_
    refine AO.nil ?_
    refine AC.cond _ rfl (fun c9 => ?_) (fun c9 => ?_)
    · -- c9 True
      have hk : k < xs.length := by have h := c9; rw [mkd_length (by omega), hM] at h; simpa using h
      obtain ⟨x, hx⟩ := get_some hk
      have hrow := map_row (enc := encNV) hx
      refine AC.skip ?_
      refine AC.seq ?_
      refine AC.block ?_
      refine AC.seq ?_
      refine AC.region ?_
      refine AO.yld _ (Yld.move rfl) rfl rfl rfl ?_
      refine AO.yld _ (Yld.move rfl) rfl rfl rfl ?_
      refine AO.yld _ (Yld.move rfl) rfl rfl rfl ?_
      refine AO.yld _ (Yld.call rfl rfl Try.call86 rfl rfl rfl (laws_markText_c (by omega)) rfl) rfl rfl rfl ?_
      refine AO.yld _ (Yld.indexVec Try.underlying55 Try.sizeOf124 rfl rfl rfl rfl (by first | (rw [mkd_length (by omega), hM]; exact hk) | (simp only [List.length_set]; rw [mkd_length (by omega), hM]; exact hk))) rfl rfl rfl ?_
      refine AO.yld _ (Yld.fieldAddr Try.underlying124 rfl rfl Try.sizeOf9 rfl (behind_el rfl (mkd_get hrow)) rfl) rfl rfl rfl ?_
      refine AO.store Try.sizeOf9 rfl rfl rfl rfl rfl (store_el rfl (mkd_get hrow) rfl rfl) ?_
      refine AO.nil ?_
      refine AC.seq ?_
      refine AC.region ?_
      refine AO.yld _ (Yld.move rfl) rfl rfl rfl ?_
      refine AO.yld _ (Yld.add rfl rfl (by omega) (by omega)) rfl rfl rfl ?_
      refine AO.yld _ (Yld.assign rfl) rfl rfl rfl ?_
      refine AO.nil ?_
      refine AC.seq ?_
      refine AC.region ?_
      refine AO.yld _ (Yld.move rfl) rfl rfl rfl ?_
      refine AO.yld _ (Yld.move rfl) rfl rfl rfl ?_
      refine AO.yld _ (Yld.move rfl) rfl rfl rfl ?_
      refine AO.yld _ (Yld.indexVec Try.underlying55 Try.sizeOf124 rfl rfl rfl rfl (by first | (rw [mkd_length (by omega), hM]; exact hk) | (simp only [List.length_set]; rw [mkd_length (by omega), hM]; exact hk))) rfl rfl rfl ?_
      refine AO.yld _ (Yld.fieldAddr Try.underlying124 rfl rfl Try.sizeOf2 rfl (behind_el rfl (set_get (by first | (rw [mkd_length (by omega), hM]; exact hk) | (simp only [List.length_set]; rw [mkd_length (by omega), hM]; exact hk)))) rfl) rfl rfl rfl ?_
      refine AO.store Try.sizeOf2 rfl rfl rfl rfl rfl (store_el rfl (set_get (by first | (rw [mkd_length (by omega), hM]; exact hk) | (simp only [List.length_set]; rw [mkd_length (by omega), hM]; exact hk))) rfl rfl) ?_
      refine AO.nil ?_
      refine AC.region ?_
      refine AO.yld _ (Yld.move rfl) rfl rfl rfl ?_
      refine AO.yld _ (Yld.add rfl rfl (by omega) (by omega)) rfl rfl rfl ?_
      refine AO.yld _ (Yld.assign rfl) rfl rfl rfl ?_
      refine AO.nil ?_
      refine AC.mark ?_
      refine AC.region ?_
      refine AO.yld _ (Yld.move rfl) rfl rfl rfl ?_
      refine AO.yld _ (Yld.add rfl rfl (by omega) (by omega)) rfl rfl rfl ?_
      refine AO.yld _ (Yld.assign rfl) rfl rfl rfl ?_
      refine AO.nil ?_
      refine AC.back ⟨k + 1, ?_, ?_, ⟨?_, ?_, trivial⟩, ⟨?_, trivial⟩, ⟨rfl, rfl, trivial⟩, ⟨rfl, trivial⟩⟩
      · exact hk
      · omega
      · rfl
      · show some (AV.p (PV.v (Value.int IntKind.i64 _))) = _; congr 4; omega
      · try simp only [List.set_set]
        rw [← mkd_set (by rw [hM]; exact hk)]; rfl
    · -- c9 False
      obtain rfl : k = xs.length := by have h := c9; rw [mkd_length (by omega), hM] at h; simp at h; omega
      refine AC.exit rfl ?_
      refine AC.seq ?_
      refine AC.region ?_
      refine AO.yld _ (Yld.move rfl) rfl rfl rfl ?_
      refine AO.yld _ (Yld.assign rfl) rfl rfl rfl ?_
      refine AO.nil ?_
      refine FnE.ret () [0] [0] Try.results43 (RVs.cons (RV.tmp rfl) RVs.nil) rfl rfl rfl ?_ ?_ ⟨⟨_, rfl, ?_⟩, trivial⟩
      · -- holds
        trivial
      · -- value
        rfl
      · -- thing 0
        exact vecE (by rw [← hM, mkd_end])

theorem laws_markNeedS_c {xs : List NV} {k0 : Int} (h0 : 0 ≤ k0) (h1 : k0 ≤ 10000000000000) (hn : xs.length ≤ 1048576) :
    FnE (α := Unit) Try.prog 44 [.h 0, .p (.v (.int .i64 k0))] [(0, .vec 126 2 (xs.map encNV))] [0] (fun _ => True) (fun _ => .p (.v (.int .i64 (k0 + ((xs.length * 2 : Nat) : Int))))) (fun _ => [(0, .vec 126 2 (mkAll [true, false] k0 xs.length))]) := by
  have hM : (xs.map encNV).length = xs.length := List.length_map ..
  refine FnE.intro Try.func44 rfl Try.ntmps44 rfl rfl (fun w0 F0 η φ w => ?_)
  refine AC.seq ?_
  refine AC.region ?_
  refine AO.yld _ (Yld.assign rfl) rfl rfl rfl ?_
  refine AO.nil ?_
  refine AC.seq ?_
  refine AC.seq ?_
  refine AC.region ?_
  refine AO.yld _ (Yld.assign rfl) rfl rfl rfl ?_
  refine AO.nil ?_
  refine AC.block ?_
  refine AC.loopC [(0, _), (4, _)] [(900, _)] (fun (k : Nat) => [(5, .p (.v (.int .i64 (k : Int)))), (1, .p (.v (.int .i64 (k0 + ((k * 2 : Nat) : Int)))))]) (fun (k : Nat) => [(0, .vec 126 2 (mkd [true, false] k0 (xs.map encNV) k))]) (fun (k : Nat) => k ≤ xs.length) (fun (k : Nat) => xs.length - k) 0 ⟨rfl, rfl, trivial⟩ ⟨rfl, trivial⟩ ⟨rfl, by show some (AV.p (PV.v (Value.int IntKind.i64 _))) = _; simp, trivial⟩ ⟨by rw [mkd_zero]; rfl, trivial⟩ ?_ (fun k hJ => ?_)
  · exact Nat.zero_le _
  · -- round
    refine AC.seq ?_
    refine AC.seq ?_
    refine AC.region ?_
    refine AO.yld _ (Yld.move rfl) rfl rfl rfl ?_
    refine AO.yld _ (Yld.move rfl) rfl rfl rfl ?_
    refine AO.yld _ (Yld.len Try.underlying57 rfl rfl) rfl rfl rfl ?_
    refine AO.yld _ (Yld.int rfl rfl rfl) rfl rfl rfl ?_
    refine AO.nil ?_
    refine AC.cond _ rfl (fun c9 => ?_) (fun c9 => ?_)
    · -- c9 True
      have hk : k < xs.length := by have h := c9; rw [mkd_length (by omega), hM] at h; simpa using h
      obtain ⟨x, hx⟩ := get_some hk
      have hrow := map_row (enc := encNV) hx
      refine AC.skip ?_
      refine AC.seq ?_
      refine AC.block ?_
      refine AC.seq ?_
      refine AC.region ?_
      refine AO.yld _ (Yld.move rfl) rfl rfl rfl ?_
      refine AO.yld _ (Yld.move rfl) rfl rfl rfl ?_
      refine AO.yld _ (Yld.move rfl) rfl rfl rfl ?_
      refine AO.yld _ (Yld.call rfl rfl Try.call86 rfl rfl rfl (laws_markText_c (by omega)) rfl) rfl rfl rfl ?_
      refine AO.yld _ (Yld.indexVec Try.underlying57 Try.sizeOf126 rfl rfl rfl rfl (by first | (rw [mkd_length (by omega), hM]; exact hk) | (simp only [List.length_set]; rw [mkd_length (by omega), hM]; exact hk))) rfl rfl rfl ?_
      refine AO.yld _ (Yld.fieldAddr Try.underlying126 rfl rfl Try.sizeOf9 rfl (behind_el rfl (mkd_get hrow)) rfl) rfl rfl rfl ?_
      refine AO.store Try.sizeOf9 rfl rfl rfl rfl rfl (store_el rfl (mkd_get hrow) rfl rfl) ?_
      refine AO.nil ?_
      refine AC.seq ?_
      refine AC.region ?_
      refine AO.yld _ (Yld.move rfl) rfl rfl rfl ?_
      refine AO.yld _ (Yld.add rfl rfl (by omega) (by omega)) rfl rfl rfl ?_
      refine AO.yld _ (Yld.assign rfl) rfl rfl rfl ?_
      refine AO.nil ?_
      refine AC.seq ?_
      refine AC.region ?_
      refine AO.yld _ (Yld.move rfl) rfl rfl rfl ?_
      refine AO.yld _ (Yld.move rfl) rfl rfl rfl ?_
      refine AO.yld _ (Yld.move rfl) rfl rfl rfl ?_
      refine AO.yld _ (Yld.indexVec Try.underlying57 Try.sizeOf126 rfl rfl rfl rfl (by first | (rw [mkd_length (by omega), hM]; exact hk) | (simp only [List.length_set]; rw [mkd_length (by omega), hM]; exact hk))) rfl rfl rfl ?_
      refine AO.yld _ (Yld.fieldAddr Try.underlying126 rfl rfl Try.sizeOf2 rfl (behind_el rfl (set_get (by first | (rw [mkd_length (by omega), hM]; exact hk) | (simp only [List.length_set]; rw [mkd_length (by omega), hM]; exact hk)))) rfl) rfl rfl rfl ?_
      refine AO.store Try.sizeOf2 rfl rfl rfl rfl rfl (store_el rfl (set_get (by first | (rw [mkd_length (by omega), hM]; exact hk) | (simp only [List.length_set]; rw [mkd_length (by omega), hM]; exact hk))) rfl rfl) ?_
      refine AO.nil ?_
      refine AC.region ?_
      refine AO.yld _ (Yld.move rfl) rfl rfl rfl ?_
      refine AO.yld _ (Yld.add rfl rfl (by omega) (by omega)) rfl rfl rfl ?_
      refine AO.yld _ (Yld.assign rfl) rfl rfl rfl ?_
      refine AO.nil ?_
      refine AC.mark ?_
      refine AC.region ?_
      refine AO.yld _ (Yld.move rfl) rfl rfl rfl ?_
      refine AO.yld _ (Yld.add rfl rfl (by omega) (by omega)) rfl rfl rfl ?_
      refine AO.yld _ (Yld.assign rfl) rfl rfl rfl ?_
      refine AO.nil ?_
      refine AC.back ⟨k + 1, ?_, ?_, ⟨?_, ?_, trivial⟩, ⟨?_, trivial⟩, ⟨rfl, rfl, trivial⟩, ⟨rfl, trivial⟩⟩
      · exact hk
      · omega
      · rfl
      · show some (AV.p (PV.v (Value.int IntKind.i64 _))) = _; congr 4; omega
      · try simp only [List.set_set]
        rw [← mkd_set (by rw [hM]; exact hk)]; rfl
    · -- c9 False
      obtain rfl : k = xs.length := by have h := c9; rw [mkd_length (by omega), hM] at h; simp at h; omega
      refine AC.exit rfl ?_
      refine AC.seq ?_
      refine AC.region ?_
      refine AO.yld _ (Yld.move rfl) rfl rfl rfl ?_
      refine AO.yld _ (Yld.assign rfl) rfl rfl rfl ?_
      refine AO.nil ?_
      refine FnE.ret () [0] [0] Try.results44 (RVs.cons (RV.tmp rfl) RVs.nil) rfl rfl rfl ?_ ?_ ⟨⟨_, rfl, ?_⟩, trivial⟩
      · -- holds
        trivial
      · -- value
        rfl
      · -- thing 0
        exact vecE (by rw [← hM, mkd_end])

theorem laws_markSettingS_c {xs : List NV} {k0 : Int} (h0 : 0 ≤ k0) (h1 : k0 ≤ 10000000000000) (hn : xs.length ≤ 1048576) :
    FnE (α := Unit) Try.prog 52 [.h 0, .p (.v (.int .i64 k0))] [(0, .vec 137 2 (xs.map encNV))] [0] (fun _ => True) (fun _ => .p (.v (.int .i64 (k0 + ((xs.length * 2 : Nat) : Int))))) (fun _ => [(0, .vec 137 2 (mkAll [true, false] k0 xs.length))]) := by
  have hM : (xs.map encNV).length = xs.length := List.length_map ..
  refine FnE.intro Try.func52 rfl Try.ntmps52 rfl rfl (fun w0 F0 η φ w => ?_)
  refine AC.seq ?_
  refine AC.region ?_
  refine AO.yld _ (Yld.assign rfl) rfl rfl rfl ?_
  refine AO.nil ?_
  refine AC.seq ?_
  refine AC.seq ?_
  refine AC.region ?_
  refine AO.yld _ (Yld.assign rfl) rfl rfl rfl ?_
  refine AO.nil ?_
  refine AC.block ?_
  refine AC.loopC [(0, _), (4, _)] [(900, _)] (fun (k : Nat) => [(5, .p (.v (.int .i64 (k : Int)))), (1, .p (.v (.int .i64 (k0 + ((k * 2 : Nat) : Int)))))]) (fun (k : Nat) => [(0, .vec 137 2 (mkd [true, false] k0 (xs.map encNV) k))]) (fun (k : Nat) => k ≤ xs.length) (fun (k : Nat) => xs.length - k) 0 ⟨rfl, rfl, trivial⟩ ⟨rfl, trivial⟩ ⟨rfl, by show some (AV.p (PV.v (Value.int IntKind.i64 _))) = _; simp, trivial⟩ ⟨by rw [mkd_zero]; rfl, trivial⟩ ?_ (fun k hJ => ?_)
  · exact Nat.zero_le _
  · -- round
    refine AC.seq ?_
    refine AC.seq ?_
    refine AC.region ?_
    refine AO.yld _ (Yld.move rfl) rfl rfl rfl ?_
    refine AO.yld _ (Yld.move rfl) rfl rfl rfl ?_
    refine AO.yld _ (Yld.len Try.underlying68 rfl rfl) rfl rfl rfl ?_
    refine AO.yld _ (Yld.int rfl rfl rfl) rfl rfl rfl ?_
    refine AO.nil ?_
    refine AC.cond _ rfl (fun c9 => ?_) (fun c9 => ?_)
    · -- c9 True
      have hk : k < xs.length := by have h := c9; rw [mkd_length (by omega), hM] at h; simpa using h
      obtain ⟨x, hx⟩ := get_some hk
      have hrow := map_row (enc := encNV) hx
      refine AC.skip ?_
      refine AC.seq ?_
      refine AC.block ?_
      refine AC.seq ?_
      refine AC.region ?_
      refine AO.yld _ (Yld.move rfl) rfl rfl rfl ?_
      refine AO.yld _ (Yld.move rfl) rfl rfl rfl ?_
      refine AO.yld _ (Yld.move rfl) rfl rfl rfl ?_
      refine AO.yld _ (Yld.call rfl rfl Try.call86 rfl rfl rfl (laws_markText_c (by omega)) rfl) rfl rfl rfl ?_
      refine AO.yld _ (Yld.indexVec Try.underlying68 Try.sizeOf137 rfl rfl rfl rfl (by first | (rw [mkd_length (by omega), hM]; exact hk) | (simp only [List.length_set]; rw [mkd_length (by omega), hM]; exact hk))) rfl rfl rfl ?_
      refine AO.yld _ (Yld.fieldAddr Try.underlying137 rfl rfl Try.sizeOf9 rfl (behind_el rfl (mkd_get hrow)) rfl) rfl rfl rfl ?_
      refine AO.store Try.sizeOf9 rfl rfl rfl rfl rfl (store_el rfl (mkd_get hrow) rfl rfl) ?_
      refine AO.nil ?_
      refine AC.seq ?_
      refine AC.region ?_
      refine AO.yld _ (Yld.move rfl) rfl rfl rfl ?_
      refine AO.yld _ (Yld.add rfl rfl (by omega) (by omega)) rfl rfl rfl ?_
      refine AO.yld _ (Yld.assign rfl) rfl rfl rfl ?_
      refine AO.nil ?_
      refine AC.seq ?_
      refine AC.region ?_
      refine AO.yld _ (Yld.move rfl) rfl rfl rfl ?_
      refine AO.yld _ (Yld.move rfl) rfl rfl rfl ?_
      refine AO.yld _ (Yld.move rfl) rfl rfl rfl ?_
      refine AO.yld _ (Yld.indexVec Try.underlying68 Try.sizeOf137 rfl rfl rfl rfl (by first | (rw [mkd_length (by omega), hM]; exact hk) | (simp only [List.length_set]; rw [mkd_length (by omega), hM]; exact hk))) rfl rfl rfl ?_
      refine AO.yld _ (Yld.fieldAddr Try.underlying137 rfl rfl Try.sizeOf2 rfl (behind_el rfl (set_get (by first | (rw [mkd_length (by omega), hM]; exact hk) | (simp only [List.length_set]; rw [mkd_length (by omega), hM]; exact hk)))) rfl) rfl rfl rfl ?_
      refine AO.store Try.sizeOf2 rfl rfl rfl rfl rfl (store_el rfl (set_get (by first | (rw [mkd_length (by omega), hM]; exact hk) | (simp only [List.length_set]; rw [mkd_length (by omega), hM]; exact hk))) rfl rfl) ?_
      refine AO.nil ?_
      refine AC.region ?_
      refine AO.yld _ (Yld.move rfl) rfl rfl rfl ?_
      refine AO.yld _ (Yld.add rfl rfl (by omega) (by omega)) rfl rfl rfl ?_
      refine AO.yld _ (Yld.assign rfl) rfl rfl rfl ?_
      refine AO.nil ?_
      refine AC.mark ?_
      refine AC.region ?_
      refine AO.yld _ (Yld.move rfl) rfl rfl rfl ?_
      refine AO.yld _ (Yld.add rfl rfl (by omega) (by omega)) rfl rfl rfl ?_
      refine AO.yld _ (Yld.assign rfl) rfl rfl rfl ?_
      refine AO.nil ?_
      refine AC.back ⟨k + 1, ?_, ?_, ⟨?_, ?_, trivial⟩, ⟨?_, trivial⟩, ⟨rfl, rfl, trivial⟩, ⟨rfl, trivial⟩⟩
      · exact hk
      · omega
      · rfl
      · show some (AV.p (PV.v (Value.int IntKind.i64 _))) = _; congr 4; omega
      · try simp only [List.set_set]
        rw [← mkd_set (by rw [hM]; exact hk)]; rfl
    · -- c9 False
      obtain rfl : k = xs.length := by have h := c9; rw [mkd_length (by omega), hM] at h; simp at h; omega
      refine AC.exit rfl ?_
      refine AC.seq ?_
      refine AC.region ?_
      refine AO.yld _ (Yld.move rfl) rfl rfl rfl ?_
      refine AO.yld _ (Yld.assign rfl) rfl rfl rfl ?_
      refine AO.nil ?_
      refine FnE.ret () [0] [0] Try.results52 (RVs.cons (RV.tmp rfl) RVs.nil) rfl rfl rfl ?_ ?_ ⟨⟨_, rfl, ?_⟩, trivial⟩
      · -- holds
        trivial
      · -- value
        rfl
      · -- thing 0
        exact vecE (by rw [← hM, mkd_end])

theorem laws_heldSettingS_c {k0 : Int} {n : Nat} (h0 : 0 ≤ k0) (h1 : k0 ≤ 10000000000000) (hn : n ≤ 1048576) :
    Pure Try.prog 116 [.sl 2 (mkAll [true, false] k0 n), .v (.int .i64 k0)] (.v (.int .i64 (k0 + ((n * 2 : Nat) : Int)))) := by
  refine Pure.intro Try.func116 rfl Try.ntmps116 rfl rfl (fun w => ?_)
  refine AC.seq ?_
  refine AC.region ?_
  refine AO.yld _ (Yld.assign rfl) rfl rfl rfl ?_
  refine AO.nil ?_
  refine AC.seq ?_
  refine AC.seq ?_
  refine AC.region ?_
  refine AO.yld _ (Yld.assign rfl) rfl rfl rfl ?_
  refine AO.nil ?_
  refine AC.block ?_
  refine AC.loopC [(0, _)] [] (fun (k : Nat) => [(5, .p (.v (.int .i64 (k : Int)))), (1, .p (.v (.int .i64 (k0 + ((k * 2 : Nat) : Int)))))]) (fun (k : Nat) => []) (fun (k : Nat) => k ≤ n) (fun (k : Nat) => n - k) 0 ⟨rfl, trivial⟩ trivial ⟨rfl, by show some (AV.p (PV.v (Value.int IntKind.i64 _))) = _; simp, trivial⟩ trivial ?_ (fun k hJ => ?_)
  · exact Nat.zero_le _
  · -- round
    refine AC.seq ?_
    refine AC.seq ?_
    refine AC.region ?_
    refine AO.yld _ (Yld.move rfl) rfl rfl rfl ?_
    refine AO.yld _ (Yld.move rfl) rfl rfl rfl ?_
    refine AO.yld _ (Yld.len Try.underlying68 rfl rfl) rfl rfl rfl ?_
    refine AO.yld _ (Yld.int rfl rfl rfl) rfl rfl rfl ?_
    refine AO.nil ?_
    refine AC.cond _ rfl (fun c9 => ?_) (fun c9 => ?_)
    · -- c9 True
      have hk : k < n := by have h := c9; rw [mkAll_length] at h; simpa using h
      have hrow := mkAll_get (ks := [true, false]) (k0 := k0) hk
      refine AC.skip ?_
      refine AC.seq ?_
      refine AC.block ?_
      refine AC.seq ?_
      refine AC.seq ?_
      refine AC.draw (by kernel_rfl) (by kernel_rfl) ?_
      refine AO.yld _ (Yld.move rfl) rfl rfl rfl ?_
      refine AO.yld _ (Yld.move rfl) rfl rfl rfl ?_
      refine AO.yld _ (Yld.indexSl Try.underlying68 Try.sizeOf137 rfl rfl hrow rfl) rfl rfl rfl ?_
      refine AO.yld _ (Yld.fieldAddr Try.underlying137 rfl rfl Try.sizeOf9 rfl rfl rfl) rfl rfl rfl ?_
      refine AO.yld _ (Yld.load Try.isAgg9 rfl rfl) rfl rfl rfl ?_
      refine AO.yld _ (Yld.move rfl) rfl rfl rfl ?_
      refine AO.yld _ (Yld.call rfl rfl Try.call86 rfl rfl rfl (laws_markText_c (by omega)) rfl) rfl rfl rfl ?_
      refine AO.yld _ (Yld.cmpStr rfl rfl rfl) rfl rfl rfl ?_
      refine AO.nil ?_
      refine AC.cond _ rfl (fun c19 => ?_) (fun c19 => ?_)
      · -- c19 True
        exfalso; simp at c19
      · -- c19 False
        refine AC.skip ?_
        refine AC.seq ?_
        refine AC.region ?_
        refine AO.yld _ (Yld.move rfl) rfl rfl rfl ?_
        refine AO.yld _ (Yld.add rfl rfl (by omega) (by omega)) rfl rfl rfl ?_
        refine AO.yld _ (Yld.assign rfl) rfl rfl rfl ?_
        refine AO.nil ?_
        refine AC.seq ?_
        refine AC.seq ?_
        refine AC.region ?_
        refine AO.yld _ (Yld.move rfl) rfl rfl rfl ?_
        refine AO.yld _ (Yld.move rfl) rfl rfl rfl ?_
        refine AO.yld _ (Yld.indexSl Try.underlying68 Try.sizeOf137 rfl rfl hrow rfl) rfl rfl rfl ?_
        refine AO.yld _ (Yld.fieldAddr Try.underlying137 rfl rfl Try.sizeOf2 rfl rfl rfl) rfl rfl rfl ?_
        refine AO.yld _ (Yld.load Try.isAgg2 rfl rfl) rfl rfl rfl ?_
        refine AO.yld _ (Yld.move rfl) rfl rfl rfl ?_
        refine AO.yld _ (Yld.int rfl rfl rfl) rfl rfl rfl ?_
        refine AO.nil ?_
        refine AC.cond _ rfl (fun c28 => ?_) (fun c28 => ?_)
        · -- c28 True
          exfalso; simp at c28
        · -- c28 False
          refine AC.skip ?_
          refine AC.region ?_
          refine AO.yld _ (Yld.move rfl) rfl rfl rfl ?_
          refine AO.yld _ (Yld.add rfl rfl (by omega) (by omega)) rfl rfl rfl ?_
          refine AO.yld _ (Yld.assign rfl) rfl rfl rfl ?_
          refine AO.nil ?_
          refine AC.mark ?_
          refine AC.region ?_
          refine AO.yld _ (Yld.move rfl) rfl rfl rfl ?_
          refine AO.yld _ (Yld.add rfl rfl (by omega) (by omega)) rfl rfl rfl ?_
          refine AO.yld _ (Yld.assign rfl) rfl rfl rfl ?_
          refine AO.nil ?_
          refine AC.back ⟨k + 1, ?_, ?_, ⟨?_, ?_, trivial⟩, trivial, ⟨rfl, trivial⟩, trivial⟩
          · exact hk
          · omega
          · rfl
          · show some (AV.p (PV.v (Value.int IntKind.i64 _))) = _; congr 4; omega
    · -- c9 False
      obtain rfl : k = n := by have h := c9; rw [mkAll_length] at h; simp at h; omega
      refine AC.exit rfl ?_
      refine AC.seq ?_
      refine AC.region ?_
      refine AO.yld _ (Yld.move rfl) rfl rfl rfl ?_
      refine AO.yld _ (Yld.assign rfl) rfl rfl rfl ?_
      refine AO.nil ?_
      refine Pure.ret Try.results116 (RVs.cons (RV.tmp rfl) RVs.nil) rfl ?_
      rfl

theorem laws_markGroupS_c {xs : List Group} {k0 : Int} (h0 : 0 ≤ k0) (h1 : k0 ≤ 10000000000000) (hn : xs.length ≤ 1048576) :
    FnE (α := Unit) Try.prog 25 [.h 0, .p (.v (.int .i64 k0))] [(0, .vec 82 3 (xs.map encGroup))] [0] (fun _ => True) (fun _ => .p (.v (.int .i64 (k0 + ((xs.length * 3 : Nat) : Int))))) (fun _ => [(0, .vec 82 3 (mkAll [true, false, false] k0 xs.length))]) := by
  have hM : (xs.map encGroup).length = xs.length := List.length_map ..
  refine FnE.intro Try.func25 rfl Try.ntmps25 rfl rfl (fun w0 F0 η φ w => ?_)
  refine AC.seq ?_
  refine AC.region ?_
  refine AO.yld _ (Yld.assign rfl) rfl rfl rfl ?_
  refine AO.nil ?_
  refine AC.seq ?_
  refine AC.seq ?_
  refine AC.region ?_
  refine AO.yld _ (Yld.assign rfl) rfl rfl rfl ?_
  refine AO.nil ?_
  refine AC.block ?_
  refine AC.loopC [(0, _), (4, _)] [(900, _)] (fun (k : Nat) => [(5, .p (.v (.int .i64 (k : Int)))), (1, .p (.v (.int .i64 (k0 + ((k * 3 : Nat) : Int)))))]) (fun (k : Nat) => [(0, .vec 82 3 (mkd [true, false, false] k0 (xs.map encGroup) k))]) (fun (k : Nat) => k ≤ xs.length) (fun (k : Nat) => xs.length - k) 0 ⟨rfl, rfl, trivial⟩ ⟨rfl, trivial⟩ ⟨rfl, by show some (AV.p (PV.v (Value.int IntKind.i64 _))) = _; simp, trivial⟩ ⟨by rw [mkd_zero]; rfl, trivial⟩ ?_ (fun k hJ => ?_)
  · exact Nat.zero_le _
  · -- round
    refine AC.seq ?_
    refine AC.seq ?_
    refine AC.region ?_
    refine AO.yld _ (Yld.move rfl) rfl rfl rfl ?_
    refine AO.yld _ (Yld.move rfl) rfl rfl rfl ?_
    refine AO.yld _ (Yld.len Try.underlying35 rfl rfl) rfl rfl rfl ?_
    refine AO.yld _ (Yld.int rfl rfl rfl) rfl rfl rfl ?_
    refine AO.nil ?_
    refine AC.cond _ rfl (fun c9 => ?_) (fun c9 => ?_)
    · -- c9 True
      have hk : k < xs.length := by have h := c9; rw [mkd_length (by omega), hM] at h; simpa using h
      obtain ⟨x, hx⟩ := get_some hk
      have hrow := map_row (enc := encGroup) hx
      refine AC.skip ?_
      refine AC.seq ?_
      refine AC.block ?_
      refine AC.seq ?_
      refine AC.region ?_
      refine AO.yld _ (Yld.move rfl) rfl rfl rfl ?_
      refine AO.yld _ (Yld.move rfl) rfl rfl rfl ?_
      refine AO.yld _ (Yld.move rfl) rfl rfl rfl ?_
      refine AO.yld _ (Yld.call rfl rfl Try.call86 rfl rfl rfl (laws_markText_c (by omega)) rfl) rfl rfl rfl ?_
      refine AO.yld _ (Yld.indexVec Try.underlying35 Try.sizeOf82 rfl rfl rfl rfl (by first | (rw [mkd_length (by omega), hM]; exact hk) | (simp only [List.length_set]; rw [mkd_length (by omega), hM]; exact hk))) rfl rfl rfl ?_
      refine AO.yld _ (Yld.fieldAddr Try.underlying82 rfl rfl Try.sizeOf9 rfl (behind_el rfl (mkd_get hrow)) rfl) rfl rfl rfl ?_
      refine AO.store Try.sizeOf9 rfl rfl rfl rfl rfl (store_el rfl (mkd_get hrow) rfl rfl) ?_
      refine AO.nil ?_
      refine AC.seq ?_
      refine AC.region ?_
      refine AO.yld _ (Yld.move rfl) rfl rfl rfl ?_
      refine AO.yld _ (Yld.add rfl rfl (by omega) (by omega)) rfl rfl rfl ?_
      refine AO.yld _ (Yld.assign rfl) rfl rfl rfl ?_
      refine AO.nil ?_
      refine AC.seq ?_
      refine AC.region ?_
      refine AO.yld _ (Yld.move rfl) rfl rfl rfl ?_
      refine AO.yld _ (Yld.move rfl) rfl rfl rfl ?_
      refine AO.yld _ (Yld.move rfl) rfl rfl rfl ?_
      refine AO.yld _ (Yld.indexVec Try.underlying35 Try.sizeOf82 rfl rfl rfl rfl (by first | (rw [mkd_length (by omega), hM]; exact hk) | (simp only [List.length_set]; rw [mkd_length (by omega), hM]; exact hk))) rfl rfl rfl ?_
      refine AO.yld _ (Yld.fieldAddr Try.underlying82 rfl rfl Try.sizeOf2 rfl (behind_el rfl (set_get (by first | (rw [mkd_length (by omega), hM]; exact hk) | (simp only [List.length_set]; rw [mkd_length (by omega), hM]; exact hk)))) rfl) rfl rfl rfl ?_
      refine AO.store Try.sizeOf2 rfl rfl rfl rfl rfl (store_el rfl (set_get (by first | (rw [mkd_length (by omega), hM]; exact hk) | (simp only [List.length_set]; rw [mkd_length (by omega), hM]; exact hk))) rfl rfl) ?_
      refine AO.nil ?_
      refine AC.seq ?_
      refine AC.region ?_
      refine AO.yld _ (Yld.move rfl) rfl rfl rfl ?_
      refine AO.yld _ (Yld.add rfl rfl (by omega) (by omega)) rfl rfl rfl ?_
      refine AO.yld _ (Yld.assign rfl) rfl rfl rfl ?_
      refine AO.nil ?_
      refine AC.seq ?_
      refine AC.region ?_
      refine AO.yld _ (Yld.move rfl) rfl rfl rfl ?_
      refine AO.yld _ (Yld.move rfl) rfl rfl rfl ?_
      refine AO.yld _ (Yld.move rfl) rfl rfl rfl ?_
      refine AO.yld _ (Yld.indexVec Try.underlying35 Try.sizeOf82 rfl rfl rfl rfl (by first | (rw [mkd_length (by omega), hM]; exact hk) | (simp only [List.length_set]; rw [mkd_length (by omega), hM]; exact hk))) rfl rfl rfl ?_
      refine AO.yld _ (Yld.fieldAddr Try.underlying82 rfl rfl Try.sizeOf2 rfl (behind_el rfl (set_get (by first | (rw [mkd_length (by omega), hM]; exact hk) | (simp only [List.length_set]; rw [mkd_length (by omega), hM]; exact hk)))) rfl) rfl rfl rfl ?_
      refine AO.store Try.sizeOf2 rfl rfl rfl rfl rfl (store_el rfl (set_get (by first | (rw [mkd_length (by omega), hM]; exact hk) | (simp only [List.length_set]; rw [mkd_length (by omega), hM]; exact hk))) rfl rfl) ?_
      refine AO.nil ?_
      refine AC.region ?_
      refine AO.yld _ (Yld.move rfl) rfl rfl rfl ?_
      refine AO.yld _ (Yld.add rfl rfl (by omega) (by omega)) rfl rfl rfl ?_
      refine AO.yld _ (Yld.assign rfl) rfl rfl rfl ?_
      refine AO.nil ?_
      refine AC.mark ?_
      refine AC.region ?_
      refine AO.yld _ (Yld.move rfl) rfl rfl rfl ?_
      refine AO.yld _ (Yld.add rfl rfl (by omega) (by omega)) rfl rfl rfl ?_
      refine AO.yld _ (Yld.assign rfl) rfl rfl rfl ?_
      refine AO.nil ?_
      refine AC.back ⟨k + 1, ?_, ?_, ⟨?_, ?_, trivial⟩, ⟨?_, trivial⟩, ⟨rfl, rfl, trivial⟩, ⟨rfl, trivial⟩⟩
      · exact hk
      · omega
      · rfl
      · show some (AV.p (PV.v (Value.int IntKind.i64 _))) = _; congr 4; omega
      · try simp only [List.set_set]
        rw [← mkd_set (by rw [hM]; exact hk)]; rfl
    · -- c9 False
      obtain rfl : k = xs.length := by have h := c9; rw [mkd_length (by omega), hM] at h; simp at h; omega
      refine AC.exit rfl ?_
      refine AC.seq ?_
      refine AC.region ?_
      refine AO.yld _ (Yld.move rfl) rfl rfl rfl ?_
      refine AO.yld _ (Yld.assign rfl) rfl rfl rfl ?_
      refine AO.nil ?_
      refine FnE.ret () [0] [0] Try.results25 (RVs.cons (RV.tmp rfl) RVs.nil) rfl rfl rfl ?_ ?_ ⟨⟨_, rfl, ?_⟩, trivial⟩
      · -- holds
        trivial
      · -- value
        rfl
      · -- thing 0
        exact vecE (by rw [← hM, mkd_end])

theorem laws_markInt64S_c {xs : List Int} {k0 : Int} (h0 : 0 ≤ k0) (h1 : k0 ≤ 10000000000000) (hn : xs.length ≤ 1048576) :
    FnE (α := Unit) Try.prog 26 [.h 0, .p (.v (.int .i64 k0))] [(0, .vec 2 1 (xs.map encI))] [0] (fun _ => True) (fun _ => .p (.v (.int .i64 (k0 + ((xs.length * 1 : Nat) : Int))))) (fun _ => [(0, .vec 2 1 (mkAll [false] k0 xs.length))]) := by
  have hM : (xs.map encI).length = xs.length := List.length_map ..
  refine FnE.intro Try.func26 rfl Try.ntmps26 rfl rfl (fun w0 F0 η φ w => ?_)
  refine AC.seq ?_
  refine AC.region ?_
  refine AO.yld _ (Yld.assign rfl) rfl rfl rfl ?_
  refine AO.nil ?_
  refine AC.seq ?_
  refine AC.seq ?_
  refine AC.region ?_
  refine AO.yld _ (Yld.assign rfl) rfl rfl rfl ?_
  refine AO.nil ?_
  refine AC.block ?_
  refine AC.loopC [(0, _), (4, _)] [(900, _)] (fun (k : Nat) => [(5, .p (.v (.int .i64 (k : Int)))), (1, .p (.v (.int .i64 (k0 + ((k * 1 : Nat) : Int)))))]) (fun (k : Nat) => [(0, .vec 2 1 (mkd [false] k0 (xs.map encI) k))]) (fun (k : Nat) => k ≤ xs.length) (fun (k : Nat) => xs.length - k) 0 ⟨rfl, rfl, trivial⟩ ⟨rfl, trivial⟩ ⟨rfl, by show some (AV.p (PV.v (Value.int IntKind.i64 _))) = _; simp, trivial⟩ ⟨by rw [mkd_zero]; rfl, trivial⟩ ?_ (fun k hJ => ?_)
  · exact Nat.zero_le _
  · -- round
    refine AC.seq ?_
    refine AC.seq ?_
    refine AC.region ?_
    refine AO.yld _ (Yld.move rfl) rfl rfl rfl ?_
    refine AO.yld _ (Yld.move rfl) rfl rfl rfl ?_
    refine AO.yld _ (Yld.len Try.underlying31 rfl rfl) rfl rfl rfl ?_
    refine AO.yld _ (Yld.int rfl rfl rfl) rfl rfl rfl ?_
    refine AO.nil ?_
    refine AC.cond _ rfl (fun c9 => ?_) (fun c9 => ?_)
    · -- c9 True
      have hk : k < xs.length := by have h := c9; rw [mkd_length (by omega), hM] at h; simpa using h
      obtain ⟨x, hx⟩ := get_some hk
      have hrow := map_row (enc := encI) hx
      refine AC.skip ?_
      refine AC.seq ?_
      refine AC.block ?_
      refine AC.seq ?_
      refine AC.region ?_
      refine AO.yld _ (Yld.move rfl) rfl rfl rfl ?_
      refine AO.yld _ (Yld.move rfl) rfl rfl rfl ?_
      refine AO.yld _ (Yld.move rfl) rfl rfl rfl ?_
      refine AO.yld _ (Yld.indexVec Try.underlying31 Try.sizeOf2 rfl rfl rfl rfl (by first | (rw [mkd_length (by omega), hM]; exact hk) | (simp only [List.length_set]; rw [mkd_length (by omega), hM]; exact hk))) rfl rfl rfl ?_
      refine AO.store Try.sizeOf2 rfl rfl rfl rfl rfl (store_el rfl (mkd_get hrow) rfl rfl) ?_
      refine AO.nil ?_
      refine AC.region ?_
      refine AO.yld _ (Yld.move rfl) rfl rfl rfl ?_
      refine AO.yld _ (Yld.add rfl rfl (by omega) (by omega)) rfl rfl rfl ?_
      refine AO.yld _ (Yld.assign rfl) rfl rfl rfl ?_
      refine AO.nil ?_
      refine AC.mark ?_
      refine AC.region ?_
      refine AO.yld _ (Yld.move rfl) rfl rfl rfl ?_
      refine AO.yld _ (Yld.add rfl rfl (by omega) (by omega)) rfl rfl rfl ?_
      refine AO.yld _ (Yld.assign rfl) rfl rfl rfl ?_
      refine AO.nil ?_
      refine AC.back ⟨k + 1, ?_, ?_, ⟨?_, ?_, trivial⟩, ⟨?_, trivial⟩, ⟨rfl, rfl, trivial⟩, ⟨rfl, trivial⟩⟩
      · exact hk
      · omega
      · rfl
      · show some (AV.p (PV.v (Value.int IntKind.i64 _))) = _; congr 4; omega
      · try simp only [List.set_set]
        rw [← mkd_set (by rw [hM]; exact hk)]; rfl
    · -- c9 False
      obtain rfl : k = xs.length := by have h := c9; rw [mkd_length (by omega), hM] at h; simp at h; omega
      refine AC.exit rfl ?_
      refine AC.seq ?_
      refine AC.region ?_
      refine AO.yld _ (Yld.move rfl) rfl rfl rfl ?_
      refine AO.yld _ (Yld.assign rfl) rfl rfl rfl ?_
      refine AO.nil ?_
      refine FnE.ret () [0] [0] Try.results26 (RVs.cons (RV.tmp rfl) RVs.nil) rfl rfl rfl ?_ ?_ ⟨⟨_, rfl, ?_⟩, trivial⟩
      · -- holds
        trivial
      · -- value
        rfl
      · -- thing 0
        exact vecE (by rw [← hM, mkd_end])

theorem laws_heldInt64S_c {k0 : Int} {n : Nat} (h0 : 0 ≤ k0) (h1 : k0 ≤ 10000000000000) (hn : n ≤ 1048576) :
    Pure Try.prog 27 [.sl 1 (mkAll [false] k0 n), .v (.int .i64 k0)] (.v (.int .i64 (k0 + ((n * 1 : Nat) : Int)))) := by
  refine Pure.intro Try.func27 rfl Try.ntmps27 rfl rfl (fun w => ?_)
  refine AC.seq ?_
  refine AC.region ?_
  refine AO.yld _ (Yld.assign rfl) rfl rfl rfl ?_
  refine AO.nil ?_
  refine AC.seq ?_
  refine AC.seq ?_
  refine AC.region ?_
  refine AO.yld _ (Yld.assign rfl) rfl rfl rfl ?_
  refine AO.nil ?_
  refine AC.block ?_
  refine AC.loopC [(0, _)] [] (fun (k : Nat) => [(5, .p (.v (.int .i64 (k : Int)))), (1, .p (.v (.int .i64 (k0 + ((k * 1 : Nat) : Int)))))]) (fun (k : Nat) => []) (fun (k : Nat) => k ≤ n) (fun (k : Nat) => n - k) 0 ⟨rfl, trivial⟩ trivial ⟨rfl, by show some (AV.p (PV.v (Value.int IntKind.i64 _))) = _; simp, trivial⟩ trivial ?_ (fun k hJ => ?_)
  · exact Nat.zero_le _
  · -- round
    refine AC.seq ?_
    refine AC.seq ?_
    refine AC.region ?_
    refine AO.yld _ (Yld.move rfl) rfl rfl rfl ?_
    refine AO.yld _ (Yld.move rfl) rfl rfl rfl ?_
    refine AO.yld _ (Yld.len Try.underlying31 rfl rfl) rfl rfl rfl ?_
    refine AO.yld _ (Yld.int rfl rfl rfl) rfl rfl rfl ?_
    refine AO.nil ?_
    refine AC.cond _ rfl (fun c9 => ?_) (fun c9 => ?_)
    · -- c9 True
      have hk : k < n := by have h := c9; rw [mkAll_length] at h; simpa using h
      have hrow := mkAll_get (ks := [false]) (k0 := k0) hk
      refine AC.skip ?_
      refine AC.seq ?_
      refine AC.block ?_
      refine AC.seq ?_
      refine AC.seq ?_
      refine AC.region ?_
      refine AO.yld _ (Yld.move rfl) rfl rfl rfl ?_
      refine AO.yld _ (Yld.move rfl) rfl rfl rfl ?_
      refine AO.yld _ (Yld.indexSl Try.underlying31 Try.sizeOf2 rfl rfl hrow rfl) rfl rfl rfl ?_
      refine AO.yld _ (Yld.load Try.isAgg2 rfl rfl) rfl rfl rfl ?_
      refine AO.yld _ (Yld.move rfl) rfl rfl rfl ?_
      refine AO.yld _ (Yld.int rfl rfl rfl) rfl rfl rfl ?_
      refine AO.nil ?_
      refine AC.cond _ rfl (fun c17 => ?_) (fun c17 => ?_)
      · -- c17 True
        exfalso; simp at c17
      · -- c17 False
        refine AC.skip ?_
        refine AC.region ?_
        refine AO.yld _ (Yld.move rfl) rfl rfl rfl ?_
        refine AO.yld _ (Yld.add rfl rfl (by omega) (by omega)) rfl rfl rfl ?_
        refine AO.yld _ (Yld.assign rfl) rfl rfl rfl ?_
        refine AO.nil ?_
        refine AC.mark ?_
        refine AC.region ?_
        refine AO.yld _ (Yld.move rfl) rfl rfl rfl ?_
        refine AO.yld _ (Yld.add rfl rfl (by omega) (by omega)) rfl rfl rfl ?_
        refine AO.yld _ (Yld.assign rfl) rfl rfl rfl ?_
        refine AO.nil ?_
        refine AC.back ⟨k + 1, ?_, ?_, ⟨?_, ?_, trivial⟩, trivial, ⟨rfl, trivial⟩, trivial⟩
        · exact hk
        · omega
        · rfl
        · show some (AV.p (PV.v (Value.int IntKind.i64 _))) = _; congr 4; omega
    · -- c9 False
      obtain rfl : k = n := by have h := c9; rw [mkAll_length] at h; simp at h; omega
      refine AC.exit rfl ?_
      refine AC.seq ?_
      refine AC.region ?_
      refine AO.yld _ (Yld.move rfl) rfl rfl rfl ?_
      refine AO.yld _ (Yld.assign rfl) rfl rfl rfl ?_
      refine AO.nil ?_
      refine Pure.ret Try.results27 (RVs.cons (RV.tmp rfl) RVs.nil) rfl ?_
      rfl

end Go.Proofs.Ytiilobkfonjlhaa
