/- Contracts of functions of the program, each by a walk of its text in the calculus V. -/
import Derived.Test.YtaanabofedickaaR3B
set_option linter.all false
set_option linter.unusedSimpArgs false
set_option linter.unnecessarySimpa false
set_option linter.unusedVariables false
namespace Go.Proofs.Ytaanabofedickaa
open Go Go.V

theorem laws_eqChange_c {x y : Chg} :
    Pure Try.prog 108 [.agg (encChg x), .agg (encChg y)] (.v (.bool (decide (x = y)))) := by
  refine Pure.intro Try.func108 rfl Try.ntmps108 rfl rfl (fun w => ?_)
  refine AC.seq ?_
  refine AC.region ?_
  refine AO.box 0 rfl rfl rfl rfl rfl ?_
  refine AO.box 1 rfl rfl rfl rfl rfl ?_
  refine AO.yld _ (Yld.assign rfl) rfl rfl rfl ?_
  refine AO.nil ?_
  refine AC.seq ?_
  refine AC.seq ?_
  refine AC.region ?_
  refine AO.yld _ (Yld.fieldAddr Try.underlying147 rfl rfl Try.sizeOf2 rfl rfl rfl) rfl rfl rfl ?_
  refine AO.yld _ (Yld.load Try.isAgg2 rfl rfl) rfl rfl rfl ?_
  refine AO.yld _ (Yld.fieldAddr Try.underlying147 rfl rfl Try.sizeOf2 rfl rfl rfl) rfl rfl rfl ?_
  refine AO.yld _ (Yld.load Try.isAgg2 rfl rfl) rfl rfl rfl ?_
  refine AO.yld _ (Yld.int rfl rfl rfl) rfl rfl rfl ?_
  refine AO.nil ?_
  refine AC.cond _ rfl (fun c9 => ?_) (fun c9 => ?_)
  · -- c9 True
    refine AC.seq ?_
    refine AC.region ?_
    refine AO.yld _ (Yld.assign rfl) rfl rfl rfl ?_
    refine AO.nil ?_
    refine Pure.ret Try.results108 (RVs.cons (RV.tmp rfl) RVs.nil) rfl ?_
    obtain ⟨xk, ⟨xn, xv⟩⟩ := x; obtain ⟨yk, ⟨yn, yv⟩⟩ := y; first | (simp_all; done) | (simp_all; grind) | grind
  · -- c9 False
    refine AC.skip ?_
    refine AC.seq ?_
    refine AC.seq ?_
    refine AC.region ?_
    refine AO.yld _ (Yld.fieldAddr Try.underlying147 rfl rfl Try.sizeOf145 rfl rfl rfl) rfl rfl rfl ?_
    refine AO.yld _ (Yld.loadAgg Try.isAgg145 Try.sizeOf145 rfl rfl rfl rfl) rfl rfl rfl ?_
    refine AO.yld _ (Yld.fieldAddr Try.underlying147 rfl rfl Try.sizeOf145 rfl rfl rfl) rfl rfl rfl ?_
    refine AO.yld _ (Yld.loadAgg Try.isAgg145 Try.sizeOf145 rfl rfl rfl rfl) rfl rfl rfl ?_
    refine AO.yld _ (Yld.call rfl rfl Try.call109 rfl rfl rfl (laws_eqSetting_c) rfl) rfl rfl rfl ?_
    refine AO.yld _ (Yld.not rfl) rfl rfl rfl ?_
    refine AO.nil ?_
    refine AC.cond _ rfl (fun c15 => ?_) (fun c15 => ?_)
    · -- c15 True
      refine AC.seq ?_
      refine AC.region ?_
      refine AO.yld _ (Yld.assign rfl) rfl rfl rfl ?_
      refine AO.nil ?_
      refine Pure.ret Try.results108 (RVs.cons (RV.tmp rfl) RVs.nil) rfl ?_
      obtain ⟨xk, ⟨xn, xv⟩⟩ := x; obtain ⟨yk, ⟨yn, yv⟩⟩ := y; first | (simp_all; done) | (simp_all; grind) | grind
    · -- c15 False
      refine AC.skip ?_
      refine AC.seq ?_
      refine AC.region ?_
      refine AO.yld _ (Yld.assign rfl) rfl rfl rfl ?_
      refine AO.nil ?_
      refine Pure.ret Try.results108 (RVs.cons (RV.tmp rfl) RVs.nil) rfl ?_
      obtain ⟨xk, ⟨xn, xv⟩⟩ := x; obtain ⟨yk, ⟨yn, yv⟩⟩ := y; first | (simp_all; done) | (simp_all; grind) | grind

theorem laws_eqChangeS_c {xs ys : List Chg} (hg : xs.length ≤ 1048576) :
    Pure Try.prog 46 [.sl 3 (xs.map encChg), .sl 3 (ys.map encChg)] (.v (.bool (decide (xs = ys)))) := by
  have hn := hg
  refine Pure.intro Try.func46 rfl Try.ntmps46 rfl rfl (fun w => ?_)
  refine AC.seq ?_
  refine AC.region ?_
  refine AO.yld _ (Yld.assign rfl) rfl rfl rfl ?_
  refine AO.nil ?_
  refine AC.seq ?_
  refine AC.seq ?_
  refine AC.region ?_
  refine AO.yld _ (Yld.move rfl) rfl rfl rfl ?_
  refine AO.yld _ (Yld.len Try.underlying64 rfl rfl) rfl rfl rfl ?_
  refine AO.yld _ (Yld.move rfl) rfl rfl rfl ?_
  refine AO.yld _ (Yld.len Try.underlying64 rfl rfl) rfl rfl rfl ?_
  refine AO.yld _ (Yld.int rfl rfl rfl) rfl rfl rfl ?_
  refine AO.nil ?_
  refine AC.cond _ rfl (fun c10 => ?_) (fun c10 => ?_)
  · -- c10 True
    have hl : xs.length ≠ ys.length := by have h := c10; simp only [List.length_map, bne_iff_ne, ne_eq] at h; omega
    refine AC.seq ?_
    refine AC.region ?_
    refine AO.yld _ (Yld.assign rfl) rfl rfl rfl ?_
    refine AO.nil ?_
    refine Pure.ret Try.results46 (RVs.cons (RV.tmp rfl) RVs.nil) rfl ?_
    first
      | (exact congrArg (fun b => PV.v (.bool b)) (decide_eq_false (fun e => hl (congrArg List.length e))).symm)
      | (refine congrArg (fun b => PV.v (.bool b)) (decide_eq_false (fun e => ?_)).symm; subst e; rw [hx] at hy; simp_all)
      | (refine congrArg (fun b => PV.v (.bool b)) (decide_eq_true ?_).symm; have := hJ.2; rw [List.take_of_length_le (Nat.le_refl _), List.take_of_length_le (by omega)] at this; exact this)
  · -- c10 False
    have hl : xs.length = ys.length := by have h := c10; simp only [List.length_map, bne_eq_false_iff_eq] at h; omega
    refine AC.skip ?_
    refine AC.seq ?_
    refine AC.seq ?_
    refine AC.region ?_
    refine AO.yld _ (Yld.assign rfl) rfl rfl rfl ?_
    refine AO.nil ?_
    refine AC.block ?_
    refine AC.loopC [(0, _), (1, _)] [] (fun (k : Nat) => [(5, .p (.v (.int .i64 (k : Int))))]) (fun (k : Nat) => []) (fun (k : Nat) => k ≤ xs.length ∧ xs.take k = ys.take k) (fun (k : Nat) => xs.length - k) 0 ⟨rfl, rfl, trivial⟩ trivial ⟨rfl, trivial⟩ trivial ?_ (fun k hJ => ?_)
    · exact ⟨Nat.zero_le _, rfl⟩
    · -- round
      refine AC.seq ?_
      refine AC.seq ?_
      refine AC.region ?_
      refine AO.yld _ (Yld.move rfl) rfl rfl rfl ?_
      refine AO.yld _ (Yld.move rfl) rfl rfl rfl ?_
      refine AO.yld _ (Yld.len Try.underlying64 rfl rfl) rfl rfl rfl ?_
      refine AO.yld _ (Yld.int rfl rfl rfl) rfl rfl rfl ?_
      refine AO.nil ?_
      refine AC.cond _ rfl (fun c14 => ?_) (fun c14 => ?_)
      · -- c14 True
        have hk := lt_of_decM c14
        obtain ⟨x, hx⟩ := get_some hk
        have hrow := map_row (enc := encChg) hx
        have hgx := hg
        obtain ⟨y, hy⟩ := get_some (xs := ys) (k := k) (by omega)
        have hrow2 := map_row (enc := encChg) hy
        refine AC.skip ?_
        refine AC.seq ?_
        refine AC.block ?_
        refine AC.seq ?_
        refine AC.draw (by kernel_rfl) (by kernel_rfl) ?_
        refine AO.yld _ (Yld.move rfl) rfl rfl rfl ?_
        refine AO.yld _ (Yld.move rfl) rfl rfl rfl ?_
        refine AO.yld _ (Yld.indexSl Try.underlying64 Try.sizeOf147 rfl rfl hrow rfl) rfl rfl rfl ?_
        refine AO.yld _ (Yld.loadAgg Try.isAgg147 Try.sizeOf147 rfl rfl rfl rfl) rfl rfl rfl ?_
        refine AO.yld _ (Yld.move rfl) rfl rfl rfl ?_
        refine AO.yld _ (Yld.move rfl) rfl rfl rfl ?_
        refine AO.yld _ (Yld.indexSl Try.underlying64 Try.sizeOf147 rfl rfl hrow2 rfl) rfl rfl rfl ?_
        refine AO.yld _ (Yld.loadAgg Try.isAgg147 Try.sizeOf147 rfl rfl rfl rfl) rfl rfl rfl ?_
        refine AO.yld _ (Yld.call rfl rfl Try.call108 rfl rfl rfl (laws_eqChange_c) rfl) rfl rfl rfl ?_
        refine AO.yld _ (Yld.not rfl) rfl rfl rfl ?_
        refine AO.nil ?_
        refine AC.cond _ rfl (fun c26 => ?_) (fun c26 => ?_)
        · -- c26 True
          refine AC.seq ?_
          refine AC.region ?_
          refine AO.yld _ (Yld.assign rfl) rfl rfl rfl ?_
          refine AO.nil ?_
          refine Pure.ret Try.results46 (RVs.cons (RV.tmp rfl) RVs.nil) rfl ?_
          first
            | (exact congrArg (fun b => PV.v (.bool b)) (decide_eq_false (fun e => hl (congrArg List.length e))).symm)
            | (refine congrArg (fun b => PV.v (.bool b)) (decide_eq_false (fun e => ?_)).symm; subst e; rw [hx] at hy; simp_all)
            | (refine congrArg (fun b => PV.v (.bool b)) (decide_eq_true ?_).symm; have := hJ.2; rw [List.take_of_length_le (Nat.le_refl _), List.take_of_length_le (by omega)] at this; exact this)
        · -- c26 False
          refine AC.skip ?_
          refine AC.mark ?_
          refine AC.region ?_
          refine AO.yld _ (Yld.move rfl) rfl rfl rfl ?_
          refine AO.yld _ (Yld.add rfl rfl (by omega) (by omega)) rfl rfl rfl ?_
          refine AO.yld _ (Yld.assign rfl) rfl rfl rfl ?_
          refine AO.nil ?_
          refine AC.back ⟨k + 1, ?_, ?_, ⟨?_, trivial⟩, trivial, ⟨rfl, rfl, trivial⟩, trivial⟩
          · exact ⟨hk, by rw [take_snoc hx, take_snoc hy, hJ.2, show x = y by simpa using c26]⟩
          · omega
          · rfl
      · -- c14 False
        obtain rfl : k = xs.length := by have := ge_of_decM c14; omega
        refine AC.exit rfl ?_
        refine AC.seq ?_
        refine AC.region ?_
        refine AO.yld _ (Yld.assign rfl) rfl rfl rfl ?_
        refine AO.nil ?_
        refine Pure.ret Try.results46 (RVs.cons (RV.tmp rfl) RVs.nil) rfl ?_
        first
          | (exact congrArg (fun b => PV.v (.bool b)) (decide_eq_false (fun e => hl (congrArg List.length e))).symm)
          | (refine congrArg (fun b => PV.v (.bool b)) (decide_eq_false (fun e => ?_)).symm; subst e; rw [hx] at hy; simp_all)
          | (refine congrArg (fun b => PV.v (.bool b)) (decide_eq_true ?_).symm; have := hJ.2; rw [List.take_of_length_le (Nat.le_refl _), List.take_of_length_le (by omega)] at this; exact this)

theorem spec_l13Time_c {n : Int} :
    Pure Try.prog 135 [.v (.int .i64 n)] (.v (.bool (decide (0 ≤ n) && decide (n ≤ 7200000)))) := by
  refine Pure.intro Try.func135 rfl Try.ntmps135 rfl rfl (fun w => ?_)
  refine AC.seq ?_
  refine AC.region ?_
  refine AO.yld _ (Yld.assign rfl) rfl rfl rfl ?_
  refine AO.nil ?_
  refine AC.seq ?_
  refine AC.region ?_
  refine AO.yld _ (Yld.move rfl) rfl rfl rfl ?_
  refine AO.yld _ (Yld.call rfl rfl Try.call119 rfl rfl rfl (spec_l00In_c) rfl) rfl rfl rfl ?_
  refine AO.yld _ (Yld.assign rfl) rfl rfl rfl ?_
  refine AO.nil ?_
  refine Pure.ret Try.results135 (RVs.cons (RV.tmp rfl) RVs.nil) rfl ?_
  first | rfl | (simp_all; done) | (simp_all; intros; omega) | grind

theorem spec_l25Needs_c {ms xs : List NV} (hm : ms.length ≤ 1048576) (hms : ∀ x ∈ ms, x.name.length ≤ 1048576) (hn : xs.length ≤ 1048576) (hs : ∀ x ∈ xs, x.name.length ≤ 1048576) :
    Pure Try.prog 84 [.sl 2 (ms.map encNV), .sl 2 (xs.map encNV)] (.v (.bool (allI (okNeed ms xs) xs && decide (xs.length ≤ 16)))) := by
  have hM : (xs.map encNV).length = xs.length := List.length_map ..
  refine Pure.intro Try.func84 rfl Try.ntmps84 rfl rfl (fun w => ?_)
  refine AC.seq ?_
  refine AC.region ?_
  refine AO.yld _ (Yld.assign rfl) rfl rfl rfl ?_
  refine AO.nil ?_
  refine AC.seq ?_
  refine AC.seq ?_
  refine AC.region ?_
  refine AO.yld _ (Yld.assign rfl) rfl rfl rfl ?_
  refine AO.nil ?_
  refine AC.block ?_
  refine AC.loopC [(0, _), (1, _)] [] (fun (k : Nat) => [(5, .p (.v (.int .i64 (k : Int))))]) (fun (k : Nat) => []) (fun (k : Nat) => k ≤ xs.length ∧ allITo (okNeed ms xs) xs k = true) (fun (k : Nat) => xs.length - k) 0 ⟨rfl, rfl, trivial⟩ trivial ⟨rfl, trivial⟩ trivial ?_ (fun k hJ => ?_)
  · exact ⟨Nat.zero_le _, rfl⟩
  · -- round
    refine AC.seq ?_
    refine AC.seq ?_
    refine AC.region ?_
    refine AO.yld _ (Yld.move rfl) rfl rfl rfl ?_
    refine AO.yld _ (Yld.move rfl) rfl rfl rfl ?_
    refine AO.yld _ (Yld.len Try.underlying48 rfl rfl) rfl rfl rfl ?_
    refine AO.yld _ (Yld.int rfl rfl rfl) rfl rfl rfl ?_
    refine AO.nil ?_
    refine AC.cond _ rfl (fun c10 => ?_) (fun c10 => ?_)
    · -- c10 True
      have hk := lt_of_decM c10
      obtain ⟨x, hx⟩ := get_some hk
      have hrow := map_row (enc := encNV) hx
      obtain ⟨z, hz⟩ := get_some (xs := xs) (k := k - 1) (by omega)
      have hrowz := map_row (enc := encNV) hz
      refine AC.skip ?_
      refine AC.seq ?_
      refine AC.block ?_
      refine AC.seq ?_
      refine AC.seq ?_
      refine AC.draw (by kernel_rfl) (by kernel_rfl) ?_
      refine AO.yld _ (Yld.move rfl) rfl rfl rfl ?_
      refine AO.yld _ (Yld.move rfl) rfl rfl rfl ?_
      refine AO.yld _ (Yld.move rfl) rfl rfl rfl ?_
      refine AO.yld _ (Yld.indexSl Try.underlying48 Try.sizeOf122 rfl rfl hrow rfl) rfl rfl rfl ?_
      refine AO.yld _ (Yld.fieldAddr Try.underlying122 rfl rfl Try.sizeOf9 rfl rfl rfl) rfl rfl rfl ?_
      refine AO.yld _ (Yld.load Try.isAgg9 rfl rfl) rfl rfl rfl ?_
      refine AO.yld _ (Yld.call rfl rfl Try.call114 rfl rfl rfl (spec_l25Size_c (by first | assumption | omega)) rfl) rfl rfl rfl ?_
      refine AO.yld _ (Yld.int rfl rfl rfl) rfl rfl rfl ?_
      refine AO.yld _ (Yld.move rfl) rfl rfl rfl ?_
      refine AO.splitAt 21 _ rfl (fun s21 => ?_) (fun s21 => ?_)
      · -- s21 True
        refine AO.skipF rfl rfl rfl rfl rfl ?_
        refine AO.skipF rfl rfl rfl rfl rfl ?_
        refine AO.skipF rfl rfl rfl rfl rfl ?_
        refine AO.skipF rfl rfl rfl rfl rfl ?_
        refine AO.skipF rfl rfl rfl rfl rfl ?_
        refine AO.skipF rfl rfl rfl rfl rfl ?_
        refine AO.skipF rfl rfl rfl rfl rfl ?_
        refine AO.yld _ (Yld.pickT rfl rfl) rfl rfl rfl ?_
        refine AO.yld _ (Yld.move rfl) rfl rfl rfl ?_
        refine AO.skipF rfl rfl rfl rfl rfl ?_
        refine AO.skipF rfl rfl rfl rfl rfl ?_
        refine AO.skipF rfl rfl rfl rfl rfl ?_
        refine AO.skipU rfl rfl rfl rfl rfl ?_
        refine AO.skipU rfl rfl rfl rfl rfl ?_
        refine AO.skipU rfl rfl rfl rfl rfl ?_
        refine AO.skipU rfl rfl rfl rfl rfl ?_
        refine AO.skipU rfl rfl rfl rfl rfl ?_
        refine AO.skipU rfl rfl rfl rfl rfl ?_
        refine AO.skipU rfl rfl rfl rfl rfl ?_
        refine AO.skipU rfl rfl rfl rfl rfl ?_
        refine AO.skipU rfl rfl rfl rfl rfl ?_
        refine AO.skipU rfl rfl rfl rfl rfl ?_
        refine AO.skipU rfl rfl rfl rfl rfl ?_
        refine AO.skipU rfl rfl rfl rfl rfl ?_
        refine AO.skipF rfl rfl rfl rfl rfl ?_
        refine AO.yld _ (Yld.pickT rfl rfl) rfl rfl rfl ?_
        refine AO.nil ?_
        refine AC.condT rfl ?_
        refine AC.seq ?_
        refine AC.region ?_
        refine AO.yld _ (Yld.assign rfl) rfl rfl rfl ?_
        refine AO.nil ?_
        refine Pure.ret Try.results84 (RVs.cons (RV.tmp rfl) RVs.nil) rfl ?_
        first
          | (refine cb ?_; rw [allI_take hJ.2, Bool.true_and, hM]; exact decide_eq_decide.2 (by omega))
          | (refine cb ?_; have h9 := any_take hj hy (p := nameIs x.name) (by simpa [nameIs] using c63); rw [allI_miss hx (by simp only [okNeed, h9]; simp), Bool.false_and])
          | (refine cb ?_; rw [allI_miss hx (by simp only [okNeed, hz]; first | grind | (simp_all; done)), Bool.false_and])
      · -- s21 False
        refine AO.yldG _ (Yld.move rfl) rfl rfl rfl rfl rfl ?_
        refine AO.yldG _ (Yld.move rfl) rfl rfl rfl rfl rfl ?_
        refine AO.yldG _ (Yld.indexSl Try.underlying48 Try.sizeOf122 rfl rfl hrow rfl) rfl rfl rfl rfl rfl ?_
        refine AO.yldG _ (Yld.fieldAddr Try.underlying122 rfl rfl Try.sizeOf2 rfl rfl rfl) rfl rfl rfl rfl rfl ?_
        refine AO.yldG _ (Yld.load Try.isAgg2 rfl rfl) rfl rfl rfl rfl rfl ?_
        refine AO.yldG _ (Yld.call rfl rfl Try.call135 rfl rfl rfl (spec_l13Time_c) rfl) rfl rfl rfl rfl rfl ?_
        refine AO.yldG _ (Yld.not rfl) rfl rfl rfl rfl rfl ?_
        refine AO.yld _ (Yld.pickF rfl rfl) rfl rfl rfl ?_
        refine AO.yld _ (Yld.move rfl) rfl rfl rfl ?_
        refine AO.splitAt 30 _ rfl (fun s30 => ?_) (fun s30 => ?_)
        · -- s30 True
          refine AO.skipF rfl rfl rfl rfl rfl ?_
          refine AO.skipF rfl rfl rfl rfl rfl ?_
          refine AO.skipF rfl rfl rfl rfl rfl ?_
          refine AO.skipU rfl rfl rfl rfl rfl ?_
          refine AO.skipU rfl rfl rfl rfl rfl ?_
          refine AO.skipU rfl rfl rfl rfl rfl ?_
          refine AO.skipU rfl rfl rfl rfl rfl ?_
          refine AO.skipU rfl rfl rfl rfl rfl ?_
          refine AO.skipU rfl rfl rfl rfl rfl ?_
          refine AO.skipU rfl rfl rfl rfl rfl ?_
          refine AO.skipU rfl rfl rfl rfl rfl ?_
          refine AO.skipU rfl rfl rfl rfl rfl ?_
          refine AO.skipU rfl rfl rfl rfl rfl ?_
          refine AO.skipU rfl rfl rfl rfl rfl ?_
          refine AO.skipU rfl rfl rfl rfl rfl ?_
          refine AO.skipF rfl rfl rfl rfl rfl ?_
          refine AO.yld _ (Yld.pickT rfl rfl) rfl rfl rfl ?_
          refine AO.nil ?_
          refine AC.condT rfl ?_
          refine AC.seq ?_
          refine AC.region ?_
          refine AO.yld _ (Yld.assign rfl) rfl rfl rfl ?_
          refine AO.nil ?_
          refine Pure.ret Try.results84 (RVs.cons (RV.tmp rfl) RVs.nil) rfl ?_
          first
            | (refine cb ?_; rw [allI_take hJ.2, Bool.true_and, hM]; exact decide_eq_decide.2 (by omega))
            | (refine cb ?_; have h9 := any_take hj hy (p := nameIs x.name) (by simpa [nameIs] using c63); rw [allI_miss hx (by simp only [okNeed, h9]; simp), Bool.false_and])
            | (refine cb ?_; rw [allI_miss hx (by simp only [okNeed, hz]; first | grind | (simp_all; done)), Bool.false_and])
        · -- s30 False
          refine AO.yldG _ (Yld.move rfl) rfl rfl rfl rfl rfl ?_
          refine AO.yldG _ (Yld.int rfl rfl rfl) rfl rfl rfl rfl rfl ?_
          refine AO.yldG _ (Yld.move rfl) rfl rfl rfl rfl rfl ?_
          refine AO.splitAt 33 _ rfl (fun s33 => ?_) (fun s33 => ?_)
          · -- s33 True
            have hk0 : 0 < k := by simpa using s33
            refine AO.yldG _ (Yld.move rfl) rfl rfl rfl rfl rfl ?_
            refine AO.yldG _ (Yld.move rfl) rfl rfl rfl rfl rfl ?_
            refine AO.yldG _ (Yld.sub rfl rfl (by omega) (by omega)) rfl rfl rfl rfl rfl ?_
            refine AO.yldG _ (Yld.indexSl Try.underlying48 Try.sizeOf122 rfl rfl hrowz (by omega)) rfl rfl rfl rfl rfl ?_
            refine AO.yldG _ (Yld.fieldAddr Try.underlying122 rfl rfl Try.sizeOf2 rfl rfl rfl) rfl rfl rfl rfl rfl ?_
            refine AO.yldG _ (Yld.load Try.isAgg2 rfl rfl) rfl rfl rfl rfl rfl ?_
            refine AO.yldG _ (Yld.move rfl) rfl rfl rfl rfl rfl ?_
            refine AO.yldG _ (Yld.move rfl) rfl rfl rfl rfl rfl ?_
            refine AO.yldG _ (Yld.indexSl Try.underlying48 Try.sizeOf122 rfl rfl hrow rfl) rfl rfl rfl rfl rfl ?_
            refine AO.yldG _ (Yld.fieldAddr Try.underlying122 rfl rfl Try.sizeOf2 rfl rfl rfl) rfl rfl rfl rfl rfl ?_
            refine AO.yldG _ (Yld.load Try.isAgg2 rfl rfl) rfl rfl rfl rfl rfl ?_
            refine AO.yldG _ (Yld.int rfl rfl rfl) rfl rfl rfl rfl rfl ?_
            refine AO.yldG _ (Yld.pickT rfl rfl) rfl rfl rfl rfl rfl ?_
            refine AO.yld _ (Yld.pickF rfl rfl) rfl rfl rfl ?_
            refine AO.nil ?_
            refine AC.cond _ rfl (fun c47 => ?_) (fun c47 => ?_)
            · -- c47 True
              refine AC.seq ?_
              refine AC.region ?_
              refine AO.yld _ (Yld.assign rfl) rfl rfl rfl ?_
              refine AO.nil ?_
              refine Pure.ret Try.results84 (RVs.cons (RV.tmp rfl) RVs.nil) rfl ?_
              first
                | (refine cb ?_; rw [allI_take hJ.2, Bool.true_and, hM]; exact decide_eq_decide.2 (by omega))
                | (refine cb ?_; have h9 := any_take hj hy (p := nameIs x.name) (by simpa [nameIs] using c63); rw [allI_miss hx (by simp only [okNeed, h9]; simp), Bool.false_and])
                | (refine cb ?_; rw [allI_miss hx (by simp only [okNeed, hz]; first | grind | (simp_all; done)), Bool.false_and])
            · -- c47 False
              refine AC.skip ?_
              refine AC.seq ?_
              refine AC.region ?_
              refine AO.yld _ (Yld.assign rfl) rfl rfl rfl ?_
              refine AO.nil ?_
              refine AC.block ?_
              refine AC.loopC [(0, _), (1, _), (5, _)] [] (fun (j : Nat) => [(6, .p (.v (.int .i64 (j : Int))))]) (fun (j : Nat) => []) (fun (j : Nat) => j ≤ k ∧ (xs.take j).any (nameIs x.name) = false) (fun (j : Nat) => k - j) 0 ⟨rfl, rfl, rfl, trivial⟩ trivial ⟨rfl, trivial⟩ trivial ?_ (fun j hI => ?_)
              · exact ⟨Nat.zero_le _, rfl⟩
              · -- round
                refine AC.seq ?_
                refine AC.seq ?_
                refine AC.region ?_
                refine AO.yld _ (Yld.move rfl) rfl rfl rfl ?_
                refine AO.yld _ (Yld.move rfl) rfl rfl rfl ?_
                refine AO.yld _ (Yld.int rfl rfl rfl) rfl rfl rfl ?_
                refine AO.nil ?_
                refine AC.cond _ rfl (fun c50 => ?_) (fun c50 => ?_)
                · -- c50 True
                  have hj : j < k := by simpa using c50
                  obtain ⟨y, hy⟩ := get_some (xs := xs) (k := j) (by omega)
                  have hrowy := map_row (enc := encNV) hy
                  refine AC.skip ?_
                  refine AC.seq ?_
                  refine AC.block ?_
                  refine AC.seq ?_
                  refine AC.draw (by kernel_rfl) (by kernel_rfl) ?_
                  refine AO.yld _ (Yld.move rfl) rfl rfl rfl ?_
                  refine AO.yld _ (Yld.move rfl) rfl rfl rfl ?_
                  refine AO.yld _ (Yld.indexSl Try.underlying48 Try.sizeOf122 rfl rfl hrowy rfl) rfl rfl rfl ?_
                  refine AO.yld _ (Yld.fieldAddr Try.underlying122 rfl rfl Try.sizeOf9 rfl rfl rfl) rfl rfl rfl ?_
                  refine AO.yld _ (Yld.load Try.isAgg9 rfl rfl) rfl rfl rfl ?_
                  refine AO.yld _ (Yld.move rfl) rfl rfl rfl ?_
                  refine AO.yld _ (Yld.move rfl) rfl rfl rfl ?_
                  refine AO.yld _ (Yld.indexSl Try.underlying48 Try.sizeOf122 rfl rfl hrow rfl) rfl rfl rfl ?_
                  refine AO.yld _ (Yld.fieldAddr Try.underlying122 rfl rfl Try.sizeOf9 rfl rfl rfl) rfl rfl rfl ?_
                  refine AO.yld _ (Yld.load Try.isAgg9 rfl rfl) rfl rfl rfl ?_
                  refine AO.yld _ (Yld.cmpStr rfl rfl rfl) rfl rfl rfl ?_
                  refine AO.nil ?_
                  refine AC.cond _ rfl (fun c63 => ?_) (fun c63 => ?_)
                  · -- c63 True
                    refine AC.seq ?_
                    refine AC.region ?_
                    refine AO.yld _ (Yld.assign rfl) rfl rfl rfl ?_
                    refine AO.nil ?_
                    refine Pure.ret Try.results84 (RVs.cons (RV.tmp rfl) RVs.nil) rfl ?_
                    first
                      | (refine cb ?_; rw [allI_take hJ.2, Bool.true_and, hM]; exact decide_eq_decide.2 (by omega))
                      | (refine cb ?_; have h9 := any_take hj hy (p := nameIs x.name) (by simpa [nameIs] using c63); rw [allI_miss hx (by simp only [okNeed, h9]; simp), Bool.false_and])
                      | (refine cb ?_; rw [allI_miss hx (by simp only [okNeed, hz]; first | grind | (simp_all; done)), Bool.false_and])
                  · -- c63 False
                    refine AC.skip ?_
                    refine AC.mark ?_
                    refine AC.region ?_
                    refine AO.yld _ (Yld.move rfl) rfl rfl rfl ?_
                    refine AO.yld _ (Yld.add rfl rfl (by omega) (by omega)) rfl rfl rfl ?_
                    refine AO.yld _ (Yld.assign rfl) rfl rfl rfl ?_
                    refine AO.nil ?_
                    refine AC.back ⟨j + 1, ?_, ?_, ⟨?_, trivial⟩, trivial, ⟨rfl, rfl, rfl, trivial⟩, trivial⟩
                    · exact ⟨hj, by rw [take_snoc hy, List.any_append, hI.2]; simp only [List.any_cons, List.any_nil, Bool.false_or, Bool.or_false, nameIs]; simpa using c63⟩
                    · omega
                    · rfl
                · -- c50 False
                  have hjk : k ≤ j := by simpa using c50
                  refine AC.exit rfl ?_
                  refine AC.mark ?_
                  refine AC.region ?_
                  refine AO.yld _ (Yld.move rfl) rfl rfl rfl ?_
                  refine AO.yld _ (Yld.add rfl rfl (by omega) (by omega)) rfl rfl rfl ?_
                  refine AO.yld _ (Yld.assign rfl) rfl rfl rfl ?_
                  refine AO.nil ?_
                  refine AC.back ⟨k + 1, ?_, ?_, ⟨?_, trivial⟩, trivial, ⟨rfl, rfl, trivial⟩, trivial⟩
                  · exact ⟨hk, by rw [allITo_succ hx, hJ.2, Bool.true_and]; obtain rfl : j = k := (by omega); have h9 := hI.2; exact (by simp only [okNeed, hz]; first | grind | (simp_all; done))⟩
                  · omega
                  · rfl
          · -- s33 False
            refine AO.skipT rfl rfl rfl rfl rfl ?_
            refine AO.skipT rfl rfl rfl rfl rfl ?_
            refine AO.skipT rfl rfl rfl rfl rfl ?_
            refine AO.skipT rfl rfl rfl rfl rfl ?_
            refine AO.skipT rfl rfl rfl rfl rfl ?_
            refine AO.skipT rfl rfl rfl rfl rfl ?_
            refine AO.skipT rfl rfl rfl rfl rfl ?_
            refine AO.skipT rfl rfl rfl rfl rfl ?_
            refine AO.skipT rfl rfl rfl rfl rfl ?_
            refine AO.skipT rfl rfl rfl rfl rfl ?_
            refine AO.skipT rfl rfl rfl rfl rfl ?_
            refine AO.skipT rfl rfl rfl rfl rfl ?_
            refine AO.yldG _ (Yld.pickF rfl rfl) rfl rfl rfl rfl rfl ?_
            refine AO.yld _ (Yld.pickF rfl rfl) rfl rfl rfl ?_
            refine AO.nil ?_
            refine AC.condF rfl ?_
            refine AC.skip ?_
            refine AC.seq ?_
            refine AC.region ?_
            refine AO.yld _ (Yld.assign rfl) rfl rfl rfl ?_
            refine AO.nil ?_
            refine AC.block ?_
            refine AC.loopC [(0, _), (1, _), (5, _)] [] (fun (j : Nat) => [(6, .p (.v (.int .i64 (j : Int))))]) (fun (j : Nat) => []) (fun (j : Nat) => j ≤ k ∧ (xs.take j).any (nameIs x.name) = false) (fun (j : Nat) => k - j) 0 ⟨rfl, rfl, rfl, trivial⟩ trivial ⟨rfl, trivial⟩ trivial ?_ (fun j hI => ?_)
            · exact ⟨Nat.zero_le _, rfl⟩
            · -- round
              refine AC.seq ?_
              refine AC.seq ?_
              refine AC.region ?_
              refine AO.yld _ (Yld.move rfl) rfl rfl rfl ?_
              refine AO.yld _ (Yld.move rfl) rfl rfl rfl ?_
              refine AO.yld _ (Yld.int rfl rfl rfl) rfl rfl rfl ?_
              refine AO.nil ?_
              refine AC.cond _ rfl (fun c50 => ?_) (fun c50 => ?_)
              · -- c50 True
                have hj : j < k := by simpa using c50
                obtain ⟨y, hy⟩ := get_some (xs := xs) (k := j) (by omega)
                have hrowy := map_row (enc := encNV) hy
                refine AC.skip ?_
                refine AC.seq ?_
                refine AC.block ?_
                refine AC.seq ?_
                refine AC.draw (by kernel_rfl) (by kernel_rfl) ?_
                refine AO.yld _ (Yld.move rfl) rfl rfl rfl ?_
                refine AO.yld _ (Yld.move rfl) rfl rfl rfl ?_
                refine AO.yld _ (Yld.indexSl Try.underlying48 Try.sizeOf122 rfl rfl hrowy rfl) rfl rfl rfl ?_
                refine AO.yld _ (Yld.fieldAddr Try.underlying122 rfl rfl Try.sizeOf9 rfl rfl rfl) rfl rfl rfl ?_
                refine AO.yld _ (Yld.load Try.isAgg9 rfl rfl) rfl rfl rfl ?_
                refine AO.yld _ (Yld.move rfl) rfl rfl rfl ?_
                refine AO.yld _ (Yld.move rfl) rfl rfl rfl ?_
                refine AO.yld _ (Yld.indexSl Try.underlying48 Try.sizeOf122 rfl rfl hrow rfl) rfl rfl rfl ?_
                refine AO.yld _ (Yld.fieldAddr Try.underlying122 rfl rfl Try.sizeOf9 rfl rfl rfl) rfl rfl rfl ?_
                refine AO.yld _ (Yld.load Try.isAgg9 rfl rfl) rfl rfl rfl ?_
                refine AO.yld _ (Yld.cmpStr rfl rfl rfl) rfl rfl rfl ?_
                refine AO.nil ?_
                refine AC.cond _ rfl (fun c63 => ?_) (fun c63 => ?_)
                · -- c63 True
                  refine AC.seq ?_
                  refine AC.region ?_
                  refine AO.yld _ (Yld.assign rfl) rfl rfl rfl ?_
                  refine AO.nil ?_
                  refine Pure.ret Try.results84 (RVs.cons (RV.tmp rfl) RVs.nil) rfl ?_
                  first
                    | (refine cb ?_; rw [allI_take hJ.2, Bool.true_and, hM]; exact decide_eq_decide.2 (by omega))
                    | (refine cb ?_; have h9 := any_take hj hy (p := nameIs x.name) (by simpa [nameIs] using c63); rw [allI_miss hx (by simp only [okNeed, h9]; simp), Bool.false_and])
                    | (refine cb ?_; rw [allI_miss hx (by simp only [okNeed, hz]; first | grind | (simp_all; done)), Bool.false_and])
                · -- c63 False
                  refine AC.skip ?_
                  refine AC.mark ?_
                  refine AC.region ?_
                  refine AO.yld _ (Yld.move rfl) rfl rfl rfl ?_
                  refine AO.yld _ (Yld.add rfl rfl (by omega) (by omega)) rfl rfl rfl ?_
                  refine AO.yld _ (Yld.assign rfl) rfl rfl rfl ?_
                  refine AO.nil ?_
                  refine AC.back ⟨j + 1, ?_, ?_, ⟨?_, trivial⟩, trivial, ⟨rfl, rfl, rfl, trivial⟩, trivial⟩
                  · exact ⟨hj, by rw [take_snoc hy, List.any_append, hI.2]; simp only [List.any_cons, List.any_nil, Bool.false_or, Bool.or_false, nameIs]; simpa using c63⟩
                  · omega
                  · rfl
              · -- c50 False
                have hjk : k ≤ j := by simpa using c50
                refine AC.exit rfl ?_
                refine AC.mark ?_
                refine AC.region ?_
                refine AO.yld _ (Yld.move rfl) rfl rfl rfl ?_
                refine AO.yld _ (Yld.add rfl rfl (by omega) (by omega)) rfl rfl rfl ?_
                refine AO.yld _ (Yld.assign rfl) rfl rfl rfl ?_
                refine AO.nil ?_
                refine AC.back ⟨k + 1, ?_, ?_, ⟨?_, trivial⟩, trivial, ⟨rfl, rfl, trivial⟩, trivial⟩
                · exact ⟨hk, by rw [allITo_succ hx, hJ.2, Bool.true_and]; obtain rfl : j = k := (by omega); have h9 := hI.2; exact (by simp only [okNeed, hz]; first | grind | (simp_all; done))⟩
                · omega
                · rfl
    · -- c10 False
      obtain rfl : k = xs.length := by have := ge_of_decM c10; omega
      refine AC.exit rfl ?_
      refine AC.seq ?_
      refine AC.region ?_
      refine AO.yld _ (Yld.move rfl) rfl rfl rfl ?_
      refine AO.yld _ (Yld.len Try.underlying48 rfl rfl) rfl rfl rfl ?_
      refine AO.yld _ (Yld.int rfl rfl rfl) rfl rfl rfl ?_
      refine AO.yld _ (Yld.assign rfl) rfl rfl rfl ?_
      refine AO.nil ?_
      refine Pure.ret Try.results84 (RVs.cons (RV.tmp rfl) RVs.nil) rfl ?_
      first
        | (refine cb ?_; rw [allI_take hJ.2, Bool.true_and, hM]; exact decide_eq_decide.2 (by omega))
        | (refine cb ?_; have h9 := any_take hj hy (p := nameIs x.name) (by simpa [nameIs] using c63); rw [allI_miss hx (by simp only [okNeed, h9]; simp), Bool.false_and])
        | (refine cb ?_; rw [allI_miss hx (by simp only [okNeed, hz]; first | grind | (simp_all; done)), Bool.false_and])

theorem spec_ValidNeeds_c {ms xs : List NV} (hm : ms.length ≤ 1048576) (hms : ∀ x ∈ ms, x.name.length ≤ 1048576) (hn : xs.length ≤ 1048576) (hs : ∀ x ∈ xs, x.name.length ≤ 1048576) :
    Pure Try.prog 29 [.sl 2 (ms.map encNV), .sl 2 (xs.map encNV)] (.v (.bool (okNeeds ms xs))) := by
  refine Pure.intro Try.func29 rfl Try.ntmps29 rfl rfl (fun w => ?_)
  refine AC.seq ?_
  refine AC.region ?_
  refine AO.yld _ (Yld.assign rfl) rfl rfl rfl ?_
  refine AO.nil ?_
  refine AC.seq ?_
  refine AC.region ?_
  refine AO.yld _ (Yld.move rfl) rfl rfl rfl ?_
  refine AO.yld _ (Yld.call rfl rfl Try.call83 rfl rfl rfl (spec_l25Ok_c (by first | assumption | omega) (by assumption)) rfl) rfl rfl rfl ?_
  refine AO.yld _ (Yld.move rfl) rfl rfl rfl ?_
  refine AO.splitAt 7 _ rfl (fun s7 => ?_) (fun s7 => ?_)
  · -- s7 True
    refine AO.yldG _ (Yld.move rfl) rfl rfl rfl rfl rfl ?_
    refine AO.yldG _ (Yld.move rfl) rfl rfl rfl rfl rfl ?_
    refine AO.yldG _ (Yld.call rfl rfl Try.call84 rfl rfl rfl (spec_l25Needs_c (by first | assumption | omega) (by assumption) (by first | assumption | omega) (by assumption)) rfl) rfl rfl rfl rfl rfl ?_
    refine AO.yld _ (Yld.pickT rfl rfl) rfl rfl rfl ?_
    refine AO.yld _ (Yld.assign rfl) rfl rfl rfl ?_
    refine AO.nil ?_
    refine Pure.ret Try.results29 (RVs.cons (RV.tmp rfl) RVs.nil) rfl ?_
    refine cb ?_; unfold okNeeds; first | grind | (simp_all; done)
  · -- s7 False
    refine AO.skipT rfl rfl rfl rfl rfl ?_
    refine AO.skipT rfl rfl rfl rfl rfl ?_
    refine AO.skipT rfl rfl rfl rfl rfl ?_
    refine AO.yld _ (Yld.pickF rfl rfl) rfl rfl rfl ?_
    refine AO.yld _ (Yld.assign rfl) rfl rfl rfl ?_
    refine AO.nil ?_
    refine Pure.ret Try.results29 (RVs.cons (RV.tmp rfl) RVs.nil) rfl ?_
    refine cb ?_; unfold okNeeds; first | grind | (simp_all; done)

theorem indexFuncNeed_c {xs : List NV} {f : FuncId} {caps : List PV} {p : NV → Bool} (hn : xs.length ≤ 1048576) (hf : Enters Try.prog f) (hp : ∀ x ∈ xs, Pure Try.prog f (.agg (encNV x) :: caps) (.v (.bool (p x)))) :
    Pure Try.prog 137 [.sl 2 (xs.map encNV), .clo f caps] (.v (.int .i64 (idxOf p xs))) := by
  refine Pure.intro Try.func137 rfl Try.ntmps137 rfl rfl (fun w => ?_)
  refine AC.seq ?_
  refine AC.region ?_
  refine AO.yld _ (Yld.assign rfl) rfl rfl rfl ?_
  refine AO.nil ?_
  refine AC.seq ?_
  refine AC.seq ?_
  refine AC.region ?_
  refine AO.yld _ (Yld.move rfl) rfl rfl rfl ?_
  refine AO.yld _ (Yld.len Try.underlying48 rfl rfl) rfl rfl rfl ?_
  refine AO.yld _ (Yld.move rfl) rfl rfl rfl ?_
  refine AO.nil ?_
  refine AC.block ?_
  refine AC.loopC [(0, _), (1, _), (7, _)] [] (fun (k : Nat) => [(8, .p (.v (.int .i64 (k : Int))))]) (fun (k : Nat) => []) (fun (k : Nat) => k ≤ xs.length ∧ anyTo p xs k = false) (fun (k : Nat) => xs.length - k) 0 ⟨rfl, rfl, rfl, trivial⟩ trivial ⟨rfl, trivial⟩ trivial ?_ (fun k hJ => ?_)
  · exact ⟨Nat.zero_le _, rfl⟩
  · -- round
    refine AC.seq ?_
    refine AC.region ?_
    refine AO.yld _ (Yld.int rfl rfl rfl) rfl rfl rfl ?_
    refine AO.nil ?_
    refine AC.seq ?_
    refine AC.cond _ rfl (fun c9 => ?_) (fun c9 => ?_)
    · -- c9 True
      have hk := lt_of_decM c9
      obtain ⟨x, hx⟩ := get_some hk
      have hrow := map_row (enc := encNV) hx
      refine AC.skip ?_
      refine AC.seq ?_
      refine AC.block ?_
      refine AC.seq ?_
      refine AC.region ?_
      refine AO.yld _ (Yld.move rfl) rfl rfl rfl ?_
      refine AO.yld _ (Yld.assign rfl) rfl rfl rfl ?_
      refine AO.nil ?_
      refine AC.seq ?_
      refine AC.region ?_
      refine AO.yld _ (Yld.move rfl) rfl rfl rfl ?_
      refine AO.yld _ (Yld.move rfl) rfl rfl rfl ?_
      refine AO.yld _ (Yld.move rfl) rfl rfl rfl ?_
      refine AO.yld _ (Yld.indexSl Try.underlying48 Try.sizeOf122 rfl rfl hrow rfl) rfl rfl rfl ?_
      refine AO.yld _ (Yld.loadAgg Try.isAgg122 Try.sizeOf122 rfl rfl rfl rfl) rfl rfl rfl ?_
      refine AO.yld _ (Yld.call rfl rfl hf rfl rfl (viewL_p _) (hp x (List.mem_of_getElem? hx)) rfl) rfl rfl rfl ?_
      refine AO.nil ?_
      refine AC.cond _ rfl (fun c16 => ?_) (fun c16 => ?_)
      · -- c16 True
        refine AC.seq ?_
        refine AC.region ?_
        refine AO.yld _ (Yld.move rfl) rfl rfl rfl ?_
        refine AO.yld _ (Yld.assign rfl) rfl rfl rfl ?_
        refine AO.nil ?_
        refine Pure.ret Try.results137 (RVs.cons (RV.tmp rfl) RVs.nil) rfl ?_
        first
          | exact ci (idx_hit hJ.2 hx (by simpa using c16))
          | exact ci (idx_miss hJ.2)
      · -- c16 False
        refine AC.skip ?_
        refine AC.mark ?_
        refine AC.region ?_
        refine AO.yld _ (Yld.add rfl rfl (by omega) (by omega)) rfl rfl rfl ?_
        refine AO.yld _ (Yld.move rfl) rfl rfl rfl ?_
        refine AO.nil ?_
        refine AC.back ⟨k + 1, ?_, ?_, ⟨?_, trivial⟩, trivial, ⟨rfl, rfl, rfl, trivial⟩, trivial⟩
        · exact ⟨hk, by rw [anyTo_succ hx, hJ.2]; simpa using c16⟩
        · omega
        · rfl
    · -- c9 False
      obtain rfl : k = xs.length := by have := ge_of_decM c9; omega
      refine AC.exit rfl ?_
      refine AC.seq ?_
      refine AC.region ?_
      refine AO.yld _ (Yld.assign rfl) rfl rfl rfl ?_
      refine AO.nil ?_
      refine Pure.ret Try.results137 (RVs.cons (RV.tmp rfl) RVs.nil) rfl ?_
      first
        | exact ci (idx_hit hJ.2 hx (by simpa using c16))
        | exact ci (idx_miss hJ.2)

theorem containsFuncNeed_c {xs : List NV} {f : FuncId} {caps : List PV} {p : NV → Bool} (hn : xs.length ≤ 1048576) (hf : Enters Try.prog f) (hp : ∀ x ∈ xs, Pure Try.prog f (.agg (encNV x) :: caps) (.v (.bool (p x)))) :
    Pure Try.prog 89 [.sl 2 (xs.map encNV), .clo f caps] (.v (.bool (xs.any p))) := by
  refine Pure.intro Try.func89 rfl Try.ntmps89 rfl rfl (fun w => ?_)
  refine AC.seq ?_
  refine AC.region ?_
  refine AO.yld _ (Yld.assign rfl) rfl rfl rfl ?_
  refine AO.nil ?_
  refine AC.seq ?_
  refine AC.region ?_
  refine AO.yld _ (Yld.move rfl) rfl rfl rfl ?_
  refine AO.yld _ (Yld.move rfl) rfl rfl rfl ?_
  refine AO.yld _ (Yld.call rfl rfl Try.call137 rfl rfl rfl (indexFuncNeed_c (by first | assumption | omega) hf hp) rfl) rfl rfl rfl ?_
  refine AO.yld _ (Yld.int rfl rfl rfl) rfl rfl rfl ?_
  refine AO.yld _ (Yld.assign rfl) rfl rfl rfl ?_
  refine AO.nil ?_
  refine Pure.ret Try.results89 (RVs.cons (RV.tmp rfl) RVs.nil) rfl ?_
  exact cb idx_any.symm

theorem validNeeds1_c {x y : NV} :
    Pure Try.prog 90 [.agg (encNV y), .ptr (encNV x)] (.v (.bool (nameIs x.name y))) := by
  refine Pure.intro Try.func90 rfl Try.ntmps90 rfl rfl (fun w => ?_)
  refine AC.seq ?_
  refine AC.region ?_
  refine AO.box 0 rfl rfl rfl rfl rfl ?_
  refine AO.yld _ (Yld.assign rfl) rfl rfl rfl ?_
  refine AO.nil ?_
  refine AC.seq ?_
  refine AC.region ?_
  refine AO.yld _ (Yld.fieldAddr Try.underlying122 rfl rfl Try.sizeOf9 rfl rfl rfl) rfl rfl rfl ?_
  refine AO.yld _ (Yld.load Try.isAgg9 rfl rfl) rfl rfl rfl ?_
  refine AO.yld _ (Yld.fieldAddr Try.underlying122 rfl rfl Try.sizeOf9 rfl rfl rfl) rfl rfl rfl ?_
  refine AO.yld _ (Yld.load Try.isAgg9 rfl rfl) rfl rfl rfl ?_
  refine AO.yld _ (Yld.cmpStr rfl rfl rfl) rfl rfl rfl ?_
  refine AO.yld _ (Yld.assign rfl) rfl rfl rfl ?_
  refine AO.nil ?_
  refine Pure.ret Try.results90 (RVs.cons (RV.tmp rfl) RVs.nil) rfl ?_
  refine cb ?_; unfold nameIs; by_cases h : y.name = x.name <;> simp [h]

theorem impl_ValidNeeds_c {ms xs : List NV} (hm : ms.length ≤ 1048576) (hms : ∀ x ∈ ms, x.name.length ≤ 1048576) (hn : xs.length ≤ 1048576) (hs : ∀ x ∈ xs, x.name.length ≤ 1048576) :
    Pure Try.prog 32 [.sl 2 (ms.map encNV), .sl 2 (xs.map encNV)] (.v (.bool (okNeeds ms xs))) := by
  have hM : (xs.map encNV).length = xs.length := List.length_map ..
  refine Pure.intro Try.func32 rfl Try.ntmps32 rfl rfl (fun w => ?_)
  refine AC.seq ?_
  refine AC.region ?_
  refine AO.yld _ (Yld.assign rfl) rfl rfl rfl ?_
  refine AO.nil ?_
  refine AC.seq ?_
  refine AC.seq ?_
  refine AC.region ?_
  refine AO.yld _ (Yld.move rfl) rfl rfl rfl ?_
  refine AO.yld _ (Yld.call rfl rfl Try.call87 rfl rfl rfl (impl_ValidMedia_c (by first | assumption | omega) (by assumption)) rfl) rfl rfl rfl ?_
  refine AO.yld _ (Yld.not rfl) rfl rfl rfl ?_
  refine AO.yld _ (Yld.move rfl) rfl rfl rfl ?_
  refine AO.splitAt 10 _ rfl (fun s10 => ?_) (fun s10 => ?_)
  · -- s10 True
    refine AO.skipF rfl rfl rfl rfl rfl ?_
    refine AO.skipF rfl rfl rfl rfl rfl ?_
    refine AO.skipF rfl rfl rfl rfl rfl ?_
    refine AO.yld _ (Yld.pickT rfl rfl) rfl rfl rfl ?_
    refine AO.nil ?_
    refine AC.condT rfl ?_
    refine AC.seq ?_
    refine AC.region ?_
    refine AO.yld _ (Yld.assign rfl) rfl rfl rfl ?_
    refine AO.nil ?_
    refine Pure.ret Try.results32 (RVs.cons (RV.tmp rfl) RVs.nil) rfl ?_
    first
      | (refine cb ?_; unfold okNeeds; rw [hok.1, allI_take hJ.2, decide_eq_true hok.2]; rfl)
      | (refine cb ?_; unfold okNeeds; rw [allI_miss hx (by simp only [okNeed, hz]; first | grind | (simp_all; done)), Bool.false_and, Bool.and_false])
      | (refine cb ?_; unfold okNeeds; rw [show okMedias ms = false by simpa using s10, Bool.false_and])
      | (refine cb ?_; unfold okNeeds; have h : ¬ xs.length ≤ 16 := (by have h := c14; simp only [hM] at h; simp at h; omega); rw [decide_eq_false h, Bool.and_false, Bool.and_false])
  · -- s10 False
    refine AO.yldG _ (Yld.move rfl) rfl rfl rfl rfl rfl ?_
    refine AO.yldG _ (Yld.len Try.underlying48 rfl rfl) rfl rfl rfl rfl rfl ?_
    refine AO.yldG _ (Yld.int rfl rfl rfl) rfl rfl rfl rfl rfl ?_
    refine AO.yld _ (Yld.pickF rfl rfl) rfl rfl rfl ?_
    refine AO.nil ?_
    refine AC.cond _ rfl (fun c14 => ?_) (fun c14 => ?_)
    · -- c14 True
      refine AC.seq ?_
      refine AC.region ?_
      refine AO.yld _ (Yld.assign rfl) rfl rfl rfl ?_
      refine AO.nil ?_
      refine Pure.ret Try.results32 (RVs.cons (RV.tmp rfl) RVs.nil) rfl ?_
      first
        | (refine cb ?_; unfold okNeeds; rw [hok.1, allI_take hJ.2, decide_eq_true hok.2]; rfl)
        | (refine cb ?_; unfold okNeeds; rw [allI_miss hx (by simp only [okNeed, hz]; first | grind | (simp_all; done)), Bool.false_and, Bool.and_false])
        | (refine cb ?_; unfold okNeeds; rw [show okMedias ms = false by simpa using s10, Bool.false_and])
        | (refine cb ?_; unfold okNeeds; have h : ¬ xs.length ≤ 16 := (by have h := c14; simp only [hM] at h; simp at h; omega); rw [decide_eq_false h, Bool.and_false, Bool.and_false])
    · -- c14 False
      have hok : okMedias ms = true ∧ xs.length ≤ 16 := ⟨by simpa using s10, by have h := c14; simp only [hM] at h; simp at h; omega⟩
      refine AC.skip ?_
      refine AC.seq ?_
      refine AC.seq ?_
      refine AC.region ?_
      refine AO.yld _ (Yld.move rfl) rfl rfl rfl ?_
      refine AO.yld _ (Yld.len Try.underlying48 rfl rfl) rfl rfl rfl ?_
      refine AO.yld _ (Yld.move rfl) rfl rfl rfl ?_
      refine AO.nil ?_
      refine AC.block ?_
      refine AC.loopC [(0, _), (1, _), (15, _), (16, _)] [] (fun (k : Nat) => [(17, .p (.v (.int .i64 (k : Int))))]) (fun (k : Nat) => []) (fun (k : Nat) => k ≤ xs.length ∧ allITo (okNeed ms xs) xs k = true) (fun (k : Nat) => xs.length - k) 0 ⟨rfl, rfl, rfl, rfl, trivial⟩ trivial ⟨rfl, trivial⟩ trivial ?_ (fun k hJ => ?_)
      · exact ⟨Nat.zero_le _, rfl⟩
      · -- round
        refine AC.seq ?_
        refine AC.region ?_
        refine AO.yld _ (Yld.int rfl rfl rfl) rfl rfl rfl ?_
        refine AO.nil ?_
        refine AC.seq ?_
        refine AC.cond _ rfl (fun c18 => ?_) (fun c18 => ?_)
        · -- c18 True
          have hk := lt_of_decM c18
          obtain ⟨x, hx⟩ := get_some hk
          have hrow := map_row (enc := encNV) hx
          obtain ⟨z, hz⟩ := get_some (xs := xs) (k := k - 1) (by omega)
          have hrowz := map_row (enc := encNV) hz
          refine AC.skip ?_
          refine AC.seq ?_
          refine AC.block ?_
          refine AC.seq ?_
          refine AC.region ?_
          refine AO.yld _ (Yld.move rfl) rfl rfl rfl ?_
          refine AO.yld _ (Yld.indexSl Try.underlying48 Try.sizeOf122 rfl rfl hrow rfl) rfl rfl rfl ?_
          refine AO.yld _ (Yld.loadAgg Try.isAgg122 Try.sizeOf122 rfl rfl rfl rfl) rfl rfl rfl ?_
          refine AO.alloc 0 Try.zeroValue122 rfl rfl rfl ?_
          refine AO.yld _ (Yld.assign rfl) rfl rfl rfl ?_
          refine AO.store Try.sizeOf122 rfl rfl rfl rfl rfl rfl ?_
          refine AO.nil ?_
          refine AC.seq ?_
          refine AC.seq ?_
          refine AC.draw (by kernel_rfl) (by kernel_rfl) ?_
          refine AO.yld _ (Yld.move rfl) rfl rfl rfl ?_
          refine AO.yld _ (Yld.fieldAddr Try.underlying122 rfl rfl Try.sizeOf9 rfl rfl rfl) rfl rfl rfl ?_
          refine AO.yld _ (Yld.load Try.isAgg9 rfl rfl) rfl rfl rfl ?_
          refine AO.yld _ (Yld.call rfl rfl Try.call88 rfl rfl rfl (impl_sizeOf_c (by first | assumption | omega)) rfl) rfl rfl rfl ?_
          refine AO.yld _ (Yld.int rfl rfl rfl) rfl rfl rfl ?_
          refine AO.yld _ (Yld.move rfl) rfl rfl rfl ?_
          refine AO.splitAt 27 _ rfl (fun s27 => ?_) (fun s27 => ?_)
          · -- s27 True
            refine AO.skipF rfl rfl rfl rfl rfl ?_
            refine AO.skipF rfl rfl rfl rfl rfl ?_
            refine AO.skipF rfl rfl rfl rfl rfl ?_
            refine AO.skipF rfl rfl rfl rfl rfl ?_
            refine AO.yld _ (Yld.pickT rfl rfl) rfl rfl rfl ?_
            refine AO.yld _ (Yld.move rfl) rfl rfl rfl ?_
            refine AO.skipF rfl rfl rfl rfl rfl ?_
            refine AO.skipF rfl rfl rfl rfl rfl ?_
            refine AO.skipF rfl rfl rfl rfl rfl ?_
            refine AO.skipU rfl rfl rfl rfl rfl ?_
            refine AO.skipU rfl rfl rfl rfl rfl ?_
            refine AO.skipU rfl rfl rfl rfl rfl ?_
            refine AO.skipU rfl rfl rfl rfl rfl ?_
            refine AO.skipU rfl rfl rfl rfl rfl ?_
            refine AO.skipU rfl rfl rfl rfl rfl ?_
            refine AO.skipU rfl rfl rfl rfl rfl ?_
            refine AO.skipU rfl rfl rfl rfl rfl ?_
            refine AO.skipU rfl rfl rfl rfl rfl ?_
            refine AO.skipF rfl rfl rfl rfl rfl ?_
            refine AO.yld _ (Yld.pickT rfl rfl) rfl rfl rfl ?_
            refine AO.nil ?_
            refine AC.condT rfl ?_
            refine AC.seq ?_
            refine AC.region ?_
            refine AO.yld _ (Yld.assign rfl) rfl rfl rfl ?_
            refine AO.nil ?_
            refine Pure.ret Try.results32 (RVs.cons (RV.tmp rfl) RVs.nil) rfl ?_
            first
              | (refine cb ?_; unfold okNeeds; rw [hok.1, allI_take hJ.2, decide_eq_true hok.2]; rfl)
              | (refine cb ?_; unfold okNeeds; rw [allI_miss hx (by simp only [okNeed, hz]; first | grind | (simp_all; done)), Bool.false_and, Bool.and_false])
              | (refine cb ?_; unfold okNeeds; rw [show okMedias ms = false by simpa using s10, Bool.false_and])
              | (refine cb ?_; unfold okNeeds; have h : ¬ xs.length ≤ 16 := (by have h := c14; simp only [hM] at h; simp at h; omega); rw [decide_eq_false h, Bool.and_false, Bool.and_false])
          · -- s27 False
            refine AO.yldG _ (Yld.fieldAddr Try.underlying122 rfl rfl Try.sizeOf2 rfl rfl rfl) rfl rfl rfl rfl rfl ?_
            refine AO.yldG _ (Yld.load Try.isAgg2 rfl rfl) rfl rfl rfl rfl rfl ?_
            refine AO.yldG _ (Yld.call rfl rfl Try.call70 rfl rfl rfl (impl_within_c) rfl) rfl rfl rfl rfl rfl ?_
            refine AO.yldG _ (Yld.not rfl) rfl rfl rfl rfl rfl ?_
            refine AO.yld _ (Yld.pickF rfl rfl) rfl rfl rfl ?_
            refine AO.yld _ (Yld.move rfl) rfl rfl rfl ?_
            refine AO.splitAt 33 _ rfl (fun s33 => ?_) (fun s33 => ?_)
            · -- s33 True
              refine AO.skipF rfl rfl rfl rfl rfl ?_
              refine AO.skipF rfl rfl rfl rfl rfl ?_
              refine AO.skipF rfl rfl rfl rfl rfl ?_
              refine AO.skipU rfl rfl rfl rfl rfl ?_
              refine AO.skipU rfl rfl rfl rfl rfl ?_
              refine AO.skipU rfl rfl rfl rfl rfl ?_
              refine AO.skipU rfl rfl rfl rfl rfl ?_
              refine AO.skipU rfl rfl rfl rfl rfl ?_
              refine AO.skipU rfl rfl rfl rfl rfl ?_
              refine AO.skipU rfl rfl rfl rfl rfl ?_
              refine AO.skipU rfl rfl rfl rfl rfl ?_
              refine AO.skipU rfl rfl rfl rfl rfl ?_
              refine AO.skipF rfl rfl rfl rfl rfl ?_
              refine AO.yld _ (Yld.pickT rfl rfl) rfl rfl rfl ?_
              refine AO.nil ?_
              refine AC.condT rfl ?_
              refine AC.seq ?_
              refine AC.region ?_
              refine AO.yld _ (Yld.assign rfl) rfl rfl rfl ?_
              refine AO.nil ?_
              refine Pure.ret Try.results32 (RVs.cons (RV.tmp rfl) RVs.nil) rfl ?_
              first
                | (refine cb ?_; unfold okNeeds; rw [hok.1, allI_take hJ.2, decide_eq_true hok.2]; rfl)
                | (refine cb ?_; unfold okNeeds; rw [allI_miss hx (by simp only [okNeed, hz]; first | grind | (simp_all; done)), Bool.false_and, Bool.and_false])
                | (refine cb ?_; unfold okNeeds; rw [show okMedias ms = false by simpa using s10, Bool.false_and])
                | (refine cb ?_; unfold okNeeds; have h : ¬ xs.length ≤ 16 := (by have h := c14; simp only [hM] at h; simp at h; omega); rw [decide_eq_false h, Bool.and_false, Bool.and_false])
            · -- s33 False
              refine AO.yldG _ (Yld.move rfl) rfl rfl rfl rfl rfl ?_
              refine AO.yldG _ (Yld.int rfl rfl rfl) rfl rfl rfl rfl rfl ?_
              refine AO.yldG _ (Yld.move rfl) rfl rfl rfl rfl rfl ?_
              refine AO.splitAt 36 _ rfl (fun s36 => ?_) (fun s36 => ?_)
              · -- s36 True
                have hk0 : 0 < k := by simpa using s36
                refine AO.yldG _ (Yld.move rfl) rfl rfl rfl rfl rfl ?_
                refine AO.yldG _ (Yld.move rfl) rfl rfl rfl rfl rfl ?_
                refine AO.yldG _ (Yld.sub rfl rfl (by omega) (by omega)) rfl rfl rfl rfl rfl ?_
                refine AO.yldG _ (Yld.indexSl Try.underlying48 Try.sizeOf122 rfl rfl hrowz (by omega)) rfl rfl rfl rfl rfl ?_
                refine AO.yldG _ (Yld.fieldAddr Try.underlying122 rfl rfl Try.sizeOf2 rfl rfl rfl) rfl rfl rfl rfl rfl ?_
                refine AO.yldG _ (Yld.load Try.isAgg2 rfl rfl) rfl rfl rfl rfl rfl ?_
                refine AO.yldG _ (Yld.fieldAddr Try.underlying122 rfl rfl Try.sizeOf2 rfl rfl rfl) rfl rfl rfl rfl rfl ?_
                refine AO.yldG _ (Yld.load Try.isAgg2 rfl rfl) rfl rfl rfl rfl rfl ?_
                refine AO.yldG _ (Yld.int rfl rfl rfl) rfl rfl rfl rfl rfl ?_
                refine AO.yldG _ (Yld.pickT rfl rfl) rfl rfl rfl rfl rfl ?_
                refine AO.yld _ (Yld.pickF rfl rfl) rfl rfl rfl ?_
                refine AO.nil ?_
                refine AC.cond _ rfl (fun c47 => ?_) (fun c47 => ?_)
                · -- c47 True
                  refine AC.seq ?_
                  refine AC.region ?_
                  refine AO.yld _ (Yld.assign rfl) rfl rfl rfl ?_
                  refine AO.nil ?_
                  refine Pure.ret Try.results32 (RVs.cons (RV.tmp rfl) RVs.nil) rfl ?_
                  first
                    | (refine cb ?_; unfold okNeeds; rw [hok.1, allI_take hJ.2, decide_eq_true hok.2]; rfl)
                    | (refine cb ?_; unfold okNeeds; rw [allI_miss hx (by simp only [okNeed, hz]; first | grind | (simp_all; done)), Bool.false_and, Bool.and_false])
                    | (refine cb ?_; unfold okNeeds; rw [show okMedias ms = false by simpa using s10, Bool.false_and])
                    | (refine cb ?_; unfold okNeeds; have h : ¬ xs.length ≤ 16 := (by have h := c14; simp only [hM] at h; simp at h; omega); rw [decide_eq_false h, Bool.and_false, Bool.and_false])
                · -- c47 False
                  refine AC.skip ?_
                  refine AC.seq ?_
                  refine AC.region ?_
                  refine AO.yld _ (Yld.move rfl) rfl rfl rfl ?_
                  refine AO.yld _ (Yld.move rfl) rfl rfl rfl ?_
                  refine AO.yld _ (Yld.sliceTo (h := k) Try.underlying48 Try.sizeOf122 rfl rfl (by omega) (by omega)) rfl rfl rfl ?_
                  refine AO.yld _ (Yld.makeFunc rfl) rfl rfl rfl ?_
                  refine AO.yld _ (Yld.call rfl rfl Try.call89 rfl rfl rfl (containsFuncNeed_c (xs := xs.take k) (p := nameIs x.name) (by simp only [List.length_take]; omega) Try.call90 (fun y hy => validNeeds1_c)) rfl) rfl rfl rfl ?_
                  refine AO.nil ?_
                  refine AC.cond _ rfl (fun c52 => ?_) (fun c52 => ?_)
                  · -- c52 True
                    refine AC.seq ?_
                    refine AC.region ?_
                    refine AO.yld _ (Yld.assign rfl) rfl rfl rfl ?_
                    refine AO.nil ?_
                    refine Pure.ret Try.results32 (RVs.cons (RV.tmp rfl) RVs.nil) rfl ?_
                    first
                      | (refine cb ?_; unfold okNeeds; rw [hok.1, allI_take hJ.2, decide_eq_true hok.2]; rfl)
                      | (refine cb ?_; unfold okNeeds; rw [allI_miss hx (by simp only [okNeed, hz]; first | grind | (simp_all; done)), Bool.false_and, Bool.and_false])
                      | (refine cb ?_; unfold okNeeds; rw [show okMedias ms = false by simpa using s10, Bool.false_and])
                      | (refine cb ?_; unfold okNeeds; have h : ¬ xs.length ≤ 16 := (by have h := c14; simp only [hM] at h; simp at h; omega); rw [decide_eq_false h, Bool.and_false, Bool.and_false])
                  · -- c52 False
                    refine AC.skip ?_
                    refine AC.mark ?_
                    refine AC.region ?_
                    refine AO.yld _ (Yld.add rfl rfl (by omega) (by omega)) rfl rfl rfl ?_
                    refine AO.yld _ (Yld.move rfl) rfl rfl rfl ?_
                    refine AO.nil ?_
                    refine AC.back ⟨k + 1, ?_, ?_, ⟨?_, trivial⟩, trivial, ⟨rfl, rfl, rfl, rfl, trivial⟩, trivial⟩
                    · exact ⟨hk, by rw [allITo_succ hx, hJ.2, Bool.true_and]; exact (by simp only [okNeed, hz]; first | grind | (simp_all; done))⟩
                    · omega
                    · rfl
              · -- s36 False
                refine AO.skipT rfl rfl rfl rfl rfl ?_
                refine AO.skipT rfl rfl rfl rfl rfl ?_
                refine AO.skipT rfl rfl rfl rfl rfl ?_
                refine AO.skipT rfl rfl rfl rfl rfl ?_
                refine AO.skipT rfl rfl rfl rfl rfl ?_
                refine AO.skipT rfl rfl rfl rfl rfl ?_
                refine AO.skipT rfl rfl rfl rfl rfl ?_
                refine AO.skipT rfl rfl rfl rfl rfl ?_
                refine AO.skipT rfl rfl rfl rfl rfl ?_
                refine AO.yldG _ (Yld.pickF rfl rfl) rfl rfl rfl rfl rfl ?_
                refine AO.yld _ (Yld.pickF rfl rfl) rfl rfl rfl ?_
                refine AO.nil ?_
                refine AC.condF rfl ?_
                refine AC.skip ?_
                refine AC.seq ?_
                refine AC.region ?_
                refine AO.yld _ (Yld.move rfl) rfl rfl rfl ?_
                refine AO.yld _ (Yld.move rfl) rfl rfl rfl ?_
                refine AO.yld _ (Yld.sliceTo (h := k) Try.underlying48 Try.sizeOf122 rfl rfl (by omega) (by omega)) rfl rfl rfl ?_
                refine AO.yld _ (Yld.makeFunc rfl) rfl rfl rfl ?_
                refine AO.yld _ (Yld.call rfl rfl Try.call89 rfl rfl rfl (containsFuncNeed_c (xs := xs.take k) (p := nameIs x.name) (by simp only [List.length_take]; omega) Try.call90 (fun y hy => validNeeds1_c)) rfl) rfl rfl rfl ?_
                refine AO.nil ?_
                refine AC.cond _ rfl (fun c52 => ?_) (fun c52 => ?_)
                · -- c52 True
                  refine AC.seq ?_
                  refine AC.region ?_
                  refine AO.yld _ (Yld.assign rfl) rfl rfl rfl ?_
                  refine AO.nil ?_
                  refine Pure.ret Try.results32 (RVs.cons (RV.tmp rfl) RVs.nil) rfl ?_
                  first
                    | (refine cb ?_; unfold okNeeds; rw [hok.1, allI_take hJ.2, decide_eq_true hok.2]; rfl)
                    | (refine cb ?_; unfold okNeeds; rw [allI_miss hx (by simp only [okNeed, hz]; first | grind | (simp_all; done)), Bool.false_and, Bool.and_false])
                    | (refine cb ?_; unfold okNeeds; rw [show okMedias ms = false by simpa using s10, Bool.false_and])
                    | (refine cb ?_; unfold okNeeds; have h : ¬ xs.length ≤ 16 := (by have h := c14; simp only [hM] at h; simp at h; omega); rw [decide_eq_false h, Bool.and_false, Bool.and_false])
                · -- c52 False
                  refine AC.skip ?_
                  refine AC.mark ?_
                  refine AC.region ?_
                  refine AO.yld _ (Yld.add rfl rfl (by omega) (by omega)) rfl rfl rfl ?_
                  refine AO.yld _ (Yld.move rfl) rfl rfl rfl ?_
                  refine AO.nil ?_
                  refine AC.back ⟨k + 1, ?_, ?_, ⟨?_, trivial⟩, trivial, ⟨rfl, rfl, rfl, rfl, trivial⟩, trivial⟩
                  · exact ⟨hk, by rw [allITo_succ hx, hJ.2, Bool.true_and]; exact (by simp only [okNeed, hz]; first | grind | (simp_all; done))⟩
                  · omega
                  · rfl
        · -- c18 False
          obtain rfl : k = xs.length := by have := ge_of_decM c18; omega
          refine AC.exit rfl ?_
          refine AC.seq ?_
          refine AC.region ?_
          refine AO.yld _ (Yld.assign rfl) rfl rfl rfl ?_
          refine AO.nil ?_
          refine Pure.ret Try.results32 (RVs.cons (RV.tmp rfl) RVs.nil) rfl ?_
          first
            | (refine cb ?_; unfold okNeeds; rw [hok.1, allI_take hJ.2, decide_eq_true hok.2]; rfl)
            | (refine cb ?_; unfold okNeeds; rw [allI_miss hx (by simp only [okNeed, hz]; first | grind | (simp_all; done)), Bool.false_and, Bool.and_false])
            | (refine cb ?_; unfold okNeeds; rw [show okMedias ms = false by simpa using s10, Bool.false_and])
            | (refine cb ?_; unfold okNeeds; have h : ¬ xs.length ≤ 16 := (by have h := c14; simp only [hM] at h; simp at h; omega); rw [decide_eq_false h, Bool.and_false, Bool.and_false])

theorem spec_l25Ask_c {ms xs : List NV} (hm : ms.length ≤ 1048576) (hms : ∀ x ∈ ms, x.name.length ≤ 1048576) (hn : xs.length ≤ 1048576) (hs : ∀ x ∈ xs, x.name.length ≤ 1048576) {b : Int} :
    Pure Try.prog 126 [.sl 2 (ms.map encNV), .sl 2 (xs.map encNV), .v (.int .i64 b)] (.v (.int .i64 (askNeeds ms xs b))) := by
  refine Pure.intro Try.func126 rfl Try.ntmps126 rfl rfl (fun w => ?_)
  refine AC.seq ?_
  refine AC.region ?_
  refine AO.yld _ (Yld.assign rfl) rfl rfl rfl ?_
  refine AO.nil ?_
  refine AC.seq ?_
  refine AC.seq ?_
  refine AC.region ?_
  refine AO.yld _ (Yld.move rfl) rfl rfl rfl ?_
  refine AO.yld _ (Yld.call rfl rfl Try.call83 rfl rfl rfl (spec_l25Ok_c (by first | assumption | omega) (by assumption)) rfl) rfl rfl rfl ?_
  refine AO.yld _ (Yld.not rfl) rfl rfl rfl ?_
  refine AO.yld _ (Yld.move rfl) rfl rfl rfl ?_
  refine AO.splitAt 10 _ rfl (fun s10 => ?_) (fun s10 => ?_)
  · -- s10 True
    refine AO.skipF rfl rfl rfl rfl rfl ?_
    refine AO.skipF rfl rfl rfl rfl rfl ?_
    refine AO.skipF rfl rfl rfl rfl rfl ?_
    refine AO.skipF rfl rfl rfl rfl rfl ?_
    refine AO.yld _ (Yld.pickT rfl rfl) rfl rfl rfl ?_
    refine AO.nil ?_
    refine AC.condT rfl ?_
    refine AC.seq ?_
    refine AC.region ?_
    refine AO.yld _ (Yld.assign rfl) rfl rfl rfl ?_
    refine AO.nil ?_
    refine Pure.ret Try.results126 (RVs.cons (RV.tmp rfl) RVs.nil) rfl ?_
    refine ci ?_; unfold askNeeds okNeeds; first | grind | (simp_all; done)
  · -- s10 False
    refine AO.yldG _ (Yld.move rfl) rfl rfl rfl rfl rfl ?_
    refine AO.yldG _ (Yld.move rfl) rfl rfl rfl rfl rfl ?_
    refine AO.yldG _ (Yld.call rfl rfl Try.call84 rfl rfl rfl (spec_l25Needs_c (by first | assumption | omega) (by assumption) (by first | assumption | omega) (by assumption)) rfl) rfl rfl rfl rfl rfl ?_
    refine AO.yldG _ (Yld.not rfl) rfl rfl rfl rfl rfl ?_
    refine AO.yld _ (Yld.pickF rfl rfl) rfl rfl rfl ?_
    refine AO.nil ?_
    refine AC.cond _ rfl (fun c15 => ?_) (fun c15 => ?_)
    · -- c15 True
      refine AC.seq ?_
      refine AC.region ?_
      refine AO.yld _ (Yld.assign rfl) rfl rfl rfl ?_
      refine AO.nil ?_
      refine Pure.ret Try.results126 (RVs.cons (RV.tmp rfl) RVs.nil) rfl ?_
      refine ci ?_; unfold askNeeds okNeeds; first | grind | (simp_all; done)
    · -- c15 False
      refine AC.skip ?_
      refine AC.seq ?_
      refine AC.seq ?_
      refine AC.region ?_
      refine AO.yld _ (Yld.move rfl) rfl rfl rfl ?_
      refine AO.yld _ (Yld.call rfl rfl Try.call156 rfl rfl rfl (spec_l25Bandwidth_c) rfl) rfl rfl rfl ?_
      refine AO.yld _ (Yld.not rfl) rfl rfl rfl ?_
      refine AO.nil ?_
      refine AC.cond _ rfl (fun c18 => ?_) (fun c18 => ?_)
      · -- c18 True
        refine AC.seq ?_
        refine AC.region ?_
        refine AO.yld _ (Yld.assign rfl) rfl rfl rfl ?_
        refine AO.nil ?_
        refine Pure.ret Try.results126 (RVs.cons (RV.tmp rfl) RVs.nil) rfl ?_
        refine ci ?_; unfold askNeeds okNeeds; first | grind | (simp_all; done)
      · -- c18 False
        refine AC.skip ?_
        refine AC.seq ?_
        refine AC.region ?_
        refine AO.yld _ (Yld.assign rfl) rfl rfl rfl ?_
        refine AO.nil ?_
        refine Pure.ret Try.results126 (RVs.cons (RV.tmp rfl) RVs.nil) rfl ?_
        refine ci ?_; unfold askNeeds okNeeds; first | grind | (simp_all; done)

theorem impl_checkNeeds_c {ms xs : List NV} (hm : ms.length ≤ 1048576) (hms : ∀ x ∈ ms, x.name.length ≤ 1048576) (hn : xs.length ≤ 1048576) (hs : ∀ x ∈ xs, x.name.length ≤ 1048576) {b : Int} :
    Pure Try.prog 128 [.sl 2 (ms.map encNV), .sl 2 (xs.map encNV), .v (.int .i64 b)] (.v (.int .i64 (askNeeds ms xs b))) := by
  refine Pure.intro Try.func128 rfl Try.ntmps128 rfl rfl (fun w => ?_)
  refine AC.seq ?_
  refine AC.region ?_
  refine AO.yld _ (Yld.assign rfl) rfl rfl rfl ?_
  refine AO.nil ?_
  refine AC.seq ?_
  refine AC.block ?_
  refine AC.seq ?_
  refine AC.region ?_
  refine AO.yld _ (Yld.move rfl) rfl rfl rfl ?_
  refine AO.yld _ (Yld.move rfl) rfl rfl rfl ?_
  refine AO.yld _ (Yld.call rfl rfl Try.call32 rfl rfl rfl (impl_ValidNeeds_c (by first | assumption | omega) (by assumption) (by first | assumption | omega) (by assumption)) rfl) rfl rfl rfl ?_
  refine AO.yld _ (Yld.not rfl) rfl rfl rfl ?_
  refine AO.yld _ (Yld.assign rfl) rfl rfl rfl ?_
  refine AO.nil ?_
  refine AC.cond _ rfl (fun c7 => ?_) (fun c7 => ?_)
  · -- c7 True
    refine AC.seq ?_
    refine AC.region ?_
    refine AO.yld _ (Yld.assign rfl) rfl rfl rfl ?_
    refine AO.nil ?_
    refine Pure.ret Try.results128 (RVs.cons (RV.tmp rfl) RVs.nil) rfl ?_
    refine ci ?_; unfold askNeeds; first | (simp_all; done) | grind
  · -- c7 False
    refine AC.seq ?_
    refine AC.region ?_
    refine AO.yld _ (Yld.move rfl) rfl rfl rfl ?_
    refine AO.yld _ (Yld.call rfl rfl Try.call70 rfl rfl rfl (impl_within_c) rfl) rfl rfl rfl ?_
    refine AO.yld _ (Yld.not rfl) rfl rfl rfl ?_
    refine AO.yld _ (Yld.assign rfl) rfl rfl rfl ?_
    refine AO.nil ?_
    refine AC.cond _ rfl (fun c12 => ?_) (fun c12 => ?_)
    · -- c12 True
      refine AC.seq ?_
      refine AC.region ?_
      refine AO.yld _ (Yld.assign rfl) rfl rfl rfl ?_
      refine AO.nil ?_
      refine Pure.ret Try.results128 (RVs.cons (RV.tmp rfl) RVs.nil) rfl ?_
      refine ci ?_; unfold askNeeds; first | (simp_all; done) | grind
    · -- c12 False
      refine AC.skip ?_
      refine AC.mark ?_
      refine AC.seq ?_
      refine AC.region ?_
      refine AO.yld _ (Yld.assign rfl) rfl rfl rfl ?_
      refine AO.nil ?_
      refine Pure.ret Try.results128 (RVs.cons (RV.tmp rfl) RVs.nil) rfl ?_
      refine ci ?_; unfold askNeeds; first | (simp_all; done) | grind

theorem spec_l25Plan_c {ms xs : List NV} {b : Int} (hn : xs.length ≤ 1048576) (hok : okNeeds ms xs = true) (hb : 1 ≤ b ∧ b ≤ 100000) (hm : ms.length ≤ 1048576) :
    FnE (α := Unit) Try.prog 157 [.p (.sl 2 (ms.map encNV)), .p (.sl 2 (xs.map encNV)), .p (.v (.int .i64 b))] [] [] (fun _ => True) (fun _ => .h 0) (fun _ => [(0, .vec 2 1 ((planL ms xs b xs.length).map encI))]) := by
  refine FnE.intro Try.func157 rfl Try.ntmps157 rfl rfl (fun w0 F0 η φ w => ?_)
  refine AC.seq ?_
  refine AC.region ?_
  refine AO.yld _ (Yld.assign rfl) rfl rfl rfl ?_
  refine AO.nil ?_
  refine AC.seq ?_
  refine AC.region ?_
  refine AO.buildSlice (rows := []) 0 Try.underlying31 ty2 rfl rfl rfl rfl rfl rfl rfl rfl rfl ?_
  refine AO.yld _ (Yld.assign rfl) rfl rfl rfl ?_
  refine AO.nil ?_
  refine AC.seq ?_
  refine AC.region ?_
  refine AO.yld _ (Yld.assign rfl) rfl rfl rfl ?_
  refine AO.nil ?_
  refine AC.seq ?_
  refine AC.seq ?_
  refine AC.region ?_
  refine AO.yld _ (Yld.assign rfl) rfl rfl rfl ?_
  refine AO.nil ?_
  refine AC.block ?_
  refine AC.loopC [(0, _), (1, _), (2, _), (6, _)] [(900, _)] (fun (k : Nat) => [(9, .p (.v (.int .i64 (k : Int)))), (8, .p (.v (.int .i64 (sumTo (loadT ms b) xs k)))), (7, .h 0)]) (fun (k : Nat) => [(0, .vec 2 1 ((planL ms xs b k).map encI))]) (fun (k : Nat) => k ≤ xs.length) (fun (k : Nat) => xs.length - k) 0 ⟨rfl, rfl, rfl, rfl, trivial⟩ ⟨rfl, trivial⟩ ⟨rfl, rfl, rfl, trivial⟩ ⟨rfl, trivial⟩ ?_ (fun k hJ => ?_)
  · exact Nat.zero_le _
  · -- round
    refine AC.seq ?_
    refine AC.seq ?_
    refine AC.region ?_
    refine AO.yld _ (Yld.move rfl) rfl rfl rfl ?_
    refine AO.yld _ (Yld.move rfl) rfl rfl rfl ?_
    refine AO.yld _ (Yld.len Try.underlying48 rfl rfl) rfl rfl rfl ?_
    refine AO.yld _ (Yld.int rfl rfl rfl) rfl rfl rfl ?_
    refine AO.nil ?_
    refine AC.cond _ rfl (fun c14 => ?_) (fun c14 => ?_)
    · -- c14 True
      have hk := lt_of_decM c14
      obtain ⟨x, hx⟩ := get_some hk
      have hrow := map_row (enc := encNV) hx
      have hlx := loadT_lim (needs_ok hok).1 hb.1 x
      have hsl := lookup_lim (needs_ok hok).1 x.name
      have hsk := sums_lim (xs := xs) (needs_ok hok).1 hb.1 k
      have hsk1 := sums_lim (xs := xs) (needs_ok hok).1 hb.1 (k + 1)
      have hss := sumTo_succ (f := loadT ms b) hx
      have hld : loadT ms b x = (1000 * lookup ms x.name + b - 1) / b := rfl
      have hnl := need_lim (allI_at (needs_ok hok).2.1 hx)
      have hll := lateTo_lim hok hb.1 k
      have hl16 := (needs_ok hok).2.2
      have hpl := planL_len ms xs b k
      refine AC.skip ?_
      refine AC.seq ?_
      refine AC.block ?_
      refine AC.seq ?_
      refine AC.region ?_
      refine AO.yld _ (Yld.move rfl) rfl rfl rfl ?_
      refine AO.yld _ (Yld.move rfl) rfl rfl rfl ?_
      refine AO.buildSlice (rows := [[_]]) 1 Try.underlying31 ty2 rfl rfl rfl rfl rfl rfl rfl rfl rfl ?_
      refine AO.append 0 Try.underlying31 ty2 rfl rfl rfl rfl rfl rfl rfl (by simp [pvOne]) (by simp only [List.length_map, List.length_cons, List.length_nil]; omega) (by simp only [List.length_map, List.length_cons, List.length_nil]; omega) rfl ?_
      refine AO.yld _ (Yld.assign rfl) rfl rfl rfl ?_
      refine AO.nil ?_
      refine AC.region ?_
      refine AO.yld _ (Yld.move rfl) rfl rfl rfl ?_
      refine AO.yld _ (Yld.move rfl) rfl rfl rfl ?_
      refine AO.yld _ (Yld.move rfl) rfl rfl rfl ?_
      refine AO.yld _ (Yld.move rfl) rfl rfl rfl ?_
      refine AO.yld _ (Yld.indexSl Try.underlying48 Try.sizeOf122 rfl rfl hrow rfl) rfl rfl rfl ?_
      refine AO.yld _ (Yld.fieldAddr Try.underlying122 rfl rfl Try.sizeOf9 rfl rfl rfl) rfl rfl rfl ?_
      refine AO.yld _ (Yld.load Try.isAgg9 rfl rfl) rfl rfl rfl ?_
      refine AO.yld _ (Yld.call rfl rfl Try.call114 rfl rfl rfl (spec_l25Size_c (by first | assumption | omega)) rfl) rfl rfl rfl ?_
      refine AO.yld _ (Yld.move rfl) rfl rfl rfl ?_
      refine AO.yld _ (Yld.call rfl rfl Try.call158 rfl rfl rfl (spec_l25Load_c (by omega) (by omega) (by omega) (by omega)) rfl) rfl rfl rfl ?_
      refine AO.yld _ (Yld.add rfl rfl (by omega) (by omega)) rfl rfl rfl ?_
      refine AO.yld _ (Yld.assign rfl) rfl rfl rfl ?_
      refine AO.nil ?_
      refine AC.mark ?_
      refine AC.region ?_
      refine AO.yld _ (Yld.move rfl) rfl rfl rfl ?_
      refine AO.yld _ (Yld.add rfl rfl (by omega) (by omega)) rfl rfl rfl ?_
      refine AO.yld _ (Yld.assign rfl) rfl rfl rfl ?_
      refine AO.nil ?_
      refine AC.back ⟨k + 1, ?_, ?_, ⟨?_, ?_, ?_, trivial⟩, ⟨?_, trivial⟩, ⟨rfl, rfl, rfl, rfl, trivial⟩, ⟨rfl, trivial⟩⟩
      · exact hk
      · omega
      · rfl
      · show some (AV.p (PV.v (Value.int IntKind.i64 _))) = _; rw [sumTo_succ hx]; rfl
      · rfl
      · rw [planL_succ, map_snoc]; rfl
    · -- c14 False
      obtain rfl : k = xs.length := by have := ge_of_decM c14; omega
      refine AC.exit rfl ?_
      refine AC.seq ?_
      refine AC.region ?_
      refine AO.yld _ (Yld.move rfl) rfl rfl rfl ?_
      refine AO.yld _ (Yld.assign rfl) rfl rfl rfl ?_
      refine AO.nil ?_
      refine FnE.ret () [0] [0] Try.results157 (RVs.cons (RV.tmp rfl) RVs.nil) rfl rfl rfl ?_ ?_ ⟨⟨_, rfl, ?_⟩, trivial⟩
      · -- holds
        trivial
      · -- value
        rfl
      · -- thing 0
        first | rfl | exact vecE (by first | rfl | (simp_all; done) | grind) | (simp_all; done)

theorem spec_l25Late_c {ms xs : List NV} {b : Int} (hn : xs.length ≤ 1048576) (hok : okNeeds ms xs = true) (hb : 1 ≤ b ∧ b ≤ 100000) (hm : ms.length ≤ 1048576) :
    Pure Try.prog 127 [.sl 2 (ms.map encNV), .sl 2 (xs.map encNV), .v (.int .i64 b)] (.v (.int .i64 (if xs.length = 0 then 0 else lateTo ms xs b xs.length))) := by
  refine Pure.intro Try.func127 rfl Try.ntmps127 rfl rfl (fun w => ?_)
  refine AC.seq ?_
  refine AC.region ?_
  refine AO.yld _ (Yld.assign rfl) rfl rfl rfl ?_
  refine AO.nil ?_
  refine AC.seq ?_
  refine AC.region ?_
  refine AO.yld _ (Yld.move rfl) rfl rfl rfl ?_
  refine AO.yld _ (Yld.move rfl) rfl rfl rfl ?_
  refine AO.yld _ (Yld.move rfl) rfl rfl rfl ?_
  refine AO.callW (wantedN rfl) [0] [] [0] rfl rfl Try.call157 rfl (spec_l25Plan_c (by first | assumption | omega) (by assumption) (by omega) (by first | assumption | omega)) (.flat (.view rfl rfl (.view rfl rfl (.view rfl rfl .nil))) (fun _ => by simp [AV.Flat, AV.FlatL, PV.Flat, PV.FlatL]) (fun _ => ⟨flat_map flatI _, trivial⟩)) rfl (fun _ => rfl) trivial rfl (fun _ => rfl) (fun _ => rfl) (fun _ _ => ?_)
  refine AO.yld _ (Yld.assign rfl) rfl rfl rfl ?_
  refine AO.nil ?_
  refine AC.seq ?_
  refine AC.region ?_
  refine AO.yld _ (Yld.assign rfl) rfl rfl rfl ?_
  refine AO.nil ?_
  refine AC.seq ?_
  refine AC.seq ?_
  refine AC.region ?_
  refine AO.yld _ (Yld.assign rfl) rfl rfl rfl ?_
  refine AO.nil ?_
  refine AC.block ?_
  refine AC.loopC [(0, _), (1, _), (2, _), (6, _), (7, _)] [(0, _)] (fun (k : Nat) => [(9, .p (.v (.int .i64 (k : Int)))), (8, .p (.v (.int .i64 (if k = 0 then 0 else lateTo ms xs b k))))]) (fun (k : Nat) => []) (fun (k : Nat) => k ≤ xs.length) (fun (k : Nat) => xs.length - k) 0 ⟨rfl, rfl, rfl, rfl, rfl, trivial⟩ ⟨rfl, trivial⟩ ⟨rfl, rfl, trivial⟩ trivial ?_ (fun k hJ => ?_)
  · exact Nat.zero_le _
  · -- round
    refine AC.seq ?_
    refine AC.seq ?_
    refine AC.region ?_
    refine AO.yld _ (Yld.move rfl) rfl rfl rfl ?_
    refine AO.yld _ (Yld.move rfl) rfl rfl rfl ?_
    refine AO.yld _ (Yld.len Try.underlying48 rfl rfl) rfl rfl rfl ?_
    refine AO.yld _ (Yld.int rfl rfl rfl) rfl rfl rfl ?_
    refine AO.nil ?_
    refine AC.cond _ rfl (fun c18 => ?_) (fun c18 => ?_)
    · -- c18 True
      have hk := lt_of_decM c18
      obtain ⟨x, hx⟩ := get_some hk
      have hrow := map_row (enc := encNV) hx
      have hlx := loadT_lim (needs_ok hok).1 hb.1 x
      have hsl := lookup_lim (needs_ok hok).1 x.name
      have hsk := sums_lim (xs := xs) (needs_ok hok).1 hb.1 k
      have hsk1 := sums_lim (xs := xs) (needs_ok hok).1 hb.1 (k + 1)
      have hss := sumTo_succ (f := loadT ms b) hx
      have hld : loadT ms b x = (1000 * lookup ms x.name + b - 1) / b := rfl
      have hnl := need_lim (allI_at (needs_ok hok).2.1 hx)
      have hll := lateTo_lim hok hb.1 k
      have hl16 := (needs_ok hok).2.2
      have hrowp := map_row (enc := encI) (planL_get (ms := ms) (xs := xs) (b := b) hk)
      have hif : (if k = 0 then (0 : Int) else lateTo ms xs b k) ≤ 100000000 * k ∧ -7200001 ≤ (if k = 0 then (0 : Int) else lateTo ms xs b k) := by split <;> omega
      refine AC.skip ?_
      refine AC.seq ?_
      refine AC.block ?_
      refine AC.seq ?_
      refine AC.draw (by kernel_rfl) (by kernel_rfl) ?_
      refine AO.yld _ (Yld.move rfl) rfl rfl rfl ?_
      refine AO.yld _ (Yld.move rfl) rfl rfl rfl ?_
      refine AO.yld _ (Yld.indexVec Try.underlying31 Try.sizeOf2 rfl rfl rfl rfl (by simp only [List.length_map, planL_len]; exact hk)) rfl rfl rfl ?_
      refine AO.yld _ (Yld.load Try.isAgg2 rfl (behind_el rfl hrowp)) rfl rfl rfl ?_
      refine AO.yld _ (Yld.move rfl) rfl rfl rfl ?_
      refine AO.yld _ (Yld.move rfl) rfl rfl rfl ?_
      refine AO.yld _ (Yld.move rfl) rfl rfl rfl ?_
      refine AO.yld _ (Yld.indexSl Try.underlying48 Try.sizeOf122 rfl rfl hrow rfl) rfl rfl rfl ?_
      refine AO.yld _ (Yld.fieldAddr Try.underlying122 rfl rfl Try.sizeOf9 rfl rfl rfl) rfl rfl rfl ?_
      refine AO.yld _ (Yld.load Try.isAgg9 rfl rfl) rfl rfl rfl ?_
      refine AO.yld _ (Yld.call rfl rfl Try.call114 rfl rfl rfl (spec_l25Size_c (by first | assumption | omega)) rfl) rfl rfl rfl ?_
      refine AO.yld _ (Yld.move rfl) rfl rfl rfl ?_
      refine AO.yld _ (Yld.call rfl rfl Try.call158 rfl rfl rfl (spec_l25Load_c (by omega) (by omega) (by omega) (by omega)) rfl) rfl rfl rfl ?_
      refine AO.yld _ (Yld.add rfl rfl (by omega) (by omega)) rfl rfl rfl ?_
      refine AO.yld _ (Yld.move rfl) rfl rfl rfl ?_
      refine AO.yld _ (Yld.move rfl) rfl rfl rfl ?_
      refine AO.yld _ (Yld.indexSl Try.underlying48 Try.sizeOf122 rfl rfl hrow rfl) rfl rfl rfl ?_
      refine AO.yld _ (Yld.fieldAddr Try.underlying122 rfl rfl Try.sizeOf2 rfl rfl rfl) rfl rfl rfl ?_
      refine AO.yld _ (Yld.load Try.isAgg2 rfl rfl) rfl rfl rfl ?_
      refine AO.yld _ (Yld.sub rfl rfl (by omega) (by omega)) rfl rfl rfl ?_
      refine AO.yld _ (Yld.assign rfl) rfl rfl rfl ?_
      refine AO.nil ?_
      refine AC.seq ?_
      refine AC.region ?_
      refine AO.yld _ (Yld.move rfl) rfl rfl rfl ?_
      refine AO.yld _ (Yld.int rfl rfl rfl) rfl rfl rfl ?_
      refine AO.yld _ (Yld.move rfl) rfl rfl rfl ?_
      refine AO.splitAt 43 _ rfl (fun s43 => ?_) (fun s43 => ?_)
      · -- s43 True
        refine AO.skipF rfl rfl rfl rfl rfl ?_
        refine AO.skipF rfl rfl rfl rfl rfl ?_
        refine AO.skipF rfl rfl rfl rfl rfl ?_
        refine AO.yld _ (Yld.pickT rfl rfl) rfl rfl rfl ?_
        refine AO.nil ?_
        refine AC.condT rfl ?_
        refine AC.region ?_
        refine AO.yld _ (Yld.move rfl) rfl rfl rfl ?_
        refine AO.yld _ (Yld.assign rfl) rfl rfl rfl ?_
        refine AO.nil ?_
        refine AC.mark ?_
        refine AC.region ?_
        refine AO.yld _ (Yld.move rfl) rfl rfl rfl ?_
        refine AO.yld _ (Yld.add rfl rfl (by omega) (by omega)) rfl rfl rfl ?_
        refine AO.yld _ (Yld.assign rfl) rfl rfl rfl ?_
        refine AO.nil ?_
        refine AC.back ⟨k + 1, ?_, ?_, ⟨?_, ?_, trivial⟩, trivial, ⟨rfl, rfl, rfl, rfl, rfl, trivial⟩, ⟨rfl, trivial⟩⟩
        · exact hk
        · omega
        · rfl
        · show some (AV.p (PV.v (Value.int IntKind.i64 _))) = _; rw [if_neg (by omega : ¬ k + 1 = 0)]; first | exact late_new hok hb.1 hx hss (by first | exact .inl (by simpa using s43) | (have h9 := c47; simp only [decide_eq_true_eq] at h9; exact .inr h9)) | exact late_old hok hb.1 hx hss (by simpa using s43) (by have h9 := c47; simp only [decide_eq_false_iff_not] at h9; exact Int.not_lt.1 h9)
      · -- s43 False
        refine AO.yldG _ (Yld.move rfl) rfl rfl rfl rfl rfl ?_
        refine AO.yldG _ (Yld.move rfl) rfl rfl rfl rfl rfl ?_
        refine AO.yldG _ (Yld.int rfl rfl rfl) rfl rfl rfl rfl rfl ?_
        refine AO.yld _ (Yld.pickF rfl rfl) rfl rfl rfl ?_
        refine AO.nil ?_
        refine AC.cond _ rfl (fun c47 => ?_) (fun c47 => ?_)
        · -- c47 True
          refine AC.region ?_
          refine AO.yld _ (Yld.move rfl) rfl rfl rfl ?_
          refine AO.yld _ (Yld.assign rfl) rfl rfl rfl ?_
          refine AO.nil ?_
          refine AC.mark ?_
          refine AC.region ?_
          refine AO.yld _ (Yld.move rfl) rfl rfl rfl ?_
          refine AO.yld _ (Yld.add rfl rfl (by omega) (by omega)) rfl rfl rfl ?_
          refine AO.yld _ (Yld.assign rfl) rfl rfl rfl ?_
          refine AO.nil ?_
          refine AC.back ⟨k + 1, ?_, ?_, ⟨?_, ?_, trivial⟩, trivial, ⟨rfl, rfl, rfl, rfl, rfl, trivial⟩, ⟨rfl, trivial⟩⟩
          · exact hk
          · omega
          · rfl
          · show some (AV.p (PV.v (Value.int IntKind.i64 _))) = _; rw [if_neg (by omega : ¬ k + 1 = 0)]; first | exact late_new hok hb.1 hx hss (by first | exact .inl (by simpa using s43) | (have h9 := c47; simp only [decide_eq_true_eq] at h9; exact .inr h9)) | exact late_old hok hb.1 hx hss (by simpa using s43) (by have h9 := c47; simp only [decide_eq_false_iff_not] at h9; exact Int.not_lt.1 h9)
        · -- c47 False
          refine AC.skip ?_
          refine AC.mark ?_
          refine AC.region ?_
          refine AO.yld _ (Yld.move rfl) rfl rfl rfl ?_
          refine AO.yld _ (Yld.add rfl rfl (by omega) (by omega)) rfl rfl rfl ?_
          refine AO.yld _ (Yld.assign rfl) rfl rfl rfl ?_
          refine AO.nil ?_
          refine AC.back ⟨k + 1, ?_, ?_, ⟨?_, ?_, trivial⟩, trivial, ⟨rfl, rfl, rfl, rfl, rfl, trivial⟩, ⟨rfl, trivial⟩⟩
          · exact hk
          · omega
          · rfl
          · show some (AV.p (PV.v (Value.int IntKind.i64 _))) = _; rw [if_neg (by omega : ¬ k + 1 = 0)]; first | exact late_new hok hb.1 hx hss (by first | exact .inl (by simpa using s43) | (have h9 := c47; simp only [decide_eq_true_eq] at h9; exact .inr h9)) | exact late_old hok hb.1 hx hss (by simpa using s43) (by have h9 := c47; simp only [decide_eq_false_iff_not] at h9; exact Int.not_lt.1 h9)
    · -- c18 False
      obtain rfl : k = xs.length := by have := ge_of_decM c18; omega
      refine AC.exit rfl ?_
      refine AC.seq ?_
      refine AC.region ?_
      refine AO.yld _ (Yld.move rfl) rfl rfl rfl ?_
      refine AO.yld _ (Yld.assign rfl) rfl rfl rfl ?_
      refine AO.nil ?_
      refine Pure.ret Try.results127 (RVs.cons (RV.tmp rfl) RVs.nil) rfl ?_
      rfl

theorem impl_lateness_c {ms xs : List NV} {b : Int} (hn : xs.length ≤ 1048576) (hok : okNeeds ms xs = true) (hb : 1 ≤ b ∧ b ≤ 100000) (hm : ms.length ≤ 1048576) :
    Pure Try.prog 129 [.sl 2 (ms.map encNV), .sl 2 (xs.map encNV), .v (.int .i64 b)] (.v (.int .i64 (lateTo ms xs b xs.length))) := by
  refine Pure.intro Try.func129 rfl Try.ntmps129 rfl rfl (fun w => ?_)
  refine AC.seq ?_
  refine AC.region ?_
  refine AO.yld _ (Yld.assign rfl) rfl rfl rfl ?_
  refine AO.nil ?_
  refine AC.seq ?_
  refine AC.region ?_
  refine AO.yld _ (Yld.assign rfl) rfl rfl rfl ?_
  refine AO.nil ?_
  refine AC.seq ?_
  refine AC.region ?_
  refine AO.yld _ (Yld.assign rfl) rfl rfl rfl ?_
  refine AO.nil ?_
  refine AC.seq ?_
  refine AC.seq ?_
  refine AC.region ?_
  refine AO.yld _ (Yld.move rfl) rfl rfl rfl ?_
  refine AO.yld _ (Yld.len Try.underlying48 rfl rfl) rfl rfl rfl ?_
  refine AO.yld _ (Yld.move rfl) rfl rfl rfl ?_
  refine AO.nil ?_
  refine AC.block ?_
  refine AC.loopC [(0, _), (2, _), (6, _), (11, _), (12, _)] [] (fun (k : Nat) => [(13, .p (.v (.int .i64 (k : Int)))), (7, .p (.v (.int .i64 (sumTo (loadT ms b) xs k)))), (8, .p (.v (.int .i64 (lateTo ms xs b k))))]) (fun (k : Nat) => []) (fun (k : Nat) => k ≤ xs.length) (fun (k : Nat) => xs.length - k) 0 ⟨rfl, rfl, rfl, rfl, rfl, trivial⟩ trivial ⟨rfl, rfl, rfl, trivial⟩ trivial ?_ (fun k hJ => ?_)
  · exact Nat.zero_le _
  · -- round
    refine AC.seq ?_
    refine AC.region ?_
    refine AO.yld _ (Yld.int rfl rfl rfl) rfl rfl rfl ?_
    refine AO.nil ?_
    refine AC.seq ?_
    refine AC.cond _ rfl (fun c14 => ?_) (fun c14 => ?_)
    · -- c14 True
      have hk := lt_of_decM c14
      obtain ⟨x, hx⟩ := get_some hk
      have hrow := map_row (enc := encNV) hx
      have hlx := loadT_lim (needs_ok hok).1 hb.1 x
      have hsl := lookup_lim (needs_ok hok).1 x.name
      have hsk := sums_lim (xs := xs) (needs_ok hok).1 hb.1 k
      have hsk1 := sums_lim (xs := xs) (needs_ok hok).1 hb.1 (k + 1)
      have hss := sumTo_succ (f := loadT ms b) hx
      have hld : loadT ms b x = (1000 * lookup ms x.name + b - 1) / b := rfl
      have hnl := need_lim (allI_at (needs_ok hok).2.1 hx)
      have hll := lateTo_lim hok hb.1 k
      have hl16 := (needs_ok hok).2.2
      refine AC.skip ?_
      refine AC.seq ?_
      refine AC.block ?_
      refine AC.seq ?_
      refine AC.region ?_
      refine AO.yld _ (Yld.indexSl Try.underlying48 Try.sizeOf122 rfl rfl hrow rfl) rfl rfl rfl ?_
      refine AO.yld _ (Yld.loadAgg Try.isAgg122 Try.sizeOf122 rfl rfl rfl rfl) rfl rfl rfl ?_
      refine AO.alloc 0 Try.zeroValue122 rfl rfl rfl ?_
      refine AO.store Try.sizeOf122 rfl rfl rfl rfl rfl rfl ?_
      refine AO.nil ?_
      refine AC.seq ?_
      refine AC.region ?_
      refine AO.yld _ (Yld.move rfl) rfl rfl rfl ?_
      refine AO.yld _ (Yld.move rfl) rfl rfl rfl ?_
      refine AO.yld _ (Yld.fieldAddr Try.underlying122 rfl rfl Try.sizeOf9 rfl rfl rfl) rfl rfl rfl ?_
      refine AO.yld _ (Yld.load Try.isAgg9 rfl rfl) rfl rfl rfl ?_
      refine AO.yld _ (Yld.call rfl rfl Try.call88 rfl rfl rfl (impl_sizeOf_c (by first | assumption | omega)) rfl) rfl rfl rfl ?_
      refine AO.yld _ (Yld.mul rfl rfl (by omega) (by omega)) rfl rfl rfl ?_
      refine AO.yld _ (Yld.move rfl) rfl rfl rfl ?_
      refine AO.yld _ (Yld.call rfl rfl Try.call78 rfl rfl rfl (impl_quotientUp_c (by omega) (by omega) (by omega)) rfl) rfl rfl rfl ?_
      refine AO.yld _ (Yld.add rfl rfl (by omega) (by omega)) rfl rfl rfl ?_
      refine AO.yld _ (Yld.assign rfl) rfl rfl rfl ?_
      refine AO.nil ?_
      refine AC.region ?_
      refine AO.yld _ (Yld.move rfl) rfl rfl rfl ?_
      refine AO.yld _ (Yld.move rfl) rfl rfl rfl ?_
      refine AO.yld _ (Yld.fieldAddr Try.underlying122 rfl rfl Try.sizeOf2 rfl rfl rfl) rfl rfl rfl ?_
      refine AO.yld _ (Yld.load Try.isAgg2 rfl rfl) rfl rfl rfl ?_
      refine AO.yld _ (Yld.sub rfl rfl (by omega) (by omega)) rfl rfl rfl ?_
      refine AO.yld _ (Yld.max2 rfl rfl) rfl rfl rfl ?_
      refine AO.yld _ (Yld.assign rfl) rfl rfl rfl ?_
      refine AO.nil ?_
      refine AC.mark ?_
      refine AC.region ?_
      refine AO.yld _ (Yld.add rfl rfl (by omega) (by omega)) rfl rfl rfl ?_
      refine AO.yld _ (Yld.move rfl) rfl rfl rfl ?_
      refine AO.nil ?_
      refine AC.back ⟨k + 1, ?_, ?_, ⟨?_, ?_, ?_, trivial⟩, trivial, ⟨rfl, rfl, rfl, rfl, rfl, trivial⟩, trivial⟩
      · exact hk
      · omega
      · rfl
      · show some (AV.p (PV.v (Value.int IntKind.i64 _))) = _; rw [sumTo_succ hx]; rfl
      · show some (AV.p (PV.v (Value.int IntKind.i64 _))) = _; rw [lateTo_succ hx, sumTo_succ hx]; rfl
    · -- c14 False
      obtain rfl : k = xs.length := by have := ge_of_decM c14; omega
      refine AC.exit rfl ?_
      refine AC.seq ?_
      refine AC.region ?_
      refine AO.yld _ (Yld.move rfl) rfl rfl rfl ?_
      refine AO.yld _ (Yld.assign rfl) rfl rfl rfl ?_
      refine AO.nil ?_
      refine Pure.ret Try.results129 (RVs.cons (RV.tmp rfl) RVs.nil) rfl ?_
      rfl

theorem spec_LatenessOf_c {ms xs : List NV} (hm : ms.length ≤ 1048576) (hms : ∀ x ∈ ms, x.name.length ≤ 1048576) (hn : xs.length ≤ 1048576) (hs : ∀ x ∈ xs, x.name.length ≤ 1048576) {b : Int} :
    Pure Try.prog 63 [.sl 2 (ms.map encNV), .sl 2 (xs.map encNV), .v (.int .i64 b)] (.tup [.v (.int .i64 (latenessOf ms xs b).1), .v (.int .i64 (latenessOf ms xs b).2)]) := by
  have hM : (xs.map encNV).length = xs.length := List.length_map ..
  refine Pure.intro Try.func63 rfl Try.ntmps63 rfl rfl (fun w => ?_)
  refine AC.seq ?_
  refine AC.region ?_
  refine AO.yld _ (Yld.assign rfl) rfl rfl rfl ?_
  refine AO.yld _ (Yld.assign rfl) rfl rfl rfl ?_
  refine AO.nil ?_
  refine AC.seq ?_
  refine AC.region ?_
  refine AO.yld _ (Yld.move rfl) rfl rfl rfl ?_
  refine AO.yld _ (Yld.move rfl) rfl rfl rfl ?_
  refine AO.yld _ (Yld.move rfl) rfl rfl rfl ?_
  refine AO.yld _ (Yld.call rfl rfl Try.call126 rfl rfl rfl (spec_l25Ask_c (by first | assumption | omega) (by assumption) (by first | assumption | omega) (by assumption)) rfl) rfl rfl rfl ?_
  refine AO.yld _ (Yld.assign rfl) rfl rfl rfl ?_
  refine AO.nil ?_
  refine AC.seq ?_
  refine AC.seq ?_
  refine AC.region ?_
  refine AO.yld _ (Yld.move rfl) rfl rfl rfl ?_
  refine AO.yld _ (Yld.int rfl rfl rfl) rfl rfl rfl ?_
  refine AO.nil ?_
  refine AC.cond _ rfl (fun c14 => ?_) (fun c14 => ?_)
  · -- c14 True
    refine AC.seq ?_
    refine AC.region ?_
    refine AO.yld _ (Yld.move rfl) rfl rfl rfl ?_
    refine AO.yld _ (Yld.assign rfl) rfl rfl rfl ?_
    refine AO.yld _ (Yld.assign rfl) rfl rfl rfl ?_
    refine AO.nil ?_
    refine Pure.retT Try.results63 (RVs.cons (RV.tmp rfl) (RVs.cons (RV.tmp rfl) RVs.nil)) rfl ?_
    first | (simp_all [latenessOf]; done) | (unfold latenessOf; simp only [if_pos hk0, if_neg hl0]) | (unfold latenessOf; simp only [if_pos hk0, if_pos hl0])
  · -- c14 False
    have hk0 : askNeeds ms xs b = 0 := by first | (simpa using c14) | (exact absurd c14 (by decide))
    obtain ⟨hok, hb⟩ := ask_needs hk0
    refine AC.skip ?_
    refine AC.seq ?_
    refine AC.seq ?_
    refine AC.region ?_
    refine AO.yld _ (Yld.move rfl) rfl rfl rfl ?_
    refine AO.yld _ (Yld.len Try.underlying48 rfl rfl) rfl rfl rfl ?_
    refine AO.yld _ (Yld.int rfl rfl rfl) rfl rfl rfl ?_
    refine AO.nil ?_
    refine AC.cond _ rfl (fun c18 => ?_) (fun c18 => ?_)
    · -- c18 True
      have hl0 : xs.length = 0 := by have h := c18; rw [hM] at h; simpa using h
      refine AC.seq ?_
      refine AC.region ?_
      refine AO.yld _ (Yld.assign rfl) rfl rfl rfl ?_
      refine AO.yld _ (Yld.assign rfl) rfl rfl rfl ?_
      refine AO.nil ?_
      refine Pure.retT Try.results63 (RVs.cons (RV.tmp rfl) (RVs.cons (RV.tmp rfl) RVs.nil)) rfl ?_
      first | (simp_all [latenessOf]; done) | (unfold latenessOf; simp only [if_pos hk0, if_neg hl0]) | (unfold latenessOf; simp only [if_pos hk0, if_pos hl0])
    · -- c18 False
      have hl0 : ¬ xs.length = 0 := by have h := c18; rw [hM] at h; simpa using h
      refine AC.skip ?_
      refine AC.seq ?_
      refine AC.region ?_
      refine AO.yld _ (Yld.move rfl) rfl rfl rfl ?_
      refine AO.yld _ (Yld.move rfl) rfl rfl rfl ?_
      refine AO.yld _ (Yld.move rfl) rfl rfl rfl ?_
      refine AO.yld _ (Yld.call rfl rfl Try.call127 rfl rfl rfl (spec_l25Late_c (by first | assumption | omega) (by assumption) (by omega) (by first | assumption | omega)) rfl) rfl rfl rfl ?_
      refine AO.yld _ (Yld.assign rfl) rfl rfl rfl ?_
      refine AO.yld _ (Yld.assign rfl) rfl rfl rfl ?_
      refine AO.nil ?_
      refine Pure.retT Try.results63 (RVs.cons (RV.tmp rfl) (RVs.cons (RV.tmp rfl) RVs.nil)) rfl ?_
      first | (simp_all [latenessOf]; done) | (unfold latenessOf; simp only [if_pos hk0, if_neg hl0]) | (unfold latenessOf; simp only [if_pos hk0, if_pos hl0])

theorem impl_LatenessOf_c {ms xs : List NV} (hm : ms.length ≤ 1048576) (hms : ∀ x ∈ ms, x.name.length ≤ 1048576) (hn : xs.length ≤ 1048576) (hs : ∀ x ∈ xs, x.name.length ≤ 1048576) {b : Int} :
    Pure Try.prog 64 [.sl 2 (ms.map encNV), .sl 2 (xs.map encNV), .v (.int .i64 b)] (.tup [.v (.int .i64 (latenessOf ms xs b).1), .v (.int .i64 (latenessOf ms xs b).2)]) := by
  have hM : (xs.map encNV).length = xs.length := List.length_map ..
  refine Pure.intro Try.func64 rfl Try.ntmps64 rfl rfl (fun w => ?_)
  refine AC.seq ?_
  refine AC.region ?_
  refine AO.yld _ (Yld.assign rfl) rfl rfl rfl ?_
  refine AO.yld _ (Yld.assign rfl) rfl rfl rfl ?_
  refine AO.nil ?_
  refine AC.seq ?_
  refine AC.seq ?_
  refine AC.region ?_
  refine AO.yld _ (Yld.move rfl) rfl rfl rfl ?_
  refine AO.yld _ (Yld.move rfl) rfl rfl rfl ?_
  refine AO.yld _ (Yld.move rfl) rfl rfl rfl ?_
  refine AO.yld _ (Yld.call rfl rfl Try.call128 rfl rfl rfl (impl_checkNeeds_c (by first | assumption | omega) (by assumption) (by first | assumption | omega) (by assumption)) rfl) rfl rfl rfl ?_
  refine AO.yld _ (Yld.assign rfl) rfl rfl rfl ?_
  refine AO.nil ?_
  refine AC.seq ?_
  refine AC.region ?_
  refine AO.yld _ (Yld.move rfl) rfl rfl rfl ?_
  refine AO.yld _ (Yld.int rfl rfl rfl) rfl rfl rfl ?_
  refine AO.nil ?_
  refine AC.cond _ rfl (fun c14 => ?_) (fun c14 => ?_)
  · -- c14 True
    refine AC.seq ?_
    refine AC.region ?_
    refine AO.yld _ (Yld.move rfl) rfl rfl rfl ?_
    refine AO.yld _ (Yld.assign rfl) rfl rfl rfl ?_
    refine AO.yld _ (Yld.assign rfl) rfl rfl rfl ?_
    refine AO.nil ?_
    refine Pure.retT Try.results64 (RVs.cons (RV.tmp rfl) (RVs.cons (RV.tmp rfl) RVs.nil)) rfl ?_
    first | (simp_all [latenessOf]; done) | (unfold latenessOf; simp only [if_pos hk0, if_neg hl0]) | (unfold latenessOf; simp only [if_pos hk0, if_pos hl0])
  · -- c14 False
    have hk0 : askNeeds ms xs b = 0 := by first | (simpa using c14) | (exact absurd c14 (by decide))
    obtain ⟨hok, hb⟩ := ask_needs hk0
    refine AC.skip ?_
    refine AC.seq ?_
    refine AC.seq ?_
    refine AC.region ?_
    refine AO.yld _ (Yld.move rfl) rfl rfl rfl ?_
    refine AO.yld _ (Yld.len Try.underlying48 rfl rfl) rfl rfl rfl ?_
    refine AO.yld _ (Yld.int rfl rfl rfl) rfl rfl rfl ?_
    refine AO.nil ?_
    refine AC.cond _ rfl (fun c18 => ?_) (fun c18 => ?_)
    · -- c18 True
      have hl0 : xs.length = 0 := by have h := c18; rw [hM] at h; simpa using h
      refine AC.seq ?_
      refine AC.region ?_
      refine AO.yld _ (Yld.assign rfl) rfl rfl rfl ?_
      refine AO.yld _ (Yld.assign rfl) rfl rfl rfl ?_
      refine AO.nil ?_
      refine Pure.retT Try.results64 (RVs.cons (RV.tmp rfl) (RVs.cons (RV.tmp rfl) RVs.nil)) rfl ?_
      first | (simp_all [latenessOf]; done) | (unfold latenessOf; simp only [if_pos hk0, if_neg hl0]) | (unfold latenessOf; simp only [if_pos hk0, if_pos hl0])
    · -- c18 False
      have hl0 : ¬ xs.length = 0 := by have h := c18; rw [hM] at h; simpa using h
      refine AC.skip ?_
      refine AC.seq ?_
      refine AC.region ?_
      refine AO.yld _ (Yld.move rfl) rfl rfl rfl ?_
      refine AO.yld _ (Yld.move rfl) rfl rfl rfl ?_
      refine AO.yld _ (Yld.move rfl) rfl rfl rfl ?_
      refine AO.yld _ (Yld.call rfl rfl Try.call129 rfl rfl rfl (impl_lateness_c (by first | assumption | omega) (by assumption) (by omega) (by first | assumption | omega)) rfl) rfl rfl rfl ?_
      refine AO.yld _ (Yld.assign rfl) rfl rfl rfl ?_
      refine AO.yld _ (Yld.assign rfl) rfl rfl rfl ?_
      refine AO.nil ?_
      refine Pure.retT Try.results64 (RVs.cons (RV.tmp rfl) (RVs.cons (RV.tmp rfl) RVs.nil)) rfl ?_
      first | (simp_all [latenessOf]; done) | (unfold latenessOf; simp only [if_pos hk0, if_neg hl0]) | (unfold latenessOf; simp only [if_pos hk0, if_pos hl0])

theorem spec_LeastBandwidth_c {ms xs : List NV} (hm : ms.length ≤ 1048576) (hms : ∀ x ∈ ms, x.name.length ≤ 1048576) (hn : xs.length ≤ 1048576) (hs : ∀ x ∈ xs, x.name.length ≤ 1048576) :
    Pure Try.prog 65 [.sl 2 (ms.map encNV), .sl 2 (xs.map encNV)] (.tup [.v (.int .i64 (leastBandwidth ms xs).1), .v (.int .i64 (leastBandwidth ms xs).2)]) := by
  have hM : (xs.map encNV).length = xs.length := List.length_map ..
  refine Pure.intro Try.func65 rfl Try.ntmps65 rfl rfl (fun w => ?_)
  refine AC.seq ?_
  refine AC.region ?_
  refine AO.yld _ (Yld.assign rfl) rfl rfl rfl ?_
  refine AO.yld _ (Yld.assign rfl) rfl rfl rfl ?_
  refine AO.nil ?_
  refine AC.seq ?_
  refine AC.seq ?_
  refine AC.region ?_
  refine AO.yld _ (Yld.move rfl) rfl rfl rfl ?_
  refine AO.yld _ (Yld.call rfl rfl Try.call83 rfl rfl rfl (spec_l25Ok_c (by first | assumption | omega) (by assumption)) rfl) rfl rfl rfl ?_
  refine AO.yld _ (Yld.not rfl) rfl rfl rfl ?_
  refine AO.yld _ (Yld.move rfl) rfl rfl rfl ?_
  refine AO.splitAt 12 _ rfl (fun s12 => ?_) (fun s12 => ?_)
  · -- s12 True
    have hno : ¬ okNeeds ms xs = true := by intro h9; obtain ⟨h1, h2, h3⟩ := needs_ok h9; simp_all
    refine AO.skipF rfl rfl rfl rfl rfl ?_
    refine AO.skipF rfl rfl rfl rfl rfl ?_
    refine AO.skipF rfl rfl rfl rfl rfl ?_
    refine AO.skipF rfl rfl rfl rfl rfl ?_
    refine AO.yld _ (Yld.pickT rfl rfl) rfl rfl rfl ?_
    refine AO.nil ?_
    refine AC.condT rfl ?_
    refine AC.seq ?_
    refine AC.region ?_
    refine AO.yld _ (Yld.assign rfl) rfl rfl rfl ?_
    refine AO.yld _ (Yld.assign rfl) rfl rfl rfl ?_
    refine AO.nil ?_
    refine Pure.retT Try.results65 (RVs.cons (RV.tmp rfl) (RVs.cons (RV.tmp rfl) RVs.nil)) rfl ?_
    first
      | (unfold leastBandwidth; simp only [if_neg hno])
      | (unfold leastBandwidth; simp only [if_pos hok, late_gt0 c21]; rfl)
      | (unfold leastBandwidth; rw [if_pos hok, if_pos (late_ngt0 c21), ← hr])
  · -- s12 False
    refine AO.yldG _ (Yld.move rfl) rfl rfl rfl rfl rfl ?_
    refine AO.yldG _ (Yld.move rfl) rfl rfl rfl rfl rfl ?_
    refine AO.yldG _ (Yld.call rfl rfl Try.call84 rfl rfl rfl (spec_l25Needs_c (by first | assumption | omega) (by assumption) (by first | assumption | omega) (by assumption)) rfl) rfl rfl rfl rfl rfl ?_
    refine AO.yldG _ (Yld.not rfl) rfl rfl rfl rfl rfl ?_
    refine AO.yld _ (Yld.pickF rfl rfl) rfl rfl rfl ?_
    refine AO.nil ?_
    refine AC.cond _ rfl (fun c17 => ?_) (fun c17 => ?_)
    · -- c17 True
      have hno : ¬ okNeeds ms xs = true := by intro h9; obtain ⟨h1, h2, h3⟩ := needs_ok h9; simp_all
      refine AC.seq ?_
      refine AC.region ?_
      refine AO.yld _ (Yld.assign rfl) rfl rfl rfl ?_
      refine AO.yld _ (Yld.assign rfl) rfl rfl rfl ?_
      refine AO.nil ?_
      refine Pure.retT Try.results65 (RVs.cons (RV.tmp rfl) (RVs.cons (RV.tmp rfl) RVs.nil)) rfl ?_
      first
        | (unfold leastBandwidth; simp only [if_neg hno])
        | (unfold leastBandwidth; simp only [if_pos hok, late_gt0 c21]; rfl)
        | (unfold leastBandwidth; rw [if_pos hok, if_pos (late_ngt0 c21), ← hr])
    · -- c17 False
      have hok : okNeeds ms xs = true := by first | (simpa using c17) | (unfold okNeeds; simp_all; done) | (unfold okNeeds; grind)
      have hokm := (needs_ok hok).1
      have hl16 := (needs_ok hok).2.2
      have hmx := lateTo_lim hok (b := 100000) (by omega) xs.length
      refine AC.skip ?_
      refine AC.seq ?_
      refine AC.seq ?_
      refine AC.region ?_
      refine AO.yld _ (Yld.move rfl) rfl rfl rfl ?_
      refine AO.yld _ (Yld.move rfl) rfl rfl rfl ?_
      refine AO.yld _ (Yld.call rfl rfl Try.call127 rfl rfl rfl (spec_l25Late_c (by first | assumption | omega) (by assumption) (by omega) (by first | assumption | omega)) rfl) rfl rfl rfl ?_
      refine AO.yld _ (Yld.int rfl rfl rfl) rfl rfl rfl ?_
      refine AO.nil ?_
      refine AC.cond _ rfl (fun c21 => ?_) (fun c21 => ?_)
      · -- c21 True
        refine AC.seq ?_
        refine AC.region ?_
        refine AO.yld _ (Yld.assign rfl) rfl rfl rfl ?_
        refine AO.yld _ (Yld.assign rfl) rfl rfl rfl ?_
        refine AO.nil ?_
        refine Pure.retT Try.results65 (RVs.cons (RV.tmp rfl) (RVs.cons (RV.tmp rfl) RVs.nil)) rfl ?_
        first
          | (unfold leastBandwidth; simp only [if_neg hno])
          | (unfold leastBandwidth; simp only [if_pos hok, late_gt0 c21]; rfl)
          | (unfold leastBandwidth; rw [if_pos hok, if_pos (late_ngt0 c21), ← hr])
      · -- c21 False
        refine AC.skip ?_
        refine AC.seq ?_
        refine AC.region ?_
        refine AO.yld _ (Yld.assign rfl) rfl rfl rfl ?_
        refine AO.nil ?_
        refine AC.seq ?_
        refine AC.region ?_
        refine AO.yld _ (Yld.assign rfl) rfl rfl rfl ?_
        refine AO.nil ?_
        refine AC.seq ?_
        refine AC.block ?_
        refine AC.loopC2 [(0, _), (1, _), (4, _), (5, _)] [] (fun (l h : Int) => [(6, .p (.v (.int .i64 l))), (7, .p (.v (.int .i64 h)))]) (fun (l h : Int) => []) (fun (l h : Int) => halve (inTime ms xs) l h = halve (inTime ms xs) 1 100000 ∧ 1 ≤ l ∧ l ≤ h ∧ h ≤ 100000) (fun (l h : Int) => (h - l).toNat) 1 100000 ⟨rfl, rfl, rfl, rfl, trivial⟩ trivial ⟨rfl, rfl, trivial⟩ trivial ?_ (fun l h hJ => ?_)
        · exact ⟨rfl, by omega, by omega, by omega⟩
        · -- round
          refine AC.seq ?_
          refine AC.seq ?_
          refine AC.region ?_
          refine AO.yld _ (Yld.move rfl) rfl rfl rfl ?_
          refine AO.yld _ (Yld.move rfl) rfl rfl rfl ?_
          refine AO.yld _ (Yld.int rfl rfl rfl) rfl rfl rfl ?_
          refine AO.nil ?_
          refine AC.cond _ rfl (fun c24 => ?_) (fun c24 => ?_)
          · -- c24 True
            have hlh : l < h := by simpa using c24
            have hq : (l + h).tdiv 2 = (l + h) / 2 := Int.tdiv_eq_ediv_of_nonneg (by omega)
            refine AC.skip ?_
            refine AC.block ?_
            refine AC.seq ?_
            refine AC.region ?_
            refine AO.yld _ (Yld.move rfl) rfl rfl rfl ?_
            refine AO.yld _ (Yld.move rfl) rfl rfl rfl ?_
            refine AO.yld _ (Yld.add rfl rfl (by omega) (by omega)) rfl rfl rfl ?_
            refine AO.yld _ (Yld.quoP rfl rfl (by omega) (by omega) (by omega)) rfl rfl rfl ?_
            refine AO.yld _ (Yld.assign rfl) rfl rfl rfl ?_
            refine AO.nil ?_
            refine AC.seq ?_
            refine AC.region ?_
            refine AO.yld _ (Yld.move rfl) rfl rfl rfl ?_
            refine AO.yld _ (Yld.move rfl) rfl rfl rfl ?_
            refine AO.yld _ (Yld.move rfl) rfl rfl rfl ?_
            refine AO.yld _ (Yld.call rfl rfl Try.call127 rfl rfl rfl (spec_l25Late_c (by first | assumption | omega) (by assumption) (by omega) (by first | assumption | omega)) rfl) rfl rfl rfl ?_
            refine AO.yld _ (Yld.int rfl rfl rfl) rfl rfl rfl ?_
            refine AO.nil ?_
            refine AC.cond _ rfl (fun c33 => ?_) (fun c33 => ?_)
            · -- c33 True
              have hT : inTime ms xs ((l + h) / 2) = true := by have h9 := c33; rw [hq] at h9; exact late_in0 h9
              obtain ⟨nl, nh, hnl, hnh⟩ : ∃ a b : Int, a = l ∧ b = (l + h) / 2 := ⟨_, _, rfl, rfl⟩
              refine AC.region ?_
              refine AO.yld _ (Yld.move rfl) rfl rfl rfl ?_
              refine AO.yld _ (Yld.assign rfl) rfl rfl rfl ?_
              refine AO.nil ?_
              refine AC.mark ?_
              refine AC.back ⟨nl, nh, ?_, ?_, ⟨?_, ?_, trivial⟩, trivial, ⟨rfl, rfl, rfl, rfl, trivial⟩, trivial⟩
              · subst hnl hnh; first | exact ⟨(halve_T hlh hT).symm.trans hJ.1, by omega, by omega, by omega⟩ | exact ⟨(halve_F hlh hF).symm.trans hJ.1, by omega, by omega, by omega⟩
              · subst hnl hnh; omega
              · subst hnl hnh; first | rfl | (show some (AV.p (PV.v (Value.int IntKind.i64 _))) = _; rw [hq]; try rfl)
              · subst hnl hnh; first | rfl | (show some (AV.p (PV.v (Value.int IntKind.i64 _))) = _; rw [hq]; try rfl)
            · -- c33 False
              have hF : inTime ms xs ((l + h) / 2) = false := by have h9 := c33; rw [hq] at h9; exact late_out0 h9
              obtain ⟨nl, nh, hnl, hnh⟩ : ∃ a b : Int, a = (l + h) / 2 + 1 ∧ b = h := ⟨_, _, rfl, rfl⟩
              refine AC.region ?_
              refine AO.yld _ (Yld.move rfl) rfl rfl rfl ?_
              refine AO.yld _ (Yld.add rfl rfl (by omega) (by omega)) rfl rfl rfl ?_
              refine AO.yld _ (Yld.assign rfl) rfl rfl rfl ?_
              refine AO.nil ?_
              refine AC.mark ?_
              refine AC.back ⟨nl, nh, ?_, ?_, ⟨?_, ?_, trivial⟩, trivial, ⟨rfl, rfl, rfl, rfl, trivial⟩, trivial⟩
              · subst hnl hnh; first | exact ⟨(halve_T hlh hT).symm.trans hJ.1, by omega, by omega, by omega⟩ | exact ⟨(halve_F hlh hF).symm.trans hJ.1, by omega, by omega, by omega⟩
              · subst hnl hnh; omega
              · subst hnl hnh; first | rfl | (show some (AV.p (PV.v (Value.int IntKind.i64 _))) = _; rw [hq]; try rfl)
              · subst hnl hnh; first | rfl | (show some (AV.p (PV.v (Value.int IntKind.i64 _))) = _; rw [hq]; try rfl)
          · -- c24 False
            obtain rfl : l = h := by have h9 : ¬ l < h := (by simpa using c24); omega
            have hend := halve_end (p := inTime ms xs) (lo := l) (hi := l) (by omega)
            have hr : l = halve (inTime ms xs) 1 100000 := hend.symm.trans hJ.1
            refine AC.exit rfl ?_
            refine AC.seq ?_
            refine AC.region ?_
            refine AO.yld _ (Yld.move rfl) rfl rfl rfl ?_
            refine AO.yld _ (Yld.assign rfl) rfl rfl rfl ?_
            refine AO.yld _ (Yld.assign rfl) rfl rfl rfl ?_
            refine AO.nil ?_
            refine Pure.retT Try.results65 (RVs.cons (RV.tmp rfl) (RVs.cons (RV.tmp rfl) RVs.nil)) rfl ?_
            first
              | (unfold leastBandwidth; simp only [if_neg hno])
              | (unfold leastBandwidth; simp only [if_pos hok, late_gt0 c21]; rfl)
              | (unfold leastBandwidth; rw [if_pos hok, if_pos (late_ngt0 c21), ← hr])

theorem impl_LeastBandwidth_c {ms xs : List NV} (hm : ms.length ≤ 1048576) (hms : ∀ x ∈ ms, x.name.length ≤ 1048576) (hn : xs.length ≤ 1048576) (hs : ∀ x ∈ xs, x.name.length ≤ 1048576) :
    Pure Try.prog 66 [.sl 2 (ms.map encNV), .sl 2 (xs.map encNV)] (.tup [.v (.int .i64 (leastBandwidth ms xs).1), .v (.int .i64 (leastBandwidth ms xs).2)]) := by
  have hM : (xs.map encNV).length = xs.length := List.length_map ..
  refine Pure.intro Try.func66 rfl Try.ntmps66 rfl rfl (fun w => ?_)
  refine AC.seq ?_
  refine AC.region ?_
  refine AO.yld _ (Yld.assign rfl) rfl rfl rfl ?_
  refine AO.yld _ (Yld.assign rfl) rfl rfl rfl ?_
  refine AO.nil ?_
  refine AC.seq ?_
  refine AC.seq ?_
  refine AC.region ?_
  refine AO.yld _ (Yld.move rfl) rfl rfl rfl ?_
  refine AO.yld _ (Yld.move rfl) rfl rfl rfl ?_
  refine AO.yld _ (Yld.call rfl rfl Try.call32 rfl rfl rfl (impl_ValidNeeds_c (by first | assumption | omega) (by assumption) (by first | assumption | omega) (by assumption)) rfl) rfl rfl rfl ?_
  refine AO.yld _ (Yld.not rfl) rfl rfl rfl ?_
  refine AO.nil ?_
  refine AC.cond _ rfl (fun c12 => ?_) (fun c12 => ?_)
  · -- c12 True
    have hno : ¬ okNeeds ms xs = true := by intro h9; obtain ⟨h1, h2, h3⟩ := needs_ok h9; simp_all
    refine AC.seq ?_
    refine AC.region ?_
    refine AO.yld _ (Yld.assign rfl) rfl rfl rfl ?_
    refine AO.yld _ (Yld.assign rfl) rfl rfl rfl ?_
    refine AO.nil ?_
    refine Pure.retT Try.results66 (RVs.cons (RV.tmp rfl) (RVs.cons (RV.tmp rfl) RVs.nil)) rfl ?_
    first
      | (unfold leastBandwidth; simp only [if_neg hno])
      | (rw [least_nil hok (by have h := c15; rw [hM] at h; simpa using h)])
      | (rw [least_bad hok (by rw [← hr]; exact late_gt c35)])
      | (rw [least_good hok (by rw [← hr]; exact late_ngt c35), ← hr])
  · -- c12 False
    have hok : okNeeds ms xs = true := by first | (simpa using c12) | (unfold okNeeds; simp_all; done) | (unfold okNeeds; grind)
    have hokm := (needs_ok hok).1
    have hl16 := (needs_ok hok).2.2
    refine AC.skip ?_
    refine AC.seq ?_
    refine AC.seq ?_
    refine AC.region ?_
    refine AO.yld _ (Yld.move rfl) rfl rfl rfl ?_
    refine AO.yld _ (Yld.len Try.underlying48 rfl rfl) rfl rfl rfl ?_
    refine AO.yld _ (Yld.int rfl rfl rfl) rfl rfl rfl ?_
    refine AO.nil ?_
    refine AC.cond _ rfl (fun c15 => ?_) (fun c15 => ?_)
    · -- c15 True
      refine AC.seq ?_
      refine AC.region ?_
      refine AO.yld _ (Yld.assign rfl) rfl rfl rfl ?_
      refine AO.yld _ (Yld.assign rfl) rfl rfl rfl ?_
      refine AO.nil ?_
      refine Pure.retT Try.results66 (RVs.cons (RV.tmp rfl) (RVs.cons (RV.tmp rfl) RVs.nil)) rfl ?_
      first
        | (unfold leastBandwidth; simp only [if_neg hno])
        | (rw [least_nil hok (by have h := c15; rw [hM] at h; simpa using h)])
        | (rw [least_bad hok (by rw [← hr]; exact late_gt c35)])
        | (rw [least_good hok (by rw [← hr]; exact late_ngt c35), ← hr])
    · -- c15 False
      refine AC.skip ?_
      refine AC.seq ?_
      refine AC.region ?_
      refine AO.yld _ (Yld.assign rfl) rfl rfl rfl ?_
      refine AO.yld _ (Yld.assign rfl) rfl rfl rfl ?_
      refine AO.nil ?_
      refine AC.seq ?_
      refine AC.block ?_
      refine AC.loopC2 [(0, _), (1, _), (4, _), (5, _)] [] (fun (l h : Int) => [(6, .p (.v (.int .i64 l))), (7, .p (.v (.int .i64 h)))]) (fun (l h : Int) => []) (fun (l h : Int) => halve (inTime ms xs) l h = halve (inTime ms xs) 1 100000 ∧ 1 ≤ l ∧ l ≤ h ∧ h ≤ 100000) (fun (l h : Int) => (h - l).toNat) 1 100000 ⟨rfl, rfl, rfl, rfl, trivial⟩ trivial ⟨rfl, rfl, trivial⟩ trivial ?_ (fun l h hJ => ?_)
      · exact ⟨rfl, by omega, by omega, by omega⟩
      · -- round
        refine AC.seq ?_
        refine AC.seq ?_
        refine AC.region ?_
        refine AO.yld _ (Yld.move rfl) rfl rfl rfl ?_
        refine AO.yld _ (Yld.move rfl) rfl rfl rfl ?_
        refine AO.yld _ (Yld.int rfl rfl rfl) rfl rfl rfl ?_
        refine AO.nil ?_
        refine AC.cond _ rfl (fun c18 => ?_) (fun c18 => ?_)
        · -- c18 True
          have hlh : l < h := by simpa using c18
          have hq : (l + h).tdiv 2 = (l + h) / 2 := Int.tdiv_eq_ediv_of_nonneg (by omega)
          refine AC.skip ?_
          refine AC.block ?_
          refine AC.seq ?_
          refine AC.region ?_
          refine AO.yld _ (Yld.move rfl) rfl rfl rfl ?_
          refine AO.yld _ (Yld.move rfl) rfl rfl rfl ?_
          refine AO.yld _ (Yld.add rfl rfl (by omega) (by omega)) rfl rfl rfl ?_
          refine AO.yld _ (Yld.quoP rfl rfl (by omega) (by omega) (by omega)) rfl rfl rfl ?_
          refine AO.yld _ (Yld.assign rfl) rfl rfl rfl ?_
          refine AO.nil ?_
          refine AC.seq ?_
          refine AC.region ?_
          refine AO.yld _ (Yld.move rfl) rfl rfl rfl ?_
          refine AO.yld _ (Yld.move rfl) rfl rfl rfl ?_
          refine AO.yld _ (Yld.move rfl) rfl rfl rfl ?_
          refine AO.yld _ (Yld.call rfl rfl Try.call129 rfl rfl rfl (impl_lateness_c (by first | assumption | omega) (by assumption) (by omega) (by first | assumption | omega)) rfl) rfl rfl rfl ?_
          refine AO.yld _ (Yld.int rfl rfl rfl) rfl rfl rfl ?_
          refine AO.nil ?_
          refine AC.cond _ rfl (fun c27 => ?_) (fun c27 => ?_)
          · -- c27 True
            have hT : inTime ms xs ((l + h) / 2) = true := by have h9 := c27; rw [hq] at h9; exact late_in h9
            obtain ⟨nl, nh, hnl, hnh⟩ : ∃ a b : Int, a = l ∧ b = (l + h) / 2 := ⟨_, _, rfl, rfl⟩
            refine AC.region ?_
            refine AO.yld _ (Yld.move rfl) rfl rfl rfl ?_
            refine AO.yld _ (Yld.assign rfl) rfl rfl rfl ?_
            refine AO.nil ?_
            refine AC.mark ?_
            refine AC.back ⟨nl, nh, ?_, ?_, ⟨?_, ?_, trivial⟩, trivial, ⟨rfl, rfl, rfl, rfl, trivial⟩, trivial⟩
            · subst hnl hnh; first | exact ⟨(halve_T hlh hT).symm.trans hJ.1, by omega, by omega, by omega⟩ | exact ⟨(halve_F hlh hF).symm.trans hJ.1, by omega, by omega, by omega⟩
            · subst hnl hnh; omega
            · subst hnl hnh; first | rfl | (show some (AV.p (PV.v (Value.int IntKind.i64 _))) = _; rw [hq]; try rfl)
            · subst hnl hnh; first | rfl | (show some (AV.p (PV.v (Value.int IntKind.i64 _))) = _; rw [hq]; try rfl)
          · -- c27 False
            have hF : inTime ms xs ((l + h) / 2) = false := by have h9 := c27; rw [hq] at h9; exact late_out h9
            obtain ⟨nl, nh, hnl, hnh⟩ : ∃ a b : Int, a = (l + h) / 2 + 1 ∧ b = h := ⟨_, _, rfl, rfl⟩
            refine AC.region ?_
            refine AO.yld _ (Yld.move rfl) rfl rfl rfl ?_
            refine AO.yld _ (Yld.add rfl rfl (by omega) (by omega)) rfl rfl rfl ?_
            refine AO.yld _ (Yld.assign rfl) rfl rfl rfl ?_
            refine AO.nil ?_
            refine AC.mark ?_
            refine AC.back ⟨nl, nh, ?_, ?_, ⟨?_, ?_, trivial⟩, trivial, ⟨rfl, rfl, rfl, rfl, trivial⟩, trivial⟩
            · subst hnl hnh; first | exact ⟨(halve_T hlh hT).symm.trans hJ.1, by omega, by omega, by omega⟩ | exact ⟨(halve_F hlh hF).symm.trans hJ.1, by omega, by omega, by omega⟩
            · subst hnl hnh; omega
            · subst hnl hnh; first | rfl | (show some (AV.p (PV.v (Value.int IntKind.i64 _))) = _; rw [hq]; try rfl)
            · subst hnl hnh; first | rfl | (show some (AV.p (PV.v (Value.int IntKind.i64 _))) = _; rw [hq]; try rfl)
        · -- c18 False
          obtain rfl : l = h := by have h9 : ¬ l < h := (by simpa using c18); omega
          have hend := halve_end (p := inTime ms xs) (lo := l) (hi := l) (by omega)
          have hr : l = halve (inTime ms xs) 1 100000 := hend.symm.trans hJ.1
          refine AC.exit rfl ?_
          refine AC.seq ?_
          refine AC.seq ?_
          refine AC.region ?_
          refine AO.yld _ (Yld.move rfl) rfl rfl rfl ?_
          refine AO.yld _ (Yld.move rfl) rfl rfl rfl ?_
          refine AO.yld _ (Yld.move rfl) rfl rfl rfl ?_
          refine AO.yld _ (Yld.call rfl rfl Try.call129 rfl rfl rfl (impl_lateness_c (by first | assumption | omega) (by assumption) (by omega) (by first | assumption | omega)) rfl) rfl rfl rfl ?_
          refine AO.yld _ (Yld.int rfl rfl rfl) rfl rfl rfl ?_
          refine AO.nil ?_
          refine AC.cond _ rfl (fun c35 => ?_) (fun c35 => ?_)
          · -- c35 True
            refine AC.seq ?_
            refine AC.region ?_
            refine AO.yld _ (Yld.assign rfl) rfl rfl rfl ?_
            refine AO.yld _ (Yld.assign rfl) rfl rfl rfl ?_
            refine AO.nil ?_
            refine Pure.retT Try.results66 (RVs.cons (RV.tmp rfl) (RVs.cons (RV.tmp rfl) RVs.nil)) rfl ?_
            first
              | (unfold leastBandwidth; simp only [if_neg hno])
              | (rw [least_nil hok (by have h := c15; rw [hM] at h; simpa using h)])
              | (rw [least_bad hok (by rw [← hr]; exact late_gt c35)])
              | (rw [least_good hok (by rw [← hr]; exact late_ngt c35), ← hr])
          · -- c35 False
            refine AC.skip ?_
            refine AC.seq ?_
            refine AC.region ?_
            refine AO.yld _ (Yld.move rfl) rfl rfl rfl ?_
            refine AO.yld _ (Yld.assign rfl) rfl rfl rfl ?_
            refine AO.yld _ (Yld.assign rfl) rfl rfl rfl ?_
            refine AO.nil ?_
            refine Pure.retT Try.results66 (RVs.cons (RV.tmp rfl) (RVs.cons (RV.tmp rfl) RVs.nil)) rfl ?_
            first
              | (unfold leastBandwidth; simp only [if_neg hno])
              | (rw [least_nil hok (by have h := c15; rw [hM] at h; simpa using h)])
              | (rw [least_bad hok (by rw [← hr]; exact late_gt c35)])
              | (rw [least_good hok (by rw [← hr]; exact late_ngt c35), ← hr])

end Go.Proofs.Ytaanabofedickaa
