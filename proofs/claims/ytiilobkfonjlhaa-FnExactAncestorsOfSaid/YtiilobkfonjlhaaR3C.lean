/- Contracts of functions of the program, each by a walk of its text in the calculus V. -/
import Derived.Test.YtiilobkfonjlhaaR3B
set_option linter.all false
set_option linter.unusedSimpArgs false
set_option linter.unnecessarySimpa false
set_option linter.unusedVariables false
namespace Go.Proofs.Ytiilobkfonjlhaa
open Go Go.V

theorem spec_l13Time_c {n : Int} :
    Pure Try.prog 157 [.v (.int .i64 n)] (.v (.bool (decide (0 ≤ n) && decide (n ≤ 7200000)))) := by
  refine Pure.intro Try.func157 rfl Try.ntmps157 rfl rfl (fun w => ?_)
  refine AC.seq ?_
  refine AC.region ?_
  refine AO.yld _ (Yld.assign rfl) rfl rfl rfl ?_
  refine AO.nil ?_
  refine AC.seq ?_
  refine AC.region ?_
  refine AO.yld _ (Yld.move rfl) rfl rfl rfl ?_
  refine AO.yld _ (Yld.call rfl rfl Try.call77 rfl rfl rfl (spec_l00In_c) rfl) rfl rfl rfl ?_
  refine AO.yld _ (Yld.assign rfl) rfl rfl rfl ?_
  refine AO.nil ?_
  refine Pure.ret Try.results157 (RVs.cons (RV.tmp rfl) RVs.nil) rfl ?_
  first | rfl | (simp_all; done) | (simp_all; intros; omega) | grind

theorem spec_l25Needs_c {ms xs : List NV} (hm : ms.length ≤ 1048576) (hms : ∀ x ∈ ms, x.name.length ≤ 1048576) (hn : xs.length ≤ 1048576) (hs : ∀ x ∈ xs, x.name.length ≤ 1048576) :
    Pure Try.prog 137 [.sl 2 (ms.map encNV), .sl 2 (xs.map encNV)] (.v (.bool (allI (okNeed ms xs) xs && decide (xs.length ≤ 16)))) := by
  have hM : (xs.map encNV).length = xs.length := List.length_map ..
  refine Pure.intro Try.func137 rfl Try.ntmps137 rfl rfl (fun w => ?_)
  refine AC.seq ?_
  refine AC.region ?_
  refine AO.yld _ (Yld.assign rfl) rfl rfl rfl ?_
  refine AO.nil ?_
  refine AC.seq ?_
  refine AC.seq ?_
  refine AC.region ?_
  refine AO.yld _ (Yld.assign rfl) rfl rfl rfl ?_
  refine AO.nil ?_
  refine AC.block ?_
  refine AC.loopC [(0, _), (1, _)] [] (fun (k : Nat) => [(5, .p (.v (.int .i64 (k : Int))))]) (fun (k : Nat) => []) (fun (k : Nat) => k ≤ xs.length ∧ allITo (okNeed ms xs) xs k = true) (fun (k : Nat) => xs.length - k) 0 ⟨rfl, rfl, trivial⟩ trivial ⟨rfl, trivial⟩ trivial ?_ (fun k hJ => ?_)
  · exact ⟨Nat.zero_le _, rfl⟩
  · -- round
    refine AC.seq ?_
    refine AC.seq ?_
    refine AC.region ?_
    refine AO.yld _ (Yld.move rfl) rfl rfl rfl ?_
    refine AO.yld _ (Yld.move rfl) rfl rfl rfl ?_
    refine AO.yld _ (Yld.len Try.underlying57 rfl rfl) rfl rfl rfl ?_
    refine AO.yld _ (Yld.int rfl rfl rfl) rfl rfl rfl ?_
    refine AO.nil ?_
    refine AC.cond _ rfl (fun c10 => ?_) (fun c10 => ?_)
    · -- c10 True
      have hk := lt_of_decM c10
      obtain ⟨x, hx⟩ := get_some hk
      have hrow := map_row (enc := encNV) hx
      obtain ⟨z, hz⟩ := get_some (xs := xs) (k := k - 1) (by omega)
      have hrowz := map_row (enc := encNV) hz
      refine AC.skip ?_
      refine AC.seq ?_
      refine AC.block ?_
      refine AC.seq ?_
      refine AC.seq ?_
      refine AC.draw (by kernel_rfl) (by kernel_rfl) ?_
      refine AO.yld _ (Yld.move rfl) rfl rfl rfl ?_
      refine AO.yld _ (Yld.move rfl) rfl rfl rfl ?_
      refine AO.yld _ (Yld.move rfl) rfl rfl rfl ?_
      refine AO.yld _ (Yld.indexSl Try.underlying57 Try.sizeOf126 rfl rfl hrow rfl) rfl rfl rfl ?_
      refine AO.yld _ (Yld.fieldAddr Try.underlying126 rfl rfl Try.sizeOf9 rfl rfl rfl) rfl rfl rfl ?_
      refine AO.yld _ (Yld.load Try.isAgg9 rfl rfl) rfl rfl rfl ?_
      refine AO.yld _ (Yld.call rfl rfl Try.call106 rfl rfl rfl (spec_l25Size_c (by first | assumption | omega)) rfl) rfl rfl rfl ?_
      refine AO.yld _ (Yld.int rfl rfl rfl) rfl rfl rfl ?_
      refine AO.yld _ (Yld.move rfl) rfl rfl rfl ?_
      refine AO.splitAt 21 _ rfl (fun s21 => ?_) (fun s21 => ?_)
      · -- s21 True
        refine AO.skipF rfl rfl rfl rfl rfl ?_
        refine AO.skipF rfl rfl rfl rfl rfl ?_
        refine AO.skipF rfl rfl rfl rfl rfl ?_
        refine AO.skipF rfl rfl rfl rfl rfl ?_
        refine AO.skipF rfl rfl rfl rfl rfl ?_
        refine AO.skipF rfl rfl rfl rfl rfl ?_
        refine AO.skipF rfl rfl rfl rfl rfl ?_
        refine AO.yld _ (Yld.pickT rfl rfl) rfl rfl rfl ?_
        refine AO.yld _ (Yld.move rfl) rfl rfl rfl ?_
        refine AO.skipF rfl rfl rfl rfl rfl ?_
        refine AO.skipF rfl rfl rfl rfl rfl ?_
        refine AO.skipF rfl rfl rfl rfl rfl ?_
        refine AO.skipU rfl rfl rfl rfl rfl ?_
        refine AO.skipU rfl rfl rfl rfl rfl ?_
        refine AO.skipU rfl rfl rfl rfl rfl ?_
        refine AO.skipU rfl rfl rfl rfl rfl ?_
        refine AO.skipU rfl rfl rfl rfl rfl ?_
        refine AO.skipU rfl rfl rfl rfl rfl ?_
        refine AO.skipU rfl rfl rfl rfl rfl ?_
        refine AO.skipU rfl rfl rfl rfl rfl ?_
        refine AO.skipU rfl rfl rfl rfl rfl ?_
        refine AO.skipU rfl rfl rfl rfl rfl ?_
        refine AO.skipU rfl rfl rfl rfl rfl ?_
        refine AO.skipU rfl rfl rfl rfl rfl ?_
        refine AO.skipF rfl rfl rfl rfl rfl ?_
        refine AO.yld _ (Yld.pickT rfl rfl) rfl rfl rfl ?_
        refine AO.nil ?_
        refine AC.condT rfl ?_
        refine AC.seq ?_
        refine AC.region ?_
        refine AO.yld _ (Yld.assign rfl) rfl rfl rfl ?_
        refine AO.nil ?_
        refine Pure.ret Try.results137 (RVs.cons (RV.tmp rfl) RVs.nil) rfl ?_
        first
          | (refine cb ?_; rw [allI_take hJ.2, Bool.true_and, hM]; exact decide_eq_decide.2 (by omega))
          | (refine cb ?_; have h9 := any_take hj hy (p := nameIs x.name) (by simpa [nameIs] using c63); rw [allI_miss hx (by simp only [okNeed, h9]; simp), Bool.false_and])
          | (refine cb ?_; rw [allI_miss hx (by simp only [okNeed, hz]; first | grind | (simp_all; done)), Bool.false_and])
      · -- s21 False
        refine AO.yldG _ (Yld.move rfl) rfl rfl rfl rfl rfl ?_
        refine AO.yldG _ (Yld.move rfl) rfl rfl rfl rfl rfl ?_
        refine AO.yldG _ (Yld.indexSl Try.underlying57 Try.sizeOf126 rfl rfl hrow rfl) rfl rfl rfl rfl rfl ?_
        refine AO.yldG _ (Yld.fieldAddr Try.underlying126 rfl rfl Try.sizeOf2 rfl rfl rfl) rfl rfl rfl rfl rfl ?_
        refine AO.yldG _ (Yld.load Try.isAgg2 rfl rfl) rfl rfl rfl rfl rfl ?_
        refine AO.yldG _ (Yld.call rfl rfl Try.call157 rfl rfl rfl (spec_l13Time_c) rfl) rfl rfl rfl rfl rfl ?_
        refine AO.yldG _ (Yld.not rfl) rfl rfl rfl rfl rfl ?_
        refine AO.yld _ (Yld.pickF rfl rfl) rfl rfl rfl ?_
        refine AO.yld _ (Yld.move rfl) rfl rfl rfl ?_
        refine AO.splitAt 30 _ rfl (fun s30 => ?_) (fun s30 => ?_)
        · -- s30 True
          refine AO.skipF rfl rfl rfl rfl rfl ?_
          refine AO.skipF rfl rfl rfl rfl rfl ?_
          refine AO.skipF rfl rfl rfl rfl rfl ?_
          refine AO.skipU rfl rfl rfl rfl rfl ?_
          refine AO.skipU rfl rfl rfl rfl rfl ?_
          refine AO.skipU rfl rfl rfl rfl rfl ?_
          refine AO.skipU rfl rfl rfl rfl rfl ?_
          refine AO.skipU rfl rfl rfl rfl rfl ?_
          refine AO.skipU rfl rfl rfl rfl rfl ?_
          refine AO.skipU rfl rfl rfl rfl rfl ?_
          refine AO.skipU rfl rfl rfl rfl rfl ?_
          refine AO.skipU rfl rfl rfl rfl rfl ?_
          refine AO.skipU rfl rfl rfl rfl rfl ?_
          refine AO.skipU rfl rfl rfl rfl rfl ?_
          refine AO.skipU rfl rfl rfl rfl rfl ?_
          refine AO.skipF rfl rfl rfl rfl rfl ?_
          refine AO.yld _ (Yld.pickT rfl rfl) rfl rfl rfl ?_
          refine AO.nil ?_
          refine AC.condT rfl ?_
          refine AC.seq ?_
          refine AC.region ?_
          refine AO.yld _ (Yld.assign rfl) rfl rfl rfl ?_
          refine AO.nil ?_
          refine Pure.ret Try.results137 (RVs.cons (RV.tmp rfl) RVs.nil) rfl ?_
          first
            | (refine cb ?_; rw [allI_take hJ.2, Bool.true_and, hM]; exact decide_eq_decide.2 (by omega))
            | (refine cb ?_; have h9 := any_take hj hy (p := nameIs x.name) (by simpa [nameIs] using c63); rw [allI_miss hx (by simp only [okNeed, h9]; simp), Bool.false_and])
            | (refine cb ?_; rw [allI_miss hx (by simp only [okNeed, hz]; first | grind | (simp_all; done)), Bool.false_and])
        · -- s30 False
          refine AO.yldG _ (Yld.move rfl) rfl rfl rfl rfl rfl ?_
          refine AO.yldG _ (Yld.int rfl rfl rfl) rfl rfl rfl rfl rfl ?_
          refine AO.yldG _ (Yld.move rfl) rfl rfl rfl rfl rfl ?_
          refine AO.splitAt 33 _ rfl (fun s33 => ?_) (fun s33 => ?_)
          · -- s33 True
            have hk0 : 0 < k := by simpa using s33
            refine AO.yldG _ (Yld.move rfl) rfl rfl rfl rfl rfl ?_
            refine AO.yldG _ (Yld.move rfl) rfl rfl rfl rfl rfl ?_
            refine AO.yldG _ (Yld.sub rfl rfl (by omega) (by omega)) rfl rfl rfl rfl rfl ?_
            refine AO.yldG _ (Yld.indexSl Try.underlying57 Try.sizeOf126 rfl rfl hrowz (by omega)) rfl rfl rfl rfl rfl ?_
            refine AO.yldG _ (Yld.fieldAddr Try.underlying126 rfl rfl Try.sizeOf2 rfl rfl rfl) rfl rfl rfl rfl rfl ?_
            refine AO.yldG _ (Yld.load Try.isAgg2 rfl rfl) rfl rfl rfl rfl rfl ?_
            refine AO.yldG _ (Yld.move rfl) rfl rfl rfl rfl rfl ?_
            refine AO.yldG _ (Yld.move rfl) rfl rfl rfl rfl rfl ?_
            refine AO.yldG _ (Yld.indexSl Try.underlying57 Try.sizeOf126 rfl rfl hrow rfl) rfl rfl rfl rfl rfl ?_
            refine AO.yldG _ (Yld.fieldAddr Try.underlying126 rfl rfl Try.sizeOf2 rfl rfl rfl) rfl rfl rfl rfl rfl ?_
            refine AO.yldG _ (Yld.load Try.isAgg2 rfl rfl) rfl rfl rfl rfl rfl ?_
            refine AO.yldG _ (Yld.int rfl rfl rfl) rfl rfl rfl rfl rfl ?_
            refine AO.yldG _ (Yld.pickT rfl rfl) rfl rfl rfl rfl rfl ?_
            refine AO.yld _ (Yld.pickF rfl rfl) rfl rfl rfl ?_
            refine AO.nil ?_
            refine AC.cond _ rfl (fun c47 => ?_) (fun c47 => ?_)
            · -- c47 True
              refine AC.seq ?_
              refine AC.region ?_
              refine AO.yld _ (Yld.assign rfl) rfl rfl rfl ?_
              refine AO.nil ?_
              refine Pure.ret Try.results137 (RVs.cons (RV.tmp rfl) RVs.nil) rfl ?_
              first
                | (refine cb ?_; rw [allI_take hJ.2, Bool.true_and, hM]; exact decide_eq_decide.2 (by omega))
                | (refine cb ?_; have h9 := any_take hj hy (p := nameIs x.name) (by simpa [nameIs] using c63); rw [allI_miss hx (by simp only [okNeed, h9]; simp), Bool.false_and])
                | (refine cb ?_; rw [allI_miss hx (by simp only [okNeed, hz]; first | grind | (simp_all; done)), Bool.false_and])
            · -- c47 False
              refine AC.skip ?_
              refine AC.seq ?_
              refine AC.region ?_
              refine AO.yld _ (Yld.assign rfl) rfl rfl rfl ?_
              refine AO.nil ?_
              refine AC.block ?_
              refine AC.loopC [(0, _), (1, _), (5, _)] [] (fun (j : Nat) => [(6, .p (.v (.int .i64 (j : Int))))]) (fun (j : Nat) => []) (fun (j : Nat) => j ≤ k ∧ (xs.take j).any (nameIs x.name) = false) (fun (j : Nat) => k - j) 0 ⟨rfl, rfl, rfl, trivial⟩ trivial ⟨rfl, trivial⟩ trivial ?_ (fun j hI => ?_)
              · exact ⟨Nat.zero_le _, rfl⟩
              · -- round
                refine AC.seq ?_
                refine AC.seq ?_
                refine AC.region ?_
                refine AO.yld _ (Yld.move rfl) rfl rfl rfl ?_
                refine AO.yld _ (Yld.move rfl) rfl rfl rfl ?_
                refine AO.yld _ (Yld.int rfl rfl rfl) rfl rfl rfl ?_
                refine AO.nil ?_
                refine AC.cond _ rfl (fun c50 => ?_) (fun c50 => ?_)
                · -- c50 True
                  have hj : j < k := by simpa using c50
                  obtain ⟨y, hy⟩ := get_some (xs := xs) (k := j) (by omega)
                  have hrowy := map_row (enc := encNV) hy
                  refine AC.skip ?_
                  refine AC.seq ?_
                  refine AC.block ?_
                  refine AC.seq ?_
                  refine AC.draw (by kernel_rfl) (by kernel_rfl) ?_
                  refine AO.yld _ (Yld.move rfl) rfl rfl rfl ?_
                  refine AO.yld _ (Yld.move rfl) rfl rfl rfl ?_
                  refine AO.yld _ (Yld.indexSl Try.underlying57 Try.sizeOf126 rfl rfl hrowy rfl) rfl rfl rfl ?_
                  refine AO.yld _ (Yld.fieldAddr Try.underlying126 rfl rfl Try.sizeOf9 rfl rfl rfl) rfl rfl rfl ?_
                  refine AO.yld _ (Yld.load Try.isAgg9 rfl rfl) rfl rfl rfl ?_
                  refine AO.yld _ (Yld.move rfl) rfl rfl rfl ?_
                  refine AO.yld _ (Yld.move rfl) rfl rfl rfl ?_
                  refine AO.yld _ (Yld.indexSl Try.underlying57 Try.sizeOf126 rfl rfl hrow rfl) rfl rfl rfl ?_
                  refine AO.yld _ (Yld.fieldAddr Try.underlying126 rfl rfl Try.sizeOf9 rfl rfl rfl) rfl rfl rfl ?_
                  refine AO.yld _ (Yld.load Try.isAgg9 rfl rfl) rfl rfl rfl ?_
                  refine AO.yld _ (Yld.cmpStr rfl rfl rfl) rfl rfl rfl ?_
                  refine AO.nil ?_
                  refine AC.cond _ rfl (fun c63 => ?_) (fun c63 => ?_)
                  · -- c63 True
                    refine AC.seq ?_
                    refine AC.region ?_
                    refine AO.yld _ (Yld.assign rfl) rfl rfl rfl ?_
                    refine AO.nil ?_
                    refine Pure.ret Try.results137 (RVs.cons (RV.tmp rfl) RVs.nil) rfl ?_
                    first
                      | (refine cb ?_; rw [allI_take hJ.2, Bool.true_and, hM]; exact decide_eq_decide.2 (by omega))
                      | (refine cb ?_; have h9 := any_take hj hy (p := nameIs x.name) (by simpa [nameIs] using c63); rw [allI_miss hx (by simp only [okNeed, h9]; simp), Bool.false_and])
                      | (refine cb ?_; rw [allI_miss hx (by simp only [okNeed, hz]; first | grind | (simp_all; done)), Bool.false_and])
                  · -- c63 False
                    refine AC.skip ?_
                    refine AC.mark ?_
                    refine AC.region ?_
                    refine AO.yld _ (Yld.move rfl) rfl rfl rfl ?_
                    refine AO.yld _ (Yld.add rfl rfl (by omega) (by omega)) rfl rfl rfl ?_
                    refine AO.yld _ (Yld.assign rfl) rfl rfl rfl ?_
                    refine AO.nil ?_
                    refine AC.back ⟨j + 1, ?_, ?_, ⟨?_, trivial⟩, trivial, ⟨rfl, rfl, rfl, trivial⟩, trivial⟩
                    · exact ⟨hj, by rw [take_snoc hy, List.any_append, hI.2]; simp only [List.any_cons, List.any_nil, Bool.false_or, Bool.or_false, nameIs]; simpa using c63⟩
                    · omega
                    · rfl
                · -- c50 False
                  have hjk : k ≤ j := by simpa using c50
                  refine AC.exit rfl ?_
                  refine AC.mark ?_
                  refine AC.region ?_
                  refine AO.yld _ (Yld.move rfl) rfl rfl rfl ?_
                  refine AO.yld _ (Yld.add rfl rfl (by omega) (by omega)) rfl rfl rfl ?_
                  refine AO.yld _ (Yld.assign rfl) rfl rfl rfl ?_
                  refine AO.nil ?_
                  refine AC.back ⟨k + 1, ?_, ?_, ⟨?_, trivial⟩, trivial, ⟨rfl, rfl, trivial⟩, trivial⟩
                  · exact ⟨hk, by rw [allITo_succ hx, hJ.2, Bool.true_and]; obtain rfl : j = k := (by omega); have h9 := hI.2; exact (by simp only [okNeed, hz]; first | grind | (simp_all; done))⟩
                  · omega
                  · rfl
          · -- s33 False
            refine AO.skipT rfl rfl rfl rfl rfl ?_
            refine AO.skipT rfl rfl rfl rfl rfl ?_
            refine AO.skipT rfl rfl rfl rfl rfl ?_
            refine AO.skipT rfl rfl rfl rfl rfl ?_
            refine AO.skipT rfl rfl rfl rfl rfl ?_
            refine AO.skipT rfl rfl rfl rfl rfl ?_
            refine AO.skipT rfl rfl rfl rfl rfl ?_
            refine AO.skipT rfl rfl rfl rfl rfl ?_
            refine AO.skipT rfl rfl rfl rfl rfl ?_
            refine AO.skipT rfl rfl rfl rfl rfl ?_
            refine AO.skipT rfl rfl rfl rfl rfl ?_
            refine AO.skipT rfl rfl rfl rfl rfl ?_
            refine AO.yldG _ (Yld.pickF rfl rfl) rfl rfl rfl rfl rfl ?_
            refine AO.yld _ (Yld.pickF rfl rfl) rfl rfl rfl ?_
            refine AO.nil ?_
            refine AC.condF rfl ?_
            refine AC.skip ?_
            refine AC.seq ?_
            refine AC.region ?_
            refine AO.yld _ (Yld.assign rfl) rfl rfl rfl ?_
            refine AO.nil ?_
            refine AC.block ?_
            refine AC.loopC [(0, _), (1, _), (5, _)] [] (fun (j : Nat) => [(6, .p (.v (.int .i64 (j : Int))))]) (fun (j : Nat) => []) (fun (j : Nat) => j ≤ k ∧ (xs.take j).any (nameIs x.name) = false) (fun (j : Nat) => k - j) 0 ⟨rfl, rfl, rfl, trivial⟩ trivial ⟨rfl, trivial⟩ trivial ?_ (fun j hI => ?_)
            · exact ⟨Nat.zero_le _, rfl⟩
            · -- round
              refine AC.seq ?_
              refine AC.seq ?_
              refine AC.region ?_
              refine AO.yld _ (Yld.move rfl) rfl rfl rfl ?_
              refine AO.yld _ (Yld.move rfl) rfl rfl rfl ?_
              refine AO.yld _ (Yld.int rfl rfl rfl) rfl rfl rfl ?_
              refine AO.nil ?_
              refine AC.cond _ rfl (fun c50 => ?_) (fun c50 => ?_)
              · -- c50 True
                have hj : j < k := by simpa using c50
                obtain ⟨y, hy⟩ := get_some (xs := xs) (k := j) (by omega)
                have hrowy := map_row (enc := encNV) hy
                refine AC.skip ?_
                refine AC.seq ?_
                refine AC.block ?_
                refine AC.seq ?_
                refine AC.draw (by kernel_rfl) (by kernel_rfl) ?_
                refine AO.yld _ (Yld.move rfl) rfl rfl rfl ?_
                refine AO.yld _ (Yld.move rfl) rfl rfl rfl ?_
                refine AO.yld _ (Yld.indexSl Try.underlying57 Try.sizeOf126 rfl rfl hrowy rfl) rfl rfl rfl ?_
                refine AO.yld _ (Yld.fieldAddr Try.underlying126 rfl rfl Try.sizeOf9 rfl rfl rfl) rfl rfl rfl ?_
                refine AO.yld _ (Yld.load Try.isAgg9 rfl rfl) rfl rfl rfl ?_
                refine AO.yld _ (Yld.move rfl) rfl rfl rfl ?_
                refine AO.yld _ (Yld.move rfl) rfl rfl rfl ?_
                refine AO.yld _ (Yld.indexSl Try.underlying57 Try.sizeOf126 rfl rfl hrow rfl) rfl rfl rfl ?_
                refine AO.yld _ (Yld.fieldAddr Try.underlying126 rfl rfl Try.sizeOf9 rfl rfl rfl) rfl rfl rfl ?_
                refine AO.yld _ (Yld.load Try.isAgg9 rfl rfl) rfl rfl rfl ?_
                refine AO.yld _ (Yld.cmpStr rfl rfl rfl) rfl rfl rfl ?_
                refine AO.nil ?_
                refine AC.cond _ rfl (fun c63 => ?_) (fun c63 => ?_)
                · -- c63 True
                  refine AC.seq ?_
                  refine AC.region ?_
                  refine AO.yld _ (Yld.assign rfl) rfl rfl rfl ?_
                  refine AO.nil ?_
                  refine Pure.ret Try.results137 (RVs.cons (RV.tmp rfl) RVs.nil) rfl ?_
                  first
                    | (refine cb ?_; rw [allI_take hJ.2, Bool.true_and, hM]; exact decide_eq_decide.2 (by omega))
                    | (refine cb ?_; have h9 := any_take hj hy (p := nameIs x.name) (by simpa [nameIs] using c63); rw [allI_miss hx (by simp only [okNeed, h9]; simp), Bool.false_and])
                    | (refine cb ?_; rw [allI_miss hx (by simp only [okNeed, hz]; first | grind | (simp_all; done)), Bool.false_and])
                · -- c63 False
                  refine AC.skip ?_
                  refine AC.mark ?_
                  refine AC.region ?_
                  refine AO.yld _ (Yld.move rfl) rfl rfl rfl ?_
                  refine AO.yld _ (Yld.add rfl rfl (by omega) (by omega)) rfl rfl rfl ?_
                  refine AO.yld _ (Yld.assign rfl) rfl rfl rfl ?_
                  refine AO.nil ?_
                  refine AC.back ⟨j + 1, ?_, ?_, ⟨?_, trivial⟩, trivial, ⟨rfl, rfl, rfl, trivial⟩, trivial⟩
                  · exact ⟨hj, by rw [take_snoc hy, List.any_append, hI.2]; simp only [List.any_cons, List.any_nil, Bool.false_or, Bool.or_false, nameIs]; simpa using c63⟩
                  · omega
                  · rfl
              · -- c50 False
                have hjk : k ≤ j := by simpa using c50
                refine AC.exit rfl ?_
                refine AC.mark ?_
                refine AC.region ?_
                refine AO.yld _ (Yld.move rfl) rfl rfl rfl ?_
                refine AO.yld _ (Yld.add rfl rfl (by omega) (by omega)) rfl rfl rfl ?_
                refine AO.yld _ (Yld.assign rfl) rfl rfl rfl ?_
                refine AO.nil ?_
                refine AC.back ⟨k + 1, ?_, ?_, ⟨?_, trivial⟩, trivial, ⟨rfl, rfl, trivial⟩, trivial⟩
                · exact ⟨hk, by rw [allITo_succ hx, hJ.2, Bool.true_and]; obtain rfl : j = k := (by omega); have h9 := hI.2; exact (by simp only [okNeed, hz]; first | grind | (simp_all; done))⟩
                · omega
                · rfl
    · -- c10 False
      obtain rfl : k = xs.length := by have := ge_of_decM c10; omega
      refine AC.exit rfl ?_
      refine AC.seq ?_
      refine AC.region ?_
      refine AO.yld _ (Yld.move rfl) rfl rfl rfl ?_
      refine AO.yld _ (Yld.len Try.underlying57 rfl rfl) rfl rfl rfl ?_
      refine AO.yld _ (Yld.int rfl rfl rfl) rfl rfl rfl ?_
      refine AO.yld _ (Yld.assign rfl) rfl rfl rfl ?_
      refine AO.nil ?_
      refine Pure.ret Try.results137 (RVs.cons (RV.tmp rfl) RVs.nil) rfl ?_
      first
        | (refine cb ?_; rw [allI_take hJ.2, Bool.true_and, hM]; exact decide_eq_decide.2 (by omega))
        | (refine cb ?_; have h9 := any_take hj hy (p := nameIs x.name) (by simpa [nameIs] using c63); rw [allI_miss hx (by simp only [okNeed, h9]; simp), Bool.false_and])
        | (refine cb ?_; rw [allI_miss hx (by simp only [okNeed, hz]; first | grind | (simp_all; done)), Bool.false_and])

theorem indexFuncNeed_c {xs : List NV} {f : FuncId} {caps : List PV} {p : NV → Bool} (hn : xs.length ≤ 1048576) (hf : Enters Try.prog f) (hp : ∀ x ∈ xs, Pure Try.prog f (.agg (encNV x) :: caps) (.v (.bool (p x)))) :
    Pure Try.prog 169 [.sl 2 (xs.map encNV), .clo f caps] (.v (.int .i64 (idxOf p xs))) := by
  refine Pure.intro Try.func169 rfl Try.ntmps169 rfl rfl (fun w => ?_)
  refine AC.seq ?_
  refine AC.region ?_
  refine AO.yld _ (Yld.assign rfl) rfl rfl rfl ?_
  refine AO.nil ?_
  refine AC.seq ?_
  refine AC.seq ?_
  refine AC.region ?_
  refine AO.yld _ (Yld.move rfl) rfl rfl rfl ?_
  refine AO.yld _ (Yld.len Try.underlying57 rfl rfl) rfl rfl rfl ?_
  refine AO.yld _ (Yld.move rfl) rfl rfl rfl ?_
  refine AO.nil ?_
  refine AC.block ?_
  refine AC.loopC [(0, _), (1, _), (7, _)] [] (fun (k : Nat) => [(8, .p (.v (.int .i64 (k : Int))))]) (fun (k : Nat) => []) (fun (k : Nat) => k ≤ xs.length ∧ anyTo p xs k = false) (fun (k : Nat) => xs.length - k) 0 ⟨rfl, rfl, rfl, trivial⟩ trivial ⟨rfl, trivial⟩ trivial ?_ (fun k hJ => ?_)
  · exact ⟨Nat.zero_le _, rfl⟩
  · -- round
    refine AC.seq ?_
    refine AC.region ?_
    refine AO.yld _ (Yld.int rfl rfl rfl) rfl rfl rfl ?_
    refine AO.nil ?_
    refine AC.seq ?_
    refine AC.cond _ rfl (fun c9 => ?_) (fun c9 => ?_)
    · -- c9 True
      have hk := lt_of_decM c9
      obtain ⟨x, hx⟩ := get_some hk
      have hrow := map_row (enc := encNV) hx
      refine AC.skip ?_
      refine AC.seq ?_
      refine AC.block ?_
      refine AC.seq ?_
      refine AC.region ?_
      refine AO.yld _ (Yld.move rfl) rfl rfl rfl ?_
      refine AO.yld _ (Yld.assign rfl) rfl rfl rfl ?_
      refine AO.nil ?_
      refine AC.seq ?_
      refine AC.region ?_
      refine AO.yld _ (Yld.move rfl) rfl rfl rfl ?_
      refine AO.yld _ (Yld.move rfl) rfl rfl rfl ?_
      refine AO.yld _ (Yld.move rfl) rfl rfl rfl ?_
      refine AO.yld _ (Yld.indexSl Try.underlying57 Try.sizeOf126 rfl rfl hrow rfl) rfl rfl rfl ?_
      refine AO.yld _ (Yld.loadAgg Try.isAgg126 Try.sizeOf126 rfl rfl rfl rfl) rfl rfl rfl ?_
      refine AO.yld _ (Yld.call rfl rfl hf rfl rfl (viewL_p _) (hp x (List.mem_of_getElem? hx)) rfl) rfl rfl rfl ?_
      refine AO.nil ?_
      refine AC.cond _ rfl (fun c16 => ?_) (fun c16 => ?_)
      · -- c16 True
        refine AC.seq ?_
        refine AC.region ?_
        refine AO.yld _ (Yld.move rfl) rfl rfl rfl ?_
        refine AO.yld _ (Yld.assign rfl) rfl rfl rfl ?_
        refine AO.nil ?_
        refine Pure.ret Try.results169 (RVs.cons (RV.tmp rfl) RVs.nil) rfl ?_
        first
          | exact ci (idx_hit hJ.2 hx (by simpa using c16))
          | exact ci (idx_miss hJ.2)
      · -- c16 False
        refine AC.skip ?_
        refine AC.mark ?_
        refine AC.region ?_
        refine AO.yld _ (Yld.add rfl rfl (by omega) (by omega)) rfl rfl rfl ?_
        refine AO.yld _ (Yld.move rfl) rfl rfl rfl ?_
        refine AO.nil ?_
        refine AC.back ⟨k + 1, ?_, ?_, ⟨?_, trivial⟩, trivial, ⟨rfl, rfl, rfl, trivial⟩, trivial⟩
        · exact ⟨hk, by rw [anyTo_succ hx, hJ.2]; simpa using c16⟩
        · omega
        · rfl
    · -- c9 False
      obtain rfl : k = xs.length := by have := ge_of_decM c9; omega
      refine AC.exit rfl ?_
      refine AC.seq ?_
      refine AC.region ?_
      refine AO.yld _ (Yld.assign rfl) rfl rfl rfl ?_
      refine AO.nil ?_
      refine Pure.ret Try.results169 (RVs.cons (RV.tmp rfl) RVs.nil) rfl ?_
      first
        | exact ci (idx_hit hJ.2 hx (by simpa using c16))
        | exact ci (idx_miss hJ.2)

theorem containsFuncNeed_c {xs : List NV} {f : FuncId} {caps : List PV} {p : NV → Bool} (hn : xs.length ≤ 1048576) (hf : Enters Try.prog f) (hp : ∀ x ∈ xs, Pure Try.prog f (.agg (encNV x) :: caps) (.v (.bool (p x)))) :
    Pure Try.prog 159 [.sl 2 (xs.map encNV), .clo f caps] (.v (.bool (xs.any p))) := by
  refine Pure.intro Try.func159 rfl Try.ntmps159 rfl rfl (fun w => ?_)
  refine AC.seq ?_
  refine AC.region ?_
  refine AO.yld _ (Yld.assign rfl) rfl rfl rfl ?_
  refine AO.nil ?_
  refine AC.seq ?_
  refine AC.region ?_
  refine AO.yld _ (Yld.move rfl) rfl rfl rfl ?_
  refine AO.yld _ (Yld.move rfl) rfl rfl rfl ?_
  refine AO.yld _ (Yld.call rfl rfl Try.call169 rfl rfl rfl (indexFuncNeed_c (by first | assumption | omega) hf hp) rfl) rfl rfl rfl ?_
  refine AO.yld _ (Yld.int rfl rfl rfl) rfl rfl rfl ?_
  refine AO.yld _ (Yld.assign rfl) rfl rfl rfl ?_
  refine AO.nil ?_
  refine Pure.ret Try.results159 (RVs.cons (RV.tmp rfl) RVs.nil) rfl ?_
  exact cb idx_any.symm

theorem validNeeds1_c {x y : NV} :
    Pure Try.prog 160 [.agg (encNV y), .ptr (encNV x)] (.v (.bool (nameIs x.name y))) := by
  refine Pure.intro Try.func160 rfl Try.ntmps160 rfl rfl (fun w => ?_)
  refine AC.seq ?_
  refine AC.region ?_
  refine AO.box 0 rfl rfl rfl rfl rfl ?_
  refine AO.yld _ (Yld.assign rfl) rfl rfl rfl ?_
  refine AO.nil ?_
  refine AC.seq ?_
  refine AC.region ?_
  refine AO.yld _ (Yld.fieldAddr Try.underlying126 rfl rfl Try.sizeOf9 rfl rfl rfl) rfl rfl rfl ?_
  refine AO.yld _ (Yld.load Try.isAgg9 rfl rfl) rfl rfl rfl ?_
  refine AO.yld _ (Yld.fieldAddr Try.underlying126 rfl rfl Try.sizeOf9 rfl rfl rfl) rfl rfl rfl ?_
  refine AO.yld _ (Yld.load Try.isAgg9 rfl rfl) rfl rfl rfl ?_
  refine AO.yld _ (Yld.cmpStr rfl rfl rfl) rfl rfl rfl ?_
  refine AO.yld _ (Yld.assign rfl) rfl rfl rfl ?_
  refine AO.nil ?_
  refine Pure.ret Try.results160 (RVs.cons (RV.tmp rfl) RVs.nil) rfl ?_
  refine cb ?_; unfold nameIs; by_cases h : y.name = x.name <;> simp [h]

theorem impl_ValidNeeds_c {ms xs : List NV} (hm : ms.length ≤ 1048576) (hms : ∀ x ∈ ms, x.name.length ≤ 1048576) (hn : xs.length ≤ 1048576) (hs : ∀ x ∈ xs, x.name.length ≤ 1048576) :
    Pure Try.prog 139 [.sl 2 (ms.map encNV), .sl 2 (xs.map encNV)] (.v (.bool (okNeeds ms xs))) := by
  have hM : (xs.map encNV).length = xs.length := List.length_map ..
  refine Pure.intro Try.func139 rfl Try.ntmps139 rfl rfl (fun w => ?_)
  refine AC.seq ?_
  refine AC.region ?_
  refine AO.yld _ (Yld.assign rfl) rfl rfl rfl ?_
  refine AO.nil ?_
  refine AC.seq ?_
  refine AC.seq ?_
  refine AC.region ?_
  refine AO.yld _ (Yld.move rfl) rfl rfl rfl ?_
  refine AO.yld _ (Yld.call rfl rfl Try.call158 rfl rfl rfl (impl_ValidMedia_c (by first | assumption | omega) (by assumption)) rfl) rfl rfl rfl ?_
  refine AO.yld _ (Yld.not rfl) rfl rfl rfl ?_
  refine AO.yld _ (Yld.move rfl) rfl rfl rfl ?_
  refine AO.splitAt 10 _ rfl (fun s10 => ?_) (fun s10 => ?_)
  · -- s10 True
    refine AO.skipF rfl rfl rfl rfl rfl ?_
    refine AO.skipF rfl rfl rfl rfl rfl ?_
    refine AO.skipF rfl rfl rfl rfl rfl ?_
    refine AO.yld _ (Yld.pickT rfl rfl) rfl rfl rfl ?_
    refine AO.nil ?_
    refine AC.condT rfl ?_
    refine AC.seq ?_
    refine AC.region ?_
    refine AO.yld _ (Yld.assign rfl) rfl rfl rfl ?_
    refine AO.nil ?_
    refine Pure.ret Try.results139 (RVs.cons (RV.tmp rfl) RVs.nil) rfl ?_
    first
      | (refine cb ?_; unfold okNeeds; rw [hok.1, allI_take hJ.2, decide_eq_true hok.2]; rfl)
      | (refine cb ?_; unfold okNeeds; rw [allI_miss hx (by simp only [okNeed, hz]; first | grind | (simp_all; done)), Bool.false_and, Bool.and_false])
      | (refine cb ?_; unfold okNeeds; rw [show okMedias ms = false by simpa using s10, Bool.false_and])
      | (refine cb ?_; unfold okNeeds; have h : ¬ xs.length ≤ 16 := (by have h := c14; simp only [hM] at h; simp at h; omega); rw [decide_eq_false h, Bool.and_false, Bool.and_false])
  · -- s10 False
    refine AO.yldG _ (Yld.move rfl) rfl rfl rfl rfl rfl ?_
    refine AO.yldG _ (Yld.len Try.underlying57 rfl rfl) rfl rfl rfl rfl rfl ?_
    refine AO.yldG _ (Yld.int rfl rfl rfl) rfl rfl rfl rfl rfl ?_
    refine AO.yld _ (Yld.pickF rfl rfl) rfl rfl rfl ?_
    refine AO.nil ?_
    refine AC.cond _ rfl (fun c14 => ?_) (fun c14 => ?_)
    · -- c14 True
      refine AC.seq ?_
      refine AC.region ?_
      refine AO.yld _ (Yld.assign rfl) rfl rfl rfl ?_
      refine AO.nil ?_
      refine Pure.ret Try.results139 (RVs.cons (RV.tmp rfl) RVs.nil) rfl ?_
      first
        | (refine cb ?_; unfold okNeeds; rw [hok.1, allI_take hJ.2, decide_eq_true hok.2]; rfl)
        | (refine cb ?_; unfold okNeeds; rw [allI_miss hx (by simp only [okNeed, hz]; first | grind | (simp_all; done)), Bool.false_and, Bool.and_false])
        | (refine cb ?_; unfold okNeeds; rw [show okMedias ms = false by simpa using s10, Bool.false_and])
        | (refine cb ?_; unfold okNeeds; have h : ¬ xs.length ≤ 16 := (by have h := c14; simp only [hM] at h; simp at h; omega); rw [decide_eq_false h, Bool.and_false, Bool.and_false])
    · -- c14 False
      have hok : okMedias ms = true ∧ xs.length ≤ 16 := ⟨by simpa using s10, by have h := c14; simp only [hM] at h; simp at h; omega⟩
      refine AC.skip ?_
      refine AC.seq ?_
      refine AC.seq ?_
      refine AC.region ?_
      refine AO.yld _ (Yld.move rfl) rfl rfl rfl ?_
      refine AO.yld _ (Yld.len Try.underlying57 rfl rfl) rfl rfl rfl ?_
      refine AO.yld _ (Yld.move rfl) rfl rfl rfl ?_
      refine AO.nil ?_
      refine AC.block ?_
      refine AC.loopC [(0, _), (1, _), (15, _), (16, _)] [] (fun (k : Nat) => [(17, .p (.v (.int .i64 (k : Int))))]) (fun (k : Nat) => []) (fun (k : Nat) => k ≤ xs.length ∧ allITo (okNeed ms xs) xs k = true) (fun (k : Nat) => xs.length - k) 0 ⟨rfl, rfl, rfl, rfl, trivial⟩ trivial ⟨rfl, trivial⟩ trivial ?_ (fun k hJ => ?_)
      · exact ⟨Nat.zero_le _, rfl⟩
      · -- round
        refine AC.seq ?_
        refine AC.region ?_
        refine AO.yld _ (Yld.int rfl rfl rfl) rfl rfl rfl ?_
        refine AO.nil ?_
        refine AC.seq ?_
        refine AC.cond _ rfl (fun c18 => ?_) (fun c18 => ?_)
        · -- c18 True
          have hk := lt_of_decM c18
          obtain ⟨x, hx⟩ := get_some hk
          have hrow := map_row (enc := encNV) hx
          obtain ⟨z, hz⟩ := get_some (xs := xs) (k := k - 1) (by omega)
          have hrowz := map_row (enc := encNV) hz
          refine AC.skip ?_
          refine AC.seq ?_
          refine AC.block ?_
          refine AC.seq ?_
          refine AC.region ?_
          refine AO.yld _ (Yld.move rfl) rfl rfl rfl ?_
          refine AO.yld _ (Yld.indexSl Try.underlying57 Try.sizeOf126 rfl rfl hrow rfl) rfl rfl rfl ?_
          refine AO.yld _ (Yld.loadAgg Try.isAgg126 Try.sizeOf126 rfl rfl rfl rfl) rfl rfl rfl ?_
          refine AO.alloc 0 Try.zeroValue126 rfl rfl rfl ?_
          refine AO.yld _ (Yld.assign rfl) rfl rfl rfl ?_
          refine AO.store Try.sizeOf126 rfl rfl rfl rfl rfl rfl ?_
          refine AO.nil ?_
          refine AC.seq ?_
          refine AC.seq ?_
          refine AC.draw (by kernel_rfl) (by kernel_rfl) ?_
          refine AO.yld _ (Yld.move rfl) rfl rfl rfl ?_
          refine AO.yld _ (Yld.fieldAddr Try.underlying126 rfl rfl Try.sizeOf9 rfl rfl rfl) rfl rfl rfl ?_
          refine AO.yld _ (Yld.load Try.isAgg9 rfl rfl) rfl rfl rfl ?_
          refine AO.yld _ (Yld.call rfl rfl Try.call101 rfl rfl rfl (impl_sizeOf_c (by first | assumption | omega)) rfl) rfl rfl rfl ?_
          refine AO.yld _ (Yld.int rfl rfl rfl) rfl rfl rfl ?_
          refine AO.yld _ (Yld.move rfl) rfl rfl rfl ?_
          refine AO.splitAt 27 _ rfl (fun s27 => ?_) (fun s27 => ?_)
          · -- s27 True
            refine AO.skipF rfl rfl rfl rfl rfl ?_
            refine AO.skipF rfl rfl rfl rfl rfl ?_
            refine AO.skipF rfl rfl rfl rfl rfl ?_
            refine AO.skipF rfl rfl rfl rfl rfl ?_
            refine AO.yld _ (Yld.pickT rfl rfl) rfl rfl rfl ?_
            refine AO.yld _ (Yld.move rfl) rfl rfl rfl ?_
            refine AO.skipF rfl rfl rfl rfl rfl ?_
            refine AO.skipF rfl rfl rfl rfl rfl ?_
            refine AO.skipF rfl rfl rfl rfl rfl ?_
            refine AO.skipU rfl rfl rfl rfl rfl ?_
            refine AO.skipU rfl rfl rfl rfl rfl ?_
            refine AO.skipU rfl rfl rfl rfl rfl ?_
            refine AO.skipU rfl rfl rfl rfl rfl ?_
            refine AO.skipU rfl rfl rfl rfl rfl ?_
            refine AO.skipU rfl rfl rfl rfl rfl ?_
            refine AO.skipU rfl rfl rfl rfl rfl ?_
            refine AO.skipU rfl rfl rfl rfl rfl ?_
            refine AO.skipU rfl rfl rfl rfl rfl ?_
            refine AO.skipF rfl rfl rfl rfl rfl ?_
            refine AO.yld _ (Yld.pickT rfl rfl) rfl rfl rfl ?_
            refine AO.nil ?_
            refine AC.condT rfl ?_
            refine AC.seq ?_
            refine AC.region ?_
            refine AO.yld _ (Yld.assign rfl) rfl rfl rfl ?_
            refine AO.nil ?_
            refine Pure.ret Try.results139 (RVs.cons (RV.tmp rfl) RVs.nil) rfl ?_
            first
              | (refine cb ?_; unfold okNeeds; rw [hok.1, allI_take hJ.2, decide_eq_true hok.2]; rfl)
              | (refine cb ?_; unfold okNeeds; rw [allI_miss hx (by simp only [okNeed, hz]; first | grind | (simp_all; done)), Bool.false_and, Bool.and_false])
              | (refine cb ?_; unfold okNeeds; rw [show okMedias ms = false by simpa using s10, Bool.false_and])
              | (refine cb ?_; unfold okNeeds; have h : ¬ xs.length ≤ 16 := (by have h := c14; simp only [hM] at h; simp at h; omega); rw [decide_eq_false h, Bool.and_false, Bool.and_false])
          · -- s27 False
            refine AO.yldG _ (Yld.fieldAddr Try.underlying126 rfl rfl Try.sizeOf2 rfl rfl rfl) rfl rfl rfl rfl rfl ?_
            refine AO.yldG _ (Yld.load Try.isAgg2 rfl rfl) rfl rfl rfl rfl rfl ?_
            refine AO.yldG _ (Yld.call rfl rfl Try.call71 rfl rfl rfl (impl_within_c) rfl) rfl rfl rfl rfl rfl ?_
            refine AO.yldG _ (Yld.not rfl) rfl rfl rfl rfl rfl ?_
            refine AO.yld _ (Yld.pickF rfl rfl) rfl rfl rfl ?_
            refine AO.yld _ (Yld.move rfl) rfl rfl rfl ?_
            refine AO.splitAt 33 _ rfl (fun s33 => ?_) (fun s33 => ?_)
            · -- s33 True
              refine AO.skipF rfl rfl rfl rfl rfl ?_
              refine AO.skipF rfl rfl rfl rfl rfl ?_
              refine AO.skipF rfl rfl rfl rfl rfl ?_
              refine AO.skipU rfl rfl rfl rfl rfl ?_
              refine AO.skipU rfl rfl rfl rfl rfl ?_
              refine AO.skipU rfl rfl rfl rfl rfl ?_
              refine AO.skipU rfl rfl rfl rfl rfl ?_
              refine AO.skipU rfl rfl rfl rfl rfl ?_
              refine AO.skipU rfl rfl rfl rfl rfl ?_
              refine AO.skipU rfl rfl rfl rfl rfl ?_
              refine AO.skipU rfl rfl rfl rfl rfl ?_
              refine AO.skipU rfl rfl rfl rfl rfl ?_
              refine AO.skipF rfl rfl rfl rfl rfl ?_
              refine AO.yld _ (Yld.pickT rfl rfl) rfl rfl rfl ?_
              refine AO.nil ?_
              refine AC.condT rfl ?_
              refine AC.seq ?_
              refine AC.region ?_
              refine AO.yld _ (Yld.assign rfl) rfl rfl rfl ?_
              refine AO.nil ?_
              refine Pure.ret Try.results139 (RVs.cons (RV.tmp rfl) RVs.nil) rfl ?_
              first
                | (refine cb ?_; unfold okNeeds; rw [hok.1, allI_take hJ.2, decide_eq_true hok.2]; rfl)
                | (refine cb ?_; unfold okNeeds; rw [allI_miss hx (by simp only [okNeed, hz]; first | grind | (simp_all; done)), Bool.false_and, Bool.and_false])
                | (refine cb ?_; unfold okNeeds; rw [show okMedias ms = false by simpa using s10, Bool.false_and])
                | (refine cb ?_; unfold okNeeds; have h : ¬ xs.length ≤ 16 := (by have h := c14; simp only [hM] at h; simp at h; omega); rw [decide_eq_false h, Bool.and_false, Bool.and_false])
            · -- s33 False
              refine AO.yldG _ (Yld.move rfl) rfl rfl rfl rfl rfl ?_
              refine AO.yldG _ (Yld.int rfl rfl rfl) rfl rfl rfl rfl rfl ?_
              refine AO.yldG _ (Yld.move rfl) rfl rfl rfl rfl rfl ?_
              refine AO.splitAt 36 _ rfl (fun s36 => ?_) (fun s36 => ?_)
              · -- s36 True
                have hk0 : 0 < k := by simpa using s36
                refine AO.yldG _ (Yld.move rfl) rfl rfl rfl rfl rfl ?_
                refine AO.yldG _ (Yld.move rfl) rfl rfl rfl rfl rfl ?_
                refine AO.yldG _ (Yld.sub rfl rfl (by omega) (by omega)) rfl rfl rfl rfl rfl ?_
                refine AO.yldG _ (Yld.indexSl Try.underlying57 Try.sizeOf126 rfl rfl hrowz (by omega)) rfl rfl rfl rfl rfl ?_
                refine AO.yldG _ (Yld.fieldAddr Try.underlying126 rfl rfl Try.sizeOf2 rfl rfl rfl) rfl rfl rfl rfl rfl ?_
                refine AO.yldG _ (Yld.load Try.isAgg2 rfl rfl) rfl rfl rfl rfl rfl ?_
                refine AO.yldG _ (Yld.fieldAddr Try.underlying126 rfl rfl Try.sizeOf2 rfl rfl rfl) rfl rfl rfl rfl rfl ?_
                refine AO.yldG _ (Yld.load Try.isAgg2 rfl rfl) rfl rfl rfl rfl rfl ?_
                refine AO.yldG _ (Yld.int rfl rfl rfl) rfl rfl rfl rfl rfl ?_
                refine AO.yldG _ (Yld.pickT rfl rfl) rfl rfl rfl rfl rfl ?_
                refine AO.yld _ (Yld.pickF rfl rfl) rfl rfl rfl ?_
                refine AO.nil ?_
                refine AC.cond _ rfl (fun c47 => ?_) (fun c47 => ?_)
                · -- c47 True
                  refine AC.seq ?_
                  refine AC.region ?_
                  refine AO.yld _ (Yld.assign rfl) rfl rfl rfl ?_
                  refine AO.nil ?_
                  refine Pure.ret Try.results139 (RVs.cons (RV.tmp rfl) RVs.nil) rfl ?_
                  first
                    | (refine cb ?_; unfold okNeeds; rw [hok.1, allI_take hJ.2, decide_eq_true hok.2]; rfl)
                    | (refine cb ?_; unfold okNeeds; rw [allI_miss hx (by simp only [okNeed, hz]; first | grind | (simp_all; done)), Bool.false_and, Bool.and_false])
                    | (refine cb ?_; unfold okNeeds; rw [show okMedias ms = false by simpa using s10, Bool.false_and])
                    | (refine cb ?_; unfold okNeeds; have h : ¬ xs.length ≤ 16 := (by have h := c14; simp only [hM] at h; simp at h; omega); rw [decide_eq_false h, Bool.and_false, Bool.and_false])
                · -- c47 False
                  refine AC.skip ?_
                  refine AC.seq ?_
                  refine AC.region ?_
                  refine AO.yld _ (Yld.move rfl) rfl rfl rfl ?_
                  refine AO.yld _ (Yld.move rfl) rfl rfl rfl ?_
                  refine AO.yld _ (Yld.sliceTo (h := k) Try.underlying57 Try.sizeOf126 rfl rfl (by omega) (by omega)) rfl rfl rfl ?_
                  refine AO.yld _ (Yld.makeFunc rfl) rfl rfl rfl ?_
                  refine AO.yld _ (Yld.call rfl rfl Try.call159 rfl rfl rfl (containsFuncNeed_c (xs := xs.take k) (p := nameIs x.name) (by simp only [List.length_take]; omega) Try.call160 (fun y hy => validNeeds1_c)) rfl) rfl rfl rfl ?_
                  refine AO.nil ?_
                  refine AC.cond _ rfl (fun c52 => ?_) (fun c52 => ?_)
                  · -- c52 True
                    refine AC.seq ?_
                    refine AC.region ?_
                    refine AO.yld _ (Yld.assign rfl) rfl rfl rfl ?_
                    refine AO.nil ?_
                    refine Pure.ret Try.results139 (RVs.cons (RV.tmp rfl) RVs.nil) rfl ?_
                    first
                      | (refine cb ?_; unfold okNeeds; rw [hok.1, allI_take hJ.2, decide_eq_true hok.2]; rfl)
                      | (refine cb ?_; unfold okNeeds; rw [allI_miss hx (by simp only [okNeed, hz]; first | grind | (simp_all; done)), Bool.false_and, Bool.and_false])
                      | (refine cb ?_; unfold okNeeds; rw [show okMedias ms = false by simpa using s10, Bool.false_and])
                      | (refine cb ?_; unfold okNeeds; have h : ¬ xs.length ≤ 16 := (by have h := c14; simp only [hM] at h; simp at h; omega); rw [decide_eq_false h, Bool.and_false, Bool.and_false])
                  · -- c52 False
                    refine AC.skip ?_
                    refine AC.mark ?_
                    refine AC.region ?_
                    refine AO.yld _ (Yld.add rfl rfl (by omega) (by omega)) rfl rfl rfl ?_
                    refine AO.yld _ (Yld.move rfl) rfl rfl rfl ?_
                    refine AO.nil ?_
                    refine AC.back ⟨k + 1, ?_, ?_, ⟨?_, trivial⟩, trivial, ⟨rfl, rfl, rfl, rfl, trivial⟩, trivial⟩
                    · exact ⟨hk, by rw [allITo_succ hx, hJ.2, Bool.true_and]; exact (by simp only [okNeed, hz]; first | grind | (simp_all; done))⟩
                    · omega
                    · rfl
              · -- s36 False
                refine AO.skipT rfl rfl rfl rfl rfl ?_
                refine AO.skipT rfl rfl rfl rfl rfl ?_
                refine AO.skipT rfl rfl rfl rfl rfl ?_
                refine AO.skipT rfl rfl rfl rfl rfl ?_
                refine AO.skipT rfl rfl rfl rfl rfl ?_
                refine AO.skipT rfl rfl rfl rfl rfl ?_
                refine AO.skipT rfl rfl rfl rfl rfl ?_
                refine AO.skipT rfl rfl rfl rfl rfl ?_
                refine AO.skipT rfl rfl rfl rfl rfl ?_
                refine AO.yldG _ (Yld.pickF rfl rfl) rfl rfl rfl rfl rfl ?_
                refine AO.yld _ (Yld.pickF rfl rfl) rfl rfl rfl ?_
                refine AO.nil ?_
                refine AC.condF rfl ?_
                refine AC.skip ?_
                refine AC.seq ?_
                refine AC.region ?_
                refine AO.yld _ (Yld.move rfl) rfl rfl rfl ?_
                refine AO.yld _ (Yld.move rfl) rfl rfl rfl ?_
                refine AO.yld _ (Yld.sliceTo (h := k) Try.underlying57 Try.sizeOf126 rfl rfl (by omega) (by omega)) rfl rfl rfl ?_
                refine AO.yld _ (Yld.makeFunc rfl) rfl rfl rfl ?_
                refine AO.yld _ (Yld.call rfl rfl Try.call159 rfl rfl rfl (containsFuncNeed_c (xs := xs.take k) (p := nameIs x.name) (by simp only [List.length_take]; omega) Try.call160 (fun y hy => validNeeds1_c)) rfl) rfl rfl rfl ?_
                refine AO.nil ?_
                refine AC.cond _ rfl (fun c52 => ?_) (fun c52 => ?_)
                · -- c52 True
                  refine AC.seq ?_
                  refine AC.region ?_
                  refine AO.yld _ (Yld.assign rfl) rfl rfl rfl ?_
                  refine AO.nil ?_
                  refine Pure.ret Try.results139 (RVs.cons (RV.tmp rfl) RVs.nil) rfl ?_
                  first
                    | (refine cb ?_; unfold okNeeds; rw [hok.1, allI_take hJ.2, decide_eq_true hok.2]; rfl)
                    | (refine cb ?_; unfold okNeeds; rw [allI_miss hx (by simp only [okNeed, hz]; first | grind | (simp_all; done)), Bool.false_and, Bool.and_false])
                    | (refine cb ?_; unfold okNeeds; rw [show okMedias ms = false by simpa using s10, Bool.false_and])
                    | (refine cb ?_; unfold okNeeds; have h : ¬ xs.length ≤ 16 := (by have h := c14; simp only [hM] at h; simp at h; omega); rw [decide_eq_false h, Bool.and_false, Bool.and_false])
                · -- c52 False
                  refine AC.skip ?_
                  refine AC.mark ?_
                  refine AC.region ?_
                  refine AO.yld _ (Yld.add rfl rfl (by omega) (by omega)) rfl rfl rfl ?_
                  refine AO.yld _ (Yld.move rfl) rfl rfl rfl ?_
                  refine AO.nil ?_
                  refine AC.back ⟨k + 1, ?_, ?_, ⟨?_, trivial⟩, trivial, ⟨rfl, rfl, rfl, rfl, trivial⟩, trivial⟩
                  · exact ⟨hk, by rw [allITo_succ hx, hJ.2, Bool.true_and]; exact (by simp only [okNeed, hz]; first | grind | (simp_all; done))⟩
                  · omega
                  · rfl
        · -- c18 False
          obtain rfl : k = xs.length := by have := ge_of_decM c18; omega
          refine AC.exit rfl ?_
          refine AC.seq ?_
          refine AC.region ?_
          refine AO.yld _ (Yld.assign rfl) rfl rfl rfl ?_
          refine AO.nil ?_
          refine Pure.ret Try.results139 (RVs.cons (RV.tmp rfl) RVs.nil) rfl ?_
          first
            | (refine cb ?_; unfold okNeeds; rw [hok.1, allI_take hJ.2, decide_eq_true hok.2]; rfl)
            | (refine cb ?_; unfold okNeeds; rw [allI_miss hx (by simp only [okNeed, hz]; first | grind | (simp_all; done)), Bool.false_and, Bool.and_false])
            | (refine cb ?_; unfold okNeeds; rw [show okMedias ms = false by simpa using s10, Bool.false_and])
            | (refine cb ?_; unfold okNeeds; have h : ¬ xs.length ≤ 16 := (by have h := c14; simp only [hM] at h; simp at h; omega); rw [decide_eq_false h, Bool.and_false, Bool.and_false])

theorem spec_l25Ask_c {ms xs : List NV} (hm : ms.length ≤ 1048576) (hms : ∀ x ∈ ms, x.name.length ≤ 1048576) (hn : xs.length ≤ 1048576) (hs : ∀ x ∈ xs, x.name.length ≤ 1048576) {b : Int} :
    Pure Try.prog 95 [.sl 2 (ms.map encNV), .sl 2 (xs.map encNV), .v (.int .i64 b)] (.v (.int .i64 (askNeeds ms xs b))) := by
  refine Pure.intro Try.func95 rfl Try.ntmps95 rfl rfl (fun w => ?_)
  refine AC.seq ?_
  refine AC.region ?_
  refine AO.yld _ (Yld.assign rfl) rfl rfl rfl ?_
  refine AO.nil ?_
  refine AC.seq ?_
  refine AC.seq ?_
  refine AC.region ?_
  refine AO.yld _ (Yld.move rfl) rfl rfl rfl ?_
  refine AO.yld _ (Yld.call rfl rfl Try.call136 rfl rfl rfl (spec_l25Ok_c (by first | assumption | omega) (by assumption)) rfl) rfl rfl rfl ?_
  refine AO.yld _ (Yld.not rfl) rfl rfl rfl ?_
  refine AO.yld _ (Yld.move rfl) rfl rfl rfl ?_
  refine AO.splitAt 10 _ rfl (fun s10 => ?_) (fun s10 => ?_)
  · -- s10 True
    refine AO.skipF rfl rfl rfl rfl rfl ?_
    refine AO.skipF rfl rfl rfl rfl rfl ?_
    refine AO.skipF rfl rfl rfl rfl rfl ?_
    refine AO.skipF rfl rfl rfl rfl rfl ?_
    refine AO.yld _ (Yld.pickT rfl rfl) rfl rfl rfl ?_
    refine AO.nil ?_
    refine AC.condT rfl ?_
    refine AC.seq ?_
    refine AC.region ?_
    refine AO.yld _ (Yld.assign rfl) rfl rfl rfl ?_
    refine AO.nil ?_
    refine Pure.ret Try.results95 (RVs.cons (RV.tmp rfl) RVs.nil) rfl ?_
    refine ci ?_; unfold askNeeds okNeeds; first | grind | (simp_all; done)
  · -- s10 False
    refine AO.yldG _ (Yld.move rfl) rfl rfl rfl rfl rfl ?_
    refine AO.yldG _ (Yld.move rfl) rfl rfl rfl rfl rfl ?_
    refine AO.yldG _ (Yld.call rfl rfl Try.call137 rfl rfl rfl (spec_l25Needs_c (by first | assumption | omega) (by assumption) (by first | assumption | omega) (by assumption)) rfl) rfl rfl rfl rfl rfl ?_
    refine AO.yldG _ (Yld.not rfl) rfl rfl rfl rfl rfl ?_
    refine AO.yld _ (Yld.pickF rfl rfl) rfl rfl rfl ?_
    refine AO.nil ?_
    refine AC.cond _ rfl (fun c15 => ?_) (fun c15 => ?_)
    · -- c15 True
      refine AC.seq ?_
      refine AC.region ?_
      refine AO.yld _ (Yld.assign rfl) rfl rfl rfl ?_
      refine AO.nil ?_
      refine Pure.ret Try.results95 (RVs.cons (RV.tmp rfl) RVs.nil) rfl ?_
      refine ci ?_; unfold askNeeds okNeeds; first | grind | (simp_all; done)
    · -- c15 False
      refine AC.skip ?_
      refine AC.seq ?_
      refine AC.seq ?_
      refine AC.region ?_
      refine AO.yld _ (Yld.move rfl) rfl rfl rfl ?_
      refine AO.yld _ (Yld.call rfl rfl Try.call138 rfl rfl rfl (spec_l25Bandwidth_c) rfl) rfl rfl rfl ?_
      refine AO.yld _ (Yld.not rfl) rfl rfl rfl ?_
      refine AO.nil ?_
      refine AC.cond _ rfl (fun c18 => ?_) (fun c18 => ?_)
      · -- c18 True
        refine AC.seq ?_
        refine AC.region ?_
        refine AO.yld _ (Yld.assign rfl) rfl rfl rfl ?_
        refine AO.nil ?_
        refine Pure.ret Try.results95 (RVs.cons (RV.tmp rfl) RVs.nil) rfl ?_
        refine ci ?_; unfold askNeeds okNeeds; first | grind | (simp_all; done)
      · -- c18 False
        refine AC.skip ?_
        refine AC.seq ?_
        refine AC.region ?_
        refine AO.yld _ (Yld.assign rfl) rfl rfl rfl ?_
        refine AO.nil ?_
        refine Pure.ret Try.results95 (RVs.cons (RV.tmp rfl) RVs.nil) rfl ?_
        refine ci ?_; unfold askNeeds okNeeds; first | grind | (simp_all; done)

theorem impl_checkNeeds_c {ms xs : List NV} (hm : ms.length ≤ 1048576) (hms : ∀ x ∈ ms, x.name.length ≤ 1048576) (hn : xs.length ≤ 1048576) (hs : ∀ x ∈ xs, x.name.length ≤ 1048576) {b : Int} :
    Pure Try.prog 99 [.sl 2 (ms.map encNV), .sl 2 (xs.map encNV), .v (.int .i64 b)] (.v (.int .i64 (askNeeds ms xs b))) := by
  refine Pure.intro Try.func99 rfl Try.ntmps99 rfl rfl (fun w => ?_)
  refine AC.seq ?_
  refine AC.region ?_
  refine AO.yld _ (Yld.assign rfl) rfl rfl rfl ?_
  refine AO.nil ?_
  refine AC.seq ?_
  refine AC.block ?_
  refine AC.seq ?_
  refine AC.region ?_
  refine AO.yld _ (Yld.move rfl) rfl rfl rfl ?_
  refine AO.yld _ (Yld.move rfl) rfl rfl rfl ?_
  refine AO.yld _ (Yld.call rfl rfl Try.call139 rfl rfl rfl (impl_ValidNeeds_c (by first | assumption | omega) (by assumption) (by first | assumption | omega) (by assumption)) rfl) rfl rfl rfl ?_
  refine AO.yld _ (Yld.not rfl) rfl rfl rfl ?_
  refine AO.yld _ (Yld.assign rfl) rfl rfl rfl ?_
  refine AO.nil ?_
  refine AC.cond _ rfl (fun c7 => ?_) (fun c7 => ?_)
  · -- c7 True
    refine AC.seq ?_
    refine AC.region ?_
    refine AO.yld _ (Yld.assign rfl) rfl rfl rfl ?_
    refine AO.nil ?_
    refine Pure.ret Try.results99 (RVs.cons (RV.tmp rfl) RVs.nil) rfl ?_
    refine ci ?_; unfold askNeeds; first | (simp_all; done) | grind
  · -- c7 False
    refine AC.seq ?_
    refine AC.region ?_
    refine AO.yld _ (Yld.move rfl) rfl rfl rfl ?_
    refine AO.yld _ (Yld.call rfl rfl Try.call71 rfl rfl rfl (impl_within_c) rfl) rfl rfl rfl ?_
    refine AO.yld _ (Yld.not rfl) rfl rfl rfl ?_
    refine AO.yld _ (Yld.assign rfl) rfl rfl rfl ?_
    refine AO.nil ?_
    refine AC.cond _ rfl (fun c12 => ?_) (fun c12 => ?_)
    · -- c12 True
      refine AC.seq ?_
      refine AC.region ?_
      refine AO.yld _ (Yld.assign rfl) rfl rfl rfl ?_
      refine AO.nil ?_
      refine Pure.ret Try.results99 (RVs.cons (RV.tmp rfl) RVs.nil) rfl ?_
      refine ci ?_; unfold askNeeds; first | (simp_all; done) | grind
    · -- c12 False
      refine AC.skip ?_
      refine AC.mark ?_
      refine AC.seq ?_
      refine AC.region ?_
      refine AO.yld _ (Yld.assign rfl) rfl rfl rfl ?_
      refine AO.nil ?_
      refine Pure.ret Try.results99 (RVs.cons (RV.tmp rfl) RVs.nil) rfl ?_
      refine ci ?_; unfold askNeeds; first | (simp_all; done) | grind

theorem spec_l25Plan_c {ms xs : List NV} {b : Int} (hn : xs.length ≤ 1048576) (hok : okNeeds ms xs = true) (hb : 1 ≤ b ∧ b ≤ 100000) (hm : ms.length ≤ 1048576) :
    FnE (α := Unit) Try.prog 96 [.p (.sl 2 (ms.map encNV)), .p (.sl 2 (xs.map encNV)), .p (.v (.int .i64 b))] [] [] (fun _ => True) (fun _ => .h 0) (fun _ => [(0, .vec 2 1 ((planL ms xs b xs.length).map encI))]) := by
  refine FnE.intro Try.func96 rfl Try.ntmps96 rfl rfl (fun w0 F0 η φ w => ?_)
  refine AC.seq ?_
  refine AC.region ?_
  refine AO.yld _ (Yld.assign rfl) rfl rfl rfl ?_
  refine AO.nil ?_
  refine AC.seq ?_
  refine AC.region ?_
  refine AO.buildSlice (rows := []) 0 Try.underlying31 ty2 rfl rfl rfl rfl rfl rfl rfl rfl rfl ?_
  refine AO.yld _ (Yld.assign rfl) rfl rfl rfl ?_
  refine AO.nil ?_
  refine AC.seq ?_
  refine AC.region ?_
  refine AO.yld _ (Yld.assign rfl) rfl rfl rfl ?_
  refine AO.nil ?_
  refine AC.seq ?_
  refine AC.seq ?_
  refine AC.region ?_
  refine AO.yld _ (Yld.assign rfl) rfl rfl rfl ?_
  refine AO.nil ?_
  refine AC.block ?_
  refine AC.loopC [(0, _), (1, _), (2, _), (6, _)] [(900, _)] (fun (k : Nat) => [(9, .p (.v (.int .i64 (k : Int)))), (8, .p (.v (.int .i64 (sumTo (loadT ms b) xs k)))), (7, .h 0)]) (fun (k : Nat) => [(0, .vec 2 1 ((planL ms xs b k).map encI))]) (fun (k : Nat) => k ≤ xs.length) (fun (k : Nat) => xs.length - k) 0 ⟨rfl, rfl, rfl, rfl, trivial⟩ ⟨rfl, trivial⟩ ⟨rfl, rfl, rfl, trivial⟩ ⟨rfl, trivial⟩ ?_ (fun k hJ => ?_)
  · exact Nat.zero_le _
  · -- round
    refine AC.seq ?_
    refine AC.seq ?_
    refine AC.region ?_
    refine AO.yld _ (Yld.move rfl) rfl rfl rfl ?_
    refine AO.yld _ (Yld.move rfl) rfl rfl rfl ?_
    refine AO.yld _ (Yld.len Try.underlying57 rfl rfl) rfl rfl rfl ?_
    refine AO.yld _ (Yld.int rfl rfl rfl) rfl rfl rfl ?_
    refine AO.nil ?_
    refine AC.cond _ rfl (fun c14 => ?_) (fun c14 => ?_)
    · -- c14 True
      have hk := lt_of_decM c14
      obtain ⟨x, hx⟩ := get_some hk
      have hrow := map_row (enc := encNV) hx
      have hlx := loadT_lim (needs_ok hok).1 hb.1 x
      have hsl := lookup_lim (needs_ok hok).1 x.name
      have hsk := sums_lim (xs := xs) (needs_ok hok).1 hb.1 k
      have hsk1 := sums_lim (xs := xs) (needs_ok hok).1 hb.1 (k + 1)
      have hss := sumTo_succ (f := loadT ms b) hx
      have hld : loadT ms b x = (1000 * lookup ms x.name + b - 1) / b := rfl
      have hnl := need_lim (allI_at (needs_ok hok).2.1 hx)
      have hll := lateTo_lim hok hb.1 k
      have hl16 := (needs_ok hok).2.2
      have hpl := planL_len ms xs b k
      refine AC.skip ?_
      refine AC.seq ?_
      refine AC.block ?_
      refine AC.seq ?_
      refine AC.region ?_
      refine AO.yld _ (Yld.move rfl) rfl rfl rfl ?_
      refine AO.yld _ (Yld.move rfl) rfl rfl rfl ?_
      refine AO.buildSlice (rows := [[_]]) 1 Try.underlying31 ty2 rfl rfl rfl rfl rfl rfl rfl rfl rfl ?_
      refine AO.append 0 Try.underlying31 ty2 rfl rfl rfl rfl rfl rfl rfl (by simp [pvOne]) (by simp only [List.length_map, List.length_cons, List.length_nil]; omega) (by simp only [List.length_map, List.length_cons, List.length_nil]; omega) rfl ?_
      refine AO.yld _ (Yld.assign rfl) rfl rfl rfl ?_
      refine AO.nil ?_
      refine AC.region ?_
      refine AO.yld _ (Yld.move rfl) rfl rfl rfl ?_
      refine AO.yld _ (Yld.move rfl) rfl rfl rfl ?_
      refine AO.yld _ (Yld.move rfl) rfl rfl rfl ?_
      refine AO.yld _ (Yld.move rfl) rfl rfl rfl ?_
      refine AO.yld _ (Yld.indexSl Try.underlying57 Try.sizeOf126 rfl rfl hrow rfl) rfl rfl rfl ?_
      refine AO.yld _ (Yld.fieldAddr Try.underlying126 rfl rfl Try.sizeOf9 rfl rfl rfl) rfl rfl rfl ?_
      refine AO.yld _ (Yld.load Try.isAgg9 rfl rfl) rfl rfl rfl ?_
      refine AO.yld _ (Yld.call rfl rfl Try.call106 rfl rfl rfl (spec_l25Size_c (by first | assumption | omega)) rfl) rfl rfl rfl ?_
      refine AO.yld _ (Yld.move rfl) rfl rfl rfl ?_
      refine AO.yld _ (Yld.call rfl rfl Try.call105 rfl rfl rfl (spec_l25Load_c (by omega) (by omega) (by omega) (by omega)) rfl) rfl rfl rfl ?_
      refine AO.yld _ (Yld.add rfl rfl (by omega) (by omega)) rfl rfl rfl ?_
      refine AO.yld _ (Yld.assign rfl) rfl rfl rfl ?_
      refine AO.nil ?_
      refine AC.mark ?_
      refine AC.region ?_
      refine AO.yld _ (Yld.move rfl) rfl rfl rfl ?_
      refine AO.yld _ (Yld.add rfl rfl (by omega) (by omega)) rfl rfl rfl ?_
      refine AO.yld _ (Yld.assign rfl) rfl rfl rfl ?_
      refine AO.nil ?_
      refine AC.back ⟨k + 1, ?_, ?_, ⟨?_, ?_, ?_, trivial⟩, ⟨?_, trivial⟩, ⟨rfl, rfl, rfl, rfl, trivial⟩, ⟨rfl, trivial⟩⟩
      · exact hk
      · omega
      · rfl
      · show some (AV.p (PV.v (Value.int IntKind.i64 _))) = _; rw [sumTo_succ hx]; rfl
      · rfl
      · rw [planL_succ, map_snoc]; rfl
    · -- c14 False
      obtain rfl : k = xs.length := by have := ge_of_decM c14; omega
      refine AC.exit rfl ?_
      refine AC.seq ?_
      refine AC.region ?_
      refine AO.yld _ (Yld.move rfl) rfl rfl rfl ?_
      refine AO.yld _ (Yld.assign rfl) rfl rfl rfl ?_
      refine AO.nil ?_
      refine FnE.ret () [0] [0] Try.results96 (RVs.cons (RV.tmp rfl) RVs.nil) rfl rfl rfl ?_ ?_ ⟨⟨_, rfl, ?_⟩, trivial⟩
      · -- holds
        trivial
      · -- value
        rfl
      · -- thing 0
        first | rfl | exact vecE (by first | rfl | (simp_all; done) | grind) | (simp_all; done)

end Go.Proofs.Ytiilobkfonjlhaa
