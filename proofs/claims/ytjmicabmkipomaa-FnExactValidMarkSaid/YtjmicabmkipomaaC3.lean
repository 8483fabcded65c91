/- Contracts of functions of the program, each by a walk of its text in the calculus V. -/
import Derived.Test.YtjmicabmkipomaaC2
import Derived.Test.YtjmicabmkipomaaD5
set_option linter.all false
set_option linter.unusedSimpArgs false
set_option linter.unusedVariables false
namespace Go.Proofs.Ytjmicabmkipomaa
open Go Go.V

theorem spec_l26Best_c {xs : List Sample} (hn : xs.length ≤ 1048576) :
    Pure Try.prog 84 [.sl 3 (xs.map encSample)] (.tup [.v (.int .i64 (bestSample xs).1), .v (.int .i64 (bestSample xs).2)]) := by
  refine Pure.intro Try.func84 rfl Try.ntmps84 rfl rfl (fun w => ?_)
  refine AC.seq ?_
  refine AC.region ?_
  refine AO.yld _ (Yld.assign rfl) rfl rfl rfl ?_
  refine AO.yld _ (Yld.assign rfl) rfl rfl rfl ?_
  refine AO.nil ?_
  refine AC.seq ?_
  refine AC.seq ?_
  refine AC.region ?_
  refine AO.yld _ (Yld.assign rfl) rfl rfl rfl ?_
  refine AO.nil ?_
  refine AC.block ?_
  refine AC.loopC [(0, _)] [] (fun (k : Nat) => [(4, .p (.v (.int .i64 (k : Int))))]) (fun (k : Nat) => []) (fun (k : Nat) => k ≤ xs.length ∧ allTo okSample xs k = true) (fun (k : Nat) => xs.length - k) 0 ⟨rfl, trivial⟩ trivial ⟨rfl, trivial⟩ trivial ?_ (fun k hJ => ?_)
  · exact ⟨Nat.zero_le _, rfl⟩
  · -- round
    refine AC.seq ?_
    refine AC.seq ?_
    refine AC.region ?_
    refine AO.yld _ (Yld.move rfl) rfl rfl rfl ?_
    refine AO.yld _ (Yld.move rfl) rfl rfl rfl ?_
    refine AO.yld _ (Yld.len Try.underlying60 rfl rfl) rfl rfl rfl ?_
    refine AO.yld _ (Yld.int rfl rfl rfl) rfl rfl rfl ?_
    refine AO.nil ?_
    refine AC.cond _ rfl (fun c10 => ?_) (fun c10 => ?_)
    · -- c10 True
      have hk := lt_of_decM c10
      obtain ⟨x, hx⟩ := get_some hk
      have hrow := map_row (enc := encSample) hx
      refine AC.skip ?_
      refine AC.seq ?_
      refine AC.block ?_
      refine AC.seq ?_
      refine AC.region ?_
      refine AO.yld _ (Yld.move rfl) rfl rfl rfl ?_
      refine AO.yld _ (Yld.move rfl) rfl rfl rfl ?_
      refine AO.yld _ (Yld.indexSl Try.underlying60 Try.sizeOf25 rfl rfl hrow rfl) rfl rfl rfl ?_
      refine AO.yld _ (Yld.call rfl rfl Try.call64 rfl rfl rfl (spec_l26Sample_c) rfl) rfl rfl rfl ?_
      refine AO.yld _ (Yld.not rfl) rfl rfl rfl ?_
      refine AO.nil ?_
      refine AC.cond _ rfl (fun c17 => ?_) (fun c17 => ?_)
      · -- c17 True
        refine AC.seq ?_
        refine AC.region ?_
        refine AO.yld _ (Yld.assign rfl) rfl rfl rfl ?_
        refine AO.yld _ (Yld.assign rfl) rfl rfl rfl ?_
        refine AO.nil ?_
        refine Pure.retT Try.results84 (RVs.cons (RV.tmp rfl) (RVs.cons (RV.tmp rfl) RVs.nil)) rfl ?_
        first
          | (have e : xs.all okSample = false := all_miss hx (by simpa [okSample] using c17)
             simp [bestSample, e])
          | (have e : (decide (1 ≤ xs.length) && decide (xs.length ≤ 24)) = false := by (first | (have h := c25; simp only [List.length_map] at h; grind) | (have h := s21; simp only [List.length_map] at h; grind))
             simp only [bestSample, hall, e]; rfl)
          | (have e : (decide (1 ≤ xs.length) && decide (xs.length ≤ 24)) = true := by (simp; omega)
             simp only [bestSample, hall, e]; rfl)
      · -- c17 False
        refine AC.skip ?_
        refine AC.mark ?_
        refine AC.region ?_
        refine AO.yld _ (Yld.move rfl) rfl rfl rfl ?_
        refine AO.yld _ (Yld.add rfl rfl (by omega) (by omega)) rfl rfl rfl ?_
        refine AO.yld _ (Yld.assign rfl) rfl rfl rfl ?_
        refine AO.nil ?_
        refine AC.back ⟨k + 1, ?_, ?_, ⟨?_, trivial⟩, trivial, ⟨rfl, trivial⟩, trivial⟩
        · exact ⟨hk, by rw [allTo_succ hx, hJ.2]; simpa [okSample] using c17⟩
        · omega
        · rfl
    · -- c10 False
      obtain rfl : k = xs.length := by have := ge_of_decM c10; omega
      have hall : xs.all okSample = true := by rw [← allTo_all]; exact hJ.2
      refine AC.exit rfl ?_
      refine AC.seq ?_
      refine AC.seq ?_
      refine AC.region ?_
      refine AO.yld _ (Yld.move rfl) rfl rfl rfl ?_
      refine AO.yld _ (Yld.len Try.underlying60 rfl rfl) rfl rfl rfl ?_
      refine AO.yld _ (Yld.int rfl rfl rfl) rfl rfl rfl ?_
      refine AO.yld _ (Yld.move rfl) rfl rfl rfl ?_
      refine AO.splitAt 21 _ rfl (fun s21 => ?_) (fun s21 => ?_)
      · -- s21 True
        refine AO.skipF rfl rfl rfl rfl rfl ?_
        refine AO.skipF rfl rfl rfl rfl rfl ?_
        refine AO.skipF rfl rfl rfl rfl rfl ?_
        refine AO.yld _ (Yld.pickT rfl rfl) rfl rfl rfl ?_
        refine AO.nil ?_
        refine AC.condT rfl ?_
        refine AC.seq ?_
        refine AC.region ?_
        refine AO.yld _ (Yld.assign rfl) rfl rfl rfl ?_
        refine AO.yld _ (Yld.assign rfl) rfl rfl rfl ?_
        refine AO.nil ?_
        refine Pure.retT Try.results84 (RVs.cons (RV.tmp rfl) (RVs.cons (RV.tmp rfl) RVs.nil)) rfl ?_
        first
          | (have e : xs.all okSample = false := all_miss hx (by simpa [okSample] using c17)
             simp [bestSample, e])
          | (have e : (decide (1 ≤ xs.length) && decide (xs.length ≤ 24)) = false := by (first | (have h := c25; simp only [List.length_map] at h; grind) | (have h := s21; simp only [List.length_map] at h; grind))
             simp only [bestSample, hall, e]; rfl)
          | (have e : (decide (1 ≤ xs.length) && decide (xs.length ≤ 24)) = true := by (simp; omega)
             simp only [bestSample, hall, e]; rfl)
      · -- s21 False
        refine AO.yldG _ (Yld.move rfl) rfl rfl rfl rfl rfl ?_
        refine AO.yldG _ (Yld.len Try.underlying60 rfl rfl) rfl rfl rfl rfl rfl ?_
        refine AO.yldG _ (Yld.int rfl rfl rfl) rfl rfl rfl rfl rfl ?_
        refine AO.yld _ (Yld.pickF rfl rfl) rfl rfl rfl ?_
        refine AO.nil ?_
        refine AC.cond _ rfl (fun c25 => ?_) (fun c25 => ?_)
        · -- c25 True
          refine AC.seq ?_
          refine AC.region ?_
          refine AO.yld _ (Yld.assign rfl) rfl rfl rfl ?_
          refine AO.yld _ (Yld.assign rfl) rfl rfl rfl ?_
          refine AO.nil ?_
          refine Pure.retT Try.results84 (RVs.cons (RV.tmp rfl) (RVs.cons (RV.tmp rfl) RVs.nil)) rfl ?_
          first
            | (have e : xs.all okSample = false := all_miss hx (by simpa [okSample] using c17)
               simp [bestSample, e])
            | (have e : (decide (1 ≤ xs.length) && decide (xs.length ≤ 24)) = false := by (first | (have h := c25; simp only [List.length_map] at h; grind) | (have h := s21; simp only [List.length_map] at h; grind))
               simp only [bestSample, hall, e]; rfl)
            | (have e : (decide (1 ≤ xs.length) && decide (xs.length ≤ 24)) = true := by (simp; omega)
               simp only [bestSample, hall, e]; rfl)
        · -- c25 False
          have hl1 : 1 ≤ xs.length := by have h := c25; simp only [List.length_map] at h; grind
          have hl2 : xs.length ≤ 24 := by have h := c25; simp only [List.length_map] at h; grind
          refine AC.skip ?_
          refine AC.seq ?_
          refine AC.region ?_
          refine AO.yld _ (Yld.assign rfl) rfl rfl rfl ?_
          refine AO.nil ?_
          refine AC.seq ?_
          refine AC.seq ?_
          refine AC.region ?_
          refine AO.yld _ (Yld.assign rfl) rfl rfl rfl ?_
          refine AO.nil ?_
          refine AC.block ?_
          refine AC.loopC [(0, _)] [] (fun (k : Nat) => [(6, .p (.v (.int .i64 (k : Int)))), (5, .p (.v (.int .i64 (bestTo ltSample xs k : Int))))]) (fun (k : Nat) => []) (fun (k : Nat) => 1 ≤ k ∧ k ≤ xs.length) (fun (k : Nat) => xs.length - k) 1 ⟨rfl, trivial⟩ trivial ⟨rfl, by rw [bestTo_one (by simp [ltSample])]; rfl, trivial⟩ trivial ?_ (fun k hJ => ?_)
          · exact ⟨by omega, hl1⟩
          · -- round
            refine AC.seq ?_
            refine AC.seq ?_
            refine AC.region ?_
            refine AO.yld _ (Yld.move rfl) rfl rfl rfl ?_
            refine AO.yld _ (Yld.move rfl) rfl rfl rfl ?_
            refine AO.yld _ (Yld.len Try.underlying60 rfl rfl) rfl rfl rfl ?_
            refine AO.yld _ (Yld.int rfl rfl rfl) rfl rfl rfl ?_
            refine AO.nil ?_
            refine AC.cond _ rfl (fun c29 => ?_) (fun c29 => ?_)
            · -- c29 True
              have hk := lt_of_decM c29
              obtain ⟨x, hx⟩ := get_some hk
              have hrow := map_row (enc := encSample) hx
              obtain ⟨y, hy⟩ := get_some (bestTo_le (lt := ltSample) (xs := xs) (k := k) (n := xs.length) (by omega) (by omega))
              have hrow2 := map_row (enc := encSample) hy
              have hl3 := sample_lim (all_at hall hx)
              have hl4 := sample_lim (all_at hall hy)
              refine AC.skip ?_
              refine AC.seq ?_
              refine AC.block ?_
              refine AC.seq ?_
              refine AC.draw (by kernel_rfl) (by kernel_rfl) ?_
              refine AO.yld _ (Yld.move rfl) rfl rfl rfl ?_
              refine AO.yld _ (Yld.move rfl) rfl rfl rfl ?_
              refine AO.yld _ (Yld.indexSl Try.underlying60 Try.sizeOf25 rfl rfl hrow rfl) rfl rfl rfl ?_
              refine AO.yld _ (Yld.fieldAddr Try.underlying25 rfl rfl Try.sizeOf2 rfl rfl rfl) rfl rfl rfl ?_
              refine AO.yld _ (Yld.load Try.isAgg2 rfl rfl) rfl rfl rfl ?_
              refine AO.yld _ (Yld.move rfl) rfl rfl rfl ?_
              refine AO.yld _ (Yld.move rfl) rfl rfl rfl ?_
              refine AO.yld _ (Yld.indexSl Try.underlying60 Try.sizeOf25 rfl rfl hrow rfl) rfl rfl rfl ?_
              refine AO.yld _ (Yld.fieldAddr Try.underlying25 rfl rfl Try.sizeOf2 rfl rfl rfl) rfl rfl rfl ?_
              refine AO.yld _ (Yld.load Try.isAgg2 rfl rfl) rfl rfl rfl ?_
              refine AO.yld _ (Yld.sub rfl rfl (by omega) (by omega)) rfl rfl rfl ?_
              refine AO.yld _ (Yld.move rfl) rfl rfl rfl ?_
              refine AO.yld _ (Yld.move rfl) rfl rfl rfl ?_
              refine AO.yld _ (Yld.indexSl Try.underlying60 Try.sizeOf25 rfl rfl hrow2 rfl) rfl rfl rfl ?_
              refine AO.yld _ (Yld.fieldAddr Try.underlying25 rfl rfl Try.sizeOf2 rfl rfl rfl) rfl rfl rfl ?_
              refine AO.yld _ (Yld.load Try.isAgg2 rfl rfl) rfl rfl rfl ?_
              refine AO.yld _ (Yld.move rfl) rfl rfl rfl ?_
              refine AO.yld _ (Yld.move rfl) rfl rfl rfl ?_
              refine AO.yld _ (Yld.indexSl Try.underlying60 Try.sizeOf25 rfl rfl hrow2 rfl) rfl rfl rfl ?_
              refine AO.yld _ (Yld.fieldAddr Try.underlying25 rfl rfl Try.sizeOf2 rfl rfl rfl) rfl rfl rfl ?_
              refine AO.yld _ (Yld.load Try.isAgg2 rfl rfl) rfl rfl rfl ?_
              refine AO.yld _ (Yld.sub rfl rfl (by omega) (by omega)) rfl rfl rfl ?_
              refine AO.yld _ (Yld.int rfl rfl rfl) rfl rfl rfl ?_
              refine AO.nil ?_
              refine AC.cond _ rfl (fun c54 => ?_) (fun c54 => ?_)
              · -- c54 True
                refine AC.region ?_
                refine AO.yld _ (Yld.move rfl) rfl rfl rfl ?_
                refine AO.yld _ (Yld.assign rfl) rfl rfl rfl ?_
                refine AO.nil ?_
                refine AC.mark ?_
                refine AC.region ?_
                refine AO.yld _ (Yld.move rfl) rfl rfl rfl ?_
                refine AO.yld _ (Yld.add rfl rfl (by omega) (by omega)) rfl rfl rfl ?_
                refine AO.yld _ (Yld.assign rfl) rfl rfl rfl ?_
                refine AO.nil ?_
                refine AC.back ⟨k + 1, ?_, ?_, ⟨?_, ?_, trivial⟩, trivial, ⟨rfl, trivial⟩, trivial⟩
                · exact ⟨by omega, hk⟩
                · omega
                · rfl
                · show some (AV.p (PV.v (Value.int IntKind.i64 _))) = _; first | rw [bestTo_T hx hy (by simpa [ltSample] using c54)] | rw [bestTo_F hx hy (by simpa [ltSample] using c54)]
              · -- c54 False
                refine AC.skip ?_
                refine AC.mark ?_
                refine AC.region ?_
                refine AO.yld _ (Yld.move rfl) rfl rfl rfl ?_
                refine AO.yld _ (Yld.add rfl rfl (by omega) (by omega)) rfl rfl rfl ?_
                refine AO.yld _ (Yld.assign rfl) rfl rfl rfl ?_
                refine AO.nil ?_
                refine AC.back ⟨k + 1, ?_, ?_, ⟨?_, ?_, trivial⟩, trivial, ⟨rfl, trivial⟩, trivial⟩
                · exact ⟨by omega, hk⟩
                · omega
                · rfl
                · show some (AV.p (PV.v (Value.int IntKind.i64 _))) = _; first | rw [bestTo_T hx hy (by simpa [ltSample] using c54)] | rw [bestTo_F hx hy (by simpa [ltSample] using c54)]
            · -- c29 False
              obtain rfl : k = xs.length := by have := ge_of_decM c29; omega
              refine AC.exit rfl ?_
              refine AC.seq ?_
              refine AC.region ?_
              refine AO.yld _ (Yld.move rfl) rfl rfl rfl ?_
              refine AO.yld _ (Yld.assign rfl) rfl rfl rfl ?_
              refine AO.yld _ (Yld.assign rfl) rfl rfl rfl ?_
              refine AO.nil ?_
              refine Pure.retT Try.results84 (RVs.cons (RV.tmp rfl) (RVs.cons (RV.tmp rfl) RVs.nil)) rfl ?_
              first
                | (have e : xs.all okSample = false := all_miss hx (by simpa [okSample] using c17)
                   simp [bestSample, e])
                | (have e : (decide (1 ≤ xs.length) && decide (xs.length ≤ 24)) = false := by (first | (have h := c25; simp only [List.length_map] at h; grind) | (have h := s21; simp only [List.length_map] at h; grind))
                   simp only [bestSample, hall, e]; rfl)
                | (have e : (decide (1 ≤ xs.length) && decide (xs.length ≤ 24)) = true := by (simp; omega)
                   simp only [bestSample, hall, e]; rfl)

theorem spec_BestSample_c {xs : List Sample} (hn : xs.length ≤ 1048576) :
    Pure Try.prog 38 [.sl 3 (xs.map encSample)] (.tup [.v (.int .i64 (bestSample xs).1), .v (.int .i64 (bestSample xs).2)]) := by
  refine Pure.intro Try.func38 rfl Try.ntmps38 rfl rfl (fun w => ?_)
  refine AC.seq ?_
  refine AC.region ?_
  refine AO.yld _ (Yld.assign rfl) rfl rfl rfl ?_
  refine AO.yld _ (Yld.assign rfl) rfl rfl rfl ?_
  refine AO.nil ?_
  refine AC.seq ?_
  refine AC.region ?_
  refine AO.yld _ (Yld.move rfl) rfl rfl rfl ?_
  refine AO.yld _ (Yld.call rfl rfl Try.call84 rfl rfl rfl (spec_l26Best_c (by first | assumption | omega)) rfl) rfl rfl rfl ?_
  refine AO.yld _ (Yld.extract rfl rfl rfl) rfl rfl rfl ?_
  refine AO.yld _ (Yld.extract rfl rfl rfl) rfl rfl rfl ?_
  refine AO.yld _ (Yld.assign rfl) rfl rfl rfl ?_
  refine AO.yld _ (Yld.assign rfl) rfl rfl rfl ?_
  refine AO.nil ?_
  refine Pure.retT Try.results38 (RVs.cons (RV.tmp rfl) (RVs.cons (RV.tmp rfl) RVs.nil)) rfl ?_
  first | rfl | (simp_all; done) | (simp_all; intros; omega) | grind

theorem best1_c {x : Sample} :
    Pure Try.prog 86 [.agg (encSample x)] (.v (.bool (!okSample x))) := by
  refine Pure.intro Try.func86 rfl Try.ntmps86 rfl rfl (fun w => ?_)
  refine AC.seq ?_
  refine AC.region ?_
  refine AO.box 0 rfl rfl rfl rfl rfl ?_
  refine AO.yld _ (Yld.assign rfl) rfl rfl rfl ?_
  refine AO.nil ?_
  refine AC.seq ?_
  refine AC.region ?_
  refine AO.yld _ (Yld.loadAgg Try.isAgg25 Try.sizeOf25 rfl rfl rfl rfl) rfl rfl rfl ?_
  refine AO.yld _ (Yld.call rfl rfl Try.call17 rfl rfl rfl (impl_ValidSample_c) rfl) rfl rfl rfl ?_
  refine AO.yld _ (Yld.not rfl) rfl rfl rfl ?_
  refine AO.yld _ (Yld.assign rfl) rfl rfl rfl ?_
  refine AO.nil ?_
  refine Pure.ret Try.results86 (RVs.cons (RV.tmp rfl) RVs.nil) rfl ?_
  rfl

theorem impl_BestSample_c {xs : List Sample} (hn : xs.length ≤ 1048576) :
    Pure Try.prog 40 [.sl 3 (xs.map encSample)] (.tup [.v (.int .i64 (bestSample xs).1), .v (.int .i64 (bestSample xs).2)]) := by
  refine Pure.intro Try.func40 rfl Try.ntmps40 rfl rfl (fun w => ?_)
  refine AC.seq ?_
  refine AC.region ?_
  refine AO.yld _ (Yld.assign rfl) rfl rfl rfl ?_
  refine AO.yld _ (Yld.assign rfl) rfl rfl rfl ?_
  refine AO.nil ?_
  refine AC.seq ?_
  refine AC.seq ?_
  refine AC.region ?_
  refine AO.yld _ (Yld.move rfl) rfl rfl rfl ?_
  refine AO.yld _ (Yld.call rfl rfl Try.call85 rfl rfl rfl (containsFuncSample_c (p := fun x => !okSample x) (by omega) Try.call86 (fun x _ => best1_c)) rfl) rfl rfl rfl ?_
  refine AO.nil ?_
  refine AC.cond _ rfl (fun c8 => ?_) (fun c8 => ?_)
  · -- c8 True
    refine AC.seq ?_
    refine AC.region ?_
    refine AO.yld _ (Yld.assign rfl) rfl rfl rfl ?_
    refine AO.yld _ (Yld.assign rfl) rfl rfl rfl ?_
    refine AO.nil ?_
    refine Pure.retT Try.results40 (RVs.cons (RV.tmp rfl) (RVs.cons (RV.tmp rfl) RVs.nil)) rfl ?_
    first
      | (have e : xs.all okSample = false := by have h := c8; rw [all_not] at h; simpa using h
         simp [bestSample, e])
      | (have e : (decide (1 ≤ xs.length) && decide (xs.length ≤ 24)) = false := by (have h := c12; simp only [List.length_map] at h; grind)
         simp only [bestSample, hall, e]; rfl)
      | (have e : (decide (1 ≤ xs.length) && decide (xs.length ≤ 24)) = true := by (simp; omega)
         simp only [bestSample, hall, e]; rfl)
  · -- c8 False
    have hall : xs.all okSample = true := by have h := c8; rw [all_not] at h; simpa using h
    refine AC.skip ?_
    refine AC.seq ?_
    refine AC.seq ?_
    refine AC.region ?_
    refine AO.yld _ (Yld.move rfl) rfl rfl rfl ?_
    refine AO.yld _ (Yld.len Try.underlying60 rfl rfl) rfl rfl rfl ?_
    refine AO.yld _ (Yld.call rfl rfl Try.call65 rfl rfl rfl (impl_within_c) rfl) rfl rfl rfl ?_
    refine AO.yld _ (Yld.not rfl) rfl rfl rfl ?_
    refine AO.nil ?_
    refine AC.cond _ rfl (fun c12 => ?_) (fun c12 => ?_)
    · -- c12 True
      refine AC.seq ?_
      refine AC.region ?_
      refine AO.yld _ (Yld.assign rfl) rfl rfl rfl ?_
      refine AO.yld _ (Yld.assign rfl) rfl rfl rfl ?_
      refine AO.nil ?_
      refine Pure.retT Try.results40 (RVs.cons (RV.tmp rfl) (RVs.cons (RV.tmp rfl) RVs.nil)) rfl ?_
      first
        | (have e : xs.all okSample = false := by have h := c8; rw [all_not] at h; simpa using h
           simp [bestSample, e])
        | (have e : (decide (1 ≤ xs.length) && decide (xs.length ≤ 24)) = false := by (have h := c12; simp only [List.length_map] at h; grind)
           simp only [bestSample, hall, e]; rfl)
        | (have e : (decide (1 ≤ xs.length) && decide (xs.length ≤ 24)) = true := by (simp; omega)
           simp only [bestSample, hall, e]; rfl)
    · -- c12 False
      have hl1 : 1 ≤ xs.length ∧ xs.length ≤ 24 := by have h := c12; simp only [List.length_map] at h; grind
      refine AC.skip ?_
      refine AC.seq ?_
      refine AC.region ?_
      refine AO.yld _ (Yld.assign rfl) rfl rfl rfl ?_
      refine AO.nil ?_
      refine AC.seq ?_
      refine AC.seq ?_
      refine AC.region ?_
      refine AO.yld _ (Yld.move rfl) rfl rfl rfl ?_
      refine AO.yld _ (Yld.len Try.underlying60 rfl rfl) rfl rfl rfl ?_
      refine AO.yld _ (Yld.move rfl) rfl rfl rfl ?_
      refine AO.nil ?_
      refine AC.block ?_
      refine AC.loopC [(0, _), (13, _), (14, _)] [] (fun (k : Nat) => [(15, .p (.v (.int .i64 (k : Int)))), (4, .p (.v (.int .i64 (bestTo ltSample xs k : Int))))]) (fun (k : Nat) => []) (fun (k : Nat) => k ≤ xs.length) (fun (k : Nat) => xs.length - k) 0 ⟨rfl, rfl, rfl, trivial⟩ trivial ⟨rfl, rfl, trivial⟩ trivial ?_ (fun k hJ => ?_)
      · simp
      · -- round
        refine AC.seq ?_
        refine AC.region ?_
        refine AO.yld _ (Yld.int rfl rfl rfl) rfl rfl rfl ?_
        refine AO.nil ?_
        refine AC.seq ?_
        refine AC.cond _ rfl (fun c16 => ?_) (fun c16 => ?_)
        · -- c16 True
          have hk := lt_of_decM c16
          obtain ⟨x, hx⟩ := get_some hk
          have hrow := map_row (enc := encSample) hx
          obtain ⟨y, hy⟩ := get_some (bestTo_le (lt := ltSample) (xs := xs) (k := k) (n := xs.length) (by omega) (by omega))
          have hrow2 := map_row (enc := encSample) hy
          have hl3 := sample_lim (all_at hall hx)
          have hl4 := sample_lim (all_at hall hy)
          refine AC.skip ?_
          refine AC.seq ?_
          refine AC.block ?_
          refine AC.seq ?_
          refine AC.region ?_
          refine AO.yld _ (Yld.move rfl) rfl rfl rfl ?_
          refine AO.yld _ (Yld.indexSl Try.underlying60 Try.sizeOf25 rfl rfl hrow rfl) rfl rfl rfl ?_
          refine AO.yld _ (Yld.loadAgg Try.isAgg25 Try.sizeOf25 rfl rfl rfl rfl) rfl rfl rfl ?_
          refine AO.alloc 0 Try.zeroValue25 rfl rfl rfl ?_
          refine AO.yld _ (Yld.assign rfl) rfl rfl rfl ?_
          refine AO.store Try.sizeOf25 rfl rfl rfl rfl rfl rfl ?_
          refine AO.nil ?_
          refine AC.seq ?_
          refine AC.draw (by kernel_rfl) (by kernel_rfl) ?_
          refine AO.yld _ (Yld.fieldAddr Try.underlying25 rfl rfl Try.sizeOf2 rfl rfl rfl) rfl rfl rfl ?_
          refine AO.yld _ (Yld.load Try.isAgg2 rfl rfl) rfl rfl rfl ?_
          refine AO.yld _ (Yld.fieldAddr Try.underlying25 rfl rfl Try.sizeOf2 rfl rfl rfl) rfl rfl rfl ?_
          refine AO.yld _ (Yld.load Try.isAgg2 rfl rfl) rfl rfl rfl ?_
          refine AO.yld _ (Yld.sub rfl rfl (by omega) (by omega)) rfl rfl rfl ?_
          refine AO.yld _ (Yld.move rfl) rfl rfl rfl ?_
          refine AO.yld _ (Yld.move rfl) rfl rfl rfl ?_
          refine AO.yld _ (Yld.indexSl Try.underlying60 Try.sizeOf25 rfl rfl hrow2 rfl) rfl rfl rfl ?_
          refine AO.yld _ (Yld.fieldAddr Try.underlying25 rfl rfl Try.sizeOf2 rfl rfl rfl) rfl rfl rfl ?_
          refine AO.yld _ (Yld.load Try.isAgg2 rfl rfl) rfl rfl rfl ?_
          refine AO.yld _ (Yld.move rfl) rfl rfl rfl ?_
          refine AO.yld _ (Yld.move rfl) rfl rfl rfl ?_
          refine AO.yld _ (Yld.indexSl Try.underlying60 Try.sizeOf25 rfl rfl hrow2 rfl) rfl rfl rfl ?_
          refine AO.yld _ (Yld.fieldAddr Try.underlying25 rfl rfl Try.sizeOf2 rfl rfl rfl) rfl rfl rfl ?_
          refine AO.yld _ (Yld.load Try.isAgg2 rfl rfl) rfl rfl rfl ?_
          refine AO.yld _ (Yld.sub rfl rfl (by omega) (by omega)) rfl rfl rfl ?_
          refine AO.yld _ (Yld.int rfl rfl rfl) rfl rfl rfl ?_
          refine AO.nil ?_
          refine AC.cond _ rfl (fun c36 => ?_) (fun c36 => ?_)
          · -- c36 True
            refine AC.region ?_
            refine AO.yld _ (Yld.move rfl) rfl rfl rfl ?_
            refine AO.yld _ (Yld.assign rfl) rfl rfl rfl ?_
            refine AO.nil ?_
            refine AC.mark ?_
            refine AC.region ?_
            refine AO.yld _ (Yld.add rfl rfl (by omega) (by omega)) rfl rfl rfl ?_
            refine AO.yld _ (Yld.move rfl) rfl rfl rfl ?_
            refine AO.nil ?_
            refine AC.back ⟨k + 1, ?_, ?_, ⟨?_, ?_, trivial⟩, trivial, ⟨rfl, rfl, rfl, trivial⟩, trivial⟩
            · exact hk
            · omega
            · rfl
            · show some (AV.p (PV.v (Value.int IntKind.i64 _))) = _; first | rw [bestTo_T hx hy (by simpa [ltSample] using c36)] | rw [bestTo_F hx hy (by simpa [ltSample] using c36)]
          · -- c36 False
            refine AC.skip ?_
            refine AC.mark ?_
            refine AC.region ?_
            refine AO.yld _ (Yld.add rfl rfl (by omega) (by omega)) rfl rfl rfl ?_
            refine AO.yld _ (Yld.move rfl) rfl rfl rfl ?_
            refine AO.nil ?_
            refine AC.back ⟨k + 1, ?_, ?_, ⟨?_, ?_, trivial⟩, trivial, ⟨rfl, rfl, rfl, trivial⟩, trivial⟩
            · exact hk
            · omega
            · rfl
            · show some (AV.p (PV.v (Value.int IntKind.i64 _))) = _; first | rw [bestTo_T hx hy (by simpa [ltSample] using c36)] | rw [bestTo_F hx hy (by simpa [ltSample] using c36)]
        · -- c16 False
          obtain rfl : k = xs.length := by have := ge_of_decM c16; omega
          refine AC.exit rfl ?_
          refine AC.seq ?_
          refine AC.region ?_
          refine AO.yld _ (Yld.move rfl) rfl rfl rfl ?_
          refine AO.yld _ (Yld.assign rfl) rfl rfl rfl ?_
          refine AO.yld _ (Yld.assign rfl) rfl rfl rfl ?_
          refine AO.nil ?_
          refine Pure.retT Try.results40 (RVs.cons (RV.tmp rfl) (RVs.cons (RV.tmp rfl) RVs.nil)) rfl ?_
          first
            | (have e : xs.all okSample = false := by have h := c8; rw [all_not] at h; simpa using h
               simp [bestSample, e])
            | (have e : (decide (1 ≤ xs.length) && decide (xs.length ≤ 24)) = false := by (have h := c12; simp only [List.length_map] at h; grind)
               simp only [bestSample, hall, e]; rfl)
            | (have e : (decide (1 ≤ xs.length) && decide (xs.length ≤ 24)) = true := by (simp; omega)
               simp only [bestSample, hall, e]; rfl)

theorem spec_l28Drift_c {xs : List Session} (hn : xs.length ≤ 1048576) (hok : okSessions xs = true) :
    Pure Try.prog 105 [.sl 4 (xs.map encSession)] (.v (.int .i64 (driftTo xs xs.length))) := by
  have hlen : 1 ≤ xs.length := by unfold okSessions at hok; grind
  have hoks : okB okSession geDay xs = true := by unfold okSessions at hok; grind
  refine Pure.intro Try.func105 rfl Try.ntmps105 rfl rfl (fun w => ?_)
  refine AC.seq ?_
  refine AC.region ?_
  refine AO.yld _ (Yld.assign rfl) rfl rfl rfl ?_
  refine AO.nil ?_
  refine AC.seq ?_
  refine AC.region ?_
  refine AO.yld _ (Yld.assign rfl) rfl rfl rfl ?_
  refine AO.nil ?_
  refine AC.seq ?_
  refine AC.seq ?_
  refine AC.region ?_
  refine AO.yld _ (Yld.assign rfl) rfl rfl rfl ?_
  refine AO.nil ?_
  refine AC.block ?_
  refine AC.loopC [(0, _), (2, _)] [] (fun (k : Nat) => [(4, .p (.v (.int .i64 (k : Int)))), (3, .p (.v (.int .i64 (driftTo xs k))))]) (fun (k : Nat) => []) (fun (k : Nat) => 1 ≤ k ∧ k ≤ xs.length) (fun (k : Nat) => xs.length - k) 1 ⟨rfl, rfl, trivial⟩ trivial ⟨rfl, by rw [driftTo_one]; rfl, trivial⟩ trivial ?_ (fun k hJ => ?_)
  · exact ⟨by omega, hlen⟩
  · -- round
    refine AC.seq ?_
    refine AC.seq ?_
    refine AC.region ?_
    refine AO.yld _ (Yld.move rfl) rfl rfl rfl ?_
    refine AO.yld _ (Yld.move rfl) rfl rfl rfl ?_
    refine AO.yld _ (Yld.len Try.underlying47 rfl rfl) rfl rfl rfl ?_
    refine AO.yld _ (Yld.int rfl rfl rfl) rfl rfl rfl ?_
    refine AO.nil ?_
    refine AC.cond _ rfl (fun c9 => ?_) (fun c9 => ?_)
    · -- c9 True
      have hk := lt_of_decM c9
      obtain ⟨x, hx⟩ := get_some hk
      have hrow := map_row (enc := encSession) hx
      obtain ⟨y, hy⟩ := get_some (xs := xs) (k := k - 1) (by omega)
      have hrow2 := map_row (enc := encSession) hy
      have hl3 := session_lim (okB_at hoks hx)
      have hl4 := session_lim (okB_at hoks hy)
      have hl5 : y.day < x.day := by have h := okB_next hoks hx (by omega) hy; simpa [geDay] using h
      have hl6 := absI_lim (x.turn - y.turn)
      have hl7 := absI_lim (x.lift - y.lift)
      refine AC.skip ?_
      refine AC.seq ?_
      refine AC.block ?_
      refine AC.seq ?_
      refine AC.draw (by kernel_rfl) (by kernel_rfl) ?_
      refine AO.yld _ (Yld.move rfl) rfl rfl rfl ?_
      refine AO.yld _ (Yld.move rfl) rfl rfl rfl ?_
      refine AO.yld _ (Yld.indexSl Try.underlying47 Try.sizeOf109 rfl rfl hrow rfl) rfl rfl rfl ?_
      refine AO.yld _ (Yld.fieldAddr Try.underlying109 rfl rfl Try.sizeOf2 rfl rfl rfl) rfl rfl rfl ?_
      refine AO.yld _ (Yld.load Try.isAgg2 rfl rfl) rfl rfl rfl ?_
      refine AO.yld _ (Yld.move rfl) rfl rfl rfl ?_
      refine AO.yld _ (Yld.move rfl) rfl rfl rfl ?_
      refine AO.yld _ (Yld.sub rfl rfl (by omega) (by omega)) rfl rfl rfl ?_
      refine AO.yld _ (Yld.indexSl Try.underlying47 Try.sizeOf109 rfl rfl hrow2 (by omega)) rfl rfl rfl ?_
      refine AO.yld _ (Yld.fieldAddr Try.underlying109 rfl rfl Try.sizeOf2 rfl rfl rfl) rfl rfl rfl ?_
      refine AO.yld _ (Yld.load Try.isAgg2 rfl rfl) rfl rfl rfl ?_
      refine AO.yld _ (Yld.sub rfl rfl (by omega) (by omega)) rfl rfl rfl ?_
      refine AO.yld _ (Yld.call rfl rfl Try.call110 rfl rfl rfl (spec_l02Abs_c (by omega) (by omega)) rfl) rfl rfl rfl ?_
      refine AO.yld _ (Yld.move rfl) rfl rfl rfl ?_
      refine AO.yld _ (Yld.move rfl) rfl rfl rfl ?_
      refine AO.yld _ (Yld.indexSl Try.underlying47 Try.sizeOf109 rfl rfl hrow rfl) rfl rfl rfl ?_
      refine AO.yld _ (Yld.fieldAddr Try.underlying109 rfl rfl Try.sizeOf2 rfl rfl rfl) rfl rfl rfl ?_
      refine AO.yld _ (Yld.load Try.isAgg2 rfl rfl) rfl rfl rfl ?_
      refine AO.yld _ (Yld.move rfl) rfl rfl rfl ?_
      refine AO.yld _ (Yld.move rfl) rfl rfl rfl ?_
      refine AO.yld _ (Yld.sub rfl rfl (by omega) (by omega)) rfl rfl rfl ?_
      refine AO.yld _ (Yld.indexSl Try.underlying47 Try.sizeOf109 rfl rfl hrow2 (by omega)) rfl rfl rfl ?_
      refine AO.yld _ (Yld.fieldAddr Try.underlying109 rfl rfl Try.sizeOf2 rfl rfl rfl) rfl rfl rfl ?_
      refine AO.yld _ (Yld.load Try.isAgg2 rfl rfl) rfl rfl rfl ?_
      refine AO.yld _ (Yld.sub rfl rfl (by omega) (by omega)) rfl rfl rfl ?_
      refine AO.yld _ (Yld.call rfl rfl Try.call110 rfl rfl rfl (spec_l02Abs_c (by omega) (by omega)) rfl) rfl rfl rfl ?_
      refine AO.yld _ (Yld.call rfl rfl Try.call120 rfl rfl rfl (spec_l00Max_c) rfl) rfl rfl rfl ?_
      refine AO.yld _ (Yld.assign rfl) rfl rfl rfl ?_
      refine AO.nil ?_
      refine AC.draw (by kernel_rfl) (by kernel_rfl) ?_
      refine AO.yld _ (Yld.move rfl) rfl rfl rfl ?_
      refine AO.yld _ (Yld.move rfl) rfl rfl rfl ?_
      refine AO.yld _ (Yld.move rfl) rfl rfl rfl ?_
      refine AO.yld _ (Yld.move rfl) rfl rfl rfl ?_
      refine AO.yld _ (Yld.indexSl Try.underlying47 Try.sizeOf109 rfl rfl hrow rfl) rfl rfl rfl ?_
      refine AO.yld _ (Yld.fieldAddr Try.underlying109 rfl rfl Try.sizeOf2 rfl rfl rfl) rfl rfl rfl ?_
      refine AO.yld _ (Yld.load Try.isAgg2 rfl rfl) rfl rfl rfl ?_
      refine AO.yld _ (Yld.move rfl) rfl rfl rfl ?_
      refine AO.yld _ (Yld.move rfl) rfl rfl rfl ?_
      refine AO.yld _ (Yld.sub rfl rfl (by omega) (by omega)) rfl rfl rfl ?_
      refine AO.yld _ (Yld.indexSl Try.underlying47 Try.sizeOf109 rfl rfl hrow2 (by omega)) rfl rfl rfl ?_
      refine AO.yld _ (Yld.fieldAddr Try.underlying109 rfl rfl Try.sizeOf2 rfl rfl rfl) rfl rfl rfl ?_
      refine AO.yld _ (Yld.load Try.isAgg2 rfl rfl) rfl rfl rfl ?_
      refine AO.yld _ (Yld.sub rfl rfl (by omega) (by omega)) rfl rfl rfl ?_
      refine AO.yld _ (Yld.call rfl rfl Try.call121 rfl rfl rfl (spec_l14Up_c (by omega) (by omega) (by omega)) rfl) rfl rfl rfl ?_
      refine AO.yld _ (Yld.call rfl rfl Try.call120 rfl rfl rfl (spec_l00Max_c) rfl) rfl rfl rfl ?_
      refine AO.yld _ (Yld.assign rfl) rfl rfl rfl ?_
      refine AO.nil ?_
      refine AC.mark ?_
      refine AC.region ?_
      refine AO.yld _ (Yld.move rfl) rfl rfl rfl ?_
      refine AO.yld _ (Yld.add rfl rfl (by omega) (by omega)) rfl rfl rfl ?_
      refine AO.yld _ (Yld.assign rfl) rfl rfl rfl ?_
      refine AO.nil ?_
      refine AC.back ⟨k + 1, ?_, ?_, ⟨?_, ?_, trivial⟩, trivial, ⟨rfl, rfl, trivial⟩, trivial⟩
      · exact ⟨by omega, hk⟩
      · omega
      · rfl
      · show some (AV.p (PV.v (Value.int IntKind.i64 _))) = _; rw [driftTo_succ (by omega) hx hy]; rfl
    · -- c9 False
      obtain rfl : k = xs.length := by have := ge_of_decM c9; omega
      refine AC.exit rfl ?_
      refine AC.seq ?_
      refine AC.region ?_
      refine AO.yld _ (Yld.move rfl) rfl rfl rfl ?_
      refine AO.yld _ (Yld.assign rfl) rfl rfl rfl ?_
      refine AO.nil ?_
      refine Pure.ret Try.results105 (RVs.cons (RV.tmp rfl) RVs.nil) rfl ?_
      rfl

theorem spec_DriftPerDay_c {xs : List Session} (hn : xs.length ≤ 1048576) :
    Pure Try.prog 62 [.sl 4 (xs.map encSession)] (.tup [.v (.int .i64 (driftPerDay xs).1), .v (.int .i64 (driftPerDay xs).2)]) := by
  refine Pure.intro Try.func62 rfl Try.ntmps62 rfl rfl (fun w => ?_)
  refine AC.seq ?_
  refine AC.region ?_
  refine AO.yld _ (Yld.assign rfl) rfl rfl rfl ?_
  refine AO.yld _ (Yld.assign rfl) rfl rfl rfl ?_
  refine AO.nil ?_
  refine AC.seq ?_
  refine AC.seq ?_
  refine AC.region ?_
  refine AO.yld _ (Yld.move rfl) rfl rfl rfl ?_
  refine AO.yld _ (Yld.call rfl rfl Try.call75 rfl rfl rfl (spec_l28Ok_c (by first | assumption | omega)) rfl) rfl rfl rfl ?_
  refine AO.yld _ (Yld.not rfl) rfl rfl rfl ?_
  refine AO.nil ?_
  refine AC.cond _ rfl (fun c6 => ?_) (fun c6 => ?_)
  · -- c6 True
    refine AC.seq ?_
    refine AC.region ?_
    refine AO.yld _ (Yld.assign rfl) rfl rfl rfl ?_
    refine AO.yld _ (Yld.assign rfl) rfl rfl rfl ?_
    refine AO.nil ?_
    refine Pure.retT Try.results62 (RVs.cons (RV.tmp rfl) (RVs.cons (RV.tmp rfl) RVs.nil)) rfl ?_
    first | (simp_all [driftPerDay]; done) | grind [driftPerDay]
  · -- c6 False
    refine AC.skip ?_
    refine AC.seq ?_
    refine AC.seq ?_
    refine AC.region ?_
    refine AO.yld _ (Yld.move rfl) rfl rfl rfl ?_
    refine AO.yld _ (Yld.len Try.underlying47 rfl rfl) rfl rfl rfl ?_
    refine AO.yld _ (Yld.int rfl rfl rfl) rfl rfl rfl ?_
    refine AO.nil ?_
    refine AC.cond _ rfl (fun c9 => ?_) (fun c9 => ?_)
    · -- c9 True
      refine AC.seq ?_
      refine AC.region ?_
      refine AO.yld _ (Yld.assign rfl) rfl rfl rfl ?_
      refine AO.yld _ (Yld.assign rfl) rfl rfl rfl ?_
      refine AO.nil ?_
      refine Pure.retT Try.results62 (RVs.cons (RV.tmp rfl) (RVs.cons (RV.tmp rfl) RVs.nil)) rfl ?_
      first | (simp_all [driftPerDay]; done) | grind [driftPerDay]
    · -- c9 False
      refine AC.skip ?_
      refine AC.seq ?_
      refine AC.region ?_
      refine AO.yld _ (Yld.move rfl) rfl rfl rfl ?_
      refine AO.yld _ (Yld.call rfl rfl Try.call105 rfl rfl rfl (spec_l28Drift_c (by omega) (by simpa using c6)) rfl) rfl rfl rfl ?_
      refine AO.yld _ (Yld.assign rfl) rfl rfl rfl ?_
      refine AO.yld _ (Yld.assign rfl) rfl rfl rfl ?_
      refine AO.nil ?_
      refine Pure.retT Try.results62 (RVs.cons (RV.tmp rfl) (RVs.cons (RV.tmp rfl) RVs.nil)) rfl ?_
      first | (simp_all [driftPerDay]; done) | grind [driftPerDay]

end Go.Proofs.Ytjmicabmkipomaa
