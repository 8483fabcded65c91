/- Contracts of functions of the program, each by a walk of its text in the calculus V. -/
import Derived.Test.YtnejigdldeipdaaCB
import Derived.Test.YtnejigdldeipdaaD28
import Derived.Test.YtnejigdldeipdaaV22
set_option linter.all false
set_option linter.unusedSimpArgs false
set_option linter.unnecessarySimpa false
set_option linter.unusedVariables false
namespace Go.Proofs.Ytnejigdldeipdaa
open Go Go.V
theorem ty3 : TyIs Try.prog 3 (.int .i64 0) 1 8 := by unfold TyIs; kernel_rfl

theorem cmp_isNaN_int64__c {x : Int} :
    Pure Try.prog 69 [.v (.int .i64 x)] (.v (.bool false)) := by
  refine Pure.intro Try.func69 rfl Try.ntmps69 rfl rfl (fun w => ?_)
  refine AC.seq ?_
  refine AC.region ?_
  refine AO.yld _ (Yld.assign rfl) rfl rfl rfl ?_
  refine AO.nil ?_
  refine AC.seq ?_
  refine AC.region ?_
  refine AO.yld _ (Yld.move rfl) rfl rfl rfl ?_
  refine AO.yld _ (Yld.move rfl) rfl rfl rfl ?_
  refine AO.yld _ (Yld.int rfl rfl rfl) rfl rfl rfl ?_
  refine AO.yld _ (Yld.assign rfl) rfl rfl rfl ?_
  refine AO.nil ?_
  refine Pure.ret Try.results69 (RVs.cons (RV.tmp rfl) RVs.nil) rfl ?_
  refine cb ?_; simp

theorem cmp_Compare_int64__c {x y : Int} :
    Pure Try.prog 52 [.v (.int .i64 x), .v (.int .i64 y)] (.v (.int .i64 (cmpI x y))) := by
  refine Pure.intro Try.func52 rfl Try.ntmps52 rfl rfl (fun w => ?_)
  refine AC.seq ?_
  refine AC.region ?_
  refine AO.yld _ (Yld.assign rfl) rfl rfl rfl ?_
  refine AO.nil ?_
  refine AC.seq ?_
  refine AC.region ?_
  refine AO.yld _ (Yld.move rfl) rfl rfl rfl ?_
  refine AO.yld _ (Yld.call rfl rfl Try.call69 rfl rfl rfl (cmp_isNaN_int64__c) rfl) rfl rfl rfl ?_
  refine AO.yld _ (Yld.assign rfl) rfl rfl rfl ?_
  refine AO.nil ?_
  refine AC.seq ?_
  refine AC.region ?_
  refine AO.yld _ (Yld.move rfl) rfl rfl rfl ?_
  refine AO.yld _ (Yld.call rfl rfl Try.call69 rfl rfl rfl (cmp_isNaN_int64__c) rfl) rfl rfl rfl ?_
  refine AO.yld _ (Yld.assign rfl) rfl rfl rfl ?_
  refine AO.nil ?_
  refine AC.seq ?_
  refine AC.seq ?_
  refine AC.region ?_
  refine AO.yld _ (Yld.move rfl) rfl rfl rfl ?_
  refine AO.nil ?_
  refine AC.cond _ rfl (fun c11 => ?_) (fun c11 => ?_)
  · -- c11 True
    refine AC.seq ?_
    refine AC.seq ?_
    refine AC.region ?_
    refine AO.yld _ (Yld.move rfl) rfl rfl rfl ?_
    refine AO.nil ?_
    refine AC.cond _ rfl (fun c12 => ?_) (fun c12 => ?_)
    · -- c12 True
      refine AC.seq ?_
      refine AC.region ?_
      refine AO.yld _ (Yld.assign rfl) rfl rfl rfl ?_
      refine AO.nil ?_
      refine Pure.ret Try.results52 (RVs.cons (RV.tmp rfl) RVs.nil) rfl ?_
      refine ci ?_; unfold cmpI; first | (simp_all; done) | (simp_all; omega) | grind
    · -- c12 False
      refine AC.skip ?_
      refine AC.seq ?_
      refine AC.region ?_
      refine AO.yld _ (Yld.assign rfl) rfl rfl rfl ?_
      refine AO.nil ?_
      refine Pure.ret Try.results52 (RVs.cons (RV.tmp rfl) RVs.nil) rfl ?_
      refine ci ?_; unfold cmpI; first | (simp_all; done) | (simp_all; omega) | grind
  · -- c11 False
    refine AC.skip ?_
    refine AC.seq ?_
    refine AC.seq ?_
    refine AC.region ?_
    refine AO.yld _ (Yld.move rfl) rfl rfl rfl ?_
    refine AO.nil ?_
    refine AC.cond _ rfl (fun c13 => ?_) (fun c13 => ?_)
    · -- c13 True
      refine AC.seq ?_
      refine AC.region ?_
      refine AO.yld _ (Yld.assign rfl) rfl rfl rfl ?_
      refine AO.nil ?_
      refine Pure.ret Try.results52 (RVs.cons (RV.tmp rfl) RVs.nil) rfl ?_
      refine ci ?_; unfold cmpI; first | (simp_all; done) | (simp_all; omega) | grind
    · -- c13 False
      refine AC.skip ?_
      refine AC.seq ?_
      refine AC.seq ?_
      refine AC.region ?_
      refine AO.yld _ (Yld.move rfl) rfl rfl rfl ?_
      refine AO.yld _ (Yld.move rfl) rfl rfl rfl ?_
      refine AO.yld _ (Yld.int rfl rfl rfl) rfl rfl rfl ?_
      refine AO.nil ?_
      refine AC.cond _ rfl (fun c16 => ?_) (fun c16 => ?_)
      · -- c16 True
        refine AC.seq ?_
        refine AC.region ?_
        refine AO.yld _ (Yld.assign rfl) rfl rfl rfl ?_
        refine AO.nil ?_
        refine Pure.ret Try.results52 (RVs.cons (RV.tmp rfl) RVs.nil) rfl ?_
        refine ci ?_; unfold cmpI; first | (simp_all; done) | (simp_all; omega) | grind
      · -- c16 False
        refine AC.skip ?_
        refine AC.seq ?_
        refine AC.seq ?_
        refine AC.region ?_
        refine AO.yld _ (Yld.move rfl) rfl rfl rfl ?_
        refine AO.yld _ (Yld.move rfl) rfl rfl rfl ?_
        refine AO.yld _ (Yld.int rfl rfl rfl) rfl rfl rfl ?_
        refine AO.nil ?_
        refine AC.cond _ rfl (fun c19 => ?_) (fun c19 => ?_)
        · -- c19 True
          refine AC.seq ?_
          refine AC.region ?_
          refine AO.yld _ (Yld.assign rfl) rfl rfl rfl ?_
          refine AO.nil ?_
          refine Pure.ret Try.results52 (RVs.cons (RV.tmp rfl) RVs.nil) rfl ?_
          refine ci ?_; unfold cmpI; first | (simp_all; done) | (simp_all; omega) | grind
        · -- c19 False
          refine AC.skip ?_
          refine AC.seq ?_
          refine AC.region ?_
          refine AO.yld _ (Yld.assign rfl) rfl rfl rfl ?_
          refine AO.nil ?_
          refine Pure.ret Try.results52 (RVs.cons (RV.tmp rfl) RVs.nil) rfl ?_
          refine ci ?_; unfold cmpI; first | (simp_all; done) | (simp_all; omega) | grind

theorem greedy_cmp_c {gs : List Group} {i k : Int} (hi : 0 ≤ i ∧ i < gs.length) (hk : 0 ≤ k ∧ k < gs.length) :
    Pure Try.prog 51 [.v (.int .i64 i), .v (.int .i64 k), .ptr [.sl 3 (gs.map encGroup)]] (.v (.int .i64 (cmpI (pAt gs k) (pAt gs i)))) := by
  obtain ⟨n, rfl⟩ := Int.eq_ofNat_of_zero_le hi.1
  obtain ⟨m, rfl⟩ := Int.eq_ofNat_of_zero_le hk.1
  obtain ⟨g, hg⟩ := get_some (xs := gs) (k := n) (by omega)
  obtain ⟨h, hh⟩ := get_some (xs := gs) (k := m) (by omega)
  have hr1 := map_row (enc := encGroup) hg
  have hr2 := map_row (enc := encGroup) hh
  refine Pure.intro Try.func51 rfl Try.ntmps51 rfl rfl (fun w => ?_)
  refine AC.seq ?_
  refine AC.region ?_
  refine AO.yld _ (Yld.assign rfl) rfl rfl rfl ?_
  refine AO.nil ?_
  refine AC.seq ?_
  refine AC.draw (by kernel_rfl) (by kernel_rfl) ?_
  refine AO.yld _ (Yld.load Try.isAgg27 rfl rfl) rfl rfl rfl ?_
  refine AO.yld _ (Yld.move rfl) rfl rfl rfl ?_
  refine AO.yld _ (Yld.indexSl Try.underlying27 Try.sizeOf52 rfl rfl hr2 rfl) rfl rfl rfl ?_
  refine AO.yld _ (Yld.fieldAddr Try.underlying52 rfl rfl Try.sizeOf2 rfl rfl rfl) rfl rfl rfl ?_
  refine AO.yld _ (Yld.load Try.isAgg2 rfl rfl) rfl rfl rfl ?_
  refine AO.yld _ (Yld.load Try.isAgg27 rfl rfl) rfl rfl rfl ?_
  refine AO.yld _ (Yld.move rfl) rfl rfl rfl ?_
  refine AO.yld _ (Yld.indexSl Try.underlying27 Try.sizeOf52 rfl rfl hr1 rfl) rfl rfl rfl ?_
  refine AO.yld _ (Yld.fieldAddr Try.underlying52 rfl rfl Try.sizeOf2 rfl rfl rfl) rfl rfl rfl ?_
  refine AO.yld _ (Yld.load Try.isAgg2 rfl rfl) rfl rfl rfl ?_
  refine AO.yld _ (Yld.call rfl rfl Try.call52 rfl rfl rfl (cmp_Compare_int64__c) rfl) rfl rfl rfl ?_
  refine AO.yld _ (Yld.assign rfl) rfl rfl rfl ?_
  refine AO.nil ?_
  refine Pure.ret Try.results51 (RVs.cons (RV.tmp rfl) RVs.nil) rfl ?_
  refine ci ?_; rw [pAt_get hg, pAt_get hh]

theorem insSort_c {gs : List Group} (hok : okGroups gs = true) :
    FnE (α := Unit) Try.prog 79 [.h 0, .p (.v (.int .i64 0)), .p (.v (.int .i64 (gs.length : Int))), .clo 51 [.p (.ptr [.sl 3 (gs.map encGroup)])]] [(0, .vec 3 1 ((upTo gs.length).map encI))] [0] (fun _ => True) (fun _ => .tup []) (fun _ => [(0, .vec 3 1 ((ordTo gs gs.length).map encI))]) := by
  have hgl := groups_len hok
  refine FnE.intro Try.func79 rfl Try.ntmps79 rfl rfl (fun w0 F0 η φ w => ?_)
  refine AC.seq ?_
  refine AC.region ?_
  refine AO.yld _ (Yld.move rfl) rfl rfl rfl ?_
  refine AO.yld _ (Yld.add rfl rfl (by omega) (by omega)) rfl rfl rfl ?_
  refine AO.yld _ (Yld.assign rfl) rfl rfl rfl ?_
  refine AO.nil ?_
  refine AC.block ?_
  refine AC.loopC [(0, _), (1, _), (2, _), (3, _)] [(900, _)] (fun (k : Nat) => [(8, .p (.v (.int .i64 (k : Int))))]) (fun (k : Nat) => [(0, .vec 3 1 ((dataAt gs k).map encI))]) (fun (k : Nat) => 1 ≤ k ∧ (k ≤ gs.length ∨ (gs.length = 0 ∧ k = 1))) (fun (k : Nat) => gs.length + 1 - k) 1 ⟨rfl, rfl, rfl, rfl, trivial⟩ ⟨rfl, trivial⟩ ⟨rfl, trivial⟩ ⟨by rw [dataAt_one]; rfl, trivial⟩ ?_ (fun k hJ => ?_)
  · omega
  · -- round
    refine AC.seq ?_
    refine AC.seq ?_
    refine AC.region ?_
    refine AO.yld _ (Yld.move rfl) rfl rfl rfl ?_
    refine AO.yld _ (Yld.move rfl) rfl rfl rfl ?_
    refine AO.yld _ (Yld.int rfl rfl rfl) rfl rfl rfl ?_
    refine AO.nil ?_
    refine AC.cond _ rfl (fun c14 => ?_) (fun c14 => ?_)
    · -- c14 True
      have hk : k < gs.length := by have h := c14; simp at h; omega
      refine AC.skip ?_
      refine AC.seq ?_
      refine AC.block ?_
      refine AC.seq ?_
      refine AC.region ?_
      refine AO.yld _ (Yld.move rfl) rfl rfl rfl ?_
      refine AO.yld _ (Yld.assign rfl) rfl rfl rfl ?_
      refine AO.nil ?_
      refine AC.block ?_
      refine AC.loopC [(0, _), (1, _), (2, _), (3, _), (8, _)] [(900, _)] (fun (j : Nat) => [(9, .p (.v (.int .i64 (j : Int))))]) (fun (j : Nat) => [(0, .vec 3 1 ((midL (ordTo gs k) (k : Int) j ((upTo gs.length).drop (k + 1))).map encI))]) (fun (j : Nat) => j ≤ k ∧ insPos (beP gs k) (ordTo gs k) k = insPos (beP gs k) (ordTo gs k) j) (fun (j : Nat) => j) k ⟨rfl, rfl, rfl, rfl, rfl, trivial⟩ ⟨rfl, trivial⟩ ⟨rfl, trivial⟩ ⟨by rw [← dataAt_mid hk]; rfl, trivial⟩ ?_ (fun j hI => ?_)
      · exact ⟨Nat.le_refl _, rfl⟩
      · -- round
        have hol := ordTo_length gs k
        have hml := midL_len (o := ordTo gs k) (x := (k : Int)) (j := j) (r := (upTo gs.length).drop (k + 1)) (by omega)
        refine AC.seq ?_
        refine AC.seq ?_
        refine AC.draw (by kernel_rfl) (by kernel_rfl) ?_
        refine AO.yld _ (Yld.move rfl) rfl rfl rfl ?_
        refine AO.yld _ (Yld.move rfl) rfl rfl rfl ?_
        refine AO.yld _ (Yld.int rfl rfl rfl) rfl rfl rfl ?_
        refine AO.yld _ (Yld.move rfl) rfl rfl rfl ?_
        refine AO.splitAt 21 _ rfl (fun s21 => ?_) (fun s21 => ?_)
        · -- s21 True
          obtain ⟨jj, rfl⟩ : ∃ jj, j = jj + 1 := ⟨j - 1, by have h := s21; simp at h; omega⟩
          have hI1 := hI.1
          obtain ⟨y, hy⟩ := get_some (xs := ordTo gs k) (k := jj) (by omega)
          obtain ⟨m, rfl, hm⟩ := ord_get hy
          have hrA := map_row (enc := encI) (midL_at (o := ordTo gs k) (x := (k : Int)) (j := jj + 1) (r := (upTo gs.length).drop (k + 1)) (by omega))
          have hrB := map_row (enc := encI) (midL_pre (o := ordTo gs k) (x := (k : Int)) (r := (upTo gs.length).drop (k + 1)) (by omega) hy)
          have hrC : (((midL (ordTo gs k) (k : Int) (jj + 1) ((upTo gs.length).drop (k + 1))).map encI).set (jj + 1) (encI (m : Int)))[jj]? = some (encI (m : Int)) := by rw [List.getElem?_set_ne (by omega)]; exact hrB
          refine AO.yldG _ (Yld.move rfl) rfl rfl rfl rfl rfl ?_
          refine AO.yldG _ (Yld.move rfl) rfl rfl rfl rfl rfl ?_
          refine AO.yldG _ (Yld.move rfl) rfl rfl rfl rfl rfl ?_
          refine AO.yldG _ (Yld.indexVec Try.underlying71 Try.sizeOf3 rfl rfl rfl rfl (by simp only [List.length_map, hml]; omega)) rfl rfl rfl rfl rfl ?_
          refine AO.yldG _ (Yld.load Try.isAgg3 rfl (Eq.trans (behind_el rfl hrA) rfl)) rfl rfl rfl rfl rfl ?_
          refine AO.yldG _ (Yld.move rfl) rfl rfl rfl rfl rfl ?_
          refine AO.yldG _ (Yld.move rfl) rfl rfl rfl rfl rfl ?_
          refine AO.yldG _ (Yld.sub rfl rfl (by omega) (by omega)) rfl rfl rfl rfl rfl ?_
          refine AO.yldG _ (Yld.indexVec Try.underlying71 Try.sizeOf3 rfl rfl rfl (show _ = ((jj : Nat) : Int) by omega) (by simp only [List.length_map, hml]; omega)) rfl rfl rfl rfl rfl ?_
          refine AO.yldG _ (Yld.load Try.isAgg3 rfl (Eq.trans (behind_el rfl hrB) rfl)) rfl rfl rfl rfl rfl ?_
          refine AO.yldG _ (Yld.call rfl rfl Try.call51 rfl rfl rfl (greedy_cmp_c (gs := gs) (i := (k : Int)) (k := (m : Int)) (by omega) (by omega)) rfl) rfl rfl rfl rfl rfl ?_
          refine AO.yldG _ (Yld.int rfl rfl rfl) rfl rfl rfl rfl rfl ?_
          refine AO.yld _ (Yld.pickT rfl rfl) rfl rfl rfl ?_
          refine AO.nil ?_
          refine AC.cond _ rfl (fun c34 => ?_) (fun c34 => ?_)
          · -- c34 True
            have hbe : beP gs k (m : Int) = true := by have h := c34; rw [decide_eq_true_eq] at h; unfold beP; rw [decide_eq_true_eq]; exact cmpI_lt.1 h
            refine AC.skip ?_
            refine AC.seq ?_
            refine AC.block ?_
            apply AC.drawAny ⟨[(0, _), (1, _), (2, _), (3, _), (8, _), (9, _), (18, _), (19, _), (20, _), (21, _), (22, _), (23, _), (24, _), (25, _), (26, _), (27, _), (28, _), (29, _), (30, _), (31, _), (32, _), (33, _), (34, _), (37, _), (38, _), (39, _), (40, _), (41, _), (42, _), (43, _), (44, _), (45, _), (46, _), (47, _), (48, _), (49, _), (50, _), (51, _), (52, _)], [(0, _), (900, _)]⟩ (by kernel_rfl)
            · -- orders
              refine AN.take 0 rfl (by kernel_rfl) (by kernel_rfl) (by kernel_rfl) rfl rfl rfl (YldA.move rfl) ?_
              refine AN.take 1 rfl (by kernel_rfl) (by kernel_rfl) (by kernel_rfl) rfl rfl rfl (YldA.move rfl) ?_
              refine AN.take 2 rfl (by kernel_rfl) (by kernel_rfl) (by kernel_rfl) rfl rfl rfl (YldA.move rfl) ?_
              refine AN.take 3 rfl (by kernel_rfl) (by kernel_rfl) (by kernel_rfl) rfl rfl rfl (YldA.move rfl) ?_
              refine AN.take 4 rfl (by kernel_rfl) (by kernel_rfl) (by kernel_rfl) rfl rfl rfl (YldA.sub rfl rfl (by omega) (by omega)) ?_
              refine AN.take 5 rfl (by kernel_rfl) (by kernel_rfl) (by kernel_rfl) rfl rfl rfl (YldA.move rfl) ?_
              refine AN.take 6 rfl (by kernel_rfl) (by kernel_rfl) (by kernel_rfl) rfl rfl rfl (YldA.move rfl) ?_
              refine AN.take 7 rfl (by kernel_rfl) (by kernel_rfl) (by kernel_rfl) rfl rfl rfl (YldA.sub rfl rfl (by omega) (by omega)) ?_
              refine AN.take 8 rfl (by kernel_rfl) (by kernel_rfl) (by kernel_rfl) rfl rfl rfl (YldA.indexVec Try.underlying71 Try.sizeOf3 rfl rfl rfl (show _ = ((jj : Nat) : Int) by omega) (by simp only [List.length_map, hml]; omega)) ?_
              refine AN.take 10 rfl (by kernel_rfl) (by kernel_rfl) (by kernel_rfl) rfl rfl rfl (YldA.move rfl) ?_
              refine AN.take 11 rfl (by kernel_rfl) (by kernel_rfl) (by kernel_rfl) rfl rfl rfl (YldA.move rfl) ?_
              refine AN.take 12 rfl (by kernel_rfl) (by kernel_rfl) (by kernel_rfl) rfl rfl rfl (YldA.indexVec Try.underlying71 Try.sizeOf3 rfl rfl rfl rfl (by simp only [List.length_map, hml]; omega)) ?_
              refine AN.all (rs := [9, 13]) (by kernel_rfl) rfl ⟨?_, ?_, trivial⟩
              · refine Stp.eff rfl rfl (Eff.yld (Yld.load Try.isAgg3 rfl (Eq.trans (behind_el rfl hrB) rfl)) rfl rfl) ?_
                refine AN.all (rs := [13]) (by kernel_rfl) rfl ⟨?_, trivial⟩
                refine Stp.eff rfl rfl (Eff.yld (Yld.load Try.isAgg3 rfl (Eq.trans (behind_el rfl hrA) rfl)) rfl rfl) ?_
                refine AN.take 14 rfl (by kernel_rfl) (by kernel_rfl) (by kernel_rfl) rfl rfl rfl (YldA.indexVec Try.underlying71 Try.sizeOf3 rfl rfl rfl rfl (by simp only [List.length_map, hml]; omega)) ?_
                refine AN.all (rs := [15]) (by kernel_rfl) rfl ⟨?_, trivial⟩
                refine Stp.eff rfl rfl (Eff.store Try.sizeOf3 rfl rfl rfl rfl rfl (store_el rfl hrA rfl rfl)) ?_
                refine AN.take 16 rfl (by kernel_rfl) (by kernel_rfl) (by kernel_rfl) rfl rfl rfl (YldA.indexVec Try.underlying71 Try.sizeOf3 rfl rfl rfl (show _ = ((jj : Nat) : Int) by omega) (by first | (simp only [List.length_map, hml]; omega) | (simp only [List.length_set, List.length_map, hml]; omega))) ?_
                refine AN.all (rs := [17]) (by kernel_rfl) rfl ⟨?_, trivial⟩
                refine Stp.eff rfl rfl (Eff.store Try.sizeOf3 rfl rfl rfl rfl rfl (store_el rfl hrC rfl rfl)) ?_
                exact AN.done (by kernel_rfl) (Le.intro ⟨rfl, rfl, rfl, rfl, rfl, rfl, rfl, rfl, rfl, rfl, rfl, rfl, rfl, rfl, rfl, rfl, rfl, rfl, rfl, rfl, rfl, rfl, rfl, rfl, rfl, rfl, rfl, rfl, rfl, rfl, rfl, rfl, rfl, rfl, rfl, rfl, rfl, rfl, rfl, trivial⟩ ⟨rfl, rfl, trivial⟩)
              · refine Stp.eff rfl rfl (Eff.yld (Yld.load Try.isAgg3 rfl (Eq.trans (behind_el rfl hrA) rfl)) rfl rfl) ?_
                refine AN.all (rs := [9]) (by kernel_rfl) rfl ⟨?_, trivial⟩
                refine Stp.eff rfl rfl (Eff.yld (Yld.load Try.isAgg3 rfl (Eq.trans (behind_el rfl hrB) rfl)) rfl rfl) ?_
                refine AN.take 14 rfl (by kernel_rfl) (by kernel_rfl) (by kernel_rfl) rfl rfl rfl (YldA.indexVec Try.underlying71 Try.sizeOf3 rfl rfl rfl rfl (by simp only [List.length_map, hml]; omega)) ?_
                refine AN.all (rs := [15]) (by kernel_rfl) rfl ⟨?_, trivial⟩
                refine Stp.eff rfl rfl (Eff.store Try.sizeOf3 rfl rfl rfl rfl rfl (store_el rfl hrA rfl rfl)) ?_
                refine AN.take 16 rfl (by kernel_rfl) (by kernel_rfl) (by kernel_rfl) rfl rfl rfl (YldA.indexVec Try.underlying71 Try.sizeOf3 rfl rfl rfl (show _ = ((jj : Nat) : Int) by omega) (by first | (simp only [List.length_map, hml]; omega) | (simp only [List.length_set, List.length_map, hml]; omega))) ?_
                refine AN.all (rs := [17]) (by kernel_rfl) rfl ⟨?_, trivial⟩
                refine Stp.eff rfl rfl (Eff.store Try.sizeOf3 rfl rfl rfl rfl rfl (store_el rfl hrC rfl rfl)) ?_
                exact AN.done (by kernel_rfl) (Le.intro ⟨rfl, rfl, rfl, rfl, rfl, rfl, rfl, rfl, rfl, rfl, rfl, rfl, rfl, rfl, rfl, rfl, rfl, rfl, rfl, rfl, rfl, rfl, rfl, rfl, rfl, rfl, rfl, rfl, rfl, rfl, rfl, rfl, rfl, rfl, rfl, rfl, rfl, rfl, rfl, trivial⟩ ⟨rfl, rfl, trivial⟩)
            · -- behind
              refine AC.mark ?_
              refine AC.region ?_
              refine AO.yld _ (Yld.move rfl) rfl rfl rfl ?_
              refine AO.yld _ (Yld.sub rfl rfl (by omega) (by omega)) rfl rfl rfl ?_
              refine AO.yld _ (Yld.assign rfl) rfl rfl rfl ?_
              refine AO.nil ?_
              refine AC.back ⟨jj, ?_, ?_, ⟨?_, trivial⟩, ⟨?_, trivial⟩, ⟨rfl, rfl, rfl, rfl, rfl, trivial⟩, ⟨rfl, trivial⟩⟩
              · exact ⟨by omega, hI.2.trans (insPos_go hy hbe)⟩
              · omega
              · first | rfl | (show some (AV.p (PV.v (Value.int IntKind.i64 _))) = _; congr 4; omega)
              · first | rfl | (rw [← midL_swap (x := (k : Int)) (r := (upTo gs.length).drop (k + 1)) (show jj + 1 ≤ (ordTo gs k).length by omega) hy]; simp only [List.map_set]; rfl)
          · -- c34 False
            have hbe : beP gs k (m : Int) = false := by have h := c34; rw [decide_eq_false_iff_not] at h; unfold beP; rw [decide_eq_false_iff_not]; exact fun x => h (cmpI_lt.2 x)
            have hst := insPos_stop hy hbe
            have hfin := dataAt_next hk (j := jj + 1) (by rw [hol]; exact hI.2.trans hst)
            refine AC.exit rfl ?_
            refine AC.mark ?_
            refine AC.region ?_
            refine AO.yld _ (Yld.move rfl) rfl rfl rfl ?_
            refine AO.yld _ (Yld.add rfl rfl (by omega) (by omega)) rfl rfl rfl ?_
            refine AO.yld _ (Yld.assign rfl) rfl rfl rfl ?_
            refine AO.nil ?_
            refine AC.back ⟨k + 1, ?_, ?_, ⟨?_, trivial⟩, ⟨?_, trivial⟩, ⟨rfl, rfl, rfl, rfl, trivial⟩, ⟨rfl, trivial⟩⟩
            · omega
            · omega
            · rfl
            · rw [← hfin]; rfl
        · -- s21 False
          have hst : insPos (beP gs k) (ordTo gs k) j = j := by (have h0 : j = 0 := (by have h := s21; simp at h; omega)); rw [h0]; rfl
          have hfin := dataAt_next hk (j := j) (by rw [hol]; exact hI.2.trans hst)
          refine AO.skipT rfl rfl rfl rfl rfl ?_
          refine AO.skipT rfl rfl rfl rfl rfl ?_
          refine AO.skipT rfl rfl rfl rfl rfl ?_
          refine AO.skipT rfl rfl rfl rfl rfl ?_
          refine AO.skipT rfl rfl rfl rfl rfl ?_
          refine AO.skipT rfl rfl rfl rfl rfl ?_
          refine AO.skipT rfl rfl rfl rfl rfl ?_
          refine AO.skipT rfl rfl rfl rfl rfl ?_
          refine AO.skipT rfl rfl rfl rfl rfl ?_
          refine AO.skipT rfl rfl rfl rfl rfl ?_
          refine AO.skipT rfl rfl rfl rfl rfl ?_
          refine AO.skipT rfl rfl rfl rfl rfl ?_
          refine AO.yld _ (Yld.pickF rfl rfl) rfl rfl rfl ?_
          refine AO.nil ?_
          refine AC.condF rfl ?_
          refine AC.exit rfl ?_
          refine AC.mark ?_
          refine AC.region ?_
          refine AO.yld _ (Yld.move rfl) rfl rfl rfl ?_
          refine AO.yld _ (Yld.add rfl rfl (by omega) (by omega)) rfl rfl rfl ?_
          refine AO.yld _ (Yld.assign rfl) rfl rfl rfl ?_
          refine AO.nil ?_
          refine AC.back ⟨k + 1, ?_, ?_, ⟨?_, trivial⟩, ⟨?_, trivial⟩, ⟨rfl, rfl, rfl, rfl, trivial⟩, ⟨rfl, trivial⟩⟩
          · omega
          · omega
          · rfl
          · rw [← hfin]; rfl
    · -- c14 False
      have hE : k = gs.length ∨ (gs.length = 0 ∧ k = 1) := by have h := c14; simp at h; omega
      refine AC.exit rfl ?_
      refine FnE.fin () [0] [0] Try.results79 RVs.nil rfl rfl rfl ?_ ?_ ⟨⟨_, rfl, ?_⟩, trivial⟩
      · -- holds
        trivial
      · -- value
        rfl
      · -- thing 0
        rw [dataAt_end hJ.1 hE]; rfl

theorem stable_c {gs : List Group} (hok : okGroups gs = true) {n : Int} (hn : n = (gs.length : Int)) :
    FnE (α := Unit) Try.prog 68 [.h 0, .p (.v (.int .i64 n)), .clo 51 [.p (.ptr [.sl 3 (gs.map encGroup)])]] [(0, .vec 3 1 ((upTo gs.length).map encI))] [0] (fun _ => True) (fun _ => .tup []) (fun _ => [(0, .vec 3 1 ((ordTo gs gs.length).map encI))]) := by
  subst hn
  have hgl := groups_len hok
  refine FnE.intro Try.func68 rfl Try.ntmps68 rfl rfl (fun w0 F0 η φ w => ?_)
  refine AC.seq ?_
  refine AC.region ?_
  refine AO.yld _ (Yld.assign rfl) rfl rfl rfl ?_
  refine AO.nil ?_
  refine AC.seq ?_
  refine AC.region ?_
  refine AO.yld _ (Yld.move rfl) rfl rfl rfl ?_
  refine AO.yld _ (Yld.assign rfl) rfl rfl rfl ?_
  refine AO.yld _ (Yld.assign rfl) rfl rfl rfl ?_
  refine AO.nil ?_
  refine AC.seq ?_
  refine AC.block ?_
  refine AC.loopC [(0, _), (1, _), (2, _), (6, _)] [(0, _), (900, _)] (fun (k : Nat) => [(7, .p (.v (.int .i64 0))), (8, .p (.v (.int .i64 20)))]) (fun (k : Nat) => []) (fun (k : Nat) => True) (fun (k : Nat) => 0) 0 ⟨rfl, rfl, rfl, rfl, trivial⟩ ⟨rfl, rfl, trivial⟩ ⟨rfl, rfl, trivial⟩ trivial ?_ (fun k hJ => ?_)
  · trivial
  · -- round
    refine AC.seq ?_
    refine AC.seq ?_
    refine AC.region ?_
    refine AO.yld _ (Yld.move rfl) rfl rfl rfl ?_
    refine AO.yld _ (Yld.move rfl) rfl rfl rfl ?_
    refine AO.yld _ (Yld.int rfl rfl rfl) rfl rfl rfl ?_
    refine AO.nil ?_
    refine AC.cond _ rfl (fun c13 => ?_) (fun c13 => ?_)
    · -- c13 True
      exfalso; have h := c13; simp at h; omega
    · -- c13 False
      refine AC.exit rfl ?_
      refine AC.seq ?_
      refine AC.region ?_
      refine AO.yld _ (Yld.move rfl) rfl rfl rfl ?_
      refine AO.yld _ (Yld.move rfl) rfl rfl rfl ?_
      refine AO.yld _ (Yld.move rfl) rfl rfl rfl ?_
      refine AO.yld _ (Yld.move rfl) rfl rfl rfl ?_
      refine AO.callW (wantedN rfl) [0] [0] [0] rfl rfl Try.call79 rfl (insSort_c (by assumption)) (.flat (.own rfl (.own rfl (.own rfl (.own rfl .nil)))) (fun _ => by simp [AV.Flat, AV.FlatL, PV.Flat, PV.FlatL]) (fun _ => ⟨flat_map flatI _, trivial⟩)) rfl (fun _ => rfl) ⟨rfl, trivial⟩ rfl (fun _ => rfl) (fun _ => rfl) (fun _ _ => ?_)
      refine AO.nil ?_
      refine AC.block ?_
      refine AC.loopC [(0, _), (1, _), (2, _)] [(0, _), (900, _)] (fun (k : Nat) => [(6, .p (.v (.int .i64 20)))]) (fun (k : Nat) => []) (fun (k : Nat) => True) (fun (k : Nat) => 0) 0 ⟨rfl, rfl, rfl, trivial⟩ ⟨rfl, rfl, trivial⟩ ⟨rfl, trivial⟩ trivial ?_ (fun k hJ => ?_)
      · trivial
      · -- round
        refine AC.seq ?_
        refine AC.seq ?_
        refine AC.region ?_
        refine AO.yld _ (Yld.move rfl) rfl rfl rfl ?_
        refine AO.yld _ (Yld.move rfl) rfl rfl rfl ?_
        refine AO.yld _ (Yld.int rfl rfl rfl) rfl rfl rfl ?_
        refine AO.nil ?_
        refine AC.cond _ rfl (fun c30 => ?_) (fun c30 => ?_)
        · -- c30 True
          exfalso; have h := c30; simp at h; omega
        · -- c30 False
          refine AC.exit rfl ?_
          refine FnE.fin () [0] [0] Try.results68 RVs.nil rfl rfl rfl ?_ ?_ ⟨⟨_, rfl, ?_⟩, trivial⟩
          · -- holds
            trivial
          · -- value
            rfl
          · -- thing 0
            rfl

theorem sortStable_c {gs : List Group} (hok : okGroups gs = true) :
    FnE (α := Unit) Try.prog 50 [.h 0, .clo 51 [.p (.ptr [.sl 3 (gs.map encGroup)])]] [(0, .vec 3 1 ((upTo gs.length).map encI))] [0] (fun _ => True) (fun _ => .tup []) (fun _ => [(0, .vec 3 1 ((ordTo gs gs.length).map encI))]) := by
  have hgl := groups_len hok
  have hul := upTo_length gs.length
  refine FnE.intro Try.func50 rfl Try.ntmps50 rfl rfl (fun w0 F0 η φ w => ?_)
  refine AC.region ?_
  refine AO.yld _ (Yld.move rfl) rfl rfl rfl ?_
  refine AO.yld _ (Yld.move rfl) rfl rfl rfl ?_
  refine AO.yld _ (Yld.len Try.underlying71 rfl rfl) rfl rfl rfl ?_
  refine AO.yld _ (Yld.move rfl) rfl rfl rfl ?_
  refine AO.callW (wantedN rfl) [0] [0] [0] rfl rfl Try.call68 rfl (stable_c (by assumption) (by first | rfl | (rw [List.length_map, upTo_length]))) (.flat (.own rfl (.own rfl (.own rfl .nil))) (fun _ => by simp [AV.Flat, AV.FlatL, PV.Flat, PV.FlatL]) (fun _ => ⟨flat_map flatI _, trivial⟩)) rfl (fun _ => rfl) ⟨rfl, trivial⟩ rfl (fun _ => rfl) (fun _ => rfl) (fun _ _ => ?_)
  refine AO.nil ?_
  refine FnE.fin () [0] [0] Try.results50 RVs.nil rfl rfl rfl ?_ ?_ ⟨⟨_, rfl, ?_⟩, trivial⟩
  · -- holds
    trivial
  · -- value
    rfl
  · -- thing 0
    rfl

set_option maxHeartbeats 2000000 in
theorem impl_GreedySeating_c {gs : List Group} {rs : List Int} (hn : gs.length ≤ 1048576) (hs : ∀ x ∈ gs, x.name.length ≤ 1048576) (hr : rs.length ≤ 1048576) :
    FnE (α := Unit) Try.prog 21 [.p (.sl 3 (gs.map encGroup)), .p (.sl 1 (rs.map encI))] [] [] (fun _ => True) (fun _ => .tup [.h 0, .p (.v (.int .i64 (greedyS gs rs).2))]) (fun _ => [(0, .vec 2 1 ((greedyS gs rs).1.map encI))]) := by
  have hM : (gs.map encGroup).length = gs.length := List.length_map ..
  refine FnE.intro Try.func21 rfl Try.ntmps21 rfl rfl (fun w0 F0 η φ w => ?_)
  refine AC.seq ?_
  refine AC.region ?_
  refine AO.box 0 rfl rfl rfl rfl rfl ?_
  refine AO.freezeB 0 rfl rfl ?_
  refine AO.yld _ (Yld.assign rfl) rfl rfl rfl ?_
  refine AO.yld _ (Yld.assign rfl) rfl rfl rfl ?_
  refine AO.nil ?_
  refine AC.seq ?_
  refine AC.seq ?_
  refine AC.region ?_
  refine AO.yld _ (Yld.load Try.isAgg27 rfl rfl) rfl rfl rfl ?_
  refine AO.yld _ (Yld.call rfl rfl Try.call40 rfl rfl rfl (impl_ValidGroups_c (by first | assumption | omega) (by assumption)) rfl) rfl rfl rfl ?_
  refine AO.yld _ (Yld.not rfl) rfl rfl rfl ?_
  refine AO.yld _ (Yld.move rfl) rfl rfl rfl ?_
  refine AO.splitAt 18 _ rfl (fun s18 => ?_) (fun s18 => ?_)
  · -- s18 True
    have hbad : ¬ (okGroups gs = true ∧ okRows rs = true) := by clear hs; first | (simp_all; done) | grind
    refine AO.skipF rfl rfl rfl rfl rfl ?_
    refine AO.skipF rfl rfl rfl rfl rfl ?_
    refine AO.skipF rfl rfl rfl rfl rfl ?_
    refine AO.yld _ (Yld.pickT rfl rfl) rfl rfl rfl ?_
    refine AO.nil ?_
    refine AC.condT rfl ?_
    refine AC.seq ?_
    refine AC.region ?_
    refine AO.yld _ (Yld.assign rfl) rfl rfl rfl ?_
    refine AO.yld _ (Yld.assign rfl) rfl rfl rfl ?_
    refine AO.nil ?_
    refine AC.nilVec 4 1 2 1 rfl rfl ?_
    refine FnE.ret () [1] [0] Try.results21 (RVs.cons (RV.tmp rfl) (RVs.cons (RV.tmp rfl) RVs.nil)) rfl rfl rfl ?_ ?_ ⟨⟨_, rfl, ?_⟩, trivial⟩
    · -- holds
      trivial
    · -- value
      refine tupE ?_; first | (rw [greedy_bad hbad]) | (rw [greedy_run hv]; done) | (rw [greedy_run hv]; rfl) | fail
    · -- thing 0
      refine vecE ?_; first | (rw [greedy_bad hbad]; rfl) | (rw [greedy_run hv]; done) | (rw [greedy_run hv]; rfl) | fail
  · -- s18 False
    refine AO.yldG _ (Yld.move rfl) rfl rfl rfl rfl rfl ?_
    refine AO.yldG _ (Yld.call rfl rfl Try.call41 rfl rfl rfl (impl_ValidRows_c (by first | assumption | omega)) rfl) rfl rfl rfl rfl rfl ?_
    refine AO.yldG _ (Yld.not rfl) rfl rfl rfl rfl rfl ?_
    refine AO.yld _ (Yld.pickF rfl rfl) rfl rfl rfl ?_
    refine AO.nil ?_
    refine AC.cond _ rfl (fun c22 => ?_) (fun c22 => ?_)
    · -- c22 True
      have hbad : ¬ (okGroups gs = true ∧ okRows rs = true) := by clear hs; first | (simp_all; done) | grind
      refine AC.seq ?_
      refine AC.region ?_
      refine AO.yld _ (Yld.assign rfl) rfl rfl rfl ?_
      refine AO.yld _ (Yld.assign rfl) rfl rfl rfl ?_
      refine AO.nil ?_
      refine AC.nilVec 4 1 2 1 rfl rfl ?_
      refine FnE.ret () [1] [0] Try.results21 (RVs.cons (RV.tmp rfl) (RVs.cons (RV.tmp rfl) RVs.nil)) rfl rfl rfl ?_ ?_ ⟨⟨_, rfl, ?_⟩, trivial⟩
      · -- holds
        trivial
      · -- value
        refine tupE ?_; first | (rw [greedy_bad hbad]) | (rw [greedy_run hv]; done) | (rw [greedy_run hv]; rfl) | fail
      · -- thing 0
        refine vecE ?_; first | (rw [greedy_bad hbad]; rfl) | (rw [greedy_run hv]; done) | (rw [greedy_run hv]; rfl) | fail
    · -- c22 False
      have hv : okGroups gs = true ∧ okRows rs = true := by first | (simp_all; done) | grind
      have hv2 := rows_all hv.2
      have hv3 := rows_len hv.2
      have hgl := groups_len hv.1
      have hok := hv.1
      refine AC.skip ?_
      refine AC.seq ?_
      refine AC.region ?_
      refine AO.yld _ (Yld.load Try.isAgg27 rfl rfl) rfl rfl rfl ?_
      refine AO.yld _ (Yld.len Try.underlying27 rfl rfl) rfl rfl rfl ?_
      refine AO.make 1 Try.underlying71 ty3 rfl rfl rfl rfl rfl (Nat.le_refl _) (by rw [hM]; omega) (by rw [hM]; omega) rfl rfl ?_
      refine AO.yld _ (Yld.assign rfl) rfl rfl rfl ?_
      refine AO.nil ?_
      refine AC.seq ?_
      refine AC.seq ?_
      refine AC.region ?_
      refine AO.yld _ (Yld.move rfl) rfl rfl rfl ?_
      refine AO.yld _ (Yld.len Try.underlying71 rfl rfl) rfl rfl rfl ?_
      refine AO.yld _ (Yld.move rfl) rfl rfl rfl ?_
      refine AO.nil ?_
      refine AC.block ?_
      refine AC.loopC [(1, _), (2, _), (4, _), (5, _), (6, _), (27, _)] [(900, _)] (fun (k : Nat) => [(28, .p (.v (.int .i64 (k : Int))))]) (fun (k : Nat) => [(1, .vec 3 1 ((upTo k ++ List.replicate (gs.length - k) (0 : Int)).map encI))]) (fun (k : Nat) => k ≤ gs.length) (fun (k : Nat) => gs.length - k) 0 ⟨rfl, rfl, rfl, rfl, rfl, rfl, trivial⟩ ⟨rfl, trivial⟩ ⟨rfl, trivial⟩ ⟨by rw [hM, ← fill_zero]; rfl, trivial⟩ ?_ (fun k hJ => ?_)
      · exact Nat.zero_le _
      · -- round
        refine AC.seq ?_
        refine AC.region ?_
        refine AO.yld _ (Yld.int rfl rfl rfl) rfl rfl rfl ?_
        refine AO.nil ?_
        refine AC.seq ?_
        refine AC.cond _ rfl (fun c29 => ?_) (fun c29 => ?_)
        · -- c29 True
          have hk : k < gs.length := by have h := c29; simp at h; omega
          obtain ⟨z0, hrow0⟩ := fill_row hk
          refine AC.skip ?_
          refine AC.seq ?_
          refine AC.block ?_
          refine AC.seq ?_
          refine AC.region ?_
          refine AO.yld _ (Yld.move rfl) rfl rfl rfl ?_
          refine AO.yld _ (Yld.assign rfl) rfl rfl rfl ?_
          refine AO.nil ?_
          refine AC.region ?_
          refine AO.yld _ (Yld.move rfl) rfl rfl rfl ?_
          refine AO.yld _ (Yld.move rfl) rfl rfl rfl ?_
          refine AO.yld _ (Yld.move rfl) rfl rfl rfl ?_
          refine AO.yld _ (Yld.indexVec Try.underlying71 Try.sizeOf3 rfl rfl rfl rfl (by simp only [List.length_map, List.length_append, upTo_length, List.length_replicate]; omega)) rfl rfl rfl ?_
          refine AO.store Try.sizeOf3 rfl rfl rfl rfl rfl (store_el rfl hrow0 rfl rfl) ?_
          refine AO.nil ?_
          refine AC.mark ?_
          refine AC.region ?_
          refine AO.yld _ (Yld.add rfl rfl (by omega) (by omega)) rfl rfl rfl ?_
          refine AO.yld _ (Yld.move rfl) rfl rfl rfl ?_
          refine AO.nil ?_
          refine AC.back ⟨k + 1, ?_, ?_, ⟨?_, trivial⟩, ⟨?_, trivial⟩, ⟨rfl, rfl, rfl, rfl, rfl, rfl, trivial⟩, ⟨rfl, trivial⟩⟩
          · exact hk
          · omega
          · rfl
          · rw [← fill_set hk]; rfl
        · -- c29 False
          obtain rfl : k = gs.length := by have h := c29; simp at h; omega
          refine AC.exit rfl ?_
          refine AC.seq ?_
          refine AC.region ?_
          refine AO.yld _ (Yld.move rfl) rfl rfl rfl ?_
          refine AO.yld _ (Yld.makeFunc rfl) rfl rfl rfl ?_
          refine AO.vecEq 1 ((upTo gs.length).map encI) rfl (by rw [fill_end]) ?_
          refine AO.callW (wantedN rfl) [1] [0] [0] rfl rfl Try.call50 rfl (sortStable_c (by assumption)) (.flat (.own rfl (.own rfl .nil)) (fun _ => by simp [AV.Flat, AV.FlatL, PV.Flat, PV.FlatL]) (fun _ => ⟨flat_map flatI _, trivial⟩)) rfl (fun _ => rfl) ⟨rfl, trivial⟩ rfl (fun _ => rfl) (fun _ => rfl) (fun _ _ => ?_)
          refine AO.nil ?_
          refine AC.seq ?_
          refine AC.region ?_
          refine AO.yld _ (Yld.move rfl) rfl rfl rfl ?_
          refine AO.callW (wantedN rfl) [2] [] [0] rfl rfl Try.call43 rfl (cloneInt_c (by first | assumption | omega)) (.flat (.view rfl rfl .nil) (fun _ => by simp [AV.Flat, AV.FlatL, PV.Flat, PV.FlatL]) (fun _ => ⟨flat_map flatI _, trivial⟩)) rfl (fun _ => rfl) trivial rfl (fun _ => rfl) (fun _ => rfl) (fun _ _ => ?_)
          refine AO.yld _ (Yld.assign rfl) rfl rfl rfl ?_
          refine AO.nil ?_
          refine AC.seq ?_
          refine AC.region ?_
          refine AO.yld _ (Yld.load Try.isAgg27 rfl rfl) rfl rfl rfl ?_
          refine AO.yld _ (Yld.len Try.underlying27 rfl rfl) rfl rfl rfl ?_
          refine AO.make 3 Try.underlying23 ty2 rfl rfl rfl rfl rfl (Nat.le_refl _) (by rw [hM]; omega) (by rw [hM]; omega) rfl rfl ?_
          refine AO.yld _ (Yld.assign rfl) rfl rfl rfl ?_
          refine AO.nil ?_
          refine AC.seq ?_
          refine AC.seq ?_
          refine AC.region ?_
          refine AO.yld _ (Yld.move rfl) rfl rfl rfl ?_
          refine AO.yld _ (Yld.len Try.underlying71 rfl rfl) rfl rfl rfl ?_
          refine AO.yld _ (Yld.move rfl) rfl rfl rfl ?_
          refine AO.nil ?_
          refine AC.block ?_
          refine AC.loopC [(2, _), (4, _), (5, _), (8, _), (9, _), (44, _), (45, _)] [(1, _), (900, _)] (fun (k : Nat) => [(46, .p (.v (.int .i64 (k : Int))))]) (fun (k : Nat) => [(2, .vec 2 1 ((greedyTo gs rs k).1.map encI)), (3, .vec 2 1 ((greedyTo gs rs k).2.map encI))]) (fun (k : Nat) => k ≤ gs.length) (fun (k : Nat) => gs.length - k) 0 ⟨rfl, rfl, rfl, rfl, rfl, rfl, rfl, trivial⟩ ⟨rfl, rfl, trivial⟩ ⟨rfl, trivial⟩ ⟨rfl, by rw [hM]; exact congrArg (fun x => some (Res.vec 2 1 x)) (zero_rows gs.length), trivial⟩ ?_ (fun k hJ => ?_)
          · exact Nat.zero_le _
          · -- round
            refine AC.seq ?_
            refine AC.region ?_
            refine AO.yld _ (Yld.int rfl rfl rfl) rfl rfl rfl ?_
            refine AO.nil ?_
            refine AC.seq ?_
            refine AC.cond _ rfl (fun c47 => ?_) (fun c47 => ?_)
            · -- c47 True
              have hk : k < gs.length := by have h := c47; simp [ordTo_length] at h; omega
              obtain ⟨y, hy⟩ := get_some (xs := ordTo gs gs.length) (k := k) (by rw [ordTo_length]; exact hk)
              obtain ⟨m, rfl, hm⟩ := ord_get hy
              obtain ⟨g, hg⟩ := get_some (xs := gs) (k := m) hm
              have hrowO := map_row (enc := encI) hy
              have hrowG := map_row (enc := encGroup) hg
              have hgp := group_lim (groups_at hv.1 hg)
              have hlen := greedyTo_len gs rs k
              have hFok := greedyTo_ok hv.1 hv2 k
              obtain ⟨o9, ho9⟩ := get_some (xs := (greedyTo gs rs k).2) (k := m) (by omega)
              have hrowP := map_row (enc := encI) ho9
              refine AC.skip ?_
              refine AC.seq ?_
              refine AC.block ?_
              refine AC.seq ?_
              refine AC.region ?_
              refine AO.yld _ (Yld.indexVec Try.underlying71 Try.sizeOf3 rfl rfl rfl rfl (by simp only [List.length_map, ordTo_length]; omega)) rfl rfl rfl ?_
              refine AO.yld _ (Yld.load Try.isAgg3 rfl (Eq.trans (behind_el rfl hrowO) rfl)) rfl rfl rfl ?_
              refine AO.yld _ (Yld.assign rfl) rfl rfl rfl ?_
              refine AO.nil ?_
              refine AC.seq ?_
              refine AC.region ?_
              refine AO.yld _ (Yld.assign rfl) rfl rfl rfl ?_
              refine AO.nil ?_
              refine AC.seq ?_
              refine AC.seq ?_
              refine AC.region ?_
              refine AO.yld _ (Yld.move rfl) rfl rfl rfl ?_
              refine AO.yld _ (Yld.len Try.underlying23 rfl rfl) rfl rfl rfl ?_
              refine AO.yld _ (Yld.move rfl) rfl rfl rfl ?_
              refine AO.nil ?_
              refine AC.block ?_
              refine AC.loopC [(2, _), (4, _), (5, _), (8, _), (9, _), (11, _), (44, _), (45, _), (46, _), (50, _), (51, _)] [(1, _), (2, _), (3, _), (900, _)] (fun (r : Nat) => [(52, .p (.v (.int .i64 (r : Int)))), (12, .p (.v (.int .i64 (seatTo (greedyTo gs rs k).1 g.persons r))))]) (fun (r : Nat) => []) (fun (r : Nat) => r ≤ (greedyTo gs rs k).1.length) (fun (r : Nat) => (greedyTo gs rs k).1.length - r) 0 ⟨rfl, rfl, rfl, rfl, rfl, rfl, rfl, rfl, rfl, rfl, rfl, trivial⟩ ⟨rfl, rfl, rfl, rfl, trivial⟩ ⟨rfl, rfl, trivial⟩ trivial ?_ (fun r hI => ?_)
              · exact Nat.zero_le _
              · -- round
                refine AC.seq ?_
                refine AC.region ?_
                refine AO.yld _ (Yld.int rfl rfl rfl) rfl rfl rfl ?_
                refine AO.nil ?_
                refine AC.seq ?_
                refine AC.cond _ rfl (fun c53 => ?_) (fun c53 => ?_)
                · -- c53 True
                  have hr : r < (greedyTo gs rs k).1.length := by have h := c53; simpa using h
                  obtain ⟨z, hz⟩ := get_some hr
                  have hrowF := map_row (enc := encI) hz
                  refine AC.skip ?_
                  refine AC.seq ?_
                  refine AC.block ?_
                  refine AC.seq ?_
                  refine AC.region ?_
                  refine AO.yld _ (Yld.move rfl) rfl rfl rfl ?_
                  refine AO.yld _ (Yld.indexVec Try.underlying23 Try.sizeOf2 rfl rfl rfl rfl (by simpa using hr)) rfl rfl rfl ?_
                  refine AO.yld _ (Yld.load Try.isAgg2 rfl (Eq.trans (behind_el rfl hrowF) rfl)) rfl rfl rfl ?_
                  refine AO.yld _ (Yld.assign rfl) rfl rfl rfl ?_
                  refine AO.yld _ (Yld.assign rfl) rfl rfl rfl ?_
                  refine AO.nil ?_
                  refine AC.seq ?_
                  refine AC.region ?_
                  refine AO.yld _ (Yld.move rfl) rfl rfl rfl ?_
                  refine AO.yld _ (Yld.load Try.isAgg27 rfl rfl) rfl rfl rfl ?_
                  refine AO.yld _ (Yld.move rfl) rfl rfl rfl ?_
                  refine AO.yld _ (Yld.indexSl Try.underlying27 Try.sizeOf52 rfl rfl hrowG rfl) rfl rfl rfl ?_
                  refine AO.yld _ (Yld.fieldAddr Try.underlying52 rfl rfl Try.sizeOf2 rfl rfl rfl) rfl rfl rfl ?_
                  refine AO.yld _ (Yld.load Try.isAgg2 rfl rfl) rfl rfl rfl ?_
                  refine AO.yld _ (Yld.int rfl rfl rfl) rfl rfl rfl ?_
                  refine AO.yld _ (Yld.move rfl) rfl rfl rfl ?_
                  refine AO.splitAt 64 _ rfl (fun s64 => ?_) (fun s64 => ?_)
                  · -- s64 True
                    have hf : g.persons ≤ z := by simpa using s64
                    refine AO.yldG _ (Yld.move rfl) rfl rfl rfl rfl rfl ?_
                    refine AO.yldG _ (Yld.int rfl rfl rfl) rfl rfl rfl rfl rfl ?_
                    refine AO.yldG _ (Yld.move rfl) rfl rfl rfl rfl rfl ?_
                    refine AO.splitAt 67 _ rfl (fun s67 => ?_) (fun s67 => ?_)
                    · -- s67 True
                      have hb9 : seatTo (greedyTo gs rs k).1 g.persons r < 0 := by simpa using s67
                      have hnx := seatTo_first (F := (greedyTo gs rs k).1) hz hf hb9
                      refine AO.skipF rfl rfl rfl rfl rfl ?_
                      refine AO.skipF rfl rfl rfl rfl rfl ?_
                      refine AO.skipF rfl rfl rfl rfl rfl ?_
                      refine AO.skipF rfl rfl rfl rfl rfl ?_
                      refine AO.skipF rfl rfl rfl rfl rfl ?_
                      refine AO.skipF rfl rfl rfl rfl rfl ?_
                      refine AO.yldG _ (Yld.pickT rfl rfl) rfl rfl rfl rfl rfl ?_
                      refine AO.yld _ (Yld.pickT rfl rfl) rfl rfl rfl ?_
                      refine AO.nil ?_
                      refine AC.condT rfl ?_
                      refine AC.region ?_
                      refine AO.yld _ (Yld.move rfl) rfl rfl rfl ?_
                      refine AO.yld _ (Yld.assign rfl) rfl rfl rfl ?_
                      refine AO.nil ?_
                      refine AC.mark ?_
                      refine AC.region ?_
                      refine AO.yld _ (Yld.add rfl rfl (by omega) (by omega)) rfl rfl rfl ?_
                      refine AO.yld _ (Yld.move rfl) rfl rfl rfl ?_
                      refine AO.nil ?_
                      refine AC.back ⟨r + 1, ?_, ?_, ⟨?_, ?_, trivial⟩, trivial, ⟨rfl, rfl, rfl, rfl, rfl, rfl, rfl, rfl, rfl, rfl, rfl, trivial⟩, ⟨rfl, rfl, rfl, rfl, trivial⟩⟩
                      · exact hr
                      · omega
                      · rfl
                      · rw [hnx]; rfl
                    · -- s67 False
                      have hb9 : ¬ seatTo (greedyTo gs rs k).1 g.persons r < 0 := by simpa using s67
                      obtain ⟨bn, zb, hbn, hbl, hzb, hpz⟩ := seatTo_nat (greedyTo gs rs k).1 g.persons r hb9 (by omega)
                      have hrowB := map_row (enc := encI) hzb
                      refine AO.yldG _ (Yld.move rfl) rfl rfl rfl rfl rfl ?_
                      refine AO.yldG _ (Yld.move rfl) rfl rfl rfl rfl rfl ?_
                      refine AO.yldG _ (Yld.move rfl) rfl rfl rfl rfl rfl ?_
                      refine AO.yldG _ (Yld.indexVec Try.underlying23 Try.sizeOf2 rfl rfl rfl (show _ = ((bn : Nat) : Int) by omega) (by rw [List.length_map]; omega)) rfl rfl rfl rfl rfl ?_
                      refine AO.yldG _ (Yld.load Try.isAgg2 rfl (Eq.trans (behind_el rfl hrowB) rfl)) rfl rfl rfl rfl rfl ?_
                      refine AO.yldG _ (Yld.int rfl rfl rfl) rfl rfl rfl rfl rfl ?_
                      refine AO.yldG _ (Yld.pickF rfl rfl) rfl rfl rfl rfl rfl ?_
                      refine AO.yld _ (Yld.pickT rfl rfl) rfl rfl rfl ?_
                      refine AO.nil ?_
                      refine AC.cond _ rfl (fun c75 => ?_) (fun c75 => ?_)
                      · -- c75 True
                        first | skip | skip
                        have hnx : seatTo (greedyTo gs rs k).1 g.persons (r + 1) = (r : Int) := by first | exact hnx | exact seatTo_better hz hf hbn hzb (by simpa using c75)
                        refine AC.region ?_
                        refine AO.yld _ (Yld.move rfl) rfl rfl rfl ?_
                        refine AO.yld _ (Yld.assign rfl) rfl rfl rfl ?_
                        refine AO.nil ?_
                        refine AC.mark ?_
                        refine AC.region ?_
                        refine AO.yld _ (Yld.add rfl rfl (by omega) (by omega)) rfl rfl rfl ?_
                        refine AO.yld _ (Yld.move rfl) rfl rfl rfl ?_
                        refine AO.nil ?_
                        refine AC.back ⟨r + 1, ?_, ?_, ⟨?_, ?_, trivial⟩, trivial, ⟨rfl, rfl, rfl, rfl, rfl, rfl, rfl, rfl, rfl, rfl, rfl, trivial⟩, ⟨rfl, rfl, rfl, rfl, trivial⟩⟩
                        · exact hr
                        · omega
                        · rfl
                        · rw [hnx]; rfl
                      · -- c75 False
                        have hnx : seatTo (greedyTo gs rs k).1 g.persons (r + 1) = seatTo (greedyTo gs rs k).1 g.persons r := by first | exact hnx | exact seatTo_keep hz hbn hzb (by simpa using c75)
                        refine AC.skip ?_
                        refine AC.mark ?_
                        refine AC.region ?_
                        refine AO.yld _ (Yld.add rfl rfl (by omega) (by omega)) rfl rfl rfl ?_
                        refine AO.yld _ (Yld.move rfl) rfl rfl rfl ?_
                        refine AO.nil ?_
                        refine AC.back ⟨r + 1, ?_, ?_, ⟨?_, ?_, trivial⟩, trivial, ⟨rfl, rfl, rfl, rfl, rfl, rfl, rfl, rfl, rfl, rfl, rfl, trivial⟩, ⟨rfl, rfl, rfl, rfl, trivial⟩⟩
                        · exact hr
                        · omega
                        · rfl
                        · rw [hnx]; rfl
                  · -- s64 False
                    have hf : ¬ g.persons ≤ z := by simpa using s64
                    have hnx := seatTo_skip (F := (greedyTo gs rs k).1) (p := g.persons) hz hf
                    refine AO.skipT rfl rfl rfl rfl rfl ?_
                    refine AO.skipT rfl rfl rfl rfl rfl ?_
                    refine AO.skipT rfl rfl rfl rfl rfl ?_
                    refine AO.skipU rfl rfl rfl rfl rfl ?_
                    refine AO.skipU rfl rfl rfl rfl rfl ?_
                    refine AO.skipU rfl rfl rfl rfl rfl ?_
                    refine AO.skipU rfl rfl rfl rfl rfl ?_
                    refine AO.skipU rfl rfl rfl rfl rfl ?_
                    refine AO.skipU rfl rfl rfl rfl rfl ?_
                    refine AO.skipT rfl rfl rfl rfl rfl ?_
                    refine AO.yld _ (Yld.pickF rfl rfl) rfl rfl rfl ?_
                    refine AO.nil ?_
                    refine AC.condF rfl ?_
                    refine AC.skip ?_
                    refine AC.mark ?_
                    refine AC.region ?_
                    refine AO.yld _ (Yld.add rfl rfl (by omega) (by omega)) rfl rfl rfl ?_
                    refine AO.yld _ (Yld.move rfl) rfl rfl rfl ?_
                    refine AO.nil ?_
                    refine AC.back ⟨r + 1, ?_, ?_, ⟨?_, ?_, trivial⟩, trivial, ⟨rfl, rfl, rfl, rfl, rfl, rfl, rfl, rfl, rfl, rfl, rfl, trivial⟩, ⟨rfl, rfl, rfl, rfl, trivial⟩⟩
                    · exact hr
                    · omega
                    · rfl
                    · rw [hnx]; rfl
                · -- c53 False
                  obtain rfl : r = (greedyTo gs rs k).1.length := by have h := c53; simp at h; omega
                  refine AC.exit rfl ?_
                  refine AC.seq ?_
                  refine AC.region ?_
                  refine AO.yld _ (Yld.move rfl) rfl rfl rfl ?_
                  refine AO.yld _ (Yld.move rfl) rfl rfl rfl ?_
                  refine AO.yld _ (Yld.move rfl) rfl rfl rfl ?_
                  refine AO.yld _ (Yld.indexVec Try.underlying23 Try.sizeOf2 rfl rfl rfl rfl (by rw [List.length_map]; omega)) rfl rfl rfl ?_
                  refine AO.store Try.sizeOf2 rfl rfl rfl rfl rfl (store_el rfl hrowP rfl rfl) ?_
                  refine AO.nil ?_
                  refine AC.seq ?_
                  refine AC.region ?_
                  refine AO.yld _ (Yld.move rfl) rfl rfl rfl ?_
                  refine AO.yld _ (Yld.int rfl rfl rfl) rfl rfl rfl ?_
                  refine AO.nil ?_
                  refine AC.cond _ rfl (fun c83 => ?_) (fun c83 => ?_)
                  · -- c83 True
                    have hb0 : ¬ seatTo (greedyTo gs rs k).1 g.persons (greedyTo gs rs k).1.length < 0 := by have h := c83; simp at h; omega
                    obtain ⟨bn, zb, hbn, hbl, hzb, hpz⟩ := seatTo_nat (greedyTo gs rs k).1 g.persons (greedyTo gs rs k).1.length hb0 (Nat.le_refl _)
                    have hrowB := map_row (enc := encI) hzb
                    have hzr : 0 ≤ zb ∧ zb ≤ 40 := by have h := all_at hFok hzb; simpa [okRow] using h
                    obtain ⟨hn1, hn2⟩ := greedy_next_pos hy hg hbn hzb
                    apply AC.drawAny ⟨[(2, _), (4, _), (5, _), (8, _), (9, _), (11, _), (12, _), (44, _), (45, _), (46, _), (50, _), (51, _), (52, _), (53, _), (78, _), (79, _), (80, _), (81, _), (82, _), (83, _), (84, _), (85, _), (86, _), (87, _), (88, _), (89, _), (90, _), (91, _), (92, _), (93, _), (94, _)], [(1, _), (2, _), (3, _), (900, _)]⟩ (by kernel_rfl)
                    · -- orders
                      refine AN.take 0 rfl (by kernel_rfl) (by kernel_rfl) (by kernel_rfl) rfl rfl rfl (YldA.move rfl) ?_
                      refine AN.take 1 rfl (by kernel_rfl) (by kernel_rfl) (by kernel_rfl) rfl rfl rfl (YldA.move rfl) ?_
                      refine AN.take 2 rfl (by kernel_rfl) (by kernel_rfl) (by kernel_rfl) rfl rfl rfl (YldA.indexVec Try.underlying23 Try.sizeOf2 rfl rfl rfl (show _ = ((bn : Nat) : Int) by omega) (by rw [List.length_map]; omega)) ?_
                      refine AN.take 5 rfl (by kernel_rfl) (by kernel_rfl) (by kernel_rfl) rfl rfl rfl (YldA.move rfl) ?_
                      refine AN.all (rs := [3, 4]) (by kernel_rfl) rfl ⟨?_, ?_, trivial⟩
                      · refine Stp.eff rfl rfl (Eff.yld (Yld.load Try.isAgg2 rfl (Eq.trans (behind_el rfl hrowB) rfl)) rfl rfl) ?_
                        refine AN.all (rs := [4]) (by kernel_rfl) rfl ⟨?_, trivial⟩
                        refine Stp.eff rfl rfl (Eff.yld (Yld.load Try.isAgg27 rfl rfl) rfl rfl) ?_
                        refine AN.take 6 rfl (by kernel_rfl) (by kernel_rfl) (by kernel_rfl) rfl rfl rfl (YldA.indexSl Try.underlying27 Try.sizeOf52 rfl rfl hrowG rfl) ?_
                        refine AN.take 7 rfl (by kernel_rfl) (by kernel_rfl) (by kernel_rfl) rfl rfl rfl (YldA.fieldAddr Try.underlying52 rfl rfl Try.sizeOf2 rfl rfl rfl) ?_
                        refine AN.all (rs := [8]) (by kernel_rfl) rfl ⟨?_, trivial⟩
                        refine Stp.eff rfl rfl (Eff.yld (Yld.load Try.isAgg2 rfl rfl) rfl rfl) ?_
                        refine AN.take 9 rfl (by kernel_rfl) (by kernel_rfl) (by kernel_rfl) rfl rfl rfl (YldA.sub rfl rfl (by omega) (by omega)) ?_
                        refine AN.take 10 rfl (by kernel_rfl) (by kernel_rfl) (by kernel_rfl) rfl rfl rfl (YldA.indexVec Try.underlying23 Try.sizeOf2 rfl rfl rfl (show _ = ((bn : Nat) : Int) by omega) (by rw [List.length_map]; omega)) ?_
                        refine AN.all (rs := [11]) (by kernel_rfl) rfl ⟨?_, trivial⟩
                        refine Stp.eff rfl rfl (Eff.store Try.sizeOf2 rfl rfl rfl rfl rfl (store_el rfl hrowB rfl rfl)) ?_
                        exact AN.done (by kernel_rfl) (Le.intro ⟨rfl, rfl, rfl, rfl, rfl, rfl, rfl, rfl, rfl, rfl, rfl, rfl, rfl, rfl, rfl, rfl, rfl, rfl, rfl, rfl, rfl, rfl, rfl, rfl, rfl, rfl, rfl, rfl, rfl, rfl, rfl, trivial⟩ ⟨rfl, rfl, rfl, rfl, trivial⟩)
                      · refine Stp.eff rfl rfl (Eff.yld (Yld.load Try.isAgg27 rfl rfl) rfl rfl) ?_
                        refine AN.take 6 rfl (by kernel_rfl) (by kernel_rfl) (by kernel_rfl) rfl rfl rfl (YldA.indexSl Try.underlying27 Try.sizeOf52 rfl rfl hrowG rfl) ?_
                        refine AN.take 7 rfl (by kernel_rfl) (by kernel_rfl) (by kernel_rfl) rfl rfl rfl (YldA.fieldAddr Try.underlying52 rfl rfl Try.sizeOf2 rfl rfl rfl) ?_
                        refine AN.all (rs := [3, 8]) (by kernel_rfl) rfl ⟨?_, ?_, trivial⟩
                        · refine Stp.eff rfl rfl (Eff.yld (Yld.load Try.isAgg2 rfl (Eq.trans (behind_el rfl hrowB) rfl)) rfl rfl) ?_
                          refine AN.all (rs := [8]) (by kernel_rfl) rfl ⟨?_, trivial⟩
                          refine Stp.eff rfl rfl (Eff.yld (Yld.load Try.isAgg2 rfl rfl) rfl rfl) ?_
                          refine AN.take 9 rfl (by kernel_rfl) (by kernel_rfl) (by kernel_rfl) rfl rfl rfl (YldA.sub rfl rfl (by omega) (by omega)) ?_
                          refine AN.take 10 rfl (by kernel_rfl) (by kernel_rfl) (by kernel_rfl) rfl rfl rfl (YldA.indexVec Try.underlying23 Try.sizeOf2 rfl rfl rfl (show _ = ((bn : Nat) : Int) by omega) (by rw [List.length_map]; omega)) ?_
                          refine AN.all (rs := [11]) (by kernel_rfl) rfl ⟨?_, trivial⟩
                          refine Stp.eff rfl rfl (Eff.store Try.sizeOf2 rfl rfl rfl rfl rfl (store_el rfl hrowB rfl rfl)) ?_
                          exact AN.done (by kernel_rfl) (Le.intro ⟨rfl, rfl, rfl, rfl, rfl, rfl, rfl, rfl, rfl, rfl, rfl, rfl, rfl, rfl, rfl, rfl, rfl, rfl, rfl, rfl, rfl, rfl, rfl, rfl, rfl, rfl, rfl, rfl, rfl, rfl, rfl, trivial⟩ ⟨rfl, rfl, rfl, rfl, trivial⟩)
                        · refine Stp.eff rfl rfl (Eff.yld (Yld.load Try.isAgg2 rfl rfl) rfl rfl) ?_
                          refine AN.all (rs := [3]) (by kernel_rfl) rfl ⟨?_, trivial⟩
                          refine Stp.eff rfl rfl (Eff.yld (Yld.load Try.isAgg2 rfl (Eq.trans (behind_el rfl hrowB) rfl)) rfl rfl) ?_
                          refine AN.take 9 rfl (by kernel_rfl) (by kernel_rfl) (by kernel_rfl) rfl rfl rfl (YldA.sub rfl rfl (by omega) (by omega)) ?_
                          refine AN.take 10 rfl (by kernel_rfl) (by kernel_rfl) (by kernel_rfl) rfl rfl rfl (YldA.indexVec Try.underlying23 Try.sizeOf2 rfl rfl rfl (show _ = ((bn : Nat) : Int) by omega) (by rw [List.length_map]; omega)) ?_
                          refine AN.all (rs := [11]) (by kernel_rfl) rfl ⟨?_, trivial⟩
                          refine Stp.eff rfl rfl (Eff.store Try.sizeOf2 rfl rfl rfl rfl rfl (store_el rfl hrowB rfl rfl)) ?_
                          exact AN.done (by kernel_rfl) (Le.intro ⟨rfl, rfl, rfl, rfl, rfl, rfl, rfl, rfl, rfl, rfl, rfl, rfl, rfl, rfl, rfl, rfl, rfl, rfl, rfl, rfl, rfl, rfl, rfl, rfl, rfl, rfl, rfl, rfl, rfl, rfl, rfl, trivial⟩ ⟨rfl, rfl, rfl, rfl, trivial⟩)
                    · -- behind
                      refine AC.mark ?_
                      refine AC.region ?_
                      refine AO.yld _ (Yld.add rfl rfl (by omega) (by omega)) rfl rfl rfl ?_
                      refine AO.yld _ (Yld.move rfl) rfl rfl rfl ?_
                      refine AO.nil ?_
                      refine AC.back ⟨k + 1, ?_, ?_, ⟨?_, trivial⟩, ⟨?_, ?_, trivial⟩, ⟨rfl, rfl, rfl, rfl, rfl, rfl, rfl, trivial⟩, ⟨rfl, rfl, trivial⟩⟩
                      · exact hk
                      · omega
                      · rfl
                      · first | (rw [hn1]; rfl) | (rw [hn1, List.map_set]; rfl)
                      · first | (rw [hn2, List.map_set]; rfl) | (rw [hn2, ← hbn, List.map_set]; rfl)
                  · -- c83 False
                    have hb0 : seatTo (greedyTo gs rs k).1 g.persons (greedyTo gs rs k).1.length < 0 := by have h := c83; simp at h; omega
                    obtain ⟨hn1, hn2⟩ := greedy_next_neg hy hg hb0
                    refine AC.skip ?_
                    refine AC.mark ?_
                    refine AC.region ?_
                    refine AO.yld _ (Yld.add rfl rfl (by omega) (by omega)) rfl rfl rfl ?_
                    refine AO.yld _ (Yld.move rfl) rfl rfl rfl ?_
                    refine AO.nil ?_
                    refine AC.back ⟨k + 1, ?_, ?_, ⟨?_, trivial⟩, ⟨?_, ?_, trivial⟩, ⟨rfl, rfl, rfl, rfl, rfl, rfl, rfl, trivial⟩, ⟨rfl, rfl, trivial⟩⟩
                    · exact hk
                    · omega
                    · rfl
                    · first | (rw [hn1]; rfl) | (rw [hn1, List.map_set]; rfl)
                    · first | (rw [hn2, List.map_set]; rfl) | (rw [hn2, ← hbn, List.map_set]; rfl)
            · -- c47 False
              obtain rfl : k = gs.length := by have h := c47; simp [ordTo_length] at h; omega
              refine AC.exit rfl ?_
              refine AC.seq ?_
              refine AC.region ?_
              refine AO.yld _ (Yld.move rfl) rfl rfl rfl ?_
              refine AO.yld _ (Yld.assign rfl) rfl rfl rfl ?_
              refine AO.yld _ (Yld.assign rfl) rfl rfl rfl ?_
              refine AO.nil ?_
              refine FnE.ret () [3] [0] Try.results21 (RVs.cons (RV.tmp rfl) (RVs.cons (RV.tmp rfl) RVs.nil)) rfl rfl rfl ?_ ?_ ⟨⟨_, rfl, ?_⟩, trivial⟩
              · -- holds
                trivial
              · -- value
                refine tupE ?_; first | (rw [greedy_bad hbad]) | (rw [greedy_run hv]; done) | (rw [greedy_run hv]; rfl) | fail
              · -- thing 0
                refine vecE ?_; first | (rw [greedy_bad hbad]; rfl) | (rw [greedy_run hv]; done) | (rw [greedy_run hv]; rfl) | fail

theorem spec_l22Order_c {gs : List Group} (hok : okGroups gs = true) :
    FnE (α := Unit) Try.prog 49 [.p (.sl 1 ((negP gs).map encI))] [] [] (fun _ => True) (fun _ => .h 0) (fun _ => [(0, .vec 2 1 ((ordTo gs gs.length).map encI))]) := by
  have hgl := groups_len hok
  have hM : ((negP gs).map encI).length = gs.length := by simp [negP]
  refine FnE.intro Try.func49 rfl Try.ntmps49 rfl rfl (fun w0 F0 η φ w => ?_)
  refine AC.seq ?_
  refine AC.region ?_
  refine AO.yld _ (Yld.assign rfl) rfl rfl rfl ?_
  refine AO.nil ?_
  refine AC.seq ?_
  refine AC.region ?_
  refine AO.buildSlice (rows := []) 0 Try.underlying23 ty2 rfl rfl rfl rfl rfl rfl rfl rfl rfl ?_
  refine AO.yld _ (Yld.assign rfl) rfl rfl rfl ?_
  refine AO.nil ?_
  refine AC.seq ?_
  refine AC.seq ?_
  refine AC.region ?_
  refine AO.yld _ (Yld.assign rfl) rfl rfl rfl ?_
  refine AO.nil ?_
  refine AC.block ?_
  refine AC.loopC [(0, _), (2, _)] [(900, _)] (fun (k : Nat) => [(4, .p (.v (.int .i64 (k : Int)))), (3, .h 0)]) (fun (k : Nat) => [(0, .vec 2 1 ((ordTo gs k).map encI))]) (fun (k : Nat) => k ≤ gs.length) (fun (k : Nat) => gs.length - k) 0 ⟨rfl, rfl, trivial⟩ ⟨rfl, trivial⟩ ⟨rfl, rfl, trivial⟩ ⟨rfl, trivial⟩ ?_ (fun k hJ => ?_)
  · exact Nat.zero_le _
  · -- round
    refine AC.seq ?_
    refine AC.seq ?_
    refine AC.region ?_
    refine AO.yld _ (Yld.move rfl) rfl rfl rfl ?_
    refine AO.yld _ (Yld.move rfl) rfl rfl rfl ?_
    refine AO.yld _ (Yld.len Try.underlying23 rfl rfl) rfl rfl rfl ?_
    refine AO.yld _ (Yld.int rfl rfl rfl) rfl rfl rfl ?_
    refine AO.nil ?_
    refine AC.cond _ rfl (fun c11 => ?_) (fun c11 => ?_)
    · -- c11 True
      have hk : k < gs.length := by have h := c11; rw [hM] at h; simp at h; omega
      obtain ⟨g, hg⟩ := get_some hk
      have hrI := map_row (enc := encI) (negP_get hg)
      refine AC.skip ?_
      refine AC.seq ?_
      refine AC.block ?_
      refine AC.seq ?_
      refine AC.region ?_
      refine AO.yld _ (Yld.move rfl) rfl rfl rfl ?_
      refine AO.yld _ (Yld.len Try.underlying23 rfl rfl) rfl rfl rfl ?_
      refine AO.yld _ (Yld.assign rfl) rfl rfl rfl ?_
      refine AO.nil ?_
      refine AC.seq ?_
      refine AC.block ?_
      refine AC.loopC [(0, _), (2, _), (3, _), (4, _)] [(0, _), (900, _)] (fun (j : Nat) => [(5, .p (.v (.int .i64 (j : Int))))]) (fun (j : Nat) => []) (fun (j : Nat) => j ≤ k ∧ insPos (beP gs k) (ordTo gs k) k = insPos (beP gs k) (ordTo gs k) j) (fun (j : Nat) => j) k ⟨rfl, rfl, rfl, rfl, trivial⟩ ⟨rfl, rfl, trivial⟩ ⟨by show some (AV.p (PV.v (Value.int IntKind.i64 _))) = _; rw [List.length_map, ordTo_length], trivial⟩ trivial ?_ (fun j hI => ?_)
      · exact ⟨Nat.le_refl _, rfl⟩
      · -- round
        have hI1 := hI.1
        refine AC.seq ?_
        refine AC.seq ?_
        refine AC.draw (by kernel_rfl) (by kernel_rfl) ?_
        refine AO.yld _ (Yld.move rfl) rfl rfl rfl ?_
        refine AO.yld _ (Yld.int rfl rfl rfl) rfl rfl rfl ?_
        refine AO.yld _ (Yld.move rfl) rfl rfl rfl ?_
        refine AO.splitAt 18 _ rfl (fun s18 => ?_) (fun s18 => ?_)
        · -- s18 True
          obtain ⟨jj, rfl⟩ : ∃ jj, j = jj + 1 := ⟨j - 1, by have h := s18; simp at h; omega⟩
          obtain ⟨y, hy⟩ := get_some (xs := ordTo gs k) (k := jj) (by rw [ordTo_length]; omega)
          obtain ⟨m, rfl, hm⟩ := ord_get hy
          have hrB := map_row (enc := encI) hy
          obtain ⟨g2, hg2⟩ := get_some (xs := gs) (k := m) (by omega)
          have hrK := map_row (enc := encI) (negP_get hg2)
          refine AO.yldG _ (Yld.move rfl) rfl rfl rfl rfl rfl ?_
          refine AO.yldG _ (Yld.move rfl) rfl rfl rfl rfl rfl ?_
          refine AO.yldG _ (Yld.move rfl) rfl rfl rfl rfl rfl ?_
          refine AO.yldG _ (Yld.sub rfl rfl (by omega) (by omega)) rfl rfl rfl rfl rfl ?_
          refine AO.yldG _ (Yld.indexVec Try.underlying23 Try.sizeOf2 rfl rfl rfl (show _ = ((jj : Nat) : Int) by omega) (by rw [List.length_map, ordTo_length]; omega)) rfl rfl rfl rfl rfl ?_
          refine AO.yldG _ (Yld.load Try.isAgg2 rfl (Eq.trans (behind_el rfl hrB) rfl)) rfl rfl rfl rfl rfl ?_
          refine AO.yldG _ (Yld.indexSl Try.underlying23 Try.sizeOf2 rfl rfl hrK rfl) rfl rfl rfl rfl rfl ?_
          refine AO.yldG _ (Yld.load Try.isAgg2 rfl rfl) rfl rfl rfl rfl rfl ?_
          refine AO.yldG _ (Yld.move rfl) rfl rfl rfl rfl rfl ?_
          refine AO.yldG _ (Yld.move rfl) rfl rfl rfl rfl rfl ?_
          refine AO.yldG _ (Yld.indexSl Try.underlying23 Try.sizeOf2 rfl rfl hrI rfl) rfl rfl rfl rfl rfl ?_
          refine AO.yldG _ (Yld.load Try.isAgg2 rfl rfl) rfl rfl rfl rfl rfl ?_
          refine AO.yldG _ (Yld.int rfl rfl rfl) rfl rfl rfl rfl rfl ?_
          refine AO.yld _ (Yld.pickT rfl rfl) rfl rfl rfl ?_
          refine AO.nil ?_
          refine AC.cond _ rfl (fun c32 => ?_) (fun c32 => ?_)
          · -- c32 True
            have hbe : beP gs k (m : Int) = true := by have h := c32; rw [decide_eq_true_eq] at h; unfold beP; rw [decide_eq_true_eq, pAt_get hg, pAt_get hg2]; omega
            refine AC.skip ?_
            refine AC.block ?_
            refine AC.region ?_
            refine AO.yld _ (Yld.move rfl) rfl rfl rfl ?_
            refine AO.yld _ (Yld.sub rfl rfl (by omega) (by omega)) rfl rfl rfl ?_
            refine AO.yld _ (Yld.assign rfl) rfl rfl rfl ?_
            refine AO.nil ?_
            refine AC.mark ?_
            refine AC.back ⟨jj, ?_, ?_, ⟨?_, trivial⟩, trivial, ⟨rfl, rfl, rfl, rfl, trivial⟩, ⟨rfl, rfl, trivial⟩⟩
            · exact ⟨by omega, hI.2.trans (insPos_go hy hbe)⟩
            · omega
            · first | rfl | (show some (AV.p (PV.v (Value.int IntKind.i64 _))) = _; congr 4; omega)
          · -- c32 False
            have hst : insPos (beP gs k) (ordTo gs k) (jj + 1) = jj + 1 := insPos_stop hy (by have h := c32; rw [decide_eq_false_iff_not] at h; unfold beP; rw [decide_eq_false_iff_not, pAt_get hg, pAt_get hg2]; omega)
            refine AC.exit rfl ?_
            refine AC.seq ?_
            refine AC.region ?_
            refine AO.freeze 0 rfl ?_
            refine AO.yld _ (Yld.move rfl) rfl rfl rfl ?_
            refine AO.yld _ (Yld.move rfl) rfl rfl rfl ?_
            refine AO.yld _ (Yld.sliceTo (h := _) Try.underlying23 Try.sizeOf2 rfl rfl rfl (by rw [ordTo_length]; omega)) rfl rfl rfl ?_
            refine AO.callW (wantedN rfl) [0] [] [0] rfl rfl Try.call37 rfl (spec_l00Own_c (by rw [List.length_take, ordTo_length]; omega)) (.flat (.view rfl rfl .nil) (fun _ => by simp [AV.Flat, AV.FlatL, PV.Flat, PV.FlatL]) (fun _ => ⟨flat_map flatI _, trivial⟩)) rfl (fun _ => rfl) trivial rfl (fun _ => rfl) (fun _ => rfl) (fun _ _ => ?_)
            refine AO.yld _ (Yld.assign rfl) rfl rfl rfl ?_
            refine AO.nil ?_
            refine AC.seq ?_
            refine AC.region ?_
            refine AO.yld _ (Yld.move rfl) rfl rfl rfl ?_
            refine AO.yld _ (Yld.move rfl) rfl rfl rfl ?_
            refine AO.buildSlice (rows := [[_]]) 1 Try.underlying23 ty2 rfl rfl rfl rfl rfl rfl rfl rfl rfl ?_
            refine AO.append 0 Try.underlying23 ty2 rfl rfl rfl rfl rfl rfl rfl (by simp [pvOne]) (by simp only [List.length_map, List.length_cons, List.length_nil, List.length_take, ordTo_length]; omega) (by simp only [List.length_map, List.length_cons, List.length_nil, List.length_take, ordTo_length]; omega) rfl ?_
            refine AO.yld _ (Yld.assign rfl) rfl rfl rfl ?_
            refine AO.nil ?_
            refine AC.region ?_
            refine AO.yld _ (Yld.move rfl) rfl rfl rfl ?_
            refine AO.yld _ (Yld.move rfl) rfl rfl rfl ?_
            refine AO.yld _ (Yld.move rfl) rfl rfl rfl ?_
            refine AO.yld _ (Yld.sliceFrom (l := _) Try.underlying23 Try.sizeOf2 rfl rfl rfl (by rw [ordTo_length]; omega)) rfl rfl rfl ?_
            refine AO.append 0 Try.underlying23 ty2 rfl rfl rfl rfl rfl rfl rfl (fun r hr q hq => by obtain ⟨y, _, rfl⟩ := List.mem_map.1 hr; simp only [encI, List.mem_cons, List.not_mem_nil, or_false] at hq; rcases hq with rfl; rfl) (by simp only [List.length_append, List.length_map, List.length_cons, List.length_nil, List.length_take, List.length_drop, ordTo_length]; omega) (by simp only [List.length_append, List.length_map, List.length_cons, List.length_nil, List.length_take, List.length_drop, ordTo_length]; omega) rfl ?_
            refine AO.yld _ (Yld.assign rfl) rfl rfl rfl ?_
            refine AO.nil ?_
            refine AC.mark ?_
            refine AC.region ?_
            refine AO.yld _ (Yld.move rfl) rfl rfl rfl ?_
            refine AO.yld _ (Yld.add rfl rfl (by omega) (by omega)) rfl rfl rfl ?_
            refine AO.yld _ (Yld.assign rfl) rfl rfl rfl ?_
            refine AO.nil ?_
            refine AC.back ⟨k + 1, ?_, ?_, ⟨?_, ?_, trivial⟩, ⟨?_, trivial⟩, ⟨rfl, rfl, trivial⟩, ⟨rfl, trivial⟩⟩
            · exact hk
            · omega
            · rfl
            · rfl
            · rw [← ord_next (hI.2.trans hst)]; rfl
        · -- s18 False
          have hst : insPos (beP gs k) (ordTo gs k) j = j := by (have h0 : j = 0 := (by have h := s18; simp at h; omega)); rw [h0]; rfl
          refine AO.skipT rfl rfl rfl rfl rfl ?_
          refine AO.skipT rfl rfl rfl rfl rfl ?_
          refine AO.skipT rfl rfl rfl rfl rfl ?_
          refine AO.skipT rfl rfl rfl rfl rfl ?_
          refine AO.skipT rfl rfl rfl rfl rfl ?_
          refine AO.skipT rfl rfl rfl rfl rfl ?_
          refine AO.skipT rfl rfl rfl rfl rfl ?_
          refine AO.skipT rfl rfl rfl rfl rfl ?_
          refine AO.skipT rfl rfl rfl rfl rfl ?_
          refine AO.skipT rfl rfl rfl rfl rfl ?_
          refine AO.skipT rfl rfl rfl rfl rfl ?_
          refine AO.skipT rfl rfl rfl rfl rfl ?_
          refine AO.skipT rfl rfl rfl rfl rfl ?_
          refine AO.yld _ (Yld.pickF rfl rfl) rfl rfl rfl ?_
          refine AO.nil ?_
          refine AC.condF rfl ?_
          refine AC.exit rfl ?_
          refine AC.seq ?_
          refine AC.region ?_
          refine AO.freeze 0 rfl ?_
          refine AO.yld _ (Yld.move rfl) rfl rfl rfl ?_
          refine AO.yld _ (Yld.move rfl) rfl rfl rfl ?_
          refine AO.yld _ (Yld.sliceTo (h := _) Try.underlying23 Try.sizeOf2 rfl rfl rfl (by rw [ordTo_length]; omega)) rfl rfl rfl ?_
          refine AO.callW (wantedN rfl) [0] [] [0] rfl rfl Try.call37 rfl (spec_l00Own_c (by rw [List.length_take, ordTo_length]; omega)) (.flat (.view rfl rfl .nil) (fun _ => by simp [AV.Flat, AV.FlatL, PV.Flat, PV.FlatL]) (fun _ => ⟨flat_map flatI _, trivial⟩)) rfl (fun _ => rfl) trivial rfl (fun _ => rfl) (fun _ => rfl) (fun _ _ => ?_)
          refine AO.yld _ (Yld.assign rfl) rfl rfl rfl ?_
          refine AO.nil ?_
          refine AC.seq ?_
          refine AC.region ?_
          refine AO.yld _ (Yld.move rfl) rfl rfl rfl ?_
          refine AO.yld _ (Yld.move rfl) rfl rfl rfl ?_
          refine AO.buildSlice (rows := [[_]]) 1 Try.underlying23 ty2 rfl rfl rfl rfl rfl rfl rfl rfl rfl ?_
          refine AO.append 0 Try.underlying23 ty2 rfl rfl rfl rfl rfl rfl rfl (by simp [pvOne]) (by simp only [List.length_map, List.length_cons, List.length_nil, List.length_take, ordTo_length]; omega) (by simp only [List.length_map, List.length_cons, List.length_nil, List.length_take, ordTo_length]; omega) rfl ?_
          refine AO.yld _ (Yld.assign rfl) rfl rfl rfl ?_
          refine AO.nil ?_
          refine AC.region ?_
          refine AO.yld _ (Yld.move rfl) rfl rfl rfl ?_
          refine AO.yld _ (Yld.move rfl) rfl rfl rfl ?_
          refine AO.yld _ (Yld.move rfl) rfl rfl rfl ?_
          refine AO.yld _ (Yld.sliceFrom (l := _) Try.underlying23 Try.sizeOf2 rfl rfl rfl (by rw [ordTo_length]; omega)) rfl rfl rfl ?_
          refine AO.append 0 Try.underlying23 ty2 rfl rfl rfl rfl rfl rfl rfl (fun r hr q hq => by obtain ⟨y, _, rfl⟩ := List.mem_map.1 hr; simp only [encI, List.mem_cons, List.not_mem_nil, or_false] at hq; rcases hq with rfl; rfl) (by simp only [List.length_append, List.length_map, List.length_cons, List.length_nil, List.length_take, List.length_drop, ordTo_length]; omega) (by simp only [List.length_append, List.length_map, List.length_cons, List.length_nil, List.length_take, List.length_drop, ordTo_length]; omega) rfl ?_
          refine AO.yld _ (Yld.assign rfl) rfl rfl rfl ?_
          refine AO.nil ?_
          refine AC.mark ?_
          refine AC.region ?_
          refine AO.yld _ (Yld.move rfl) rfl rfl rfl ?_
          refine AO.yld _ (Yld.add rfl rfl (by omega) (by omega)) rfl rfl rfl ?_
          refine AO.yld _ (Yld.assign rfl) rfl rfl rfl ?_
          refine AO.nil ?_
          refine AC.back ⟨k + 1, ?_, ?_, ⟨?_, ?_, trivial⟩, ⟨?_, trivial⟩, ⟨rfl, rfl, trivial⟩, ⟨rfl, trivial⟩⟩
          · exact hk
          · omega
          · rfl
          · rfl
          · rw [← ord_next (hI.2.trans hst)]; rfl
    · -- c11 False
      obtain rfl : k = gs.length := by have h := c11; rw [hM] at h; simp at h; omega
      refine AC.exit rfl ?_
      refine AC.seq ?_
      refine AC.region ?_
      refine AO.yld _ (Yld.move rfl) rfl rfl rfl ?_
      refine AO.yld _ (Yld.assign rfl) rfl rfl rfl ?_
      refine AO.nil ?_
      refine FnE.ret () [0] [0] Try.results49 (RVs.cons (RV.tmp rfl) RVs.nil) rfl rfl rfl ?_ ?_ ⟨⟨_, rfl, ?_⟩, trivial⟩
      · -- holds
        trivial
      · -- value
        rfl
      · -- thing 0
        rfl

set_option maxHeartbeats 2000000 in
theorem spec_GreedySeating_c {gs : List Group} {rs : List Int} (hn : gs.length ≤ 1048576) (hs : ∀ x ∈ gs, x.name.length ≤ 1048576) (hr : rs.length ≤ 1048576) :
    FnE (α := Unit) Try.prog 20 [.p (.sl 3 (gs.map encGroup)), .p (.sl 1 (rs.map encI))] [] [] (fun _ => True) (fun _ => .tup [.h 0, .p (.v (.int .i64 (greedyS gs rs).2))]) (fun _ => [(0, .vec 2 1 ((greedyS gs rs).1.map encI))]) := by
  have hM : (gs.map encGroup).length = gs.length := List.length_map ..
  refine FnE.intro Try.func20 rfl Try.ntmps20 rfl rfl (fun w0 F0 η φ w => ?_)
  refine AC.seq ?_
  refine AC.region ?_
  refine AO.yld _ (Yld.assign rfl) rfl rfl rfl ?_
  refine AO.yld _ (Yld.assign rfl) rfl rfl rfl ?_
  refine AO.nil ?_
  refine AC.seq ?_
  refine AC.seq ?_
  refine AC.region ?_
  refine AO.yld _ (Yld.move rfl) rfl rfl rfl ?_
  refine AO.yld _ (Yld.call rfl rfl Try.call34 rfl rfl rfl (spec_l24Ok_c (by first | assumption | omega) (by assumption)) rfl) rfl rfl rfl ?_
  refine AO.yld _ (Yld.not rfl) rfl rfl rfl ?_
  refine AO.yld _ (Yld.move rfl) rfl rfl rfl ?_
  refine AO.splitAt 18 _ rfl (fun s18 => ?_) (fun s18 => ?_)
  · -- s18 True
    have hbad : ¬ (okGroups gs = true ∧ okRows rs = true) := by clear hs; first | (simp_all; done) | grind
    refine AO.skipF rfl rfl rfl rfl rfl ?_
    refine AO.skipF rfl rfl rfl rfl rfl ?_
    refine AO.skipF rfl rfl rfl rfl rfl ?_
    refine AO.yld _ (Yld.pickT rfl rfl) rfl rfl rfl ?_
    refine AO.nil ?_
    refine AC.condT rfl ?_
    refine AC.seq ?_
    refine AC.region ?_
    refine AO.yld _ (Yld.assign rfl) rfl rfl rfl ?_
    refine AO.yld _ (Yld.assign rfl) rfl rfl rfl ?_
    refine AO.nil ?_
    refine AC.nilVec 4 0 2 1 rfl rfl ?_
    refine FnE.ret () [0] [0] Try.results20 (RVs.cons (RV.tmp rfl) (RVs.cons (RV.tmp rfl) RVs.nil)) rfl rfl rfl ?_ ?_ ⟨⟨_, rfl, ?_⟩, trivial⟩
    · -- holds
      trivial
    · -- value
      refine tupE ?_; first | (rw [greedy_bad hbad]) | (rw [greedy_run hv]; done) | (rw [greedy_run hv]; rfl) | fail
    · -- thing 0
      refine vecE ?_; first | (rw [greedy_bad hbad]; rfl) | (rw [greedy_run hv]; done) | (rw [greedy_run hv]; rfl) | fail
  · -- s18 False
    refine AO.yldG _ (Yld.move rfl) rfl rfl rfl rfl rfl ?_
    refine AO.yldG _ (Yld.call rfl rfl Try.call35 rfl rfl rfl (spec_l24Rows_c (by first | assumption | omega)) rfl) rfl rfl rfl rfl rfl ?_
    refine AO.yldG _ (Yld.not rfl) rfl rfl rfl rfl rfl ?_
    refine AO.yld _ (Yld.pickF rfl rfl) rfl rfl rfl ?_
    refine AO.nil ?_
    refine AC.cond _ rfl (fun c22 => ?_) (fun c22 => ?_)
    · -- c22 True
      have hbad : ¬ (okGroups gs = true ∧ okRows rs = true) := by clear hs; first | (simp_all; done) | grind
      refine AC.seq ?_
      refine AC.region ?_
      refine AO.yld _ (Yld.assign rfl) rfl rfl rfl ?_
      refine AO.yld _ (Yld.assign rfl) rfl rfl rfl ?_
      refine AO.nil ?_
      refine AC.nilVec 4 0 2 1 rfl rfl ?_
      refine FnE.ret () [0] [0] Try.results20 (RVs.cons (RV.tmp rfl) (RVs.cons (RV.tmp rfl) RVs.nil)) rfl rfl rfl ?_ ?_ ⟨⟨_, rfl, ?_⟩, trivial⟩
      · -- holds
        trivial
      · -- value
        refine tupE ?_; first | (rw [greedy_bad hbad]) | (rw [greedy_run hv]; done) | (rw [greedy_run hv]; rfl) | fail
      · -- thing 0
        refine vecE ?_; first | (rw [greedy_bad hbad]; rfl) | (rw [greedy_run hv]; done) | (rw [greedy_run hv]; rfl) | fail
    · -- c22 False
      have hv : okGroups gs = true ∧ okRows rs = true := by first | (simp_all; done) | grind
      have hv2 := rows_all hv.2
      have hv3 := rows_len hv.2
      have hgl := groups_len hv.1
      have hok := hv.1
      refine AC.skip ?_
      refine AC.seq ?_
      refine AC.region ?_
      refine AO.buildSlice (rows := []) 0 Try.underlying23 ty2 rfl rfl rfl rfl rfl rfl rfl rfl rfl ?_
      refine AO.yld _ (Yld.assign rfl) rfl rfl rfl ?_
      refine AO.nil ?_
      refine AC.seq ?_
      refine AC.seq ?_
      refine AC.region ?_
      refine AO.yld _ (Yld.assign rfl) rfl rfl rfl ?_
      refine AO.nil ?_
      refine AC.block ?_
      refine AC.loopC [(0, _), (1, _), (4, _), (5, _)] [(900, _)] (fun (k : Nat) => [(7, .p (.v (.int .i64 (k : Int)))), (6, .h 0)]) (fun (k : Nat) => [(0, .vec 2 1 ((negP (gs.take k)).map encI))]) (fun (k : Nat) => k ≤ gs.length) (fun (k : Nat) => gs.length - k) 0 ⟨rfl, rfl, rfl, rfl, trivial⟩ ⟨rfl, trivial⟩ ⟨rfl, rfl, trivial⟩ ⟨rfl, trivial⟩ ?_ (fun k hJ => ?_)
      · exact Nat.zero_le _
      · -- round
        refine AC.seq ?_
        refine AC.seq ?_
        refine AC.region ?_
        refine AO.yld _ (Yld.move rfl) rfl rfl rfl ?_
        refine AO.yld _ (Yld.move rfl) rfl rfl rfl ?_
        refine AO.yld _ (Yld.len Try.underlying27 rfl rfl) rfl rfl rfl ?_
        refine AO.yld _ (Yld.int rfl rfl rfl) rfl rfl rfl ?_
        refine AO.nil ?_
        refine AC.cond _ rfl (fun c27 => ?_) (fun c27 => ?_)
        · -- c27 True
          have hk : k < gs.length := by have h := c27; simp at h; omega
          obtain ⟨x, hx⟩ := get_some hk
          have hrow := map_row (enc := encGroup) hx
          have hgp := group_lim (groups_at hok hx)
          have hnl : (negP (gs.take k)).length = k := by simp [negP]; omega
          refine AC.skip ?_
          refine AC.seq ?_
          refine AC.block ?_
          refine AC.region ?_
          refine AO.yld _ (Yld.move rfl) rfl rfl rfl ?_
          refine AO.yld _ (Yld.move rfl) rfl rfl rfl ?_
          refine AO.yld _ (Yld.move rfl) rfl rfl rfl ?_
          refine AO.yld _ (Yld.indexSl Try.underlying27 Try.sizeOf52 rfl rfl hrow rfl) rfl rfl rfl ?_
          refine AO.yld _ (Yld.fieldAddr Try.underlying52 rfl rfl Try.sizeOf2 rfl rfl rfl) rfl rfl rfl ?_
          refine AO.yld _ (Yld.load Try.isAgg2 rfl rfl) rfl rfl rfl ?_
          refine AO.yld _ (Yld.negN rfl (by omega) (by omega)) rfl rfl rfl ?_
          refine AO.buildSlice (rows := [[_]]) 1 Try.underlying23 ty2 rfl rfl rfl rfl rfl rfl rfl rfl rfl ?_
          refine AO.append 0 Try.underlying23 ty2 rfl rfl rfl rfl rfl rfl rfl (by simp [pvOne]) (by simp only [List.length_map, List.length_cons, List.length_nil]; omega) (by simp only [List.length_map, List.length_cons, List.length_nil]; omega) rfl ?_
          refine AO.yld _ (Yld.assign rfl) rfl rfl rfl ?_
          refine AO.nil ?_
          refine AC.mark ?_
          refine AC.region ?_
          refine AO.yld _ (Yld.move rfl) rfl rfl rfl ?_
          refine AO.yld _ (Yld.add rfl rfl (by omega) (by omega)) rfl rfl rfl ?_
          refine AO.yld _ (Yld.assign rfl) rfl rfl rfl ?_
          refine AO.nil ?_
          refine AC.back ⟨k + 1, ?_, ?_, ⟨?_, ?_, trivial⟩, ⟨?_, trivial⟩, ⟨rfl, rfl, rfl, rfl, trivial⟩, ⟨rfl, trivial⟩⟩
          · exact hk
          · omega
          · rfl
          · rfl
          · rw [← negP_snoc hx]; rfl
        · -- c27 False
          obtain rfl : k = gs.length := by have h := c27; simp at h; omega
          refine AC.exit rfl ?_
          refine AC.seq ?_
          refine AC.region ?_
          refine AO.yld _ (Yld.move rfl) rfl rfl rfl ?_
          refine AO.vecEq 0 ((negP gs).map encI) rfl (by rw [List.take_of_length_le (Nat.le_refl _)]) ?_
          refine AO.callW (wantedN rfl) [1] [] [0] rfl rfl Try.call49 rfl (spec_l22Order_c (by assumption)) (.flat (.view rfl rfl .nil) (fun _ => by simp [AV.Flat, AV.FlatL, PV.Flat, PV.FlatL]) (fun _ => ⟨flat_map flatI _, trivial⟩)) rfl (fun _ => rfl) trivial rfl (fun _ => rfl) (fun _ => rfl) (fun _ _ => ?_)
          refine AO.yld _ (Yld.assign rfl) rfl rfl rfl ?_
          refine AO.nil ?_
          refine AC.seq ?_
          refine AC.region ?_
          refine AO.yld _ (Yld.move rfl) rfl rfl rfl ?_
          refine AO.callW (wantedN rfl) [2] [] [0] rfl rfl Try.call37 rfl (spec_l00Own_c (by first | assumption | omega)) (.flat (.view rfl rfl .nil) (fun _ => by simp [AV.Flat, AV.FlatL, PV.Flat, PV.FlatL]) (fun _ => ⟨flat_map flatI _, trivial⟩)) rfl (fun _ => rfl) trivial rfl (fun _ => rfl) (fun _ => rfl) (fun _ _ => ?_)
          refine AO.yld _ (Yld.assign rfl) rfl rfl rfl ?_
          refine AO.nil ?_
          refine AC.seq ?_
          refine AC.region ?_
          refine AO.yld _ (Yld.move rfl) rfl rfl rfl ?_
          refine AO.yld _ (Yld.len Try.underlying27 rfl rfl) rfl rfl rfl ?_
          refine AO.make 3 Try.underlying23 ty2 rfl rfl rfl rfl rfl (Nat.le_refl _) (by rw [hM]; omega) (by rw [hM]; omega) rfl rfl ?_
          refine AO.yld _ (Yld.assign rfl) rfl rfl rfl ?_
          refine AO.nil ?_
          refine AC.seq ?_
          refine AC.seq ?_
          refine AC.region ?_
          refine AO.yld _ (Yld.assign rfl) rfl rfl rfl ?_
          refine AO.nil ?_
          refine AC.block ?_
          refine AC.loopC [(0, _), (4, _), (5, _), (8, _), (9, _), (10, _)] [(0, _), (1, _), (900, _)] (fun (k : Nat) => [(11, .p (.v (.int .i64 (k : Int))))]) (fun (k : Nat) => [(2, .vec 2 1 ((greedyTo gs rs k).1.map encI)), (3, .vec 2 1 ((greedyTo gs rs k).2.map encI))]) (fun (k : Nat) => k ≤ gs.length) (fun (k : Nat) => gs.length - k) 0 ⟨rfl, rfl, rfl, rfl, rfl, rfl, trivial⟩ ⟨rfl, rfl, rfl, trivial⟩ ⟨rfl, trivial⟩ ⟨rfl, by rw [hM]; exact congrArg (fun x => some (Res.vec 2 1 x)) (zero_rows gs.length), trivial⟩ ?_ (fun k hJ => ?_)
          · exact Nat.zero_le _
          · -- round
            refine AC.seq ?_
            refine AC.seq ?_
            refine AC.region ?_
            refine AO.yld _ (Yld.move rfl) rfl rfl rfl ?_
            refine AO.yld _ (Yld.move rfl) rfl rfl rfl ?_
            refine AO.yld _ (Yld.len Try.underlying23 rfl rfl) rfl rfl rfl ?_
            refine AO.yld _ (Yld.int rfl rfl rfl) rfl rfl rfl ?_
            refine AO.nil ?_
            refine AC.cond _ rfl (fun c49 => ?_) (fun c49 => ?_)
            · -- c49 True
              have hk : k < gs.length := by have h := c49; simp [ordTo_length] at h; omega
              obtain ⟨y, hy⟩ := get_some (xs := ordTo gs gs.length) (k := k) (by rw [ordTo_length]; exact hk)
              obtain ⟨m, rfl, hm⟩ := ord_get hy
              obtain ⟨g, hg⟩ := get_some (xs := gs) (k := m) hm
              have hrowO := map_row (enc := encI) hy
              have hrowG := map_row (enc := encGroup) hg
              have hgp := group_lim (groups_at hv.1 hg)
              have hlen := greedyTo_len gs rs k
              have hFok := greedyTo_ok hv.1 hv2 k
              obtain ⟨o9, ho9⟩ := get_some (xs := (greedyTo gs rs k).2) (k := m) (by omega)
              have hrowP := map_row (enc := encI) ho9
              refine AC.skip ?_
              refine AC.seq ?_
              refine AC.block ?_
              refine AC.seq ?_
              refine AC.region ?_
              refine AO.yld _ (Yld.move rfl) rfl rfl rfl ?_
              refine AO.yld _ (Yld.move rfl) rfl rfl rfl ?_
              refine AO.yld _ (Yld.indexVec Try.underlying23 Try.sizeOf2 rfl rfl rfl rfl (by simp only [List.length_map, ordTo_length]; omega)) rfl rfl rfl ?_
              refine AO.yld _ (Yld.load Try.isAgg2 rfl (Eq.trans (behind_el rfl hrowO) rfl)) rfl rfl rfl ?_
              refine AO.yld _ (Yld.assign rfl) rfl rfl rfl ?_
              refine AO.nil ?_
              refine AC.seq ?_
              refine AC.region ?_
              refine AO.yld _ (Yld.assign rfl) rfl rfl rfl ?_
              refine AO.nil ?_
              refine AC.seq ?_
              refine AC.seq ?_
              refine AC.region ?_
              refine AO.yld _ (Yld.assign rfl) rfl rfl rfl ?_
              refine AO.nil ?_
              refine AC.block ?_
              refine AC.loopC [(0, _), (4, _), (5, _), (8, _), (9, _), (10, _), (11, _), (12, _)] [(0, _), (1, _), (2, _), (3, _), (900, _)] (fun (r : Nat) => [(14, .p (.v (.int .i64 (r : Int)))), (13, .p (.v (.int .i64 (seatTo (greedyTo gs rs k).1 g.persons r))))]) (fun (r : Nat) => []) (fun (r : Nat) => r ≤ (greedyTo gs rs k).1.length) (fun (r : Nat) => (greedyTo gs rs k).1.length - r) 0 ⟨rfl, rfl, rfl, rfl, rfl, rfl, rfl, rfl, trivial⟩ ⟨rfl, rfl, rfl, rfl, rfl, trivial⟩ ⟨rfl, rfl, trivial⟩ trivial ?_ (fun r hI => ?_)
              · exact Nat.zero_le _
              · -- round
                refine AC.seq ?_
                refine AC.seq ?_
                refine AC.region ?_
                refine AO.yld _ (Yld.move rfl) rfl rfl rfl ?_
                refine AO.yld _ (Yld.move rfl) rfl rfl rfl ?_
                refine AO.yld _ (Yld.len Try.underlying23 rfl rfl) rfl rfl rfl ?_
                refine AO.yld _ (Yld.int rfl rfl rfl) rfl rfl rfl ?_
                refine AO.nil ?_
                refine AC.cond _ rfl (fun c59 => ?_) (fun c59 => ?_)
                · -- c59 True
                  have hr : r < (greedyTo gs rs k).1.length := by have h := c59; simpa using h
                  obtain ⟨z, hz⟩ := get_some hr
                  have hrowF := map_row (enc := encI) hz
                  refine AC.skip ?_
                  refine AC.seq ?_
                  refine AC.block ?_
                  refine AC.seq ?_
                  refine AC.draw (by kernel_rfl) (by kernel_rfl) ?_
                  refine AO.yld _ (Yld.move rfl) rfl rfl rfl ?_
                  refine AO.yld _ (Yld.move rfl) rfl rfl rfl ?_
                  refine AO.yld _ (Yld.indexVec Try.underlying23 Try.sizeOf2 rfl rfl rfl rfl (by simpa using hr)) rfl rfl rfl ?_
                  refine AO.yld _ (Yld.load Try.isAgg2 rfl (Eq.trans (behind_el rfl hrowF) rfl)) rfl rfl rfl ?_
                  refine AO.yld _ (Yld.move rfl) rfl rfl rfl ?_
                  refine AO.yld _ (Yld.move rfl) rfl rfl rfl ?_
                  refine AO.yld _ (Yld.indexSl Try.underlying27 Try.sizeOf52 rfl rfl hrowG rfl) rfl rfl rfl ?_
                  refine AO.yld _ (Yld.fieldAddr Try.underlying52 rfl rfl Try.sizeOf2 rfl rfl rfl) rfl rfl rfl ?_
                  refine AO.yld _ (Yld.load Try.isAgg2 rfl rfl) rfl rfl rfl ?_
                  refine AO.yld _ (Yld.int rfl rfl rfl) rfl rfl rfl ?_
                  refine AO.yld _ (Yld.move rfl) rfl rfl rfl ?_
                  refine AO.splitAt 72 _ rfl (fun s72 => ?_) (fun s72 => ?_)
                  · -- s72 True
                    have hf : g.persons ≤ z := by simpa using s72
                    refine AO.yldG _ (Yld.move rfl) rfl rfl rfl rfl rfl ?_
                    refine AO.yldG _ (Yld.int rfl rfl rfl) rfl rfl rfl rfl rfl ?_
                    refine AO.yldG _ (Yld.move rfl) rfl rfl rfl rfl rfl ?_
                    refine AO.splitAt 75 _ rfl (fun s75 => ?_) (fun s75 => ?_)
                    · -- s75 True
                      have hb9 : seatTo (greedyTo gs rs k).1 g.persons r < 0 := by simpa using s75
                      have hnx := seatTo_first (F := (greedyTo gs rs k).1) hz hf hb9
                      refine AO.skipF rfl rfl rfl rfl rfl ?_
                      refine AO.skipF rfl rfl rfl rfl rfl ?_
                      refine AO.skipF rfl rfl rfl rfl rfl ?_
                      refine AO.skipF rfl rfl rfl rfl rfl ?_
                      refine AO.skipF rfl rfl rfl rfl rfl ?_
                      refine AO.skipF rfl rfl rfl rfl rfl ?_
                      refine AO.skipF rfl rfl rfl rfl rfl ?_
                      refine AO.skipF rfl rfl rfl rfl rfl ?_
                      refine AO.skipF rfl rfl rfl rfl rfl ?_
                      refine AO.yldG _ (Yld.pickT rfl rfl) rfl rfl rfl rfl rfl ?_
                      refine AO.yld _ (Yld.pickT rfl rfl) rfl rfl rfl ?_
                      refine AO.nil ?_
                      refine AC.condT rfl ?_
                      refine AC.region ?_
                      refine AO.yld _ (Yld.move rfl) rfl rfl rfl ?_
                      refine AO.yld _ (Yld.assign rfl) rfl rfl rfl ?_
                      refine AO.nil ?_
                      refine AC.mark ?_
                      refine AC.region ?_
                      refine AO.yld _ (Yld.move rfl) rfl rfl rfl ?_
                      refine AO.yld _ (Yld.add rfl rfl (by omega) (by omega)) rfl rfl rfl ?_
                      refine AO.yld _ (Yld.assign rfl) rfl rfl rfl ?_
                      refine AO.nil ?_
                      refine AC.back ⟨r + 1, ?_, ?_, ⟨?_, ?_, trivial⟩, trivial, ⟨rfl, rfl, rfl, rfl, rfl, rfl, rfl, rfl, trivial⟩, ⟨rfl, rfl, rfl, rfl, rfl, trivial⟩⟩
                      · exact hr
                      · omega
                      · rfl
                      · rw [hnx]; rfl
                    · -- s75 False
                      have hb9 : ¬ seatTo (greedyTo gs rs k).1 g.persons r < 0 := by simpa using s75
                      obtain ⟨bn, zb, hbn, hbl, hzb, hpz⟩ := seatTo_nat (greedyTo gs rs k).1 g.persons r hb9 (by omega)
                      have hrowB := map_row (enc := encI) hzb
                      refine AO.yldG _ (Yld.move rfl) rfl rfl rfl rfl rfl ?_
                      refine AO.yldG _ (Yld.move rfl) rfl rfl rfl rfl rfl ?_
                      refine AO.yldG _ (Yld.indexVec Try.underlying23 Try.sizeOf2 rfl rfl rfl rfl (by simpa using hr)) rfl rfl rfl rfl rfl ?_
                      refine AO.yldG _ (Yld.load Try.isAgg2 rfl (Eq.trans (behind_el rfl hrowF) rfl)) rfl rfl rfl rfl rfl ?_
                      refine AO.yldG _ (Yld.move rfl) rfl rfl rfl rfl rfl ?_
                      refine AO.yldG _ (Yld.move rfl) rfl rfl rfl rfl rfl ?_
                      refine AO.yldG _ (Yld.indexVec Try.underlying23 Try.sizeOf2 rfl rfl rfl (show _ = ((bn : Nat) : Int) by omega) (by rw [List.length_map]; omega)) rfl rfl rfl rfl rfl ?_
                      refine AO.yldG _ (Yld.load Try.isAgg2 rfl (Eq.trans (behind_el rfl hrowB) rfl)) rfl rfl rfl rfl rfl ?_
                      refine AO.yldG _ (Yld.int rfl rfl rfl) rfl rfl rfl rfl rfl ?_
                      refine AO.yldG _ (Yld.pickF rfl rfl) rfl rfl rfl rfl rfl ?_
                      refine AO.yld _ (Yld.pickT rfl rfl) rfl rfl rfl ?_
                      refine AO.nil ?_
                      refine AC.cond _ rfl (fun c86 => ?_) (fun c86 => ?_)
                      · -- c86 True
                        first | skip | skip
                        have hnx : seatTo (greedyTo gs rs k).1 g.persons (r + 1) = (r : Int) := by first | exact hnx | exact seatTo_better hz hf hbn hzb (by simpa using c86)
                        refine AC.region ?_
                        refine AO.yld _ (Yld.move rfl) rfl rfl rfl ?_
                        refine AO.yld _ (Yld.assign rfl) rfl rfl rfl ?_
                        refine AO.nil ?_
                        refine AC.mark ?_
                        refine AC.region ?_
                        refine AO.yld _ (Yld.move rfl) rfl rfl rfl ?_
                        refine AO.yld _ (Yld.add rfl rfl (by omega) (by omega)) rfl rfl rfl ?_
                        refine AO.yld _ (Yld.assign rfl) rfl rfl rfl ?_
                        refine AO.nil ?_
                        refine AC.back ⟨r + 1, ?_, ?_, ⟨?_, ?_, trivial⟩, trivial, ⟨rfl, rfl, rfl, rfl, rfl, rfl, rfl, rfl, trivial⟩, ⟨rfl, rfl, rfl, rfl, rfl, trivial⟩⟩
                        · exact hr
                        · omega
                        · rfl
                        · rw [hnx]; rfl
                      · -- c86 False
                        have hnx : seatTo (greedyTo gs rs k).1 g.persons (r + 1) = seatTo (greedyTo gs rs k).1 g.persons r := by first | exact hnx | exact seatTo_keep hz hbn hzb (by simpa using c86)
                        refine AC.skip ?_
                        refine AC.mark ?_
                        refine AC.region ?_
                        refine AO.yld _ (Yld.move rfl) rfl rfl rfl ?_
                        refine AO.yld _ (Yld.add rfl rfl (by omega) (by omega)) rfl rfl rfl ?_
                        refine AO.yld _ (Yld.assign rfl) rfl rfl rfl ?_
                        refine AO.nil ?_
                        refine AC.back ⟨r + 1, ?_, ?_, ⟨?_, ?_, trivial⟩, trivial, ⟨rfl, rfl, rfl, rfl, rfl, rfl, rfl, rfl, trivial⟩, ⟨rfl, rfl, rfl, rfl, rfl, trivial⟩⟩
                        · exact hr
                        · omega
                        · rfl
                        · rw [hnx]; rfl
                  · -- s72 False
                    have hf : ¬ g.persons ≤ z := by simpa using s72
                    have hnx := seatTo_skip (F := (greedyTo gs rs k).1) (p := g.persons) hz hf
                    refine AO.skipT rfl rfl rfl rfl rfl ?_
                    refine AO.skipT rfl rfl rfl rfl rfl ?_
                    refine AO.skipT rfl rfl rfl rfl rfl ?_
                    refine AO.skipU rfl rfl rfl rfl rfl ?_
                    refine AO.skipU rfl rfl rfl rfl rfl ?_
                    refine AO.skipU rfl rfl rfl rfl rfl ?_
                    refine AO.skipU rfl rfl rfl rfl rfl ?_
                    refine AO.skipU rfl rfl rfl rfl rfl ?_
                    refine AO.skipU rfl rfl rfl rfl rfl ?_
                    refine AO.skipU rfl rfl rfl rfl rfl ?_
                    refine AO.skipU rfl rfl rfl rfl rfl ?_
                    refine AO.skipU rfl rfl rfl rfl rfl ?_
                    refine AO.skipT rfl rfl rfl rfl rfl ?_
                    refine AO.yld _ (Yld.pickF rfl rfl) rfl rfl rfl ?_
                    refine AO.nil ?_
                    refine AC.condF rfl ?_
                    refine AC.skip ?_
                    refine AC.mark ?_
                    refine AC.region ?_
                    refine AO.yld _ (Yld.move rfl) rfl rfl rfl ?_
                    refine AO.yld _ (Yld.add rfl rfl (by omega) (by omega)) rfl rfl rfl ?_
                    refine AO.yld _ (Yld.assign rfl) rfl rfl rfl ?_
                    refine AO.nil ?_
                    refine AC.back ⟨r + 1, ?_, ?_, ⟨?_, ?_, trivial⟩, trivial, ⟨rfl, rfl, rfl, rfl, rfl, rfl, rfl, rfl, trivial⟩, ⟨rfl, rfl, rfl, rfl, rfl, trivial⟩⟩
                    · exact hr
                    · omega
                    · rfl
                    · rw [hnx]; rfl
                · -- c59 False
                  obtain rfl : r = (greedyTo gs rs k).1.length := by have h := c59; simp at h; omega
                  refine AC.exit rfl ?_
                  refine AC.seq ?_
                  refine AC.region ?_
                  refine AO.yld _ (Yld.move rfl) rfl rfl rfl ?_
                  refine AO.yld _ (Yld.move rfl) rfl rfl rfl ?_
                  refine AO.yld _ (Yld.move rfl) rfl rfl rfl ?_
                  refine AO.yld _ (Yld.indexVec Try.underlying23 Try.sizeOf2 rfl rfl rfl rfl (by rw [List.length_map]; omega)) rfl rfl rfl ?_
                  refine AO.store Try.sizeOf2 rfl rfl rfl rfl rfl (store_el rfl hrowP rfl rfl) ?_
                  refine AO.nil ?_
                  refine AC.seq ?_
                  refine AC.region ?_
                  refine AO.yld _ (Yld.move rfl) rfl rfl rfl ?_
                  refine AO.yld _ (Yld.int rfl rfl rfl) rfl rfl rfl ?_
                  refine AO.nil ?_
                  refine AC.cond _ rfl (fun c93 => ?_) (fun c93 => ?_)
                  · -- c93 True
                    have hb0 : ¬ seatTo (greedyTo gs rs k).1 g.persons (greedyTo gs rs k).1.length < 0 := by have h := c93; simp at h; omega
                    obtain ⟨bn, zb, hbn, hbl, hzb, hpz⟩ := seatTo_nat (greedyTo gs rs k).1 g.persons (greedyTo gs rs k).1.length hb0 (Nat.le_refl _)
                    have hrowB := map_row (enc := encI) hzb
                    have hzr : 0 ≤ zb ∧ zb ≤ 40 := by have h := all_at hFok hzb; simpa [okRow] using h
                    obtain ⟨hn1, hn2⟩ := greedy_next_pos hy hg hbn hzb
                    apply AC.drawAny ⟨[(0, _), (4, _), (5, _), (8, _), (9, _), (10, _), (11, _), (12, _), (13, _), (14, _), (56, _), (57, _), (58, _), (59, _), (88, _), (89, _), (90, _), (91, _), (92, _), (93, _), (94, _), (95, _), (96, _), (97, _), (98, _), (99, _), (100, _), (101, _), (102, _), (103, _), (104, _)], [(0, _), (1, _), (2, _), (3, _), (900, _)]⟩ (by kernel_rfl)
                    · -- orders
                      refine AN.take 0 rfl (by kernel_rfl) (by kernel_rfl) (by kernel_rfl) rfl rfl rfl (YldA.move rfl) ?_
                      refine AN.take 1 rfl (by kernel_rfl) (by kernel_rfl) (by kernel_rfl) rfl rfl rfl (YldA.move rfl) ?_
                      refine AN.take 2 rfl (by kernel_rfl) (by kernel_rfl) (by kernel_rfl) rfl rfl rfl (YldA.indexVec Try.underlying23 Try.sizeOf2 rfl rfl rfl (show _ = ((bn : Nat) : Int) by omega) (by rw [List.length_map]; omega)) ?_
                      refine AN.take 4 rfl (by kernel_rfl) (by kernel_rfl) (by kernel_rfl) rfl rfl rfl (YldA.move rfl) ?_
                      refine AN.take 5 rfl (by kernel_rfl) (by kernel_rfl) (by kernel_rfl) rfl rfl rfl (YldA.move rfl) ?_
                      refine AN.take 6 rfl (by kernel_rfl) (by kernel_rfl) (by kernel_rfl) rfl rfl rfl (YldA.indexSl Try.underlying27 Try.sizeOf52 rfl rfl hrowG rfl) ?_
                      refine AN.take 7 rfl (by kernel_rfl) (by kernel_rfl) (by kernel_rfl) rfl rfl rfl (YldA.fieldAddr Try.underlying52 rfl rfl Try.sizeOf2 rfl rfl rfl) ?_
                      refine AN.all (rs := [3, 8]) (by kernel_rfl) rfl ⟨?_, ?_, trivial⟩
                      · refine Stp.eff rfl rfl (Eff.yld (Yld.load Try.isAgg2 rfl (Eq.trans (behind_el rfl hrowB) rfl)) rfl rfl) ?_
                        refine AN.all (rs := [8]) (by kernel_rfl) rfl ⟨?_, trivial⟩
                        refine Stp.eff rfl rfl (Eff.yld (Yld.load Try.isAgg2 rfl rfl) rfl rfl) ?_
                        refine AN.take 9 rfl (by kernel_rfl) (by kernel_rfl) (by kernel_rfl) rfl rfl rfl (YldA.sub rfl rfl (by omega) (by omega)) ?_
                        refine AN.take 10 rfl (by kernel_rfl) (by kernel_rfl) (by kernel_rfl) rfl rfl rfl (YldA.indexVec Try.underlying23 Try.sizeOf2 rfl rfl rfl (show _ = ((bn : Nat) : Int) by omega) (by rw [List.length_map]; omega)) ?_
                        refine AN.all (rs := [11]) (by kernel_rfl) rfl ⟨?_, trivial⟩
                        refine Stp.eff rfl rfl (Eff.store Try.sizeOf2 rfl rfl rfl rfl rfl (store_el rfl hrowB rfl rfl)) ?_
                        exact AN.done (by kernel_rfl) (Le.intro ⟨rfl, rfl, rfl, rfl, rfl, rfl, rfl, rfl, rfl, rfl, rfl, rfl, rfl, rfl, rfl, rfl, rfl, rfl, rfl, rfl, rfl, rfl, rfl, rfl, rfl, rfl, rfl, rfl, rfl, rfl, rfl, trivial⟩ ⟨rfl, rfl, rfl, rfl, rfl, trivial⟩)
                      · refine Stp.eff rfl rfl (Eff.yld (Yld.load Try.isAgg2 rfl rfl) rfl rfl) ?_
                        refine AN.all (rs := [3]) (by kernel_rfl) rfl ⟨?_, trivial⟩
                        refine Stp.eff rfl rfl (Eff.yld (Yld.load Try.isAgg2 rfl (Eq.trans (behind_el rfl hrowB) rfl)) rfl rfl) ?_
                        refine AN.take 9 rfl (by kernel_rfl) (by kernel_rfl) (by kernel_rfl) rfl rfl rfl (YldA.sub rfl rfl (by omega) (by omega)) ?_
                        refine AN.take 10 rfl (by kernel_rfl) (by kernel_rfl) (by kernel_rfl) rfl rfl rfl (YldA.indexVec Try.underlying23 Try.sizeOf2 rfl rfl rfl (show _ = ((bn : Nat) : Int) by omega) (by rw [List.length_map]; omega)) ?_
                        refine AN.all (rs := [11]) (by kernel_rfl) rfl ⟨?_, trivial⟩
                        refine Stp.eff rfl rfl (Eff.store Try.sizeOf2 rfl rfl rfl rfl rfl (store_el rfl hrowB rfl rfl)) ?_
                        exact AN.done (by kernel_rfl) (Le.intro ⟨rfl, rfl, rfl, rfl, rfl, rfl, rfl, rfl, rfl, rfl, rfl, rfl, rfl, rfl, rfl, rfl, rfl, rfl, rfl, rfl, rfl, rfl, rfl, rfl, rfl, rfl, rfl, rfl, rfl, rfl, rfl, trivial⟩ ⟨rfl, rfl, rfl, rfl, rfl, trivial⟩)
                    · -- behind
                      refine AC.mark ?_
                      refine AC.region ?_
                      refine AO.yld _ (Yld.move rfl) rfl rfl rfl ?_
                      refine AO.yld _ (Yld.add rfl rfl (by omega) (by omega)) rfl rfl rfl ?_
                      refine AO.yld _ (Yld.assign rfl) rfl rfl rfl ?_
                      refine AO.nil ?_
                      refine AC.back ⟨k + 1, ?_, ?_, ⟨?_, trivial⟩, ⟨?_, ?_, trivial⟩, ⟨rfl, rfl, rfl, rfl, rfl, rfl, trivial⟩, ⟨rfl, rfl, rfl, trivial⟩⟩
                      · exact hk
                      · omega
                      · rfl
                      · first | (rw [hn1]; rfl) | (rw [hn1, List.map_set]; rfl)
                      · first | (rw [hn2, List.map_set]; rfl) | (rw [hn2, ← hbn, List.map_set]; rfl)
                  · -- c93 False
                    have hb0 : seatTo (greedyTo gs rs k).1 g.persons (greedyTo gs rs k).1.length < 0 := by have h := c93; simp at h; omega
                    obtain ⟨hn1, hn2⟩ := greedy_next_neg hy hg hb0
                    refine AC.skip ?_
                    refine AC.mark ?_
                    refine AC.region ?_
                    refine AO.yld _ (Yld.move rfl) rfl rfl rfl ?_
                    refine AO.yld _ (Yld.add rfl rfl (by omega) (by omega)) rfl rfl rfl ?_
                    refine AO.yld _ (Yld.assign rfl) rfl rfl rfl ?_
                    refine AO.nil ?_
                    refine AC.back ⟨k + 1, ?_, ?_, ⟨?_, trivial⟩, ⟨?_, ?_, trivial⟩, ⟨rfl, rfl, rfl, rfl, rfl, rfl, trivial⟩, ⟨rfl, rfl, rfl, trivial⟩⟩
                    · exact hk
                    · omega
                    · rfl
                    · first | (rw [hn1]; rfl) | (rw [hn1, List.map_set]; rfl)
                    · first | (rw [hn2, List.map_set]; rfl) | (rw [hn2, ← hbn, List.map_set]; rfl)
            · -- c49 False
              obtain rfl : k = gs.length := by have h := c49; simp [ordTo_length] at h; omega
              refine AC.exit rfl ?_
              refine AC.seq ?_
              refine AC.region ?_
              refine AO.yld _ (Yld.move rfl) rfl rfl rfl ?_
              refine AO.yld _ (Yld.assign rfl) rfl rfl rfl ?_
              refine AO.yld _ (Yld.assign rfl) rfl rfl rfl ?_
              refine AO.nil ?_
              refine FnE.ret () [3] [0] Try.results20 (RVs.cons (RV.tmp rfl) (RVs.cons (RV.tmp rfl) RVs.nil)) rfl rfl rfl ?_ ?_ ⟨⟨_, rfl, ?_⟩, trivial⟩
              · -- holds
                trivial
              · -- value
                refine tupE ?_; first | (rw [greedy_bad hbad]) | (rw [greedy_run hv]; done) | (rw [greedy_run hv]; rfl) | fail
              · -- thing 0
                refine vecE ?_; first | (rw [greedy_bad hbad]; rfl) | (rw [greedy_run hv]; done) | (rw [greedy_run hv]; rfl) | fail

end Go.Proofs.Ytnejigdldeipdaa
