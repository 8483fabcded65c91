/- Contracts of functions of the program, each by a walk of its text in the calculus V. -/
import Derived.Test.YtiilobkfonjlhaaR4B
import Derived.Test.YtiilobkfonjlhaaD17
import Derived.Test.YtiilobkfonjlhaaD13
set_option linter.all false
set_option linter.unusedSimpArgs false
set_option linter.unnecessarySimpa false
set_option linter.unusedVariables false
namespace Go.Proofs.Ytiilobkfonjlhaa
open Go Go.V
theorem bld92 : BuildIs Try.prog 92 [(0, 1), (1, 1), (2, 1), (3, 1)] (.agg #[.int .i64 0, .int .i64 0, .string ⟨#[]⟩, .slice none 0 0]) := by
  intro ps cells w h
  have h2 : Instr.fill (fun i => ([(0, 1), (1, 1), (2, 1), (3, 1)] : List (Nat × Nat))[i]?) #[.int .i64 0, .int .i64 0, .string ⟨#[]⟩, .slice none 0 0] ps.toList = some cells := h
  simp [Instr.build, go_sem, Try.zeroValue92, run_underlying Try.underlying92, Try.sizeOf2, Try.sizeOf9, Try.sizeOf68, h2]

theorem cloneSetting_c {xs : List NV} (hn : xs.length ≤ 1048576) :
    FnE (α := Unit) Try.prog 143 [.p (.sl 2 (xs.map encNV))] [] [] (fun _ => True) (fun _ => .h 0) (fun _ => [(0, .vec 137 2 (xs.map encNV))]) := by
  refine FnE.intro Try.func143 rfl Try.ntmps143 rfl rfl (fun w0 F0 η φ w => ?_)
  refine AC.seq ?_
  refine AC.region ?_
  refine AO.yld _ (Yld.assign rfl) rfl rfl rfl ?_
  refine AO.nil ?_
  refine AC.seq ?_
  refine AC.seq ?_
  refine AC.region ?_
  refine AO.yld _ (Yld.move rfl) rfl rfl rfl ?_
  refine AO.eqNil Try.underlying68 rfl rfl rfl (fun z4 hz4 => ?_)
  refine AO.nil ?_
  refine AC.cond _ rfl (fun c4 => ?_) (fun c4 => ?_)
  · -- c4 True
    refine AC.seq ?_
    refine AC.region ?_
    refine AO.yld _ (Yld.assign rfl) rfl rfl rfl ?_
    refine AO.nil ?_
    refine AC.nilVec 2 0 137 2 rfl rfl ?_
    refine FnE.ret () [0] [0] Try.results143 (RVs.cons (RV.tmp rfl) RVs.nil) rfl rfl rfl ?_ ?_ ⟨⟨_, rfl, ?_⟩, trivial⟩
    · -- holds
      trivial
    · -- value
      rfl
    · -- thing 0
      first | rfl | (refine vecE ?_; first | rfl | (obtain rfl : xs = [] := List.eq_nil_of_length_eq_zero (by simpa using hz4 c4); rfl))
  · -- c4 False
    refine AC.skip ?_
    refine AC.seq ?_
    refine AC.region ?_
    refine AO.buildSlice (rows := []) 0 Try.underlying68 ty137 rfl rfl rfl rfl rfl rfl rfl rfl rfl ?_
    refine AO.yld _ (Yld.move rfl) rfl rfl rfl ?_
    refine AO.append 0 Try.underlying68 ty137 rfl rfl rfl rfl rfl rfl rfl (fun r hr q hq => by obtain ⟨y, _, rfl⟩ := List.mem_map.1 hr; simp only [encNV, List.mem_cons, List.not_mem_nil, or_false] at hq; rcases hq with rfl | rfl <;> rfl) (by simp only [List.length_map, List.length_cons, List.length_nil]; omega) (by simp only [List.length_map, List.length_cons, List.length_nil]; omega) rfl ?_
    refine AO.yld _ (Yld.assign rfl) rfl rfl rfl ?_
    refine AO.nil ?_
    refine FnE.ret () [0] [0] Try.results143 (RVs.cons (RV.tmp rfl) RVs.nil) rfl rfl rfl ?_ ?_ ⟨⟨_, rfl, ?_⟩, trivial⟩
    · -- holds
      trivial
    · -- value
      rfl
    · -- thing 0
      first | rfl | (refine vecE ?_; first | rfl | (obtain rfl : xs = [] := List.eq_nil_of_length_eq_zero (by simpa using hz4 c4); rfl))

theorem spec_l27Own_c {xs : List Ver} (hg : VersGood xs) :
    FnE (α := List Value) Try.prog 141 [.p (.sl 4 (xs.map encVer))] [] [] (fun vs => vs.length = xs.length) (fun vs => .h 0) (fun vs => [(0, .vec 92 4 (rowsV (xs.map verC) vs)), (1, .cust (poolC 137 2 (poolL vs (xs.map verI))))]) := by
  have hn := hg.1
  have hM : (xs.map encVer).length = xs.length := List.length_map ..
  refine FnE.intro Try.func141 rfl Try.ntmps141 rfl rfl (fun w0 F0 η φ w => ?_)
  refine AC.seq ?_
  refine AC.region ?_
  refine AO.yld _ (Yld.assign rfl) rfl rfl rfl ?_
  refine AO.nil ?_
  refine AC.seq ?_
  refine AC.region ?_
  refine AO.buildSlice (rows := []) 0 Try.underlying26 ty92 rfl rfl rfl rfl rfl rfl rfl rfl rfl ?_
  refine AO.yld _ (Yld.assign rfl) rfl rfl rfl ?_
  refine AO.nil ?_
  refine AC.seq ?_
  refine AC.seq ?_
  refine AC.region ?_
  refine AO.yld _ (Yld.assign rfl) rfl rfl rfl ?_
  refine AO.nil ?_
  refine AC.block ?_
  refine AC.poolNew 1 137 2 rfl ?_
  refine AC.loopC2 [(0, _), (2, _)] [(900, _)] (fun (k : Nat) (vs : List Value) => [(4, .p (.v (.int .i64 (k : Int)))), (3, .h 0)]) (fun (k : Nat) (vs : List Value) => [(1, .cust (poolC 137 2 (poolL vs ((xs.take k).map verI)))), (0, .vec 92 4 (rowsV ((xs.take k).map verC) vs))]) (fun (k : Nat) (vs : List Value) => k ≤ xs.length ∧ vs.length = k) (fun (k : Nat) (vs : List Value) => xs.length - k) 0 [] ⟨rfl, rfl, trivial⟩ ⟨rfl, trivial⟩ ⟨rfl, rfl, trivial⟩ ⟨rfl, rfl, trivial⟩ ?_ (fun k vs hJ => ?_)
  · exact ⟨Nat.zero_le _, rfl⟩
  · -- round
    refine AC.seq ?_
    refine AC.seq ?_
    refine AC.region ?_
    refine AO.yld _ (Yld.move rfl) rfl rfl rfl ?_
    refine AO.yld _ (Yld.move rfl) rfl rfl rfl ?_
    refine AO.yld _ (Yld.len Try.underlying26 rfl rfl) rfl rfl rfl ?_
    refine AO.yld _ (Yld.int rfl rfl rfl) rfl rfl rfl ?_
    refine AO.nil ?_
    refine AC.cond _ rfl (fun c10 => ?_) (fun c10 => ?_)
    · -- c10 True
      have hk := lt_of_decM c10
      obtain ⟨x, hx⟩ := get_some hk
      have hrow := map_row (enc := encVer) hx
      obtain ⟨g1, g2, g3⟩ := hg.2 x (List.mem_of_getElem? hx)
      have hrl := rowsT_len (xs := xs) hJ.2 hJ.1
      refine AC.skip ?_
      refine AC.seq ?_
      refine AC.block ?_
      refine AC.seq ?_
      refine AC.region ?_
      refine AO.yld _ (Yld.move rfl) rfl rfl rfl ?_
      refine AO.yld _ (Yld.move rfl) rfl rfl rfl ?_
      refine AO.yld _ (Yld.indexSl Try.underlying26 Try.sizeOf92 rfl rfl hrow rfl) rfl rfl rfl ?_
      refine AO.yld _ (Yld.loadAgg Try.isAgg92 Try.sizeOf92 rfl rfl rfl rfl) rfl rfl rfl ?_
      refine AO.alloc 2 Try.zeroValue92 rfl rfl rfl ?_
      refine AO.store Try.sizeOf92 rfl rfl rfl rfl rfl rfl ?_
      refine AO.nil ?_
      refine AC.seq ?_
      refine AC.region ?_
      refine AO.buildSlice (rows := []) 3 Try.underlying68 ty137 rfl rfl rfl rfl rfl rfl rfl rfl rfl ?_
      refine AO.yld _ (Yld.fieldAddr Try.underlying92 rfl rfl Try.sizeOf68 rfl rfl rfl) rfl rfl rfl ?_
      refine AO.yld _ (Yld.load Try.isAgg68 rfl rfl) rfl rfl rfl ?_
      refine AO.append 3 Try.underlying68 ty137 rfl rfl rfl rfl rfl rfl rfl (fun r hr q hq => by obtain ⟨y, _, rfl⟩ := List.mem_map.1 hr; simp only [encNV, List.mem_cons, List.not_mem_nil, or_false] at hq; rcases hq with rfl | rfl <;> rfl) (by simp only [List.length_map, List.length_cons, List.length_nil]; omega) (by simp only [List.length_map, List.length_cons, List.length_nil]; omega) rfl ?_
      refine AO.poolAdd 3 1 rfl rfl rfl (fun va vn vc => ?_)
      refine AO.yld _ (Yld.fieldAddr Try.underlying92 rfl rfl Try.sizeOf68 rfl rfl rfl) rfl rfl rfl ?_
      refine AO.store Try.sizeOf68 rfl rfl rfl rfl rfl rfl ?_
      refine AO.nil ?_
      refine AC.region ?_
      refine AO.yld _ (Yld.move rfl) rfl rfl rfl ?_
      refine AO.yld _ (Yld.loadAgg Try.isAgg92 Try.sizeOf92 rfl rfl rfl rfl) rfl rfl rfl ?_
      refine AO.buildSlice (rows := [[_, _, _, _]]) 4 Try.underlying26 ty92 rfl rfl rfl rfl rfl rfl rfl rfl rfl ?_
      refine AO.append 0 Try.underlying26 ty92 rfl rfl rfl rfl rfl rfl rfl (by simp [pvOne, str]) (by simp only [hrl, List.length_cons, List.length_nil]; omega) (by simp only [hrl, List.length_cons, List.length_nil]; omega) rfl ?_
      refine AO.yld _ (Yld.assign rfl) rfl rfl rfl ?_
      refine AO.nil ?_
      refine AC.mark ?_
      refine AC.region ?_
      refine AO.yld _ (Yld.move rfl) rfl rfl rfl ?_
      refine AO.yld _ (Yld.add rfl rfl (by omega) (by omega)) rfl rfl rfl ?_
      refine AO.yld _ (Yld.assign rfl) rfl rfl rfl ?_
      refine AO.nil ?_
      refine AC.back ⟨k + 1, vs ++ [.slice va vn vc], ?_, ?_, ⟨?_, ?_, trivial⟩, ⟨?_, ?_, trivial⟩, ⟨rfl, rfl, trivial⟩, ⟨rfl, trivial⟩⟩
      · exact ⟨hk, by simp [hJ.2]⟩
      · omega
      · rfl
      · rfl
      · rw [← pool_snoc hJ.2 hx]; rfl
      · rw [← rows_snoc hJ.2 hx]; rfl
    · -- c10 False
      obtain rfl : k = xs.length := by have := ge_of_decM c10; omega
      refine AC.exit rfl ?_
      refine AC.seq ?_
      refine AC.region ?_
      refine AO.yld _ (Yld.move rfl) rfl rfl rfl ?_
      refine AO.yld _ (Yld.assign rfl) rfl rfl rfl ?_
      refine AO.nil ?_
      refine FnE.ret vs [0, 1] [0, 1] Try.results141 (RVs.cons (RV.tmp rfl) RVs.nil) rfl rfl rfl ?_ ?_ ⟨⟨_, rfl, ?_⟩, ⟨_, rfl, ?_⟩, trivial⟩
      · -- holds
        exact hJ.2
      · -- value
        rfl
      · -- thing 0
        have h9 : rowsV ((xs.take xs.length).map verC) vs = rowsV (xs.map verC) vs := by rw [List.take_length]
        rw [h9]; rfl
      · -- thing 1
        have h9 : poolL vs ((xs.take xs.length).map verI) = poolL vs (xs.map verI) := by rw [List.take_length]
        rw [h9]; rfl

theorem spec_l27Add_c {xs : List Ver} {p : Int} {memo : List UInt8} {st : List NV} (hg : VersGood xs) (hst : st.length ≤ 1048576) :
    FnE (α := Unit) Try.prog 110 [.p (.sl 4 (xs.map encVer)), .p (.v (.int .i64 p)), .p (.v (str memo)), .p (.sl 2 (st.map encNV))] [] [] (fun _ => True) (fun _ => .tup [.h 0, .p (.v (.int .i64 (addV xs p memo st).2))]) (fun _ => [(0, .cust (nestC 92 4 137 2 (((addV xs p memo st).1).map verC) (((addV xs p memo st).1).map verI) (((addV xs p memo st).1).map encVer) ver_nest))]) := by
  have hn := hg.1
  have hM : (xs.map encVer).length = xs.length := List.length_map ..
  refine FnE.intro Try.func110 rfl Try.ntmps110 rfl rfl (fun w0 F0 η φ w => ?_)
  refine AC.seq ?_
  refine AC.region ?_
  refine AO.yld _ (Yld.assign rfl) rfl rfl rfl ?_
  refine AO.yld _ (Yld.assign rfl) rfl rfl rfl ?_
  refine AO.nil ?_
  refine AC.seq ?_
  refine AC.seq ?_
  refine AC.region ?_
  refine AO.yld _ (Yld.move rfl) rfl rfl rfl ?_
  refine AO.yld _ (Yld.len Try.underlying26 rfl rfl) rfl rfl rfl ?_
  refine AO.yld _ (Yld.int rfl rfl rfl) rfl rfl rfl ?_
  refine AO.nil ?_
  refine AC.cond _ rfl (fun c13 => ?_) (fun c13 => ?_)
  · -- c13 True
    have h32 : xs.length = 32 := by have h := c13; rw [hM] at h; simp at h; omega
    refine AC.seq ?_
    refine AC.region ?_
    refine AO.yld _ (Yld.assign rfl) rfl rfl rfl ?_
    refine AO.yld _ (Yld.assign rfl) rfl rfl rfl ?_
    refine AO.nil ?_
    refine AC.nilVec 8 0 92 4 rfl rfl ?_
    refine AC.poolNew 1 137 2 rfl ?_
    refine AC.nestJoin 0 1 (cs := ([] : List Ver).map verC) (ins := ([] : List Ver).map verI) (hV := ver_nest) (vs := []) rfl rfl rfl rfl rfl rfl rfl ?_
    refine FnE.ret () [0] [0] Try.results110 (RVs.cons (RV.tmp rfl) (RVs.cons (RV.tmp rfl) RVs.nil)) rfl rfl rfl ?_ ?_ ⟨⟨_, rfl, ?_⟩, trivial⟩
    · -- holds
      trivial
    · -- value
      refine tupE ?_; simp [addV, h32]
    · -- thing 0
      exact nestE (by simp [addV, h32])
  · -- c13 False
    have h32 : ¬ xs.length = 32 := by have h := c13; rw [hM] at h; simp at h; omega
    refine AC.skip ?_
    refine AC.seq ?_
    refine AC.region ?_
    refine AO.yld _ (Yld.move rfl) rfl rfl rfl ?_
    refine AO.yld _ (Yld.len Try.underlying26 rfl rfl) rfl rfl rfl ?_
    refine AO.yld _ (Yld.add rfl rfl (by omega) (by omega)) rfl rfl rfl ?_
    refine AO.yld _ (Yld.move rfl) rfl rfl rfl ?_
    refine AO.yld _ (Yld.move rfl) rfl rfl rfl ?_
    refine AO.buildSlice (rows := []) 0 Try.underlying68 ty137 rfl rfl rfl rfl rfl rfl rfl rfl rfl ?_
    refine AO.yld _ (Yld.move rfl) rfl rfl rfl ?_
    refine AO.append 0 Try.underlying68 ty137 rfl rfl rfl rfl rfl rfl rfl (fun r hr q hq => by obtain ⟨y, _, rfl⟩ := List.mem_map.1 hr; simp only [encNV, List.mem_cons, List.not_mem_nil, or_false] at hq; rcases hq with rfl | rfl <;> rfl) (by simp only [List.length_map, List.length_cons, List.length_nil]; omega) (by simp only [List.length_map, List.length_cons, List.length_nil]; omega) rfl ?_
    refine AO.poolNew 1 137 2 rfl ?_
    refine AO.poolAdd 0 1 rfl rfl rfl (fun va vn vc => ?_)
    refine AO.yld _ (Yld.buildA (zs := [.v (.int .i64 0), .v (.int .i64 0), .v (str []), .sl 0 []]) bld92 rfl rfl) rfl rfl rfl ?_
    refine AO.alloc 2 Try.zeroValue92 rfl rfl rfl ?_
    refine AO.store Try.sizeOf92 rfl rfl rfl rfl rfl rfl ?_
    refine AO.nil ?_
    refine AC.seq ?_
    apply AC.drawAnyC (α := { vs : List Value // vs.length = xs.length }) [(0, _), (1, _), (2, _), (3, _), (10, _), (11, _), (12, _), (13, _), (14, _), (15, _), (16, _), (17, _), (18, _), (19, _), (20, _), (21, _), (22, _)] [(1, _), (2, _), (900, _)] (fun y => [(8, .h 3), (9, .p (.v (.int .i64 0)))]) (fun y => [(3, .vec 92 4 (rowsV (xs.map verC) y.1 ++ [verC (newVer xs p memo st) ++ [.v (.slice va vn vc)]])), (4, .cust (poolC 137 2 (poolL y.1 (xs.map verI))))]) (by kernel_rfl)
    · -- orders
      refine ANx.take 0 rfl (by kernel_rfl) (by kernel_rfl) (by kernel_rfl) rfl rfl rfl (YldA.move rfl) ?_
      refine ANx.all (rs := [1, 2]) (by kernel_rfl) rfl ⟨?_, ?_, trivial⟩
      · -- 1
        refine Stpx.effX rfl rfl (EffX.callW [3, 4] [] [0, 1] rfl rfl Try.call141 rfl (spec_l27Own_c (by assumption)) (.own rfl) rfl (fun _ => rfl) trivial rfl (fun _ => rfl) (fun _ => rfl)) ?_
        rintro _ ⟨x24, hx24, rfl⟩
        refine ANx.all (rs := [2]) (by kernel_rfl) rfl ⟨?_, trivial⟩
        refine Stpx.eff rfl rfl (Eff.yld (Yld.loadAgg Try.isAgg92 Try.sizeOf92 rfl rfl rfl rfl) rfl rfl) ?_
        refine ANx.all (rs := [3]) (by kernel_rfl) rfl ⟨?_, trivial⟩
        refine Stpx.eff rfl rfl (Eff.buildSlice (rows := [[_, _, _, _]]) 5 Try.underlying26 ty92 rfl rfl rfl rfl rfl rfl rfl rfl rfl) ?_
        refine ANx.all (rs := [4]) (by kernel_rfl) rfl ⟨?_, trivial⟩
        refine Stpx.eff rfl rfl (Eff.append 3 Try.underlying26 ty92 rfl rfl rfl rfl rfl rfl rfl (by simp [pvOne, str]) (by simp only [rowsV_len (xs := xs) (by assumption), List.length_cons, List.length_nil]; omega) (by simp only [rowsV_len (xs := xs) (by assumption), List.length_cons, List.length_nil]; omega) rfl) ?_
        refine ANx.take 5 rfl (by kernel_rfl) (by kernel_rfl) (by kernel_rfl) rfl rfl rfl (YldA.assign rfl) ?_
        refine ANx.take 6 rfl (by kernel_rfl) (by kernel_rfl) (by kernel_rfl) rfl rfl rfl (YldA.assign rfl) ?_
        exact ANx.doneC ⟨x24, hx24⟩ (by kernel_rfl) ⟨rfl, rfl, trivial⟩ ⟨rfl, rfl, trivial⟩ ⟨rfl, rfl, rfl, rfl, rfl, rfl, rfl, rfl, rfl, rfl, rfl, rfl, rfl, rfl, rfl, rfl, rfl, trivial⟩ ⟨rfl, rfl, rfl, trivial⟩
      · -- 2
        refine Stpx.eff rfl rfl (Eff.yld (Yld.loadAgg Try.isAgg92 Try.sizeOf92 rfl rfl rfl rfl) rfl rfl) ?_
        refine ANx.all (rs := [1, 3]) (by kernel_rfl) rfl ⟨?_, ?_, trivial⟩
        · -- 1
          refine Stpx.effX rfl rfl (EffX.callW [3, 4] [] [0, 1] rfl rfl Try.call141 rfl (spec_l27Own_c (by assumption)) (.own rfl) rfl (fun _ => rfl) trivial rfl (fun _ => rfl) (fun _ => rfl)) ?_
          rintro _ ⟨x24, hx24, rfl⟩
          refine ANx.all (rs := [3]) (by kernel_rfl) rfl ⟨?_, trivial⟩
          refine Stpx.eff rfl rfl (Eff.buildSlice (rows := [[_, _, _, _]]) 5 Try.underlying26 ty92 rfl rfl rfl rfl rfl rfl rfl rfl rfl) ?_
          refine ANx.all (rs := [4]) (by kernel_rfl) rfl ⟨?_, trivial⟩
          refine Stpx.eff rfl rfl (Eff.append 3 Try.underlying26 ty92 rfl rfl rfl rfl rfl rfl rfl (by simp [pvOne, str]) (by simp only [rowsV_len (xs := xs) (by assumption), List.length_cons, List.length_nil]; omega) (by simp only [rowsV_len (xs := xs) (by assumption), List.length_cons, List.length_nil]; omega) rfl) ?_
          refine ANx.take 5 rfl (by kernel_rfl) (by kernel_rfl) (by kernel_rfl) rfl rfl rfl (YldA.assign rfl) ?_
          refine ANx.take 6 rfl (by kernel_rfl) (by kernel_rfl) (by kernel_rfl) rfl rfl rfl (YldA.assign rfl) ?_
          exact ANx.doneC ⟨x24, hx24⟩ (by kernel_rfl) ⟨rfl, rfl, trivial⟩ ⟨rfl, rfl, trivial⟩ ⟨rfl, rfl, rfl, rfl, rfl, rfl, rfl, rfl, rfl, rfl, rfl, rfl, rfl, rfl, rfl, rfl, rfl, trivial⟩ ⟨rfl, rfl, rfl, trivial⟩
        · -- 3
          refine Stpx.eff rfl rfl (Eff.buildSlice (rows := [[_, _, _, _]]) 5 Try.underlying26 ty92 rfl rfl rfl rfl rfl rfl rfl rfl rfl) ?_
          refine ANx.all (rs := [1]) (by kernel_rfl) rfl ⟨?_, trivial⟩
          refine Stpx.effX rfl rfl (EffX.callW [3, 4] [] [0, 1] rfl rfl Try.call141 rfl (spec_l27Own_c (by assumption)) (.own rfl) rfl (fun _ => rfl) trivial rfl (fun _ => rfl) (fun _ => rfl)) ?_
          rintro _ ⟨x24, hx24, rfl⟩
          refine ANx.all (rs := [4]) (by kernel_rfl) rfl ⟨?_, trivial⟩
          refine Stpx.eff rfl rfl (Eff.append 3 Try.underlying26 ty92 rfl rfl rfl rfl rfl rfl rfl (by simp [pvOne, str]) (by simp only [rowsV_len (xs := xs) (by assumption), List.length_cons, List.length_nil]; omega) (by simp only [rowsV_len (xs := xs) (by assumption), List.length_cons, List.length_nil]; omega) rfl) ?_
          refine ANx.take 5 rfl (by kernel_rfl) (by kernel_rfl) (by kernel_rfl) rfl rfl rfl (YldA.assign rfl) ?_
          refine ANx.take 6 rfl (by kernel_rfl) (by kernel_rfl) (by kernel_rfl) rfl rfl rfl (YldA.assign rfl) ?_
          exact ANx.doneC ⟨x24, hx24⟩ (by kernel_rfl) ⟨rfl, rfl, trivial⟩ ⟨rfl, rfl, trivial⟩ ⟨rfl, rfl, rfl, rfl, rfl, rfl, rfl, rfl, rfl, rfl, rfl, rfl, rfl, rfl, rfl, rfl, rfl, trivial⟩ ⟨rfl, rfl, rfl, trivial⟩
    · -- behind
      rintro ⟨vs, hvs⟩
      dsimp only
      refine AC.poolMerge 4 1 rfl rfl rfl ?_
      refine AC.nestJoin 3 4 (cs := (xs ++ [newVer xs p memo st]).map verC) (ins := (xs ++ [newVer xs p memo st]).map verI) (hV := ver_nest) (vs := vs ++ [.slice va vn vc]) rfl rfl rfl (by exact rows_add (y := newVer xs p memo st) (v := .slice va vn vc) hvs) (by exact pool_add (y := newVer xs p memo st) (v := .slice va vn vc) hvs) (by simp [hvs]) (by simp) ?_
      refine FnE.ret () [3] [0] Try.results110 (RVs.cons (RV.tmp rfl) (RVs.cons (RV.tmp rfl) RVs.nil)) rfl rfl rfl ?_ ?_ ⟨⟨_, rfl, ?_⟩, trivial⟩
      · -- holds
        trivial
      · -- value
        refine tupE ?_; simp [addV, h32]
      · -- thing 0
        exact nestE (by simp [addV, h32])

theorem impl_addVersion_c {xs : List Ver} {p : Int} {memo : List UInt8} {st : List NV} (hg : VersGood xs) (hst : st.length ≤ 1048576) :
    FnE (α := Unit) Try.prog 114 [.p (.sl 4 (xs.map encVer)), .p (.v (.int .i64 p)), .p (.v (str memo)), .p (.sl 2 (st.map encNV))] [] [] (fun _ => True) (fun _ => .tup [.h 0, .p (.v (.int .i64 (addV xs p memo st).2))]) (fun _ => [(0, .cust (nestC 92 4 137 2 (((addV xs p memo st).1).map verC) (((addV xs p memo st).1).map verI) (((addV xs p memo st).1).map encVer) ver_nest))]) := by
  have hn := hg.1
  have hM : (xs.map encVer).length = xs.length := List.length_map ..
  refine FnE.intro Try.func114 rfl Try.ntmps114 rfl rfl (fun w0 F0 η φ w => ?_)
  refine AC.seq ?_
  refine AC.region ?_
  refine AO.yld _ (Yld.assign rfl) rfl rfl rfl ?_
  refine AO.yld _ (Yld.assign rfl) rfl rfl rfl ?_
  refine AO.nil ?_
  refine AC.seq ?_
  refine AC.seq ?_
  refine AC.region ?_
  refine AO.yld _ (Yld.move rfl) rfl rfl rfl ?_
  refine AO.yld _ (Yld.len Try.underlying26 rfl rfl) rfl rfl rfl ?_
  refine AO.yld _ (Yld.int rfl rfl rfl) rfl rfl rfl ?_
  refine AO.nil ?_
  refine AC.cond _ rfl (fun c15 => ?_) (fun c15 => ?_)
  · -- c15 True
    have h32 : xs.length = 32 := by have h := c15; rw [hM] at h; simp at h; omega
    refine AC.seq ?_
    refine AC.region ?_
    refine AO.yld _ (Yld.assign rfl) rfl rfl rfl ?_
    refine AO.yld _ (Yld.assign rfl) rfl rfl rfl ?_
    refine AO.nil ?_
    refine AC.nilVec 8 0 92 4 rfl rfl ?_
    refine AC.poolNew 1 137 2 rfl ?_
    refine AC.nestJoin 0 1 (cs := ([] : List Ver).map verC) (ins := ([] : List Ver).map verI) (hV := ver_nest) (vs := []) rfl rfl rfl rfl rfl rfl rfl ?_
    refine FnE.ret () [0] [0] Try.results114 (RVs.cons (RV.tmp rfl) (RVs.cons (RV.tmp rfl) RVs.nil)) rfl rfl rfl ?_ ?_ ⟨⟨_, rfl, ?_⟩, trivial⟩
    · -- holds
      trivial
    · -- value
      refine tupE ?_; simp [addV, h32]
    · -- thing 0
      exact nestE (by simp [addV, h32])
  · -- c15 False
    have h32 : ¬ xs.length = 32 := by have h := c15; rw [hM] at h; simp at h; omega
    refine AC.skip ?_
    refine AC.seq ?_
    refine AC.region ?_
    refine AO.yld _ (Yld.move rfl) rfl rfl rfl ?_
    refine AO.yld _ (Yld.len Try.underlying26 rfl rfl) rfl rfl rfl ?_
    refine AO.yld _ (Yld.move rfl) rfl rfl rfl ?_
    refine AO.yld _ (Yld.len Try.underlying26 rfl rfl) rfl rfl rfl ?_
    refine AO.yld _ (Yld.add rfl rfl (by omega) (by omega)) rfl rfl rfl ?_
    refine AO.make (m := (xs.map encVer).length + 1) 0 Try.underlying26 ty92 rfl rfl rfl rfl rfl (Nat.le_succ _) (by rw [hM]; omega) (by rw [hM]; omega) rfl rfl ?_
    refine AO.yld _ (Yld.assign rfl) rfl rfl rfl ?_
    refine AO.nil ?_
    refine AC.seq ?_
    refine AC.seq ?_
    refine AC.region ?_
    refine AO.yld _ (Yld.move rfl) rfl rfl rfl ?_
    refine AO.yld _ (Yld.len Try.underlying26 rfl rfl) rfl rfl rfl ?_
    refine AO.yld _ (Yld.move rfl) rfl rfl rfl ?_
    refine AO.nil ?_
    refine AC.block ?_
    refine AC.poolNew 1 137 2 rfl ?_
    refine AC.loopC2 [(0, _), (1, _), (2, _), (3, _), (8, _), (9, _), (10, _), (22, _), (23, _)] [(900, _)] (fun (k : Nat) (vs : List Value) => [(24, .p (.v (.int .i64 (k : Int)))), (10, .h 0)]) (fun (k : Nat) (vs : List Value) => [(0, .vec 92 4 (nfill [.v (.int .i64 0), .v (.int .i64 0), .v (.string ⟨#[]⟩), .sl 0 []] xs vs)), (1, .cust (poolC 137 2 (poolL vs ((xs.take k).map verI))))]) (fun (k : Nat) (vs : List Value) => k ≤ xs.length ∧ vs.length = k) (fun (k : Nat) (vs : List Value) => xs.length - k) 0 [] ⟨rfl, rfl, rfl, rfl, rfl, rfl, rfl, rfl, rfl, trivial⟩ ⟨rfl, trivial⟩ ⟨rfl, rfl, trivial⟩ ⟨by rw [nfill_zero, ← hM]; rfl, rfl, trivial⟩ ?_ (fun k vs hJ => ?_)
    · exact ⟨Nat.zero_le _, rfl⟩
    · -- round
      refine AC.seq ?_
      refine AC.region ?_
      refine AO.yld _ (Yld.int rfl rfl rfl) rfl rfl rfl ?_
      refine AO.nil ?_
      refine AC.seq ?_
      refine AC.cond _ rfl (fun c25 => ?_) (fun c25 => ?_)
      · -- c25 True
        have hk := lt_of_decM c25
        obtain ⟨x, hx⟩ := get_some hk
        have hrow := map_row (enc := encVer) hx
        obtain ⟨g1, g2, g3⟩ := hg.2 x (List.mem_of_getElem? hx)
        refine AC.skip ?_
        refine AC.seq ?_
        refine AC.block ?_
        refine AC.seq ?_
        refine AC.region ?_
        refine AO.yld _ (Yld.move rfl) rfl rfl rfl ?_
        refine AO.yld _ (Yld.indexSl Try.underlying26 Try.sizeOf92 rfl rfl hrow rfl) rfl rfl rfl ?_
        refine AO.yld _ (Yld.loadAgg Try.isAgg92 Try.sizeOf92 rfl rfl rfl rfl) rfl rfl rfl ?_
        refine AO.alloc 2 Try.zeroValue92 rfl rfl rfl ?_
        refine AO.yld _ (Yld.assign rfl) rfl rfl rfl ?_
        refine AO.store Try.sizeOf92 rfl rfl rfl rfl rfl rfl ?_
        refine AO.nil ?_
        refine AC.seq ?_
        refine AC.region ?_
        refine AO.yld _ (Yld.fieldAddr Try.underlying92 rfl rfl Try.sizeOf68 rfl rfl rfl) rfl rfl rfl ?_
        refine AO.yld _ (Yld.load Try.isAgg68 rfl rfl) rfl rfl rfl ?_
        refine AO.callW (wantedN rfl) [3] [] [0] rfl rfl Try.call143 rfl (cloneSetting_c (by first | assumption | omega)) (.flat (.view rfl rfl .nil) (fun _ => by simp [AV.Flat, AV.FlatL, PV.Flat, PV.FlatL]) (fun _ => ⟨flat_map flatNV _, trivial⟩)) rfl (fun _ => rfl) trivial rfl (fun _ => rfl) (fun _ => rfl) (fun _ _ => ?_)
        refine AO.poolAdd 3 1 rfl rfl rfl (fun va vn vc => ?_)
        refine AO.yld _ (Yld.fieldAddr Try.underlying92 rfl rfl Try.sizeOf68 rfl rfl rfl) rfl rfl rfl ?_
        refine AO.store Try.sizeOf68 rfl rfl rfl rfl rfl rfl ?_
        refine AO.nil ?_
        refine AC.region ?_
        refine AO.yld _ (Yld.move rfl) rfl rfl rfl ?_
        refine AO.yld _ (Yld.move rfl) rfl rfl rfl ?_
        refine AO.yld _ (Yld.loadAgg Try.isAgg92 Try.sizeOf92 rfl rfl rfl rfl) rfl rfl rfl ?_
        refine AO.yld _ (Yld.indexVec Try.underlying26 Try.sizeOf92 rfl rfl rfl rfl (by rw [nfill_length (by omega)]; exact hk)) rfl rfl rfl ?_
        refine AO.store Try.sizeOf92 rfl rfl rfl rfl rfl (store_el rfl (nfill_get hJ.2 hk) rfl rfl) ?_
        refine AO.nil ?_
        refine AC.mark ?_
        refine AC.region ?_
        refine AO.yld _ (Yld.add rfl rfl (by omega) (by omega)) rfl rfl rfl ?_
        refine AO.yld _ (Yld.move rfl) rfl rfl rfl ?_
        refine AO.nil ?_
        refine AC.back ⟨k + 1, vs ++ [.slice va vn vc], ?_, ?_, ⟨?_, ?_, trivial⟩, ⟨?_, ?_, trivial⟩, ⟨rfl, rfl, rfl, rfl, rfl, rfl, rfl, rfl, rfl, trivial⟩, ⟨rfl, trivial⟩⟩
        · exact ⟨hk, by simp [hJ.2]⟩
        · omega
        · rfl
        · rfl
        · rw [← nfill_set hJ.2 hx]; rfl
        · rw [← pool_snoc hJ.2 hx]; rfl
      · -- c25 False
        obtain rfl : k = xs.length := by have := ge_of_decM c25; omega
        refine AC.exit rfl ?_
        refine AC.seq ?_
        refine AC.region ?_
        refine AO.yld _ (Yld.move rfl) rfl rfl rfl ?_
        refine AO.yld _ (Yld.move rfl) rfl rfl rfl ?_
        refine AO.yld _ (Yld.len Try.underlying26 rfl rfl) rfl rfl rfl ?_
        refine AO.yld _ (Yld.add rfl rfl (by omega) (by omega)) rfl rfl rfl ?_
        refine AO.yld _ (Yld.move rfl) rfl rfl rfl ?_
        refine AO.yld _ (Yld.move rfl) rfl rfl rfl ?_
        refine AO.yld _ (Yld.move rfl) rfl rfl rfl ?_
        refine AO.callW (wantedN rfl) [2] [] [0] rfl rfl Try.call143 rfl (cloneSetting_c (by first | assumption | omega)) (.flat (.view rfl rfl .nil) (fun _ => by simp [AV.Flat, AV.FlatL, PV.Flat, PV.FlatL]) (fun _ => ⟨flat_map flatNV _, trivial⟩)) rfl (fun _ => rfl) trivial rfl (fun _ => rfl) (fun _ => rfl) (fun _ _ => ?_)
        refine AO.poolAdd 2 1 rfl rfl rfl (fun wa wn wc => ?_)
        refine AO.yld _ (Yld.buildA (zs := [.v (.int .i64 0), .v (.int .i64 0), .v (str []), .sl 0 []]) bld92 rfl rfl) rfl rfl rfl ?_
        refine AO.buildSlice (rows := [[_, _, _, _]]) 3 Try.underlying26 ty92 rfl rfl rfl rfl rfl rfl rfl rfl rfl ?_
        refine AO.append 0 Try.underlying26 ty92 rfl rfl rfl rfl rfl rfl rfl (by simp [pvOne, str]) (by simp only [nfill_length (vs := vs) (xs := xs) (by omega), List.length_cons, List.length_nil]; omega) (by simp only [nfill_length (vs := vs) (xs := xs) (by omega), List.length_cons, List.length_nil]; omega) rfl ?_
        refine AO.yld _ (Yld.assign rfl) rfl rfl rfl ?_
        refine AO.yld _ (Yld.assign rfl) rfl rfl rfl ?_
        refine AO.nil ?_
        refine AC.nestJoin 0 1 (cs := (xs ++ [newVer xs p memo st]).map verC) (ins := (xs ++ [newVer xs p memo st]).map verI) (hV := ver_nest) (vs := vs ++ [.slice wa wn wc]) rfl rfl rfl (by rw [nfill_end hJ.2]; exact rows_add (y := newVer xs p memo st) (v := .slice wa wn wc) hJ.2) (by rw [List.take_length]; exact pool_add (y := newVer xs p memo st) (v := .slice wa wn wc) hJ.2) (by simp [hJ.2]) (by simp) ?_
        refine FnE.ret () [0] [0] Try.results114 (RVs.cons (RV.tmp rfl) (RVs.cons (RV.tmp rfl) RVs.nil)) rfl rfl rfl ?_ ?_ ⟨⟨_, rfl, ?_⟩, trivial⟩
        · -- holds
          trivial
        · -- value
          refine tupE ?_; simp [addV, h32]
        · -- thing 0
          exact nestE (by simp [addV, h32])

theorem spec_CommitState_c {xs : List Ver} {p : Int} {memo : List UInt8} {st : List NV} (hg : VersGood xs) (hst : st.length ≤ 1048576) (hmm : memo.length ≤ 1048576) (hsn : ∀ s ∈ st, s.name.length ≤ 1048576) :
    FnE (α := Unit) Try.prog 48 [.p (.sl 4 (xs.map encVer)), .p (.v (.int .i64 p)), .p (.v (str memo)), .p (.sl 2 (st.map encNV))] [] [] (fun _ => True) (fun _ => .tup [.h 0, .p (.v (.int .i64 (commitState xs p memo st).2))]) (fun _ => [(0, .cust (nestC 92 4 137 2 (((commitState xs p memo st).1).map verC) (((commitState xs p memo st).1).map verI) (((commitState xs p memo st).1).map encVer) ver_nest))]) := by
  have hn := hg.1
  have hM : (xs.map encVer).length = xs.length := List.length_map ..
  refine FnE.intro Try.func48 rfl Try.ntmps48 rfl rfl (fun w0 F0 η φ w => ?_)
  refine AC.seq ?_
  refine AC.region ?_
  refine AO.yld _ (Yld.assign rfl) rfl rfl rfl ?_
  refine AO.yld _ (Yld.assign rfl) rfl rfl rfl ?_
  refine AO.nil ?_
  refine AC.seq ?_
  refine AC.seq ?_
  refine AC.region ?_
  refine AO.yld _ (Yld.move rfl) rfl rfl rfl ?_
  refine AO.yld _ (Yld.call rfl rfl Try.call66 rfl rfl rfl (spec_l27Ok_c (by assumption)) rfl) rfl rfl rfl ?_
  refine AO.yld _ (Yld.not rfl) rfl rfl rfl ?_
  refine AO.yld _ (Yld.move rfl) rfl rfl rfl ?_
  refine AO.splitAt 13 _ rfl (fun s13 => ?_) (fun s13 => ?_)
  · -- s13 True
    refine AO.skipF rfl rfl rfl rfl rfl ?_
    refine AO.skipF rfl rfl rfl rfl rfl ?_
    refine AO.skipF rfl rfl rfl rfl rfl ?_
    refine AO.yld _ (Yld.pickT rfl rfl) rfl rfl rfl ?_
    refine AO.yld _ (Yld.move rfl) rfl rfl rfl ?_
    refine AO.skipF rfl rfl rfl rfl rfl ?_
    refine AO.skipF rfl rfl rfl rfl rfl ?_
    refine AO.skipF rfl rfl rfl rfl rfl ?_
    refine AO.yld _ (Yld.pickT rfl rfl) rfl rfl rfl ?_
    refine AO.nil ?_
    refine AC.condT rfl ?_
    refine AC.seq ?_
    refine AC.region ?_
    refine AO.yld _ (Yld.assign rfl) rfl rfl rfl ?_
    refine AO.yld _ (Yld.assign rfl) rfl rfl rfl ?_
    refine AO.nil ?_
    refine AC.nilVec 8 0 92 4 rfl rfl ?_
    refine AC.poolNew 1 137 2 rfl ?_
    refine AC.nestJoin 0 1 (cs := ([] : List Ver).map verC) (ins := ([] : List Ver).map verI) (hV := ver_nest) (vs := []) rfl rfl rfl rfl rfl rfl rfl ?_
    refine FnE.ret () [0] [0] Try.results48 (RVs.cons (RV.tmp rfl) (RVs.cons (RV.tmp rfl) RVs.nil)) rfl rfl rfl ?_ ?_ ⟨⟨_, rfl, ?_⟩, trivial⟩
    · -- holds
      trivial
    · -- value
      refine tupE ?_; (try simp only [hM] at *); unfold commitState; clear hg hsn; first | (simp_all [inVers]; done) | grind [inVers]
    · -- thing 0
      exact nestE (by (try simp only [hM] at *); unfold commitState; clear hg hsn; first | (simp_all [inVers]; done) | grind [inVers])
  · -- s13 False
    refine AO.yldG _ (Yld.move rfl) rfl rfl rfl rfl rfl ?_
    refine AO.yldG _ (Yld.call rfl rfl Try.call108 rfl rfl rfl (spec_l27Memo_c (by first | assumption | omega)) rfl) rfl rfl rfl rfl rfl ?_
    refine AO.yldG _ (Yld.not rfl) rfl rfl rfl rfl rfl ?_
    refine AO.yld _ (Yld.pickF rfl rfl) rfl rfl rfl ?_
    refine AO.yld _ (Yld.move rfl) rfl rfl rfl ?_
    refine AO.splitAt 18 _ rfl (fun s18 => ?_) (fun s18 => ?_)
    · -- s18 True
      refine AO.skipF rfl rfl rfl rfl rfl ?_
      refine AO.skipF rfl rfl rfl rfl rfl ?_
      refine AO.skipF rfl rfl rfl rfl rfl ?_
      refine AO.yld _ (Yld.pickT rfl rfl) rfl rfl rfl ?_
      refine AO.nil ?_
      refine AC.condT rfl ?_
      refine AC.seq ?_
      refine AC.region ?_
      refine AO.yld _ (Yld.assign rfl) rfl rfl rfl ?_
      refine AO.yld _ (Yld.assign rfl) rfl rfl rfl ?_
      refine AO.nil ?_
      refine AC.nilVec 8 0 92 4 rfl rfl ?_
      refine AC.poolNew 1 137 2 rfl ?_
      refine AC.nestJoin 0 1 (cs := ([] : List Ver).map verC) (ins := ([] : List Ver).map verI) (hV := ver_nest) (vs := []) rfl rfl rfl rfl rfl rfl rfl ?_
      refine FnE.ret () [0] [0] Try.results48 (RVs.cons (RV.tmp rfl) (RVs.cons (RV.tmp rfl) RVs.nil)) rfl rfl rfl ?_ ?_ ⟨⟨_, rfl, ?_⟩, trivial⟩
      · -- holds
        trivial
      · -- value
        refine tupE ?_; (try simp only [hM] at *); unfold commitState; clear hg hsn; first | (simp_all [inVers]; done) | grind [inVers]
      · -- thing 0
        exact nestE (by (try simp only [hM] at *); unfold commitState; clear hg hsn; first | (simp_all [inVers]; done) | grind [inVers])
    · -- s18 False
      refine AO.yldG _ (Yld.move rfl) rfl rfl rfl rfl rfl ?_
      refine AO.yldG _ (Yld.call rfl rfl Try.call109 rfl rfl rfl (spec_l27State_c (by first | assumption | omega) (by assumption)) rfl) rfl rfl rfl rfl rfl ?_
      refine AO.yldG _ (Yld.not rfl) rfl rfl rfl rfl rfl ?_
      refine AO.yld _ (Yld.pickF rfl rfl) rfl rfl rfl ?_
      refine AO.nil ?_
      refine AC.cond _ rfl (fun c22 => ?_) (fun c22 => ?_)
      · -- c22 True
        refine AC.seq ?_
        refine AC.region ?_
        refine AO.yld _ (Yld.assign rfl) rfl rfl rfl ?_
        refine AO.yld _ (Yld.assign rfl) rfl rfl rfl ?_
        refine AO.nil ?_
        refine AC.nilVec 8 0 92 4 rfl rfl ?_
        refine AC.poolNew 1 137 2 rfl ?_
        refine AC.nestJoin 0 1 (cs := ([] : List Ver).map verC) (ins := ([] : List Ver).map verI) (hV := ver_nest) (vs := []) rfl rfl rfl rfl rfl rfl rfl ?_
        refine FnE.ret () [0] [0] Try.results48 (RVs.cons (RV.tmp rfl) (RVs.cons (RV.tmp rfl) RVs.nil)) rfl rfl rfl ?_ ?_ ⟨⟨_, rfl, ?_⟩, trivial⟩
        · -- holds
          trivial
        · -- value
          refine tupE ?_; (try simp only [hM] at *); unfold commitState; clear hg hsn; first | (simp_all [inVers]; done) | grind [inVers]
        · -- thing 0
          exact nestE (by (try simp only [hM] at *); unfold commitState; clear hg hsn; first | (simp_all [inVers]; done) | grind [inVers])
      · -- c22 False
        refine AC.skip ?_
        refine AC.seq ?_
        refine AC.seq ?_
        refine AC.region ?_
        refine AO.yld _ (Yld.move rfl) rfl rfl rfl ?_
        refine AO.yld _ (Yld.int rfl rfl rfl) rfl rfl rfl ?_
        refine AO.yld _ (Yld.move rfl) rfl rfl rfl ?_
        refine AO.splitAt 25 _ rfl (fun s25 => ?_) (fun s25 => ?_)
        · -- s25 True
          refine AO.yldG _ (Yld.move rfl) rfl rfl rfl rfl rfl ?_
          refine AO.yldG _ (Yld.move rfl) rfl rfl rfl rfl rfl ?_
          refine AO.yldG _ (Yld.call rfl rfl Try.call67 rfl rfl rfl (spec_l27Number_c (by assumption)) rfl) rfl rfl rfl rfl rfl ?_
          refine AO.yldG _ (Yld.not rfl) rfl rfl rfl rfl rfl ?_
          refine AO.yld _ (Yld.pickT rfl rfl) rfl rfl rfl ?_
          refine AO.nil ?_
          refine AC.cond _ rfl (fun c30 => ?_) (fun c30 => ?_)
          · -- c30 True
            refine AC.seq ?_
            refine AC.region ?_
            refine AO.yld _ (Yld.assign rfl) rfl rfl rfl ?_
            refine AO.yld _ (Yld.assign rfl) rfl rfl rfl ?_
            refine AO.nil ?_
            refine AC.nilVec 8 0 92 4 rfl rfl ?_
            refine AC.poolNew 1 137 2 rfl ?_
            refine AC.nestJoin 0 1 (cs := ([] : List Ver).map verC) (ins := ([] : List Ver).map verI) (hV := ver_nest) (vs := []) rfl rfl rfl rfl rfl rfl rfl ?_
            refine FnE.ret () [0] [0] Try.results48 (RVs.cons (RV.tmp rfl) (RVs.cons (RV.tmp rfl) RVs.nil)) rfl rfl rfl ?_ ?_ ⟨⟨_, rfl, ?_⟩, trivial⟩
            · -- holds
              trivial
            · -- value
              refine tupE ?_; (try simp only [hM] at *); unfold commitState; clear hg hsn; first | (simp_all [inVers]; done) | grind [inVers]
            · -- thing 0
              exact nestE (by (try simp only [hM] at *); unfold commitState; clear hg hsn; first | (simp_all [inVers]; done) | grind [inVers])
          · -- c30 False
            refine AC.skip ?_
            refine AC.seq ?_
            refine AC.region ?_
            refine AO.yld _ (Yld.move rfl) rfl rfl rfl ?_
            refine AO.yld _ (Yld.move rfl) rfl rfl rfl ?_
            refine AO.yld _ (Yld.move rfl) rfl rfl rfl ?_
            refine AO.yld _ (Yld.move rfl) rfl rfl rfl ?_
            refine AO.callW (wantedN rfl) [0] [] [0] rfl rfl Try.call110 rfl (spec_l27Add_c (by assumption) (by first | assumption | omega)) (.own rfl) rfl (fun _ => rfl) trivial rfl (fun _ => rfl) (fun _ => rfl) (fun _ _ => ?_)
            refine AO.yld _ (Yld.extract rfl rfl rfl) rfl rfl rfl ?_
            refine AO.yld _ (Yld.extract rfl rfl rfl) rfl rfl rfl ?_
            refine AO.yld _ (Yld.assign rfl) rfl rfl rfl ?_
            refine AO.yld _ (Yld.assign rfl) rfl rfl rfl ?_
            refine AO.nil ?_
            refine FnE.ret () [0] [0] Try.results48 (RVs.cons (RV.tmp rfl) (RVs.cons (RV.tmp rfl) RVs.nil)) rfl rfl rfl ?_ ?_ ⟨⟨_, rfl, ?_⟩, trivial⟩
            · -- holds
              trivial
            · -- value
              refine tupE ?_; (try simp only [hM] at *); unfold commitState; clear hg hsn; first | (simp_all [inVers]; done) | grind [inVers]
            · -- thing 0
              exact nestE (by (try simp only [hM] at *); unfold commitState; clear hg hsn; first | (simp_all [inVers]; done) | grind [inVers])
        · -- s25 False
          refine AO.skipT rfl rfl rfl rfl rfl ?_
          refine AO.skipT rfl rfl rfl rfl rfl ?_
          refine AO.skipT rfl rfl rfl rfl rfl ?_
          refine AO.skipT rfl rfl rfl rfl rfl ?_
          refine AO.yld _ (Yld.pickF rfl rfl) rfl rfl rfl ?_
          refine AO.nil ?_
          refine AC.condF rfl ?_
          refine AC.skip ?_
          refine AC.seq ?_
          refine AC.region ?_
          refine AO.yld _ (Yld.move rfl) rfl rfl rfl ?_
          refine AO.yld _ (Yld.move rfl) rfl rfl rfl ?_
          refine AO.yld _ (Yld.move rfl) rfl rfl rfl ?_
          refine AO.yld _ (Yld.move rfl) rfl rfl rfl ?_
          refine AO.callW (wantedN rfl) [0] [] [0] rfl rfl Try.call110 rfl (spec_l27Add_c (by assumption) (by first | assumption | omega)) (.own rfl) rfl (fun _ => rfl) trivial rfl (fun _ => rfl) (fun _ => rfl) (fun _ _ => ?_)
          refine AO.yld _ (Yld.extract rfl rfl rfl) rfl rfl rfl ?_
          refine AO.yld _ (Yld.extract rfl rfl rfl) rfl rfl rfl ?_
          refine AO.yld _ (Yld.assign rfl) rfl rfl rfl ?_
          refine AO.yld _ (Yld.assign rfl) rfl rfl rfl ?_
          refine AO.nil ?_
          refine FnE.ret () [0] [0] Try.results48 (RVs.cons (RV.tmp rfl) (RVs.cons (RV.tmp rfl) RVs.nil)) rfl rfl rfl ?_ ?_ ⟨⟨_, rfl, ?_⟩, trivial⟩
          · -- holds
            trivial
          · -- value
            refine tupE ?_; (try simp only [hM] at *); unfold commitState; clear hg hsn; first | (simp_all [inVers]; done) | grind [inVers]
          · -- thing 0
            exact nestE (by (try simp only [hM] at *); unfold commitState; clear hg hsn; first | (simp_all [inVers]; done) | grind [inVers])

theorem impl_CommitState_c {xs : List Ver} {p : Int} {memo : List UInt8} {st : List NV} (hg : VersGood xs) (hst : st.length ≤ 1048576) (hmm : memo.length ≤ 1048576) (hsn : ∀ s ∈ st, s.name.length ≤ 1048576) :
    FnE (α := Unit) Try.prog 50 [.p (.sl 4 (xs.map encVer)), .p (.v (.int .i64 p)), .p (.v (str memo)), .p (.sl 2 (st.map encNV))] [] [] (fun _ => True) (fun _ => .tup [.h 0, .p (.v (.int .i64 (commitState xs p memo st).2))]) (fun _ => [(0, .cust (nestC 92 4 137 2 (((commitState xs p memo st).1).map verC) (((commitState xs p memo st).1).map verI) (((commitState xs p memo st).1).map encVer) ver_nest))]) := by
  have hn := hg.1
  have hM : (xs.map encVer).length = xs.length := List.length_map ..
  refine FnE.intro Try.func50 rfl Try.ntmps50 rfl rfl (fun w0 F0 η φ w => ?_)
  refine AC.seq ?_
  refine AC.region ?_
  refine AO.yld _ (Yld.assign rfl) rfl rfl rfl ?_
  refine AO.yld _ (Yld.assign rfl) rfl rfl rfl ?_
  refine AO.nil ?_
  refine AC.seq ?_
  refine AC.seq ?_
  refine AC.region ?_
  refine AO.yld _ (Yld.move rfl) rfl rfl rfl ?_
  refine AO.yld _ (Yld.call rfl rfl Try.call70 rfl rfl rfl (impl_ValidHistory_c (by assumption)) rfl) rfl rfl rfl ?_
  refine AO.yld _ (Yld.not rfl) rfl rfl rfl ?_
  refine AO.yld _ (Yld.move rfl) rfl rfl rfl ?_
  refine AO.splitAt 13 _ rfl (fun s13 => ?_) (fun s13 => ?_)
  · -- s13 True
    refine AO.skipF rfl rfl rfl rfl rfl ?_
    refine AO.skipF rfl rfl rfl rfl rfl ?_
    refine AO.skipF rfl rfl rfl rfl rfl ?_
    refine AO.yld _ (Yld.pickT rfl rfl) rfl rfl rfl ?_
    refine AO.yld _ (Yld.move rfl) rfl rfl rfl ?_
    refine AO.skipF rfl rfl rfl rfl rfl ?_
    refine AO.skipF rfl rfl rfl rfl rfl ?_
    refine AO.skipF rfl rfl rfl rfl rfl ?_
    refine AO.yld _ (Yld.pickT rfl rfl) rfl rfl rfl ?_
    refine AO.nil ?_
    refine AC.condT rfl ?_
    refine AC.seq ?_
    refine AC.region ?_
    refine AO.yld _ (Yld.assign rfl) rfl rfl rfl ?_
    refine AO.yld _ (Yld.assign rfl) rfl rfl rfl ?_
    refine AO.nil ?_
    refine AC.nilVec 8 0 92 4 rfl rfl ?_
    refine AC.poolNew 1 137 2 rfl ?_
    refine AC.nestJoin 0 1 (cs := ([] : List Ver).map verC) (ins := ([] : List Ver).map verI) (hV := ver_nest) (vs := []) rfl rfl rfl rfl rfl rfl rfl ?_
    refine FnE.ret () [0] [0] Try.results50 (RVs.cons (RV.tmp rfl) (RVs.cons (RV.tmp rfl) RVs.nil)) rfl rfl rfl ?_ ?_ ⟨⟨_, rfl, ?_⟩, trivial⟩
    · -- holds
      trivial
    · -- value
      refine tupE ?_; (try simp only [hM] at *); unfold commitState; clear hg hsn; first | (simp_all [inVers]; done) | grind [inVers]
    · -- thing 0
      exact nestE (by (try simp only [hM] at *); unfold commitState; clear hg hsn; first | (simp_all [inVers]; done) | grind [inVers])
  · -- s13 False
    refine AO.yldG _ (Yld.move rfl) rfl rfl rfl rfl rfl ?_
    refine AO.yldG _ (Yld.call rfl rfl Try.call112 rfl rfl rfl (impl_validMemo_c (by first | assumption | omega)) rfl) rfl rfl rfl rfl rfl ?_
    refine AO.yldG _ (Yld.not rfl) rfl rfl rfl rfl rfl ?_
    refine AO.yld _ (Yld.pickF rfl rfl) rfl rfl rfl ?_
    refine AO.yld _ (Yld.move rfl) rfl rfl rfl ?_
    refine AO.splitAt 18 _ rfl (fun s18 => ?_) (fun s18 => ?_)
    · -- s18 True
      refine AO.skipF rfl rfl rfl rfl rfl ?_
      refine AO.skipF rfl rfl rfl rfl rfl ?_
      refine AO.skipF rfl rfl rfl rfl rfl ?_
      refine AO.yld _ (Yld.pickT rfl rfl) rfl rfl rfl ?_
      refine AO.nil ?_
      refine AC.condT rfl ?_
      refine AC.seq ?_
      refine AC.region ?_
      refine AO.yld _ (Yld.assign rfl) rfl rfl rfl ?_
      refine AO.yld _ (Yld.assign rfl) rfl rfl rfl ?_
      refine AO.nil ?_
      refine AC.nilVec 8 0 92 4 rfl rfl ?_
      refine AC.poolNew 1 137 2 rfl ?_
      refine AC.nestJoin 0 1 (cs := ([] : List Ver).map verC) (ins := ([] : List Ver).map verI) (hV := ver_nest) (vs := []) rfl rfl rfl rfl rfl rfl rfl ?_
      refine FnE.ret () [0] [0] Try.results50 (RVs.cons (RV.tmp rfl) (RVs.cons (RV.tmp rfl) RVs.nil)) rfl rfl rfl ?_ ?_ ⟨⟨_, rfl, ?_⟩, trivial⟩
      · -- holds
        trivial
      · -- value
        refine tupE ?_; (try simp only [hM] at *); unfold commitState; clear hg hsn; first | (simp_all [inVers]; done) | grind [inVers]
      · -- thing 0
        exact nestE (by (try simp only [hM] at *); unfold commitState; clear hg hsn; first | (simp_all [inVers]; done) | grind [inVers])
    · -- s18 False
      refine AO.yldG _ (Yld.move rfl) rfl rfl rfl rfl rfl ?_
      refine AO.yldG _ (Yld.call rfl rfl Try.call113 rfl rfl rfl (impl_ValidState_c (by first | assumption | omega) (by assumption)) rfl) rfl rfl rfl rfl rfl ?_
      refine AO.yldG _ (Yld.not rfl) rfl rfl rfl rfl rfl ?_
      refine AO.yld _ (Yld.pickF rfl rfl) rfl rfl rfl ?_
      refine AO.nil ?_
      refine AC.cond _ rfl (fun c22 => ?_) (fun c22 => ?_)
      · -- c22 True
        refine AC.seq ?_
        refine AC.region ?_
        refine AO.yld _ (Yld.assign rfl) rfl rfl rfl ?_
        refine AO.yld _ (Yld.assign rfl) rfl rfl rfl ?_
        refine AO.nil ?_
        refine AC.nilVec 8 0 92 4 rfl rfl ?_
        refine AC.poolNew 1 137 2 rfl ?_
        refine AC.nestJoin 0 1 (cs := ([] : List Ver).map verC) (ins := ([] : List Ver).map verI) (hV := ver_nest) (vs := []) rfl rfl rfl rfl rfl rfl rfl ?_
        refine FnE.ret () [0] [0] Try.results50 (RVs.cons (RV.tmp rfl) (RVs.cons (RV.tmp rfl) RVs.nil)) rfl rfl rfl ?_ ?_ ⟨⟨_, rfl, ?_⟩, trivial⟩
        · -- holds
          trivial
        · -- value
          refine tupE ?_; (try simp only [hM] at *); unfold commitState; clear hg hsn; first | (simp_all [inVers]; done) | grind [inVers]
        · -- thing 0
          exact nestE (by (try simp only [hM] at *); unfold commitState; clear hg hsn; first | (simp_all [inVers]; done) | grind [inVers])
      · -- c22 False
        refine AC.skip ?_
        refine AC.seq ?_
        refine AC.seq ?_
        refine AC.region ?_
        refine AO.yld _ (Yld.move rfl) rfl rfl rfl ?_
        refine AO.yld _ (Yld.move rfl) rfl rfl rfl ?_
        refine AO.yld _ (Yld.len Try.underlying26 rfl rfl) rfl rfl rfl ?_
        refine AO.yld _ (Yld.call rfl rfl Try.call71 rfl rfl rfl (impl_within_c) rfl) rfl rfl rfl ?_
        refine AO.yld _ (Yld.not rfl) rfl rfl rfl ?_
        refine AO.nil ?_
        refine AC.cond _ rfl (fun c27 => ?_) (fun c27 => ?_)
        · -- c27 True
          refine AC.seq ?_
          refine AC.region ?_
          refine AO.yld _ (Yld.assign rfl) rfl rfl rfl ?_
          refine AO.yld _ (Yld.assign rfl) rfl rfl rfl ?_
          refine AO.nil ?_
          refine AC.nilVec 8 0 92 4 rfl rfl ?_
          refine AC.poolNew 1 137 2 rfl ?_
          refine AC.nestJoin 0 1 (cs := ([] : List Ver).map verC) (ins := ([] : List Ver).map verI) (hV := ver_nest) (vs := []) rfl rfl rfl rfl rfl rfl rfl ?_
          refine FnE.ret () [0] [0] Try.results50 (RVs.cons (RV.tmp rfl) (RVs.cons (RV.tmp rfl) RVs.nil)) rfl rfl rfl ?_ ?_ ⟨⟨_, rfl, ?_⟩, trivial⟩
          · -- holds
            trivial
          · -- value
            refine tupE ?_; (try simp only [hM] at *); unfold commitState; clear hg hsn; first | (simp_all [inVers]; done) | grind [inVers]
          · -- thing 0
            exact nestE (by (try simp only [hM] at *); unfold commitState; clear hg hsn; first | (simp_all [inVers]; done) | grind [inVers])
        · -- c27 False
          refine AC.skip ?_
          refine AC.seq ?_
          refine AC.region ?_
          refine AO.yld _ (Yld.move rfl) rfl rfl rfl ?_
          refine AO.yld _ (Yld.move rfl) rfl rfl rfl ?_
          refine AO.yld _ (Yld.move rfl) rfl rfl rfl ?_
          refine AO.yld _ (Yld.move rfl) rfl rfl rfl ?_
          refine AO.callW (wantedN rfl) [0] [] [0] rfl rfl Try.call114 rfl (impl_addVersion_c (by assumption) (by first | assumption | omega)) (.own rfl) rfl (fun _ => rfl) trivial rfl (fun _ => rfl) (fun _ => rfl) (fun _ _ => ?_)
          refine AO.yld _ (Yld.extract rfl rfl rfl) rfl rfl rfl ?_
          refine AO.yld _ (Yld.extract rfl rfl rfl) rfl rfl rfl ?_
          refine AO.yld _ (Yld.assign rfl) rfl rfl rfl ?_
          refine AO.yld _ (Yld.assign rfl) rfl rfl rfl ?_
          refine AO.nil ?_
          refine FnE.ret () [0] [0] Try.results50 (RVs.cons (RV.tmp rfl) (RVs.cons (RV.tmp rfl) RVs.nil)) rfl rfl rfl ?_ ?_ ⟨⟨_, rfl, ?_⟩, trivial⟩
          · -- holds
            trivial
          · -- value
            refine tupE ?_; (try simp only [hM] at *); unfold commitState; clear hg hsn; first | (simp_all [inVers]; done) | grind [inVers]
          · -- thing 0
            exact nestE (by (try simp only [hM] at *); unfold commitState; clear hg hsn; first | (simp_all [inVers]; done) | grind [inVers])

theorem laws_heldVersionS_c {k0 : Int} {ns : List Nat} (h0 : 0 ≤ k0) (h1 : k0 ≤ 100000000000) (hl : ns.length ≤ 1048576) (hn : ∀ n ∈ ns, n ≤ 1048576) :
    Pure Try.prog 53 [.sl 4 (mkV k0 ns), .v (.int .i64 k0)] (.v (.int .i64 (mkK k0 ns))) := by
  refine Pure.intro Try.func53 rfl Try.ntmps53 rfl rfl (fun w => ?_)
  refine AC.seq ?_
  refine AC.region ?_
  refine AO.yld _ (Yld.assign rfl) rfl rfl rfl ?_
  refine AO.nil ?_
  refine AC.seq ?_
  refine AC.seq ?_
  refine AC.region ?_
  refine AO.yld _ (Yld.assign rfl) rfl rfl rfl ?_
  refine AO.nil ?_
  refine AC.block ?_
  refine AC.loopC [(0, _)] [] (fun (k : Nat) => [(5, .p (.v (.int .i64 (k : Int)))), (1, .p (.v (.int .i64 (mkK k0 (ns.take k)))))]) (fun (k : Nat) => []) (fun (k : Nat) => k ≤ ns.length) (fun (k : Nat) => ns.length - k) 0 ⟨rfl, trivial⟩ trivial ⟨rfl, rfl, trivial⟩ trivial ?_ (fun k hJ => ?_)
  · exact Nat.zero_le _
  · -- round
    refine AC.seq ?_
    refine AC.seq ?_
    refine AC.region ?_
    refine AO.yld _ (Yld.move rfl) rfl rfl rfl ?_
    refine AO.yld _ (Yld.move rfl) rfl rfl rfl ?_
    refine AO.yld _ (Yld.len Try.underlying26 rfl rfl) rfl rfl rfl ?_
    refine AO.yld _ (Yld.int rfl rfl rfl) rfl rfl rfl ?_
    refine AO.nil ?_
    refine AC.cond _ rfl (fun c9 => ?_) (fun c9 => ?_)
    · -- c9 True
      have hk : k < ns.length := by have h := c9; rw [mkV_length] at h; simpa using h
      obtain ⟨n, hx⟩ := get_some hk
      have hnn := hn n (List.mem_of_getElem? hx)
      have hkb := mkK_bound (k0 := k0) hl hn k
      have e3 : (mkK k0 (ns.take k)) + 1 + 1 + 1 = (mkK k0 (ns.take k)) + 3 := by omega
      have e2 : (mkK k0 (ns.take k)) + 1 + 1 = (mkK k0 (ns.take k)) + 2 := by omega
      have hrow := mkV_get (k0 := k0) hx
      rw [← e2, ← e3] at hrow
      refine AC.skip ?_
      refine AC.seq ?_
      refine AC.block ?_
      refine AC.seq ?_
      refine AC.seq ?_
      refine AC.region ?_
      refine AO.yld _ (Yld.move rfl) rfl rfl rfl ?_
      refine AO.yld _ (Yld.move rfl) rfl rfl rfl ?_
      refine AO.yld _ (Yld.indexSl Try.underlying26 Try.sizeOf92 rfl rfl hrow rfl) rfl rfl rfl ?_
      refine AO.yld _ (Yld.fieldAddr Try.underlying92 rfl rfl Try.sizeOf2 rfl rfl rfl) rfl rfl rfl ?_
      refine AO.yld _ (Yld.load Try.isAgg2 rfl rfl) rfl rfl rfl ?_
      refine AO.yld _ (Yld.move rfl) rfl rfl rfl ?_
      refine AO.yld _ (Yld.int rfl rfl rfl) rfl rfl rfl ?_
      refine AO.nil ?_
      refine AC.cond _ rfl (fun c18 => ?_) (fun c18 => ?_)
      · -- c18 True
        exfalso; simp [← e2] at c18
      · -- c18 False
        refine AC.skip ?_
        refine AC.seq ?_
        refine AC.region ?_
        refine AO.yld _ (Yld.move rfl) rfl rfl rfl ?_
        refine AO.yld _ (Yld.add rfl rfl (by omega) (by omega)) rfl rfl rfl ?_
        refine AO.yld _ (Yld.assign rfl) rfl rfl rfl ?_
        refine AO.nil ?_
        refine AC.seq ?_
        refine AC.seq ?_
        refine AC.region ?_
        refine AO.yld _ (Yld.move rfl) rfl rfl rfl ?_
        refine AO.yld _ (Yld.move rfl) rfl rfl rfl ?_
        refine AO.yld _ (Yld.indexSl Try.underlying26 Try.sizeOf92 rfl rfl hrow rfl) rfl rfl rfl ?_
        refine AO.yld _ (Yld.fieldAddr Try.underlying92 rfl rfl Try.sizeOf2 rfl rfl rfl) rfl rfl rfl ?_
        refine AO.yld _ (Yld.load Try.isAgg2 rfl rfl) rfl rfl rfl ?_
        refine AO.yld _ (Yld.move rfl) rfl rfl rfl ?_
        refine AO.yld _ (Yld.int rfl rfl rfl) rfl rfl rfl ?_
        refine AO.nil ?_
        refine AC.cond _ rfl (fun c27 => ?_) (fun c27 => ?_)
        · -- c27 True
          exfalso; simp [← e2] at c27
        · -- c27 False
          refine AC.skip ?_
          refine AC.seq ?_
          refine AC.region ?_
          refine AO.yld _ (Yld.move rfl) rfl rfl rfl ?_
          refine AO.yld _ (Yld.add rfl rfl (by omega) (by omega)) rfl rfl rfl ?_
          refine AO.yld _ (Yld.assign rfl) rfl rfl rfl ?_
          refine AO.nil ?_
          refine AC.seq ?_
          refine AC.seq ?_
          refine AC.draw (by kernel_rfl) (by kernel_rfl) ?_
          refine AO.yld _ (Yld.move rfl) rfl rfl rfl ?_
          refine AO.yld _ (Yld.move rfl) rfl rfl rfl ?_
          refine AO.yld _ (Yld.indexSl Try.underlying26 Try.sizeOf92 rfl rfl hrow rfl) rfl rfl rfl ?_
          refine AO.yld _ (Yld.fieldAddr Try.underlying92 rfl rfl Try.sizeOf9 rfl rfl rfl) rfl rfl rfl ?_
          refine AO.yld _ (Yld.load Try.isAgg9 rfl rfl) rfl rfl rfl ?_
          refine AO.yld _ (Yld.move rfl) rfl rfl rfl ?_
          refine AO.yld _ (Yld.call rfl rfl Try.call86 rfl rfl rfl (laws_markText_c (by omega)) rfl) rfl rfl rfl ?_
          refine AO.yld _ (Yld.cmpStr rfl rfl rfl) rfl rfl rfl ?_
          refine AO.nil ?_
          refine AC.cond _ rfl (fun c37 => ?_) (fun c37 => ?_)
          · -- c37 True
            exfalso; simp [← e2] at c37
          · -- c37 False
            refine AC.skip ?_
            refine AC.seq ?_
            refine AC.region ?_
            refine AO.yld _ (Yld.move rfl) rfl rfl rfl ?_
            refine AO.yld _ (Yld.add rfl rfl (by omega) (by omega)) rfl rfl rfl ?_
            refine AO.yld _ (Yld.assign rfl) rfl rfl rfl ?_
            refine AO.nil ?_
            refine AC.seq ?_
            refine AC.region ?_
            refine AO.yld _ (Yld.move rfl) rfl rfl rfl ?_
            refine AO.yld _ (Yld.move rfl) rfl rfl rfl ?_
            refine AO.yld _ (Yld.indexSl Try.underlying26 Try.sizeOf92 rfl rfl hrow rfl) rfl rfl rfl ?_
            refine AO.yld _ (Yld.fieldAddr Try.underlying92 rfl rfl Try.sizeOf68 rfl rfl rfl) rfl rfl rfl ?_
            refine AO.yld _ (Yld.load Try.isAgg68 rfl rfl) rfl rfl rfl ?_
            refine AO.yld _ (Yld.move rfl) rfl rfl rfl ?_
            refine AO.yld _ (Yld.call rfl rfl Try.call116 rfl rfl rfl (laws_heldSettingS_c (k0 := (mkK k0 (ns.take k)) + 1 + 1 + 1) (n := n) (by omega) (by omega) (by omega)) rfl) rfl rfl rfl ?_
            refine AO.yld _ (Yld.assign rfl) rfl rfl rfl ?_
            refine AO.nil ?_
            refine AC.seq ?_
            refine AC.region ?_
            refine AO.yld _ (Yld.move rfl) rfl rfl rfl ?_
            refine AO.yld _ (Yld.int rfl rfl rfl) rfl rfl rfl ?_
            refine AO.nil ?_
            refine AC.cond _ rfl (fun c48 => ?_) (fun c48 => ?_)
            · -- c48 True
              exfalso; have h9 := c48; simp at h9; omega
            · -- c48 False
              refine AC.skip ?_
              refine AC.mark ?_
              refine AC.region ?_
              refine AO.yld _ (Yld.move rfl) rfl rfl rfl ?_
              refine AO.yld _ (Yld.add rfl rfl (by omega) (by omega)) rfl rfl rfl ?_
              refine AO.yld _ (Yld.assign rfl) rfl rfl rfl ?_
              refine AO.nil ?_
              refine AC.back ⟨k + 1, ?_, ?_, ⟨?_, ?_, trivial⟩, trivial, ⟨rfl, trivial⟩, trivial⟩
              · exact hk
              · omega
              · rfl
              · show some (AV.p (PV.v (Value.int IntKind.i64 _))) = _; rw [mkK_step hx, ← e3]; try rfl
    · -- c9 False
      obtain rfl : k = ns.length := by have h := c9; rw [mkV_length] at h; simp at h; omega
      refine AC.exit rfl ?_
      refine AC.seq ?_
      refine AC.region ?_
      refine AO.yld _ (Yld.move rfl) rfl rfl rfl ?_
      refine AO.yld _ (Yld.assign rfl) rfl rfl rfl ?_
      refine AO.nil ?_
      refine Pure.ret Try.results53 (RVs.cons (RV.tmp rfl) RVs.nil) rfl ?_
      first | rfl | (refine ci ?_; rw [List.take_length])

end Go.Proofs.Ytiilobkfonjlhaa
