/- Contracts of functions of the program, each by a walk of its text in the calculus V. -/
import Derived.Test.YtdgjlkdcklfieaaDoorXB
import Derived.Test.YtdgjlkdcklfieaaDoorD35
import Derived.Test.YtdgjlkdcklfieaaDoorV25
import Derived.Test.YtdgjlkdcklfieaaDoorSh
set_option linter.all false
set_option linter.unusedSimpArgs false
set_option linter.unnecessarySimpa false
set_option linter.unusedVariables false
namespace Go.Proofs.YtdgjlkdcklfieaaDoor
open Go Go.V

theorem spec_l01Dec_c {n : Int} (hn : n.natAbs < 1000000000000000000) :
    Pure Tryd.prog 100 [.v (.int .i64 n)] (.v (str (Lib.itoa n))) := by
  refine Pure.intro Tryd.func100 rfl Tryd.ntmps100 rfl rfl (fun w => ?_)
  refine AC.seq ?_
  refine AC.region ?_
  refine AO.yld _ (Yld.assign rfl) rfl rfl rfl ?_
  refine AO.nil ?_
  refine AC.seq ?_
  refine AC.seq ?_
  refine AC.region ?_
  refine AO.yld _ (Yld.move rfl) rfl rfl rfl ?_
  refine AO.yld _ (Yld.int rfl rfl rfl) rfl rfl rfl ?_
  refine AO.nil ?_
  refine AC.cond _ rfl (fun c9 => ?_) (fun c9 => ?_)
  · -- c9 True
    have hz : n = 0 := by simpa using c9
    refine AC.seq ?_
    refine AC.region ?_
    refine AO.yld _ (Yld.assign rfl) rfl rfl rfl ?_
    refine AO.nil ?_
    refine Pure.ret Tryd.results100 (RVs.cons (RV.tmp rfl) RVs.nil) rfl ?_
    first
      | (subst hz; exact congrArg (fun s => PV.v (str s)) itoa_zero.symm)
      | (refine congrArg (fun s => PV.v (str s)) ?_; rw [itoa_rev hz, List.take_of_length_le (by simp)])
  · -- c9 False
    have hz : n ≠ 0 := by simpa using c9
    have hl18 := revN_len18 hn
    have hl19 := revD_len hn
    refine AC.skip ?_
    refine AC.seq ?_
    refine AC.region ?_
    refine AO.buildSlice (rows := []) 0 Tryd.underlying22 ty5 rfl rfl rfl rfl rfl rfl rfl rfl rfl ?_
    refine AO.yld _ (Yld.assign rfl) rfl rfl rfl ?_
    refine AO.nil ?_
    refine AC.seq ?_
    refine AC.seq ?_
    refine AC.region ?_
    refine AO.yld _ (Yld.move rfl) rfl rfl rfl ?_
    refine AO.yld _ (Yld.assign rfl) rfl rfl rfl ?_
    refine AO.nil ?_
    refine AC.block ?_
    refine AC.loopC2 [(0, _), (2, _)] [] (fun (m : Int) (acc : List UInt8) => [(4, .p (.v (.int .i64 m))), (3, .h 0)]) (fun (m : Int) (acc : List UInt8) => [(0, .vec 5 1 (acc.map encB))]) (fun (m : Int) (acc : List UInt8) => acc ++ revN m.natAbs = revN n.natAbs ∧ m.natAbs ≤ n.natAbs) (fun (m : Int) (acc : List UInt8) => m.natAbs) n [] ⟨rfl, rfl, trivial⟩ trivial ⟨rfl, rfl, trivial⟩ ⟨rfl, trivial⟩ ?_ (fun m acc hJ => ?_)
    · exact ⟨rfl, Nat.le_refl _⟩
    · -- round
      refine AC.seq ?_
      refine AC.seq ?_
      refine AC.region ?_
      refine AO.yld _ (Yld.move rfl) rfl rfl rfl ?_
      refine AO.yld _ (Yld.int rfl rfl rfl) rfl rfl rfl ?_
      refine AO.nil ?_
      refine AC.cond _ rfl (fun c13 => ?_) (fun c13 => ?_)
      · -- c13 True
        have hm0 : m ≠ 0 := by simpa using c13
        have hmd := tmod10 m
        have hla : acc.length ≤ 18 := by have := congrArg List.length hJ.1; simp only [List.length_append] at this; omega
        refine AC.skip ?_
        refine AC.seq ?_
        refine AC.block ?_
        refine AC.seq ?_
        refine AC.region ?_
        refine AO.yld _ (Yld.move rfl) rfl rfl rfl ?_
        refine AO.yld _ (Yld.rem rfl rfl (by decide)) rfl rfl rfl ?_
        refine AO.yld _ (Yld.assign rfl) rfl rfl rfl ?_
        refine AO.nil ?_
        refine AC.seq ?_
        refine AC.seq ?_
        refine AC.region ?_
        refine AO.yld _ (Yld.move rfl) rfl rfl rfl ?_
        refine AO.yld _ (Yld.int rfl rfl rfl) rfl rfl rfl ?_
        refine AO.nil ?_
        refine AC.cond _ rfl (fun c19 => ?_) (fun c19 => ?_)
        · -- c19 True
          have hng : m.tmod 10 < 0 := by simpa using c19
          have hrow9 : encB (UInt8.ofNat (48 + (m.tmod 10).natAbs)) = [PV.v (.int .u8 (IntKind.u8.wrap (48 + -(m.tmod 10))))] := by unfold encB; rw [digit_of (k := (m.tmod 10).natAbs) (by omega) (by omega)]
          refine AC.region ?_
          refine AO.yld _ (Yld.move rfl) rfl rfl rfl ?_
          refine AO.yld _ (Yld.negN rfl (by omega) (by omega)) rfl rfl rfl ?_
          refine AO.yld _ (Yld.assign rfl) rfl rfl rfl ?_
          refine AO.nil ?_
          refine AC.region ?_
          refine AO.yld _ (Yld.move rfl) rfl rfl rfl ?_
          refine AO.yld _ (Yld.move rfl) rfl rfl rfl ?_
          refine AO.yld _ (Yld.add rfl rfl (by omega) (by omega)) rfl rfl rfl ?_
          refine AO.yld _ (Yld.convInt Tryd.underlying2 Tryd.underlying5 rfl) rfl rfl rfl ?_
          refine AO.buildSlice (rows := [[_]]) 1 Tryd.underlying22 ty5 rfl rfl rfl rfl rfl rfl rfl rfl rfl ?_
          refine AO.append 0 Tryd.underlying22 ty5 rfl rfl rfl rfl rfl rfl rfl (by simp [pvOne]) (by simp only [List.length_map, List.length_cons, List.length_nil]; omega) (by simp only [List.length_map, List.length_cons, List.length_nil]; omega) rfl ?_
          refine AO.yld _ (Yld.assign rfl) rfl rfl rfl ?_
          refine AO.nil ?_
          refine AC.mark ?_
          refine AC.region ?_
          refine AO.yld _ (Yld.move rfl) rfl rfl rfl ?_
          refine AO.yld _ (Yld.quoP rfl rfl (by decide) (by omega) (by omega)) rfl rfl rfl ?_
          refine AO.yld _ (Yld.assign rfl) rfl rfl rfl ?_
          refine AO.nil ?_
          refine AC.back ⟨m.tdiv 10, acc ++ [UInt8.ofNat (48 + (m.tmod 10).natAbs)], ?_, ?_, ⟨?_, ?_, trivial⟩, ⟨?_, trivial⟩, ⟨rfl, rfl, trivial⟩, trivial⟩
          · exact ⟨by rw [List.append_assoc, ← hJ.1, dig_i hm0]; rfl, by rw [natAbs_t10]; omega⟩
          · rw [natAbs_t10]; omega
          · rfl
          · rfl
          · rw [map_snoc, hrow9]; rfl
        · -- c19 False
          have hng : ¬ m.tmod 10 < 0 := by simpa using c19
          have hrow9 : encB (UInt8.ofNat (48 + (m.tmod 10).natAbs)) = [PV.v (.int .u8 (IntKind.u8.wrap (48 + m.tmod 10)))] := by unfold encB; rw [digit_of (k := (m.tmod 10).natAbs) (by omega) (by omega)]
          refine AC.skip ?_
          refine AC.region ?_
          refine AO.yld _ (Yld.move rfl) rfl rfl rfl ?_
          refine AO.yld _ (Yld.move rfl) rfl rfl rfl ?_
          refine AO.yld _ (Yld.add rfl rfl (by omega) (by omega)) rfl rfl rfl ?_
          refine AO.yld _ (Yld.convInt Tryd.underlying2 Tryd.underlying5 rfl) rfl rfl rfl ?_
          refine AO.buildSlice (rows := [[_]]) 1 Tryd.underlying22 ty5 rfl rfl rfl rfl rfl rfl rfl rfl rfl ?_
          refine AO.append 0 Tryd.underlying22 ty5 rfl rfl rfl rfl rfl rfl rfl (by simp [pvOne]) (by simp only [List.length_map, List.length_cons, List.length_nil]; omega) (by simp only [List.length_map, List.length_cons, List.length_nil]; omega) rfl ?_
          refine AO.yld _ (Yld.assign rfl) rfl rfl rfl ?_
          refine AO.nil ?_
          refine AC.mark ?_
          refine AC.region ?_
          refine AO.yld _ (Yld.move rfl) rfl rfl rfl ?_
          refine AO.yld _ (Yld.quoP rfl rfl (by decide) (by omega) (by omega)) rfl rfl rfl ?_
          refine AO.yld _ (Yld.assign rfl) rfl rfl rfl ?_
          refine AO.nil ?_
          refine AC.back ⟨m.tdiv 10, acc ++ [UInt8.ofNat (48 + (m.tmod 10).natAbs)], ?_, ?_, ⟨?_, ?_, trivial⟩, ⟨?_, trivial⟩, ⟨rfl, rfl, trivial⟩, trivial⟩
          · exact ⟨by rw [List.append_assoc, ← hJ.1, dig_i hm0]; rfl, by rw [natAbs_t10]; omega⟩
          · rw [natAbs_t10]; omega
          · rfl
          · rfl
          · rw [map_snoc, hrow9]; rfl
      · -- c13 False
        have hm0 : m = 0 := by simpa using c13
        have hacc : acc = revN n.natAbs := by rw [← hJ.1, hm0]; simp [revN_zero]
        have hla : acc.length ≤ 18 := by rw [hacc]; exact hl18
        refine AC.exit rfl ?_
        refine AC.seq ?_
        refine AC.seq ?_
        refine AC.region ?_
        refine AO.yld _ (Yld.move rfl) rfl rfl rfl ?_
        refine AO.yld _ (Yld.int rfl rfl rfl) rfl rfl rfl ?_
        refine AO.nil ?_
        refine AC.cond _ rfl (fun c29 => ?_) (fun c29 => ?_)
        · -- c29 True
          have hneg : n < 0 := by simpa using c29
          refine AC.region ?_
          refine AO.yld _ (Yld.move rfl) rfl rfl rfl ?_
          refine AO.buildSlice (rows := [[_]]) 1 Tryd.underlying22 ty5 rfl rfl rfl rfl rfl rfl rfl rfl rfl ?_
          refine AO.append 0 Tryd.underlying22 ty5 rfl rfl rfl rfl rfl rfl rfl (by simp [pvOne]) (by simp only [List.length_map, List.length_cons, List.length_nil]; omega) (by simp only [List.length_map, List.length_cons, List.length_nil]; omega) rfl ?_
          refine AO.yld _ (Yld.assign rfl) rfl rfl rfl ?_
          refine AO.nil ?_
          refine AC.seq ?_
          refine AC.region ?_
          refine AO.freeze 0 rfl ?_
          first | rw [show List.map encB acc ++ [[PV.v (.int .u8 45)]] = (revD n).map encB from by unfold revD; rw [if_pos hneg, hacc, List.map_append]; rfl] | rw [show List.map encB acc = (revD n).map encB from by unfold revD; rw [if_neg hneg, hacc, List.append_nil]]
          refine AO.buildSlice (rows := []) 2 Tryd.underlying22 ty5 rfl rfl rfl rfl rfl rfl rfl rfl rfl ?_
          refine AO.yld _ (Yld.assign rfl) rfl rfl rfl ?_
          refine AO.nil ?_
          refine AC.seq ?_
          refine AC.seq ?_
          refine AC.region ?_
          refine AO.yld _ (Yld.move rfl) rfl rfl rfl ?_
          refine AO.yld _ (Yld.len Tryd.underlying22 rfl rfl) rfl rfl rfl ?_
          refine AO.yld _ (Yld.sub rfl rfl (by rw [List.length_map]; omega) (by rw [List.length_map]; omega)) rfl rfl rfl ?_
          refine AO.yld _ (Yld.assign rfl) rfl rfl rfl ?_
          refine AO.nil ?_
          refine AC.block ?_
          refine AC.loopC [(2, _), (3, _)] [(1, _)] (fun (j : Nat) => [(7, .p (.v (.int .i64 (((revD n).length : Int) - 1 - j)))), (6, .h 2)]) (fun (j : Nat) => [(2, .vec 5 1 (((revD n).reverse.take j).map encB))]) (fun (j : Nat) => j ≤ (revD n).length) (fun (j : Nat) => (revD n).length - j) 0 ⟨rfl, rfl, trivial⟩ ⟨rfl, trivial⟩ ⟨by show some (AV.p (PV.v (Value.int IntKind.i64 _))) = _; simp, rfl, trivial⟩ ⟨rfl, trivial⟩ ?_ (fun j hJ => ?_)
          · exact Nat.zero_le _
          · -- round
            refine AC.seq ?_
            refine AC.seq ?_
            refine AC.region ?_
            refine AO.yld _ (Yld.move rfl) rfl rfl rfl ?_
            refine AO.yld _ (Yld.int rfl rfl rfl) rfl rfl rfl ?_
            refine AO.nil ?_
            refine AC.cond _ rfl (fun c38 => ?_) (fun c38 => ?_)
            · -- c38 True
              have hj : j < (revD n).length := by have h := c38; simp only [decide_eq_true_eq] at h; omega
              obtain ⟨c, hc⟩ := get_some (xs := revD n) (k := (revD n).length - 1 - j) (by omega)
              have hrow := map_row (enc := encB) hc
              refine AC.skip ?_
              refine AC.seq ?_
              refine AC.block ?_
              refine AC.region ?_
              refine AO.yld _ (Yld.move rfl) rfl rfl rfl ?_
              refine AO.yld _ (Yld.move rfl) rfl rfl rfl ?_
              refine AO.yld _ (Yld.move rfl) rfl rfl rfl ?_
              refine AO.yld _ (Yld.indexSl Tryd.underlying22 Tryd.sizeOf5 rfl rfl hrow (by omega)) rfl rfl rfl ?_
              refine AO.yld _ (Yld.load Tryd.isAgg5 rfl rfl) rfl rfl rfl ?_
              refine AO.buildSlice (rows := [[_]]) 3 Tryd.underlying22 ty5 rfl rfl rfl rfl rfl rfl rfl rfl rfl ?_
              refine AO.append 2 Tryd.underlying22 ty5 rfl rfl rfl rfl rfl rfl rfl (by simp [pvOne]) (by simp only [List.length_map, List.length_cons, List.length_nil, List.length_take, List.length_reverse]; omega) (by simp only [List.length_map, List.length_cons, List.length_nil, List.length_take, List.length_reverse]; omega) rfl ?_
              refine AO.yld _ (Yld.assign rfl) rfl rfl rfl ?_
              refine AO.nil ?_
              refine AC.mark ?_
              refine AC.region ?_
              refine AO.yld _ (Yld.move rfl) rfl rfl rfl ?_
              refine AO.yld _ (Yld.sub rfl rfl (by omega) (by omega)) rfl rfl rfl ?_
              refine AO.yld _ (Yld.assign rfl) rfl rfl rfl ?_
              refine AO.nil ?_
              refine AC.back ⟨j + 1, ?_, ?_, ⟨?_, ?_, trivial⟩, ⟨?_, trivial⟩, ⟨rfl, rfl, trivial⟩, ⟨rfl, trivial⟩⟩
              · exact hj
              · omega
              · show some (AV.p (PV.v (Value.int IntKind.i64 _))) = _; congr 4; omega
              · rfl
              · rw [take_snoc (rev_at hc hj), map_snoc]; rfl
            · -- c38 False
              obtain rfl : j = (revD n).length := by have h := c38; simp only [decide_eq_false_iff_not] at h; omega
              refine AC.exit rfl ?_
              refine AC.seq ?_
              refine AC.region ?_
              refine AO.yld _ (Yld.move rfl) rfl rfl rfl ?_
              refine AO.yld _ (Yld.convBytes (l := ((revD n).reverse.take (revD n).length)) Tryd.underlying22 Tryd.underlying5 Tryd.underlying9 rfl (by rfl)) rfl rfl rfl ?_
              refine AO.yld _ (Yld.assign rfl) rfl rfl rfl ?_
              refine AO.nil ?_
              refine Pure.ret Tryd.results100 (RVs.cons (RV.tmp rfl) RVs.nil) rfl ?_
              first
                | (subst hz; exact congrArg (fun s => PV.v (str s)) itoa_zero.symm)
                | (refine congrArg (fun s => PV.v (str s)) ?_; rw [itoa_rev hz, List.take_of_length_le (by simp)])
        · -- c29 False
          have hneg : ¬ n < 0 := by simpa using c29
          refine AC.skip ?_
          refine AC.seq ?_
          refine AC.region ?_
          refine AO.freeze 0 rfl ?_
          first | rw [show List.map encB acc ++ [[PV.v (.int .u8 45)]] = (revD n).map encB from by unfold revD; rw [if_pos hneg, hacc, List.map_append]; rfl] | rw [show List.map encB acc = (revD n).map encB from by unfold revD; rw [if_neg hneg, hacc, List.append_nil]]
          refine AO.buildSlice (rows := []) 1 Tryd.underlying22 ty5 rfl rfl rfl rfl rfl rfl rfl rfl rfl ?_
          refine AO.yld _ (Yld.assign rfl) rfl rfl rfl ?_
          refine AO.nil ?_
          refine AC.seq ?_
          refine AC.seq ?_
          refine AC.region ?_
          refine AO.yld _ (Yld.move rfl) rfl rfl rfl ?_
          refine AO.yld _ (Yld.len Tryd.underlying22 rfl rfl) rfl rfl rfl ?_
          refine AO.yld _ (Yld.sub rfl rfl (by rw [List.length_map]; omega) (by rw [List.length_map]; omega)) rfl rfl rfl ?_
          refine AO.yld _ (Yld.assign rfl) rfl rfl rfl ?_
          refine AO.nil ?_
          refine AC.block ?_
          refine AC.loopC [(2, _), (3, _)] [] (fun (j : Nat) => [(7, .p (.v (.int .i64 (((revD n).length : Int) - 1 - j)))), (6, .h 1)]) (fun (j : Nat) => [(1, .vec 5 1 (((revD n).reverse.take j).map encB))]) (fun (j : Nat) => j ≤ (revD n).length) (fun (j : Nat) => (revD n).length - j) 0 ⟨rfl, rfl, trivial⟩ trivial ⟨by show some (AV.p (PV.v (Value.int IntKind.i64 _))) = _; simp, rfl, trivial⟩ ⟨rfl, trivial⟩ ?_ (fun j hJ => ?_)
          · exact Nat.zero_le _
          · -- round
            refine AC.seq ?_
            refine AC.seq ?_
            refine AC.region ?_
            refine AO.yld _ (Yld.move rfl) rfl rfl rfl ?_
            refine AO.yld _ (Yld.int rfl rfl rfl) rfl rfl rfl ?_
            refine AO.nil ?_
            refine AC.cond _ rfl (fun c38 => ?_) (fun c38 => ?_)
            · -- c38 True
              have hj : j < (revD n).length := by have h := c38; simp only [decide_eq_true_eq] at h; omega
              obtain ⟨c, hc⟩ := get_some (xs := revD n) (k := (revD n).length - 1 - j) (by omega)
              have hrow := map_row (enc := encB) hc
              refine AC.skip ?_
              refine AC.seq ?_
              refine AC.block ?_
              refine AC.region ?_
              refine AO.yld _ (Yld.move rfl) rfl rfl rfl ?_
              refine AO.yld _ (Yld.move rfl) rfl rfl rfl ?_
              refine AO.yld _ (Yld.move rfl) rfl rfl rfl ?_
              refine AO.yld _ (Yld.indexSl Tryd.underlying22 Tryd.sizeOf5 rfl rfl hrow (by omega)) rfl rfl rfl ?_
              refine AO.yld _ (Yld.load Tryd.isAgg5 rfl rfl) rfl rfl rfl ?_
              refine AO.buildSlice (rows := [[_]]) 2 Tryd.underlying22 ty5 rfl rfl rfl rfl rfl rfl rfl rfl rfl ?_
              refine AO.append 1 Tryd.underlying22 ty5 rfl rfl rfl rfl rfl rfl rfl (by simp [pvOne]) (by simp only [List.length_map, List.length_cons, List.length_nil, List.length_take, List.length_reverse]; omega) (by simp only [List.length_map, List.length_cons, List.length_nil, List.length_take, List.length_reverse]; omega) rfl ?_
              refine AO.yld _ (Yld.assign rfl) rfl rfl rfl ?_
              refine AO.nil ?_
              refine AC.mark ?_
              refine AC.region ?_
              refine AO.yld _ (Yld.move rfl) rfl rfl rfl ?_
              refine AO.yld _ (Yld.sub rfl rfl (by omega) (by omega)) rfl rfl rfl ?_
              refine AO.yld _ (Yld.assign rfl) rfl rfl rfl ?_
              refine AO.nil ?_
              refine AC.back ⟨j + 1, ?_, ?_, ⟨?_, ?_, trivial⟩, ⟨?_, trivial⟩, ⟨rfl, rfl, trivial⟩, trivial⟩
              · exact hj
              · omega
              · show some (AV.p (PV.v (Value.int IntKind.i64 _))) = _; congr 4; omega
              · rfl
              · rw [take_snoc (rev_at hc hj), map_snoc]; rfl
            · -- c38 False
              obtain rfl : j = (revD n).length := by have h := c38; simp only [decide_eq_false_iff_not] at h; omega
              refine AC.exit rfl ?_
              refine AC.seq ?_
              refine AC.region ?_
              refine AO.yld _ (Yld.move rfl) rfl rfl rfl ?_
              refine AO.yld _ (Yld.convBytes (l := ((revD n).reverse.take (revD n).length)) Tryd.underlying22 Tryd.underlying5 Tryd.underlying9 rfl (by rfl)) rfl rfl rfl ?_
              refine AO.yld _ (Yld.assign rfl) rfl rfl rfl ?_
              refine AO.nil ?_
              refine Pure.ret Tryd.results100 (RVs.cons (RV.tmp rfl) RVs.nil) rfl ?_
              first
                | (subst hz; exact congrArg (fun s => PV.v (str s)) itoa_zero.symm)
                | (refine congrArg (fun s => PV.v (str s)) ?_; rw [itoa_rev hz, List.take_of_length_le (by simp)])

theorem impl_Decimal_s {n : Int} (h0 : 0 ≤ n) (h1 : n < 100) :
    Pure Tryd.prog 86 [.v (.int .i64 n)] (.v (str (Lib.itoa n))) := by
  refine Pure.intro Tryd.func86 rfl Tryd.ntmps86 rfl rfl (fun w => ?_)
  refine AC.seq ?_
  refine AC.region ?_
  refine AO.yld _ (Yld.assign rfl) rfl rfl rfl ?_
  refine AO.nil ?_
  refine AC.seq ?_
  refine AC.region ?_
  refine AO.yld _ (Yld.move rfl) rfl rfl rfl ?_
  refine AO.yld _ (Yld.call rfl rfl Tryd.call150 rfl rfl rfl (fmt_small Tryd.strconv_FormatInt_10_small (by omega) (by omega)) rfl) rfl rfl rfl ?_
  refine AO.yld _ (Yld.assign rfl) rfl rfl rfl ?_
  refine AO.nil ?_
  refine Pure.ret Tryd.results86 (RVs.cons (RV.tmp rfl) RVs.nil) rfl ?_
  rfl

end Go.Proofs.YtdgjlkdcklfieaaDoor
