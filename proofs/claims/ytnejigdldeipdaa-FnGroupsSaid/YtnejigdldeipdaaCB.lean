/- Contracts of functions of the program, each by a walk of its text in the calculus V. -/
import Derived.Test.YtnejigdldeipdaaCA
import Derived.Test.YtnejigdldeipdaaD26
import Derived.Test.YtnejigdldeipdaaV21
set_option linter.all false
set_option linter.unusedSimpArgs false
set_option linter.unnecessarySimpa false
set_option linter.unusedVariables false
namespace Go.Proofs.Ytnejigdldeipdaa
open Go Go.V

theorem impl_personsOf_c {xs : List Group} (hn : xs.length ≤ 1048576) (hp : ∀ g ∈ xs, 1 ≤ g.persons ∧ g.persons ≤ 40) :
    Pure Try.prog 58 [.sl 3 (xs.map encGroup)] (.v (.int .i64 (sumP xs))) := by
  refine Pure.intro Try.func58 rfl Try.ntmps58 rfl rfl (fun w => ?_)
  refine AC.seq ?_
  refine AC.region ?_
  refine AO.yld _ (Yld.assign rfl) rfl rfl rfl ?_
  refine AO.nil ?_
  refine AC.seq ?_
  refine AC.region ?_
  refine AO.yld _ (Yld.assign rfl) rfl rfl rfl ?_
  refine AO.nil ?_
  refine AC.seq ?_
  refine AC.seq ?_
  refine AC.region ?_
  refine AO.yld _ (Yld.move rfl) rfl rfl rfl ?_
  refine AO.yld _ (Yld.len Try.underlying27 rfl rfl) rfl rfl rfl ?_
  refine AO.yld _ (Yld.move rfl) rfl rfl rfl ?_
  refine AO.nil ?_
  refine AC.block ?_
  refine AC.loopC [(2, _), (6, _), (7, _)] [] (fun (k : Nat) => [(8, .p (.v (.int .i64 (k : Int)))), (3, .p (.v (.int .i64 (sumP (xs.take k)))))]) (fun (k : Nat) => []) (fun (k : Nat) => k ≤ xs.length) (fun (k : Nat) => xs.length - k) 0 ⟨rfl, rfl, rfl, trivial⟩ trivial ⟨rfl, rfl, trivial⟩ trivial ?_ (fun k hJ => ?_)
  · exact Nat.zero_le _
  · -- round
    refine AC.seq ?_
    refine AC.region ?_
    refine AO.yld _ (Yld.int rfl rfl rfl) rfl rfl rfl ?_
    refine AO.nil ?_
    refine AC.seq ?_
    refine AC.cond _ rfl (fun c9 => ?_) (fun c9 => ?_)
    · -- c9 True
      have hk := lt_of_decM c9
      obtain ⟨x, hx⟩ := get_some hk
      have hrow := map_row (enc := encGroup) hx
      have hb9 := sumP_bound (gs := xs.take k) (fun g hg => hp g (List.mem_of_mem_take hg))
      have hb8 : ((xs.take k).length : Int) ≤ 1048576 := by rw [List.length_take]; omega
      have hp9 := hp x (List.mem_of_getElem? hx)
      refine AC.skip ?_
      refine AC.seq ?_
      refine AC.block ?_
      refine AC.seq ?_
      refine AC.region ?_
      refine AO.yld _ (Yld.indexSl Try.underlying27 Try.sizeOf52 rfl rfl hrow rfl) rfl rfl rfl ?_
      refine AO.yld _ (Yld.loadAgg Try.isAgg52 Try.sizeOf52 rfl rfl rfl rfl) rfl rfl rfl ?_
      refine AO.alloc 0 Try.zeroValue52 rfl rfl rfl ?_
      refine AO.store Try.sizeOf52 rfl rfl rfl rfl rfl rfl ?_
      refine AO.nil ?_
      refine AC.region ?_
      refine AO.yld _ (Yld.move rfl) rfl rfl rfl ?_
      refine AO.yld _ (Yld.fieldAddr Try.underlying52 rfl rfl Try.sizeOf2 rfl rfl rfl) rfl rfl rfl ?_
      refine AO.yld _ (Yld.load Try.isAgg2 rfl rfl) rfl rfl rfl ?_
      refine AO.yld _ (Yld.add rfl rfl (by omega) (by omega)) rfl rfl rfl ?_
      refine AO.yld _ (Yld.assign rfl) rfl rfl rfl ?_
      refine AO.nil ?_
      refine AC.mark ?_
      refine AC.region ?_
      refine AO.yld _ (Yld.add rfl rfl (by omega) (by omega)) rfl rfl rfl ?_
      refine AO.yld _ (Yld.move rfl) rfl rfl rfl ?_
      refine AO.nil ?_
      refine AC.back ⟨k + 1, ?_, ?_, ⟨?_, ?_, trivial⟩, trivial, ⟨rfl, rfl, rfl, trivial⟩, trivial⟩
      · exact hk
      · omega
      · rfl
      · rw [sumP_take_succ hx]; rfl
    · -- c9 False
      obtain rfl : k = xs.length := by have := ge_of_decM c9; omega
      refine AC.exit rfl ?_
      refine AC.seq ?_
      refine AC.region ?_
      refine AO.yld _ (Yld.move rfl) rfl rfl rfl ?_
      refine AO.yld _ (Yld.assign rfl) rfl rfl rfl ?_
      refine AO.nil ?_
      refine Pure.ret Try.results58 (RVs.cons (RV.tmp rfl) RVs.nil) rfl ?_
      refine ci ?_; rw [List.take_of_length_le (Nat.le_refl _)]

theorem spec_l24Sum_c {xs : List Group} (hn : xs.length ≤ 1048576) (hp : ∀ g ∈ xs, 1 ≤ g.persons ∧ g.persons ≤ 40) {a : Int} (ha : 0 ≤ a ∧ a ≤ xs.length) :
    Pure Try.prog 67 [.sl 3 (xs.map encGroup), .v (.int .i64 a)] (.v (.int .i64 (sumP (xs.drop a.toNat)))) := by
  obtain ⟨n, rfl⟩ := Int.eq_ofNat_of_zero_le ha.1
  refine Pure.intro Try.func67 rfl Try.ntmps67 rfl rfl (fun w => ?_)
  refine AC.seq ?_
  refine AC.region ?_
  refine AO.yld _ (Yld.assign rfl) rfl rfl rfl ?_
  refine AO.nil ?_
  refine AC.seq ?_
  refine AC.region ?_
  refine AO.yld _ (Yld.assign rfl) rfl rfl rfl ?_
  refine AO.nil ?_
  refine AC.seq ?_
  refine AC.seq ?_
  refine AC.region ?_
  refine AO.yld _ (Yld.move rfl) rfl rfl rfl ?_
  refine AO.yld _ (Yld.assign rfl) rfl rfl rfl ?_
  refine AO.nil ?_
  refine AC.block ?_
  refine AC.loopC [(0, _), (4, _)] [] (fun (k : Nat) => [(6, .p (.v (.int .i64 (k : Int)))), (5, .p (.v (.int .i64 (sumP ((xs.take k).drop n)))))]) (fun (k : Nat) => []) (fun (k : Nat) => n ≤ k ∧ k ≤ xs.length) (fun (k : Nat) => xs.length - k) n ⟨rfl, rfl, trivial⟩ trivial ⟨rfl, by rw [List.drop_eq_nil_of_le (by rw [List.length_take]; omega)]; rfl, trivial⟩ trivial ?_ (fun k hJ => ?_)
  · omega
  · -- round
    refine AC.seq ?_
    refine AC.seq ?_
    refine AC.region ?_
    refine AO.yld _ (Yld.move rfl) rfl rfl rfl ?_
    refine AO.yld _ (Yld.move rfl) rfl rfl rfl ?_
    refine AO.yld _ (Yld.len Try.underlying27 rfl rfl) rfl rfl rfl ?_
    refine AO.yld _ (Yld.int rfl rfl rfl) rfl rfl rfl ?_
    refine AO.nil ?_
    refine AC.cond _ rfl (fun c11 => ?_) (fun c11 => ?_)
    · -- c11 True
      have hk := lt_of_decM c11
      obtain ⟨x, hx⟩ := get_some hk
      have hrow := map_row (enc := encGroup) hx
      have hb9 := sumP_bound (gs := (xs.take k).drop n) (fun g hg => hp g (List.mem_of_mem_take (List.mem_of_mem_drop hg)))
      have hb8 : (((xs.take k).drop n).length : Int) ≤ 1048576 := by rw [List.length_drop, List.length_take]; omega
      have hp9 := hp x (List.mem_of_getElem? hx)
      refine AC.skip ?_
      refine AC.seq ?_
      refine AC.block ?_
      refine AC.region ?_
      refine AO.yld _ (Yld.move rfl) rfl rfl rfl ?_
      refine AO.yld _ (Yld.move rfl) rfl rfl rfl ?_
      refine AO.yld _ (Yld.move rfl) rfl rfl rfl ?_
      refine AO.yld _ (Yld.indexSl Try.underlying27 Try.sizeOf52 rfl rfl hrow rfl) rfl rfl rfl ?_
      refine AO.yld _ (Yld.fieldAddr Try.underlying52 rfl rfl Try.sizeOf2 rfl rfl rfl) rfl rfl rfl ?_
      refine AO.yld _ (Yld.load Try.isAgg2 rfl rfl) rfl rfl rfl ?_
      refine AO.yld _ (Yld.add rfl rfl (by omega) (by omega)) rfl rfl rfl ?_
      refine AO.yld _ (Yld.assign rfl) rfl rfl rfl ?_
      refine AO.nil ?_
      refine AC.mark ?_
      refine AC.region ?_
      refine AO.yld _ (Yld.move rfl) rfl rfl rfl ?_
      refine AO.yld _ (Yld.add rfl rfl (by omega) (by omega)) rfl rfl rfl ?_
      refine AO.yld _ (Yld.assign rfl) rfl rfl rfl ?_
      refine AO.nil ?_
      refine AC.back ⟨k + 1, ?_, ?_, ⟨?_, ?_, trivial⟩, trivial, ⟨rfl, rfl, trivial⟩, trivial⟩
      · omega
      · omega
      · rfl
      · rw [sumP_mid hx (by omega)]; rfl
    · -- c11 False
      obtain rfl : k = xs.length := by have := ge_of_decM c11; omega
      refine AC.exit rfl ?_
      refine AC.seq ?_
      refine AC.region ?_
      refine AO.yld _ (Yld.move rfl) rfl rfl rfl ?_
      refine AO.yld _ (Yld.assign rfl) rfl rfl rfl ?_
      refine AO.nil ?_
      refine Pure.ret Try.results67 (RVs.cons (RV.tmp rfl) RVs.nil) rfl ?_
      refine ci ?_; rw [List.take_of_length_le (Nat.le_refl _)]; rfl

set_option maxHeartbeats 2000000 in
theorem impl_seatMost_s {gs : List Group} (hok : okGroups gs = true) {m : Nat} (ih : ∀ {free pl best : List Int} {sd most left : Int} (hpl : pl.length = m + 1) (hfree : free.all okRow = true) (hfl : free.length ≤ 10) (hl : 0 ≤ left ∧ left ≤ 20000) (hsd : 0 ≤ sd ∧ sd ≤ 40 * pl.length) (hm : m + 1 ≤ gs.length), FnE (α := List Int × List Int × List Int × Int × Int) Try.prog 48 [.h 0, .p (.v (.int .i64 sd))] [(0, .box 64 [.p (.sl 3 (gs.map encGroup)), .h 1, .h 2, .h 3, .p (.v (.int .i64 most)), .p (.v (.int .i64 left))]), (1, .vec 2 1 (free.map encI)), (2, .vec 2 1 (pl.map encI)), (3, .vec 2 1 (best.map encI))] [0, 1] (fun ⟨fr2, pl2, b2, m2, l2⟩ => MostR (mostS (remS gs pl.length) free pl sd ⟨best, most, left⟩) free pl fr2 pl2 b2 m2 l2) (fun ⟨fr2, pl2, b2, m2, l2⟩ => .p (.v (.bool (isS (mostS (remS gs pl.length) free pl sd ⟨best, most, left⟩))))) (fun ⟨fr2, pl2, b2, m2, l2⟩ => [(0, .box 64 [.p (.sl 3 (gs.map encGroup)), .h 1, .h 2, .h 3, .p (.v (.int .i64 m2)), .p (.v (.int .i64 l2))]), (1, .vec 2 1 (fr2.map encI)), (2, .vec 2 1 (pl2.map encI)), (3, .vec 2 1 (b2.map encI))])) {free pl best : List Int} {sd most left : Int} (hpl : pl.length = m) (hfree : free.all okRow = true) (hfl : free.length ≤ 10) (hl : 0 ≤ left ∧ left ≤ 20000) (hsd : 0 ≤ sd ∧ sd ≤ 40 * pl.length) (hm : m ≤ gs.length) :
    FnE (α := List Int × List Int × List Int × Int × Int) Try.prog 48 [.h 0, .p (.v (.int .i64 sd))] [(0, .box 64 [.p (.sl 3 (gs.map encGroup)), .h 1, .h 2, .h 3, .p (.v (.int .i64 most)), .p (.v (.int .i64 left))]), (1, .vec 2 1 (free.map encI)), (2, .vec 2 1 (pl.map encI)), (3, .vec 2 1 (best.map encI))] [0, 1] (fun ⟨fr2, pl2, b2, m2, l2⟩ => MostR (mostS (remS gs pl.length) free pl sd ⟨best, most, left⟩) free pl fr2 pl2 b2 m2 l2) (fun ⟨fr2, pl2, b2, m2, l2⟩ => .p (.v (.bool (isS (mostS (remS gs pl.length) free pl sd ⟨best, most, left⟩))))) (fun ⟨fr2, pl2, b2, m2, l2⟩ => [(0, .box 64 [.p (.sl 3 (gs.map encGroup)), .h 1, .h 2, .h 3, .p (.v (.int .i64 m2)), .p (.v (.int .i64 l2))]), (1, .vec 2 1 (fr2.map encI)), (2, .vec 2 1 (pl2.map encI)), (3, .vec 2 1 (b2.map encI))]) := by
  have hgl := groups_len hok
  have hM : (gs.map encGroup).length = gs.length := List.length_map ..
  have hMp : (pl.map encI).length = pl.length := List.length_map ..
  have hdm : ∀ g ∈ gs.drop (pl.length + 1), 1 ≤ g.persons ∧ g.persons ≤ 40 := fun g hg => by obtain ⟨j, hj⟩ := List.getElem?_of_mem (List.mem_of_mem_drop hg); have := group_lim (groups_at hok hj); omega
  have hbl := sumP_lim hok (pl.length + 1)
  refine FnE.intro Try.func48 rfl Try.ntmps48 rfl rfl (fun w0 F0 η φ w => ?_)
  refine AC.seq ?_
  refine AC.region ?_
  refine AO.yld _ (Yld.assign rfl) rfl rfl rfl ?_
  refine AO.nil ?_
  refine AC.seq ?_
  refine AC.region ?_
  refine AO.yld _ (Yld.move rfl) rfl rfl rfl ?_
  refine AO.yld _ (Yld.nilCheck rfl rfl) rfl rfl rfl ?_
  refine AO.yld _ (Yld.fieldAddr Try.underlying64 rfl rfl Try.sizeOf23 rfl rfl rfl) rfl rfl rfl ?_
  refine AO.yld _ (Yld.load Try.isAgg23 rfl rfl) rfl rfl rfl ?_
  refine AO.yld _ (Yld.len Try.underlying23 rfl rfl) rfl rfl rfl ?_
  refine AO.yld _ (Yld.assign rfl) rfl rfl rfl ?_
  refine AO.nil ?_
  refine AC.seq ?_
  refine AC.seq ?_
  refine AC.region ?_
  refine AO.yld _ (Yld.move rfl) rfl rfl rfl ?_
  refine AO.yld _ (Yld.move rfl) rfl rfl rfl ?_
  refine AO.yld _ (Yld.nilCheck rfl rfl) rfl rfl rfl ?_
  refine AO.yld _ (Yld.fieldAddr Try.underlying64 rfl rfl Try.sizeOf27 rfl rfl rfl) rfl rfl rfl ?_
  refine AO.yld _ (Yld.load Try.isAgg27 rfl rfl) rfl rfl rfl ?_
  refine AO.yld _ (Yld.len Try.underlying27 rfl rfl) rfl rfl rfl ?_
  refine AO.yld _ (Yld.int rfl rfl rfl) rfl rfl rfl ?_
  refine AO.nil ?_
  refine AC.cond _ rfl (fun c20 => ?_) (fun c20 => ?_)
  · -- c20 True
    have hml : pl.length = gs.length := by have h := c20; rw [hM] at h; simp at h; omega
    have hS : (mostS (remS gs pl.length) free pl sd ⟨best, most, left⟩) = some ⟨pl, sd, left⟩ := by rw [hml, rem_nil]; rfl
    refine AC.seq ?_
    refine AC.region ?_
    refine AO.yld _ (Yld.move rfl) rfl rfl rfl ?_
    refine AO.yld _ (Yld.move rfl) rfl rfl rfl ?_
    refine AO.yld _ (Yld.move rfl) rfl rfl rfl ?_
    refine AO.yld _ (Yld.nilCheck rfl rfl) rfl rfl rfl ?_
    refine AO.yld _ (Yld.fieldAddr Try.underlying64 rfl rfl Try.sizeOf23 rfl rfl rfl) rfl rfl rfl ?_
    refine AO.yld _ (Yld.load Try.isAgg23 rfl rfl) rfl rfl rfl ?_
    refine AO.callW (wantedN rfl) [4] [] [0] rfl rfl Try.call43 rfl (cloneInt_c (by first | assumption | omega)) (.flat (.view rfl rfl .nil) (fun _ => by simp [AV.Flat, AV.FlatL, PV.Flat, PV.FlatL]) (fun _ => ⟨flat_map flatI _, trivial⟩)) rfl (fun _ => rfl) trivial rfl (fun _ => rfl) (fun _ => rfl) (fun _ _ => ?_)
    refine AO.yld _ (Yld.move rfl) rfl rfl rfl ?_
    refine AO.yld _ (Yld.nilCheck rfl rfl) rfl rfl rfl ?_
    refine AO.yld _ (Yld.fieldAddr Try.underlying64 rfl rfl Try.sizeOf23 rfl rfl rfl) rfl rfl rfl ?_
    refine AO.store Try.sizeOf23 rfl rfl rfl rfl rfl rfl ?_
    refine AO.yld _ (Yld.nilCheck rfl rfl) rfl rfl rfl ?_
    refine AO.yld _ (Yld.fieldAddr Try.underlying64 rfl rfl Try.sizeOf2 rfl rfl rfl) rfl rfl rfl ?_
    refine AO.store Try.sizeOf2 rfl rfl rfl rfl rfl rfl ?_
    refine AO.nil ?_
    refine AC.seq ?_
    refine AC.region ?_
    refine AO.yld _ (Yld.assign rfl) rfl rfl rfl ?_
    refine AO.nil ?_
    refine FnE.ret (free, pl, pl, sd, left) [0, 1, 2, 4] [0, 1, 2, 3] Try.results48 (RVs.cons (RV.tmp rfl) RVs.nil) rfl rfl rfl ?_ ?_ ⟨⟨_, rfl, ?_⟩, ⟨_, rfl, ?_⟩, ⟨_, rfl, ?_⟩, ⟨_, rfl, ?_⟩, trivial⟩
    · -- holds
      show MostR _ _ _ _ _ _ _ _; first | (rw [hS]; exact ⟨rfl, rfl, rfl, rfl⟩) | (rw [hS]; exact ⟨by first | rfl | (rw [hfr2114.1]; simp) | (rw [hfr2167.1]), trivial⟩) | (rw [hS, ht9]; exact ⟨rfl, rfl, rfl, rfl⟩) | fail
    · -- value
      refine congrArg (fun b => AV.p (PV.v (.bool b))) ?_
      first | (rw [hS]; rfl) | (rw [hS, ht9]; rfl) | fail
    · -- thing 0
      rfl
    · -- thing 1
      rfl
    · -- thing 2
      first | rfl | (rw [show pl.map encI = ((pl ++ [(-1 : Int)]).map encI).take pl.length by simp]; rfl)
    · -- thing 3
      rfl
  · -- c20 False
    have hml : pl.length < gs.length := by have h := c20; rw [hM] at h; simp at h; omega
    obtain ⟨g, hg⟩ := get_some hml
    have hrowG := map_row (enc := encGroup) hg
    have hgp := group_lim (groups_at hok hg)
    obtain ⟨M, hM9⟩ : ∃ M, mostLoop (mostS (remS gs (pl.length + 1))) g.persons (sumP (gs.drop (pl.length + 1))) free pl sd (free.length - 0) ⟨best, most, left⟩ = M := ⟨_, rfl⟩
    have hSE := mostS_cons hg hM9
    refine AC.skip ?_
    refine AC.seq ?_
    refine AC.region ?_
    refine AO.yld _ (Yld.move rfl) rfl rfl rfl ?_
    refine AO.yld _ (Yld.nilCheck rfl rfl) rfl rfl rfl ?_
    refine AO.yld _ (Yld.fieldAddr Try.underlying64 rfl rfl Try.sizeOf27 rfl rfl rfl) rfl rfl rfl ?_
    refine AO.yld _ (Yld.load Try.isAgg27 rfl rfl) rfl rfl rfl ?_
    refine AO.yld _ (Yld.move rfl) rfl rfl rfl ?_
    refine AO.yld _ (Yld.indexSl Try.underlying27 Try.sizeOf52 rfl rfl hrowG (by simp)) rfl rfl rfl ?_
    refine AO.yld _ (Yld.fieldAddr Try.underlying52 rfl rfl Try.sizeOf2 rfl rfl rfl) rfl rfl rfl ?_
    refine AO.yld _ (Yld.load Try.isAgg2 rfl rfl) rfl rfl rfl ?_
    refine AO.yld _ (Yld.assign rfl) rfl rfl rfl ?_
    refine AO.nil ?_
    refine AC.seq ?_
    refine AC.region ?_
    refine AO.yld _ (Yld.move rfl) rfl rfl rfl ?_
    refine AO.yld _ (Yld.nilCheck rfl rfl) rfl rfl rfl ?_
    refine AO.yld _ (Yld.fieldAddr Try.underlying64 rfl rfl Try.sizeOf27 rfl rfl rfl) rfl rfl rfl ?_
    refine AO.yld _ (Yld.load Try.isAgg27 rfl rfl) rfl rfl rfl ?_
    refine AO.yld _ (Yld.move rfl) rfl rfl rfl ?_
    refine AO.yld _ (Yld.add rfl rfl (by omega) (by omega)) rfl rfl rfl ?_
    refine AO.yld _ (Yld.sliceFrom (l := pl.length + 1) Try.underlying27 Try.sizeOf52 rfl rfl (by simp) (by omega)) rfl rfl rfl ?_
    refine AO.yld _ (Yld.call rfl rfl Try.call58 rfl rfl rfl (impl_personsOf_c (by first | assumption | (simp; omega) | omega) (by assumption)) rfl) rfl rfl rfl ?_
    refine AO.yld _ (Yld.assign rfl) rfl rfl rfl ?_
    refine AO.nil ?_
    refine AC.seq ?_
    refine AC.seq ?_
    refine AC.region ?_
    refine AO.yld _ (Yld.move rfl) rfl rfl rfl ?_
    refine AO.yld _ (Yld.nilCheck rfl rfl) rfl rfl rfl ?_
    refine AO.yld _ (Yld.fieldAddr Try.underlying64 rfl rfl Try.sizeOf23 rfl rfl rfl) rfl rfl rfl ?_
    refine AO.yld _ (Yld.load Try.isAgg23 rfl rfl) rfl rfl rfl ?_
    refine AO.yld _ (Yld.len Try.underlying23 rfl rfl) rfl rfl rfl ?_
    refine AO.yld _ (Yld.move rfl) rfl rfl rfl ?_
    refine AO.nil ?_
    refine AC.block ?_
    refine AC.loopC4 [(0, _), (1, _), (5, _), (6, _), (7, _), (53, _)] [(900, _)] (fun (k : Nat) (b : List Int) (mo l : Int) => [(54, .p (.v (.int .i64 (k : Int))))]) (fun (k : Nat) (b : List Int) (mo l : Int) => [(0, .box 64 [.p (.sl 3 (gs.map encGroup)), .h 1, .h 2, .h 3, .p (.v (.int .i64 mo)), .p (.v (.int .i64 l))]), (1, .vec 2 1 (free.map encI)), (2, .vec 2 1 (pl.map encI)), (3, .vec 2 1 (b.map encI))]) (fun (k : Nat) (b : List Int) (mo l : Int) => MostJ (mostS (remS gs (pl.length + 1))) g.persons (sumP (gs.drop (pl.length + 1))) free pl sd M k ⟨b, mo, l⟩) (fun (k : Nat) (b : List Int) (mo l : Int) => free.length - k) 0 best most left ⟨rfl, rfl, rfl, rfl, rfl, rfl, trivial⟩ ⟨rfl, trivial⟩ ⟨rfl, trivial⟩ ⟨rfl, rfl, rfl, rfl, trivial⟩ ?_ (fun k b mo l hJ => ?_)
    · exact ⟨Nat.zero_le _, hM9, hl.1, hl.2⟩
    · -- round
      have hJ1 := hJ.1
      have hJl : 0 ≤ l ∧ l ≤ 20000 := hJ.2.2
      refine AC.seq ?_
      refine AC.region ?_
      refine AO.yld _ (Yld.int rfl rfl rfl) rfl rfl rfl ?_
      refine AO.nil ?_
      refine AC.seq ?_
      refine AC.cond _ rfl (fun c55 => ?_) (fun c55 => ?_)
      · -- c55 True
        have hk : k < free.length := by simpa using c55
        obtain ⟨z, hz⟩ := get_some hk
        have hrow := map_row (enc := encI) hz
        have hrow2 : ((free.set k (z - g.persons)).map encI)[k]? = some (encI (z - g.persons)) := map_row (by simp [hk])
        have hzr : 0 ≤ z ∧ z ≤ 40 := by have h := all_at hfree hz; simpa [okRow] using h
        refine AC.skip ?_
        refine AC.seq ?_
        refine AC.block ?_
        refine AC.seq ?_
        refine AC.region ?_
        refine AO.yld _ (Yld.move rfl) rfl rfl rfl ?_
        refine AO.yld _ (Yld.assign rfl) rfl rfl rfl ?_
        refine AO.nil ?_
        refine AC.seq ?_
        refine AC.seq ?_
        refine AC.region ?_
        refine AO.yld _ (Yld.move rfl) rfl rfl rfl ?_
        refine AO.yld _ (Yld.nilCheck rfl rfl) rfl rfl rfl ?_
        refine AO.yld _ (Yld.fieldAddr Try.underlying64 rfl rfl Try.sizeOf23 rfl rfl rfl) rfl rfl rfl ?_
        refine AO.yld _ (Yld.load Try.isAgg23 rfl rfl) rfl rfl rfl ?_
        refine AO.yld _ (Yld.move rfl) rfl rfl rfl ?_
        refine AO.yld _ (Yld.indexVec Try.underlying23 Try.sizeOf2 rfl rfl rfl rfl (by first | (simpa using hk) | (simp only [List.length_set, List.length_map]; exact hk))) rfl rfl rfl ?_
        refine AO.yld _ (Yld.load Try.isAgg2 rfl (Eq.trans (behind_el rfl hrow) rfl)) rfl rfl rfl ?_
        refine AO.yld _ (Yld.move rfl) rfl rfl rfl ?_
        refine AO.yld _ (Yld.int rfl rfl rfl) rfl rfl rfl ?_
        refine AO.yld _ (Yld.move rfl) rfl rfl rfl ?_
        refine AO.splitAt 66 _ rfl (fun s66 => ?_) (fun s66 => ?_)
        · -- s66 True
          have hsk : z < g.persons ∨ sd + g.persons + (sumP (gs.drop (pl.length + 1))) ≤ mo := .inl (by simpa using s66)
          obtain ⟨nb, hnb⟩ : ∃ nb, nb = b := ⟨_, rfl⟩
          obtain ⟨nm, hnm⟩ : ∃ nm, nm = mo := ⟨_, rfl⟩
          obtain ⟨nl, hnl⟩ : ∃ nl, nl = l := ⟨_, rfl⟩
          have hJn : MostJ (mostS (remS gs (pl.length + 1))) g.persons (sumP (gs.drop (pl.length + 1))) free pl sd M (k + 1) ⟨nb, nm, nl⟩ := by rw [hnb, hnm, hnl]; exact mostJ_skip hJ hz hsk
          refine AO.skipF rfl rfl rfl rfl rfl ?_
          refine AO.skipF rfl rfl rfl rfl rfl ?_
          refine AO.skipF rfl rfl rfl rfl rfl ?_
          refine AO.skipF rfl rfl rfl rfl rfl ?_
          refine AO.skipF rfl rfl rfl rfl rfl ?_
          refine AO.skipF rfl rfl rfl rfl rfl ?_
          refine AO.skipF rfl rfl rfl rfl rfl ?_
          refine AO.skipF rfl rfl rfl rfl rfl ?_
          refine AO.skipF rfl rfl rfl rfl rfl ?_
          refine AO.skipF rfl rfl rfl rfl rfl ?_
          refine AO.yld _ (Yld.pickT rfl rfl) rfl rfl rfl ?_
          refine AO.nil ?_
          refine AC.condT rfl ?_
          refine AC.exit rfl ?_
          refine AC.region ?_
          refine AO.yld _ (Yld.add rfl rfl (by omega) (by omega)) rfl rfl rfl ?_
          refine AO.yld _ (Yld.move rfl) rfl rfl rfl ?_
          refine AO.nil ?_
          refine AC.back ⟨k + 1, nb, nm, nl, ?_, ?_, ⟨?_, trivial⟩, ⟨?_, ?_, ?_, ?_, trivial⟩, ⟨rfl, rfl, rfl, rfl, rfl, rfl, trivial⟩, ⟨rfl, trivial⟩⟩
          · exact hJn
          · omega
          · rfl
          · first | (subst hnm hnl; rfl) | rfl
          · first | rfl | (rw [rows_back (y := g.persons) hz]; rfl)
          · first | rfl | (rw [show pl.map encI = ((pl ++ [(k : Int)]).map encI).take pl.length by simp]; rfl)
          · first | (subst hnb; rfl) | rfl
        · -- s66 False
          have hzp : ¬ z < g.persons := by simpa using s66
          refine AO.yldG _ (Yld.move rfl) rfl rfl rfl rfl rfl ?_
          refine AO.yldG _ (Yld.move rfl) rfl rfl rfl rfl rfl ?_
          refine AO.yldG _ (Yld.add rfl rfl (by omega) (by omega)) rfl rfl rfl rfl rfl ?_
          refine AO.yldG _ (Yld.move rfl) rfl rfl rfl rfl rfl ?_
          refine AO.yldG _ (Yld.add rfl rfl (by omega) (by omega)) rfl rfl rfl rfl rfl ?_
          refine AO.yldG _ (Yld.move rfl) rfl rfl rfl rfl rfl ?_
          refine AO.yldG _ (Yld.nilCheck rfl rfl) rfl rfl rfl rfl rfl ?_
          refine AO.yldG _ (Yld.fieldAddr Try.underlying64 rfl rfl Try.sizeOf2 rfl rfl rfl) rfl rfl rfl rfl rfl ?_
          refine AO.yldG _ (Yld.load Try.isAgg2 rfl rfl) rfl rfl rfl rfl rfl ?_
          refine AO.yldG _ (Yld.int rfl rfl rfl) rfl rfl rfl rfl rfl ?_
          refine AO.yld _ (Yld.pickF rfl rfl) rfl rfl rfl ?_
          refine AO.nil ?_
          refine AC.cond _ rfl (fun c77 => ?_) (fun c77 => ?_)
          · -- c77 True
            have hsk : z < g.persons ∨ sd + g.persons + (sumP (gs.drop (pl.length + 1))) ≤ mo := .inr (by simpa using c77)
            obtain ⟨nb, hnb⟩ : ∃ nb, nb = b := ⟨_, rfl⟩
            obtain ⟨nm, hnm⟩ : ∃ nm, nm = mo := ⟨_, rfl⟩
            obtain ⟨nl, hnl⟩ : ∃ nl, nl = l := ⟨_, rfl⟩
            have hJn : MostJ (mostS (remS gs (pl.length + 1))) g.persons (sumP (gs.drop (pl.length + 1))) free pl sd M (k + 1) ⟨nb, nm, nl⟩ := by rw [hnb, hnm, hnl]; exact mostJ_skip hJ hz hsk
            refine AC.exit rfl ?_
            refine AC.region ?_
            refine AO.yld _ (Yld.add rfl rfl (by omega) (by omega)) rfl rfl rfl ?_
            refine AO.yld _ (Yld.move rfl) rfl rfl rfl ?_
            refine AO.nil ?_
            refine AC.back ⟨k + 1, nb, nm, nl, ?_, ?_, ⟨?_, trivial⟩, ⟨?_, ?_, ?_, ?_, trivial⟩, ⟨rfl, rfl, rfl, rfl, rfl, rfl, trivial⟩, ⟨rfl, trivial⟩⟩
            · exact hJn
            · omega
            · rfl
            · first | (subst hnm hnl; rfl) | rfl
            · first | rfl | (rw [rows_back (y := g.persons) hz]; rfl)
            · first | rfl | (rw [show pl.map encI = ((pl ++ [(k : Int)]).map encI).take pl.length by simp]; rfl)
            · first | (subst hnb; rfl) | rfl
          · -- c77 False
            have hbd : ¬ sd + g.persons + (sumP (gs.drop (pl.length + 1))) ≤ mo := by simpa using c77
            refine AC.skip ?_
            refine AC.seq ?_
            refine AC.seq ?_
            refine AC.region ?_
            refine AO.yld _ (Yld.move rfl) rfl rfl rfl ?_
            refine AO.yld _ (Yld.nilCheck rfl rfl) rfl rfl rfl ?_
            refine AO.yld _ (Yld.fieldAddr Try.underlying64 rfl rfl Try.sizeOf2 rfl rfl rfl) rfl rfl rfl ?_
            refine AO.yld _ (Yld.load Try.isAgg2 rfl rfl) rfl rfl rfl ?_
            refine AO.yld _ (Yld.int rfl rfl rfl) rfl rfl rfl ?_
            refine AO.nil ?_
            refine AC.cond _ rfl (fun c82 => ?_) (fun c82 => ?_)
            · -- c82 True
              have hl0 : l = 0 := by simpa using c82
              have hS : (mostS (remS gs pl.length) free pl sd ⟨best, most, left⟩) = none := by rw [hSE, mostJ_full hJ hz hzp hbd hl0]; rfl
              refine AC.seq ?_
              refine AC.region ?_
              refine AO.yld _ (Yld.assign rfl) rfl rfl rfl ?_
              refine AO.nil ?_
              refine FnE.ret (free, pl, b, mo, l) [0, 1, 2, 3] [0, 1, 2, 3] Try.results48 (RVs.cons (RV.tmp rfl) RVs.nil) rfl rfl rfl ?_ ?_ ⟨⟨_, rfl, ?_⟩, ⟨_, rfl, ?_⟩, ⟨_, rfl, ?_⟩, ⟨_, rfl, ?_⟩, trivial⟩
              · -- holds
                show MostR _ _ _ _ _ _ _ _; first | (rw [hS]; exact ⟨rfl, rfl, rfl, rfl⟩) | (rw [hS]; exact ⟨by first | rfl | (rw [hfr2114.1]; simp) | (rw [hfr2167.1]), trivial⟩) | (rw [hS, ht9]; exact ⟨rfl, rfl, rfl, rfl⟩) | fail
              · -- value
                refine congrArg (fun b => AV.p (PV.v (.bool b))) ?_
                first | (rw [hS]; rfl) | (rw [hS, ht9]; rfl) | fail
              · -- thing 0
                rfl
              · -- thing 1
                rfl
              · -- thing 2
                first | rfl | (rw [show pl.map encI = ((pl ++ [(-1 : Int)]).map encI).take pl.length by simp]; rfl)
              · -- thing 3
                rfl
            · -- c82 False
              have hl0 : l ≠ 0 := by simpa using c82
              have hpk : (pl ++ [(k : Int)]).length = pl.length + 1 := by simp
              have eSR : (mostS (remS gs (pl ++ [(k : Int)]).length) (free.set k (z - g.persons)) (pl ++ [(k : Int)]) (sd + g.persons) ⟨b, mo, l - 1⟩) = (mostS (remS gs (pl.length + 1))) (free.set k (z - g.persons)) (pl ++ [(k : Int)]) (sd + g.persons) ⟨b, mo, l - 1⟩ := by rw [hpk]
              have hset : (free.set k (z - g.persons)).all okRow = true := rows_set hfree (by simp [okRow]; omega)
              refine AC.skip ?_
              refine AC.seq ?_
              refine AC.region ?_
              refine AO.yld _ (Yld.move rfl) rfl rfl rfl ?_
              refine AO.yld _ (Yld.nilCheck rfl rfl) rfl rfl rfl ?_
              refine AO.yld _ (Yld.fieldAddr Try.underlying64 rfl rfl Try.sizeOf2 rfl rfl rfl) rfl rfl rfl ?_
              refine AO.yld _ (Yld.load Try.isAgg2 rfl rfl) rfl rfl rfl ?_
              refine AO.yld _ (Yld.sub rfl rfl (by omega) (by omega)) rfl rfl rfl ?_
              refine AO.yld _ (Yld.nilCheck rfl rfl) rfl rfl rfl ?_
              refine AO.yld _ (Yld.fieldAddr Try.underlying64 rfl rfl Try.sizeOf2 rfl rfl rfl) rfl rfl rfl ?_
              refine AO.store Try.sizeOf2 rfl rfl rfl rfl rfl rfl ?_
              refine AO.nil ?_
              refine AC.seq ?_
              refine AC.region ?_
              refine AO.yld _ (Yld.move rfl) rfl rfl rfl ?_
              refine AO.yld _ (Yld.nilCheck rfl rfl) rfl rfl rfl ?_
              refine AO.yld _ (Yld.fieldAddr Try.underlying64 rfl rfl Try.sizeOf23 rfl rfl rfl) rfl rfl rfl ?_
              refine AO.yld _ (Yld.load Try.isAgg23 rfl rfl) rfl rfl rfl ?_
              refine AO.yld _ (Yld.move rfl) rfl rfl rfl ?_
              refine AO.yld _ (Yld.indexVec Try.underlying23 Try.sizeOf2 rfl rfl rfl rfl (by first | (simpa using hk) | (simp only [List.length_set, List.length_map]; exact hk))) rfl rfl rfl ?_
              refine AO.yld _ (Yld.load Try.isAgg2 rfl (Eq.trans (behind_el rfl hrow) rfl)) rfl rfl rfl ?_
              refine AO.yld _ (Yld.move rfl) rfl rfl rfl ?_
              refine AO.yld _ (Yld.sub rfl rfl (by omega) (by omega)) rfl rfl rfl ?_
              refine AO.yld _ (Yld.indexVec Try.underlying23 Try.sizeOf2 rfl rfl rfl rfl (by first | (simpa using hk) | (simp only [List.length_set, List.length_map]; exact hk))) rfl rfl rfl ?_
              refine AO.store Try.sizeOf2 rfl rfl rfl rfl rfl (store_el rfl hrow rfl rfl) ?_
              refine AO.nil ?_
              refine AC.seq ?_
              refine AC.region ?_
              refine AO.yld _ (Yld.move rfl) rfl rfl rfl ?_
              refine AO.yld _ (Yld.move rfl) rfl rfl rfl ?_
              refine AO.yld _ (Yld.nilCheck rfl rfl) rfl rfl rfl ?_
              refine AO.yld _ (Yld.fieldAddr Try.underlying64 rfl rfl Try.sizeOf23 rfl rfl rfl) rfl rfl rfl ?_
              refine AO.yld _ (Yld.load Try.isAgg23 rfl rfl) rfl rfl rfl ?_
              refine AO.yld _ (Yld.move rfl) rfl rfl rfl ?_
              refine AO.buildSlice (rows := [[_]]) 4 Try.underlying23 ty2 rfl rfl rfl rfl rfl rfl rfl rfl rfl ?_
              refine AO.append 2 Try.underlying23 ty2 rfl rfl rfl rfl rfl rfl rfl (by simp [pvOne]) (by simp only [List.length_map, List.length_cons, List.length_nil]; omega) (by simp only [List.length_map, List.length_cons, List.length_nil]; omega) rfl ?_
              refine AO.yld _ (Yld.nilCheck rfl rfl) rfl rfl rfl ?_
              refine AO.yld _ (Yld.fieldAddr Try.underlying64 rfl rfl Try.sizeOf23 rfl rfl rfl) rfl rfl rfl ?_
              refine AO.store Try.sizeOf23 rfl rfl rfl rfl rfl rfl ?_
              refine AO.nil ?_
              refine AC.seq ?_
              refine AC.seq ?_
              refine AC.region ?_
              refine AO.yld _ (Yld.move rfl) rfl rfl rfl ?_
              refine AO.vecEq 1 ((free.set k (z - g.persons)).map encI) rfl int_set ?_
              refine AO.vecEq 2 ((pl ++ [(k : Int)]).map encI) rfl int_snoc ?_
              refine AO.yld _ (Yld.move rfl) rfl rfl rfl ?_
              refine AO.yld _ (Yld.move rfl) rfl rfl rfl ?_
              refine AO.yld _ (Yld.add rfl rfl (by omega) (by omega)) rfl rfl rfl ?_
              refine AO.callW (wantedN rfl) [0, 1, 2, 3] [0, 1, 2, 3] [0, 1, 2, 3] rfl rfl Try.call48 rfl (ih (free := free.set k (z - g.persons)) (pl := pl ++ [(k : Int)]) (best := b) (sd := sd + g.persons) (most := mo) (left := l - 1) (by simp [hpl]) hset (by simpa using hfl) (by omega) (by simp; omega) (by omega)) (.own rfl) rfl (fun ⟨_, _, _, _, _⟩ => rfl) ⟨rfl, rfl, rfl, rfl, trivial⟩ rfl (fun ⟨_, _, _, _, _⟩ => rfl) (fun ⟨_, _, _, _, _⟩ => rfl) (fun ⟨fr2114, pl2114, b2114, m2114, l2114⟩ hfr2114 => ?_)
              dsimp only at hfr2114
              refine AO.yld _ (Yld.not rfl) rfl rfl rfl ?_
              refine AO.nil ?_
              refine AC.cond _ rfl (fun c115 => ?_) (fun c115 => ?_)
              · -- c115 True
                have hS : (mostS (remS gs pl.length) free pl sd ⟨best, most, left⟩) = none := by rw [hSE, mostJ_fail hJ hz hzp hbd hl0 (by rw [← eSR]; exact isS_none (by simpa using c115))]; rfl
                refine AC.seq ?_
                refine AC.region ?_
                refine AO.yld _ (Yld.assign rfl) rfl rfl rfl ?_
                refine AO.nil ?_
                refine FnE.ret (fr2114, pl2114, b2114, m2114, l2114) [0, 1, 2, 3] [0, 1, 2, 3] Try.results48 (RVs.cons (RV.tmp rfl) RVs.nil) rfl rfl rfl ?_ ?_ ⟨⟨_, rfl, ?_⟩, ⟨_, rfl, ?_⟩, ⟨_, rfl, ?_⟩, ⟨_, rfl, ?_⟩, trivial⟩
                · -- holds
                  show MostR _ _ _ _ _ _ _ _; first | (rw [hS]; exact ⟨rfl, rfl, rfl, rfl⟩) | (rw [hS]; exact ⟨by first | rfl | (rw [hfr2114.1]; simp) | (rw [hfr2167.1]), trivial⟩) | (rw [hS, ht9]; exact ⟨rfl, rfl, rfl, rfl⟩) | fail
                · -- value
                  refine congrArg (fun b => AV.p (PV.v (.bool b))) ?_
                  first | (rw [hS]; rfl) | (rw [hS, ht9]; rfl) | fail
                · -- thing 0
                  rfl
                · -- thing 1
                  rfl
                · -- thing 2
                  first | rfl | (rw [show pl.map encI = ((pl ++ [(-1 : Int)]).map encI).take pl.length by simp]; rfl)
                · -- thing 3
                  rfl
              · -- c115 False
                obtain ⟨rfl, rfl, hJn9⟩ := mostJ_next hJ (fun _ _ _ _ _ => mostS_left _ _ _ _ _ _) hz hzp hbd hl0 (by rw [← eSR]; exact hfr2114) (by rw [← eSR]; simpa using c115)
                obtain ⟨nb, hnb⟩ : ∃ nb, nb = b2114 := ⟨_, rfl⟩
                obtain ⟨nm, hnm⟩ : ∃ nm, nm = m2114 := ⟨_, rfl⟩
                obtain ⟨nl, hnl⟩ : ∃ nl, nl = l2114 := ⟨_, rfl⟩
                have hJn : MostJ (mostS (remS gs (pl.length + 1))) g.persons (sumP (gs.drop (pl.length + 1))) free pl sd M (k + 1) ⟨nb, nm, nl⟩ := by rw [hnb, hnm, hnl]; exact hJn9
                refine AC.skip ?_
                refine AC.seq ?_
                refine AC.region ?_
                refine AO.yld _ (Yld.move rfl) rfl rfl rfl ?_
                refine AO.yld _ (Yld.move rfl) rfl rfl rfl ?_
                refine AO.yld _ (Yld.nilCheck rfl rfl) rfl rfl rfl ?_
                refine AO.yld _ (Yld.fieldAddr Try.underlying64 rfl rfl Try.sizeOf23 rfl rfl rfl) rfl rfl rfl ?_
                refine AO.yld _ (Yld.load Try.isAgg23 rfl rfl) rfl rfl rfl ?_
                refine AO.yld _ (Yld.move rfl) rfl rfl rfl ?_
                refine AO.truncate 2 Try.underlying23 Try.sizeOf2 rfl rfl (.some (n := pl.length) rfl (by simp)) (by simp) rfl ?_
                refine AO.yld _ (Yld.nilCheck rfl rfl) rfl rfl rfl ?_
                refine AO.yld _ (Yld.fieldAddr Try.underlying64 rfl rfl Try.sizeOf23 rfl rfl rfl) rfl rfl rfl ?_
                refine AO.store Try.sizeOf23 rfl rfl rfl rfl rfl rfl ?_
                refine AO.nil ?_
                refine AC.region ?_
                refine AO.yld _ (Yld.move rfl) rfl rfl rfl ?_
                refine AO.yld _ (Yld.nilCheck rfl rfl) rfl rfl rfl ?_
                refine AO.yld _ (Yld.fieldAddr Try.underlying64 rfl rfl Try.sizeOf23 rfl rfl rfl) rfl rfl rfl ?_
                refine AO.yld _ (Yld.load Try.isAgg23 rfl rfl) rfl rfl rfl ?_
                refine AO.yld _ (Yld.move rfl) rfl rfl rfl ?_
                refine AO.yld _ (Yld.indexVec Try.underlying23 Try.sizeOf2 rfl rfl rfl rfl (by first | (simpa using hk) | (simp only [List.length_set, List.length_map]; exact hk))) rfl rfl rfl ?_
                refine AO.yld _ (Yld.load Try.isAgg2 rfl (Eq.trans (behind_el rfl hrow2) rfl)) rfl rfl rfl ?_
                refine AO.yld _ (Yld.move rfl) rfl rfl rfl ?_
                refine AO.yld _ (Yld.add rfl rfl (by omega) (by omega)) rfl rfl rfl ?_
                refine AO.yld _ (Yld.indexVec Try.underlying23 Try.sizeOf2 rfl rfl rfl rfl (by first | (simpa using hk) | (simp only [List.length_set, List.length_map]; exact hk))) rfl rfl rfl ?_
                refine AO.store Try.sizeOf2 rfl rfl rfl rfl rfl (store_el rfl hrow2 rfl rfl) ?_
                refine AO.nil ?_
                refine AC.mark ?_
                refine AC.region ?_
                refine AO.yld _ (Yld.add rfl rfl (by omega) (by omega)) rfl rfl rfl ?_
                refine AO.yld _ (Yld.move rfl) rfl rfl rfl ?_
                refine AO.nil ?_
                refine AC.back ⟨k + 1, nb, nm, nl, ?_, ?_, ⟨?_, trivial⟩, ⟨?_, ?_, ?_, ?_, trivial⟩, ⟨rfl, rfl, rfl, rfl, rfl, rfl, trivial⟩, ⟨rfl, trivial⟩⟩
                · exact hJn
                · omega
                · rfl
                · first | (subst hnm hnl; rfl) | rfl
                · first | rfl | (rw [rows_back (y := g.persons) hz]; rfl)
                · first | rfl | (rw [show pl.map encI = ((pl ++ [(k : Int)]).map encI).take pl.length by simp]; rfl)
                · first | (subst hnb; rfl) | rfl
      · -- c55 False
        obtain rfl : k = free.length := by have h := c55; simp at h; omega
        have hE := mostJ_end hJ
        subst hE
        refine AC.exit rfl ?_
        refine AC.seq ?_
        refine AC.seq ?_
        refine AC.region ?_
        refine AO.yld _ (Yld.move rfl) rfl rfl rfl ?_
        refine AO.yld _ (Yld.move rfl) rfl rfl rfl ?_
        refine AO.yld _ (Yld.add rfl rfl (by omega) (by omega)) rfl rfl rfl ?_
        refine AO.yld _ (Yld.move rfl) rfl rfl rfl ?_
        refine AO.yld _ (Yld.nilCheck rfl rfl) rfl rfl rfl ?_
        refine AO.yld _ (Yld.fieldAddr Try.underlying64 rfl rfl Try.sizeOf2 rfl rfl rfl) rfl rfl rfl ?_
        refine AO.yld _ (Yld.load Try.isAgg2 rfl rfl) rfl rfl rfl ?_
        refine AO.yld _ (Yld.int rfl rfl rfl) rfl rfl rfl ?_
        refine AO.nil ?_
        refine AC.cond _ rfl (fun c143 => ?_) (fun c143 => ?_)
        · -- c143 True
          have hbd : sd + (sumP (gs.drop (pl.length + 1))) ≤ mo := by simpa using c143
          have hS : (mostS (remS gs pl.length) free pl sd ⟨best, most, left⟩) = some ⟨b, mo, l⟩ := by rw [hSE]; simp only [afterL]; rw [if_pos hbd]
          refine AC.seq ?_
          refine AC.region ?_
          refine AO.yld _ (Yld.assign rfl) rfl rfl rfl ?_
          refine AO.nil ?_
          refine FnE.ret (free, pl, b, mo, l) [0, 1, 2, 3] [0, 1, 2, 3] Try.results48 (RVs.cons (RV.tmp rfl) RVs.nil) rfl rfl rfl ?_ ?_ ⟨⟨_, rfl, ?_⟩, ⟨_, rfl, ?_⟩, ⟨_, rfl, ?_⟩, ⟨_, rfl, ?_⟩, trivial⟩
          · -- holds
            show MostR _ _ _ _ _ _ _ _; first | (rw [hS]; exact ⟨rfl, rfl, rfl, rfl⟩) | (rw [hS]; exact ⟨by first | rfl | (rw [hfr2114.1]; simp) | (rw [hfr2167.1]), trivial⟩) | (rw [hS, ht9]; exact ⟨rfl, rfl, rfl, rfl⟩) | fail
          · -- value
            refine congrArg (fun b => AV.p (PV.v (.bool b))) ?_
            first | (rw [hS]; rfl) | (rw [hS, ht9]; rfl) | fail
          · -- thing 0
            rfl
          · -- thing 1
            rfl
          · -- thing 2
            first | rfl | (rw [show pl.map encI = ((pl ++ [(-1 : Int)]).map encI).take pl.length by simp]; rfl)
          · -- thing 3
            rfl
        · -- c143 False
          have hbd : ¬ sd + (sumP (gs.drop (pl.length + 1))) ≤ mo := by simpa using c143
          refine AC.skip ?_
          refine AC.seq ?_
          refine AC.seq ?_
          refine AC.region ?_
          refine AO.yld _ (Yld.move rfl) rfl rfl rfl ?_
          refine AO.yld _ (Yld.nilCheck rfl rfl) rfl rfl rfl ?_
          refine AO.yld _ (Yld.fieldAddr Try.underlying64 rfl rfl Try.sizeOf2 rfl rfl rfl) rfl rfl rfl ?_
          refine AO.yld _ (Yld.load Try.isAgg2 rfl rfl) rfl rfl rfl ?_
          refine AO.yld _ (Yld.int rfl rfl rfl) rfl rfl rfl ?_
          refine AO.nil ?_
          refine AC.cond _ rfl (fun c148 => ?_) (fun c148 => ?_)
          · -- c148 True
            have hl0 : l = 0 := by simpa using c148
            have hS : (mostS (remS gs pl.length) free pl sd ⟨best, most, left⟩) = none := by rw [hSE]; simp only [afterL]; rw [if_neg hbd, if_pos hl0]
            refine AC.seq ?_
            refine AC.region ?_
            refine AO.yld _ (Yld.assign rfl) rfl rfl rfl ?_
            refine AO.nil ?_
            refine FnE.ret (free, pl, b, mo, l) [0, 1, 2, 3] [0, 1, 2, 3] Try.results48 (RVs.cons (RV.tmp rfl) RVs.nil) rfl rfl rfl ?_ ?_ ⟨⟨_, rfl, ?_⟩, ⟨_, rfl, ?_⟩, ⟨_, rfl, ?_⟩, ⟨_, rfl, ?_⟩, trivial⟩
            · -- holds
              show MostR _ _ _ _ _ _ _ _; first | (rw [hS]; exact ⟨rfl, rfl, rfl, rfl⟩) | (rw [hS]; exact ⟨by first | rfl | (rw [hfr2114.1]; simp) | (rw [hfr2167.1]), trivial⟩) | (rw [hS, ht9]; exact ⟨rfl, rfl, rfl, rfl⟩) | fail
            · -- value
              refine congrArg (fun b => AV.p (PV.v (.bool b))) ?_
              first | (rw [hS]; rfl) | (rw [hS, ht9]; rfl) | fail
            · -- thing 0
              rfl
            · -- thing 1
              rfl
            · -- thing 2
              first | rfl | (rw [show pl.map encI = ((pl ++ [(-1 : Int)]).map encI).take pl.length by simp]; rfl)
            · -- thing 3
              rfl
          · -- c148 False
            have hl0 : l ≠ 0 := by simpa using c148
            have hpk : (pl ++ [(-1 : Int)]).length = pl.length + 1 := by simp
            have hS9 : (mostS (remS gs pl.length) free pl sd ⟨best, most, left⟩) = (mostS (remS gs (pl ++ [(-1 : Int)]).length) free (pl ++ [(-1 : Int)]) sd ⟨b, mo, l - 1⟩) := by rw [hSE]; simp only [afterL]; rw [if_neg hbd, if_neg hl0, hpk]
            refine AC.skip ?_
            refine AC.seq ?_
            refine AC.region ?_
            refine AO.yld _ (Yld.move rfl) rfl rfl rfl ?_
            refine AO.yld _ (Yld.nilCheck rfl rfl) rfl rfl rfl ?_
            refine AO.yld _ (Yld.fieldAddr Try.underlying64 rfl rfl Try.sizeOf2 rfl rfl rfl) rfl rfl rfl ?_
            refine AO.yld _ (Yld.load Try.isAgg2 rfl rfl) rfl rfl rfl ?_
            refine AO.yld _ (Yld.sub rfl rfl (by omega) (by omega)) rfl rfl rfl ?_
            refine AO.yld _ (Yld.nilCheck rfl rfl) rfl rfl rfl ?_
            refine AO.yld _ (Yld.fieldAddr Try.underlying64 rfl rfl Try.sizeOf2 rfl rfl rfl) rfl rfl rfl ?_
            refine AO.store Try.sizeOf2 rfl rfl rfl rfl rfl rfl ?_
            refine AO.nil ?_
            refine AC.seq ?_
            refine AC.region ?_
            refine AO.yld _ (Yld.move rfl) rfl rfl rfl ?_
            refine AO.yld _ (Yld.move rfl) rfl rfl rfl ?_
            refine AO.yld _ (Yld.nilCheck rfl rfl) rfl rfl rfl ?_
            refine AO.yld _ (Yld.fieldAddr Try.underlying64 rfl rfl Try.sizeOf23 rfl rfl rfl) rfl rfl rfl ?_
            refine AO.yld _ (Yld.load Try.isAgg23 rfl rfl) rfl rfl rfl ?_
            refine AO.buildSlice (rows := [[_]]) 4 Try.underlying23 ty2 rfl rfl rfl rfl rfl rfl rfl rfl rfl ?_
            refine AO.append 2 Try.underlying23 ty2 rfl rfl rfl rfl rfl rfl rfl (by simp [pvOne]) (by simp only [List.length_map, List.length_cons, List.length_nil]; omega) (by simp only [List.length_map, List.length_cons, List.length_nil]; omega) rfl ?_
            refine AO.yld _ (Yld.nilCheck rfl rfl) rfl rfl rfl ?_
            refine AO.yld _ (Yld.fieldAddr Try.underlying64 rfl rfl Try.sizeOf23 rfl rfl rfl) rfl rfl rfl ?_
            refine AO.store Try.sizeOf23 rfl rfl rfl rfl rfl rfl ?_
            refine AO.nil ?_
            refine AC.seq ?_
            refine AC.seq ?_
            refine AC.region ?_
            refine AO.yld _ (Yld.move rfl) rfl rfl rfl ?_
            refine AO.vecEq 2 ((pl ++ [(-1 : Int)]).map encI) rfl int_snoc ?_
            refine AO.yld _ (Yld.move rfl) rfl rfl rfl ?_
            refine AO.callW (wantedN rfl) [0, 1, 2, 3] [0, 1, 2, 3] [0, 1, 2, 3] rfl rfl Try.call48 rfl (ih (free := free) (pl := pl ++ [(-1 : Int)]) (best := b) (sd := sd) (most := mo) (left := l - 1) (by simp [hpl]) hfree hfl (by omega) (by simp; omega) (by omega)) (.own rfl) rfl (fun ⟨_, _, _, _, _⟩ => rfl) ⟨rfl, rfl, rfl, rfl, trivial⟩ rfl (fun ⟨_, _, _, _, _⟩ => rfl) (fun ⟨_, _, _, _, _⟩ => rfl) (fun ⟨fr2167, pl2167, b2167, m2167, l2167⟩ hfr2167 => ?_)
            dsimp only at hfr2167
            refine AO.yld _ (Yld.not rfl) rfl rfl rfl ?_
            refine AO.nil ?_
            refine AC.cond _ rfl (fun c168 => ?_) (fun c168 => ?_)
            · -- c168 True
              have hS : (mostS (remS gs pl.length) free pl sd ⟨best, most, left⟩) = none := by rw [hS9]; exact isS_none (by simpa using c168)
              refine AC.seq ?_
              refine AC.region ?_
              refine AO.yld _ (Yld.assign rfl) rfl rfl rfl ?_
              refine AO.nil ?_
              refine FnE.ret (fr2167, pl2167, b2167, m2167, l2167) [0, 1, 2, 3] [0, 1, 2, 3] Try.results48 (RVs.cons (RV.tmp rfl) RVs.nil) rfl rfl rfl ?_ ?_ ⟨⟨_, rfl, ?_⟩, ⟨_, rfl, ?_⟩, ⟨_, rfl, ?_⟩, ⟨_, rfl, ?_⟩, trivial⟩
              · -- holds
                show MostR _ _ _ _ _ _ _ _; first | (rw [hS]; exact ⟨rfl, rfl, rfl, rfl⟩) | (rw [hS]; exact ⟨by first | rfl | (rw [hfr2114.1]; simp) | (rw [hfr2167.1]), trivial⟩) | (rw [hS, ht9]; exact ⟨rfl, rfl, rfl, rfl⟩) | fail
              · -- value
                refine congrArg (fun b => AV.p (PV.v (.bool b))) ?_
                first | (rw [hS]; rfl) | (rw [hS, ht9]; rfl) | fail
              · -- thing 0
                rfl
              · -- thing 1
                rfl
              · -- thing 2
                first | rfl | (rw [show pl.map encI = ((pl ++ [(-1 : Int)]).map encI).take pl.length by simp]; rfl)
              · -- thing 3
                rfl
            · -- c168 False
              have hS := hS9
              obtain ⟨t9, ht9⟩ := isS_some (s := (mostS (remS gs (pl ++ [(-1 : Int)]).length) free (pl ++ [(-1 : Int)]) sd ⟨b, mo, l - 1⟩)) (by simpa using c168)
              have hR9 := hfr2167.2
              rw [ht9] at hR9
              obtain ⟨e91, rfl, rfl⟩ := hR9
              have e92 := e91.symm
              subst e92
              refine AC.skip ?_
              refine AC.seq ?_
              refine AC.region ?_
              refine AO.yld _ (Yld.move rfl) rfl rfl rfl ?_
              refine AO.yld _ (Yld.move rfl) rfl rfl rfl ?_
              refine AO.yld _ (Yld.nilCheck rfl rfl) rfl rfl rfl ?_
              refine AO.yld _ (Yld.fieldAddr Try.underlying64 rfl rfl Try.sizeOf23 rfl rfl rfl) rfl rfl rfl ?_
              refine AO.yld _ (Yld.load Try.isAgg23 rfl rfl) rfl rfl rfl ?_
              refine AO.yld _ (Yld.move rfl) rfl rfl rfl ?_
              refine AO.truncate 2 Try.underlying23 Try.sizeOf2 rfl rfl (.some (n := pl.length) rfl (by simp)) (by simp) rfl ?_
              refine AO.yld _ (Yld.nilCheck rfl rfl) rfl rfl rfl ?_
              refine AO.yld _ (Yld.fieldAddr Try.underlying64 rfl rfl Try.sizeOf23 rfl rfl rfl) rfl rfl rfl ?_
              refine AO.store Try.sizeOf23 rfl rfl rfl rfl rfl rfl ?_
              refine AO.nil ?_
              refine AC.seq ?_
              refine AC.region ?_
              refine AO.yld _ (Yld.assign rfl) rfl rfl rfl ?_
              refine AO.nil ?_
              refine FnE.ret (free, pl, b2167, m2167, l2167) [0, 1, 2, 3] [0, 1, 2, 3] Try.results48 (RVs.cons (RV.tmp rfl) RVs.nil) rfl rfl rfl ?_ ?_ ⟨⟨_, rfl, ?_⟩, ⟨_, rfl, ?_⟩, ⟨_, rfl, ?_⟩, ⟨_, rfl, ?_⟩, trivial⟩
              · -- holds
                show MostR _ _ _ _ _ _ _ _; first | (rw [hS]; exact ⟨rfl, rfl, rfl, rfl⟩) | (rw [hS]; exact ⟨by first | rfl | (rw [hfr2114.1]; simp) | (rw [hfr2167.1]), trivial⟩) | (rw [hS, ht9]; exact ⟨rfl, rfl, rfl, rfl⟩) | fail
              · -- value
                refine congrArg (fun b => AV.p (PV.v (.bool b))) ?_
                first | (rw [hS]; rfl) | (rw [hS, ht9]; rfl) | fail
              · -- thing 0
                rfl
              · -- thing 1
                rfl
              · -- thing 2
                first | rfl | (rw [show pl.map encI = ((pl ++ [(-1 : Int)]).map encI).take pl.length by simp]; rfl)
              · -- thing 3
                rfl

theorem impl_seatMost_n {gs : List Group} (hok : okGroups gs = true) : ∀ (n : Nat) {m : Nat} {free pl best : List Int} {sd most left : Int} (_ : gs.length - m = n) (hpl : pl.length = m) (hfree : free.all okRow = true) (hfl : free.length ≤ 10) (hl : 0 ≤ left ∧ left ≤ 20000) (hsd : 0 ≤ sd ∧ sd ≤ 40 * pl.length) (hm : m ≤ gs.length), FnE (α := List Int × List Int × List Int × Int × Int) Try.prog 48 [.h 0, .p (.v (.int .i64 sd))] [(0, .box 64 [.p (.sl 3 (gs.map encGroup)), .h 1, .h 2, .h 3, .p (.v (.int .i64 most)), .p (.v (.int .i64 left))]), (1, .vec 2 1 (free.map encI)), (2, .vec 2 1 (pl.map encI)), (3, .vec 2 1 (best.map encI))] [0, 1] (fun ⟨fr2, pl2, b2, m2, l2⟩ => MostR (mostS (remS gs pl.length) free pl sd ⟨best, most, left⟩) free pl fr2 pl2 b2 m2 l2) (fun ⟨fr2, pl2, b2, m2, l2⟩ => .p (.v (.bool (isS (mostS (remS gs pl.length) free pl sd ⟨best, most, left⟩))))) (fun ⟨fr2, pl2, b2, m2, l2⟩ => [(0, .box 64 [.p (.sl 3 (gs.map encGroup)), .h 1, .h 2, .h 3, .p (.v (.int .i64 m2)), .p (.v (.int .i64 l2))]), (1, .vec 2 1 (fr2.map encI)), (2, .vec 2 1 (pl2.map encI)), (3, .vec 2 1 (b2.map encI))]) := by
  intro n
  induction n with
  | zero => intro m free pl best sd most left h hpl hfree hfl hl hsd hm; exact impl_seatMost_s hok (fun _ _ _ _ _ h9 => absurd h9 (by omega)) hpl hfree hfl hl hsd hm
  | succ n ih => intro m free pl best sd most left h hpl hfree hfl hl hsd hm; exact impl_seatMost_s hok (fun h1 h2 h3 h4 h5 h6 => ih (by omega) h1 h2 h3 h4 h5 h6) hpl hfree hfl hl hsd hm

theorem impl_seatMost_c {gs : List Group} (hok : okGroups gs = true) {free pl best : List Int} {sd most left : Int} (hm : pl.length ≤ gs.length) (hfree : free.all okRow = true) (hfl : free.length ≤ 10) (hl : 0 ≤ left ∧ left ≤ 20000) (hsd : 0 ≤ sd ∧ sd ≤ 40 * pl.length) : FnE (α := List Int × List Int × List Int × Int × Int) Try.prog 48 [.h 0, .p (.v (.int .i64 sd))] [(0, .box 64 [.p (.sl 3 (gs.map encGroup)), .h 1, .h 2, .h 3, .p (.v (.int .i64 most)), .p (.v (.int .i64 left))]), (1, .vec 2 1 (free.map encI)), (2, .vec 2 1 (pl.map encI)), (3, .vec 2 1 (best.map encI))] [0, 1] (fun ⟨fr2, pl2, b2, m2, l2⟩ => MostR (mostS (remS gs pl.length) free pl sd ⟨best, most, left⟩) free pl fr2 pl2 b2 m2 l2) (fun ⟨fr2, pl2, b2, m2, l2⟩ => .p (.v (.bool (isS (mostS (remS gs pl.length) free pl sd ⟨best, most, left⟩))))) (fun ⟨fr2, pl2, b2, m2, l2⟩ => [(0, .box 64 [.p (.sl 3 (gs.map encGroup)), .h 1, .h 2, .h 3, .p (.v (.int .i64 m2)), .p (.v (.int .i64 l2))]), (1, .vec 2 1 (fr2.map encI)), (2, .vec 2 1 (pl2.map encI)), (3, .vec 2 1 (b2.map encI))]) := impl_seatMost_n hok _ rfl rfl hfree hfl hl hsd hm

theorem impl_MostSeated_c {gs : List Group} {rs : List Int} {b : Int} (hn : gs.length ≤ 1048576) (hs : ∀ x ∈ gs, x.name.length ≤ 1048576) (hr : rs.length ≤ 1048576) :
    FnE (α := Unit) Try.prog 19 [.p (.sl 3 (gs.map encGroup)), .p (.sl 1 (rs.map encI)), .p (.v (.int .i64 b))] [] [] (fun _ => True) (fun _ => .tup [.h 0, .p (.v (.int .i64 (mostSeated gs rs b).2.1)), .p (.v (.int .i64 (mostSeated gs rs b).2.2))]) (fun _ => [(0, .vec 2 1 ((mostSeated gs rs b).1.map encI))]) := by
  refine FnE.intro Try.func19 rfl Try.ntmps19 rfl rfl (fun w0 F0 η φ w => ?_)
  refine AC.seq ?_
  refine AC.region ?_
  refine AO.yld _ (Yld.assign rfl) rfl rfl rfl ?_
  refine AO.yld _ (Yld.assign rfl) rfl rfl rfl ?_
  refine AO.yld _ (Yld.assign rfl) rfl rfl rfl ?_
  refine AO.nil ?_
  refine AC.seq ?_
  refine AC.seq ?_
  refine AC.region ?_
  refine AO.yld _ (Yld.move rfl) rfl rfl rfl ?_
  refine AO.yld _ (Yld.call rfl rfl Try.call40 rfl rfl rfl (impl_ValidGroups_c (by first | assumption | omega) (by assumption)) rfl) rfl rfl rfl ?_
  refine AO.yld _ (Yld.not rfl) rfl rfl rfl ?_
  refine AO.yld _ (Yld.move rfl) rfl rfl rfl ?_
  refine AO.splitAt 13 _ rfl (fun s13 => ?_) (fun s13 => ?_)
  · -- s13 True
    have hbad : ¬ (okGroups gs = true ∧ okRows rs = true) := by clear hs; first | (simp_all; done) | grind
    refine AO.skipF rfl rfl rfl rfl rfl ?_
    refine AO.skipF rfl rfl rfl rfl rfl ?_
    refine AO.skipF rfl rfl rfl rfl rfl ?_
    refine AO.yld _ (Yld.pickT rfl rfl) rfl rfl rfl ?_
    refine AO.nil ?_
    refine AC.condT rfl ?_
    refine AC.seq ?_
    refine AC.region ?_
    refine AO.yld _ (Yld.assign rfl) rfl rfl rfl ?_
    refine AO.yld _ (Yld.assign rfl) rfl rfl rfl ?_
    refine AO.yld _ (Yld.assign rfl) rfl rfl rfl ?_
    refine AO.nil ?_
    refine AC.nilVec 6 0 2 1 rfl rfl ?_
    refine FnE.ret () [0] [0] Try.results19 (RVs.cons (RV.tmp rfl) (RVs.cons (RV.tmp rfl) (RVs.cons (RV.tmp rfl) RVs.nil))) rfl rfl rfl ?_ ?_ ⟨⟨_, rfl, ?_⟩, trivial⟩
    · -- holds
      trivial
    · -- value
      first | (rw [most_bad hbad]; done) | (rw [most_bad hbad]; rfl) | (rw [most_range hv hbad2]; done) | (rw [most_range hv hbad2]; rfl) | (rw [most_run hv hb, hS]; done) | (rw [most_run hv hb, hS]; rfl) | fail
    · -- thing 0
      refine vecE ?_; first | (rw [most_bad hbad]; done) | (rw [most_bad hbad]; rfl) | (rw [most_range hv hbad2]; done) | (rw [most_range hv hbad2]; rfl) | (rw [most_run hv hb, hS]; done) | (rw [most_run hv hb, hS]; rfl) | fail
  · -- s13 False
    refine AO.yldG _ (Yld.move rfl) rfl rfl rfl rfl rfl ?_
    refine AO.yldG _ (Yld.call rfl rfl Try.call41 rfl rfl rfl (impl_ValidRows_c (by first | assumption | omega)) rfl) rfl rfl rfl rfl rfl ?_
    refine AO.yldG _ (Yld.not rfl) rfl rfl rfl rfl rfl ?_
    refine AO.yld _ (Yld.pickF rfl rfl) rfl rfl rfl ?_
    refine AO.nil ?_
    refine AC.cond _ rfl (fun c17 => ?_) (fun c17 => ?_)
    · -- c17 True
      have hbad : ¬ (okGroups gs = true ∧ okRows rs = true) := by clear hs; first | (simp_all; done) | grind
      refine AC.seq ?_
      refine AC.region ?_
      refine AO.yld _ (Yld.assign rfl) rfl rfl rfl ?_
      refine AO.yld _ (Yld.assign rfl) rfl rfl rfl ?_
      refine AO.yld _ (Yld.assign rfl) rfl rfl rfl ?_
      refine AO.nil ?_
      refine AC.nilVec 6 0 2 1 rfl rfl ?_
      refine FnE.ret () [0] [0] Try.results19 (RVs.cons (RV.tmp rfl) (RVs.cons (RV.tmp rfl) (RVs.cons (RV.tmp rfl) RVs.nil))) rfl rfl rfl ?_ ?_ ⟨⟨_, rfl, ?_⟩, trivial⟩
      · -- holds
        trivial
      · -- value
        first | (rw [most_bad hbad]; done) | (rw [most_bad hbad]; rfl) | (rw [most_range hv hbad2]; done) | (rw [most_range hv hbad2]; rfl) | (rw [most_run hv hb, hS]; done) | (rw [most_run hv hb, hS]; rfl) | fail
      · -- thing 0
        refine vecE ?_; first | (rw [most_bad hbad]; done) | (rw [most_bad hbad]; rfl) | (rw [most_range hv hbad2]; done) | (rw [most_range hv hbad2]; rfl) | (rw [most_run hv hb, hS]; done) | (rw [most_run hv hb, hS]; rfl) | fail
    · -- c17 False
      have hv : okGroups gs = true ∧ okRows rs = true := by first | (simp_all; done) | grind
      have hv2 := rows_all hv.2
      have hv3 := rows_len hv.2
      refine AC.skip ?_
      refine AC.seq ?_
      refine AC.seq ?_
      refine AC.region ?_
      refine AO.yld _ (Yld.move rfl) rfl rfl rfl ?_
      refine AO.yld _ (Yld.call rfl rfl Try.call42 rfl rfl rfl (impl_within_c) rfl) rfl rfl rfl ?_
      refine AO.yld _ (Yld.not rfl) rfl rfl rfl ?_
      refine AO.nil ?_
      refine AC.cond _ rfl (fun c20 => ?_) (fun c20 => ?_)
      · -- c20 True
        have hbad2 : ¬ (1 ≤ b ∧ b ≤ 20000) := by have h := c20; simp at h; omega
        refine AC.seq ?_
        refine AC.region ?_
        refine AO.yld _ (Yld.assign rfl) rfl rfl rfl ?_
        refine AO.yld _ (Yld.assign rfl) rfl rfl rfl ?_
        refine AO.yld _ (Yld.assign rfl) rfl rfl rfl ?_
        refine AO.nil ?_
        refine AC.nilVec 6 0 2 1 rfl rfl ?_
        refine FnE.ret () [0] [0] Try.results19 (RVs.cons (RV.tmp rfl) (RVs.cons (RV.tmp rfl) (RVs.cons (RV.tmp rfl) RVs.nil))) rfl rfl rfl ?_ ?_ ⟨⟨_, rfl, ?_⟩, trivial⟩
        · -- holds
          trivial
        · -- value
          first | (rw [most_bad hbad]; done) | (rw [most_bad hbad]; rfl) | (rw [most_range hv hbad2]; done) | (rw [most_range hv hbad2]; rfl) | (rw [most_run hv hb, hS]; done) | (rw [most_run hv hb, hS]; rfl) | fail
        · -- thing 0
          refine vecE ?_; first | (rw [most_bad hbad]; done) | (rw [most_bad hbad]; rfl) | (rw [most_range hv hbad2]; done) | (rw [most_range hv hbad2]; rfl) | (rw [most_run hv hb, hS]; done) | (rw [most_run hv hb, hS]; rfl) | fail
      · -- c20 False
        have hb : 1 ≤ b ∧ b ≤ 20000 := by have h := c20; simp at h; omega
        refine AC.skip ?_
        refine AC.seq ?_
        refine AC.region ?_
        refine AO.yld _ (Yld.move rfl) rfl rfl rfl ?_
        refine AO.yld _ (Yld.move rfl) rfl rfl rfl ?_
        refine AO.callW (wantedN rfl) [0] [] [0] rfl rfl Try.call43 rfl (cloneInt_c (by first | assumption | omega)) (.flat (.view rfl rfl .nil) (fun _ => by simp [AV.Flat, AV.FlatL, PV.Flat, PV.FlatL]) (fun _ => ⟨flat_map flatI _, trivial⟩)) rfl (fun _ => rfl) trivial rfl (fun _ => rfl) (fun _ => rfl) (fun _ _ => ?_)
        refine AO.yld _ (Yld.move rfl) rfl rfl rfl ?_
        refine AO.yld _ (Yld.buildV (zs := [.v (.slice none 0 0), .v (.slice none 0 0), .v (.slice none 0 0), .v (.slice none 0 0), .v (.int .i64 0), .v (.int .i64 0)]) bld64 rfl rfl) rfl rfl rfl ?_
        refine AO.alloc 1 Try.zeroValue64 rfl rfl rfl ?_
        refine AO.store Try.sizeOf64 rfl rfl rfl rfl rfl rfl ?_
        refine AO.nil ?_
        refine AC.seq ?_
        refine AC.seq ?_
        refine AC.region ?_
        refine AO.nilCell 1 2 2 2 1 rfl rfl rfl ?_
        refine AO.nilCell 1 3 3 2 1 rfl rfl rfl ?_
        refine AO.callW (wantedN rfl) [1, 0, 2, 3] [0, 1, 2, 3] [0, 1, 2, 3] rfl rfl Try.call48 rfl (impl_seatMost_c (gs := gs) hv.1 (free := rs) (pl := []) (best := []) (sd := 0) (most := -1) (left := b) (by simp) hv2 hv3 (by omega) (by simp)) (.own rfl) rfl (fun ⟨_, _, _, _, _⟩ => rfl) ⟨rfl, rfl, rfl, rfl, trivial⟩ rfl (fun ⟨_, _, _, _, _⟩ => rfl) (fun ⟨_, _, _, _, _⟩ => rfl) (fun ⟨fr226, pl226, b226, m226, l226⟩ hfr226 => ?_)
        dsimp only at hfr226
        refine AO.yld _ (Yld.not rfl) rfl rfl rfl ?_
        refine AO.nil ?_
        refine AC.cond _ rfl (fun c27 => ?_) (fun c27 => ?_)
        · -- c27 True
          have hS : (mostS (remS gs ([] : List Int).length) rs [] 0 ⟨[], -1, b⟩) = none := isS_none (by simpa using c27)
          refine AC.seq ?_
          refine AC.region ?_
          refine AO.yld _ (Yld.assign rfl) rfl rfl rfl ?_
          refine AO.yld _ (Yld.assign rfl) rfl rfl rfl ?_
          refine AO.yld _ (Yld.assign rfl) rfl rfl rfl ?_
          refine AO.nil ?_
          refine AC.nilVec 6 4 2 1 rfl rfl ?_
          refine FnE.ret () [4] [0] Try.results19 (RVs.cons (RV.tmp rfl) (RVs.cons (RV.tmp rfl) (RVs.cons (RV.tmp rfl) RVs.nil))) rfl rfl rfl ?_ ?_ ⟨⟨_, rfl, ?_⟩, trivial⟩
          · -- holds
            trivial
          · -- value
            first | (rw [most_bad hbad]; done) | (rw [most_bad hbad]; rfl) | (rw [most_range hv hbad2]; done) | (rw [most_range hv hbad2]; rfl) | (rw [most_run hv hb, hS]; done) | (rw [most_run hv hb, hS]; rfl) | fail
          · -- thing 0
            refine vecE ?_; first | (rw [most_bad hbad]; done) | (rw [most_bad hbad]; rfl) | (rw [most_range hv hbad2]; done) | (rw [most_range hv hbad2]; rfl) | (rw [most_run hv hb, hS]; done) | (rw [most_run hv hb, hS]; rfl) | fail
        · -- c27 False
          obtain ⟨t9, ht9⟩ := isS_some (s := (mostS (remS gs ([] : List Int).length) rs [] 0 ⟨[], -1, b⟩)) (by simpa using c27)
          have hR9 := hfr226.2
          rw [ht9] at hR9
          have hS : (mostS (remS gs ([] : List Int).length) rs [] 0 ⟨[], -1, b⟩) = some ⟨b226, m226, l226⟩ := by rw [ht9, hR9.2.2]
          refine AC.skip ?_
          refine AC.seq ?_
          refine AC.draw (by kernel_rfl) (by kernel_rfl) ?_
          refine AO.yld _ (Yld.fieldAddr Try.underlying64 rfl rfl Try.sizeOf23 rfl rfl rfl) rfl rfl rfl ?_
          refine AO.yld _ (Yld.load Try.isAgg23 rfl rfl) rfl rfl rfl ?_
          refine AO.yld _ (Yld.fieldAddr Try.underlying64 rfl rfl Try.sizeOf2 rfl rfl rfl) rfl rfl rfl ?_
          refine AO.yld _ (Yld.load Try.isAgg2 rfl rfl) rfl rfl rfl ?_
          refine AO.yld _ (Yld.assign rfl) rfl rfl rfl ?_
          refine AO.yld _ (Yld.assign rfl) rfl rfl rfl ?_
          refine AO.yld _ (Yld.assign rfl) rfl rfl rfl ?_
          refine AO.nil ?_
          refine FnE.ret () [3] [0] Try.results19 (RVs.cons (RV.tmp rfl) (RVs.cons (RV.tmp rfl) (RVs.cons (RV.tmp rfl) RVs.nil))) rfl rfl rfl ?_ ?_ ⟨⟨_, rfl, ?_⟩, trivial⟩
          · -- holds
            trivial
          · -- value
            first | (rw [most_bad hbad]; done) | (rw [most_bad hbad]; rfl) | (rw [most_range hv hbad2]; done) | (rw [most_range hv hbad2]; rfl) | (rw [most_run hv hb, hS]; done) | (rw [most_run hv hb, hS]; rfl) | fail
          · -- thing 0
            refine vecE ?_; first | (rw [most_bad hbad]; done) | (rw [most_bad hbad]; rfl) | (rw [most_range hv hbad2]; done) | (rw [most_range hv hbad2]; rfl) | (rw [most_run hv hb, hS]; done) | (rw [most_run hv hb, hS]; rfl) | fail

theorem spec_node_y {gs : List Group} {f1 f2 f3 : List (List PV)} {nd bu mo : Int} {fu : Bool} (h : 0 ≤ nd ∧ nd ≤ 20000) :
    FnE (α := Int × Bool × Bool) Try.prog 63 [.h 0] [(0, .box 60 [.p (.sl 3 (gs.map encGroup)), .h 1, .h 2, .h 3, .p (.v (.int .i64 mo)), .p (.v (.int .i64 nd)), .p (.v (.int .i64 bu)), .p (.v (.bool fu))]), (1, .vec 2 1 f1), (2, .vec 2 1 f2), (3, .vec 2 1 f3)] [0, 1, 2, 3] (fun ⟨n2, fu2, go⟩ => NodeR nd bu fu n2 fu2 go) (fun ⟨n2, fu2, go⟩ => .p (.v (.bool go))) (fun ⟨n2, fu2, go⟩ => [(0, .box 60 [.p (.sl 3 (gs.map encGroup)), .h 1, .h 2, .h 3, .p (.v (.int .i64 mo)), .p (.v (.int .i64 n2)), .p (.v (.int .i64 bu)), .p (.v (.bool fu2))]), (1, .vec 2 1 f1), (2, .vec 2 1 f2), (3, .vec 2 1 f3)]) := by
  refine FnE.intro Try.func63 rfl Try.ntmps63 rfl rfl (fun w0 F0 η φ w => ?_)
  refine AC.seq ?_
  refine AC.region ?_
  refine AO.yld _ (Yld.assign rfl) rfl rfl rfl ?_
  refine AO.nil ?_
  refine AC.seq ?_
  refine AC.seq ?_
  refine AC.draw (by kernel_rfl) (by kernel_rfl) ?_
  refine AO.yld _ (Yld.move rfl) rfl rfl rfl ?_
  refine AO.yld _ (Yld.nilCheck rfl rfl) rfl rfl rfl ?_
  refine AO.yld _ (Yld.fieldAddr Try.underlying60 rfl rfl Try.sizeOf2 rfl rfl rfl) rfl rfl rfl ?_
  refine AO.yld _ (Yld.load Try.isAgg2 rfl rfl) rfl rfl rfl ?_
  refine AO.yld _ (Yld.move rfl) rfl rfl rfl ?_
  refine AO.yld _ (Yld.nilCheck rfl rfl) rfl rfl rfl ?_
  refine AO.yld _ (Yld.fieldAddr Try.underlying60 rfl rfl Try.sizeOf2 rfl rfl rfl) rfl rfl rfl ?_
  refine AO.yld _ (Yld.load Try.isAgg2 rfl rfl) rfl rfl rfl ?_
  refine AO.yld _ (Yld.int rfl rfl rfl) rfl rfl rfl ?_
  refine AO.nil ?_
  refine AC.cond _ rfl (fun c11 => ?_) (fun c11 => ?_)
  · -- c11 True
    refine AC.region ?_
    refine AO.yld _ (Yld.move rfl) rfl rfl rfl ?_
    refine AO.yld _ (Yld.nilCheck rfl rfl) rfl rfl rfl ?_
    refine AO.yld _ (Yld.fieldAddr Try.underlying60 rfl rfl Try.sizeOf4 rfl rfl rfl) rfl rfl rfl ?_
    refine AO.store Try.sizeOf4 rfl rfl rfl rfl rfl rfl ?_
    refine AO.nil ?_
    refine AC.seq ?_
    refine AC.seq ?_
    refine AC.region ?_
    refine AO.yld _ (Yld.move rfl) rfl rfl rfl ?_
    refine AO.yld _ (Yld.nilCheck rfl rfl) rfl rfl rfl ?_
    refine AO.yld _ (Yld.fieldAddr Try.underlying60 rfl rfl Try.sizeOf4 rfl rfl rfl) rfl rfl rfl ?_
    refine AO.yld _ (Yld.load Try.isAgg4 rfl rfl) rfl rfl rfl ?_
    refine AO.nil ?_
    refine AC.cond _ rfl (fun c18 => ?_) (fun c18 => ?_)
    · -- c18 True
      refine AC.seq ?_
      refine AC.region ?_
      refine AO.yld _ (Yld.assign rfl) rfl rfl rfl ?_
      refine AO.nil ?_
      refine FnE.ret (_, _, _) [0, 1, 2, 3] [0, 1, 2, 3] Try.results63 (RVs.cons (RV.tmp rfl) RVs.nil) rfl rfl rfl ?_ rfl ⟨⟨_, rfl, rfl⟩, ⟨_, rfl, rfl⟩, ⟨_, rfl, rfl⟩, ⟨_, rfl, rfl⟩, trivial⟩
      · -- holds
        show NodeR _ _ _ _ _ _; first | exact .inl ⟨rfl, rfl, rfl, .inr (by simpa using c11)⟩ | exact .inl ⟨rfl, c18, rfl, .inl c18⟩ | exact .inr ⟨rfl, c18, rfl, c18, by simpa using c11⟩ | (exfalso; simp at c18; done)
    · -- c18 False
      refine AC.skip ?_
      refine AC.seq ?_
      refine AC.region ?_
      refine AO.yld _ (Yld.move rfl) rfl rfl rfl ?_
      refine AO.yld _ (Yld.nilCheck rfl rfl) rfl rfl rfl ?_
      refine AO.yld _ (Yld.fieldAddr Try.underlying60 rfl rfl Try.sizeOf2 rfl rfl rfl) rfl rfl rfl ?_
      refine AO.yld _ (Yld.load Try.isAgg2 rfl rfl) rfl rfl rfl ?_
      refine AO.yld _ (Yld.add rfl rfl (by omega) (by omega)) rfl rfl rfl ?_
      refine AO.yld _ (Yld.nilCheck rfl rfl) rfl rfl rfl ?_
      refine AO.yld _ (Yld.fieldAddr Try.underlying60 rfl rfl Try.sizeOf2 rfl rfl rfl) rfl rfl rfl ?_
      refine AO.store Try.sizeOf2 rfl rfl rfl rfl rfl rfl ?_
      refine AO.nil ?_
      refine AC.seq ?_
      refine AC.region ?_
      refine AO.yld _ (Yld.assign rfl) rfl rfl rfl ?_
      refine AO.nil ?_
      refine FnE.ret (_, _, _) [0, 1, 2, 3] [0, 1, 2, 3] Try.results63 (RVs.cons (RV.tmp rfl) RVs.nil) rfl rfl rfl ?_ rfl ⟨⟨_, rfl, rfl⟩, ⟨_, rfl, rfl⟩, ⟨_, rfl, rfl⟩, ⟨_, rfl, rfl⟩, trivial⟩
      · -- holds
        show NodeR _ _ _ _ _ _; first | exact .inl ⟨rfl, rfl, rfl, .inr (by simpa using c11)⟩ | exact .inl ⟨rfl, c18, rfl, .inl c18⟩ | exact .inr ⟨rfl, c18, rfl, c18, by simpa using c11⟩ | (exfalso; simp at c18; done)
  · -- c11 False
    refine AC.skip ?_
    refine AC.seq ?_
    refine AC.seq ?_
    refine AC.region ?_
    refine AO.yld _ (Yld.move rfl) rfl rfl rfl ?_
    refine AO.yld _ (Yld.nilCheck rfl rfl) rfl rfl rfl ?_
    refine AO.yld _ (Yld.fieldAddr Try.underlying60 rfl rfl Try.sizeOf4 rfl rfl rfl) rfl rfl rfl ?_
    refine AO.yld _ (Yld.load Try.isAgg4 rfl rfl) rfl rfl rfl ?_
    refine AO.nil ?_
    refine AC.cond _ rfl (fun c18 => ?_) (fun c18 => ?_)
    · -- c18 True
      refine AC.seq ?_
      refine AC.region ?_
      refine AO.yld _ (Yld.assign rfl) rfl rfl rfl ?_
      refine AO.nil ?_
      refine FnE.ret (_, _, _) [0, 1, 2, 3] [0, 1, 2, 3] Try.results63 (RVs.cons (RV.tmp rfl) RVs.nil) rfl rfl rfl ?_ rfl ⟨⟨_, rfl, rfl⟩, ⟨_, rfl, rfl⟩, ⟨_, rfl, rfl⟩, ⟨_, rfl, rfl⟩, trivial⟩
      · -- holds
        show NodeR _ _ _ _ _ _; first | exact .inl ⟨rfl, rfl, rfl, .inr (by simpa using c11)⟩ | exact .inl ⟨rfl, c18, rfl, .inl c18⟩ | exact .inr ⟨rfl, c18, rfl, c18, by simpa using c11⟩ | (exfalso; simp at c18; done)
    · -- c18 False
      refine AC.skip ?_
      refine AC.seq ?_
      refine AC.region ?_
      refine AO.yld _ (Yld.move rfl) rfl rfl rfl ?_
      refine AO.yld _ (Yld.nilCheck rfl rfl) rfl rfl rfl ?_
      refine AO.yld _ (Yld.fieldAddr Try.underlying60 rfl rfl Try.sizeOf2 rfl rfl rfl) rfl rfl rfl ?_
      refine AO.yld _ (Yld.load Try.isAgg2 rfl rfl) rfl rfl rfl ?_
      refine AO.yld _ (Yld.add rfl rfl (by omega) (by omega)) rfl rfl rfl ?_
      refine AO.yld _ (Yld.nilCheck rfl rfl) rfl rfl rfl ?_
      refine AO.yld _ (Yld.fieldAddr Try.underlying60 rfl rfl Try.sizeOf2 rfl rfl rfl) rfl rfl rfl ?_
      refine AO.store Try.sizeOf2 rfl rfl rfl rfl rfl rfl ?_
      refine AO.nil ?_
      refine AC.seq ?_
      refine AC.region ?_
      refine AO.yld _ (Yld.assign rfl) rfl rfl rfl ?_
      refine AO.nil ?_
      refine FnE.ret (_, _, _) [0, 1, 2, 3] [0, 1, 2, 3] Try.results63 (RVs.cons (RV.tmp rfl) RVs.nil) rfl rfl rfl ?_ rfl ⟨⟨_, rfl, rfl⟩, ⟨_, rfl, rfl⟩, ⟨_, rfl, rfl⟩, ⟨_, rfl, rfl⟩, trivial⟩
      · -- holds
        show NodeR _ _ _ _ _ _; first | exact .inl ⟨rfl, rfl, rfl, .inr (by simpa using c11)⟩ | exact .inl ⟨rfl, c18, rfl, .inl c18⟩ | exact .inr ⟨rfl, c18, rfl, c18, by simpa using c11⟩ | (exfalso; simp at c18; done)

set_option maxHeartbeats 4000000 in
theorem spec_run_s {gs : List Group} (hok : okGroups gs = true) {bu : Int} (hbu : bu ≤ 20000) {m : Nat} (ih : ∀ {free pl best : List Int} {sd most nd : Int} (hpl : pl.length = m + 1) (hfree : free.all okRow = true) (hfl : free.length ≤ 10) (hl : 0 ≤ nd ∧ nd ≤ bu) (hsd : 0 ≤ sd ∧ sd ≤ 40 * pl.length) (hmo : most < sd + sumP (gs.drop pl.length)) (hm : m + 1 ≤ gs.length), FnE (α := List Int × Int × Int × Bool) Try.prog 47 [.h 0, .p (.v (.int .i64 sd))] [(0, .box 60 [.p (.sl 3 (gs.map encGroup)), .h 1, .h 2, .h 3, .p (.v (.int .i64 most)), .p (.v (.int .i64 nd)), .p (.v (.int .i64 bu)), .p (.v (.bool false))]), (1, .vec 2 1 (free.map encI)), (2, .vec 2 1 (pl.map encI)), (3, .vec 2 1 (best.map encI))] [0, 1] (fun ⟨b2, m2, n2, fu2⟩ => RunR (mostS (remS gs pl.length) free pl sd ⟨best, most, bu - nd⟩) bu b2 m2 n2 fu2) (fun ⟨b2, m2, n2, fu2⟩ => .tup []) (fun ⟨b2, m2, n2, fu2⟩ => [(0, .box 60 [.p (.sl 3 (gs.map encGroup)), .h 1, .h 2, .h 3, .p (.v (.int .i64 m2)), .p (.v (.int .i64 n2)), .p (.v (.int .i64 bu)), .p (.v (.bool fu2))]), (1, .vec 2 1 (free.map encI)), (2, .vec 2 1 (pl.map encI)), (3, .vec 2 1 (b2.map encI))])) {free pl best : List Int} {sd most nd : Int} (hpl : pl.length = m) (hfree : free.all okRow = true) (hfl : free.length ≤ 10) (hl : 0 ≤ nd ∧ nd ≤ bu) (hsd : 0 ≤ sd ∧ sd ≤ 40 * pl.length) (hmo : most < sd + sumP (gs.drop pl.length)) (hm : m ≤ gs.length) :
    FnE (α := List Int × Int × Int × Bool) Try.prog 47 [.h 0, .p (.v (.int .i64 sd))] [(0, .box 60 [.p (.sl 3 (gs.map encGroup)), .h 1, .h 2, .h 3, .p (.v (.int .i64 most)), .p (.v (.int .i64 nd)), .p (.v (.int .i64 bu)), .p (.v (.bool false))]), (1, .vec 2 1 (free.map encI)), (2, .vec 2 1 (pl.map encI)), (3, .vec 2 1 (best.map encI))] [0, 1] (fun ⟨b2, m2, n2, fu2⟩ => RunR (mostS (remS gs pl.length) free pl sd ⟨best, most, bu - nd⟩) bu b2 m2 n2 fu2) (fun ⟨b2, m2, n2, fu2⟩ => .tup []) (fun ⟨b2, m2, n2, fu2⟩ => [(0, .box 60 [.p (.sl 3 (gs.map encGroup)), .h 1, .h 2, .h 3, .p (.v (.int .i64 m2)), .p (.v (.int .i64 n2)), .p (.v (.int .i64 bu)), .p (.v (.bool fu2))]), (1, .vec 2 1 (free.map encI)), (2, .vec 2 1 (pl.map encI)), (3, .vec 2 1 (b2.map encI))]) := by
  have hgl := groups_len hok
  have hM : (gs.map encGroup).length = gs.length := List.length_map ..
  have hMp : (pl.map encI).length = pl.length := List.length_map ..
  have hgp9 : ∀ g ∈ gs, 1 ≤ g.persons ∧ g.persons ≤ 40 := fun g hg => by obtain ⟨j, hj⟩ := List.getElem?_of_mem hg; have := group_lim (groups_at hok hj); omega
  have hbl := sumP_lim hok (pl.length + 1)
  have hbl0 := sumP_lim hok pl.length
  have et0 : sumP (gs.drop (((pl.map encI).length : Nat) : Int).toNat) = sumP (gs.drop pl.length) := by rw [hMp, Int.toNat_natCast]
  have et1 : sumP (gs.drop ((((pl.map encI).length : Nat) : Int) + 1).toNat) = sumP (gs.drop (pl.length + 1)) := by rw [hMp]; rfl
  refine FnE.intro Try.func47 rfl Try.ntmps47 rfl rfl (fun w0 F0 η φ w => ?_)
  refine AC.seq ?_
  refine AC.region ?_
  refine AO.yld _ (Yld.move rfl) rfl rfl rfl ?_
  refine AO.yld _ (Yld.nilCheck rfl rfl) rfl rfl rfl ?_
  refine AO.yld _ (Yld.fieldAddr Try.underlying60 rfl rfl Try.sizeOf23 rfl rfl rfl) rfl rfl rfl ?_
  refine AO.yld _ (Yld.load Try.isAgg23 rfl rfl) rfl rfl rfl ?_
  refine AO.yld _ (Yld.len Try.underlying23 rfl rfl) rfl rfl rfl ?_
  refine AO.yld _ (Yld.assign rfl) rfl rfl rfl ?_
  refine AO.nil ?_
  refine AC.seq ?_
  refine AC.seq ?_
  refine AC.region ?_
  refine AO.yld _ (Yld.move rfl) rfl rfl rfl ?_
  refine AO.yld _ (Yld.move rfl) rfl rfl rfl ?_
  refine AO.yld _ (Yld.nilCheck rfl rfl) rfl rfl rfl ?_
  refine AO.yld _ (Yld.fieldAddr Try.underlying60 rfl rfl Try.sizeOf27 rfl rfl rfl) rfl rfl rfl ?_
  refine AO.yld _ (Yld.load Try.isAgg27 rfl rfl) rfl rfl rfl ?_
  refine AO.yld _ (Yld.len Try.underlying27 rfl rfl) rfl rfl rfl ?_
  refine AO.yld _ (Yld.int rfl rfl rfl) rfl rfl rfl ?_
  refine AO.nil ?_
  refine AC.cond _ rfl (fun c18 => ?_) (fun c18 => ?_)
  · -- c18 True
    have hml : pl.length = gs.length := by have h := c18; rw [hM] at h; simp at h; omega
    have hS : (mostS (remS gs pl.length) free pl sd ⟨best, most, bu - nd⟩) = some ⟨pl, sd, bu - nd⟩ := by rw [hml, rem_nil]; rfl
    have hmo2 : most < sd := by rw [hml, List.drop_length] at hmo; simpa [sumP] using hmo
    refine AC.seq ?_
    refine AC.seq ?_
    refine AC.region ?_
    refine AO.yld _ (Yld.move rfl) rfl rfl rfl ?_
    refine AO.yld _ (Yld.move rfl) rfl rfl rfl ?_
    refine AO.yld _ (Yld.nilCheck rfl rfl) rfl rfl rfl ?_
    refine AO.yld _ (Yld.fieldAddr Try.underlying60 rfl rfl Try.sizeOf2 rfl rfl rfl) rfl rfl rfl ?_
    refine AO.yld _ (Yld.load Try.isAgg2 rfl rfl) rfl rfl rfl ?_
    refine AO.yld _ (Yld.int rfl rfl rfl) rfl rfl rfl ?_
    refine AO.nil ?_
    refine AC.cond _ rfl (fun c24 => ?_) (fun c24 => ?_)
    · -- c24 True
      refine AC.seq ?_
      refine AC.region ?_
      refine AO.yld _ (Yld.move rfl) rfl rfl rfl ?_
      refine AO.yld _ (Yld.move rfl) rfl rfl rfl ?_
      refine AO.yld _ (Yld.nilCheck rfl rfl) rfl rfl rfl ?_
      refine AO.yld _ (Yld.fieldAddr Try.underlying60 rfl rfl Try.sizeOf2 rfl rfl rfl) rfl rfl rfl ?_
      refine AO.store Try.sizeOf2 rfl rfl rfl rfl rfl rfl ?_
      refine AO.nil ?_
      refine AC.region ?_
      refine AO.yld _ (Yld.move rfl) rfl rfl rfl ?_
      refine AO.yld _ (Yld.move rfl) rfl rfl rfl ?_
      refine AO.yld _ (Yld.nilCheck rfl rfl) rfl rfl rfl ?_
      refine AO.yld _ (Yld.fieldAddr Try.underlying60 rfl rfl Try.sizeOf23 rfl rfl rfl) rfl rfl rfl ?_
      refine AO.yld _ (Yld.load Try.isAgg23 rfl rfl) rfl rfl rfl ?_
      refine AO.callW (wantedN rfl) [4] [] [0] rfl rfl Try.call37 rfl (spec_l00Own_c (by first | assumption | omega)) (.flat (.view rfl rfl .nil) (fun _ => by simp [AV.Flat, AV.FlatL, PV.Flat, PV.FlatL]) (fun _ => ⟨flat_map flatI _, trivial⟩)) rfl (fun _ => rfl) trivial rfl (fun _ => rfl) (fun _ => rfl) (fun _ _ => ?_)
      refine AO.yld _ (Yld.nilCheck rfl rfl) rfl rfl rfl ?_
      refine AO.yld _ (Yld.fieldAddr Try.underlying60 rfl rfl Try.sizeOf23 rfl rfl rfl) rfl rfl rfl ?_
      refine AO.store Try.sizeOf23 rfl rfl rfl rfl rfl rfl ?_
      refine AO.nil ?_
      refine FnE.ret (pl, sd, nd, false) [0, 1, 2, 4] [0, 1, 2, 3] Try.results47 RVs.nil rfl rfl rfl ?_ ?_ ⟨⟨_, rfl, ?_⟩, ⟨_, rfl, ?_⟩, ⟨_, rfl, ?_⟩, ⟨_, rfl, ?_⟩, trivial⟩
      · -- holds
        show RunR _ _ _ _ _ _; first | (rw [hS]; exact ⟨hl, rfl, rfl⟩) | (rw [hS]; exact hb2156) | exact runE_out hJ.2.1 hE hSE hy | fail
      · -- value
        rfl
      · -- thing 0
        rfl
      · -- thing 1
        rfl
      · -- thing 2
        first | rfl | (rw [show pl.map encI = ((pl ++ [(-1 : Int)]).map encI).take pl.length by simp]; rfl)
      · -- thing 3
        rfl
    · -- c24 False
      exfalso; have h := c24; simp at h; omega
  · -- c18 False
    have hml : pl.length < gs.length := by have h := c18; rw [hM] at h; simp at h; omega
    obtain ⟨g, hg⟩ := get_some hml
    have hrowG := map_row (enc := encGroup) hg
    have hgp := group_lim (groups_at hok hg)
    obtain ⟨M, hM9⟩ : ∃ M, mostLoop (mostS (remS gs (pl.length + 1))) g.persons (sumP (gs.drop (pl.length + 1))) free pl sd (free.length - 0) ⟨best, most, bu - nd⟩ = M := ⟨_, rfl⟩
    have hSE := mostS_cons hg hM9
    have hsum := sumP_drop hg
    refine AC.skip ?_
    refine AC.seq ?_
    refine AC.region ?_
    refine AO.yld _ (Yld.move rfl) rfl rfl rfl ?_
    refine AO.yld _ (Yld.nilCheck rfl rfl) rfl rfl rfl ?_
    refine AO.yld _ (Yld.fieldAddr Try.underlying60 rfl rfl Try.sizeOf27 rfl rfl rfl) rfl rfl rfl ?_
    refine AO.yld _ (Yld.load Try.isAgg27 rfl rfl) rfl rfl rfl ?_
    refine AO.yld _ (Yld.move rfl) rfl rfl rfl ?_
    refine AO.yld _ (Yld.indexSl Try.underlying27 Try.sizeOf52 rfl rfl hrowG (by simp)) rfl rfl rfl ?_
    refine AO.yld _ (Yld.fieldAddr Try.underlying52 rfl rfl Try.sizeOf2 rfl rfl rfl) rfl rfl rfl ?_
    refine AO.yld _ (Yld.load Try.isAgg2 rfl rfl) rfl rfl rfl ?_
    refine AO.yld _ (Yld.assign rfl) rfl rfl rfl ?_
    refine AO.nil ?_
    refine AC.seq ?_
    refine AC.seq ?_
    refine AC.region ?_
    refine AO.yld _ (Yld.assign rfl) rfl rfl rfl ?_
    refine AO.nil ?_
    refine AC.block ?_
    refine AC.loopC5 [(0, _), (1, _), (4, _), (5, _)] [(900, _)] (fun (k : Nat) (b : List Int) (mo n : Int) (fu : Bool) => [(6, .p (.v (.int .i64 (k : Int))))]) (fun (k : Nat) (b : List Int) (mo n : Int) (fu : Bool) => [(0, .box 60 [.p (.sl 3 (gs.map encGroup)), .h 1, .h 2, .h 3, .p (.v (.int .i64 mo)), .p (.v (.int .i64 n)), .p (.v (.int .i64 bu)), .p (.v (.bool fu))]), (1, .vec 2 1 (free.map encI)), (2, .vec 2 1 (pl.map encI)), (3, .vec 2 1 (b.map encI))]) (fun (k : Nat) (b : List Int) (mo n : Int) (fu : Bool) => RunJ (mostS (remS gs (pl.length + 1))) g.persons (sumP (gs.drop (pl.length + 1))) free pl sd bu M k b mo n fu) (fun (k : Nat) (b : List Int) (mo n : Int) (fu : Bool) => free.length - k) 0 best most nd false ⟨rfl, rfl, rfl, rfl, trivial⟩ ⟨rfl, trivial⟩ ⟨rfl, trivial⟩ ⟨rfl, rfl, rfl, rfl, trivial⟩ ?_ (fun k b mo n fu hJ => ?_)
    · exact ⟨Nat.zero_le _, hl, .inl ⟨rfl, hM9⟩⟩
    · -- round
      have hJ1 := hJ.1
      have hJl := hJ.2.1
      refine AC.seq ?_
      refine AC.seq ?_
      refine AC.region ?_
      refine AO.yld _ (Yld.move rfl) rfl rfl rfl ?_
      refine AO.yld _ (Yld.move rfl) rfl rfl rfl ?_
      refine AO.yld _ (Yld.nilCheck rfl rfl) rfl rfl rfl ?_
      refine AO.yld _ (Yld.fieldAddr Try.underlying60 rfl rfl Try.sizeOf23 rfl rfl rfl) rfl rfl rfl ?_
      refine AO.yld _ (Yld.load Try.isAgg23 rfl rfl) rfl rfl rfl ?_
      refine AO.yld _ (Yld.len Try.underlying23 rfl rfl) rfl rfl rfl ?_
      refine AO.yld _ (Yld.int rfl rfl rfl) rfl rfl rfl ?_
      refine AO.nil ?_
      refine AC.cond _ rfl (fun c51 => ?_) (fun c51 => ?_)
      · -- c51 True
        have hk : k < free.length := by simpa using c51
        obtain ⟨z, hz⟩ := get_some hk
        have hrow := map_row (enc := encI) hz
        have hrow2 : ((free.set k (z - g.persons)).map encI)[k]? = some (encI (z - g.persons)) := map_row (by simp [hk])
        have hzr : 0 ≤ z ∧ z ≤ 40 := by have h := all_at hfree hz; simpa [okRow] using h
        refine AC.skip ?_
        refine AC.seq ?_
        refine AC.block ?_
        refine AC.seq ?_
        refine AC.seq ?_
        apply AC.drawAnyC (α := { y : Bool × Int × Bool // RunD z g.persons (sd + g.persons + (sumP (gs.drop (pl.length + 1)))) mo bu n fu y.1 y.2.1 y.2.2 }) [(0, _), (1, _), (4, _), (5, _), (6, _), (45, _), (46, _), (47, _), (48, _), (49, _), (50, _), (51, _)] [(1, _), (2, _), (3, _), (900, _)] (fun y => [(82, .p (.v (.bool y.1.1)))]) (fun y => [(0, .box 60 [.p (.sl 3 (gs.map encGroup)), .h 1, .h 2, .h 3, .p (.v (.int .i64 mo)), .p (.v (.int .i64 y.1.2.1)), .p (.v (.int .i64 bu)), .p (.v (.bool y.1.2.2))])]) (by kernel_rfl)
        · -- orders
          refine ANx.take 0 rfl (by kernel_rfl) (by kernel_rfl) (by kernel_rfl) rfl rfl rfl (YldA.move rfl) ?_
          refine ANx.take 1 rfl (by kernel_rfl) (by kernel_rfl) (by kernel_rfl) rfl rfl rfl (YldA.nilCheck rfl rfl) ?_
          refine ANx.take 2 rfl (by kernel_rfl) (by kernel_rfl) (by kernel_rfl) rfl rfl rfl (YldA.fieldAddr Try.underlying60 rfl rfl Try.sizeOf23 rfl rfl rfl) ?_
          refine ANx.take 4 rfl (by kernel_rfl) (by kernel_rfl) (by kernel_rfl) rfl rfl rfl (YldA.move rfl) ?_
          refine ANx.take 7 rfl (by kernel_rfl) (by kernel_rfl) (by kernel_rfl) rfl rfl rfl (YldA.move rfl) ?_
          refine ANx.all (rs := [3]) (by kernel_rfl) rfl ⟨?_, trivial⟩
          refine Stpx.eff rfl rfl (Eff.yld (Yld.load Try.isAgg23 rfl rfl) rfl rfl) ?_
          refine ANx.take 5 rfl (by kernel_rfl) (by kernel_rfl) (by kernel_rfl) rfl rfl rfl (YldA.indexVec Try.underlying23 Try.sizeOf2 rfl rfl rfl rfl (by first | (simpa using hk) | (simp only [List.length_set, List.length_map]; exact hk))) ?_
          refine ANx.all (rs := [6]) (by kernel_rfl) rfl ⟨?_, trivial⟩
          refine Stpx.eff rfl rfl (Eff.yld (Yld.load Try.isAgg2 rfl (Eq.trans (behind_el rfl hrow) rfl)) rfl rfl) ?_
          refine ANx.take 8 rfl (by kernel_rfl) (by kernel_rfl) (by kernel_rfl) rfl rfl rfl (YldA.int rfl rfl rfl) ?_
          refine ANx.take 9 rfl (by kernel_rfl) (by kernel_rfl) (by kernel_rfl) rfl rfl rfl (YldA.move rfl) ?_
          refine ANx.splitAt 63 _ rfl (fun s63 => ?_) (fun s63 => ?_)
          · -- s63 True
            have hd : RunD z g.persons (sd + g.persons + (sumP (gs.drop (pl.length + 1)))) mo bu n fu true n fu := .inl ⟨rfl, rfl, rfl, .inl (by simpa using s63)⟩
            refine ANx.skipF 10 rfl (by kernel_rfl) (by kernel_rfl) (by kernel_rfl) rfl rfl rfl rfl rfl ?_
            refine ANx.skipF 11 rfl (by kernel_rfl) (by kernel_rfl) (by kernel_rfl) rfl rfl rfl rfl rfl ?_
            refine ANx.skipF 12 rfl (by kernel_rfl) (by kernel_rfl) (by kernel_rfl) rfl rfl rfl rfl rfl ?_
            refine ANx.skipF 13 rfl (by kernel_rfl) (by kernel_rfl) (by kernel_rfl) rfl rfl rfl rfl rfl ?_
            refine ANx.skipF 14 rfl (by kernel_rfl) (by kernel_rfl) (by kernel_rfl) rfl rfl rfl rfl rfl ?_
            refine ANx.skipF 15 rfl (by kernel_rfl) (by kernel_rfl) (by kernel_rfl) rfl rfl rfl rfl rfl ?_
            refine ANx.skipF 16 rfl (by kernel_rfl) (by kernel_rfl) (by kernel_rfl) rfl rfl rfl rfl rfl ?_
            refine ANx.skipF 17 rfl (by kernel_rfl) (by kernel_rfl) (by kernel_rfl) rfl rfl rfl rfl rfl ?_
            refine ANx.skipF 18 rfl (by kernel_rfl) (by kernel_rfl) (by kernel_rfl) rfl rfl rfl rfl rfl ?_
            refine ANx.skipF 19 rfl (by kernel_rfl) (by kernel_rfl) (by kernel_rfl) rfl rfl rfl rfl rfl ?_
            refine ANx.skipF 20 rfl (by kernel_rfl) (by kernel_rfl) (by kernel_rfl) rfl rfl rfl rfl rfl ?_
            refine ANx.skipF 21 rfl (by kernel_rfl) (by kernel_rfl) (by kernel_rfl) rfl rfl rfl rfl rfl ?_
            refine ANx.skipF 22 rfl (by kernel_rfl) (by kernel_rfl) (by kernel_rfl) rfl rfl rfl rfl rfl ?_
            refine ANx.take 23 rfl (by kernel_rfl) (by kernel_rfl) (by kernel_rfl) rfl rfl rfl (YldA.pickT rfl rfl) ?_
            refine ANx.take 24 rfl (by kernel_rfl) (by kernel_rfl) (by kernel_rfl) rfl rfl rfl (YldA.move rfl) ?_
            refine ANx.skipF 25 rfl (by kernel_rfl) (by kernel_rfl) (by kernel_rfl) rfl rfl rfl rfl rfl ?_
            refine ANx.skipF 26 rfl (by kernel_rfl) (by kernel_rfl) (by kernel_rfl) rfl rfl rfl rfl rfl ?_
            refine ANx.skipF 27 rfl (by kernel_rfl) (by kernel_rfl) (by kernel_rfl) rfl rfl rfl rfl rfl ?_
            refine ANx.take 28 rfl (by kernel_rfl) (by kernel_rfl) (by kernel_rfl) rfl rfl rfl (YldA.pickT rfl rfl) ?_
            exact ANx.doneC ⟨(_, _, _), by exact hd⟩ (by kernel_rfl) ⟨rfl, trivial⟩ ⟨rfl, trivial⟩ ⟨rfl, rfl, rfl, rfl, rfl, rfl, rfl, rfl, rfl, rfl, rfl, rfl, trivial⟩ ⟨rfl, rfl, rfl, rfl, trivial⟩
          · -- s63 False
            have hzp : ¬ z < g.persons := by simpa using s63
            refine ANx.takeG 10 rfl (by kernel_rfl) (by kernel_rfl) (by kernel_rfl) rfl rfl rfl rfl rfl (YldA.move rfl) ?_
            refine ANx.takeG 11 rfl (by kernel_rfl) (by kernel_rfl) (by kernel_rfl) rfl rfl rfl rfl rfl (YldA.move rfl) ?_
            refine ANx.takeG 12 rfl (by kernel_rfl) (by kernel_rfl) (by kernel_rfl) rfl rfl rfl rfl rfl (YldA.nilCheck rfl rfl) ?_
            refine ANx.takeG 13 rfl (by kernel_rfl) (by kernel_rfl) (by kernel_rfl) rfl rfl rfl rfl rfl (YldA.fieldAddr Try.underlying60 rfl rfl Try.sizeOf27 rfl rfl rfl) ?_
            refine ANx.takeG 15 rfl (by kernel_rfl) (by kernel_rfl) (by kernel_rfl) rfl rfl rfl rfl rfl (YldA.move rfl) ?_
            refine ANx.takeG 18 rfl (by kernel_rfl) (by kernel_rfl) (by kernel_rfl) rfl rfl rfl rfl rfl (YldA.move rfl) ?_
            refine ANx.takeG 19 rfl (by kernel_rfl) (by kernel_rfl) (by kernel_rfl) rfl rfl rfl rfl rfl (YldA.nilCheck rfl rfl) ?_
            refine ANx.takeG 20 rfl (by kernel_rfl) (by kernel_rfl) (by kernel_rfl) rfl rfl rfl rfl rfl (YldA.fieldAddr Try.underlying60 rfl rfl Try.sizeOf2 rfl rfl rfl) ?_
            refine ANx.all (rs := [14, 21]) (by kernel_rfl) rfl ⟨?_, ?_, trivial⟩
            · -- 14
              refine Stpx.effG rfl rfl rfl rfl (Eff.yld (Yld.load Try.isAgg27 rfl rfl) rfl rfl) ?_
              refine ANx.all (rs := [16, 21]) (by kernel_rfl) rfl ⟨?_, ?_, trivial⟩
              · -- 16
                refine Stpx.effG rfl rfl rfl rfl (Eff.yld (Yld.call rfl rfl Try.call67 rfl rfl rfl (spec_l24Sum_c (by first | assumption | omega) (by assumption) (by first | omega | (simp; omega))) rfl) rfl rfl) ?_
                refine ANx.takeG 17 rfl (by kernel_rfl) (by kernel_rfl) (by kernel_rfl) rfl rfl rfl rfl rfl (YldA.add rfl rfl (by omega) (by omega)) ?_
                refine ANx.all (rs := [21]) (by kernel_rfl) rfl ⟨?_, trivial⟩
                refine Stpx.effG rfl rfl rfl rfl (Eff.yld (Yld.load Try.isAgg2 rfl rfl) rfl rfl) ?_
                refine ANx.takeG 22 rfl (by kernel_rfl) (by kernel_rfl) (by kernel_rfl) rfl rfl rfl rfl rfl (YldA.int rfl rfl rfl) ?_
                refine ANx.take 23 rfl (by kernel_rfl) (by kernel_rfl) (by kernel_rfl) rfl rfl rfl (YldA.pickF rfl rfl) ?_
                refine ANx.take 24 rfl (by kernel_rfl) (by kernel_rfl) (by kernel_rfl) rfl rfl rfl (YldA.move rfl) ?_
                refine ANx.splitAt 78 _ rfl (fun s78 => ?_) (fun s78 => ?_)
                · -- s78 True
                  have hd : RunD z g.persons (sd + g.persons + (sumP (gs.drop (pl.length + 1)))) mo bu n fu true n fu := .inl ⟨rfl, rfl, rfl, .inr (by have h := s78; rw [et0] at h; simp at h; omega)⟩
                  refine ANx.skipF 25 rfl (by kernel_rfl) (by kernel_rfl) (by kernel_rfl) rfl rfl rfl rfl rfl ?_
                  refine ANx.skipF 26 rfl (by kernel_rfl) (by kernel_rfl) (by kernel_rfl) rfl rfl rfl rfl rfl ?_
                  refine ANx.skipF 27 rfl (by kernel_rfl) (by kernel_rfl) (by kernel_rfl) rfl rfl rfl rfl rfl ?_
                  refine ANx.take 28 rfl (by kernel_rfl) (by kernel_rfl) (by kernel_rfl) rfl rfl rfl (YldA.pickT rfl rfl) ?_
                  exact ANx.doneC ⟨(_, _, _), by exact hd⟩ (by kernel_rfl) ⟨rfl, trivial⟩ ⟨rfl, trivial⟩ ⟨rfl, rfl, rfl, rfl, rfl, rfl, rfl, rfl, rfl, rfl, rfl, rfl, trivial⟩ ⟨rfl, rfl, rfl, rfl, trivial⟩
                · -- s78 False
                  have hbd : ¬ (sd + g.persons + (sumP (gs.drop (pl.length + 1)))) ≤ mo := by have h := s78; rw [et0] at h; simp at h; omega
                  refine ANx.takeG 25 rfl (by kernel_rfl) (by kernel_rfl) (by kernel_rfl) rfl rfl rfl rfl rfl (YldA.move rfl) ?_
                  refine ANx.all (rs := [26]) (by kernel_rfl) rfl ⟨?_, trivial⟩
                  refine Stpx.effXG rfl rfl rfl rfl (EffX.callW [0, 1, 2, 3] [0, 1, 2, 3] [0, 1, 2, 3] rfl rfl Try.call63 rfl (spec_node_y (by omega)) (.own rfl) rfl (fun ⟨_, _, _⟩ => rfl) ⟨rfl, rfl, rfl, rfl, trivial⟩ rfl (fun ⟨_, _, _⟩ => rfl) (fun ⟨_, _, _⟩ => rfl)) ?_
                  rintro _ ⟨⟨n280, fu280, go80⟩, hn280, rfl⟩
                  dsimp only at hn280
                  have hd : RunD z g.persons (sd + g.persons + (sumP (gs.drop (pl.length + 1)))) mo bu n fu (!go80) n280 fu280 := .inr ⟨⟨hzp, hbd⟩, by rw [Bool.not_not]; exact hn280⟩
                  refine ANx.takeG 27 rfl (by kernel_rfl) (by kernel_rfl) (by kernel_rfl) rfl rfl rfl rfl rfl (YldA.not rfl) ?_
                  refine ANx.take 28 rfl (by kernel_rfl) (by kernel_rfl) (by kernel_rfl) rfl rfl rfl (YldA.pickF rfl rfl) ?_
                  exact ANx.doneC ⟨(_, _, _), by exact hd⟩ (by kernel_rfl) ⟨rfl, trivial⟩ ⟨rfl, trivial⟩ ⟨rfl, rfl, rfl, rfl, rfl, rfl, rfl, rfl, rfl, rfl, rfl, rfl, trivial⟩ ⟨rfl, rfl, rfl, rfl, trivial⟩
              · -- 21
                refine Stpx.effG rfl rfl rfl rfl (Eff.yld (Yld.load Try.isAgg2 rfl rfl) rfl rfl) ?_
                refine ANx.all (rs := [16]) (by kernel_rfl) rfl ⟨?_, trivial⟩
                refine Stpx.effG rfl rfl rfl rfl (Eff.yld (Yld.call rfl rfl Try.call67 rfl rfl rfl (spec_l24Sum_c (by first | assumption | omega) (by assumption) (by first | omega | (simp; omega))) rfl) rfl rfl) ?_
                refine ANx.takeG 17 rfl (by kernel_rfl) (by kernel_rfl) (by kernel_rfl) rfl rfl rfl rfl rfl (YldA.add rfl rfl (by omega) (by omega)) ?_
                refine ANx.takeG 22 rfl (by kernel_rfl) (by kernel_rfl) (by kernel_rfl) rfl rfl rfl rfl rfl (YldA.int rfl rfl rfl) ?_
                refine ANx.take 23 rfl (by kernel_rfl) (by kernel_rfl) (by kernel_rfl) rfl rfl rfl (YldA.pickF rfl rfl) ?_
                refine ANx.take 24 rfl (by kernel_rfl) (by kernel_rfl) (by kernel_rfl) rfl rfl rfl (YldA.move rfl) ?_
                refine ANx.splitAt 78 _ rfl (fun s78 => ?_) (fun s78 => ?_)
                · -- s78 True
                  have hd : RunD z g.persons (sd + g.persons + (sumP (gs.drop (pl.length + 1)))) mo bu n fu true n fu := .inl ⟨rfl, rfl, rfl, .inr (by have h := s78; rw [et0] at h; simp at h; omega)⟩
                  refine ANx.skipF 25 rfl (by kernel_rfl) (by kernel_rfl) (by kernel_rfl) rfl rfl rfl rfl rfl ?_
                  refine ANx.skipF 26 rfl (by kernel_rfl) (by kernel_rfl) (by kernel_rfl) rfl rfl rfl rfl rfl ?_
                  refine ANx.skipF 27 rfl (by kernel_rfl) (by kernel_rfl) (by kernel_rfl) rfl rfl rfl rfl rfl ?_
                  refine ANx.take 28 rfl (by kernel_rfl) (by kernel_rfl) (by kernel_rfl) rfl rfl rfl (YldA.pickT rfl rfl) ?_
                  exact ANx.doneC ⟨(_, _, _), by exact hd⟩ (by kernel_rfl) ⟨rfl, trivial⟩ ⟨rfl, trivial⟩ ⟨rfl, rfl, rfl, rfl, rfl, rfl, rfl, rfl, rfl, rfl, rfl, rfl, trivial⟩ ⟨rfl, rfl, rfl, rfl, trivial⟩
                · -- s78 False
                  have hbd : ¬ (sd + g.persons + (sumP (gs.drop (pl.length + 1)))) ≤ mo := by have h := s78; rw [et0] at h; simp at h; omega
                  refine ANx.takeG 25 rfl (by kernel_rfl) (by kernel_rfl) (by kernel_rfl) rfl rfl rfl rfl rfl (YldA.move rfl) ?_
                  refine ANx.all (rs := [26]) (by kernel_rfl) rfl ⟨?_, trivial⟩
                  refine Stpx.effXG rfl rfl rfl rfl (EffX.callW [0, 1, 2, 3] [0, 1, 2, 3] [0, 1, 2, 3] rfl rfl Try.call63 rfl (spec_node_y (by omega)) (.own rfl) rfl (fun ⟨_, _, _⟩ => rfl) ⟨rfl, rfl, rfl, rfl, trivial⟩ rfl (fun ⟨_, _, _⟩ => rfl) (fun ⟨_, _, _⟩ => rfl)) ?_
                  rintro _ ⟨⟨n280, fu280, go80⟩, hn280, rfl⟩
                  dsimp only at hn280
                  have hd : RunD z g.persons (sd + g.persons + (sumP (gs.drop (pl.length + 1)))) mo bu n fu (!go80) n280 fu280 := .inr ⟨⟨hzp, hbd⟩, by rw [Bool.not_not]; exact hn280⟩
                  refine ANx.takeG 27 rfl (by kernel_rfl) (by kernel_rfl) (by kernel_rfl) rfl rfl rfl rfl rfl (YldA.not rfl) ?_
                  refine ANx.take 28 rfl (by kernel_rfl) (by kernel_rfl) (by kernel_rfl) rfl rfl rfl (YldA.pickF rfl rfl) ?_
                  exact ANx.doneC ⟨(_, _, _), by exact hd⟩ (by kernel_rfl) ⟨rfl, trivial⟩ ⟨rfl, trivial⟩ ⟨rfl, rfl, rfl, rfl, rfl, rfl, rfl, rfl, rfl, rfl, rfl, rfl, trivial⟩ ⟨rfl, rfl, rfl, rfl, trivial⟩
            · -- 21
              refine Stpx.effG rfl rfl rfl rfl (Eff.yld (Yld.load Try.isAgg2 rfl rfl) rfl rfl) ?_
              refine ANx.all (rs := [14]) (by kernel_rfl) rfl ⟨?_, trivial⟩
              refine Stpx.effG rfl rfl rfl rfl (Eff.yld (Yld.load Try.isAgg27 rfl rfl) rfl rfl) ?_
              refine ANx.all (rs := [16]) (by kernel_rfl) rfl ⟨?_, trivial⟩
              refine Stpx.effG rfl rfl rfl rfl (Eff.yld (Yld.call rfl rfl Try.call67 rfl rfl rfl (spec_l24Sum_c (by first | assumption | omega) (by assumption) (by first | omega | (simp; omega))) rfl) rfl rfl) ?_
              refine ANx.takeG 17 rfl (by kernel_rfl) (by kernel_rfl) (by kernel_rfl) rfl rfl rfl rfl rfl (YldA.add rfl rfl (by omega) (by omega)) ?_
              refine ANx.takeG 22 rfl (by kernel_rfl) (by kernel_rfl) (by kernel_rfl) rfl rfl rfl rfl rfl (YldA.int rfl rfl rfl) ?_
              refine ANx.take 23 rfl (by kernel_rfl) (by kernel_rfl) (by kernel_rfl) rfl rfl rfl (YldA.pickF rfl rfl) ?_
              refine ANx.take 24 rfl (by kernel_rfl) (by kernel_rfl) (by kernel_rfl) rfl rfl rfl (YldA.move rfl) ?_
              refine ANx.splitAt 78 _ rfl (fun s78 => ?_) (fun s78 => ?_)
              · -- s78 True
                have hd : RunD z g.persons (sd + g.persons + (sumP (gs.drop (pl.length + 1)))) mo bu n fu true n fu := .inl ⟨rfl, rfl, rfl, .inr (by have h := s78; rw [et0] at h; simp at h; omega)⟩
                refine ANx.skipF 25 rfl (by kernel_rfl) (by kernel_rfl) (by kernel_rfl) rfl rfl rfl rfl rfl ?_
                refine ANx.skipF 26 rfl (by kernel_rfl) (by kernel_rfl) (by kernel_rfl) rfl rfl rfl rfl rfl ?_
                refine ANx.skipF 27 rfl (by kernel_rfl) (by kernel_rfl) (by kernel_rfl) rfl rfl rfl rfl rfl ?_
                refine ANx.take 28 rfl (by kernel_rfl) (by kernel_rfl) (by kernel_rfl) rfl rfl rfl (YldA.pickT rfl rfl) ?_
                exact ANx.doneC ⟨(_, _, _), by exact hd⟩ (by kernel_rfl) ⟨rfl, trivial⟩ ⟨rfl, trivial⟩ ⟨rfl, rfl, rfl, rfl, rfl, rfl, rfl, rfl, rfl, rfl, rfl, rfl, trivial⟩ ⟨rfl, rfl, rfl, rfl, trivial⟩
              · -- s78 False
                have hbd : ¬ (sd + g.persons + (sumP (gs.drop (pl.length + 1)))) ≤ mo := by have h := s78; rw [et0] at h; simp at h; omega
                refine ANx.takeG 25 rfl (by kernel_rfl) (by kernel_rfl) (by kernel_rfl) rfl rfl rfl rfl rfl (YldA.move rfl) ?_
                refine ANx.all (rs := [26]) (by kernel_rfl) rfl ⟨?_, trivial⟩
                refine Stpx.effXG rfl rfl rfl rfl (EffX.callW [0, 1, 2, 3] [0, 1, 2, 3] [0, 1, 2, 3] rfl rfl Try.call63 rfl (spec_node_y (by omega)) (.own rfl) rfl (fun ⟨_, _, _⟩ => rfl) ⟨rfl, rfl, rfl, rfl, trivial⟩ rfl (fun ⟨_, _, _⟩ => rfl) (fun ⟨_, _, _⟩ => rfl)) ?_
                rintro _ ⟨⟨n280, fu280, go80⟩, hn280, rfl⟩
                dsimp only at hn280
                have hd : RunD z g.persons (sd + g.persons + (sumP (gs.drop (pl.length + 1)))) mo bu n fu (!go80) n280 fu280 := .inr ⟨⟨hzp, hbd⟩, by rw [Bool.not_not]; exact hn280⟩
                refine ANx.takeG 27 rfl (by kernel_rfl) (by kernel_rfl) (by kernel_rfl) rfl rfl rfl rfl rfl (YldA.not rfl) ?_
                refine ANx.take 28 rfl (by kernel_rfl) (by kernel_rfl) (by kernel_rfl) rfl rfl rfl (YldA.pickF rfl rfl) ?_
                exact ANx.doneC ⟨(_, _, _), by exact hd⟩ (by kernel_rfl) ⟨rfl, trivial⟩ ⟨rfl, trivial⟩ ⟨rfl, rfl, rfl, rfl, rfl, rfl, rfl, rfl, rfl, rfl, rfl, rfl, trivial⟩ ⟨rfl, rfl, rfl, rfl, trivial⟩
        · -- behind
          rintro y
          obtain ⟨⟨yo, yn, yf⟩, hy⟩ := y
          dsimp only at hy
          dsimp only
          refine AC.cond _ rfl (fun c82 => ?_) (fun c82 => ?_)
          · -- c82 True
            subst c82
            obtain ⟨nb, hnb⟩ : ∃ nb, nb = b := ⟨_, rfl⟩
            obtain ⟨nm, hnm⟩ : ∃ nm, nm = mo := ⟨_, rfl⟩
            obtain ⟨nn, hnn⟩ : ∃ nn, nn = yn := ⟨_, rfl⟩
            obtain ⟨nf, hnf⟩ : ∃ nf, nf = yf := ⟨_, rfl⟩
            have hJn : RunJ (mostS (remS gs (pl.length + 1))) g.persons (sumP (gs.drop (pl.length + 1))) free pl sd bu M (k + 1) nb nm nn nf := by rw [hnb, hnm, hnn, hnf]; exact runJ_out hJ hz hy
            refine AC.exit rfl ?_
            refine AC.region ?_
            refine AO.yld _ (Yld.move rfl) rfl rfl rfl ?_
            refine AO.yld _ (Yld.add rfl rfl (by omega) (by omega)) rfl rfl rfl ?_
            refine AO.yld _ (Yld.assign rfl) rfl rfl rfl ?_
            refine AO.nil ?_
            refine AC.back ⟨k + 1, nb, nm, nn, nf, ?_, ?_, ⟨?_, trivial⟩, ⟨?_, ?_, ?_, ?_, trivial⟩, ⟨rfl, rfl, rfl, rfl, trivial⟩, ⟨rfl, trivial⟩⟩
            · exact hJn
            · omega
            · rfl
            · first | (subst hnm hnn hnf; rfl) | rfl
            · first | rfl | (rw [rows_back (y := g.persons) hz]; rfl)
            · first | rfl | (rw [show pl.map encI = ((pl ++ [(k : Int)]).map encI).take pl.length by simp]; rfl)
            · first | (subst hnb; rfl) | rfl
          · -- c82 False
            subst c82
            obtain ⟨hzp, hbd, rfl, rfl, hfu, hnd⟩ := runD_go hy
            have hpk : (pl ++ [(k : Int)]).length = pl.length + 1 := by simp
            have eSR : (mostS (remS gs (pl ++ [(k : Int)]).length) (free.set k (z - g.persons)) (pl ++ [(k : Int)]) (sd + g.persons) ⟨b, mo, bu - (n + 1)⟩) = (mostS (remS gs (pl.length + 1))) (free.set k (z - g.persons)) (pl ++ [(k : Int)]) (sd + g.persons) ⟨b, mo, bu - (n + 1)⟩ := by rw [hpk]
            have hset : (free.set k (z - g.persons)).all okRow = true := rows_set hfree (by simp [okRow]; omega)
            refine AC.skip ?_
            refine AC.seq ?_
            refine AC.region ?_
            refine AO.yld _ (Yld.move rfl) rfl rfl rfl ?_
            refine AO.yld _ (Yld.nilCheck rfl rfl) rfl rfl rfl ?_
            refine AO.yld _ (Yld.fieldAddr Try.underlying60 rfl rfl Try.sizeOf23 rfl rfl rfl) rfl rfl rfl ?_
            refine AO.yld _ (Yld.load Try.isAgg23 rfl rfl) rfl rfl rfl ?_
            refine AO.yld _ (Yld.move rfl) rfl rfl rfl ?_
            refine AO.yld _ (Yld.indexVec Try.underlying23 Try.sizeOf2 rfl rfl rfl rfl (by first | (simpa using hk) | (simp only [List.length_set, List.length_map]; exact hk))) rfl rfl rfl ?_
            refine AO.yld _ (Yld.load Try.isAgg2 rfl (Eq.trans (behind_el rfl hrow) rfl)) rfl rfl rfl ?_
            refine AO.yld _ (Yld.move rfl) rfl rfl rfl ?_
            refine AO.yld _ (Yld.sub rfl rfl (by omega) (by omega)) rfl rfl rfl ?_
            refine AO.yld _ (Yld.indexVec Try.underlying23 Try.sizeOf2 rfl rfl rfl rfl (by first | (simpa using hk) | (simp only [List.length_set, List.length_map]; exact hk))) rfl rfl rfl ?_
            refine AO.store Try.sizeOf2 rfl rfl rfl rfl rfl (store_el rfl hrow rfl rfl) ?_
            refine AO.nil ?_
            refine AC.seq ?_
            refine AC.region ?_
            refine AO.yld _ (Yld.move rfl) rfl rfl rfl ?_
            refine AO.yld _ (Yld.move rfl) rfl rfl rfl ?_
            refine AO.yld _ (Yld.nilCheck rfl rfl) rfl rfl rfl ?_
            refine AO.yld _ (Yld.fieldAddr Try.underlying60 rfl rfl Try.sizeOf23 rfl rfl rfl) rfl rfl rfl ?_
            refine AO.yld _ (Yld.load Try.isAgg23 rfl rfl) rfl rfl rfl ?_
            refine AO.yld _ (Yld.move rfl) rfl rfl rfl ?_
            refine AO.buildSlice (rows := [[_]]) 4 Try.underlying23 ty2 rfl rfl rfl rfl rfl rfl rfl rfl rfl ?_
            refine AO.append 2 Try.underlying23 ty2 rfl rfl rfl rfl rfl rfl rfl (by simp [pvOne]) (by simp only [List.length_map, List.length_cons, List.length_nil]; omega) (by simp only [List.length_map, List.length_cons, List.length_nil]; omega) rfl ?_
            refine AO.yld _ (Yld.nilCheck rfl rfl) rfl rfl rfl ?_
            refine AO.yld _ (Yld.fieldAddr Try.underlying60 rfl rfl Try.sizeOf23 rfl rfl rfl) rfl rfl rfl ?_
            refine AO.store Try.sizeOf23 rfl rfl rfl rfl rfl rfl ?_
            refine AO.nil ?_
            refine AC.seq ?_
            refine AC.region ?_
            refine AO.yld _ (Yld.move rfl) rfl rfl rfl ?_
            refine AO.vecEq 1 ((free.set k (z - g.persons)).map encI) rfl int_set ?_
            refine AO.vecEq 2 ((pl ++ [(k : Int)]).map encI) rfl int_snoc ?_
            refine AO.yld _ (Yld.move rfl) rfl rfl rfl ?_
            refine AO.yld _ (Yld.move rfl) rfl rfl rfl ?_
            refine AO.yld _ (Yld.add rfl rfl (by omega) (by omega)) rfl rfl rfl ?_
            refine AO.callW (wantedN rfl) [0, 1, 2, 3] [0, 1, 2, 3] [0, 1, 2, 3] rfl rfl Try.call47 rfl (ih (free := free.set k (z - g.persons)) (pl := pl ++ [(k : Int)]) (best := b) (sd := sd + g.persons) (most := mo) (nd := n + 1) (by simp [hpl]) hset (by simpa using hfl) (by omega) (by simp; omega) (by rw [hpk]; omega) (by omega)) (.own rfl) rfl (fun ⟨_, _, _, _⟩ => rfl) ⟨rfl, rfl, rfl, rfl, trivial⟩ rfl (fun ⟨_, _, _, _⟩ => rfl) (fun ⟨_, _, _, _⟩ => rfl) (fun ⟨b2107, m2107, n2107, fu2107⟩ hb2107 => ?_)
            dsimp only at hb2107
            have hJn9 := runJ_next hJ hfu hnd hz hzp hbd (by rw [← eSR]; exact hb2107)
            obtain ⟨nb, hnb⟩ : ∃ nb, nb = b2107 := ⟨_, rfl⟩
            obtain ⟨nm, hnm⟩ : ∃ nm, nm = m2107 := ⟨_, rfl⟩
            obtain ⟨nn, hnn⟩ : ∃ nn, nn = n2107 := ⟨_, rfl⟩
            obtain ⟨nf, hnf⟩ : ∃ nf, nf = fu2107 := ⟨_, rfl⟩
            have hJn : RunJ (mostS (remS gs (pl.length + 1))) g.persons (sumP (gs.drop (pl.length + 1))) free pl sd bu M (k + 1) nb nm nn nf := by rw [hnb, hnm, hnn, hnf]; exact hJn9
            refine AO.nil ?_
            refine AC.seq ?_
            refine AC.region ?_
            refine AO.yld _ (Yld.move rfl) rfl rfl rfl ?_
            refine AO.yld _ (Yld.move rfl) rfl rfl rfl ?_
            refine AO.yld _ (Yld.nilCheck rfl rfl) rfl rfl rfl ?_
            refine AO.yld _ (Yld.fieldAddr Try.underlying60 rfl rfl Try.sizeOf23 rfl rfl rfl) rfl rfl rfl ?_
            refine AO.yld _ (Yld.load Try.isAgg23 rfl rfl) rfl rfl rfl ?_
            refine AO.yld _ (Yld.move rfl) rfl rfl rfl ?_
            refine AO.truncate 2 Try.underlying23 Try.sizeOf2 rfl rfl (.some (n := pl.length) rfl (by simp)) (by simp) rfl ?_
            refine AO.yld _ (Yld.nilCheck rfl rfl) rfl rfl rfl ?_
            refine AO.yld _ (Yld.fieldAddr Try.underlying60 rfl rfl Try.sizeOf23 rfl rfl rfl) rfl rfl rfl ?_
            refine AO.store Try.sizeOf23 rfl rfl rfl rfl rfl rfl ?_
            refine AO.nil ?_
            refine AC.region ?_
            refine AO.yld _ (Yld.move rfl) rfl rfl rfl ?_
            refine AO.yld _ (Yld.nilCheck rfl rfl) rfl rfl rfl ?_
            refine AO.yld _ (Yld.fieldAddr Try.underlying60 rfl rfl Try.sizeOf23 rfl rfl rfl) rfl rfl rfl ?_
            refine AO.yld _ (Yld.load Try.isAgg23 rfl rfl) rfl rfl rfl ?_
            refine AO.yld _ (Yld.move rfl) rfl rfl rfl ?_
            refine AO.yld _ (Yld.indexVec Try.underlying23 Try.sizeOf2 rfl rfl rfl rfl (by first | (simpa using hk) | (simp only [List.length_set, List.length_map]; exact hk))) rfl rfl rfl ?_
            refine AO.yld _ (Yld.load Try.isAgg2 rfl (Eq.trans (behind_el rfl hrow2) rfl)) rfl rfl rfl ?_
            refine AO.yld _ (Yld.move rfl) rfl rfl rfl ?_
            refine AO.yld _ (Yld.add rfl rfl (by omega) (by omega)) rfl rfl rfl ?_
            refine AO.yld _ (Yld.indexVec Try.underlying23 Try.sizeOf2 rfl rfl rfl rfl (by first | (simpa using hk) | (simp only [List.length_set, List.length_map]; exact hk))) rfl rfl rfl ?_
            refine AO.store Try.sizeOf2 rfl rfl rfl rfl rfl (store_el rfl hrow2 rfl rfl) ?_
            refine AO.nil ?_
            refine AC.mark ?_
            refine AC.region ?_
            refine AO.yld _ (Yld.move rfl) rfl rfl rfl ?_
            refine AO.yld _ (Yld.add rfl rfl (by omega) (by omega)) rfl rfl rfl ?_
            refine AO.yld _ (Yld.assign rfl) rfl rfl rfl ?_
            refine AO.nil ?_
            refine AC.back ⟨k + 1, nb, nm, nn, nf, ?_, ?_, ⟨?_, trivial⟩, ⟨?_, ?_, ?_, ?_, trivial⟩, ⟨rfl, rfl, rfl, rfl, trivial⟩, ⟨rfl, trivial⟩⟩
            · exact hJn
            · omega
            · rfl
            · first | (subst hnm hnn hnf; rfl) | rfl
            · first | rfl | (rw [rows_back (y := g.persons) hz]; rfl)
            · first | rfl | (rw [show pl.map encI = ((pl ++ [(k : Int)]).map encI).take pl.length by simp]; rfl)
            · first | (subst hnb; rfl) | rfl
      · -- c51 False
        obtain rfl : k = free.length := by have h := c51; simp at h; omega
        have hE := runJ_end hJ
        refine AC.exit rfl ?_
        refine AC.seq ?_
        apply AC.drawAnyC (α := { y : Bool × Int × Bool // RunE (sd + (sumP (gs.drop (pl.length + 1)))) mo bu n fu y.1 y.2.1 y.2.2 }) [(0, _), (1, _), (4, _), (5, _), (6, _), (45, _), (46, _), (47, _), (48, _), (49, _), (50, _), (51, _)] [(1, _), (2, _), (3, _), (900, _)] (fun y => [(144, .p (.v (.bool y.1.1)))]) (fun y => [(0, .box 60 [.p (.sl 3 (gs.map encGroup)), .h 1, .h 2, .h 3, .p (.v (.int .i64 mo)), .p (.v (.int .i64 y.1.2.1)), .p (.v (.int .i64 bu)), .p (.v (.bool y.1.2.2))])]) (by kernel_rfl)
        · -- orders
          refine ANx.take 0 rfl (by kernel_rfl) (by kernel_rfl) (by kernel_rfl) rfl rfl rfl (YldA.move rfl) ?_
          refine ANx.take 1 rfl (by kernel_rfl) (by kernel_rfl) (by kernel_rfl) rfl rfl rfl (YldA.move rfl) ?_
          refine ANx.take 2 rfl (by kernel_rfl) (by kernel_rfl) (by kernel_rfl) rfl rfl rfl (YldA.nilCheck rfl rfl) ?_
          refine ANx.take 3 rfl (by kernel_rfl) (by kernel_rfl) (by kernel_rfl) rfl rfl rfl (YldA.fieldAddr Try.underlying60 rfl rfl Try.sizeOf27 rfl rfl rfl) ?_
          refine ANx.take 5 rfl (by kernel_rfl) (by kernel_rfl) (by kernel_rfl) rfl rfl rfl (YldA.move rfl) ?_
          refine ANx.take 6 rfl (by kernel_rfl) (by kernel_rfl) (by kernel_rfl) rfl rfl rfl (YldA.add rfl rfl (by omega) (by omega)) ?_
          refine ANx.take 9 rfl (by kernel_rfl) (by kernel_rfl) (by kernel_rfl) rfl rfl rfl (YldA.move rfl) ?_
          refine ANx.take 10 rfl (by kernel_rfl) (by kernel_rfl) (by kernel_rfl) rfl rfl rfl (YldA.nilCheck rfl rfl) ?_
          refine ANx.take 11 rfl (by kernel_rfl) (by kernel_rfl) (by kernel_rfl) rfl rfl rfl (YldA.fieldAddr Try.underlying60 rfl rfl Try.sizeOf2 rfl rfl rfl) ?_
          refine ANx.all (rs := [4, 12]) (by kernel_rfl) rfl ⟨?_, ?_, trivial⟩
          · -- 4
            refine Stpx.eff rfl rfl (Eff.yld (Yld.load Try.isAgg27 rfl rfl) rfl rfl) ?_
            refine ANx.all (rs := [7, 12]) (by kernel_rfl) rfl ⟨?_, ?_, trivial⟩
            · -- 7
              refine Stpx.eff rfl rfl (Eff.yld (Yld.call rfl rfl Try.call67 rfl rfl rfl (spec_l24Sum_c (by first | assumption | omega) (by assumption) (by first | omega | (simp; omega))) rfl) rfl rfl) ?_
              refine ANx.take 8 rfl (by kernel_rfl) (by kernel_rfl) (by kernel_rfl) rfl rfl rfl (YldA.add rfl rfl (by omega) (by omega)) ?_
              refine ANx.all (rs := [12]) (by kernel_rfl) rfl ⟨?_, trivial⟩
              refine Stpx.eff rfl rfl (Eff.yld (Yld.load Try.isAgg2 rfl rfl) rfl rfl) ?_
              refine ANx.take 13 rfl (by kernel_rfl) (by kernel_rfl) (by kernel_rfl) rfl rfl rfl (YldA.int rfl rfl rfl) ?_
              refine ANx.take 14 rfl (by kernel_rfl) (by kernel_rfl) (by kernel_rfl) rfl rfl rfl (YldA.move rfl) ?_
              refine ANx.splitAt 141 _ rfl (fun s141 => ?_) (fun s141 => ?_)
              · -- s141 True
                have hbd : ¬ (sd + (sumP (gs.drop (pl.length + 1)))) ≤ mo := by have h := s141; rw [et1] at h; simp at h; omega
                refine ANx.takeG 15 rfl (by kernel_rfl) (by kernel_rfl) (by kernel_rfl) rfl rfl rfl rfl rfl (YldA.move rfl) ?_
                refine ANx.all (rs := [16]) (by kernel_rfl) rfl ⟨?_, trivial⟩
                refine Stpx.effXG rfl rfl rfl rfl (EffX.callW [0, 1, 2, 3] [0, 1, 2, 3] [0, 1, 2, 3] rfl rfl Try.call63 rfl (spec_node_y (by omega)) (.own rfl) rfl (fun ⟨_, _, _⟩ => rfl) ⟨rfl, rfl, rfl, rfl, trivial⟩ rfl (fun ⟨_, _, _⟩ => rfl) (fun ⟨_, _, _⟩ => rfl)) ?_
                rintro _ ⟨⟨n2143, fu2143, go143⟩, hn2143, rfl⟩
                dsimp only at hn2143
                have hd : RunE (sd + (sumP (gs.drop (pl.length + 1)))) mo bu n fu go143 n2143 fu2143 := .inr ⟨hbd, hn2143⟩
                refine ANx.take 17 rfl (by kernel_rfl) (by kernel_rfl) (by kernel_rfl) rfl rfl rfl (YldA.pickT rfl rfl) ?_
                exact ANx.doneC ⟨(_, _, _), by exact hd⟩ (by kernel_rfl) ⟨rfl, trivial⟩ ⟨rfl, trivial⟩ ⟨rfl, rfl, rfl, rfl, rfl, rfl, rfl, rfl, rfl, rfl, rfl, rfl, trivial⟩ ⟨rfl, rfl, rfl, rfl, trivial⟩
              · -- s141 False
                have hd : RunE (sd + (sumP (gs.drop (pl.length + 1)))) mo bu n fu false n fu := .inl ⟨rfl, rfl, rfl, by have h := s141; rw [et1] at h; simp at h; omega⟩
                refine ANx.skipT 15 rfl (by kernel_rfl) (by kernel_rfl) (by kernel_rfl) rfl rfl rfl rfl rfl ?_
                refine ANx.skipT 16 rfl (by kernel_rfl) (by kernel_rfl) (by kernel_rfl) rfl rfl rfl rfl rfl ?_
                refine ANx.take 17 rfl (by kernel_rfl) (by kernel_rfl) (by kernel_rfl) rfl rfl rfl (YldA.pickF rfl rfl) ?_
                exact ANx.doneC ⟨(_, _, _), by exact hd⟩ (by kernel_rfl) ⟨rfl, trivial⟩ ⟨rfl, trivial⟩ ⟨rfl, rfl, rfl, rfl, rfl, rfl, rfl, rfl, rfl, rfl, rfl, rfl, trivial⟩ ⟨rfl, rfl, rfl, rfl, trivial⟩
            · -- 12
              refine Stpx.eff rfl rfl (Eff.yld (Yld.load Try.isAgg2 rfl rfl) rfl rfl) ?_
              refine ANx.all (rs := [7]) (by kernel_rfl) rfl ⟨?_, trivial⟩
              refine Stpx.eff rfl rfl (Eff.yld (Yld.call rfl rfl Try.call67 rfl rfl rfl (spec_l24Sum_c (by first | assumption | omega) (by assumption) (by first | omega | (simp; omega))) rfl) rfl rfl) ?_
              refine ANx.take 8 rfl (by kernel_rfl) (by kernel_rfl) (by kernel_rfl) rfl rfl rfl (YldA.add rfl rfl (by omega) (by omega)) ?_
              refine ANx.take 13 rfl (by kernel_rfl) (by kernel_rfl) (by kernel_rfl) rfl rfl rfl (YldA.int rfl rfl rfl) ?_
              refine ANx.take 14 rfl (by kernel_rfl) (by kernel_rfl) (by kernel_rfl) rfl rfl rfl (YldA.move rfl) ?_
              refine ANx.splitAt 141 _ rfl (fun s141 => ?_) (fun s141 => ?_)
              · -- s141 True
                have hbd : ¬ (sd + (sumP (gs.drop (pl.length + 1)))) ≤ mo := by have h := s141; rw [et1] at h; simp at h; omega
                refine ANx.takeG 15 rfl (by kernel_rfl) (by kernel_rfl) (by kernel_rfl) rfl rfl rfl rfl rfl (YldA.move rfl) ?_
                refine ANx.all (rs := [16]) (by kernel_rfl) rfl ⟨?_, trivial⟩
                refine Stpx.effXG rfl rfl rfl rfl (EffX.callW [0, 1, 2, 3] [0, 1, 2, 3] [0, 1, 2, 3] rfl rfl Try.call63 rfl (spec_node_y (by omega)) (.own rfl) rfl (fun ⟨_, _, _⟩ => rfl) ⟨rfl, rfl, rfl, rfl, trivial⟩ rfl (fun ⟨_, _, _⟩ => rfl) (fun ⟨_, _, _⟩ => rfl)) ?_
                rintro _ ⟨⟨n2143, fu2143, go143⟩, hn2143, rfl⟩
                dsimp only at hn2143
                have hd : RunE (sd + (sumP (gs.drop (pl.length + 1)))) mo bu n fu go143 n2143 fu2143 := .inr ⟨hbd, hn2143⟩
                refine ANx.take 17 rfl (by kernel_rfl) (by kernel_rfl) (by kernel_rfl) rfl rfl rfl (YldA.pickT rfl rfl) ?_
                exact ANx.doneC ⟨(_, _, _), by exact hd⟩ (by kernel_rfl) ⟨rfl, trivial⟩ ⟨rfl, trivial⟩ ⟨rfl, rfl, rfl, rfl, rfl, rfl, rfl, rfl, rfl, rfl, rfl, rfl, trivial⟩ ⟨rfl, rfl, rfl, rfl, trivial⟩
              · -- s141 False
                have hd : RunE (sd + (sumP (gs.drop (pl.length + 1)))) mo bu n fu false n fu := .inl ⟨rfl, rfl, rfl, by have h := s141; rw [et1] at h; simp at h; omega⟩
                refine ANx.skipT 15 rfl (by kernel_rfl) (by kernel_rfl) (by kernel_rfl) rfl rfl rfl rfl rfl ?_
                refine ANx.skipT 16 rfl (by kernel_rfl) (by kernel_rfl) (by kernel_rfl) rfl rfl rfl rfl rfl ?_
                refine ANx.take 17 rfl (by kernel_rfl) (by kernel_rfl) (by kernel_rfl) rfl rfl rfl (YldA.pickF rfl rfl) ?_
                exact ANx.doneC ⟨(_, _, _), by exact hd⟩ (by kernel_rfl) ⟨rfl, trivial⟩ ⟨rfl, trivial⟩ ⟨rfl, rfl, rfl, rfl, rfl, rfl, rfl, rfl, rfl, rfl, rfl, rfl, trivial⟩ ⟨rfl, rfl, rfl, rfl, trivial⟩
          · -- 12
            refine Stpx.eff rfl rfl (Eff.yld (Yld.load Try.isAgg2 rfl rfl) rfl rfl) ?_
            refine ANx.all (rs := [4]) (by kernel_rfl) rfl ⟨?_, trivial⟩
            refine Stpx.eff rfl rfl (Eff.yld (Yld.load Try.isAgg27 rfl rfl) rfl rfl) ?_
            refine ANx.all (rs := [7]) (by kernel_rfl) rfl ⟨?_, trivial⟩
            refine Stpx.eff rfl rfl (Eff.yld (Yld.call rfl rfl Try.call67 rfl rfl rfl (spec_l24Sum_c (by first | assumption | omega) (by assumption) (by first | omega | (simp; omega))) rfl) rfl rfl) ?_
            refine ANx.take 8 rfl (by kernel_rfl) (by kernel_rfl) (by kernel_rfl) rfl rfl rfl (YldA.add rfl rfl (by omega) (by omega)) ?_
            refine ANx.take 13 rfl (by kernel_rfl) (by kernel_rfl) (by kernel_rfl) rfl rfl rfl (YldA.int rfl rfl rfl) ?_
            refine ANx.take 14 rfl (by kernel_rfl) (by kernel_rfl) (by kernel_rfl) rfl rfl rfl (YldA.move rfl) ?_
            refine ANx.splitAt 141 _ rfl (fun s141 => ?_) (fun s141 => ?_)
            · -- s141 True
              have hbd : ¬ (sd + (sumP (gs.drop (pl.length + 1)))) ≤ mo := by have h := s141; rw [et1] at h; simp at h; omega
              refine ANx.takeG 15 rfl (by kernel_rfl) (by kernel_rfl) (by kernel_rfl) rfl rfl rfl rfl rfl (YldA.move rfl) ?_
              refine ANx.all (rs := [16]) (by kernel_rfl) rfl ⟨?_, trivial⟩
              refine Stpx.effXG rfl rfl rfl rfl (EffX.callW [0, 1, 2, 3] [0, 1, 2, 3] [0, 1, 2, 3] rfl rfl Try.call63 rfl (spec_node_y (by omega)) (.own rfl) rfl (fun ⟨_, _, _⟩ => rfl) ⟨rfl, rfl, rfl, rfl, trivial⟩ rfl (fun ⟨_, _, _⟩ => rfl) (fun ⟨_, _, _⟩ => rfl)) ?_
              rintro _ ⟨⟨n2143, fu2143, go143⟩, hn2143, rfl⟩
              dsimp only at hn2143
              have hd : RunE (sd + (sumP (gs.drop (pl.length + 1)))) mo bu n fu go143 n2143 fu2143 := .inr ⟨hbd, hn2143⟩
              refine ANx.take 17 rfl (by kernel_rfl) (by kernel_rfl) (by kernel_rfl) rfl rfl rfl (YldA.pickT rfl rfl) ?_
              exact ANx.doneC ⟨(_, _, _), by exact hd⟩ (by kernel_rfl) ⟨rfl, trivial⟩ ⟨rfl, trivial⟩ ⟨rfl, rfl, rfl, rfl, rfl, rfl, rfl, rfl, rfl, rfl, rfl, rfl, trivial⟩ ⟨rfl, rfl, rfl, rfl, trivial⟩
            · -- s141 False
              have hd : RunE (sd + (sumP (gs.drop (pl.length + 1)))) mo bu n fu false n fu := .inl ⟨rfl, rfl, rfl, by have h := s141; rw [et1] at h; simp at h; omega⟩
              refine ANx.skipT 15 rfl (by kernel_rfl) (by kernel_rfl) (by kernel_rfl) rfl rfl rfl rfl rfl ?_
              refine ANx.skipT 16 rfl (by kernel_rfl) (by kernel_rfl) (by kernel_rfl) rfl rfl rfl rfl rfl ?_
              refine ANx.take 17 rfl (by kernel_rfl) (by kernel_rfl) (by kernel_rfl) rfl rfl rfl (YldA.pickF rfl rfl) ?_
              exact ANx.doneC ⟨(_, _, _), by exact hd⟩ (by kernel_rfl) ⟨rfl, trivial⟩ ⟨rfl, trivial⟩ ⟨rfl, rfl, rfl, rfl, rfl, rfl, rfl, rfl, rfl, rfl, rfl, rfl, trivial⟩ ⟨rfl, rfl, rfl, rfl, trivial⟩
        · -- behind
          rintro y
          obtain ⟨⟨yo, yn, yf⟩, hy⟩ := y
          dsimp only at hy
          dsimp only
          refine AC.cond _ rfl (fun c144 => ?_) (fun c144 => ?_)
          · -- c144 True
            subst c144
            obtain ⟨rfl, rfl, hfu, hnd, hbd, hS9⟩ := runE_go hE hSE hy
            have hpk : (pl ++ [(-1 : Int)]).length = pl.length + 1 := by simp
            have hS : (mostS (remS gs pl.length) free pl sd ⟨best, most, bu - nd⟩) = (mostS (remS gs (pl ++ [(-1 : Int)]).length) free (pl ++ [(-1 : Int)]) sd ⟨b, mo, bu - (n + 1)⟩) := by rw [hS9, hpk]
            refine AC.seq ?_
            refine AC.region ?_
            refine AO.yld _ (Yld.move rfl) rfl rfl rfl ?_
            refine AO.yld _ (Yld.move rfl) rfl rfl rfl ?_
            refine AO.yld _ (Yld.nilCheck rfl rfl) rfl rfl rfl ?_
            refine AO.yld _ (Yld.fieldAddr Try.underlying60 rfl rfl Try.sizeOf23 rfl rfl rfl) rfl rfl rfl ?_
            refine AO.yld _ (Yld.load Try.isAgg23 rfl rfl) rfl rfl rfl ?_
            refine AO.buildSlice (rows := [[_]]) 4 Try.underlying23 ty2 rfl rfl rfl rfl rfl rfl rfl rfl rfl ?_
            refine AO.append 2 Try.underlying23 ty2 rfl rfl rfl rfl rfl rfl rfl (by simp [pvOne]) (by simp only [List.length_map, List.length_cons, List.length_nil]; omega) (by simp only [List.length_map, List.length_cons, List.length_nil]; omega) rfl ?_
            refine AO.yld _ (Yld.nilCheck rfl rfl) rfl rfl rfl ?_
            refine AO.yld _ (Yld.fieldAddr Try.underlying60 rfl rfl Try.sizeOf23 rfl rfl rfl) rfl rfl rfl ?_
            refine AO.store Try.sizeOf23 rfl rfl rfl rfl rfl rfl ?_
            refine AO.nil ?_
            refine AC.seq ?_
            refine AC.region ?_
            refine AO.yld _ (Yld.move rfl) rfl rfl rfl ?_
            refine AO.vecEq 2 ((pl ++ [(-1 : Int)]).map encI) rfl int_snoc ?_
            refine AO.yld _ (Yld.move rfl) rfl rfl rfl ?_
            refine AO.callW (wantedN rfl) [0, 1, 2, 3] [0, 1, 2, 3] [0, 1, 2, 3] rfl rfl Try.call47 rfl (ih (free := free) (pl := pl ++ [(-1 : Int)]) (best := b) (sd := sd) (most := mo) (nd := n + 1) (by simp [hpl]) hfree hfl (by omega) (by simp; omega) (by rw [hpk]; omega) (by omega)) (.own rfl) rfl (fun ⟨_, _, _, _⟩ => rfl) ⟨rfl, rfl, rfl, rfl, trivial⟩ rfl (fun ⟨_, _, _, _⟩ => rfl) (fun ⟨_, _, _, _⟩ => rfl) (fun ⟨b2156, m2156, n2156, fu2156⟩ hb2156 => ?_)
            dsimp only at hb2156
            refine AO.nil ?_
            refine AC.region ?_
            refine AO.yld _ (Yld.move rfl) rfl rfl rfl ?_
            refine AO.yld _ (Yld.move rfl) rfl rfl rfl ?_
            refine AO.yld _ (Yld.nilCheck rfl rfl) rfl rfl rfl ?_
            refine AO.yld _ (Yld.fieldAddr Try.underlying60 rfl rfl Try.sizeOf23 rfl rfl rfl) rfl rfl rfl ?_
            refine AO.yld _ (Yld.load Try.isAgg23 rfl rfl) rfl rfl rfl ?_
            refine AO.yld _ (Yld.move rfl) rfl rfl rfl ?_
            refine AO.truncate 2 Try.underlying23 Try.sizeOf2 rfl rfl (.some (n := pl.length) rfl (by simp)) (by simp) rfl ?_
            refine AO.yld _ (Yld.nilCheck rfl rfl) rfl rfl rfl ?_
            refine AO.yld _ (Yld.fieldAddr Try.underlying60 rfl rfl Try.sizeOf23 rfl rfl rfl) rfl rfl rfl ?_
            refine AO.store Try.sizeOf23 rfl rfl rfl rfl rfl rfl ?_
            refine AO.nil ?_
            refine FnE.fin (b2156, m2156, n2156, fu2156) [0, 1, 2, 3] [0, 1, 2, 3] Try.results47 RVs.nil rfl rfl rfl ?_ ?_ ⟨⟨_, rfl, ?_⟩, ⟨_, rfl, ?_⟩, ⟨_, rfl, ?_⟩, ⟨_, rfl, ?_⟩, trivial⟩
            · -- holds
              show RunR _ _ _ _ _ _; first | (rw [hS]; exact ⟨hl, rfl, rfl⟩) | (rw [hS]; exact hb2156) | exact runE_out hJ.2.1 hE hSE hy | fail
            · -- value
              rfl
            · -- thing 0
              rfl
            · -- thing 1
              rfl
            · -- thing 2
              first | rfl | (rw [show pl.map encI = ((pl ++ [(-1 : Int)]).map encI).take pl.length by simp]; rfl)
            · -- thing 3
              rfl
          · -- c144 False
            subst c144
            refine AC.skip ?_
            refine FnE.fin (b, mo, yn, yf) [0, 1, 2, 3] [0, 1, 2, 3] Try.results47 RVs.nil rfl rfl rfl ?_ ?_ ⟨⟨_, rfl, ?_⟩, ⟨_, rfl, ?_⟩, ⟨_, rfl, ?_⟩, ⟨_, rfl, ?_⟩, trivial⟩
            · -- holds
              show RunR _ _ _ _ _ _; first | (rw [hS]; exact ⟨hl, rfl, rfl⟩) | (rw [hS]; exact hb2156) | exact runE_out hJ.2.1 hE hSE hy | fail
            · -- value
              rfl
            · -- thing 0
              rfl
            · -- thing 1
              rfl
            · -- thing 2
              first | rfl | (rw [show pl.map encI = ((pl ++ [(-1 : Int)]).map encI).take pl.length by simp]; rfl)
            · -- thing 3
              rfl

theorem spec_run_n {gs : List Group} (hok : okGroups gs = true) {bu : Int} (hbu : bu ≤ 20000) : ∀ (n : Nat) {m : Nat} {free pl best : List Int} {sd most nd : Int} (_ : gs.length - m = n) (hpl : pl.length = m) (hfree : free.all okRow = true) (hfl : free.length ≤ 10) (hl : 0 ≤ nd ∧ nd ≤ bu) (hsd : 0 ≤ sd ∧ sd ≤ 40 * pl.length) (hmo : most < sd + sumP (gs.drop pl.length)) (hm : m ≤ gs.length), FnE (α := List Int × Int × Int × Bool) Try.prog 47 [.h 0, .p (.v (.int .i64 sd))] [(0, .box 60 [.p (.sl 3 (gs.map encGroup)), .h 1, .h 2, .h 3, .p (.v (.int .i64 most)), .p (.v (.int .i64 nd)), .p (.v (.int .i64 bu)), .p (.v (.bool false))]), (1, .vec 2 1 (free.map encI)), (2, .vec 2 1 (pl.map encI)), (3, .vec 2 1 (best.map encI))] [0, 1] (fun ⟨b2, m2, n2, fu2⟩ => RunR (mostS (remS gs pl.length) free pl sd ⟨best, most, bu - nd⟩) bu b2 m2 n2 fu2) (fun ⟨b2, m2, n2, fu2⟩ => .tup []) (fun ⟨b2, m2, n2, fu2⟩ => [(0, .box 60 [.p (.sl 3 (gs.map encGroup)), .h 1, .h 2, .h 3, .p (.v (.int .i64 m2)), .p (.v (.int .i64 n2)), .p (.v (.int .i64 bu)), .p (.v (.bool fu2))]), (1, .vec 2 1 (free.map encI)), (2, .vec 2 1 (pl.map encI)), (3, .vec 2 1 (b2.map encI))]) := by
  intro n
  induction n with
  | zero => intro m free pl best sd most nd h hpl hfree hfl hl hsd hmo hm; exact spec_run_s hok hbu (fun _ _ _ _ _ _ h9 => absurd h9 (by omega)) hpl hfree hfl hl hsd hmo hm
  | succ n ih => intro m free pl best sd most nd h hpl hfree hfl hl hsd hmo hm; exact spec_run_s hok hbu (fun h1 h2 h3 h4 h5 h6 h7 => ih (by omega) h1 h2 h3 h4 h5 h6 h7) hpl hfree hfl hl hsd hmo hm

theorem spec_run_c {gs : List Group} (hok : okGroups gs = true) {bu : Int} (hbu : bu ≤ 20000) {free pl best : List Int} {sd most nd : Int} (hm : pl.length ≤ gs.length) (hfree : free.all okRow = true) (hfl : free.length ≤ 10) (hl : 0 ≤ nd ∧ nd ≤ bu) (hsd : 0 ≤ sd ∧ sd ≤ 40 * pl.length) (hmo : most < sd + sumP (gs.drop pl.length)) : FnE (α := List Int × Int × Int × Bool) Try.prog 47 [.h 0, .p (.v (.int .i64 sd))] [(0, .box 60 [.p (.sl 3 (gs.map encGroup)), .h 1, .h 2, .h 3, .p (.v (.int .i64 most)), .p (.v (.int .i64 nd)), .p (.v (.int .i64 bu)), .p (.v (.bool false))]), (1, .vec 2 1 (free.map encI)), (2, .vec 2 1 (pl.map encI)), (3, .vec 2 1 (best.map encI))] [0, 1] (fun ⟨b2, m2, n2, fu2⟩ => RunR (mostS (remS gs pl.length) free pl sd ⟨best, most, bu - nd⟩) bu b2 m2 n2 fu2) (fun ⟨b2, m2, n2, fu2⟩ => .tup []) (fun ⟨b2, m2, n2, fu2⟩ => [(0, .box 60 [.p (.sl 3 (gs.map encGroup)), .h 1, .h 2, .h 3, .p (.v (.int .i64 m2)), .p (.v (.int .i64 n2)), .p (.v (.int .i64 bu)), .p (.v (.bool fu2))]), (1, .vec 2 1 (free.map encI)), (2, .vec 2 1 (pl.map encI)), (3, .vec 2 1 (b2.map encI))]) := spec_run_n hok hbu _ rfl rfl hfree hfl hl hsd hmo hm

theorem spec_MostSeated_c {gs : List Group} {rs : List Int} {b : Int} (hn : gs.length ≤ 1048576) (hs : ∀ x ∈ gs, x.name.length ≤ 1048576) (hr : rs.length ≤ 1048576) :
    FnE (α := Unit) Try.prog 18 [.p (.sl 3 (gs.map encGroup)), .p (.sl 1 (rs.map encI)), .p (.v (.int .i64 b))] [] [] (fun _ => True) (fun _ => .tup [.h 0, .p (.v (.int .i64 (mostSeated gs rs b).2.1)), .p (.v (.int .i64 (mostSeated gs rs b).2.2))]) (fun _ => [(0, .vec 2 1 ((mostSeated gs rs b).1.map encI))]) := by
  refine FnE.intro Try.func18 rfl Try.ntmps18 rfl rfl (fun w0 F0 η φ w => ?_)
  refine AC.seq ?_
  refine AC.region ?_
  refine AO.yld _ (Yld.assign rfl) rfl rfl rfl ?_
  refine AO.yld _ (Yld.assign rfl) rfl rfl rfl ?_
  refine AO.yld _ (Yld.assign rfl) rfl rfl rfl ?_
  refine AO.nil ?_
  refine AC.seq ?_
  refine AC.seq ?_
  refine AC.region ?_
  refine AO.yld _ (Yld.move rfl) rfl rfl rfl ?_
  refine AO.yld _ (Yld.call rfl rfl Try.call34 rfl rfl rfl (spec_l24Ok_c (by first | assumption | omega) (by assumption)) rfl) rfl rfl rfl ?_
  refine AO.yld _ (Yld.not rfl) rfl rfl rfl ?_
  refine AO.yld _ (Yld.move rfl) rfl rfl rfl ?_
  refine AO.splitAt 13 _ rfl (fun s13 => ?_) (fun s13 => ?_)
  · -- s13 True
    have hbad : ¬ (okGroups gs = true ∧ okRows rs = true) := by clear hs; first | (simp_all; done) | grind
    refine AO.skipF rfl rfl rfl rfl rfl ?_
    refine AO.skipF rfl rfl rfl rfl rfl ?_
    refine AO.skipF rfl rfl rfl rfl rfl ?_
    refine AO.yld _ (Yld.pickT rfl rfl) rfl rfl rfl ?_
    refine AO.nil ?_
    refine AC.condT rfl ?_
    refine AC.seq ?_
    refine AC.region ?_
    refine AO.yld _ (Yld.assign rfl) rfl rfl rfl ?_
    refine AO.yld _ (Yld.assign rfl) rfl rfl rfl ?_
    refine AO.yld _ (Yld.assign rfl) rfl rfl rfl ?_
    refine AO.nil ?_
    refine AC.nilVec 6 0 2 1 rfl rfl ?_
    refine FnE.ret () [0] [0] Try.results18 (RVs.cons (RV.tmp rfl) (RVs.cons (RV.tmp rfl) (RVs.cons (RV.tmp rfl) RVs.nil))) rfl rfl rfl ?_ ?_ ⟨⟨_, rfl, ?_⟩, trivial⟩
    · -- holds
      trivial
    · -- value
      first | (rw [most_bad hbad]; done) | (rw [most_bad hbad]; rfl) | (rw [most_range hv hbad2]; done) | (rw [most_range hv hbad2]; rfl) | (rw [most_run hv hb, hS]; done) | (rw [most_run hv hb, hS]; rfl) | fail
    · -- thing 0
      refine vecE ?_; first | (rw [most_bad hbad]; done) | (rw [most_bad hbad]; rfl) | (rw [most_range hv hbad2]; done) | (rw [most_range hv hbad2]; rfl) | (rw [most_run hv hb, hS]; done) | (rw [most_run hv hb, hS]; rfl) | fail
  · -- s13 False
    refine AO.yldG _ (Yld.move rfl) rfl rfl rfl rfl rfl ?_
    refine AO.yldG _ (Yld.call rfl rfl Try.call35 rfl rfl rfl (spec_l24Rows_c (by first | assumption | omega)) rfl) rfl rfl rfl rfl rfl ?_
    refine AO.yldG _ (Yld.not rfl) rfl rfl rfl rfl rfl ?_
    refine AO.yld _ (Yld.pickF rfl rfl) rfl rfl rfl ?_
    refine AO.nil ?_
    refine AC.cond _ rfl (fun c17 => ?_) (fun c17 => ?_)
    · -- c17 True
      have hbad : ¬ (okGroups gs = true ∧ okRows rs = true) := by clear hs; first | (simp_all; done) | grind
      refine AC.seq ?_
      refine AC.region ?_
      refine AO.yld _ (Yld.assign rfl) rfl rfl rfl ?_
      refine AO.yld _ (Yld.assign rfl) rfl rfl rfl ?_
      refine AO.yld _ (Yld.assign rfl) rfl rfl rfl ?_
      refine AO.nil ?_
      refine AC.nilVec 6 0 2 1 rfl rfl ?_
      refine FnE.ret () [0] [0] Try.results18 (RVs.cons (RV.tmp rfl) (RVs.cons (RV.tmp rfl) (RVs.cons (RV.tmp rfl) RVs.nil))) rfl rfl rfl ?_ ?_ ⟨⟨_, rfl, ?_⟩, trivial⟩
      · -- holds
        trivial
      · -- value
        first | (rw [most_bad hbad]; done) | (rw [most_bad hbad]; rfl) | (rw [most_range hv hbad2]; done) | (rw [most_range hv hbad2]; rfl) | (rw [most_run hv hb, hS]; done) | (rw [most_run hv hb, hS]; rfl) | fail
      · -- thing 0
        refine vecE ?_; first | (rw [most_bad hbad]; done) | (rw [most_bad hbad]; rfl) | (rw [most_range hv hbad2]; done) | (rw [most_range hv hbad2]; rfl) | (rw [most_run hv hb, hS]; done) | (rw [most_run hv hb, hS]; rfl) | fail
    · -- c17 False
      have hv : okGroups gs = true ∧ okRows rs = true := by first | (simp_all; done) | grind
      have hv2 := rows_all hv.2
      have hv3 := rows_len hv.2
      refine AC.skip ?_
      refine AC.seq ?_
      refine AC.seq ?_
      refine AC.region ?_
      refine AO.yld _ (Yld.move rfl) rfl rfl rfl ?_
      refine AO.yld _ (Yld.call rfl rfl Try.call36 rfl rfl rfl (spec_l00In_c) rfl) rfl rfl rfl ?_
      refine AO.yld _ (Yld.not rfl) rfl rfl rfl ?_
      refine AO.nil ?_
      refine AC.cond _ rfl (fun c20 => ?_) (fun c20 => ?_)
      · -- c20 True
        have hbad2 : ¬ (1 ≤ b ∧ b ≤ 20000) := by have h := c20; simp at h; omega
        refine AC.seq ?_
        refine AC.region ?_
        refine AO.yld _ (Yld.assign rfl) rfl rfl rfl ?_
        refine AO.yld _ (Yld.assign rfl) rfl rfl rfl ?_
        refine AO.yld _ (Yld.assign rfl) rfl rfl rfl ?_
        refine AO.nil ?_
        refine AC.nilVec 6 0 2 1 rfl rfl ?_
        refine FnE.ret () [0] [0] Try.results18 (RVs.cons (RV.tmp rfl) (RVs.cons (RV.tmp rfl) (RVs.cons (RV.tmp rfl) RVs.nil))) rfl rfl rfl ?_ ?_ ⟨⟨_, rfl, ?_⟩, trivial⟩
        · -- holds
          trivial
        · -- value
          first | (rw [most_bad hbad]; done) | (rw [most_bad hbad]; rfl) | (rw [most_range hv hbad2]; done) | (rw [most_range hv hbad2]; rfl) | (rw [most_run hv hb, hS]; done) | (rw [most_run hv hb, hS]; rfl) | fail
        · -- thing 0
          refine vecE ?_; first | (rw [most_bad hbad]; done) | (rw [most_bad hbad]; rfl) | (rw [most_range hv hbad2]; done) | (rw [most_range hv hbad2]; rfl) | (rw [most_run hv hb, hS]; done) | (rw [most_run hv hb, hS]; rfl) | fail
      · -- c20 False
        have hb : 1 ≤ b ∧ b ≤ 20000 := by have h := c20; simp at h; omega
        refine AC.skip ?_
        refine AC.seq ?_
        refine AC.region ?_
        refine AO.yld _ (Yld.move rfl) rfl rfl rfl ?_
        refine AO.yld _ (Yld.move rfl) rfl rfl rfl ?_
        refine AO.callW (wantedN rfl) [0] [] [0] rfl rfl Try.call37 rfl (spec_l00Own_c (by first | assumption | omega)) (.flat (.view rfl rfl .nil) (fun _ => by simp [AV.Flat, AV.FlatL, PV.Flat, PV.FlatL]) (fun _ => ⟨flat_map flatI _, trivial⟩)) rfl (fun _ => rfl) trivial rfl (fun _ => rfl) (fun _ => rfl) (fun _ _ => ?_)
        refine AO.yld _ (Yld.move rfl) rfl rfl rfl ?_
        refine AO.yld _ (Yld.buildV (zs := [.v (.slice none 0 0), .v (.slice none 0 0), .v (.slice none 0 0), .v (.slice none 0 0), .v (.int .i64 0), .v (.int .i64 0), .v (.int .i64 0), .v (.bool false)]) bld60 rfl rfl) rfl rfl rfl ?_
        refine AO.box 1 rfl rfl rfl rfl rfl ?_
        refine AO.yld _ (Yld.assign rfl) rfl rfl rfl ?_
        refine AO.nil ?_
        refine AC.seq ?_
        refine AC.region ?_
        refine AO.yld _ (Yld.move rfl) rfl rfl rfl ?_
        refine AO.nilCell 1 2 2 2 1 rfl rfl rfl ?_
        refine AO.nilCell 1 3 3 2 1 rfl rfl rfl ?_
        refine AO.callW (wantedN rfl) [1, 0, 2, 3] [0, 1, 2, 3] [0, 1, 2, 3] rfl rfl Try.call47 rfl (spec_run_c (gs := gs) hv.1 (bu := b) (by omega) (free := rs) (pl := []) (best := []) (sd := 0) (most := -1) (nd := 0) (by simp) hv2 hv3 (by omega) (by simp) (by have := sumP_lim hv.1 0; rw [List.drop_zero] at this; simp; omega)) (.own rfl) rfl (fun ⟨_, _, _, _⟩ => rfl) ⟨rfl, rfl, rfl, rfl, trivial⟩ rfl (fun ⟨_, _, _, _⟩ => rfl) (fun ⟨_, _, _, _⟩ => rfl) (fun ⟨b228, m228, n228, fu228⟩ hb228 => ?_)
        dsimp only at hb228
        have hfr9 := hb228
        rw [Int.sub_zero] at hfr9
        refine AO.nil ?_
        refine AC.seq ?_
        refine AC.seq ?_
        refine AC.region ?_
        refine AO.yld _ (Yld.move rfl) rfl rfl rfl ?_
        refine AO.yld _ (Yld.nilCheck rfl rfl) rfl rfl rfl ?_
        refine AO.yld _ (Yld.fieldAddr Try.underlying60 rfl rfl Try.sizeOf4 rfl rfl rfl) rfl rfl rfl ?_
        refine AO.yld _ (Yld.load Try.isAgg4 rfl rfl) rfl rfl rfl ?_
        refine AO.nil ?_
        refine AC.cond _ rfl (fun c32 => ?_) (fun c32 => ?_)
        · -- c32 True
          have hS : (mostS (remS gs ([] : List Int).length) rs [] 0 ⟨[], -1, b⟩) = none := by cases hs9 : (mostS (remS gs ([] : List Int).length) rs [] 0 ⟨[], -1, b⟩) with
      | none => rfl
      | some t => rw [hs9] at hfr9; have h8 := hfr9.2.2; rw [c32] at h8; cases h8
          refine AC.seq ?_
          refine AC.region ?_
          refine AO.yld _ (Yld.assign rfl) rfl rfl rfl ?_
          refine AO.yld _ (Yld.assign rfl) rfl rfl rfl ?_
          refine AO.yld _ (Yld.assign rfl) rfl rfl rfl ?_
          refine AO.nil ?_
          refine AC.nilVec 6 4 2 1 rfl rfl ?_
          refine FnE.ret () [4] [0] Try.results18 (RVs.cons (RV.tmp rfl) (RVs.cons (RV.tmp rfl) (RVs.cons (RV.tmp rfl) RVs.nil))) rfl rfl rfl ?_ ?_ ⟨⟨_, rfl, ?_⟩, trivial⟩
          · -- holds
            trivial
          · -- value
            first | (rw [most_bad hbad]; done) | (rw [most_bad hbad]; rfl) | (rw [most_range hv hbad2]; done) | (rw [most_range hv hbad2]; rfl) | (rw [most_run hv hb, hS]; done) | (rw [most_run hv hb, hS]; rfl) | fail
          · -- thing 0
            refine vecE ?_; first | (rw [most_bad hbad]; done) | (rw [most_bad hbad]; rfl) | (rw [most_range hv hbad2]; done) | (rw [most_range hv hbad2]; rfl) | (rw [most_run hv hb, hS]; done) | (rw [most_run hv hb, hS]; rfl) | fail
        · -- c32 False
          have hS : (mostS (remS gs ([] : List Int).length) rs [] 0 ⟨[], -1, b⟩) = some ⟨b228, m228, b - n228⟩ := by cases hs9 : (mostS (remS gs ([] : List Int).length) rs [] 0 ⟨[], -1, b⟩) with
      | none => rw [hs9] at hfr9; have h8 := hfr9.2; rw [c32] at h8; cases h8
      | some t => rw [hs9] at hfr9; rw [hfr9.2.1]
          refine AC.skip ?_
          refine AC.seq ?_
          refine AC.draw (by kernel_rfl) (by kernel_rfl) ?_
          refine AO.yld _ (Yld.move rfl) rfl rfl rfl ?_
          refine AO.yld _ (Yld.nilCheck rfl rfl) rfl rfl rfl ?_
          refine AO.yld _ (Yld.fieldAddr Try.underlying60 rfl rfl Try.sizeOf23 rfl rfl rfl) rfl rfl rfl ?_
          refine AO.yld _ (Yld.load Try.isAgg23 rfl rfl) rfl rfl rfl ?_
          refine AO.yld _ (Yld.move rfl) rfl rfl rfl ?_
          refine AO.yld _ (Yld.nilCheck rfl rfl) rfl rfl rfl ?_
          refine AO.yld _ (Yld.fieldAddr Try.underlying60 rfl rfl Try.sizeOf2 rfl rfl rfl) rfl rfl rfl ?_
          refine AO.yld _ (Yld.load Try.isAgg2 rfl rfl) rfl rfl rfl ?_
          refine AO.yld _ (Yld.assign rfl) rfl rfl rfl ?_
          refine AO.yld _ (Yld.assign rfl) rfl rfl rfl ?_
          refine AO.yld _ (Yld.assign rfl) rfl rfl rfl ?_
          refine AO.nil ?_
          refine FnE.ret () [3] [0] Try.results18 (RVs.cons (RV.tmp rfl) (RVs.cons (RV.tmp rfl) (RVs.cons (RV.tmp rfl) RVs.nil))) rfl rfl rfl ?_ ?_ ⟨⟨_, rfl, ?_⟩, trivial⟩
          · -- holds
            trivial
          · -- value
            first | (rw [most_bad hbad]; done) | (rw [most_bad hbad]; rfl) | (rw [most_range hv hbad2]; done) | (rw [most_range hv hbad2]; rfl) | (rw [most_run hv hb, hS]; done) | (rw [most_run hv hb, hS]; rfl) | fail
          · -- thing 0
            refine vecE ?_; first | (rw [most_bad hbad]; done) | (rw [most_bad hbad]; rfl) | (rw [most_range hv hbad2]; done) | (rw [most_range hv hbad2]; rfl) | (rw [most_run hv hb, hS]; done) | (rw [most_run hv hb, hS]; rfl) | fail

end Go.Proofs.Ytnejigdldeipdaa
