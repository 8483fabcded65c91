/- Contracts of functions of the program, each by a walk of its text in the calculus V. -/
import Derived.Test.YtnejigdldeipdaaCD
import Derived.Test.YtnejigdldeipdaaD31
set_option linter.all false
set_option linter.unusedSimpArgs false
set_option linter.unnecessarySimpa false
set_option linter.unusedVariables false
namespace Go.Proofs.Ytnejigdldeipdaa
open Go Go.V

theorem laws_b10Sum_c {xs : List Int} (hn : xs.length ≤ 1048576) (hp : ∀ x ∈ xs, 0 ≤ x ∧ x ≤ 40) :
    Pure Try.prog 32 [.sl 1 (xs.map encI)] (.v (.int .i64 xs.sum)) := by
  refine Pure.intro Try.func32 rfl Try.ntmps32 rfl rfl (fun w => ?_)
  refine AC.seq ?_
  refine AC.region ?_
  refine AO.yld _ (Yld.assign rfl) rfl rfl rfl ?_
  refine AO.nil ?_
  refine AC.seq ?_
  refine AC.region ?_
  refine AO.yld _ (Yld.assign rfl) rfl rfl rfl ?_
  refine AO.nil ?_
  refine AC.seq ?_
  refine AC.seq ?_
  refine AC.region ?_
  refine AO.yld _ (Yld.assign rfl) rfl rfl rfl ?_
  refine AO.nil ?_
  refine AC.block ?_
  refine AC.loopC [(0, _), (2, _)] [] (fun (k : Nat) => [(4, .p (.v (.int .i64 (k : Int)))), (3, .p (.v (.int .i64 (xs.take k).sum)))]) (fun (k : Nat) => []) (fun (k : Nat) => k ≤ xs.length) (fun (k : Nat) => xs.length - k) 0 ⟨rfl, rfl, trivial⟩ trivial ⟨rfl, rfl, trivial⟩ trivial ?_ (fun k hJ => ?_)
  · exact Nat.zero_le _
  · -- round
    refine AC.seq ?_
    refine AC.seq ?_
    refine AC.region ?_
    refine AO.yld _ (Yld.move rfl) rfl rfl rfl ?_
    refine AO.yld _ (Yld.move rfl) rfl rfl rfl ?_
    refine AO.yld _ (Yld.len Try.underlying23 rfl rfl) rfl rfl rfl ?_
    refine AO.yld _ (Yld.int rfl rfl rfl) rfl rfl rfl ?_
    refine AO.nil ?_
    refine AC.cond _ rfl (fun c8 => ?_) (fun c8 => ?_)
    · -- c8 True
      have hk := lt_of_decM c8
      obtain ⟨x, hx⟩ := get_some hk
      have hrow := map_row (enc := encI) hx
      have hb9 := sum_bound (xs := xs.take k) (fun y hy => hp y (List.mem_of_mem_take hy))
      have hb8 : ((xs.take k).length : Int) ≤ 1048576 := by rw [List.length_take]; omega
      have hp9 := hp x (List.mem_of_getElem? hx)
      refine AC.skip ?_
      refine AC.seq ?_
      refine AC.block ?_
      refine AC.region ?_
      refine AO.yld _ (Yld.move rfl) rfl rfl rfl ?_
      refine AO.yld _ (Yld.move rfl) rfl rfl rfl ?_
      refine AO.yld _ (Yld.move rfl) rfl rfl rfl ?_
      refine AO.yld _ (Yld.indexSl Try.underlying23 Try.sizeOf2 rfl rfl hrow rfl) rfl rfl rfl ?_
      refine AO.yld _ (Yld.load Try.isAgg2 rfl rfl) rfl rfl rfl ?_
      refine AO.yld _ (Yld.add rfl rfl (by omega) (by omega)) rfl rfl rfl ?_
      refine AO.yld _ (Yld.assign rfl) rfl rfl rfl ?_
      refine AO.nil ?_
      refine AC.mark ?_
      refine AC.region ?_
      refine AO.yld _ (Yld.move rfl) rfl rfl rfl ?_
      refine AO.yld _ (Yld.add rfl rfl (by omega) (by omega)) rfl rfl rfl ?_
      refine AO.yld _ (Yld.assign rfl) rfl rfl rfl ?_
      refine AO.nil ?_
      refine AC.back ⟨k + 1, ?_, ?_, ⟨?_, ?_, trivial⟩, trivial, ⟨rfl, rfl, trivial⟩, trivial⟩
      · exact hk
      · omega
      · rfl
      · rw [sum_take_succ hx]; rfl
    · -- c8 False
      obtain rfl : k = xs.length := by have := ge_of_decM c8; omega
      refine AC.exit rfl ?_
      refine AC.seq ?_
      refine AC.region ?_
      refine AO.yld _ (Yld.move rfl) rfl rfl rfl ?_
      refine AO.yld _ (Yld.assign rfl) rfl rfl rfl ?_
      refine AO.nil ?_
      refine Pure.ret Try.results32 (RVs.cons (RV.tmp rfl) RVs.nil) rfl ?_
      refine ci ?_; rw [List.take_of_length_le (Nat.le_refl _)]

theorem impl_SeatsLeft_c {gs : List Group} {rs pl : List Int} (hn : gs.length ≤ 1048576) (hs : ∀ x ∈ gs, x.name.length ≤ 1048576) (hr : rs.length ≤ 1048576) (hp : pl.length ≤ 1048576) :
    FnE (α := Unit) Try.prog 29 [.p (.sl 3 (gs.map encGroup)), .p (.sl 1 (rs.map encI)), .p (.sl 1 (pl.map encI))] [] [] (fun _ => True) (fun _ => .tup [.h 0, .p (.v (.int .i64 (seatsLeftP gs rs pl).2))]) (fun _ => [(0, .vec 2 1 ((seatsLeftP gs rs pl).1.map encI))]) := by
  refine FnE.intro Try.func29 rfl Try.ntmps29 rfl rfl (fun w0 F0 η φ w => ?_)
  refine AC.seq ?_
  refine AC.region ?_
  refine AO.yld _ (Yld.assign rfl) rfl rfl rfl ?_
  refine AO.yld _ (Yld.assign rfl) rfl rfl rfl ?_
  refine AO.nil ?_
  refine AC.seq ?_
  refine AC.seq ?_
  refine AC.region ?_
  refine AO.yld _ (Yld.move rfl) rfl rfl rfl ?_
  refine AO.yld _ (Yld.call rfl rfl Try.call40 rfl rfl rfl (impl_ValidGroups_c (by first | assumption | omega) (by assumption)) rfl) rfl rfl rfl ?_
  refine AO.yld _ (Yld.not rfl) rfl rfl rfl ?_
  refine AO.yld _ (Yld.move rfl) rfl rfl rfl ?_
  refine AO.splitAt 13 _ rfl (fun s13 => ?_) (fun s13 => ?_)
  · -- s13 True
    have hbad : ¬ (okGroups gs = true ∧ okRows rs = true) := by clear hs; first | (simp_all; done) | grind
    have hS : seatsLeftP gs rs pl = ([], 1) := by unfold seatsLeftP; rw [if_neg (by rw [Bool.and_eq_true]; exact hbad)]
    refine AO.skipF rfl rfl rfl rfl rfl ?_
    refine AO.skipF rfl rfl rfl rfl rfl ?_
    refine AO.skipF rfl rfl rfl rfl rfl ?_
    refine AO.yld _ (Yld.pickT rfl rfl) rfl rfl rfl ?_
    refine AO.nil ?_
    refine AC.condT rfl ?_
    refine AC.seq ?_
    refine AC.region ?_
    refine AO.yld _ (Yld.assign rfl) rfl rfl rfl ?_
    refine AO.yld _ (Yld.assign rfl) rfl rfl rfl ?_
    refine AO.nil ?_
    refine AC.nilVec 6 0 2 1 rfl rfl ?_
    refine FnE.ret () [0] [0] Try.results29 (RVs.cons (RV.tmp rfl) (RVs.cons (RV.tmp rfl) RVs.nil)) rfl rfl rfl ?_ ?_ ⟨⟨_, rfl, ?_⟩, trivial⟩
    · -- holds
      trivial
    · -- value
      first | (rw [hS]; rfl) | (rw [hS]; done) | fail
    · -- thing 0
      refine vecE ?_; first | (rw [hS]; rfl) | (rw [hS]; done) | (rw [hS, hfl]; rfl) | fail
  · -- s13 False
    refine AO.yldG _ (Yld.move rfl) rfl rfl rfl rfl rfl ?_
    refine AO.yldG _ (Yld.call rfl rfl Try.call41 rfl rfl rfl (impl_ValidRows_c (by first | assumption | omega)) rfl) rfl rfl rfl rfl rfl ?_
    refine AO.yldG _ (Yld.not rfl) rfl rfl rfl rfl rfl ?_
    refine AO.yld _ (Yld.pickF rfl rfl) rfl rfl rfl ?_
    refine AO.nil ?_
    refine AC.cond _ rfl (fun c17 => ?_) (fun c17 => ?_)
    · -- c17 True
      have hbad : ¬ (okGroups gs = true ∧ okRows rs = true) := by clear hs; first | (simp_all; done) | grind
      have hS : seatsLeftP gs rs pl = ([], 1) := by unfold seatsLeftP; rw [if_neg (by rw [Bool.and_eq_true]; exact hbad)]
      refine AC.seq ?_
      refine AC.region ?_
      refine AO.yld _ (Yld.assign rfl) rfl rfl rfl ?_
      refine AO.yld _ (Yld.assign rfl) rfl rfl rfl ?_
      refine AO.nil ?_
      refine AC.nilVec 6 0 2 1 rfl rfl ?_
      refine FnE.ret () [0] [0] Try.results29 (RVs.cons (RV.tmp rfl) (RVs.cons (RV.tmp rfl) RVs.nil)) rfl rfl rfl ?_ ?_ ⟨⟨_, rfl, ?_⟩, trivial⟩
      · -- holds
        trivial
      · -- value
        first | (rw [hS]; rfl) | (rw [hS]; done) | fail
      · -- thing 0
        refine vecE ?_; first | (rw [hS]; rfl) | (rw [hS]; done) | (rw [hS, hfl]; rfl) | fail
    · -- c17 False
      have hv : okGroups gs = true ∧ okRows rs = true := by first | (simp_all; done) | grind
      have hok := hv.1
      have hrk := rows_all hv.2
      have hrl := rows_len hv.2
      have hand : (okGroups gs && okRows rs) = true := by rw [hv.1, hv.2]; rfl
      have hgl := groups_len hok
      refine AC.skip ?_
      refine AC.seq ?_
      refine AC.region ?_
      refine AO.yld _ (Yld.move rfl) rfl rfl rfl ?_
      refine AO.yld _ (Yld.move rfl) rfl rfl rfl ?_
      refine AO.yld _ (Yld.move rfl) rfl rfl rfl ?_
      refine AO.callW (wantedN rfl) [0] [] [0] rfl rfl Try.call59 rfl (impl_seatsLeft_c (by assumption) (by assumption) (by omega) (by omega)) (.flat (.view rfl rfl (.view rfl rfl (.view rfl rfl .nil))) (fun _ => by simp [AV.Flat, AV.FlatL, PV.Flat, PV.FlatL]) (fun _ => ⟨flat_map flatI _, trivial⟩)) rfl (fun _ => rfl) trivial rfl (fun _ => rfl) (fun _ => rfl) (fun _ _ => ?_)
      refine AO.yld _ (Yld.move rfl) rfl rfl rfl ?_
      refine AO.yld _ (Yld.extract rfl rfl rfl) rfl rfl rfl ?_
      refine AO.yld _ (Yld.extract rfl rfl rfl) rfl rfl rfl ?_
      refine AO.yld _ (Yld.assign rfl) rfl rfl rfl ?_
      refine AO.yld _ (Yld.assign rfl) rfl rfl rfl ?_
      refine AO.nil ?_
      refine AC.seq ?_
      refine AC.seq ?_
      refine AC.region ?_
      refine AO.yld _ (Yld.move rfl) rfl rfl rfl ?_
      refine AO.yld _ (Yld.not rfl) rfl rfl rfl ?_
      refine AO.nil ?_
      refine AC.cond _ rfl (fun c26 => ?_) (fun c26 => ?_)
      · -- c26 True
        have hfl : (leftF (persL gs) rs pl) = none := by have h := c26; simpa using h
        have hS : seatsLeftP gs rs pl = ([], 2) := by unfold seatsLeftP; rw [if_pos hand, hfl]
        refine AC.seq ?_
        refine AC.region ?_
        refine AO.yld _ (Yld.assign rfl) rfl rfl rfl ?_
        refine AO.yld _ (Yld.assign rfl) rfl rfl rfl ?_
        refine AO.nil ?_
        refine AC.nilVec 6 1 2 1 rfl rfl ?_
        refine FnE.ret () [1] [0] Try.results29 (RVs.cons (RV.tmp rfl) (RVs.cons (RV.tmp rfl) RVs.nil)) rfl rfl rfl ?_ ?_ ⟨⟨_, rfl, ?_⟩, trivial⟩
        · -- holds
          trivial
        · -- value
          first | (rw [hS]; rfl) | (rw [hS]; done) | fail
        · -- thing 0
          refine vecE ?_; first | (rw [hS]; rfl) | (rw [hS]; done) | (rw [hS, hfl]; rfl) | fail
      · -- c26 False
        obtain ⟨f, hfl⟩ : ∃ f, (leftF (persL gs) rs pl) = some f := by have h := c26; rw [Bool.not_eq_false'] at h; exact Option.isSome_iff_exists.1 h
        have hS : seatsLeftP gs rs pl = (f, 0) := by unfold seatsLeftP; rw [if_pos hand, hfl]
        refine AC.skip ?_
        refine AC.seq ?_
        refine AC.region ?_
        refine AO.yld _ (Yld.move rfl) rfl rfl rfl ?_
        refine AO.yld _ (Yld.assign rfl) rfl rfl rfl ?_
        refine AO.yld _ (Yld.assign rfl) rfl rfl rfl ?_
        refine AO.nil ?_
        refine FnE.ret () [0] [0] Try.results29 (RVs.cons (RV.tmp rfl) (RVs.cons (RV.tmp rfl) RVs.nil)) rfl rfl rfl ?_ ?_ ⟨⟨_, rfl, ?_⟩, trivial⟩
        · -- holds
          trivial
        · -- value
          first | (rw [hS]; rfl) | (rw [hS]; done) | fail
        · -- thing 0
          refine vecE ?_; first | (rw [hS]; rfl) | (rw [hS]; done) | (rw [hS, hfl]; rfl) | fail

set_option maxHeartbeats 1000000 in
theorem impl_FirstSeats_c {gs : List Group} {rs pl : List Int} (hn : gs.length ≤ 1048576) (hs : ∀ x ∈ gs, x.name.length ≤ 1048576) (hr : rs.length ≤ 1048576) (hp : pl.length ≤ 1048576) :
    FnE (α := Unit) Try.prog 28 [.p (.sl 3 (gs.map encGroup)), .p (.sl 1 (rs.map encI)), .p (.sl 1 (pl.map encI))] [] [] (fun _ => True) (fun _ => .tup [.h 0, .p (.v (.int .i64 (firstSeats gs rs pl).2))]) (fun _ => [(0, .vec 2 1 ((firstSeats gs rs pl).1.map encI))]) := by
  have hM : (gs.map encGroup).length = gs.length := List.length_map ..
  have hMr : (rs.map encI).length = rs.length := List.length_map ..
  refine FnE.intro Try.func28 rfl Try.ntmps28 rfl rfl (fun w0 F0 η φ w => ?_)
  refine AC.seq ?_
  refine AC.region ?_
  refine AO.yld _ (Yld.assign rfl) rfl rfl rfl ?_
  refine AO.yld _ (Yld.assign rfl) rfl rfl rfl ?_
  refine AO.nil ?_
  refine AC.seq ?_
  refine AC.seq ?_
  refine AC.region ?_
  refine AO.yld _ (Yld.move rfl) rfl rfl rfl ?_
  refine AO.yld _ (Yld.call rfl rfl Try.call40 rfl rfl rfl (impl_ValidGroups_c (by first | assumption | omega) (by assumption)) rfl) rfl rfl rfl ?_
  refine AO.yld _ (Yld.not rfl) rfl rfl rfl ?_
  refine AO.yld _ (Yld.move rfl) rfl rfl rfl ?_
  refine AO.splitAt 17 _ rfl (fun s17 => ?_) (fun s17 => ?_)
  · -- s17 True
    have hbad : ¬ (okGroups gs = true ∧ okRows rs = true) := by clear hs; first | (simp_all; done) | grind
    have hS : firstSeats gs rs pl = ([], 1) := by unfold firstSeats; rw [if_neg (by rw [Bool.and_eq_true]; exact hbad)]
    refine AO.skipF rfl rfl rfl rfl rfl ?_
    refine AO.skipF rfl rfl rfl rfl rfl ?_
    refine AO.skipF rfl rfl rfl rfl rfl ?_
    refine AO.yld _ (Yld.pickT rfl rfl) rfl rfl rfl ?_
    refine AO.nil ?_
    refine AC.condT rfl ?_
    refine AC.seq ?_
    refine AC.region ?_
    refine AO.yld _ (Yld.assign rfl) rfl rfl rfl ?_
    refine AO.yld _ (Yld.assign rfl) rfl rfl rfl ?_
    refine AO.nil ?_
    refine AC.nilVec 6 0 2 1 rfl rfl ?_
    refine FnE.ret () [0] [0] Try.results28 (RVs.cons (RV.tmp rfl) (RVs.cons (RV.tmp rfl) RVs.nil)) rfl rfl rfl ?_ ?_ ⟨⟨_, rfl, ?_⟩, trivial⟩
    · -- holds
      trivial
    · -- value
      first | (rw [hS]; rfl) | (rw [hS]; done) | fail
    · -- thing 0
      refine vecE ?_; first | (rw [hS]; rfl) | (rw [hS]; done) | (rw [hS, hl]; done) | (rw [hS, hl]; rfl) | fail
  · -- s17 False
    refine AO.yldG _ (Yld.move rfl) rfl rfl rfl rfl rfl ?_
    refine AO.yldG _ (Yld.call rfl rfl Try.call41 rfl rfl rfl (impl_ValidRows_c (by first | assumption | omega)) rfl) rfl rfl rfl rfl rfl ?_
    refine AO.yldG _ (Yld.not rfl) rfl rfl rfl rfl rfl ?_
    refine AO.yld _ (Yld.pickF rfl rfl) rfl rfl rfl ?_
    refine AO.nil ?_
    refine AC.cond _ rfl (fun c21 => ?_) (fun c21 => ?_)
    · -- c21 True
      have hbad : ¬ (okGroups gs = true ∧ okRows rs = true) := by clear hs; first | (simp_all; done) | grind
      have hS : firstSeats gs rs pl = ([], 1) := by unfold firstSeats; rw [if_neg (by rw [Bool.and_eq_true]; exact hbad)]
      refine AC.seq ?_
      refine AC.region ?_
      refine AO.yld _ (Yld.assign rfl) rfl rfl rfl ?_
      refine AO.yld _ (Yld.assign rfl) rfl rfl rfl ?_
      refine AO.nil ?_
      refine AC.nilVec 6 0 2 1 rfl rfl ?_
      refine FnE.ret () [0] [0] Try.results28 (RVs.cons (RV.tmp rfl) (RVs.cons (RV.tmp rfl) RVs.nil)) rfl rfl rfl ?_ ?_ ⟨⟨_, rfl, ?_⟩, trivial⟩
      · -- holds
        trivial
      · -- value
        first | (rw [hS]; rfl) | (rw [hS]; done) | fail
      · -- thing 0
        refine vecE ?_; first | (rw [hS]; rfl) | (rw [hS]; done) | (rw [hS, hl]; done) | (rw [hS, hl]; rfl) | fail
    · -- c21 False
      have hv : okGroups gs = true ∧ okRows rs = true := by first | (simp_all; done) | grind
      have hok := hv.1
      have hrk := rows_all hv.2
      have hrl := rows_len hv.2
      have hand : (okGroups gs && okRows rs) = true := by rw [hv.1, hv.2]; rfl
      have hgl := groups_len hok
      refine AC.skip ?_
      refine AC.seq ?_
      refine AC.seq ?_
      refine AC.region ?_
      refine AO.yld _ (Yld.move rfl) rfl rfl rfl ?_
      refine AO.yld _ (Yld.move rfl) rfl rfl rfl ?_
      refine AO.yld _ (Yld.move rfl) rfl rfl rfl ?_
      refine AO.callW (wantedN rfl) [0] [] [0] rfl rfl Try.call59 rfl (impl_seatsLeft_c (by assumption) (by assumption) (by omega) (by omega)) (.flat (.view rfl rfl (.view rfl rfl (.view rfl rfl .nil))) (fun _ => by simp [AV.Flat, AV.FlatL, PV.Flat, PV.FlatL]) (fun _ => ⟨flat_map flatI _, trivial⟩)) rfl (fun _ => rfl) trivial rfl (fun _ => rfl) (fun _ => rfl) (fun _ _ => ?_)
      refine AO.yld _ (Yld.move rfl) rfl rfl rfl ?_
      refine AO.yld _ (Yld.extract rfl rfl rfl) rfl rfl rfl ?_
      refine AO.yld _ (Yld.extract rfl rfl rfl) rfl rfl rfl ?_
      refine AO.yld _ (Yld.assign rfl) rfl rfl rfl ?_
      refine AO.yld _ (Yld.assign rfl) rfl rfl rfl ?_
      refine AO.nil ?_
      refine AC.seq ?_
      refine AC.region ?_
      refine AO.yld _ (Yld.move rfl) rfl rfl rfl ?_
      refine AO.yld _ (Yld.not rfl) rfl rfl rfl ?_
      refine AO.nil ?_
      refine AC.cond _ rfl (fun c30 => ?_) (fun c30 => ?_)
      · -- c30 True
        have hfl : (leftF (persL gs) rs pl) = none := by have h := c30; simpa using h
        have hS : firstSeats gs rs pl = ([], 2) := by unfold firstSeats; rw [if_pos hand, hfl]; rfl
        refine AC.seq ?_
        refine AC.region ?_
        refine AO.yld _ (Yld.assign rfl) rfl rfl rfl ?_
        refine AO.yld _ (Yld.assign rfl) rfl rfl rfl ?_
        refine AO.nil ?_
        refine AC.nilVec 6 1 2 1 rfl rfl ?_
        refine FnE.ret () [1] [0] Try.results28 (RVs.cons (RV.tmp rfl) (RVs.cons (RV.tmp rfl) RVs.nil)) rfl rfl rfl ?_ ?_ ⟨⟨_, rfl, ?_⟩, trivial⟩
        · -- holds
          trivial
        · -- value
          first | (rw [hS]; rfl) | (rw [hS]; done) | fail
        · -- thing 0
          refine vecE ?_; first | (rw [hS]; rfl) | (rw [hS]; done) | (rw [hS, hl]; done) | (rw [hS, hl]; rfl) | fail
      · -- c30 False
        obtain ⟨f, hfl⟩ : ∃ f, (leftF (persL gs) rs pl) = some f := by have h := c30; rw [Bool.not_eq_false'] at h; exact Option.isSome_iff_exists.1 h
        have hgf := group_facts hv hfl
        have hS := hgf.fs
        have hl := hgf.hl
        refine AC.skip ?_
        refine AC.seq ?_
        refine AC.region ?_
        refine AO.yld _ (Yld.move rfl) rfl rfl rfl ?_
        refine AO.yld _ (Yld.len Try.underlying23 rfl rfl) rfl rfl rfl ?_
        refine AO.make 1 Try.underlying23 ty2 rfl rfl rfl rfl rfl (Nat.le_refl _) (by rw [hMr]; omega) (by rw [hMr]; omega) rfl rfl ?_
        refine AO.yld _ (Yld.assign rfl) rfl rfl rfl ?_
        refine AO.nil ?_
        refine AC.seq ?_
        refine AC.region ?_
        refine AO.yld _ (Yld.move rfl) rfl rfl rfl ?_
        refine AO.yld _ (Yld.len Try.underlying27 rfl rfl) rfl rfl rfl ?_
        refine AO.make 2 Try.underlying23 ty2 rfl rfl rfl rfl rfl (Nat.le_refl _) (by rw [hM]; omega) (by rw [hM]; omega) rfl rfl ?_
        refine AO.yld _ (Yld.assign rfl) rfl rfl rfl ?_
        refine AO.nil ?_
        refine AC.seq ?_
        refine AC.seq ?_
        refine AC.region ?_
        refine AO.yld _ (Yld.move rfl) rfl rfl rfl ?_
        refine AO.yld _ (Yld.len Try.underlying23 rfl rfl) rfl rfl rfl ?_
        refine AO.yld _ (Yld.move rfl) rfl rfl rfl ?_
        refine AO.nil ?_
        refine AC.block ?_
        refine AC.loopC [(0, _), (6, _), (7, _), (10, _), (11, _), (37, _), (38, _)] [(0, _), (900, _)] (fun (k : Nat) => [(39, .p (.v (.int .i64 (k : Int)))), (10, .h 1), (11, .h 2)]) (fun (k : Nat) => [(1, .vec 2 1 ((nxL gs pl rs.length k).map encI)), (2, .vec 2 1 ((fsL gs pl k).map encI))]) (fun (k : Nat) => k ≤ pl.length) (fun (k : Nat) => pl.length - k) 0 ⟨rfl, rfl, rfl, rfl, rfl, rfl, rfl, trivial⟩ ⟨rfl, rfl, trivial⟩ ⟨rfl, rfl, rfl, trivial⟩ ⟨by rw [hMr, nxL_zero]; exact congrArg (fun x => some (Res.vec 2 1 x)) (zero_rows rs.length), by rw [hM, fsL_zero]; exact congrArg (fun x => some (Res.vec 2 1 x)) (zero_rows gs.length), trivial⟩ ?_ (fun k hJ => ?_)
        · exact Nat.zero_le _
        · -- round
          refine AC.seq ?_
          refine AC.region ?_
          refine AO.yld _ (Yld.int rfl rfl rfl) rfl rfl rfl ?_
          refine AO.nil ?_
          refine AC.seq ?_
          refine AC.cond _ rfl (fun c40 => ?_) (fun c40 => ?_)
          · -- c40 True
            have hk : k < pl.length := lt_of_decM c40
            obtain ⟨r, hr⟩ := get_some hk
            have hrow := map_row (enc := encI) hr
            obtain ⟨g, hg⟩ := get_some (xs := gs) (k := k) (by omega)
            have hrowG := map_row (enc := encGroup) hg
            have hgp := group_lim (groups_at hok hg)
            have hrg := hgf.rg k r hr
            obtain ⟨z9, hz9⟩ := fsL_at (gs := gs) (pl := pl) (k := k) (i := k) (by omega)
            have hrowZ := map_row (enc := encI) hz9
            have hrowZ2 : (((fsL gs pl k).map encI).set k (encI (-1)))[k]? = some (encI (-1)) := by rw [List.getElem?_set_self (by rw [List.length_map, fsL_len]; omega)]
            refine AC.skip ?_
            refine AC.seq ?_
            refine AC.block ?_
            refine AC.seq ?_
            refine AC.region ?_
            refine AO.yld _ (Yld.move rfl) rfl rfl rfl ?_
            refine AO.yld _ (Yld.indexSl Try.underlying23 Try.sizeOf2 rfl rfl hrow rfl) rfl rfl rfl ?_
            refine AO.yld _ (Yld.load Try.isAgg2 rfl rfl) rfl rfl rfl ?_
            refine AO.yld _ (Yld.assign rfl) rfl rfl rfl ?_
            refine AO.yld _ (Yld.assign rfl) rfl rfl rfl ?_
            refine AO.nil ?_
            refine AC.seq ?_
            refine AC.region ?_
            refine AO.yld _ (Yld.move rfl) rfl rfl rfl ?_
            refine AO.yld _ (Yld.move rfl) rfl rfl rfl ?_
            refine AO.yld _ (Yld.indexVec Try.underlying23 Try.sizeOf2 rfl rfl rfl rfl (by rw [List.length_map, fsL_len]; omega)) rfl rfl rfl ?_
            refine AO.store Try.sizeOf2 rfl rfl rfl rfl rfl (store_el rfl hrowZ rfl rfl) ?_
            refine AO.nil ?_
            refine AC.seq ?_
            refine AC.region ?_
            refine AO.yld _ (Yld.move rfl) rfl rfl rfl ?_
            refine AO.yld _ (Yld.int rfl rfl rfl) rfl rfl rfl ?_
            refine AO.nil ?_
            refine AC.cond _ rfl (fun c48 => ?_) (fun c48 => ?_)
            · -- c48 True
              obtain ⟨m, rfl⟩ := Int.eq_ofNat_of_zero_le (show 0 ≤ r by simpa using c48)
              have hrowN := map_row (enc := encI) (nxL_get (gs := gs) (pl := pl) (n := rs.length) (k := m) (j := k) (by omega))
              have hub := usedAt_bound (pl := pl) hok k (m : Int)
              have hun := usedAt_nonneg (pl := pl) hok k (m : Int)
              have hnx := nxL_set (n := rs.length) (m := m) (by omega) hl hg hr
              have hfs := fsL_set (gs := gs) (pl := pl) (k := k) (by omega) (seatVal_pos hr).symm
              refine AC.seq ?_
              refine AC.region ?_
              refine AO.yld _ (Yld.move rfl) rfl rfl rfl ?_
              refine AO.yld _ (Yld.move rfl) rfl rfl rfl ?_
              refine AO.yld _ (Yld.move rfl) rfl rfl rfl ?_
              refine AO.yld _ (Yld.move rfl) rfl rfl rfl ?_
              refine AO.yld _ (Yld.indexVec Try.underlying23 Try.sizeOf2 rfl rfl rfl rfl (by rw [List.length_map, nxL_len]; omega)) rfl rfl rfl ?_
              refine AO.yld _ (Yld.load Try.isAgg2 rfl (Eq.trans (behind_el rfl hrowN) rfl)) rfl rfl rfl ?_
              refine AO.yld _ (Yld.indexVec Try.underlying23 Try.sizeOf2 rfl rfl rfl rfl (by rw [List.length_set, List.length_map, fsL_len]; omega)) rfl rfl rfl ?_
              refine AO.store Try.sizeOf2 rfl rfl rfl rfl rfl (store_el rfl hrowZ2 rfl rfl) ?_
              refine AO.nil ?_
              apply AC.drawAny ⟨[(0, _), (6, _), (7, _), (10, _), (11, _), (12, _), (13, _), (37, _), (38, _), (39, _), (40, _), (41, _), (42, _), (43, _), (44, _), (45, _), (46, _), (47, _), (48, _), (49, _), (50, _), (51, _), (52, _), (53, _), (54, _), (55, _), (56, _), (57, _), (58, _), (59, _), (60, _), (61, _), (62, _), (63, _), (64, _), (65, _), (66, _)], [(0, _), (1, _), (2, _), (900, _)]⟩ (by kernel_rfl)
              · -- orders
                refine AN.take 0 rfl (by kernel_rfl) (by kernel_rfl) (by kernel_rfl) rfl rfl rfl (YldA.move rfl) ?_
                refine AN.take 1 rfl (by kernel_rfl) (by kernel_rfl) (by kernel_rfl) rfl rfl rfl (YldA.move rfl) ?_
                refine AN.take 2 rfl (by kernel_rfl) (by kernel_rfl) (by kernel_rfl) rfl rfl rfl (YldA.indexVec Try.underlying23 Try.sizeOf2 rfl rfl rfl rfl (by rw [List.length_map, nxL_len]; omega)) ?_
                refine AN.take 4 rfl (by kernel_rfl) (by kernel_rfl) (by kernel_rfl) rfl rfl rfl (YldA.move rfl) ?_
                refine AN.take 5 rfl (by kernel_rfl) (by kernel_rfl) (by kernel_rfl) rfl rfl rfl (YldA.move rfl) ?_
                refine AN.take 6 rfl (by kernel_rfl) (by kernel_rfl) (by kernel_rfl) rfl rfl rfl (YldA.indexSl Try.underlying27 Try.sizeOf52 rfl rfl hrowG rfl) ?_
                refine AN.take 7 rfl (by kernel_rfl) (by kernel_rfl) (by kernel_rfl) rfl rfl rfl (YldA.fieldAddr Try.underlying52 rfl rfl Try.sizeOf2 rfl rfl rfl) ?_
                refine AN.all (rs := [3, 8]) (by kernel_rfl) rfl ⟨?_, ?_, trivial⟩
                · refine Stp.eff rfl rfl (Eff.yld (Yld.load Try.isAgg2 rfl (Eq.trans (behind_el rfl hrowN) rfl)) rfl rfl) ?_
                  refine AN.all (rs := [8]) (by kernel_rfl) rfl ⟨?_, trivial⟩
                  refine Stp.eff rfl rfl (Eff.yld (Yld.load Try.isAgg2 rfl rfl) rfl rfl) ?_
                  refine AN.take 9 rfl (by kernel_rfl) (by kernel_rfl) (by kernel_rfl) rfl rfl rfl (YldA.add rfl rfl (by omega) (by omega)) ?_
                  refine AN.take 10 rfl (by kernel_rfl) (by kernel_rfl) (by kernel_rfl) rfl rfl rfl (YldA.indexVec Try.underlying23 Try.sizeOf2 rfl rfl rfl rfl (by rw [List.length_map, nxL_len]; omega)) ?_
                  refine AN.all (rs := [11]) (by kernel_rfl) rfl ⟨?_, trivial⟩
                  refine Stp.eff rfl rfl (Eff.store Try.sizeOf2 rfl rfl rfl rfl rfl (store_el rfl hrowN rfl rfl)) ?_
                  exact AN.done (by kernel_rfl) (Le.intro ⟨rfl, rfl, rfl, rfl, rfl, rfl, rfl, rfl, rfl, rfl, rfl, rfl, rfl, rfl, rfl, rfl, rfl, rfl, rfl, rfl, rfl, rfl, rfl, rfl, rfl, rfl, rfl, rfl, rfl, rfl, rfl, rfl, rfl, rfl, rfl, rfl, rfl, trivial⟩ ⟨rfl, rfl, rfl, rfl, trivial⟩)
                · refine Stp.eff rfl rfl (Eff.yld (Yld.load Try.isAgg2 rfl rfl) rfl rfl) ?_
                  refine AN.all (rs := [3]) (by kernel_rfl) rfl ⟨?_, trivial⟩
                  refine Stp.eff rfl rfl (Eff.yld (Yld.load Try.isAgg2 rfl (Eq.trans (behind_el rfl hrowN) rfl)) rfl rfl) ?_
                  refine AN.take 9 rfl (by kernel_rfl) (by kernel_rfl) (by kernel_rfl) rfl rfl rfl (YldA.add rfl rfl (by omega) (by omega)) ?_
                  refine AN.take 10 rfl (by kernel_rfl) (by kernel_rfl) (by kernel_rfl) rfl rfl rfl (YldA.indexVec Try.underlying23 Try.sizeOf2 rfl rfl rfl rfl (by rw [List.length_map, nxL_len]; omega)) ?_
                  refine AN.all (rs := [11]) (by kernel_rfl) rfl ⟨?_, trivial⟩
                  refine Stp.eff rfl rfl (Eff.store Try.sizeOf2 rfl rfl rfl rfl rfl (store_el rfl hrowN rfl rfl)) ?_
                  exact AN.done (by kernel_rfl) (Le.intro ⟨rfl, rfl, rfl, rfl, rfl, rfl, rfl, rfl, rfl, rfl, rfl, rfl, rfl, rfl, rfl, rfl, rfl, rfl, rfl, rfl, rfl, rfl, rfl, rfl, rfl, rfl, rfl, rfl, rfl, rfl, rfl, rfl, rfl, rfl, rfl, rfl, rfl, trivial⟩ ⟨rfl, rfl, rfl, rfl, trivial⟩)
              · -- behind
                refine AC.mark ?_
                refine AC.region ?_
                refine AO.yld _ (Yld.add rfl rfl (by omega) (by omega)) rfl rfl rfl ?_
                refine AO.yld _ (Yld.move rfl) rfl rfl rfl ?_
                refine AO.nil ?_
                refine AC.back ⟨k + 1, ?_, ?_, ⟨?_, ?_, ?_, trivial⟩, ⟨?_, ?_, trivial⟩, ⟨rfl, rfl, rfl, rfl, rfl, rfl, rfl, trivial⟩, ⟨rfl, rfl, trivial⟩⟩
                · exact hk
                · omega
                · rfl
                · rfl
                · rfl
                · first | (rw [hnx]; rfl) | (rw [← hnx, List.map_set]; rfl)
                · first | (rw [← hfs, List.map_set]; rfl) | (rw [← hfs, List.map_set, List.set_set]; rfl)
            · -- c48 False
              have h0 : ¬ 0 ≤ r := by simpa using c48
              have hnx := nxL_out (n := rs.length) hl hg hr h0
              have hfs := fsL_set (gs := gs) (pl := pl) (k := k) (by omega) (seatVal_neg hr h0).symm
              refine AC.skip ?_
              refine AC.mark ?_
              refine AC.region ?_
              refine AO.yld _ (Yld.add rfl rfl (by omega) (by omega)) rfl rfl rfl ?_
              refine AO.yld _ (Yld.move rfl) rfl rfl rfl ?_
              refine AO.nil ?_
              refine AC.back ⟨k + 1, ?_, ?_, ⟨?_, ?_, ?_, trivial⟩, ⟨?_, ?_, trivial⟩, ⟨rfl, rfl, rfl, rfl, rfl, rfl, rfl, trivial⟩, ⟨rfl, rfl, trivial⟩⟩
              · exact hk
              · omega
              · rfl
              · rfl
              · rfl
              · first | (rw [hnx]; rfl) | (rw [← hnx, List.map_set]; rfl)
              · first | (rw [← hfs, List.map_set]; rfl) | (rw [← hfs, List.map_set, List.set_set]; rfl)
          · -- c40 False
            obtain rfl : k = pl.length := by have := ge_of_decM c40; omega
            refine AC.exit rfl ?_
            refine AC.seq ?_
            refine AC.region ?_
            refine AO.yld _ (Yld.move rfl) rfl rfl rfl ?_
            refine AO.yld _ (Yld.assign rfl) rfl rfl rfl ?_
            refine AO.yld _ (Yld.assign rfl) rfl rfl rfl ?_
            refine AO.nil ?_
            refine FnE.ret () [2] [0] Try.results28 (RVs.cons (RV.tmp rfl) (RVs.cons (RV.tmp rfl) RVs.nil)) rfl rfl rfl ?_ ?_ ⟨⟨_, rfl, ?_⟩, trivial⟩
            · -- holds
              trivial
            · -- value
              first | (rw [hS]; rfl) | (rw [hS]; done) | fail
            · -- thing 0
              refine vecE ?_; first | (rw [hS]; rfl) | (rw [hS]; done) | (rw [hS, hl]; done) | (rw [hS, hl]; rfl) | fail

theorem impl_WishesKept_c {gs : List Group} {pl : List Int} (hn : gs.length ≤ 1048576) (hs : ∀ x ∈ gs, x.name.length ≤ 1048576) (hp : pl.length ≤ 1048576) :
    Pure Try.prog 31 [.sl 3 (gs.map encGroup), .sl 1 (pl.map encI)] (.tup [.v (.int .i64 (wishesP gs pl).1), .v (.int .i64 (wishesP gs pl).2)]) := by
  have hM : (pl.map encI).length = pl.length := List.length_map ..
  refine Pure.intro Try.func31 rfl Try.ntmps31 rfl rfl (fun w => ?_)
  refine AC.seq ?_
  refine AC.region ?_
  refine AO.yld _ (Yld.assign rfl) rfl rfl rfl ?_
  refine AO.yld _ (Yld.assign rfl) rfl rfl rfl ?_
  refine AO.nil ?_
  refine AC.seq ?_
  refine AC.seq ?_
  refine AC.region ?_
  refine AO.yld _ (Yld.move rfl) rfl rfl rfl ?_
  refine AO.yld _ (Yld.call rfl rfl Try.call40 rfl rfl rfl (impl_ValidGroups_c (by first | assumption | omega) (by assumption)) rfl) rfl rfl rfl ?_
  refine AO.yld _ (Yld.not rfl) rfl rfl rfl ?_
  refine AO.nil ?_
  refine AC.cond _ rfl (fun c11 => ?_) (fun c11 => ?_)
  · -- c11 True
    have hS : wishesP gs pl = (0, 1) := by unfold wishesP; rw [if_neg (by simpa using c11)]
    refine AC.seq ?_
    refine AC.region ?_
    refine AO.yld _ (Yld.assign rfl) rfl rfl rfl ?_
    refine AO.yld _ (Yld.assign rfl) rfl rfl rfl ?_
    refine AO.nil ?_
    refine Pure.retT Try.results31 (RVs.cons (RV.tmp rfl) (RVs.cons (RV.tmp rfl) RVs.nil)) rfl ?_
    first | (rw [hS]; done) | fail
  · -- c11 False
    have hok : okGroups gs = true := by simpa using c11
    refine AC.skip ?_
    refine AC.seq ?_
    refine AC.seq ?_
    refine AC.region ?_
    refine AO.yld _ (Yld.move rfl) rfl rfl rfl ?_
    refine AO.yld _ (Yld.move rfl) rfl rfl rfl ?_
    refine AO.yld _ (Yld.call rfl rfl Try.call57 rfl rfl rfl (impl_areRows_c (by first | assumption | omega)) rfl) rfl rfl rfl ?_
    refine AO.yld _ (Yld.not rfl) rfl rfl rfl ?_
    refine AO.nil ?_
    refine AC.cond _ rfl (fun c15 => ?_) (fun c15 => ?_)
    · -- c15 True
      have hS : wishesP gs pl = (0, 2) := by unfold wishesP; rw [if_pos hok, if_neg (by simpa using c15)]
      refine AC.seq ?_
      refine AC.region ?_
      refine AO.yld _ (Yld.assign rfl) rfl rfl rfl ?_
      refine AO.yld _ (Yld.assign rfl) rfl rfl rfl ?_
      refine AO.nil ?_
      refine Pure.retT Try.results31 (RVs.cons (RV.tmp rfl) (RVs.cons (RV.tmp rfl) RVs.nil)) rfl ?_
      first | (rw [hS]; done) | fail
    · -- c15 False
      have har : areR gs pl = true := by simpa using c15
      have hl : pl.length = gs.length := by have h := har; unfold areR at h; rw [Bool.and_eq_true] at h; simpa using h.1
      have hS : wishesP gs pl = (wkTo gs pl pl.length, 0) := by unfold wishesP; rw [if_pos hok, if_pos har]
      refine AC.skip ?_
      refine AC.seq ?_
      refine AC.region ?_
      refine AO.yld _ (Yld.assign rfl) rfl rfl rfl ?_
      refine AO.nil ?_
      refine AC.seq ?_
      refine AC.seq ?_
      refine AC.region ?_
      refine AO.yld _ (Yld.move rfl) rfl rfl rfl ?_
      refine AO.yld _ (Yld.len Try.underlying23 rfl rfl) rfl rfl rfl ?_
      refine AO.yld _ (Yld.move rfl) rfl rfl rfl ?_
      refine AO.nil ?_
      refine AC.block ?_
      refine AC.loopC [(0, _), (4, _), (5, _), (16, _), (17, _)] [] (fun (k : Nat) => [(18, .p (.v (.int .i64 (k : Int)))), (6, .p (.v (.int .i64 (wkTo gs pl k))))]) (fun (k : Nat) => []) (fun (k : Nat) => k ≤ pl.length) (fun (k : Nat) => pl.length - k) 0 ⟨rfl, rfl, rfl, rfl, rfl, trivial⟩ trivial ⟨rfl, rfl, trivial⟩ trivial ?_ (fun k hJ => ?_)
      · exact Nat.zero_le _
      · -- round
        refine AC.seq ?_
        refine AC.region ?_
        refine AO.yld _ (Yld.int rfl rfl rfl) rfl rfl rfl ?_
        refine AO.nil ?_
        refine AC.seq ?_
        refine AC.cond _ rfl (fun c19 => ?_) (fun c19 => ?_)
        · -- c19 True
          have hk : k < pl.length := lt_of_decM c19
          obtain ⟨r, hr⟩ := get_some hk
          have hrow := map_row (enc := encI) hr
          obtain ⟨g, hg⟩ := get_some (xs := gs) (k := k) (by omega)
          have hrowG := map_row (enc := encGroup) hg
          have hbd := wkTo_bound gs pl k
          have hst := wkTo_succ hg hr
          refine AC.skip ?_
          refine AC.seq ?_
          refine AC.block ?_
          refine AC.seq ?_
          refine AC.region ?_
          refine AO.yld _ (Yld.move rfl) rfl rfl rfl ?_
          refine AO.yld _ (Yld.indexSl Try.underlying23 Try.sizeOf2 rfl rfl hrow rfl) rfl rfl rfl ?_
          refine AO.yld _ (Yld.load Try.isAgg2 rfl rfl) rfl rfl rfl ?_
          refine AO.yld _ (Yld.assign rfl) rfl rfl rfl ?_
          refine AO.yld _ (Yld.assign rfl) rfl rfl rfl ?_
          refine AO.nil ?_
          refine AC.seq ?_
          refine AC.region ?_
          refine AO.yld _ (Yld.move rfl) rfl rfl rfl ?_
          refine AO.yld _ (Yld.int rfl rfl rfl) rfl rfl rfl ?_
          refine AO.yld _ (Yld.move rfl) rfl rfl rfl ?_
          refine AO.splitAt 25 _ rfl (fun s25 => ?_) (fun s25 => ?_)
          · -- s25 True
            have h0 : 0 ≤ r := by simpa using s25
            refine AO.yldG _ (Yld.move rfl) rfl rfl rfl rfl rfl ?_
            refine AO.yldG _ (Yld.move rfl) rfl rfl rfl rfl rfl ?_
            refine AO.yldG _ (Yld.move rfl) rfl rfl rfl rfl rfl ?_
            refine AO.yldG _ (Yld.indexSl Try.underlying27 Try.sizeOf52 rfl rfl hrowG rfl) rfl rfl rfl rfl rfl ?_
            refine AO.yldG _ (Yld.fieldAddr Try.underlying52 rfl rfl Try.sizeOf2 rfl rfl rfl) rfl rfl rfl rfl rfl ?_
            refine AO.yldG _ (Yld.load Try.isAgg2 rfl rfl) rfl rfl rfl rfl rfl ?_
            refine AO.yldG _ (Yld.int rfl rfl rfl) rfl rfl rfl rfl rfl ?_
            refine AO.yld _ (Yld.pickT rfl rfl) rfl rfl rfl ?_
            refine AO.nil ?_
            refine AC.cond _ rfl (fun c33 => ?_) (fun c33 => ?_)
            · -- c33 True
              have hyes : 0 ≤ r ∧ r = g.wish := ⟨h0, by simpa using c33⟩
              refine AC.region ?_
              refine AO.yld _ (Yld.move rfl) rfl rfl rfl ?_
              refine AO.yld _ (Yld.add rfl rfl (by omega) (by omega)) rfl rfl rfl ?_
              refine AO.yld _ (Yld.assign rfl) rfl rfl rfl ?_
              refine AO.nil ?_
              refine AC.mark ?_
              refine AC.region ?_
              refine AO.yld _ (Yld.add rfl rfl (by omega) (by omega)) rfl rfl rfl ?_
              refine AO.yld _ (Yld.move rfl) rfl rfl rfl ?_
              refine AO.nil ?_
              refine AC.back ⟨k + 1, ?_, ?_, ⟨?_, ?_, trivial⟩, trivial, ⟨rfl, rfl, rfl, rfl, rfl, trivial⟩, trivial⟩
              · exact hk
              · omega
              · rfl
              · first | (rw [hst, if_pos hyes]; rfl) | (rw [hst, if_neg hno, Int.add_zero]; rfl)
            · -- c33 False
              have hno : ¬ (0 ≤ r ∧ r = g.wish) := by have h := c33; simp at h; omega
              refine AC.skip ?_
              refine AC.mark ?_
              refine AC.region ?_
              refine AO.yld _ (Yld.add rfl rfl (by omega) (by omega)) rfl rfl rfl ?_
              refine AO.yld _ (Yld.move rfl) rfl rfl rfl ?_
              refine AO.nil ?_
              refine AC.back ⟨k + 1, ?_, ?_, ⟨?_, ?_, trivial⟩, trivial, ⟨rfl, rfl, rfl, rfl, rfl, trivial⟩, trivial⟩
              · exact hk
              · omega
              · rfl
              · first | (rw [hst, if_pos hyes]; rfl) | (rw [hst, if_neg hno, Int.add_zero]; rfl)
          · -- s25 False
            have hno : ¬ (0 ≤ r ∧ r = g.wish) := by have h := s25; simp at h; omega
            refine AO.skipT rfl rfl rfl rfl rfl ?_
            refine AO.skipT rfl rfl rfl rfl rfl ?_
            refine AO.skipT rfl rfl rfl rfl rfl ?_
            refine AO.skipT rfl rfl rfl rfl rfl ?_
            refine AO.skipT rfl rfl rfl rfl rfl ?_
            refine AO.skipT rfl rfl rfl rfl rfl ?_
            refine AO.skipT rfl rfl rfl rfl rfl ?_
            refine AO.yld _ (Yld.pickF rfl rfl) rfl rfl rfl ?_
            refine AO.nil ?_
            refine AC.condF rfl ?_
            refine AC.skip ?_
            refine AC.mark ?_
            refine AC.region ?_
            refine AO.yld _ (Yld.add rfl rfl (by omega) (by omega)) rfl rfl rfl ?_
            refine AO.yld _ (Yld.move rfl) rfl rfl rfl ?_
            refine AO.nil ?_
            refine AC.back ⟨k + 1, ?_, ?_, ⟨?_, ?_, trivial⟩, trivial, ⟨rfl, rfl, rfl, rfl, rfl, trivial⟩, trivial⟩
            · exact hk
            · omega
            · rfl
            · first | (rw [hst, if_pos hyes]; rfl) | (rw [hst, if_neg hno, Int.add_zero]; rfl)
        · -- c19 False
          obtain rfl : k = pl.length := by have := ge_of_decM c19; omega
          refine AC.exit rfl ?_
          refine AC.seq ?_
          refine AC.region ?_
          refine AO.yld _ (Yld.move rfl) rfl rfl rfl ?_
          refine AO.yld _ (Yld.assign rfl) rfl rfl rfl ?_
          refine AO.yld _ (Yld.assign rfl) rfl rfl rfl ?_
          refine AO.nil ?_
          refine Pure.retT Try.results31 (RVs.cons (RV.tmp rfl) (RVs.cons (RV.tmp rfl) RVs.nil)) rfl ?_
          first | (rw [hS]; done) | fail

theorem spec_l24Free_c {gs : List Group} {rs pl : List Int} (hok : okGroups gs = true) (hrk : rs.all okRow = true) (hrl : rs.length ≤ 10) (hp : pl.length ≤ 1048576) :
    FnE (α := Unit) Try.prog 61 [.p (.sl 3 (gs.map encGroup)), .p (.sl 1 (rs.map encI)), .p (.sl 1 (pl.map encI))] [] [] (fun _ => True) (fun _ => .tup [.h 0, .p (.v (.bool (chkF (freeF (persL gs) rs pl)).isSome))]) (fun _ => [(0, .vec 2 1 (((chkF (freeF (persL gs) rs pl)).getD []).map encI))]) := by
  have hM : (gs.map encGroup).length = gs.length := List.length_map ..
  have hMr : (rs.map encI).length = rs.length := List.length_map ..
  have hgl := groups_len hok
  refine FnE.intro Try.func61 rfl Try.ntmps61 rfl rfl (fun w0 F0 η φ w => ?_)
  refine AC.seq ?_
  refine AC.region ?_
  refine AO.yld _ (Yld.assign rfl) rfl rfl rfl ?_
  refine AO.yld _ (Yld.assign rfl) rfl rfl rfl ?_
  refine AO.nil ?_
  refine AC.seq ?_
  refine AC.region ?_
  refine AO.yld _ (Yld.move rfl) rfl rfl rfl ?_
  refine AO.callW (wantedN rfl) [0] [] [0] rfl rfl Try.call37 rfl (spec_l00Own_c (by first | assumption | omega)) (.flat (.view rfl rfl .nil) (fun _ => by simp [AV.Flat, AV.FlatL, PV.Flat, PV.FlatL]) (fun _ => ⟨flat_map flatI _, trivial⟩)) rfl (fun _ => rfl) trivial rfl (fun _ => rfl) (fun _ => rfl) (fun _ _ => ?_)
  refine AO.yld _ (Yld.assign rfl) rfl rfl rfl ?_
  refine AO.nil ?_
  refine AC.seq ?_
  refine AC.seq ?_
  refine AC.region ?_
  refine AO.yld _ (Yld.move rfl) rfl rfl rfl ?_
  refine AO.yld _ (Yld.len Try.underlying23 rfl rfl) rfl rfl rfl ?_
  refine AO.yld _ (Yld.move rfl) rfl rfl rfl ?_
  refine AO.yld _ (Yld.len Try.underlying27 rfl rfl) rfl rfl rfl ?_
  refine AO.yld _ (Yld.int rfl rfl rfl) rfl rfl rfl ?_
  refine AO.nil ?_
  refine AC.cond _ rfl (fun c17 => ?_) (fun c17 => ?_)
  · -- c17 True
    have hS : (chkF (freeF (persL gs) rs pl)) = none := by rw [← left_free _ _ _ (fun p hp => by have := pers_lim hok p hp; omega) (okRow_nn hrk)]; exact leftF_len _ _ _ (by have h := c17; simp only [List.length_map] at h; simp [persL]; simp at h; omega)
    refine AC.seq ?_
    refine AC.region ?_
    refine AO.yld _ (Yld.assign rfl) rfl rfl rfl ?_
    refine AO.yld _ (Yld.assign rfl) rfl rfl rfl ?_
    refine AO.nil ?_
    refine AC.nilVec 6 1 2 1 rfl rfl ?_
    refine FnE.ret () [1] [0] Try.results61 (RVs.cons (RV.tmp rfl) (RVs.cons (RV.tmp rfl) RVs.nil)) rfl rfl rfl ?_ ?_ ⟨⟨_, rfl, ?_⟩, trivial⟩
    · -- holds
      trivial
    · -- value
      first | (rw [hS]; rfl) | (rw [hS]; done) | fail
    · -- thing 0
      refine vecE ?_; first | (rw [hS]; rfl) | (rw [hS]; done) | fail
  · -- c17 False
    have hl : pl.length = gs.length := by have h := c17; simp only [List.length_map] at h; simp at h; omega
    refine AC.skip ?_
    refine AC.seq ?_
    refine AC.seq ?_
    refine AC.region ?_
    refine AO.yld _ (Yld.assign rfl) rfl rfl rfl ?_
    refine AO.nil ?_
    refine AC.block ?_
    refine AC.loopC2 [(0, _), (1, _), (2, _), (8, _)] [(900, _)] (fun (k : Nat) (cur : List Int) => [(9, .p (.v (.int .i64 (k : Int)))), (8, .h 0)]) (fun (k : Nat) (cur : List Int) => [(0, .vec 2 1 (cur.map encI))]) (fun (k : Nat) (cur : List Int) => FreeJ gs rs pl k cur) (fun (k : Nat) (cur : List Int) => pl.length - k) 0 rs ⟨rfl, rfl, rfl, rfl, trivial⟩ ⟨rfl, trivial⟩ ⟨rfl, rfl, trivial⟩ ⟨rfl, trivial⟩ ?_ (fun k cur hJ => ?_)
    · exact freeJ_zero hrk
    · -- round
      have hJl := hJ.2.2.1
      have hJ1 := hJ.1
      refine AC.seq ?_
      refine AC.seq ?_
      refine AC.region ?_
      refine AO.yld _ (Yld.move rfl) rfl rfl rfl ?_
      refine AO.yld _ (Yld.move rfl) rfl rfl rfl ?_
      refine AO.yld _ (Yld.len Try.underlying23 rfl rfl) rfl rfl rfl ?_
      refine AO.yld _ (Yld.int rfl rfl rfl) rfl rfl rfl ?_
      refine AO.nil ?_
      refine AC.cond _ rfl (fun c21 => ?_) (fun c21 => ?_)
      · -- c21 True
        have hk : k < pl.length := lt_of_decM c21
        obtain ⟨r, hr⟩ := get_some hk
        have hrow := map_row (enc := encI) hr
        obtain ⟨g, hg⟩ := get_some (xs := gs) (k := k) (by omega)
        have hrowG := map_row (enc := encGroup) hg
        have hgp := group_lim (groups_at hok hg)
        refine AC.skip ?_
        refine AC.seq ?_
        refine AC.block ?_
        refine AC.seq ?_
        refine AC.seq ?_
        refine AC.region ?_
        refine AO.yld _ (Yld.move rfl) rfl rfl rfl ?_
        refine AO.yld _ (Yld.move rfl) rfl rfl rfl ?_
        refine AO.yld _ (Yld.indexSl Try.underlying23 Try.sizeOf2 rfl rfl hrow rfl) rfl rfl rfl ?_
        refine AO.yld _ (Yld.load Try.isAgg2 rfl rfl) rfl rfl rfl ?_
        refine AO.yld _ (Yld.move rfl) rfl rfl rfl ?_
        refine AO.yld _ (Yld.len Try.underlying23 rfl rfl) rfl rfl rfl ?_
        refine AO.yld _ (Yld.sub rfl rfl (by omega) (by omega)) rfl rfl rfl ?_
        refine AO.yld _ (Yld.call rfl rfl Try.call36 rfl rfl rfl (spec_l00In_c) rfl) rfl rfl rfl ?_
        refine AO.yld _ (Yld.not rfl) rfl rfl rfl ?_
        refine AO.nil ?_
        refine AC.cond _ rfl (fun c32 => ?_) (fun c32 => ?_)
        · -- c32 True
          have hS : (chkF (freeF (persL gs) rs pl)) = none := by rw [freeJ_out hJ hg hr (by have h := c32; rw [hMr] at h; simp at h; omega)]; rfl
          refine AC.seq ?_
          refine AC.region ?_
          refine AO.yld _ (Yld.assign rfl) rfl rfl rfl ?_
          refine AO.yld _ (Yld.assign rfl) rfl rfl rfl ?_
          refine AO.nil ?_
          refine AC.nilVec 6 1 2 1 rfl rfl ?_
          refine FnE.ret () [1] [0] Try.results61 (RVs.cons (RV.tmp rfl) (RVs.cons (RV.tmp rfl) RVs.nil)) rfl rfl rfl ?_ ?_ ⟨⟨_, rfl, ?_⟩, trivial⟩
          · -- holds
            trivial
          · -- value
            first | (rw [hS]; rfl) | (rw [hS]; done) | fail
          · -- thing 0
            refine vecE ?_; first | (rw [hS]; rfl) | (rw [hS]; done) | fail
        · -- c32 False
          have hin : -1 ≤ r ∧ r ≤ (rs.length : Int) - 1 := by have h := c32; rw [hMr] at h; simp at h; omega
          refine AC.skip ?_
          refine AC.seq ?_
          refine AC.region ?_
          refine AO.yld _ (Yld.move rfl) rfl rfl rfl ?_
          refine AO.yld _ (Yld.move rfl) rfl rfl rfl ?_
          refine AO.yld _ (Yld.indexSl Try.underlying23 Try.sizeOf2 rfl rfl hrow rfl) rfl rfl rfl ?_
          refine AO.yld _ (Yld.load Try.isAgg2 rfl rfl) rfl rfl rfl ?_
          refine AO.yld _ (Yld.int rfl rfl rfl) rfl rfl rfl ?_
          refine AO.nil ?_
          refine AC.cond _ rfl (fun c37 => ?_) (fun c37 => ?_)
          · -- c37 True
            obtain ⟨n, rfl⟩ := Int.eq_ofNat_of_zero_le (show 0 ≤ r by simpa using c37)
            obtain ⟨z, hz⟩ := get_some (xs := cur) (k := n) (by omega)
            have hrowZ := map_row (enc := encI) hz
            have hzr := hJ.2.2.2 n z hz
            obtain ⟨nc, hnc⟩ : ∃ nc, nc = cur.set n (z - g.persons) := ⟨_, rfl⟩
            have hJn : FreeJ gs rs pl (k + 1) nc := by rw [hnc]; exact freeJ_sit hJ hg hr hin hz (by omega)
            apply AC.drawAny ⟨[(0, _), (1, _), (2, _), (8, _), (9, _), (18, _), (19, _), (20, _), (21, _), (24, _), (25, _), (26, _), (27, _), (28, _), (29, _), (30, _), (31, _), (32, _), (33, _), (34, _), (35, _), (36, _), (37, _), (38, _), (39, _), (40, _), (41, _), (42, _), (43, _), (44, _), (45, _), (46, _), (47, _), (48, _), (49, _), (50, _), (51, _)], [(0, _), (900, _)]⟩ (by kernel_rfl)
            · -- orders
              refine AN.take 0 rfl (by kernel_rfl) (by kernel_rfl) (by kernel_rfl) rfl rfl rfl (YldA.move rfl) ?_
              refine AN.take 1 rfl (by kernel_rfl) (by kernel_rfl) (by kernel_rfl) rfl rfl rfl (YldA.move rfl) ?_
              refine AN.take 2 rfl (by kernel_rfl) (by kernel_rfl) (by kernel_rfl) rfl rfl rfl (YldA.move rfl) ?_
              refine AN.take 3 rfl (by kernel_rfl) (by kernel_rfl) (by kernel_rfl) rfl rfl rfl (YldA.indexSl Try.underlying23 Try.sizeOf2 rfl rfl hrow rfl) ?_
              refine AN.take 7 rfl (by kernel_rfl) (by kernel_rfl) (by kernel_rfl) rfl rfl rfl (YldA.move rfl) ?_
              refine AN.take 8 rfl (by kernel_rfl) (by kernel_rfl) (by kernel_rfl) rfl rfl rfl (YldA.move rfl) ?_
              refine AN.take 9 rfl (by kernel_rfl) (by kernel_rfl) (by kernel_rfl) rfl rfl rfl (YldA.indexSl Try.underlying27 Try.sizeOf52 rfl rfl hrowG rfl) ?_
              refine AN.take 10 rfl (by kernel_rfl) (by kernel_rfl) (by kernel_rfl) rfl rfl rfl (YldA.fieldAddr Try.underlying52 rfl rfl Try.sizeOf2 rfl rfl rfl) ?_
              refine AN.all (rs := [4, 11]) (by kernel_rfl) rfl ⟨?_, ?_, trivial⟩
              · refine Stp.eff rfl rfl (Eff.yld (Yld.load Try.isAgg2 rfl rfl) rfl rfl) ?_
                refine AN.take 5 rfl (by kernel_rfl) (by kernel_rfl) (by kernel_rfl) rfl rfl rfl (YldA.indexVec Try.underlying23 Try.sizeOf2 rfl rfl rfl rfl (by rw [List.length_map]; omega)) ?_
                refine AN.all (rs := [6, 11]) (by kernel_rfl) rfl ⟨?_, ?_, trivial⟩
                · refine Stp.eff rfl rfl (Eff.yld (Yld.load Try.isAgg2 rfl (Eq.trans (behind_el rfl hrowZ) rfl)) rfl rfl) ?_
                  refine AN.all (rs := [11]) (by kernel_rfl) rfl ⟨?_, trivial⟩
                  refine Stp.eff rfl rfl (Eff.yld (Yld.load Try.isAgg2 rfl rfl) rfl rfl) ?_
                  refine AN.take 12 rfl (by kernel_rfl) (by kernel_rfl) (by kernel_rfl) rfl rfl rfl (YldA.sub rfl rfl (by omega) (by omega)) ?_
                  refine AN.take 13 rfl (by kernel_rfl) (by kernel_rfl) (by kernel_rfl) rfl rfl rfl (YldA.indexVec Try.underlying23 Try.sizeOf2 rfl rfl rfl rfl (by rw [List.length_map]; omega)) ?_
                  refine AN.all (rs := [14]) (by kernel_rfl) rfl ⟨?_, trivial⟩
                  refine Stp.eff rfl rfl (Eff.store Try.sizeOf2 rfl rfl rfl rfl rfl (store_el rfl hrowZ rfl rfl)) ?_
                  exact AN.done (by kernel_rfl) (Le.intro ⟨rfl, rfl, rfl, rfl, rfl, rfl, rfl, rfl, rfl, rfl, rfl, rfl, rfl, rfl, rfl, rfl, rfl, rfl, rfl, rfl, rfl, rfl, rfl, rfl, rfl, rfl, rfl, rfl, rfl, rfl, rfl, rfl, rfl, rfl, rfl, rfl, rfl, trivial⟩ ⟨rfl, rfl, trivial⟩)
                · refine Stp.eff rfl rfl (Eff.yld (Yld.load Try.isAgg2 rfl rfl) rfl rfl) ?_
                  refine AN.all (rs := [6]) (by kernel_rfl) rfl ⟨?_, trivial⟩
                  refine Stp.eff rfl rfl (Eff.yld (Yld.load Try.isAgg2 rfl (Eq.trans (behind_el rfl hrowZ) rfl)) rfl rfl) ?_
                  refine AN.take 12 rfl (by kernel_rfl) (by kernel_rfl) (by kernel_rfl) rfl rfl rfl (YldA.sub rfl rfl (by omega) (by omega)) ?_
                  refine AN.take 13 rfl (by kernel_rfl) (by kernel_rfl) (by kernel_rfl) rfl rfl rfl (YldA.indexVec Try.underlying23 Try.sizeOf2 rfl rfl rfl rfl (by rw [List.length_map]; omega)) ?_
                  refine AN.all (rs := [14]) (by kernel_rfl) rfl ⟨?_, trivial⟩
                  refine Stp.eff rfl rfl (Eff.store Try.sizeOf2 rfl rfl rfl rfl rfl (store_el rfl hrowZ rfl rfl)) ?_
                  exact AN.done (by kernel_rfl) (Le.intro ⟨rfl, rfl, rfl, rfl, rfl, rfl, rfl, rfl, rfl, rfl, rfl, rfl, rfl, rfl, rfl, rfl, rfl, rfl, rfl, rfl, rfl, rfl, rfl, rfl, rfl, rfl, rfl, rfl, rfl, rfl, rfl, rfl, rfl, rfl, rfl, rfl, rfl, trivial⟩ ⟨rfl, rfl, trivial⟩)
              · refine Stp.eff rfl rfl (Eff.yld (Yld.load Try.isAgg2 rfl rfl) rfl rfl) ?_
                refine AN.all (rs := [4]) (by kernel_rfl) rfl ⟨?_, trivial⟩
                refine Stp.eff rfl rfl (Eff.yld (Yld.load Try.isAgg2 rfl rfl) rfl rfl) ?_
                refine AN.take 5 rfl (by kernel_rfl) (by kernel_rfl) (by kernel_rfl) rfl rfl rfl (YldA.indexVec Try.underlying23 Try.sizeOf2 rfl rfl rfl rfl (by rw [List.length_map]; omega)) ?_
                refine AN.all (rs := [6]) (by kernel_rfl) rfl ⟨?_, trivial⟩
                refine Stp.eff rfl rfl (Eff.yld (Yld.load Try.isAgg2 rfl (Eq.trans (behind_el rfl hrowZ) rfl)) rfl rfl) ?_
                refine AN.take 12 rfl (by kernel_rfl) (by kernel_rfl) (by kernel_rfl) rfl rfl rfl (YldA.sub rfl rfl (by omega) (by omega)) ?_
                refine AN.take 13 rfl (by kernel_rfl) (by kernel_rfl) (by kernel_rfl) rfl rfl rfl (YldA.indexVec Try.underlying23 Try.sizeOf2 rfl rfl rfl rfl (by rw [List.length_map]; omega)) ?_
                refine AN.all (rs := [14]) (by kernel_rfl) rfl ⟨?_, trivial⟩
                refine Stp.eff rfl rfl (Eff.store Try.sizeOf2 rfl rfl rfl rfl rfl (store_el rfl hrowZ rfl rfl)) ?_
                exact AN.done (by kernel_rfl) (Le.intro ⟨rfl, rfl, rfl, rfl, rfl, rfl, rfl, rfl, rfl, rfl, rfl, rfl, rfl, rfl, rfl, rfl, rfl, rfl, rfl, rfl, rfl, rfl, rfl, rfl, rfl, rfl, rfl, rfl, rfl, rfl, rfl, rfl, rfl, rfl, rfl, rfl, rfl, trivial⟩ ⟨rfl, rfl, trivial⟩)
            · -- behind
              refine AC.mark ?_
              refine AC.region ?_
              refine AO.yld _ (Yld.move rfl) rfl rfl rfl ?_
              refine AO.yld _ (Yld.add rfl rfl (by omega) (by omega)) rfl rfl rfl ?_
              refine AO.yld _ (Yld.assign rfl) rfl rfl rfl ?_
              refine AO.nil ?_
              refine AC.back ⟨k + 1, nc, ?_, ?_, ⟨?_, ?_, trivial⟩, ⟨?_, trivial⟩, ⟨rfl, rfl, rfl, rfl, trivial⟩, ⟨rfl, trivial⟩⟩
              · exact hJn
              · omega
              · rfl
              · rfl
              · first | (rw [hnc]; rfl) | (rw [hnc, List.map_set]; rfl)
          · -- c37 False
            obtain ⟨nc, hnc⟩ : ∃ nc, nc = cur := ⟨_, rfl⟩
            have hJn : FreeJ gs rs pl (k + 1) nc := by rw [hnc]; exact freeJ_skip hJ hg hr hin (by simpa using c37)
            refine AC.skip ?_
            refine AC.mark ?_
            refine AC.region ?_
            refine AO.yld _ (Yld.move rfl) rfl rfl rfl ?_
            refine AO.yld _ (Yld.add rfl rfl (by omega) (by omega)) rfl rfl rfl ?_
            refine AO.yld _ (Yld.assign rfl) rfl rfl rfl ?_
            refine AO.nil ?_
            refine AC.back ⟨k + 1, nc, ?_, ?_, ⟨?_, ?_, trivial⟩, ⟨?_, trivial⟩, ⟨rfl, rfl, rfl, rfl, trivial⟩, ⟨rfl, trivial⟩⟩
            · exact hJn
            · omega
            · rfl
            · rfl
            · first | (rw [hnc]; rfl) | (rw [hnc, List.map_set]; rfl)
      · -- c21 False
        obtain rfl : k = pl.length := by have := ge_of_decM c21; omega
        have hE := freeJ_end hJ hl
        refine AC.exit rfl ?_
        refine AC.seq ?_
        refine AC.seq ?_
        refine AC.region ?_
        refine AO.yld _ (Yld.assign rfl) rfl rfl rfl ?_
        refine AO.nil ?_
        refine AC.block ?_
        refine AC.loopC [(8, _)] [(0, _), (900, _)] (fun (j : Nat) => [(10, .p (.v (.int .i64 (j : Int))))]) (fun (j : Nat) => []) (fun (j : Nat) => j ≤ cur.length ∧ NNto cur j) (fun (j : Nat) => cur.length - j) 0 ⟨rfl, trivial⟩ ⟨rfl, rfl, trivial⟩ ⟨rfl, trivial⟩ trivial ?_ (fun j hI => ?_)
        · exact ⟨Nat.zero_le _, nn_zero⟩
        · -- round
          refine AC.seq ?_
          refine AC.seq ?_
          refine AC.region ?_
          refine AO.yld _ (Yld.move rfl) rfl rfl rfl ?_
          refine AO.yld _ (Yld.move rfl) rfl rfl rfl ?_
          refine AO.yld _ (Yld.len Try.underlying23 rfl rfl) rfl rfl rfl ?_
          refine AO.yld _ (Yld.int rfl rfl rfl) rfl rfl rfl ?_
          refine AO.nil ?_
          refine AC.cond _ rfl (fun c55 => ?_) (fun c55 => ?_)
          · -- c55 True
            have hj : j < cur.length := lt_of_decM c55
            obtain ⟨y, hy⟩ := get_some hj
            have hrowY := map_row (enc := encI) hy
            refine AC.skip ?_
            refine AC.seq ?_
            refine AC.block ?_
            refine AC.seq ?_
            refine AC.region ?_
            refine AO.yld _ (Yld.move rfl) rfl rfl rfl ?_
            refine AO.yld _ (Yld.move rfl) rfl rfl rfl ?_
            refine AO.yld _ (Yld.indexVec Try.underlying23 Try.sizeOf2 rfl rfl rfl rfl (by rw [List.length_map]; omega)) rfl rfl rfl ?_
            refine AO.yld _ (Yld.load Try.isAgg2 rfl (Eq.trans (behind_el rfl hrowY) rfl)) rfl rfl rfl ?_
            refine AO.yld _ (Yld.int rfl rfl rfl) rfl rfl rfl ?_
            refine AO.nil ?_
            refine AC.cond _ rfl (fun c62 => ?_) (fun c62 => ?_)
            · -- c62 True
              have hS : (chkF (freeF (persL gs) rs pl)) = none := by rw [hE]; exact chk_none hy (by simpa using c62)
              refine AC.seq ?_
              refine AC.region ?_
              refine AO.yld _ (Yld.assign rfl) rfl rfl rfl ?_
              refine AO.yld _ (Yld.assign rfl) rfl rfl rfl ?_
              refine AO.nil ?_
              refine AC.nilVec 6 1 2 1 rfl rfl ?_
              refine FnE.ret () [1] [0] Try.results61 (RVs.cons (RV.tmp rfl) (RVs.cons (RV.tmp rfl) RVs.nil)) rfl rfl rfl ?_ ?_ ⟨⟨_, rfl, ?_⟩, trivial⟩
              · -- holds
                trivial
              · -- value
                first | (rw [hS]; rfl) | (rw [hS]; done) | fail
              · -- thing 0
                refine vecE ?_; first | (rw [hS]; rfl) | (rw [hS]; done) | fail
            · -- c62 False
              have hy0 : 0 ≤ y := by have h := c62; simp at h; omega
              refine AC.skip ?_
              refine AC.mark ?_
              refine AC.region ?_
              refine AO.yld _ (Yld.move rfl) rfl rfl rfl ?_
              refine AO.yld _ (Yld.add rfl rfl (by omega) (by omega)) rfl rfl rfl ?_
              refine AO.yld _ (Yld.assign rfl) rfl rfl rfl ?_
              refine AO.nil ?_
              refine AC.back ⟨j + 1, ?_, ?_, ⟨?_, trivial⟩, trivial, ⟨rfl, trivial⟩, ⟨rfl, rfl, trivial⟩⟩
              · exact ⟨hj, nn_step hI.2 hy hy0⟩
              · omega
              · rfl
          · -- c55 False
            have hj : j = cur.length := by have h := c55; rw [List.length_map] at h; simp at h; have := hI.1; omega
            subst hj
            have hS : (chkF (freeF (persL gs) rs pl)) = some cur := by rw [hE]; exact chk_some hI.2
            refine AC.exit rfl ?_
            refine AC.seq ?_
            refine AC.region ?_
            refine AO.yld _ (Yld.move rfl) rfl rfl rfl ?_
            refine AO.yld _ (Yld.assign rfl) rfl rfl rfl ?_
            refine AO.yld _ (Yld.assign rfl) rfl rfl rfl ?_
            refine AO.nil ?_
            refine FnE.ret () [0] [0] Try.results61 (RVs.cons (RV.tmp rfl) (RVs.cons (RV.tmp rfl) RVs.nil)) rfl rfl rfl ?_ ?_ ⟨⟨_, rfl, ?_⟩, trivial⟩
            · -- holds
              trivial
            · -- value
              first | (rw [hS]; rfl) | (rw [hS]; done) | fail
            · -- thing 0
              refine vecE ?_; first | (rw [hS]; rfl) | (rw [hS]; done) | fail

theorem spec_IsSeating_c {gs : List Group} {rs pl : List Int} (hn : gs.length ≤ 1048576) (hs : ∀ x ∈ gs, x.name.length ≤ 1048576) (hr : rs.length ≤ 1048576) (hp : pl.length ≤ 1048576) :
    Pure Try.prog 30 [.sl 3 (gs.map encGroup), .sl 1 (rs.map encI), .sl 1 (pl.map encI)] (.v (.bool (isSeat gs rs pl))) := by
  refine Pure.intro Try.func30 rfl Try.ntmps30 rfl rfl (fun w => ?_)
  refine AC.seq ?_
  refine AC.region ?_
  refine AO.yld _ (Yld.assign rfl) rfl rfl rfl ?_
  refine AO.nil ?_
  refine AC.seq ?_
  refine AC.seq ?_
  refine AC.region ?_
  refine AO.yld _ (Yld.move rfl) rfl rfl rfl ?_
  refine AO.yld _ (Yld.call rfl rfl Try.call34 rfl rfl rfl (spec_l24Ok_c (by first | assumption | omega) (by assumption)) rfl) rfl rfl rfl ?_
  refine AO.yld _ (Yld.not rfl) rfl rfl rfl ?_
  refine AO.yld _ (Yld.move rfl) rfl rfl rfl ?_
  refine AO.splitAt 12 _ rfl (fun s12 => ?_) (fun s12 => ?_)
  · -- s12 True
    have hbad : ¬ (okGroups gs = true ∧ okRows rs = true) := by clear hs; first | (simp_all; done) | grind
    refine AO.skipF rfl rfl rfl rfl rfl ?_
    refine AO.skipF rfl rfl rfl rfl rfl ?_
    refine AO.skipF rfl rfl rfl rfl rfl ?_
    refine AO.yld _ (Yld.pickT rfl rfl) rfl rfl rfl ?_
    refine AO.nil ?_
    refine AC.condT rfl ?_
    refine AC.seq ?_
    refine AC.region ?_
    refine AO.yld _ (Yld.assign rfl) rfl rfl rfl ?_
    refine AO.nil ?_
    refine Pure.ret Try.results30 (RVs.cons (RV.tmp rfl) RVs.nil) rfl ?_
    first | (refine cb ?_; rw [hS]) | (have hS : isSeat gs rs pl = false := by (clear hs; unfold isSeat; cases h1 : okGroups gs <;> cases h2 : okRows rs <;> simp_all)); first | exact cb hS | exact cb hS.symm
  · -- s12 False
    refine AO.yldG _ (Yld.move rfl) rfl rfl rfl rfl rfl ?_
    refine AO.yldG _ (Yld.call rfl rfl Try.call35 rfl rfl rfl (spec_l24Rows_c (by first | assumption | omega)) rfl) rfl rfl rfl rfl rfl ?_
    refine AO.yldG _ (Yld.not rfl) rfl rfl rfl rfl rfl ?_
    refine AO.yld _ (Yld.pickF rfl rfl) rfl rfl rfl ?_
    refine AO.nil ?_
    refine AC.cond _ rfl (fun c16 => ?_) (fun c16 => ?_)
    · -- c16 True
      have hbad : ¬ (okGroups gs = true ∧ okRows rs = true) := by clear hs; first | (simp_all; done) | grind
      have hS : isSeat gs rs pl = false := by clear hs; unfold isSeat; cases h1 : okGroups gs <;> cases h2 : okRows rs <;> simp_all
      refine AC.seq ?_
      refine AC.region ?_
      refine AO.yld _ (Yld.assign rfl) rfl rfl rfl ?_
      refine AO.nil ?_
      refine Pure.ret Try.results30 (RVs.cons (RV.tmp rfl) RVs.nil) rfl ?_
      first | (refine cb ?_; rw [hS]) | (have hS : isSeat gs rs pl = false := by (clear hs; unfold isSeat; cases h1 : okGroups gs <;> cases h2 : okRows rs <;> simp_all)); first | exact cb hS | exact cb hS.symm
    · -- c16 False
      have hv : okGroups gs = true ∧ okRows rs = true := by first | (simp_all; done) | grind
      have hok := hv.1
      have hrk := rows_all hv.2
      have hrl := rows_len hv.2
      have hS : isSeat gs rs pl = (chkF (freeF (persL gs) rs pl)).isSome := by unfold isSeat; rw [hv.1, hv.2, left_free _ _ _ (fun p hp => by have := pers_lim hok p hp; omega) (okRow_nn hrk)]; rfl
      refine AC.skip ?_
      refine AC.seq ?_
      refine AC.region ?_
      refine AO.yld _ (Yld.move rfl) rfl rfl rfl ?_
      refine AO.yld _ (Yld.move rfl) rfl rfl rfl ?_
      refine AO.yld _ (Yld.move rfl) rfl rfl rfl ?_
      refine AO.callW (wantedN rfl) [0] [] [0] rfl rfl Try.call61 rfl (spec_l24Free_c (by assumption) (by assumption) (by omega) (by omega)) (.flat (.view rfl rfl (.view rfl rfl (.view rfl rfl .nil))) (fun _ => by simp [AV.Flat, AV.FlatL, PV.Flat, PV.FlatL]) (fun _ => ⟨flat_map flatI _, trivial⟩)) rfl (fun _ => rfl) trivial rfl (fun _ => rfl) (fun _ => rfl) (fun _ _ => ?_)
      refine AO.yld _ (Yld.move rfl) rfl rfl rfl ?_
      refine AO.yld _ (Yld.extract rfl rfl rfl) rfl rfl rfl ?_
      refine AO.yld _ (Yld.extract rfl rfl rfl) rfl rfl rfl ?_
      refine AO.yld _ (Yld.assign rfl) rfl rfl rfl ?_
      refine AO.yld _ (Yld.assign rfl) rfl rfl rfl ?_
      refine AO.nil ?_
      refine AC.seq ?_
      refine AC.region ?_
      refine AO.yld _ (Yld.move rfl) rfl rfl rfl ?_
      refine AO.yld _ (Yld.assign rfl) rfl rfl rfl ?_
      refine AO.nil ?_
      refine Pure.ret Try.results30 (RVs.cons (RV.tmp rfl) RVs.nil) rfl ?_
      first | (refine cb ?_; rw [hS]) | (have hS : isSeat gs rs pl = false := by (clear hs; unfold isSeat; cases h1 : okGroups gs <;> cases h2 : okRows rs <;> simp_all)); first | exact cb hS | exact cb hS.symm

set_option maxHeartbeats 2000000 in
theorem spec_l24DrawPlaces_c {code : List UInt8} {p sd : Int} (h0 : 0 ≤ p) (h1 : p ≤ 1000000000000) :
    FnE (α := List Group × List Int × List Int × Int × Int) Try.prog 60 [.h 0] [(0, .box 94 [.p (.sl 1 (code.map encB)), .p (.v (.int .i64 p)), .p (.v (.int .u64 sd))])] [0] (fun ⟨gs, rs, pl, q, s⟩ => DrawnG gs ∧ rs.length ≤ 11 ∧ pl.length ≤ 30 ∧ p ≤ q ∧ q ≤ p + 1000) (fun ⟨gs, rs, pl, q, s⟩ => .tup [.h 1, .h 2, .h 3]) (fun ⟨gs, rs, pl, q, s⟩ => [(0, .box 94 [.p (.sl 1 (code.map encB)), .p (.v (.int .i64 q)), .p (.v (.int .u64 s))]), (1, .vec 52 3 (gs.map encGroup)), (2, .vec 2 1 (rs.map encI)), (3, .vec 2 1 (pl.map encI))]) := by
  refine FnE.intro Try.func60 rfl Try.ntmps60 rfl rfl (fun w0 F0 η φ w => ?_)
  refine AC.seq ?_
  refine AC.region ?_
  refine AO.yld _ (Yld.assign rfl) rfl rfl rfl ?_
  refine AO.yld _ (Yld.assign rfl) rfl rfl rfl ?_
  refine AO.yld _ (Yld.assign rfl) rfl rfl rfl ?_
  refine AO.nil ?_
  refine AC.seq ?_
  refine AC.region ?_
  refine AO.yld _ (Yld.move rfl) rfl rfl rfl ?_
  refine AO.callW (wantedN rfl) [0, 1] [0] [0, 1] rfl rfl Try.call54 rfl (spec_l24Draw_c (by omega) (by omega)) (.own rfl) rfl (fun ⟨_, _, _⟩ => rfl) ⟨rfl, trivial⟩ rfl (fun ⟨_, _, _⟩ => rfl) (fun ⟨_, _, _⟩ => rfl) (fun ⟨gs12, q12, s12⟩ hgs12 => ?_)
  dsimp only at hgs12
  refine AO.yld _ (Yld.assign rfl) rfl rfl rfl ?_
  refine AO.nil ?_
  refine AC.seq ?_
  refine AC.region ?_
  refine AO.yld _ (Yld.move rfl) rfl rfl rfl ?_
  refine AO.callW (wantedN rfl) [0, 2] [0] [0, 1] rfl rfl Try.call55 rfl (spec_l24DrawRows_c (by omega) (by omega)) (.own rfl) rfl (fun ⟨_, _, _⟩ => rfl) ⟨rfl, trivial⟩ rfl (fun ⟨_, _, _⟩ => rfl) (fun ⟨_, _, _⟩ => rfl) (fun ⟨rs14, q14, s14⟩ hrs14 => ?_)
  dsimp only at hrs14
  have hgl9 := hgs12.1.1
  have hn9 : gs12.length ≤ 1048576 := by omega
  have hs9 := drawnG_names hgs12.1
  have hr9 : rs14.length ≤ 1048576 := by have := hrs14.1; omega
  have hgr9 := greedy_len gs12 rs14
  refine AO.yld _ (Yld.assign rfl) rfl rfl rfl ?_
  refine AO.nil ?_
  refine AC.seq ?_
  refine AC.region ?_
  refine AO.yld _ (Yld.move rfl) rfl rfl rfl ?_
  refine AO.yld _ (Yld.move rfl) rfl rfl rfl ?_
  refine AO.callW (wantedN rfl) [3] [] [0] rfl rfl Try.call20 rfl (spec_GreedySeating_c (by first | assumption | omega) (by assumption) (by first | assumption | omega)) (.flat (.view rfl rfl (.view rfl rfl .nil)) (fun _ => by simp [AV.Flat, AV.FlatL, PV.Flat, PV.FlatL]) (fun _ => ⟨flat_map flatI _, trivial⟩)) rfl (fun _ => rfl) trivial rfl (fun _ => rfl) (fun _ => rfl) (fun _ _ => ?_)
  refine AO.yld _ (Yld.move rfl) rfl rfl rfl ?_
  refine AO.yld _ (Yld.extract rfl rfl rfl) rfl rfl rfl ?_
  refine AO.yld _ (Yld.extract rfl rfl rfl) rfl rfl rfl ?_
  refine AO.yld _ (Yld.assign rfl) rfl rfl rfl ?_
  refine AO.yld _ (Yld.assign rfl) rfl rfl rfl ?_
  refine AO.nil ?_
  refine AC.seq ?_
  refine AC.seq ?_
  refine AC.region ?_
  refine AO.yld _ (Yld.move rfl) rfl rfl rfl ?_
  refine AO.yld _ (Yld.int rfl rfl rfl) rfl rfl rfl ?_
  refine AO.nil ?_
  refine AC.cond _ rfl (fun c22 => ?_) (fun c22 => ?_)
  · -- c22 True
    refine AC.seq ?_
    refine AC.region ?_
    refine AO.buildSlice (rows := []) 4 Try.underlying23 ty2 rfl rfl rfl rfl rfl rfl rfl rfl rfl ?_
    refine AO.yld _ (Yld.assign rfl) rfl rfl rfl ?_
    refine AO.nil ?_
    refine AC.seq ?_
    refine AC.region ?_
    refine AO.yld _ (Yld.assign rfl) rfl rfl rfl ?_
    refine AO.nil ?_
    refine AC.block ?_
    refine AC.loopC4 [(0, _), (2, _), (3, _), (4, _), (5, _), (6, _)] [(1, _), (2, _), (3, _), (900, _)] (fun (k : Nat) (pl : List Int) (q s : Int) => [(9, .p (.v (.int .i64 (k : Int)))), (7, .h 4)]) (fun (k : Nat) (pl : List Int) (q s : Int) => [(0, .box 94 [.p (.sl 1 (code.map encB)), .p (.v (.int .i64 q)), .p (.v (.int .u64 s))]), (4, .vec 2 1 (pl.map encI))]) (fun (k : Nat) (pl : List Int) (q s : Int) => pl.length = k ∧ k ≤ gs12.length ∧ q14 ≤ q ∧ q ≤ q14 + 2 * (k : Int)) (fun (k : Nat) (pl : List Int) (q s : Int) => gs12.length - k) 0 [] q14 s14 ⟨rfl, rfl, rfl, rfl, rfl, rfl, trivial⟩ ⟨rfl, rfl, rfl, rfl, trivial⟩ ⟨rfl, rfl, trivial⟩ ⟨rfl, rfl, trivial⟩ ?_ (fun k pl q s hJ => ?_)
    · exact ⟨rfl, Nat.zero_le _, by omega, by omega⟩
    · -- round
      have hJ2 := hJ.2
      refine AC.seq ?_
      refine AC.seq ?_
      refine AC.region ?_
      refine AO.yld _ (Yld.move rfl) rfl rfl rfl ?_
      refine AO.yld _ (Yld.move rfl) rfl rfl rfl ?_
      refine AO.yld _ (Yld.len Try.underlying27 rfl rfl) rfl rfl rfl ?_
      refine AO.yld _ (Yld.int rfl rfl rfl) rfl rfl rfl ?_
      refine AO.nil ?_
      refine AC.cond _ rfl (fun c27 => ?_) (fun c27 => ?_)
      · -- c27 True
        have hk : k < gs12.length := by have h := c27; simp at h; omega
        refine AC.skip ?_
        refine AC.seq ?_
        refine AC.block ?_
        refine AC.region ?_
        refine AO.yld _ (Yld.move rfl) rfl rfl rfl ?_
        refine AO.yld _ (Yld.move rfl) rfl rfl rfl ?_
        refine AO.callW (wantedN rfl) [0] [0] [0] rfl rfl Try.call72 rfl (src_pick_c (by omega) (by omega) (by omega)) (.own rfl) rfl (fun ⟨_, _, _⟩ => rfl) ⟨rfl, trivial⟩ rfl (fun ⟨_, _, _⟩ => rfl) (fun ⟨_, _, _⟩ => rfl) (fun ⟨v32, q32, s32⟩ hv32 => ?_)
        dsimp only at hv32
        refine AO.yld _ (Yld.sub rfl rfl (by omega) (by omega)) rfl rfl rfl ?_
        refine AO.buildSlice (rows := [[_]]) 5 Try.underlying23 ty2 rfl rfl rfl rfl rfl rfl rfl rfl rfl ?_
        refine AO.append 4 Try.underlying23 ty2 rfl rfl rfl rfl rfl rfl rfl (by simp [pvOne, str]) (by simp only [List.length_set, List.length_map, List.length_cons, List.length_nil]; omega) (by simp only [List.length_set, List.length_map, List.length_cons, List.length_nil]; omega) rfl ?_
        refine AO.yld _ (Yld.assign rfl) rfl rfl rfl ?_
        refine AO.nil ?_
        refine AC.mark ?_
        refine AC.region ?_
        refine AO.yld _ (Yld.move rfl) rfl rfl rfl ?_
        refine AO.yld _ (Yld.add rfl rfl (by omega) (by omega)) rfl rfl rfl ?_
        refine AO.yld _ (Yld.assign rfl) rfl rfl rfl ?_
        refine AO.nil ?_
        refine AC.back ⟨k + 1, pl ++ [v32 - 1], q32, s32, ?_, ?_, ⟨?_, ?_, trivial⟩, ⟨?_, ?_, trivial⟩, ⟨rfl, rfl, rfl, rfl, rfl, rfl, trivial⟩, ⟨rfl, rfl, rfl, rfl, trivial⟩⟩
        · exact ⟨by simp [hJ.1], hk, by omega, by omega⟩
        · omega
        · rfl
        · rfl
        · rfl
        · rw [map_snocG]; rfl
      · -- c27 False
        have hplb : pl.length ≤ 20 := by have := hJ.1; omega
        refine AC.exit rfl ?_
        refine AC.seq ?_
        refine AC.seq ?_
        refine AC.region ?_
        refine AO.yld _ (Yld.move rfl) rfl rfl rfl ?_
        refine AO.yld _ (Yld.len Try.underlying23 rfl rfl) rfl rfl rfl ?_
        refine AO.yld _ (Yld.int rfl rfl rfl) rfl rfl rfl ?_
        refine AO.yld _ (Yld.move rfl) rfl rfl rfl ?_
        refine AO.splitAt 39 _ rfl (fun s39 => ?_) (fun s39 => ?_)
        · -- s39 True
          have hpos := s39
          rw [decide_eq_true_eq, List.length_map] at hpos
          refine AO.yldG _ (Yld.move rfl) rfl rfl rfl rfl rfl ?_
          refine AO.callW (wantedG rfl rfl rfl) [0] [0] [0] rfl rfl Try.call70 rfl (src_one_c (by omega) (by omega) (by omega)) (.own rfl) rfl (fun ⟨_, _, _⟩ => rfl) ⟨rfl, trivial⟩ rfl (fun ⟨_, _, _⟩ => rfl) (fun ⟨_, _, _⟩ => rfl) (fun ⟨b41, q41, s41⟩ hb41 => ?_)
          dsimp only at hb41
          refine AO.yld _ (Yld.pickT rfl rfl) rfl rfl rfl ?_
          refine AO.nil ?_
          refine AC.cond _ rfl (fun c42 => ?_) (fun c42 => ?_)
          · -- c42 True
            refine AC.seq ?_
            refine AC.region ?_
            refine AO.yld _ (Yld.move rfl) rfl rfl rfl ?_
            refine AO.yld _ (Yld.move rfl) rfl rfl rfl ?_
            refine AO.yld _ (Yld.len Try.underlying23 rfl rfl) rfl rfl rfl ?_
            refine AO.callW (wantedN rfl) [0] [0] [0] rfl rfl Try.call72 rfl (src_pick1_c (by omega) (by omega) (by rw [List.length_map]; omega)) (.own rfl) rfl (fun ⟨_, _, _⟩ => rfl) ⟨rfl, trivial⟩ rfl (fun ⟨_, _, _⟩ => rfl) (fun ⟨_, _, _⟩ => rfl) (fun ⟨v46, q46, s46⟩ hv46 => ?_)
            dsimp only at hv46
            rw [List.length_map] at hv46
            obtain ⟨an, han⟩ := Int.eq_ofNat_of_zero_le hv46.1
            subst han
            obtain ⟨a9, ha9⟩ := get_some (k := an) (show an < _ from Int.ofNat_lt.1 hv46.2.1)
            have hrowA := map_row (enc := encI) ha9
            refine AO.yld _ (Yld.assign rfl) rfl rfl rfl ?_
            refine AO.nil ?_
            refine AC.region ?_
            refine AO.yld _ (Yld.move rfl) rfl rfl rfl ?_
            refine AO.yld _ (Yld.move rfl) rfl rfl rfl ?_
            refine AO.yld _ (Yld.move rfl) rfl rfl rfl ?_
            refine AO.buildSlice (rows := [[_], [_], [_], [_], [_], [_]]) 5 Try.underlying23 ty2 rfl rfl rfl rfl rfl rfl rfl rfl rfl ?_
            refine AO.callW (wantedN rfl) [0, 5] [0, 1] [0] rfl rfl Try.call74 rfl (src_among_c (by omega) (by omega) (xs := [-1, 0, 1, -2, 9, 10]) (by decide) (by decide)) (.own rfl) rfl (fun ⟨_, _, _⟩ => rfl) ⟨rfl, rfl, trivial⟩ rfl (fun ⟨_, _, _⟩ => rfl) (fun ⟨_, _, _⟩ => rfl) (fun ⟨v51, q51, s51⟩ hv51 => ?_)
            dsimp only at hv51
            refine AO.yld _ (Yld.indexVec Try.underlying23 Try.sizeOf2 rfl rfl rfl rfl (by rw [List.length_map]; omega)) rfl rfl rfl ?_
            refine AO.store Try.sizeOf2 rfl rfl rfl rfl rfl (store_el rfl hrowA rfl rfl) ?_
            refine AO.nil ?_
            refine AC.seq ?_
            refine AC.seq ?_
            refine AC.region ?_
            refine AO.yld _ (Yld.move rfl) rfl rfl rfl ?_
            refine AO.callW (wantedN rfl) [0] [0] [0] rfl rfl Try.call70 rfl (src_one_c (by omega) (by omega) (by omega)) (.own rfl) rfl (fun ⟨_, _, _⟩ => rfl) ⟨rfl, trivial⟩ rfl (fun ⟨_, _, _⟩ => rfl) (fun ⟨_, _, _⟩ => rfl) (fun ⟨b54, q54, s54⟩ hb54 => ?_)
            dsimp only at hb54
            refine AO.nil ?_
            refine AC.cond _ rfl (fun c54 => ?_) (fun c54 => ?_)
            · -- c54 True
              refine AC.region ?_
              refine AO.yld _ (Yld.move rfl) rfl rfl rfl ?_
              refine AO.buildSlice (rows := [[_]]) 6 Try.underlying23 ty2 rfl rfl rfl rfl rfl rfl rfl rfl rfl ?_
              refine AO.append 4 Try.underlying23 ty2 rfl rfl rfl rfl rfl rfl rfl (by simp [pvOne, str]) (by simp only [List.length_set, List.length_map, List.length_cons, List.length_nil]; omega) (by simp only [List.length_set, List.length_map, List.length_cons, List.length_nil]; omega) rfl ?_
              refine AO.yld _ (Yld.assign rfl) rfl rfl rfl ?_
              refine AO.nil ?_
              refine AC.seq ?_
              refine AC.region ?_
              refine AO.yld _ (Yld.move rfl) rfl rfl rfl ?_
              refine AO.yld _ (Yld.move rfl) rfl rfl rfl ?_
              refine AO.yld _ (Yld.move rfl) rfl rfl rfl ?_
              refine AO.yld _ (Yld.assign rfl) rfl rfl rfl ?_
              refine AO.yld _ (Yld.assign rfl) rfl rfl rfl ?_
              refine AO.yld _ (Yld.assign rfl) rfl rfl rfl ?_
              refine AO.nil ?_
              refine FnE.ret (gs12, rs14, (pl.set an v51) ++ [0], q54, s54) [0, 1, 2, 4] [0, 1, 2, 3] Try.results60 (RVs.cons (RV.tmp rfl) (RVs.cons (RV.tmp rfl) (RVs.cons (RV.tmp rfl) RVs.nil))) rfl rfl rfl ?_ ?_ ⟨⟨_, rfl, ?_⟩, ⟨_, rfl, ?_⟩, ⟨_, rfl, ?_⟩, ⟨_, rfl, ?_⟩, trivial⟩
              · -- holds
                show DrawnG _ ∧ List.length _ ≤ 11 ∧ List.length _ ≤ 30 ∧ _ ≤ _ ∧ _ ≤ _; refine ⟨hgs12.1, hrs14.1, ?_, by omega, by omega⟩; first | (simp only [List.length_append, List.length_set, List.length_cons, List.length_nil]; omega) | omega
              · -- value
                rfl
              · -- thing 0
                rfl
              · -- thing 1
                rfl
              · -- thing 2
                rfl
              · -- thing 3
                first | rfl | (rw [map_snocG]; rfl) | (rw [List.map_set]; rfl) | (rw [map_snocG, List.map_set]; rfl)
            · -- c54 False
              refine AC.skip ?_
              refine AC.seq ?_
              refine AC.region ?_
              refine AO.yld _ (Yld.move rfl) rfl rfl rfl ?_
              refine AO.yld _ (Yld.move rfl) rfl rfl rfl ?_
              refine AO.yld _ (Yld.move rfl) rfl rfl rfl ?_
              refine AO.yld _ (Yld.assign rfl) rfl rfl rfl ?_
              refine AO.yld _ (Yld.assign rfl) rfl rfl rfl ?_
              refine AO.yld _ (Yld.assign rfl) rfl rfl rfl ?_
              refine AO.nil ?_
              refine FnE.ret (gs12, rs14, pl.set an v51, q54, s54) [0, 1, 2, 4] [0, 1, 2, 3] Try.results60 (RVs.cons (RV.tmp rfl) (RVs.cons (RV.tmp rfl) (RVs.cons (RV.tmp rfl) RVs.nil))) rfl rfl rfl ?_ ?_ ⟨⟨_, rfl, ?_⟩, ⟨_, rfl, ?_⟩, ⟨_, rfl, ?_⟩, ⟨_, rfl, ?_⟩, trivial⟩
              · -- holds
                show DrawnG _ ∧ List.length _ ≤ 11 ∧ List.length _ ≤ 30 ∧ _ ≤ _ ∧ _ ≤ _; refine ⟨hgs12.1, hrs14.1, ?_, by omega, by omega⟩; first | (simp only [List.length_append, List.length_set, List.length_cons, List.length_nil]; omega) | omega
              · -- value
                rfl
              · -- thing 0
                rfl
              · -- thing 1
                rfl
              · -- thing 2
                rfl
              · -- thing 3
                first | rfl | (rw [map_snocG]; rfl) | (rw [List.map_set]; rfl) | (rw [map_snocG, List.map_set]; rfl)
          · -- c42 False
            refine AC.skip ?_
            refine AC.seq ?_
            refine AC.seq ?_
            refine AC.region ?_
            refine AO.yld _ (Yld.move rfl) rfl rfl rfl ?_
            refine AO.callW (wantedN rfl) [0] [0] [0] rfl rfl Try.call70 rfl (src_one_c (by omega) (by omega) (by omega)) (.own rfl) rfl (fun ⟨_, _, _⟩ => rfl) ⟨rfl, trivial⟩ rfl (fun ⟨_, _, _⟩ => rfl) (fun ⟨_, _, _⟩ => rfl) (fun ⟨b54, q54, s54⟩ hb54 => ?_)
            dsimp only at hb54
            refine AO.nil ?_
            refine AC.cond _ rfl (fun c54 => ?_) (fun c54 => ?_)
            · -- c54 True
              refine AC.region ?_
              refine AO.yld _ (Yld.move rfl) rfl rfl rfl ?_
              refine AO.buildSlice (rows := [[_]]) 5 Try.underlying23 ty2 rfl rfl rfl rfl rfl rfl rfl rfl rfl ?_
              refine AO.append 4 Try.underlying23 ty2 rfl rfl rfl rfl rfl rfl rfl (by simp [pvOne, str]) (by simp only [List.length_set, List.length_map, List.length_cons, List.length_nil]; omega) (by simp only [List.length_set, List.length_map, List.length_cons, List.length_nil]; omega) rfl ?_
              refine AO.yld _ (Yld.assign rfl) rfl rfl rfl ?_
              refine AO.nil ?_
              refine AC.seq ?_
              refine AC.region ?_
              refine AO.yld _ (Yld.move rfl) rfl rfl rfl ?_
              refine AO.yld _ (Yld.move rfl) rfl rfl rfl ?_
              refine AO.yld _ (Yld.move rfl) rfl rfl rfl ?_
              refine AO.yld _ (Yld.assign rfl) rfl rfl rfl ?_
              refine AO.yld _ (Yld.assign rfl) rfl rfl rfl ?_
              refine AO.yld _ (Yld.assign rfl) rfl rfl rfl ?_
              refine AO.nil ?_
              refine FnE.ret (gs12, rs14, pl ++ [0], q54, s54) [0, 1, 2, 4] [0, 1, 2, 3] Try.results60 (RVs.cons (RV.tmp rfl) (RVs.cons (RV.tmp rfl) (RVs.cons (RV.tmp rfl) RVs.nil))) rfl rfl rfl ?_ ?_ ⟨⟨_, rfl, ?_⟩, ⟨_, rfl, ?_⟩, ⟨_, rfl, ?_⟩, ⟨_, rfl, ?_⟩, trivial⟩
              · -- holds
                show DrawnG _ ∧ List.length _ ≤ 11 ∧ List.length _ ≤ 30 ∧ _ ≤ _ ∧ _ ≤ _; refine ⟨hgs12.1, hrs14.1, ?_, by omega, by omega⟩; first | (simp only [List.length_append, List.length_set, List.length_cons, List.length_nil]; omega) | omega
              · -- value
                rfl
              · -- thing 0
                rfl
              · -- thing 1
                rfl
              · -- thing 2
                rfl
              · -- thing 3
                first | rfl | (rw [map_snocG]; rfl) | (rw [List.map_set]; rfl) | (rw [map_snocG, List.map_set]; rfl)
            · -- c54 False
              refine AC.skip ?_
              refine AC.seq ?_
              refine AC.region ?_
              refine AO.yld _ (Yld.move rfl) rfl rfl rfl ?_
              refine AO.yld _ (Yld.move rfl) rfl rfl rfl ?_
              refine AO.yld _ (Yld.move rfl) rfl rfl rfl ?_
              refine AO.yld _ (Yld.assign rfl) rfl rfl rfl ?_
              refine AO.yld _ (Yld.assign rfl) rfl rfl rfl ?_
              refine AO.yld _ (Yld.assign rfl) rfl rfl rfl ?_
              refine AO.nil ?_
              refine FnE.ret (gs12, rs14, pl, q54, s54) [0, 1, 2, 4] [0, 1, 2, 3] Try.results60 (RVs.cons (RV.tmp rfl) (RVs.cons (RV.tmp rfl) (RVs.cons (RV.tmp rfl) RVs.nil))) rfl rfl rfl ?_ ?_ ⟨⟨_, rfl, ?_⟩, ⟨_, rfl, ?_⟩, ⟨_, rfl, ?_⟩, ⟨_, rfl, ?_⟩, trivial⟩
              · -- holds
                show DrawnG _ ∧ List.length _ ≤ 11 ∧ List.length _ ≤ 30 ∧ _ ≤ _ ∧ _ ≤ _; refine ⟨hgs12.1, hrs14.1, ?_, by omega, by omega⟩; first | (simp only [List.length_append, List.length_set, List.length_cons, List.length_nil]; omega) | omega
              · -- value
                rfl
              · -- thing 0
                rfl
              · -- thing 1
                rfl
              · -- thing 2
                rfl
              · -- thing 3
                first | rfl | (rw [map_snocG]; rfl) | (rw [List.map_set]; rfl) | (rw [map_snocG, List.map_set]; rfl)
        · -- s39 False
          refine AO.skipT rfl rfl rfl rfl rfl ?_
          refine AO.skipT rfl rfl rfl rfl rfl ?_
          refine AO.yld _ (Yld.pickF rfl rfl) rfl rfl rfl ?_
          refine AO.nil ?_
          refine AC.condF rfl ?_
          refine AC.skip ?_
          refine AC.seq ?_
          refine AC.seq ?_
          refine AC.region ?_
          refine AO.yld _ (Yld.move rfl) rfl rfl rfl ?_
          refine AO.callW (wantedN rfl) [0] [0] [0] rfl rfl Try.call70 rfl (src_one_c (by omega) (by omega) (by omega)) (.own rfl) rfl (fun ⟨_, _, _⟩ => rfl) ⟨rfl, trivial⟩ rfl (fun ⟨_, _, _⟩ => rfl) (fun ⟨_, _, _⟩ => rfl) (fun ⟨b54, q54, s54⟩ hb54 => ?_)
          dsimp only at hb54
          refine AO.nil ?_
          refine AC.cond _ rfl (fun c54 => ?_) (fun c54 => ?_)
          · -- c54 True
            refine AC.region ?_
            refine AO.yld _ (Yld.move rfl) rfl rfl rfl ?_
            refine AO.buildSlice (rows := [[_]]) 5 Try.underlying23 ty2 rfl rfl rfl rfl rfl rfl rfl rfl rfl ?_
            refine AO.append 4 Try.underlying23 ty2 rfl rfl rfl rfl rfl rfl rfl (by simp [pvOne, str]) (by simp only [List.length_set, List.length_map, List.length_cons, List.length_nil]; omega) (by simp only [List.length_set, List.length_map, List.length_cons, List.length_nil]; omega) rfl ?_
            refine AO.yld _ (Yld.assign rfl) rfl rfl rfl ?_
            refine AO.nil ?_
            refine AC.seq ?_
            refine AC.region ?_
            refine AO.yld _ (Yld.move rfl) rfl rfl rfl ?_
            refine AO.yld _ (Yld.move rfl) rfl rfl rfl ?_
            refine AO.yld _ (Yld.move rfl) rfl rfl rfl ?_
            refine AO.yld _ (Yld.assign rfl) rfl rfl rfl ?_
            refine AO.yld _ (Yld.assign rfl) rfl rfl rfl ?_
            refine AO.yld _ (Yld.assign rfl) rfl rfl rfl ?_
            refine AO.nil ?_
            refine FnE.ret (gs12, rs14, pl ++ [0], q54, s54) [0, 1, 2, 4] [0, 1, 2, 3] Try.results60 (RVs.cons (RV.tmp rfl) (RVs.cons (RV.tmp rfl) (RVs.cons (RV.tmp rfl) RVs.nil))) rfl rfl rfl ?_ ?_ ⟨⟨_, rfl, ?_⟩, ⟨_, rfl, ?_⟩, ⟨_, rfl, ?_⟩, ⟨_, rfl, ?_⟩, trivial⟩
            · -- holds
              show DrawnG _ ∧ List.length _ ≤ 11 ∧ List.length _ ≤ 30 ∧ _ ≤ _ ∧ _ ≤ _; refine ⟨hgs12.1, hrs14.1, ?_, by omega, by omega⟩; first | (simp only [List.length_append, List.length_set, List.length_cons, List.length_nil]; omega) | omega
            · -- value
              rfl
            · -- thing 0
              rfl
            · -- thing 1
              rfl
            · -- thing 2
              rfl
            · -- thing 3
              first | rfl | (rw [map_snocG]; rfl) | (rw [List.map_set]; rfl) | (rw [map_snocG, List.map_set]; rfl)
          · -- c54 False
            refine AC.skip ?_
            refine AC.seq ?_
            refine AC.region ?_
            refine AO.yld _ (Yld.move rfl) rfl rfl rfl ?_
            refine AO.yld _ (Yld.move rfl) rfl rfl rfl ?_
            refine AO.yld _ (Yld.move rfl) rfl rfl rfl ?_
            refine AO.yld _ (Yld.assign rfl) rfl rfl rfl ?_
            refine AO.yld _ (Yld.assign rfl) rfl rfl rfl ?_
            refine AO.yld _ (Yld.assign rfl) rfl rfl rfl ?_
            refine AO.nil ?_
            refine FnE.ret (gs12, rs14, pl, q54, s54) [0, 1, 2, 4] [0, 1, 2, 3] Try.results60 (RVs.cons (RV.tmp rfl) (RVs.cons (RV.tmp rfl) (RVs.cons (RV.tmp rfl) RVs.nil))) rfl rfl rfl ?_ ?_ ⟨⟨_, rfl, ?_⟩, ⟨_, rfl, ?_⟩, ⟨_, rfl, ?_⟩, ⟨_, rfl, ?_⟩, trivial⟩
            · -- holds
              show DrawnG _ ∧ List.length _ ≤ 11 ∧ List.length _ ≤ 30 ∧ _ ≤ _ ∧ _ ≤ _; refine ⟨hgs12.1, hrs14.1, ?_, by omega, by omega⟩; first | (simp only [List.length_append, List.length_set, List.length_cons, List.length_nil]; omega) | omega
            · -- value
              rfl
            · -- thing 0
              rfl
            · -- thing 1
              rfl
            · -- thing 2
              rfl
            · -- thing 3
              first | rfl | (rw [map_snocG]; rfl) | (rw [List.map_set]; rfl) | (rw [map_snocG, List.map_set]; rfl)
  · -- c22 False
    refine AC.skip ?_
    refine AC.seq ?_
    refine AC.seq ?_
    refine AC.region ?_
    refine AO.yld _ (Yld.move rfl) rfl rfl rfl ?_
    refine AO.yld _ (Yld.len Try.underlying23 rfl rfl) rfl rfl rfl ?_
    refine AO.yld _ (Yld.int rfl rfl rfl) rfl rfl rfl ?_
    refine AO.yld _ (Yld.move rfl) rfl rfl rfl ?_
    refine AO.splitAt 39 _ rfl (fun s39 => ?_) (fun s39 => ?_)
    · -- s39 True
      have hpos := s39
      rw [decide_eq_true_eq, List.length_map] at hpos
      refine AO.yldG _ (Yld.move rfl) rfl rfl rfl rfl rfl ?_
      refine AO.callW (wantedG rfl rfl rfl) [0] [0] [0] rfl rfl Try.call70 rfl (src_one_c (by omega) (by omega) (by omega)) (.own rfl) rfl (fun ⟨_, _, _⟩ => rfl) ⟨rfl, trivial⟩ rfl (fun ⟨_, _, _⟩ => rfl) (fun ⟨_, _, _⟩ => rfl) (fun ⟨b41, q41, s41⟩ hb41 => ?_)
      dsimp only at hb41
      refine AO.yld _ (Yld.pickT rfl rfl) rfl rfl rfl ?_
      refine AO.nil ?_
      refine AC.cond _ rfl (fun c42 => ?_) (fun c42 => ?_)
      · -- c42 True
        refine AC.seq ?_
        refine AC.region ?_
        refine AO.yld _ (Yld.move rfl) rfl rfl rfl ?_
        refine AO.yld _ (Yld.move rfl) rfl rfl rfl ?_
        refine AO.yld _ (Yld.len Try.underlying23 rfl rfl) rfl rfl rfl ?_
        refine AO.callW (wantedN rfl) [0] [0] [0] rfl rfl Try.call72 rfl (src_pick1_c (by omega) (by omega) (by rw [List.length_map]; omega)) (.own rfl) rfl (fun ⟨_, _, _⟩ => rfl) ⟨rfl, trivial⟩ rfl (fun ⟨_, _, _⟩ => rfl) (fun ⟨_, _, _⟩ => rfl) (fun ⟨v46, q46, s46⟩ hv46 => ?_)
        dsimp only at hv46
        rw [List.length_map] at hv46
        obtain ⟨an, han⟩ := Int.eq_ofNat_of_zero_le hv46.1
        subst han
        obtain ⟨a9, ha9⟩ := get_some (k := an) (show an < _ from Int.ofNat_lt.1 hv46.2.1)
        have hrowA := map_row (enc := encI) ha9
        refine AO.yld _ (Yld.assign rfl) rfl rfl rfl ?_
        refine AO.nil ?_
        refine AC.region ?_
        refine AO.yld _ (Yld.move rfl) rfl rfl rfl ?_
        refine AO.yld _ (Yld.move rfl) rfl rfl rfl ?_
        refine AO.yld _ (Yld.move rfl) rfl rfl rfl ?_
        refine AO.buildSlice (rows := [[_], [_], [_], [_], [_], [_]]) 4 Try.underlying23 ty2 rfl rfl rfl rfl rfl rfl rfl rfl rfl ?_
        refine AO.callW (wantedN rfl) [0, 4] [0, 1] [0] rfl rfl Try.call74 rfl (src_among_c (by omega) (by omega) (xs := [-1, 0, 1, -2, 9, 10]) (by decide) (by decide)) (.own rfl) rfl (fun ⟨_, _, _⟩ => rfl) ⟨rfl, rfl, trivial⟩ rfl (fun ⟨_, _, _⟩ => rfl) (fun ⟨_, _, _⟩ => rfl) (fun ⟨v51, q51, s51⟩ hv51 => ?_)
        dsimp only at hv51
        refine AO.yld _ (Yld.indexVec Try.underlying23 Try.sizeOf2 rfl rfl rfl rfl (by rw [List.length_map]; omega)) rfl rfl rfl ?_
        refine AO.store Try.sizeOf2 rfl rfl rfl rfl rfl (store_el rfl hrowA rfl rfl) ?_
        refine AO.nil ?_
        refine AC.seq ?_
        refine AC.seq ?_
        refine AC.region ?_
        refine AO.yld _ (Yld.move rfl) rfl rfl rfl ?_
        refine AO.callW (wantedN rfl) [0] [0] [0] rfl rfl Try.call70 rfl (src_one_c (by omega) (by omega) (by omega)) (.own rfl) rfl (fun ⟨_, _, _⟩ => rfl) ⟨rfl, trivial⟩ rfl (fun ⟨_, _, _⟩ => rfl) (fun ⟨_, _, _⟩ => rfl) (fun ⟨b54, q54, s54⟩ hb54 => ?_)
        dsimp only at hb54
        refine AO.nil ?_
        refine AC.cond _ rfl (fun c54 => ?_) (fun c54 => ?_)
        · -- c54 True
          refine AC.region ?_
          refine AO.yld _ (Yld.move rfl) rfl rfl rfl ?_
          refine AO.buildSlice (rows := [[_]]) 5 Try.underlying23 ty2 rfl rfl rfl rfl rfl rfl rfl rfl rfl ?_
          refine AO.append 3 Try.underlying23 ty2 rfl rfl rfl rfl rfl rfl rfl (by simp [pvOne, str]) (by simp only [List.length_set, List.length_map, List.length_cons, List.length_nil]; omega) (by simp only [List.length_set, List.length_map, List.length_cons, List.length_nil]; omega) rfl ?_
          refine AO.yld _ (Yld.assign rfl) rfl rfl rfl ?_
          refine AO.nil ?_
          refine AC.seq ?_
          refine AC.region ?_
          refine AO.yld _ (Yld.move rfl) rfl rfl rfl ?_
          refine AO.yld _ (Yld.move rfl) rfl rfl rfl ?_
          refine AO.yld _ (Yld.move rfl) rfl rfl rfl ?_
          refine AO.yld _ (Yld.assign rfl) rfl rfl rfl ?_
          refine AO.yld _ (Yld.assign rfl) rfl rfl rfl ?_
          refine AO.yld _ (Yld.assign rfl) rfl rfl rfl ?_
          refine AO.nil ?_
          refine FnE.ret (gs12, rs14, ((greedyS gs12 rs14).1.set an v51) ++ [0], q54, s54) [0, 1, 2, 3] [0, 1, 2, 3] Try.results60 (RVs.cons (RV.tmp rfl) (RVs.cons (RV.tmp rfl) (RVs.cons (RV.tmp rfl) RVs.nil))) rfl rfl rfl ?_ ?_ ⟨⟨_, rfl, ?_⟩, ⟨_, rfl, ?_⟩, ⟨_, rfl, ?_⟩, ⟨_, rfl, ?_⟩, trivial⟩
          · -- holds
            show DrawnG _ ∧ List.length _ ≤ 11 ∧ List.length _ ≤ 30 ∧ _ ≤ _ ∧ _ ≤ _; refine ⟨hgs12.1, hrs14.1, ?_, by omega, by omega⟩; first | (simp only [List.length_append, List.length_set, List.length_cons, List.length_nil]; omega) | omega
          · -- value
            rfl
          · -- thing 0
            rfl
          · -- thing 1
            rfl
          · -- thing 2
            rfl
          · -- thing 3
            first | rfl | (rw [map_snocG]; rfl) | (rw [List.map_set]; rfl) | (rw [map_snocG, List.map_set]; rfl)
        · -- c54 False
          refine AC.skip ?_
          refine AC.seq ?_
          refine AC.region ?_
          refine AO.yld _ (Yld.move rfl) rfl rfl rfl ?_
          refine AO.yld _ (Yld.move rfl) rfl rfl rfl ?_
          refine AO.yld _ (Yld.move rfl) rfl rfl rfl ?_
          refine AO.yld _ (Yld.assign rfl) rfl rfl rfl ?_
          refine AO.yld _ (Yld.assign rfl) rfl rfl rfl ?_
          refine AO.yld _ (Yld.assign rfl) rfl rfl rfl ?_
          refine AO.nil ?_
          refine FnE.ret (gs12, rs14, (greedyS gs12 rs14).1.set an v51, q54, s54) [0, 1, 2, 3] [0, 1, 2, 3] Try.results60 (RVs.cons (RV.tmp rfl) (RVs.cons (RV.tmp rfl) (RVs.cons (RV.tmp rfl) RVs.nil))) rfl rfl rfl ?_ ?_ ⟨⟨_, rfl, ?_⟩, ⟨_, rfl, ?_⟩, ⟨_, rfl, ?_⟩, ⟨_, rfl, ?_⟩, trivial⟩
          · -- holds
            show DrawnG _ ∧ List.length _ ≤ 11 ∧ List.length _ ≤ 30 ∧ _ ≤ _ ∧ _ ≤ _; refine ⟨hgs12.1, hrs14.1, ?_, by omega, by omega⟩; first | (simp only [List.length_append, List.length_set, List.length_cons, List.length_nil]; omega) | omega
          · -- value
            rfl
          · -- thing 0
            rfl
          · -- thing 1
            rfl
          · -- thing 2
            rfl
          · -- thing 3
            first | rfl | (rw [map_snocG]; rfl) | (rw [List.map_set]; rfl) | (rw [map_snocG, List.map_set]; rfl)
      · -- c42 False
        refine AC.skip ?_
        refine AC.seq ?_
        refine AC.seq ?_
        refine AC.region ?_
        refine AO.yld _ (Yld.move rfl) rfl rfl rfl ?_
        refine AO.callW (wantedN rfl) [0] [0] [0] rfl rfl Try.call70 rfl (src_one_c (by omega) (by omega) (by omega)) (.own rfl) rfl (fun ⟨_, _, _⟩ => rfl) ⟨rfl, trivial⟩ rfl (fun ⟨_, _, _⟩ => rfl) (fun ⟨_, _, _⟩ => rfl) (fun ⟨b54, q54, s54⟩ hb54 => ?_)
        dsimp only at hb54
        refine AO.nil ?_
        refine AC.cond _ rfl (fun c54 => ?_) (fun c54 => ?_)
        · -- c54 True
          refine AC.region ?_
          refine AO.yld _ (Yld.move rfl) rfl rfl rfl ?_
          refine AO.buildSlice (rows := [[_]]) 4 Try.underlying23 ty2 rfl rfl rfl rfl rfl rfl rfl rfl rfl ?_
          refine AO.append 3 Try.underlying23 ty2 rfl rfl rfl rfl rfl rfl rfl (by simp [pvOne, str]) (by simp only [List.length_set, List.length_map, List.length_cons, List.length_nil]; omega) (by simp only [List.length_set, List.length_map, List.length_cons, List.length_nil]; omega) rfl ?_
          refine AO.yld _ (Yld.assign rfl) rfl rfl rfl ?_
          refine AO.nil ?_
          refine AC.seq ?_
          refine AC.region ?_
          refine AO.yld _ (Yld.move rfl) rfl rfl rfl ?_
          refine AO.yld _ (Yld.move rfl) rfl rfl rfl ?_
          refine AO.yld _ (Yld.move rfl) rfl rfl rfl ?_
          refine AO.yld _ (Yld.assign rfl) rfl rfl rfl ?_
          refine AO.yld _ (Yld.assign rfl) rfl rfl rfl ?_
          refine AO.yld _ (Yld.assign rfl) rfl rfl rfl ?_
          refine AO.nil ?_
          refine FnE.ret (gs12, rs14, (greedyS gs12 rs14).1 ++ [0], q54, s54) [0, 1, 2, 3] [0, 1, 2, 3] Try.results60 (RVs.cons (RV.tmp rfl) (RVs.cons (RV.tmp rfl) (RVs.cons (RV.tmp rfl) RVs.nil))) rfl rfl rfl ?_ ?_ ⟨⟨_, rfl, ?_⟩, ⟨_, rfl, ?_⟩, ⟨_, rfl, ?_⟩, ⟨_, rfl, ?_⟩, trivial⟩
          · -- holds
            show DrawnG _ ∧ List.length _ ≤ 11 ∧ List.length _ ≤ 30 ∧ _ ≤ _ ∧ _ ≤ _; refine ⟨hgs12.1, hrs14.1, ?_, by omega, by omega⟩; first | (simp only [List.length_append, List.length_set, List.length_cons, List.length_nil]; omega) | omega
          · -- value
            rfl
          · -- thing 0
            rfl
          · -- thing 1
            rfl
          · -- thing 2
            rfl
          · -- thing 3
            first | rfl | (rw [map_snocG]; rfl) | (rw [List.map_set]; rfl) | (rw [map_snocG, List.map_set]; rfl)
        · -- c54 False
          refine AC.skip ?_
          refine AC.seq ?_
          refine AC.region ?_
          refine AO.yld _ (Yld.move rfl) rfl rfl rfl ?_
          refine AO.yld _ (Yld.move rfl) rfl rfl rfl ?_
          refine AO.yld _ (Yld.move rfl) rfl rfl rfl ?_
          refine AO.yld _ (Yld.assign rfl) rfl rfl rfl ?_
          refine AO.yld _ (Yld.assign rfl) rfl rfl rfl ?_
          refine AO.yld _ (Yld.assign rfl) rfl rfl rfl ?_
          refine AO.nil ?_
          refine FnE.ret (gs12, rs14, (greedyS gs12 rs14).1, q54, s54) [0, 1, 2, 3] [0, 1, 2, 3] Try.results60 (RVs.cons (RV.tmp rfl) (RVs.cons (RV.tmp rfl) (RVs.cons (RV.tmp rfl) RVs.nil))) rfl rfl rfl ?_ ?_ ⟨⟨_, rfl, ?_⟩, ⟨_, rfl, ?_⟩, ⟨_, rfl, ?_⟩, ⟨_, rfl, ?_⟩, trivial⟩
          · -- holds
            show DrawnG _ ∧ List.length _ ≤ 11 ∧ List.length _ ≤ 30 ∧ _ ≤ _ ∧ _ ≤ _; refine ⟨hgs12.1, hrs14.1, ?_, by omega, by omega⟩; first | (simp only [List.length_append, List.length_set, List.length_cons, List.length_nil]; omega) | omega
          · -- value
            rfl
          · -- thing 0
            rfl
          · -- thing 1
            rfl
          · -- thing 2
            rfl
          · -- thing 3
            first | rfl | (rw [map_snocG]; rfl) | (rw [List.map_set]; rfl) | (rw [map_snocG, List.map_set]; rfl)
    · -- s39 False
      refine AO.skipT rfl rfl rfl rfl rfl ?_
      refine AO.skipT rfl rfl rfl rfl rfl ?_
      refine AO.yld _ (Yld.pickF rfl rfl) rfl rfl rfl ?_
      refine AO.nil ?_
      refine AC.condF rfl ?_
      refine AC.skip ?_
      refine AC.seq ?_
      refine AC.seq ?_
      refine AC.region ?_
      refine AO.yld _ (Yld.move rfl) rfl rfl rfl ?_
      refine AO.callW (wantedN rfl) [0] [0] [0] rfl rfl Try.call70 rfl (src_one_c (by omega) (by omega) (by omega)) (.own rfl) rfl (fun ⟨_, _, _⟩ => rfl) ⟨rfl, trivial⟩ rfl (fun ⟨_, _, _⟩ => rfl) (fun ⟨_, _, _⟩ => rfl) (fun ⟨b54, q54, s54⟩ hb54 => ?_)
      dsimp only at hb54
      refine AO.nil ?_
      refine AC.cond _ rfl (fun c54 => ?_) (fun c54 => ?_)
      · -- c54 True
        refine AC.region ?_
        refine AO.yld _ (Yld.move rfl) rfl rfl rfl ?_
        refine AO.buildSlice (rows := [[_]]) 4 Try.underlying23 ty2 rfl rfl rfl rfl rfl rfl rfl rfl rfl ?_
        refine AO.append 3 Try.underlying23 ty2 rfl rfl rfl rfl rfl rfl rfl (by simp [pvOne, str]) (by simp only [List.length_set, List.length_map, List.length_cons, List.length_nil]; omega) (by simp only [List.length_set, List.length_map, List.length_cons, List.length_nil]; omega) rfl ?_
        refine AO.yld _ (Yld.assign rfl) rfl rfl rfl ?_
        refine AO.nil ?_
        refine AC.seq ?_
        refine AC.region ?_
        refine AO.yld _ (Yld.move rfl) rfl rfl rfl ?_
        refine AO.yld _ (Yld.move rfl) rfl rfl rfl ?_
        refine AO.yld _ (Yld.move rfl) rfl rfl rfl ?_
        refine AO.yld _ (Yld.assign rfl) rfl rfl rfl ?_
        refine AO.yld _ (Yld.assign rfl) rfl rfl rfl ?_
        refine AO.yld _ (Yld.assign rfl) rfl rfl rfl ?_
        refine AO.nil ?_
        refine FnE.ret (gs12, rs14, (greedyS gs12 rs14).1 ++ [0], q54, s54) [0, 1, 2, 3] [0, 1, 2, 3] Try.results60 (RVs.cons (RV.tmp rfl) (RVs.cons (RV.tmp rfl) (RVs.cons (RV.tmp rfl) RVs.nil))) rfl rfl rfl ?_ ?_ ⟨⟨_, rfl, ?_⟩, ⟨_, rfl, ?_⟩, ⟨_, rfl, ?_⟩, ⟨_, rfl, ?_⟩, trivial⟩
        · -- holds
          show DrawnG _ ∧ List.length _ ≤ 11 ∧ List.length _ ≤ 30 ∧ _ ≤ _ ∧ _ ≤ _; refine ⟨hgs12.1, hrs14.1, ?_, by omega, by omega⟩; first | (simp only [List.length_append, List.length_set, List.length_cons, List.length_nil]; omega) | omega
        · -- value
          rfl
        · -- thing 0
          rfl
        · -- thing 1
          rfl
        · -- thing 2
          rfl
        · -- thing 3
          first | rfl | (rw [map_snocG]; rfl) | (rw [List.map_set]; rfl) | (rw [map_snocG, List.map_set]; rfl)
      · -- c54 False
        refine AC.skip ?_
        refine AC.seq ?_
        refine AC.region ?_
        refine AO.yld _ (Yld.move rfl) rfl rfl rfl ?_
        refine AO.yld _ (Yld.move rfl) rfl rfl rfl ?_
        refine AO.yld _ (Yld.move rfl) rfl rfl rfl ?_
        refine AO.yld _ (Yld.assign rfl) rfl rfl rfl ?_
        refine AO.yld _ (Yld.assign rfl) rfl rfl rfl ?_
        refine AO.yld _ (Yld.assign rfl) rfl rfl rfl ?_
        refine AO.nil ?_
        refine FnE.ret (gs12, rs14, (greedyS gs12 rs14).1, q54, s54) [0, 1, 2, 3] [0, 1, 2, 3] Try.results60 (RVs.cons (RV.tmp rfl) (RVs.cons (RV.tmp rfl) (RVs.cons (RV.tmp rfl) RVs.nil))) rfl rfl rfl ?_ ?_ ⟨⟨_, rfl, ?_⟩, ⟨_, rfl, ?_⟩, ⟨_, rfl, ?_⟩, ⟨_, rfl, ?_⟩, trivial⟩
        · -- holds
          show DrawnG _ ∧ List.length _ ≤ 11 ∧ List.length _ ≤ 30 ∧ _ ≤ _ ∧ _ ≤ _; refine ⟨hgs12.1, hrs14.1, ?_, by omega, by omega⟩; first | (simp only [List.length_append, List.length_set, List.length_cons, List.length_nil]; omega) | omega
        · -- value
          rfl
        · -- thing 0
          rfl
        · -- thing 1
          rfl
        · -- thing 2
          rfl
        · -- thing 3
          first | rfl | (rw [map_snocG]; rfl) | (rw [List.map_set]; rfl) | (rw [map_snocG, List.map_set]; rfl)

theorem spec_DrawFirstSeats_c {code : List UInt8} :
    FnE (α := List Group × List Int × List Int) Try.prog 27 [.p (.sl 1 (code.map encB))] [] [] (fun ⟨gs, rs, pl⟩ => DrawnG gs ∧ rs.length ≤ 11 ∧ pl.length ≤ 30) (fun ⟨gs, rs, pl⟩ => .tup [.h 0, .h 1, .h 2]) (fun ⟨gs, rs, pl⟩ => [(0, .vec 52 3 (gs.map encGroup)), (1, .vec 2 1 (rs.map encI)), (2, .vec 2 1 (pl.map encI))]) := by
  refine FnE.intro Try.func27 rfl Try.ntmps27 rfl rfl (fun w0 F0 η φ w => ?_)
  refine AC.seq ?_
  refine AC.region ?_
  refine AO.yld _ (Yld.assign rfl) rfl rfl rfl ?_
  refine AO.yld _ (Yld.assign rfl) rfl rfl rfl ?_
  refine AO.yld _ (Yld.assign rfl) rfl rfl rfl ?_
  refine AO.nil ?_
  refine AC.seq ?_
  refine AC.region ?_
  refine AO.yld _ (Yld.move rfl) rfl rfl rfl ?_
  refine AO.callW (wantedN rfl) [0] [] [0] rfl rfl Try.call53 rfl (spec_l00From_c) (.own rfl) rfl (fun _ => rfl) trivial rfl (fun _ => rfl) (fun _ => rfl) (fun _ _ => ?_)
  refine AO.yld _ (Yld.assign rfl) rfl rfl rfl ?_
  refine AO.nil ?_
  refine AC.seq ?_
  refine AC.region ?_
  refine AO.yld _ (Yld.move rfl) rfl rfl rfl ?_
  refine AO.callW (wantedN rfl) [0, 1, 2, 3] [0] [0, 1, 2, 3] rfl rfl Try.call60 rfl (spec_l24DrawPlaces_c (by omega) (by omega)) (.own rfl) rfl (fun ⟨_, _, _, _, _⟩ => rfl) ⟨rfl, trivial⟩ rfl (fun ⟨_, _, _, _, _⟩ => rfl) (fun ⟨_, _, _, _, _⟩ => rfl) (fun ⟨gs9, rs9, pl9, q9, s9⟩ hgs9 => ?_)
  dsimp only at hgs9
  refine AO.yld _ (Yld.extract rfl rfl rfl) rfl rfl rfl ?_
  refine AO.yld _ (Yld.extract rfl rfl rfl) rfl rfl rfl ?_
  refine AO.yld _ (Yld.extract rfl rfl rfl) rfl rfl rfl ?_
  refine AO.yld _ (Yld.assign rfl) rfl rfl rfl ?_
  refine AO.yld _ (Yld.assign rfl) rfl rfl rfl ?_
  refine AO.yld _ (Yld.assign rfl) rfl rfl rfl ?_
  refine AO.nil ?_
  refine FnE.ret (_, _, _) [1, 2, 3] [0, 1, 2] Try.results27 (RVs.cons (RV.tmp rfl) (RVs.cons (RV.tmp rfl) (RVs.cons (RV.tmp rfl) RVs.nil))) rfl rfl rfl ?_ rfl ⟨⟨_, rfl, rfl⟩, ⟨_, rfl, rfl⟩, ⟨_, rfl, rfl⟩, trivial⟩
  · -- holds
    show DrawnG _ ∧ List.length _ ≤ 11 ∧ List.length _ ≤ 30; refine ⟨?_, ?_, ?_⟩ <;> (first | assumption | exact (by simp_all) | fail)

set_option maxHeartbeats 4000000 in
theorem laws_FnGroups_c {code : List UInt8} :
    Pure Try.prog 7 [.sl 1 (code.map encB)] (.v (.bool true)) := by
  refine Pure.intro Try.func7 rfl Try.ntmps7 rfl rfl (fun w => ?_)
  refine AC.seq ?_
  refine AC.region ?_
  refine AO.yld _ (Yld.assign rfl) rfl rfl rfl ?_
  refine AO.nil ?_
  refine AC.seq ?_
  refine AC.seq ?_
  refine AC.region ?_
  refine AO.yld _ (Yld.move rfl) rfl rfl rfl ?_
  refine AO.yld _ (Yld.call rfl rfl Try.call22 rfl rfl rfl (laws_b10Long_c) rfl) rfl rfl rfl ?_
  refine AO.nil ?_
  refine AC.cond _ rfl (fun c17 => ?_) (fun c17 => ?_)
  · -- c17 True
    refine AC.seq ?_
    refine AC.region ?_
    refine AO.yld _ (Yld.assign rfl) rfl rfl rfl ?_
    refine AO.nil ?_
    refine Pure.ret Try.results7 (RVs.cons (RV.tmp rfl) RVs.nil) rfl ?_
    first
      | rfl
      | (refine cb ?_; rw [e2]; rfl)
      | (refine cb ?_; rw [e2]; simp; done)
      | (simp_all; done)
      | fail
  · -- c17 False
    refine AC.skip ?_
    refine AC.seq ?_
    refine AC.region ?_
    refine AO.yld _ (Yld.move rfl) rfl rfl rfl ?_
    refine AO.callW (wantedN rfl) [0, 1, 2] [] [0, 1, 2] rfl rfl Try.call27 rfl (spec_DrawFirstSeats_c) (.own rfl) rfl (fun ⟨_, _, _⟩ => rfl) trivial rfl (fun ⟨_, _, _⟩ => rfl) (fun ⟨_, _, _⟩ => rfl) (fun ⟨gs20, rs20, pl20⟩ hgs20 => ?_)
    dsimp only at hgs20
    have hn9 : gs20.length ≤ 1048576 := by have := hgs20.1.1; omega
    have hs9 := drawnG_names hgs20.1
    have hr9 : rs20.length ≤ 1048576 := by have := hgs20.2.1; omega
    have hp9 : pl20.length ≤ 1048576 := by have := hgs20.2.2; omega
    have hl91 : (firstSeats gs20 rs20 pl20).1.length ≤ 1048576 := by have := fseats_len gs20 rs20 pl20; omega
    have hl92 : (seatsLeftP gs20 rs20 pl20).1.length ≤ 1048576 := by have := sleft_len gs20 rs20 pl20; omega
    have hcase : (∃ f, (okGroups gs20 = true ∧ okRows rs20 = true) ∧ (leftF (persL gs20) rs20 pl20) = some f) ∨ (¬ (okGroups gs20 = true ∧ okRows rs20 = true) ∨ (leftF (persL gs20) rs20 pl20) = none) := by by_cases hv : okGroups gs20 = true ∧ okRows rs20 = true <;> cases hf : (leftF (persL gs20) rs20 pl20) <;> simp_all
    have hsame := group_same gs20 rs20 pl20 hcase
    refine AO.yld _ (Yld.move rfl) rfl rfl rfl ?_
    refine AO.yld _ (Yld.extract rfl rfl rfl) rfl rfl rfl ?_
    refine AO.yld _ (Yld.extract rfl rfl rfl) rfl rfl rfl ?_
    refine AO.yld _ (Yld.extract rfl rfl rfl) rfl rfl rfl ?_
    refine AO.yld _ (Yld.assign rfl) rfl rfl rfl ?_
    refine AO.yld _ (Yld.assign rfl) rfl rfl rfl ?_
    refine AO.yld _ (Yld.assign rfl) rfl rfl rfl ?_
    refine AO.nil ?_
    refine AC.seq ?_
    refine AC.region ?_
    refine AO.yld _ (Yld.move rfl) rfl rfl rfl ?_
    refine AO.yld _ (Yld.move rfl) rfl rfl rfl ?_
    refine AO.yld _ (Yld.move rfl) rfl rfl rfl ?_
    refine AO.callW (wantedN rfl) [3] [] [0] rfl rfl Try.call28 rfl (impl_FirstSeats_c (by first | assumption | omega) (by assumption) (by first | assumption | omega) (by first | assumption | omega)) (.flat (.view rfl rfl (.view rfl rfl (.view rfl rfl .nil))) (fun _ => by simp [AV.Flat, AV.FlatL, PV.Flat, PV.FlatL]) (fun _ => ⟨flat_map flatI _, trivial⟩)) rfl (fun _ => rfl) trivial rfl (fun _ => rfl) (fun _ => rfl) (fun _ _ => ?_)
    refine AO.yld _ (Yld.move rfl) rfl rfl rfl ?_
    refine AO.yld _ (Yld.extract rfl rfl rfl) rfl rfl rfl ?_
    refine AO.yld _ (Yld.extract rfl rfl rfl) rfl rfl rfl ?_
    refine AO.yld _ (Yld.assign rfl) rfl rfl rfl ?_
    refine AO.yld _ (Yld.assign rfl) rfl rfl rfl ?_
    refine AO.nil ?_
    refine AC.seq ?_
    refine AC.region ?_
    refine AO.yld _ (Yld.move rfl) rfl rfl rfl ?_
    refine AO.yld _ (Yld.move rfl) rfl rfl rfl ?_
    refine AO.yld _ (Yld.move rfl) rfl rfl rfl ?_
    refine AO.callW (wantedN rfl) [4] [] [0] rfl rfl Try.call29 rfl (impl_SeatsLeft_c (by first | assumption | omega) (by assumption) (by first | assumption | omega) (by first | assumption | omega)) (.flat (.view rfl rfl (.view rfl rfl (.view rfl rfl .nil))) (fun _ => by simp [AV.Flat, AV.FlatL, PV.Flat, PV.FlatL]) (fun _ => ⟨flat_map flatI _, trivial⟩)) rfl (fun _ => rfl) trivial rfl (fun _ => rfl) (fun _ => rfl) (fun _ _ => ?_)
    refine AO.yld _ (Yld.move rfl) rfl rfl rfl ?_
    refine AO.yld _ (Yld.extract rfl rfl rfl) rfl rfl rfl ?_
    refine AO.yld _ (Yld.extract rfl rfl rfl) rfl rfl rfl ?_
    refine AO.yld _ (Yld.assign rfl) rfl rfl rfl ?_
    refine AO.yld _ (Yld.assign rfl) rfl rfl rfl ?_
    refine AO.nil ?_
    refine AC.seq ?_
    refine AC.seq ?_
    refine AC.region ?_
    refine AO.yld _ (Yld.move rfl) rfl rfl rfl ?_
    refine AO.yld _ (Yld.move rfl) rfl rfl rfl ?_
    refine AO.yld _ (Yld.int rfl rfl rfl) rfl rfl rfl ?_
    refine AO.yld _ (Yld.move rfl) rfl rfl rfl ?_
    refine AO.splitAt 41 _ rfl (fun s41 => ?_) (fun s41 => ?_)
    · -- s41 True
      exfalso; have h := s41; rw [hsame.1] at h; simp at h
    · -- s41 False
      refine AO.yldG _ (Yld.move rfl) rfl rfl rfl rfl rfl ?_
      refine AO.yldG _ (Yld.int rfl rfl rfl) rfl rfl rfl rfl rfl ?_
      refine AO.yldG _ (Yld.move rfl) rfl rfl rfl rfl rfl ?_
      refine AO.yldG _ (Yld.move rfl) rfl rfl rfl rfl rfl ?_
      refine AO.yldG _ (Yld.move rfl) rfl rfl rfl rfl rfl ?_
      refine AO.yldG _ (Yld.call rfl rfl Try.call30 rfl rfl rfl (spec_IsSeating_c (by first | assumption | omega) (by assumption) (by first | assumption | omega) (by first | assumption | omega)) rfl) rfl rfl rfl rfl rfl ?_
      refine AO.yldG _ (Yld.bne Try.underlying4 rfl rfl) rfl rfl rfl rfl rfl ?_
      refine AO.yld _ (Yld.pickF rfl rfl) rfl rfl rfl ?_
      refine AO.yld _ (Yld.move rfl) rfl rfl rfl ?_
      refine AO.splitAt 50 _ rfl (fun s50 => ?_) (fun s50 => ?_)
      · -- s50 True
        exfalso; have h := s50; rw [hsame.2] at h; simp at h
      · -- s50 False
        refine AO.yldG _ (Yld.move rfl) rfl rfl rfl rfl rfl ?_
        refine AO.yldG _ (Yld.move rfl) rfl rfl rfl rfl rfl ?_
        refine AO.yldG _ (Yld.move rfl) rfl rfl rfl rfl rfl ?_
        refine AO.yldG _ (Yld.call rfl rfl Try.call26 rfl rfl rfl (impl_IsSeating_c (by first | assumption | omega) (by assumption) (by first | assumption | omega) (by first | assumption | omega)) rfl) rfl rfl rfl rfl rfl ?_
        refine AO.yldG _ (Yld.move rfl) rfl rfl rfl rfl rfl ?_
        refine AO.yldG _ (Yld.move rfl) rfl rfl rfl rfl rfl ?_
        refine AO.yldG _ (Yld.move rfl) rfl rfl rfl rfl rfl ?_
        refine AO.yldG _ (Yld.call rfl rfl Try.call30 rfl rfl rfl (spec_IsSeating_c (by first | assumption | omega) (by assumption) (by first | assumption | omega) (by first | assumption | omega)) rfl) rfl rfl rfl rfl rfl ?_
        refine AO.yldG _ (Yld.bne Try.underlying4 rfl rfl) rfl rfl rfl rfl rfl ?_
        refine AO.yld _ (Yld.pickF rfl rfl) rfl rfl rfl ?_
        refine AO.nil ?_
        refine AC.cond _ rfl (fun c60 => ?_) (fun c60 => ?_)
        · -- c60 True
          exfalso; have h := c60; simp at h
        · -- c60 False
          refine AC.skip ?_
          refine AC.seq ?_
          refine AC.seq ?_
          refine AC.region ?_
          refine AO.yld _ (Yld.move rfl) rfl rfl rfl ?_
          refine AO.yld _ (Yld.int rfl rfl rfl) rfl rfl rfl ?_
          refine AO.nil ?_
          refine AC.cond _ rfl (fun c62 => ?_) (fun c62 => ?_)
          · -- c62 True
            have hne : (firstSeats gs20 rs20 pl20).2 ≠ 0 := by have h := c62; simp at h; exact h
            obtain ⟨e1, e2⟩ := group_empty gs20 rs20 pl20 hcase hne
            refine AC.seq ?_
            refine AC.region ?_
            refine AO.yld _ (Yld.move rfl) rfl rfl rfl ?_
            refine AO.yld _ (Yld.len Try.underlying23 rfl rfl) rfl rfl rfl ?_
            refine AO.yld _ (Yld.int rfl rfl rfl) rfl rfl rfl ?_
            refine AO.yld _ (Yld.move rfl) rfl rfl rfl ?_
            refine AO.splitAt 66 _ rfl (fun s66 => ?_) (fun s66 => ?_)
            · -- s66 True
              refine AO.yldG _ (Yld.move rfl) rfl rfl rfl rfl rfl ?_
              refine AO.yldG _ (Yld.len Try.underlying23 rfl rfl) rfl rfl rfl rfl rfl ?_
              refine AO.yldG _ (Yld.int rfl rfl rfl) rfl rfl rfl rfl rfl ?_
              refine AO.yld _ (Yld.pickT rfl rfl) rfl rfl rfl ?_
              refine AO.yld _ (Yld.assign rfl) rfl rfl rfl ?_
              refine AO.nil ?_
              refine Pure.ret Try.results7 (RVs.cons (RV.tmp rfl) RVs.nil) rfl ?_
              first
                | rfl
                | (refine cb ?_; rw [e2]; rfl)
                | (refine cb ?_; rw [e2]; simp; done)
                | (simp_all; done)
                | fail
            · -- s66 False
              exfalso; have h := s66; rw [e1] at h; simp at h
          · -- c62 False
            have he0 : (firstSeats gs20 rs20 pl20).2 = 0 := by have h := c62; simp at h; exact h
            obtain ⟨f, hv, hf⟩ := hcase.resolve_right (fun hb => (group_none hb).2.2.2.1 he0)
            have hgf := group_facts hv hf
            have hok := hv.1
            have hgl := groups_len hok
            have hfs9 : (firstSeats gs20 rs20 pl20).1 = fsL gs20 pl20 gs20.length := by rw [hgf.fs]
            have hsl9 : (seatsLeftP gs20 rs20 pl20).1 = f := by rw [hgf.sl]
            have hrk := rows_all hv.2
            have hrb : ∀ x ∈ rs20, 0 ≤ x ∧ x ≤ 40 := fun x hx => by have h := List.all_eq_true.1 hrk x hx; simpa [okRow] using h
            have hlb : ∀ x ∈ (seatsLeftP gs20 rs20 pl20).1, 0 ≤ x ∧ x ≤ 40 := by rw [hsl9]; exact hgf.fb
            have hwk := wkTo_bound gs20 pl20 pl20.length
            have hpl9 := hgf.hl
            have hsb := seatedOf_bound (persL gs20) pl20 (fun p hp => by have := pers_lim hok p hp; omega)
            have hpll : (persL gs20).length ≤ 12 := by simp [persL]; omega
            have hsu := sum_bound hlb
            have hsum9 := hgf.sum
            have esp := hgf.sp
            have ewp := hgf.wp
            have hsl10 := sleft_len gs20 rs20 pl20
            refine AC.skip ?_
            refine AC.seq ?_
            refine AC.region ?_
            refine AO.yld _ (Yld.move rfl) rfl rfl rfl ?_
            refine AO.yld _ (Yld.move rfl) rfl rfl rfl ?_
            refine AO.yld _ (Yld.call rfl rfl Try.call24 rfl rfl rfl (impl_SeatedPersons_c (by first | assumption | omega) (by assumption) (by first | assumption | omega)) rfl) rfl rfl rfl ?_
            refine AO.yld _ (Yld.move rfl) rfl rfl rfl ?_
            refine AO.yld _ (Yld.extract rfl rfl rfl) rfl rfl rfl ?_
            refine AO.yld _ (Yld.extract rfl rfl rfl) rfl rfl rfl ?_
            refine AO.yld _ (Yld.assign rfl) rfl rfl rfl ?_
            refine AO.yld _ (Yld.assign rfl) rfl rfl rfl ?_
            refine AO.nil ?_
            refine AC.seq ?_
            refine AC.region ?_
            refine AO.yld _ (Yld.move rfl) rfl rfl rfl ?_
            refine AO.yld _ (Yld.move rfl) rfl rfl rfl ?_
            refine AO.yld _ (Yld.call rfl rfl Try.call31 rfl rfl rfl (impl_WishesKept_c (by first | assumption | omega) (by assumption) (by first | assumption | omega)) rfl) rfl rfl rfl ?_
            refine AO.yld _ (Yld.move rfl) rfl rfl rfl ?_
            refine AO.yld _ (Yld.extract rfl rfl rfl) rfl rfl rfl ?_
            refine AO.yld _ (Yld.extract rfl rfl rfl) rfl rfl rfl ?_
            refine AO.yld _ (Yld.assign rfl) rfl rfl rfl ?_
            refine AO.yld _ (Yld.assign rfl) rfl rfl rfl ?_
            refine AO.nil ?_
            refine AC.seq ?_
            refine AC.seq ?_
            refine AC.region ?_
            refine AO.yld _ (Yld.move rfl) rfl rfl rfl ?_
            refine AO.yld _ (Yld.int rfl rfl rfl) rfl rfl rfl ?_
            refine AO.yld _ (Yld.move rfl) rfl rfl rfl ?_
            refine AO.splitAt 85 _ rfl (fun s85 => ?_) (fun s85 => ?_)
            · -- s85 True
              exfalso; have h := s85; rw [esp] at h; simp at h
            · -- s85 False
              refine AO.yldG _ (Yld.move rfl) rfl rfl rfl rfl rfl ?_
              refine AO.yldG _ (Yld.call rfl rfl Try.call32 rfl rfl rfl (laws_b10Sum_c (by first | assumption | omega) (by assumption)) rfl) rfl rfl rfl rfl rfl ?_
              refine AO.yldG _ (Yld.move rfl) rfl rfl rfl rfl rfl ?_
              refine AO.yldG _ (Yld.add rfl rfl (by rw [esp]; omega) (by rw [esp]; omega)) rfl rfl rfl rfl rfl ?_
              refine AO.yldG _ (Yld.move rfl) rfl rfl rfl rfl rfl ?_
              refine AO.yldG _ (Yld.call rfl rfl Try.call32 rfl rfl rfl (laws_b10Sum_c (by first | assumption | omega) (by assumption)) rfl) rfl rfl rfl rfl rfl ?_
              refine AO.yldG _ (Yld.int rfl rfl rfl) rfl rfl rfl rfl rfl ?_
              refine AO.yld _ (Yld.pickF rfl rfl) rfl rfl rfl ?_
              refine AO.yld _ (Yld.move rfl) rfl rfl rfl ?_
              refine AO.splitAt 94 _ rfl (fun s94 => ?_) (fun s94 => ?_)
              · -- s94 True
                exfalso; have h := s94; rw [esp, hsl9] at h; simp at h; omega
              · -- s94 False
                refine AO.yldG _ (Yld.move rfl) rfl rfl rfl rfl rfl ?_
                refine AO.yldG _ (Yld.int rfl rfl rfl) rfl rfl rfl rfl rfl ?_
                refine AO.yld _ (Yld.pickF rfl rfl) rfl rfl rfl ?_
                refine AO.yld _ (Yld.move rfl) rfl rfl rfl ?_
                refine AO.splitAt 98 _ rfl (fun s98 => ?_) (fun s98 => ?_)
                · -- s98 True
                  exfalso; have h := s98; rw [ewp] at h; simp at h
                · -- s98 False
                  refine AO.yldG _ (Yld.move rfl) rfl rfl rfl rfl rfl ?_
                  refine AO.yldG _ (Yld.int rfl rfl rfl) rfl rfl rfl rfl rfl ?_
                  refine AO.yld _ (Yld.pickF rfl rfl) rfl rfl rfl ?_
                  refine AO.yld _ (Yld.move rfl) rfl rfl rfl ?_
                  refine AO.splitAt 102 _ rfl (fun s102 => ?_) (fun s102 => ?_)
                  · -- s102 True
                    exfalso; have h := s102; rw [ewp] at h; simp at h; omega
                  · -- s102 False
                    refine AO.yldG _ (Yld.move rfl) rfl rfl rfl rfl rfl ?_
                    refine AO.yldG _ (Yld.move rfl) rfl rfl rfl rfl rfl ?_
                    refine AO.yldG _ (Yld.len Try.underlying27 rfl rfl) rfl rfl rfl rfl rfl ?_
                    refine AO.yldG _ (Yld.int rfl rfl rfl) rfl rfl rfl rfl rfl ?_
                    refine AO.yld _ (Yld.pickF rfl rfl) rfl rfl rfl ?_
                    refine AO.yld _ (Yld.move rfl) rfl rfl rfl ?_
                    refine AO.splitAt 108 _ rfl (fun s108 => ?_) (fun s108 => ?_)
                    · -- s108 True
                      exfalso; have h := s108; rw [ewp, decide_eq_true_eq, List.length_map] at h; have h : (gs20.length : Int) < wkTo gs20 pl20 pl20.length := h; omega
                    · -- s108 False
                      refine AO.yldG _ (Yld.move rfl) rfl rfl rfl rfl rfl ?_
                      refine AO.yldG _ (Yld.len Try.underlying23 rfl rfl) rfl rfl rfl rfl rfl ?_
                      refine AO.yldG _ (Yld.move rfl) rfl rfl rfl rfl rfl ?_
                      refine AO.yldG _ (Yld.len Try.underlying27 rfl rfl) rfl rfl rfl rfl rfl ?_
                      refine AO.yldG _ (Yld.int rfl rfl rfl) rfl rfl rfl rfl rfl ?_
                      refine AO.yld _ (Yld.pickF rfl rfl) rfl rfl rfl ?_
                      refine AO.nil ?_
                      refine AC.cond _ rfl (fun c114 => ?_) (fun c114 => ?_)
                      · -- c114 True
                        exfalso; have h := c114; rw [List.length_map, List.length_map, hfs9, fsL_len] at h; simp at h
                      · -- c114 False
                        refine AC.skip ?_
                        refine AC.seq ?_
                        refine AC.seq ?_
                        refine AC.region ?_
                        refine AO.yld _ (Yld.assign rfl) rfl rfl rfl ?_
                        refine AO.nil ?_
                        refine AC.block ?_
                        refine AC.loopC [(3, _), (4, _), (5, _), (6, _)] [(0, _), (1, _), (2, _), (3, _), (4, _)] (fun (k : Nat) => [(14, .p (.v (.int .i64 (k : Int))))]) (fun (k : Nat) => []) (fun (k : Nat) => k ≤ gs20.length) (fun (k : Nat) => gs20.length - k) 0 ⟨rfl, rfl, rfl, rfl, trivial⟩ ⟨rfl, rfl, rfl, rfl, rfl, trivial⟩ ⟨rfl, trivial⟩ trivial ?_ (fun k hJ => ?_)
                        · exact Nat.zero_le _
                        · -- round
                          refine AC.seq ?_
                          refine AC.seq ?_
                          refine AC.region ?_
                          refine AO.yld _ (Yld.move rfl) rfl rfl rfl ?_
                          refine AO.yld _ (Yld.move rfl) rfl rfl rfl ?_
                          refine AO.yld _ (Yld.len Try.underlying27 rfl rfl) rfl rfl rfl ?_
                          refine AO.yld _ (Yld.int rfl rfl rfl) rfl rfl rfl ?_
                          refine AO.nil ?_
                          refine AC.cond _ rfl (fun c118 => ?_) (fun c118 => ?_)
                          · -- c118 True
                            have hi : k < gs20.length := by have h := c118; rw [decide_eq_true_eq, List.length_map] at h; omega
                            obtain ⟨g, hg⟩ := get_some hi
                            have hrowG := map_row (enc := encGroup) hg
                            obtain ⟨r, hr⟩ := get_some (xs := pl20) (k := k) (by omega)
                            have hrowP := map_row (enc := encI) hr
                            have hrowS : ((firstSeats gs20 rs20 pl20).1.map encI)[k]? = some (encI (seatVal gs20 pl20 k)) := map_row (by rw [hfs9]; exact fsL_get hi hi)
                            have hrg := hgf.rg k r hr
                            have hgp := group_lim (groups_at hok hg)
                            refine AC.skip ?_
                            refine AC.seq ?_
                            refine AC.block ?_
                            refine AC.seq ?_
                            refine AC.seq ?_
                            refine AC.draw (by kernel_rfl) (by kernel_rfl) ?_
                            refine AO.yld _ (Yld.move rfl) rfl rfl rfl ?_
                            refine AO.yld _ (Yld.move rfl) rfl rfl rfl ?_
                            refine AO.yld _ (Yld.indexVec Try.underlying23 Try.sizeOf2 rfl rfl rfl rfl (by rw [List.length_map]; omega)) rfl rfl rfl ?_
                            refine AO.yld _ (Yld.load Try.isAgg2 rfl (Eq.trans (behind_el rfl hrowP) rfl)) rfl rfl rfl ?_
                            refine AO.yld _ (Yld.int rfl rfl rfl) rfl rfl rfl ?_
                            refine AO.yld _ (Yld.move rfl) rfl rfl rfl ?_
                            refine AO.yld _ (Yld.move rfl) rfl rfl rfl ?_
                            refine AO.yld _ (Yld.indexVec Try.underlying23 Try.sizeOf2 rfl rfl rfl rfl (by rw [List.length_map, hfs9, fsL_len]; omega)) rfl rfl rfl ?_
                            refine AO.yld _ (Yld.load Try.isAgg2 rfl (Eq.trans (behind_el rfl hrowS) rfl)) rfl rfl rfl ?_
                            refine AO.yld _ (Yld.int rfl rfl rfl) rfl rfl rfl ?_
                            refine AO.yld _ (Yld.bne Try.underlying4 rfl rfl) rfl rfl rfl ?_
                            refine AO.nil ?_
                            refine AC.cond _ rfl (fun c131 => ?_) (fun c131 => ?_)
                            · -- c131 True
                              exfalso; have h := c131; rw [sign_same (gs := gs20) hok hr] at h; simp at h
                            · -- c131 False
                              refine AC.skip ?_
                              refine AC.seq ?_
                              refine AC.seq ?_
                              refine AC.region ?_
                              refine AO.yld _ (Yld.move rfl) rfl rfl rfl ?_
                              refine AO.yld _ (Yld.move rfl) rfl rfl rfl ?_
                              refine AO.yld _ (Yld.indexVec Try.underlying23 Try.sizeOf2 rfl rfl rfl rfl (by rw [List.length_map]; omega)) rfl rfl rfl ?_
                              refine AO.yld _ (Yld.load Try.isAgg2 rfl (Eq.trans (behind_el rfl hrowP) rfl)) rfl rfl rfl ?_
                              refine AO.yld _ (Yld.int rfl rfl rfl) rfl rfl rfl ?_
                              refine AO.nil ?_
                              refine AC.cond _ rfl (fun c136 => ?_) (fun c136 => ?_)
                              · -- c136 True
                                skip
                                refine AC.exit rfl ?_
                                refine AC.region ?_
                                refine AO.yld _ (Yld.move rfl) rfl rfl rfl ?_
                                refine AO.yld _ (Yld.add rfl rfl (by omega) (by omega)) rfl rfl rfl ?_
                                refine AO.yld _ (Yld.assign rfl) rfl rfl rfl ?_
                                refine AO.nil ?_
                                refine AC.back ⟨k + 1, ?_, ?_, ⟨?_, trivial⟩, trivial, ⟨rfl, rfl, rfl, rfl, trivial⟩, ⟨rfl, rfl, rfl, rfl, rfl, trivial⟩⟩
                                · exact hi
                                · omega
                                · rfl
                              · -- c136 False
                                obtain ⟨m, rfl⟩ := Int.eq_ofNat_of_zero_le (show 0 ≤ r by have h := c136; simp at h; omega)
                                obtain ⟨z, hz⟩ := get_some (xs := rs20) (k := m) (by omega)
                                have hrowR := map_row (enc := encI) hz
                                have esv := seatVal_pos (gs := gs20) hr
                                have hroom := hgf.room k m g z hg hr hz
                                have hub := usedAt_bound (pl := pl20) hok k (m : Int)
                                have hun := usedAt_nonneg (pl := pl20) hok k (m : Int)
                                refine AC.skip ?_
                                refine AC.seq ?_
                                refine AC.seq ?_
                                refine AC.draw (by kernel_rfl) (by kernel_rfl) ?_
                                refine AO.yld _ (Yld.move rfl) rfl rfl rfl ?_
                                refine AO.yld _ (Yld.move rfl) rfl rfl rfl ?_
                                refine AO.yld _ (Yld.indexVec Try.underlying23 Try.sizeOf2 rfl rfl rfl rfl (by rw [List.length_map, hfs9, fsL_len]; omega)) rfl rfl rfl ?_
                                refine AO.yld _ (Yld.load Try.isAgg2 rfl (Eq.trans (behind_el rfl hrowS) rfl)) rfl rfl rfl ?_
                                refine AO.yld _ (Yld.move rfl) rfl rfl rfl ?_
                                refine AO.yld _ (Yld.move rfl) rfl rfl rfl ?_
                                refine AO.yld _ (Yld.indexVec Try.underlying27 Try.sizeOf52 rfl rfl rfl rfl (by rw [List.length_map]; omega)) rfl rfl rfl ?_
                                refine AO.yld _ (Yld.fieldAddr Try.underlying52 rfl rfl Try.sizeOf2 rfl (behind_el rfl hrowG) rfl) rfl rfl rfl ?_
                                refine AO.yld _ (Yld.load Try.isAgg2 rfl (Eq.trans (behind_el rfl hrowG) rfl)) rfl rfl rfl ?_
                                refine AO.yld _ (Yld.add rfl rfl (by rw [esv]; omega) (by rw [esv]; omega)) rfl rfl rfl ?_
                                refine AO.yld _ (Yld.move rfl) rfl rfl rfl ?_
                                refine AO.yld _ (Yld.move rfl) rfl rfl rfl ?_
                                refine AO.yld _ (Yld.move rfl) rfl rfl rfl ?_
                                refine AO.yld _ (Yld.indexVec Try.underlying23 Try.sizeOf2 rfl rfl rfl rfl (by rw [List.length_map]; omega)) rfl rfl rfl ?_
                                refine AO.yld _ (Yld.load Try.isAgg2 rfl (Eq.trans (behind_el rfl hrowP) rfl)) rfl rfl rfl ?_
                                refine AO.yld _ (Yld.indexVec Try.underlying23 Try.sizeOf2 rfl rfl rfl rfl (by rw [List.length_map]; omega)) rfl rfl rfl ?_
                                refine AO.yld _ (Yld.load Try.isAgg2 rfl (Eq.trans (behind_el rfl hrowR) rfl)) rfl rfl rfl ?_
                                refine AO.yld _ (Yld.int rfl rfl rfl) rfl rfl rfl ?_
                                refine AO.nil ?_
                                refine AC.cond _ rfl (fun c154 => ?_) (fun c154 => ?_)
                                · -- c154 True
                                  exfalso; have h := c154; rw [esv] at h; simp at h; omega
                                · -- c154 False
                                  refine AC.skip ?_
                                  refine AC.seq ?_
                                  refine AC.region ?_
                                  refine AO.yld _ (Yld.assign rfl) rfl rfl rfl ?_
                                  refine AO.nil ?_
                                  refine AC.block ?_
                                  refine AC.loopC [(3, _), (4, _), (5, _), (6, _), (14, _)] [(0, _), (1, _), (2, _), (3, _), (4, _)] (fun (j : Nat) => [(15, .p (.v (.int .i64 (j : Int))))]) (fun (j : Nat) => []) (fun (j : Nat) => j ≤ k) (fun (j : Nat) => k - j) 0 ⟨rfl, rfl, rfl, rfl, rfl, trivial⟩ ⟨rfl, rfl, rfl, rfl, rfl, trivial⟩ ⟨rfl, trivial⟩ trivial ?_ (fun j hI => ?_)
                                  · exact Nat.zero_le _
                                  · -- round
                                    refine AC.seq ?_
                                    refine AC.seq ?_
                                    refine AC.region ?_
                                    refine AO.yld _ (Yld.move rfl) rfl rfl rfl ?_
                                    refine AO.yld _ (Yld.move rfl) rfl rfl rfl ?_
                                    refine AO.yld _ (Yld.int rfl rfl rfl) rfl rfl rfl ?_
                                    refine AO.nil ?_
                                    refine AC.cond _ rfl (fun c157 => ?_) (fun c157 => ?_)
                                    · -- c157 True
                                      have hj : j < k := by have h := c157; simp at h; exact h
                                      obtain ⟨g2, hg2⟩ := get_some (xs := gs20) (k := j) (by omega)
                                      have hrowGk := map_row (enc := encGroup) hg2
                                      obtain ⟨r2, hr2⟩ := get_some (xs := pl20) (k := j) (by omega)
                                      have hrowPk := map_row (enc := encI) hr2
                                      have hrowSk : ((firstSeats gs20 rs20 pl20).1.map encI)[j]? = some (encI (seatVal gs20 pl20 j)) := map_row (by rw [hfs9]; exact fsL_get (by omega) (by omega))
                                      have hgp2 := group_lim (groups_at hok hg2)
                                      have hvb := seatVal_bound (pl := pl20) hok j
                                      refine AC.skip ?_
                                      refine AC.seq ?_
                                      refine AC.block ?_
                                      refine AC.seq ?_
                                      refine AC.draw (by kernel_rfl) (by kernel_rfl) ?_
                                      refine AO.yld _ (Yld.move rfl) rfl rfl rfl ?_
                                      refine AO.yld _ (Yld.move rfl) rfl rfl rfl ?_
                                      refine AO.yld _ (Yld.indexVec Try.underlying23 Try.sizeOf2 rfl rfl rfl rfl (by rw [List.length_map]; omega)) rfl rfl rfl ?_
                                      refine AO.yld _ (Yld.load Try.isAgg2 rfl (Eq.trans (behind_el rfl hrowPk) rfl)) rfl rfl rfl ?_
                                      refine AO.yld _ (Yld.move rfl) rfl rfl rfl ?_
                                      refine AO.yld _ (Yld.move rfl) rfl rfl rfl ?_
                                      refine AO.yld _ (Yld.indexVec Try.underlying23 Try.sizeOf2 rfl rfl rfl rfl (by rw [List.length_map]; omega)) rfl rfl rfl ?_
                                      refine AO.yld _ (Yld.load Try.isAgg2 rfl (Eq.trans (behind_el rfl hrowP) rfl)) rfl rfl rfl ?_
                                      refine AO.yld _ (Yld.int rfl rfl rfl) rfl rfl rfl ?_
                                      refine AO.yld _ (Yld.move rfl) rfl rfl rfl ?_
                                      refine AO.splitAt 169 _ rfl (fun s169 => ?_) (fun s169 => ?_)
                                      · -- s169 True
                                        have her : r2 = (m : Int) := by simpa using s169
                                        subst her
                                        have esv2 := seatVal_pos (gs := gs20) hr2
                                        have hap := hgf.apart k j m g2 hj hg2 hr2
                                        refine AO.yldG _ (Yld.move rfl) rfl rfl rfl rfl rfl ?_
                                        refine AO.yldG _ (Yld.move rfl) rfl rfl rfl rfl rfl ?_
                                        refine AO.yldG _ (Yld.indexVec Try.underlying23 Try.sizeOf2 rfl rfl rfl rfl (by rw [List.length_map, hfs9, fsL_len]; omega)) rfl rfl rfl rfl rfl ?_
                                        refine AO.yldG _ (Yld.load Try.isAgg2 rfl (Eq.trans (behind_el rfl hrowSk) rfl)) rfl rfl rfl rfl rfl ?_
                                        refine AO.yldG _ (Yld.move rfl) rfl rfl rfl rfl rfl ?_
                                        refine AO.yldG _ (Yld.move rfl) rfl rfl rfl rfl rfl ?_
                                        refine AO.yldG _ (Yld.indexVec Try.underlying27 Try.sizeOf52 rfl rfl rfl rfl (by rw [List.length_map]; omega)) rfl rfl rfl rfl rfl ?_
                                        refine AO.yldG _ (Yld.fieldAddr Try.underlying52 rfl rfl Try.sizeOf2 rfl (behind_el rfl hrowGk) rfl) rfl rfl rfl rfl rfl ?_
                                        refine AO.yldG _ (Yld.load Try.isAgg2 rfl (Eq.trans (behind_el rfl hrowGk) rfl)) rfl rfl rfl rfl rfl ?_
                                        refine AO.yldG _ (Yld.add rfl rfl (by omega) (by omega)) rfl rfl rfl rfl rfl ?_
                                        refine AO.yldG _ (Yld.move rfl) rfl rfl rfl rfl rfl ?_
                                        refine AO.yldG _ (Yld.move rfl) rfl rfl rfl rfl rfl ?_
                                        refine AO.yldG _ (Yld.indexVec Try.underlying23 Try.sizeOf2 rfl rfl rfl rfl (by rw [List.length_map, hfs9, fsL_len]; omega)) rfl rfl rfl rfl rfl ?_
                                        refine AO.yldG _ (Yld.load Try.isAgg2 rfl (Eq.trans (behind_el rfl hrowS) rfl)) rfl rfl rfl rfl rfl ?_
                                        refine AO.yldG _ (Yld.int rfl rfl rfl) rfl rfl rfl rfl rfl ?_
                                        refine AO.yld _ (Yld.pickT rfl rfl) rfl rfl rfl ?_
                                        refine AO.nil ?_
                                        refine AC.cond _ rfl (fun c185 => ?_) (fun c185 => ?_)
                                        · -- c185 True
                                          exfalso; have h := c185; rw [esv, esv2] at h; simp at h; omega
                                        · -- c185 False
                                          refine AC.skip ?_
                                          refine AC.mark ?_
                                          refine AC.region ?_
                                          refine AO.yld _ (Yld.move rfl) rfl rfl rfl ?_
                                          refine AO.yld _ (Yld.add rfl rfl (by omega) (by omega)) rfl rfl rfl ?_
                                          refine AO.yld _ (Yld.assign rfl) rfl rfl rfl ?_
                                          refine AO.nil ?_
                                          refine AC.back ⟨j + 1, ?_, ?_, ⟨?_, trivial⟩, trivial, ⟨rfl, rfl, rfl, rfl, rfl, trivial⟩, ⟨rfl, rfl, rfl, rfl, rfl, trivial⟩⟩
                                          · exact hj
                                          · omega
                                          · rfl
                                      · -- s169 False
                                        refine AO.skipT rfl rfl rfl rfl rfl ?_
                                        refine AO.skipT rfl rfl rfl rfl rfl ?_
                                        refine AO.skipT rfl rfl rfl rfl rfl ?_
                                        refine AO.skipT rfl rfl rfl rfl rfl ?_
                                        refine AO.skipT rfl rfl rfl rfl rfl ?_
                                        refine AO.skipT rfl rfl rfl rfl rfl ?_
                                        refine AO.skipT rfl rfl rfl rfl rfl ?_
                                        refine AO.skipT rfl rfl rfl rfl rfl ?_
                                        refine AO.skipT rfl rfl rfl rfl rfl ?_
                                        refine AO.skipT rfl rfl rfl rfl rfl ?_
                                        refine AO.skipT rfl rfl rfl rfl rfl ?_
                                        refine AO.skipT rfl rfl rfl rfl rfl ?_
                                        refine AO.skipT rfl rfl rfl rfl rfl ?_
                                        refine AO.skipT rfl rfl rfl rfl rfl ?_
                                        refine AO.skipT rfl rfl rfl rfl rfl ?_
                                        refine AO.yld _ (Yld.pickF rfl rfl) rfl rfl rfl ?_
                                        refine AO.nil ?_
                                        refine AC.condF rfl ?_
                                        refine AC.skip ?_
                                        refine AC.mark ?_
                                        refine AC.region ?_
                                        refine AO.yld _ (Yld.move rfl) rfl rfl rfl ?_
                                        refine AO.yld _ (Yld.add rfl rfl (by omega) (by omega)) rfl rfl rfl ?_
                                        refine AO.yld _ (Yld.assign rfl) rfl rfl rfl ?_
                                        refine AO.nil ?_
                                        refine AC.back ⟨j + 1, ?_, ?_, ⟨?_, trivial⟩, trivial, ⟨rfl, rfl, rfl, rfl, rfl, trivial⟩, ⟨rfl, rfl, rfl, rfl, rfl, trivial⟩⟩
                                        · exact hj
                                        · omega
                                        · rfl
                                    · -- c157 False
                                      refine AC.exit rfl ?_
                                      refine AC.mark ?_
                                      refine AC.region ?_
                                      refine AO.yld _ (Yld.move rfl) rfl rfl rfl ?_
                                      refine AO.yld _ (Yld.add rfl rfl (by omega) (by omega)) rfl rfl rfl ?_
                                      refine AO.yld _ (Yld.assign rfl) rfl rfl rfl ?_
                                      refine AO.nil ?_
                                      refine AC.back ⟨k + 1, ?_, ?_, ⟨?_, trivial⟩, trivial, ⟨rfl, rfl, rfl, rfl, trivial⟩, ⟨rfl, rfl, rfl, rfl, rfl, trivial⟩⟩
                                      · exact hi
                                      · omega
                                      · rfl
                          · -- c118 False
                            refine AC.exit rfl ?_
                            refine AC.seq ?_
                            refine AC.region ?_
                            refine AO.yld _ (Yld.assign rfl) rfl rfl rfl ?_
                            refine AO.nil ?_
                            refine Pure.ret Try.results7 (RVs.cons (RV.tmp rfl) RVs.nil) rfl ?_
                            first
                              | rfl
                              | (refine cb ?_; rw [e2]; rfl)
                              | (refine cb ?_; rw [e2]; simp; done)
                              | (simp_all; done)
                              | fail

end Go.Proofs.Ytnejigdldeipdaa
