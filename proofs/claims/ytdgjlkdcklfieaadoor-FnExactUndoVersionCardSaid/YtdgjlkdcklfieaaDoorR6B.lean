/- Contracts of functions of the program, each by a walk of its text in the calculus V. -/
import Derived.Test.YtdgjlkdcklfieaaDoorR6A
set_option linter.all false
set_option linter.unusedSimpArgs false
set_option linter.unnecessarySimpa false
set_option linter.unusedVariables false
namespace Go.Proofs.YtdgjlkdcklfieaaDoor
open Go Go.V

theorem spec_l27StateOf_c {xs : List Ver} {n : Int} (hg : VersGood xs) (h0 : 0 ≤ n) (h1 : n ≤ xs.length) :
    FnE (α := Unit) Tryd.prog 108 [.p (.sl 4 (xs.map encVer)), .p (.v (.int .i64 n))] [] [] (fun _ => True) (fun _ => .p (.sl 2 ((stT xs n).map encNV))) (fun _ => []) := by
  have hn := hg.1
  refine FnE.intro Tryd.func108 rfl Tryd.ntmps108 rfl rfl (fun w0 F0 η φ w => ?_)
  refine AC.seq ?_
  refine AC.region ?_
  refine AO.yld _ (Yld.assign rfl) rfl rfl rfl ?_
  refine AO.nil ?_
  refine AC.seq ?_
  refine AC.seq ?_
  refine AC.region ?_
  refine AO.yld _ (Yld.move rfl) rfl rfl rfl ?_
  refine AO.yld _ (Yld.int rfl rfl rfl) rfl rfl rfl ?_
  refine AO.nil ?_
  refine AC.cond _ rfl (fun c6 => ?_) (fun c6 => ?_)
  · -- c6 True
    have hz : n = 0 := by simpa using c6
    refine AC.seq ?_
    refine AC.region ?_
    refine AO.buildSlice (rows := []) 0 Tryd.underlying72 ty146 rfl rfl rfl rfl rfl rfl rfl rfl rfl ?_
    refine AO.yld _ (Yld.assign rfl) rfl rfl rfl ?_
    refine AO.nil ?_
    refine AC.freeze 0 rfl ?_
    refine FnE.ret () [] [] Tryd.results108 (RVs.cons (RV.tmp rfl) RVs.nil) rfl rfl rfl ?_ ?_ trivial
    · -- holds
      trivial
    · -- value
      first | (rw [stT_zero hz]; rfl) | (rw [stT_get hz hx]; rfl) | (rw [stT_zero hz]; done) | (rw [stT_get hz hx]; done)
  · -- c6 False
    have hz : ¬ n = 0 := by simpa using c6
    obtain ⟨x, hx⟩ := get_some (xs := xs) (k := (n - 1).toNat) (by omega)
    have hrow := map_row (enc := encVer) hx
    refine AC.skip ?_
    refine AC.seq ?_
    refine AC.region ?_
    refine AO.yld _ (Yld.move rfl) rfl rfl rfl ?_
    refine AO.yld _ (Yld.move rfl) rfl rfl rfl ?_
    refine AO.yld _ (Yld.sub rfl rfl (by omega) (by omega)) rfl rfl rfl ?_
    refine AO.yld _ (Yld.indexSl Tryd.underlying80 Tryd.sizeOf74 rfl rfl hrow (by omega)) rfl rfl rfl ?_
    refine AO.yld _ (Yld.fieldAddr Tryd.underlying74 rfl rfl Tryd.sizeOf72 rfl rfl rfl) rfl rfl rfl ?_
    refine AO.yld _ (Yld.load Tryd.isAgg72 rfl rfl) rfl rfl rfl ?_
    refine AO.yld _ (Yld.assign rfl) rfl rfl rfl ?_
    refine AO.nil ?_
    refine FnE.ret () [] [] Tryd.results108 (RVs.cons (RV.tmp rfl) RVs.nil) rfl rfl rfl ?_ ?_ trivial
    · -- holds
      trivial
    · -- value
      first | (rw [stT_zero hz]; rfl) | (rw [stT_get hz hx]; rfl) | (rw [stT_zero hz]; done) | (rw [stT_get hz hx]; done)

theorem impl_stateOf_c {xs : List Ver} {n : Int} (hg : VersGood xs) (h0 : 0 ≤ n) (h1 : n ≤ xs.length) :
    FnE (α := Unit) Tryd.prog 111 [.p (.sl 4 (xs.map encVer)), .p (.v (.int .i64 n))] [] [] (fun _ => True) (fun _ => .p (.sl 2 ((stT xs n).map encNV))) (fun _ => []) := by
  have hn := hg.1
  refine FnE.intro Tryd.func111 rfl Tryd.ntmps111 rfl rfl (fun w0 F0 η φ w => ?_)
  refine AC.seq ?_
  refine AC.region ?_
  refine AO.yld _ (Yld.assign rfl) rfl rfl rfl ?_
  refine AO.nil ?_
  refine AC.seq ?_
  refine AC.seq ?_
  refine AC.region ?_
  refine AO.yld _ (Yld.move rfl) rfl rfl rfl ?_
  refine AO.yld _ (Yld.int rfl rfl rfl) rfl rfl rfl ?_
  refine AO.nil ?_
  refine AC.cond _ rfl (fun c6 => ?_) (fun c6 => ?_)
  · -- c6 True
    have hz : n = 0 := by simpa using c6
    refine AC.seq ?_
    refine AC.region ?_
    refine AO.yld _ (Yld.assign rfl) rfl rfl rfl ?_
    refine AO.nil ?_
    refine AC.nilVec 4 0 146 2 rfl rfl ?_
    refine AC.freeze 0 rfl ?_
    refine FnE.ret () [] [] Tryd.results111 (RVs.cons (RV.tmp rfl) RVs.nil) rfl rfl rfl ?_ ?_ trivial
    · -- holds
      trivial
    · -- value
      first | (rw [stT_zero hz]; rfl) | (rw [stT_get hz hx]; rfl) | (rw [stT_zero hz]; done) | (rw [stT_get hz hx]; done)
  · -- c6 False
    have hz : ¬ n = 0 := by simpa using c6
    obtain ⟨x, hx⟩ := get_some (xs := xs) (k := (n - 1).toNat) (by omega)
    have hrow := map_row (enc := encVer) hx
    refine AC.skip ?_
    refine AC.seq ?_
    refine AC.region ?_
    refine AO.yld _ (Yld.move rfl) rfl rfl rfl ?_
    refine AO.yld _ (Yld.move rfl) rfl rfl rfl ?_
    refine AO.yld _ (Yld.sub rfl rfl (by omega) (by omega)) rfl rfl rfl ?_
    refine AO.yld _ (Yld.indexSl Tryd.underlying80 Tryd.sizeOf74 rfl rfl hrow (by omega)) rfl rfl rfl ?_
    refine AO.yld _ (Yld.fieldAddr Tryd.underlying74 rfl rfl Tryd.sizeOf72 rfl rfl rfl) rfl rfl rfl ?_
    refine AO.yld _ (Yld.load Tryd.isAgg72 rfl rfl) rfl rfl rfl ?_
    refine AO.yld _ (Yld.assign rfl) rfl rfl rfl ?_
    refine AO.nil ?_
    refine FnE.ret () [] [] Tryd.results111 (RVs.cons (RV.tmp rfl) RVs.nil) rfl rfl rfl ?_ ?_ trivial
    · -- holds
      trivial
    · -- value
      first | (rw [stT_zero hz]; rfl) | (rw [stT_get hz hx]; rfl) | (rw [stT_zero hz]; done) | (rw [stT_get hz hx]; done)

theorem spec_UndoVersion_c {xs : List Ver} {n : Int} (hg : VersGood xs) :
    FnE (α := Unit) Tryd.prog 41 [.p (.sl 4 (xs.map encVer)), .p (.v (.int .i64 n))] [] [] (fun _ => True) (fun _ => .tup [.h 0, .p (.v (.int .i64 (undoVersion xs n).2))]) (fun _ => [(0, .cust (nestC 74 4 146 2 (((undoVersion xs n).1).map verC) (((undoVersion xs n).1).map verI) (((undoVersion xs n).1).map encVer) ver_nest))]) := by
  have hn := hg.1
  have hM : (xs.map encVer).length = xs.length := List.length_map ..
  refine FnE.intro Tryd.func41 rfl Tryd.ntmps41 rfl rfl (fun w0 F0 η φ w => ?_)
  refine AC.seq ?_
  refine AC.region ?_
  refine AO.yld _ (Yld.assign rfl) rfl rfl rfl ?_
  refine AO.yld _ (Yld.assign rfl) rfl rfl rfl ?_
  refine AO.nil ?_
  refine AC.seq ?_
  refine AC.seq ?_
  refine AC.region ?_
  refine AO.yld _ (Yld.move rfl) rfl rfl rfl ?_
  refine AO.yld _ (Yld.call rfl rfl Tryd.call105 rfl rfl rfl (spec_l27Ok_c (by assumption)) rfl) rfl rfl rfl ?_
  refine AO.yld _ (Yld.not rfl) rfl rfl rfl ?_
  refine AO.nil ?_
  refine AC.cond _ rfl (fun c8 => ?_) (fun c8 => ?_)
  · -- c8 True
    have hnk : ¬ okVers xs = true := by simpa using c8
    refine AC.seq ?_
    refine AC.region ?_
    refine AO.yld _ (Yld.assign rfl) rfl rfl rfl ?_
    refine AO.yld _ (Yld.assign rfl) rfl rfl rfl ?_
    refine AO.nil ?_
    refine AC.nilVec 4 0 74 4 rfl rfl ?_
    refine AC.poolNew 1 146 2 rfl ?_
    refine AC.nestJoin 0 1 (cs := ([] : List Ver).map verC) (ins := ([] : List Ver).map verI) (hV := ver_nest) (vs := []) rfl rfl rfl rfl rfl rfl rfl ?_
    refine FnE.ret () [0] [0] Tryd.results41 (RVs.cons (RV.tmp rfl) (RVs.cons (RV.tmp rfl) RVs.nil)) rfl rfl rfl ?_ ?_ ⟨⟨_, rfl, ?_⟩, trivial⟩
    · -- holds
      trivial
    · -- value
      refine tupE ?_; (try simp only [hM] at *); unfold undoVersion; first | (rw [if_pos hok, if_pos hin]; first | done | rfl) | (rw [if_pos hok, if_neg hno]; first | done | rfl) | (rw [if_neg hnk]; first | done | rfl)
    · -- thing 0
      exact nestE (by (try simp only [hM] at *); unfold undoVersion; first | (rw [if_pos hok, if_pos hin]; first | done | rfl) | (rw [if_pos hok, if_neg hno]; first | done | rfl) | (rw [if_neg hnk]; first | done | rfl))
  · -- c8 False
    have hok : okVers xs = true := by simpa using c8
    have hl32 := vers_len hok
    refine AC.skip ?_
    refine AC.seq ?_
    refine AC.seq ?_
    refine AC.region ?_
    refine AO.yld _ (Yld.move rfl) rfl rfl rfl ?_
    refine AO.yld _ (Yld.move rfl) rfl rfl rfl ?_
    refine AO.yld _ (Yld.call rfl rfl Tryd.call106 rfl rfl rfl (spec_l27Number_c (by assumption)) rfl) rfl rfl rfl ?_
    refine AO.yld _ (Yld.not rfl) rfl rfl rfl ?_
    refine AO.nil ?_
    refine AC.cond _ rfl (fun c12 => ?_) (fun c12 => ?_)
    · -- c12 True
      have hno : ¬ inVers xs n = true := by have h9 := c12; (try simp only [hM] at h9); first | (simpa using h9) | (simp [inVers] at h9 ⊢; omega)
      refine AC.seq ?_
      refine AC.region ?_
      refine AO.yld _ (Yld.assign rfl) rfl rfl rfl ?_
      refine AO.yld _ (Yld.assign rfl) rfl rfl rfl ?_
      refine AO.nil ?_
      refine AC.nilVec 4 0 74 4 rfl rfl ?_
      refine AC.poolNew 1 146 2 rfl ?_
      refine AC.nestJoin 0 1 (cs := ([] : List Ver).map verC) (ins := ([] : List Ver).map verI) (hV := ver_nest) (vs := []) rfl rfl rfl rfl rfl rfl rfl ?_
      refine FnE.ret () [0] [0] Tryd.results41 (RVs.cons (RV.tmp rfl) (RVs.cons (RV.tmp rfl) RVs.nil)) rfl rfl rfl ?_ ?_ ⟨⟨_, rfl, ?_⟩, trivial⟩
      · -- holds
        trivial
      · -- value
        refine tupE ?_; (try simp only [hM] at *); unfold undoVersion; first | (rw [if_pos hok, if_pos hin]; first | done | rfl) | (rw [if_pos hok, if_neg hno]; first | done | rfl) | (rw [if_neg hnk]; first | done | rfl)
      · -- thing 0
        exact nestE (by (try simp only [hM] at *); unfold undoVersion; first | (rw [if_pos hok, if_pos hin]; first | done | rfl) | (rw [if_pos hok, if_neg hno]; first | done | rfl) | (rw [if_neg hnk]; first | done | rfl))
    · -- c12 False
      have hin : inVers xs n = true := by have h9 := c12; (try simp only [hM] at h9); first | (simpa using h9) | (simp [inVers] at h9 ⊢; exact h9)
      have hb : 1 ≤ n ∧ n ≤ xs.length := by simpa [inVers] using hin
      obtain ⟨x, hx⟩ := get_some (xs := xs) (k := (n - 1).toNat) (by omega)
      have hrow := map_row (enc := encVer) hx
      have hpl := par_lim hok (n := n) (by omega)
      have hpe := par_eq hx
      rw [hpe] at hpl
      have hul := undoMemo_len (n := n) (by omega)
      have hsl := state_len (stT_ok hok x.parent)
      refine AC.skip ?_
      refine AC.seq ?_
      apply AC.drawAnyC (α := Unit) [(0, _), (1, _), (6, _), (7, _), (8, _), (9, _), (10, _), (11, _), (12, _)] [(900, _)] (fun y => [(4, .h 0), (5, .p (.v (.int .i64 (addV xs n (undoMemo n) (stT xs (par xs n))).2)))]) (fun y => [(0, .cust (nestC 74 4 146 2 (((addV xs n (undoMemo n) (stT xs (par xs n))).1).map verC) (((addV xs n (undoMemo n) (stT xs (par xs n))).1).map verI) (((addV xs n (undoMemo n) (stT xs (par xs n))).1).map encVer) ver_nest))]) (by kernel_rfl)
      · -- orders
        refine ANx.take 0 rfl (by kernel_rfl) (by kernel_rfl) (by kernel_rfl) rfl rfl rfl (YldA.move rfl) ?_
        refine ANx.take 1 rfl (by kernel_rfl) (by kernel_rfl) (by kernel_rfl) rfl rfl rfl (YldA.move rfl) ?_
        refine ANx.take 2 rfl (by kernel_rfl) (by kernel_rfl) (by kernel_rfl) rfl rfl rfl (YldA.move rfl) ?_
        refine ANx.take 5 rfl (by kernel_rfl) (by kernel_rfl) (by kernel_rfl) rfl rfl rfl (YldA.move rfl) ?_
        refine ANx.take 6 rfl (by kernel_rfl) (by kernel_rfl) (by kernel_rfl) rfl rfl rfl (YldA.move rfl) ?_
        refine ANx.take 7 rfl (by kernel_rfl) (by kernel_rfl) (by kernel_rfl) rfl rfl rfl (YldA.move rfl) ?_
        refine ANx.take 8 rfl (by kernel_rfl) (by kernel_rfl) (by kernel_rfl) rfl rfl rfl (YldA.sub rfl rfl (by omega) (by omega)) ?_
        refine ANx.take 9 rfl (by kernel_rfl) (by kernel_rfl) (by kernel_rfl) rfl rfl rfl (YldA.indexSl Tryd.underlying80 Tryd.sizeOf74 rfl rfl hrow (by omega)) ?_
        refine ANx.take 10 rfl (by kernel_rfl) (by kernel_rfl) (by kernel_rfl) rfl rfl rfl (YldA.fieldAddr Tryd.underlying74 rfl rfl Tryd.sizeOf2 rfl rfl rfl) ?_
        refine ANx.all (rs := [3, 11]) (by kernel_rfl) rfl ⟨?_, ?_, trivial⟩
        · -- 3
          refine Stpx.eff rfl rfl (Eff.yld (Yld.call rfl rfl Tryd.call100 rfl rfl rfl (spec_l01Dec_c (by omega)) rfl) rfl rfl) ?_
          refine ANx.all (rs := [4, 11]) (by kernel_rfl) rfl ⟨?_, ?_, trivial⟩
          · -- 4
            refine Stpx.eff rfl rfl (Eff.yld (Yld.cat rfl rfl (by have := itoa_len (n := n) (by omega); simp only [List.length_cons, List.length_nil]; omega)) rfl rfl) ?_
            refine ANx.all (rs := [11]) (by kernel_rfl) rfl ⟨?_, trivial⟩
            refine Stpx.eff rfl rfl (Eff.yld (Yld.load Tryd.isAgg2 rfl rfl) rfl rfl) ?_
            refine ANx.all (rs := [12]) (by kernel_rfl) rfl ⟨?_, trivial⟩
            refine Stpx.effX rfl rfl (EffX.callW [] [] [] rfl rfl Tryd.call108 rfl (spec_l27StateOf_c (by assumption) (by omega) (by omega)) (.own rfl) rfl (fun _ => rfl) trivial rfl (fun _ => rfl) (fun _ => rfl)) ?_
            rintro _ ⟨⟨⟩, hu25, rfl⟩
            refine ANx.all (rs := [13]) (by kernel_rfl) rfl ⟨?_, trivial⟩
            refine Stpx.effX rfl rfl (EffX.callW [0] [] [0] rfl rfl Tryd.call107 rfl (spec_l27Add_c (by assumption) (by first | assumption | omega)) (.own rfl) rfl (fun _ => rfl) trivial rfl (fun _ => rfl) (fun _ => rfl)) ?_
            rintro _ ⟨⟨⟩, hu26, rfl⟩
            refine ANx.all (rs := [14, 15]) (by kernel_rfl) rfl ⟨?_, ?_, trivial⟩
            · -- 14
              refine Stpx.eff rfl rfl (Eff.yld (Yld.extract rfl rfl rfl) rfl rfl) ?_
              refine ANx.all (rs := [15]) (by kernel_rfl) rfl ⟨?_, trivial⟩
              refine Stpx.eff rfl rfl (Eff.yld (Yld.extract rfl rfl rfl) rfl rfl) ?_
              refine ANx.take 16 rfl (by kernel_rfl) (by kernel_rfl) (by kernel_rfl) rfl rfl rfl (YldA.assign rfl) ?_
              refine ANx.take 17 rfl (by kernel_rfl) (by kernel_rfl) (by kernel_rfl) rfl rfl rfl (YldA.assign rfl) ?_
              rw [hpe]
              exact ANx.doneC () (by kernel_rfl) ⟨rfl, rfl, trivial⟩ ⟨rfl, trivial⟩ ⟨rfl, rfl, rfl, rfl, rfl, rfl, rfl, rfl, rfl, trivial⟩ ⟨rfl, trivial⟩
            · -- 15
              refine Stpx.eff rfl rfl (Eff.yld (Yld.extract rfl rfl rfl) rfl rfl) ?_
              refine ANx.all (rs := [14]) (by kernel_rfl) rfl ⟨?_, trivial⟩
              refine Stpx.eff rfl rfl (Eff.yld (Yld.extract rfl rfl rfl) rfl rfl) ?_
              refine ANx.take 16 rfl (by kernel_rfl) (by kernel_rfl) (by kernel_rfl) rfl rfl rfl (YldA.assign rfl) ?_
              refine ANx.take 17 rfl (by kernel_rfl) (by kernel_rfl) (by kernel_rfl) rfl rfl rfl (YldA.assign rfl) ?_
              rw [hpe]
              exact ANx.doneC () (by kernel_rfl) ⟨rfl, rfl, trivial⟩ ⟨rfl, trivial⟩ ⟨rfl, rfl, rfl, rfl, rfl, rfl, rfl, rfl, rfl, trivial⟩ ⟨rfl, trivial⟩
          · -- 11
            refine Stpx.eff rfl rfl (Eff.yld (Yld.load Tryd.isAgg2 rfl rfl) rfl rfl) ?_
            refine ANx.all (rs := [4, 12]) (by kernel_rfl) rfl ⟨?_, ?_, trivial⟩
            · -- 4
              refine Stpx.eff rfl rfl (Eff.yld (Yld.cat rfl rfl (by have := itoa_len (n := n) (by omega); simp only [List.length_cons, List.length_nil]; omega)) rfl rfl) ?_
              refine ANx.all (rs := [12]) (by kernel_rfl) rfl ⟨?_, trivial⟩
              refine Stpx.effX rfl rfl (EffX.callW [] [] [] rfl rfl Tryd.call108 rfl (spec_l27StateOf_c (by assumption) (by omega) (by omega)) (.own rfl) rfl (fun _ => rfl) trivial rfl (fun _ => rfl) (fun _ => rfl)) ?_
              rintro _ ⟨⟨⟩, hu25, rfl⟩
              refine ANx.all (rs := [13]) (by kernel_rfl) rfl ⟨?_, trivial⟩
              refine Stpx.effX rfl rfl (EffX.callW [0] [] [0] rfl rfl Tryd.call107 rfl (spec_l27Add_c (by assumption) (by first | assumption | omega)) (.own rfl) rfl (fun _ => rfl) trivial rfl (fun _ => rfl) (fun _ => rfl)) ?_
              rintro _ ⟨⟨⟩, hu26, rfl⟩
              refine ANx.all (rs := [14, 15]) (by kernel_rfl) rfl ⟨?_, ?_, trivial⟩
              · -- 14
                refine Stpx.eff rfl rfl (Eff.yld (Yld.extract rfl rfl rfl) rfl rfl) ?_
                refine ANx.all (rs := [15]) (by kernel_rfl) rfl ⟨?_, trivial⟩
                refine Stpx.eff rfl rfl (Eff.yld (Yld.extract rfl rfl rfl) rfl rfl) ?_
                refine ANx.take 16 rfl (by kernel_rfl) (by kernel_rfl) (by kernel_rfl) rfl rfl rfl (YldA.assign rfl) ?_
                refine ANx.take 17 rfl (by kernel_rfl) (by kernel_rfl) (by kernel_rfl) rfl rfl rfl (YldA.assign rfl) ?_
                rw [hpe]
                exact ANx.doneC () (by kernel_rfl) ⟨rfl, rfl, trivial⟩ ⟨rfl, trivial⟩ ⟨rfl, rfl, rfl, rfl, rfl, rfl, rfl, rfl, rfl, trivial⟩ ⟨rfl, trivial⟩
              · -- 15
                refine Stpx.eff rfl rfl (Eff.yld (Yld.extract rfl rfl rfl) rfl rfl) ?_
                refine ANx.all (rs := [14]) (by kernel_rfl) rfl ⟨?_, trivial⟩
                refine Stpx.eff rfl rfl (Eff.yld (Yld.extract rfl rfl rfl) rfl rfl) ?_
                refine ANx.take 16 rfl (by kernel_rfl) (by kernel_rfl) (by kernel_rfl) rfl rfl rfl (YldA.assign rfl) ?_
                refine ANx.take 17 rfl (by kernel_rfl) (by kernel_rfl) (by kernel_rfl) rfl rfl rfl (YldA.assign rfl) ?_
                rw [hpe]
                exact ANx.doneC () (by kernel_rfl) ⟨rfl, rfl, trivial⟩ ⟨rfl, trivial⟩ ⟨rfl, rfl, rfl, rfl, rfl, rfl, rfl, rfl, rfl, trivial⟩ ⟨rfl, trivial⟩
            · -- 12
              refine Stpx.effX rfl rfl (EffX.callW [] [] [] rfl rfl Tryd.call108 rfl (spec_l27StateOf_c (by assumption) (by omega) (by omega)) (.own rfl) rfl (fun _ => rfl) trivial rfl (fun _ => rfl) (fun _ => rfl)) ?_
              rintro _ ⟨⟨⟩, hu25, rfl⟩
              refine ANx.all (rs := [4]) (by kernel_rfl) rfl ⟨?_, trivial⟩
              refine Stpx.eff rfl rfl (Eff.yld (Yld.cat rfl rfl (by have := itoa_len (n := n) (by omega); simp only [List.length_cons, List.length_nil]; omega)) rfl rfl) ?_
              refine ANx.all (rs := [13]) (by kernel_rfl) rfl ⟨?_, trivial⟩
              refine Stpx.effX rfl rfl (EffX.callW [0] [] [0] rfl rfl Tryd.call107 rfl (spec_l27Add_c (by assumption) (by first | assumption | omega)) (.own rfl) rfl (fun _ => rfl) trivial rfl (fun _ => rfl) (fun _ => rfl)) ?_
              rintro _ ⟨⟨⟩, hu26, rfl⟩
              refine ANx.all (rs := [14, 15]) (by kernel_rfl) rfl ⟨?_, ?_, trivial⟩
              · -- 14
                refine Stpx.eff rfl rfl (Eff.yld (Yld.extract rfl rfl rfl) rfl rfl) ?_
                refine ANx.all (rs := [15]) (by kernel_rfl) rfl ⟨?_, trivial⟩
                refine Stpx.eff rfl rfl (Eff.yld (Yld.extract rfl rfl rfl) rfl rfl) ?_
                refine ANx.take 16 rfl (by kernel_rfl) (by kernel_rfl) (by kernel_rfl) rfl rfl rfl (YldA.assign rfl) ?_
                refine ANx.take 17 rfl (by kernel_rfl) (by kernel_rfl) (by kernel_rfl) rfl rfl rfl (YldA.assign rfl) ?_
                rw [hpe]
                exact ANx.doneC () (by kernel_rfl) ⟨rfl, rfl, trivial⟩ ⟨rfl, trivial⟩ ⟨rfl, rfl, rfl, rfl, rfl, rfl, rfl, rfl, rfl, trivial⟩ ⟨rfl, trivial⟩
              · -- 15
                refine Stpx.eff rfl rfl (Eff.yld (Yld.extract rfl rfl rfl) rfl rfl) ?_
                refine ANx.all (rs := [14]) (by kernel_rfl) rfl ⟨?_, trivial⟩
                refine Stpx.eff rfl rfl (Eff.yld (Yld.extract rfl rfl rfl) rfl rfl) ?_
                refine ANx.take 16 rfl (by kernel_rfl) (by kernel_rfl) (by kernel_rfl) rfl rfl rfl (YldA.assign rfl) ?_
                refine ANx.take 17 rfl (by kernel_rfl) (by kernel_rfl) (by kernel_rfl) rfl rfl rfl (YldA.assign rfl) ?_
                rw [hpe]
                exact ANx.doneC () (by kernel_rfl) ⟨rfl, rfl, trivial⟩ ⟨rfl, trivial⟩ ⟨rfl, rfl, rfl, rfl, rfl, rfl, rfl, rfl, rfl, trivial⟩ ⟨rfl, trivial⟩
        · -- 11
          refine Stpx.eff rfl rfl (Eff.yld (Yld.load Tryd.isAgg2 rfl rfl) rfl rfl) ?_
          refine ANx.all (rs := [3]) (by kernel_rfl) rfl ⟨?_, trivial⟩
          refine Stpx.eff rfl rfl (Eff.yld (Yld.call rfl rfl Tryd.call100 rfl rfl rfl (spec_l01Dec_c (by omega)) rfl) rfl rfl) ?_
          refine ANx.all (rs := [4, 12]) (by kernel_rfl) rfl ⟨?_, ?_, trivial⟩
          · -- 4
            refine Stpx.eff rfl rfl (Eff.yld (Yld.cat rfl rfl (by have := itoa_len (n := n) (by omega); simp only [List.length_cons, List.length_nil]; omega)) rfl rfl) ?_
            refine ANx.all (rs := [12]) (by kernel_rfl) rfl ⟨?_, trivial⟩
            refine Stpx.effX rfl rfl (EffX.callW [] [] [] rfl rfl Tryd.call108 rfl (spec_l27StateOf_c (by assumption) (by omega) (by omega)) (.own rfl) rfl (fun _ => rfl) trivial rfl (fun _ => rfl) (fun _ => rfl)) ?_
            rintro _ ⟨⟨⟩, hu25, rfl⟩
            refine ANx.all (rs := [13]) (by kernel_rfl) rfl ⟨?_, trivial⟩
            refine Stpx.effX rfl rfl (EffX.callW [0] [] [0] rfl rfl Tryd.call107 rfl (spec_l27Add_c (by assumption) (by first | assumption | omega)) (.own rfl) rfl (fun _ => rfl) trivial rfl (fun _ => rfl) (fun _ => rfl)) ?_
            rintro _ ⟨⟨⟩, hu26, rfl⟩
            refine ANx.all (rs := [14, 15]) (by kernel_rfl) rfl ⟨?_, ?_, trivial⟩
            · -- 14
              refine Stpx.eff rfl rfl (Eff.yld (Yld.extract rfl rfl rfl) rfl rfl) ?_
              refine ANx.all (rs := [15]) (by kernel_rfl) rfl ⟨?_, trivial⟩
              refine Stpx.eff rfl rfl (Eff.yld (Yld.extract rfl rfl rfl) rfl rfl) ?_
              refine ANx.take 16 rfl (by kernel_rfl) (by kernel_rfl) (by kernel_rfl) rfl rfl rfl (YldA.assign rfl) ?_
              refine ANx.take 17 rfl (by kernel_rfl) (by kernel_rfl) (by kernel_rfl) rfl rfl rfl (YldA.assign rfl) ?_
              rw [hpe]
              exact ANx.doneC () (by kernel_rfl) ⟨rfl, rfl, trivial⟩ ⟨rfl, trivial⟩ ⟨rfl, rfl, rfl, rfl, rfl, rfl, rfl, rfl, rfl, trivial⟩ ⟨rfl, trivial⟩
            · -- 15
              refine Stpx.eff rfl rfl (Eff.yld (Yld.extract rfl rfl rfl) rfl rfl) ?_
              refine ANx.all (rs := [14]) (by kernel_rfl) rfl ⟨?_, trivial⟩
              refine Stpx.eff rfl rfl (Eff.yld (Yld.extract rfl rfl rfl) rfl rfl) ?_
              refine ANx.take 16 rfl (by kernel_rfl) (by kernel_rfl) (by kernel_rfl) rfl rfl rfl (YldA.assign rfl) ?_
              refine ANx.take 17 rfl (by kernel_rfl) (by kernel_rfl) (by kernel_rfl) rfl rfl rfl (YldA.assign rfl) ?_
              rw [hpe]
              exact ANx.doneC () (by kernel_rfl) ⟨rfl, rfl, trivial⟩ ⟨rfl, trivial⟩ ⟨rfl, rfl, rfl, rfl, rfl, rfl, rfl, rfl, rfl, trivial⟩ ⟨rfl, trivial⟩
          · -- 12
            refine Stpx.effX rfl rfl (EffX.callW [] [] [] rfl rfl Tryd.call108 rfl (spec_l27StateOf_c (by assumption) (by omega) (by omega)) (.own rfl) rfl (fun _ => rfl) trivial rfl (fun _ => rfl) (fun _ => rfl)) ?_
            rintro _ ⟨⟨⟩, hu25, rfl⟩
            refine ANx.all (rs := [4]) (by kernel_rfl) rfl ⟨?_, trivial⟩
            refine Stpx.eff rfl rfl (Eff.yld (Yld.cat rfl rfl (by have := itoa_len (n := n) (by omega); simp only [List.length_cons, List.length_nil]; omega)) rfl rfl) ?_
            refine ANx.all (rs := [13]) (by kernel_rfl) rfl ⟨?_, trivial⟩
            refine Stpx.effX rfl rfl (EffX.callW [0] [] [0] rfl rfl Tryd.call107 rfl (spec_l27Add_c (by assumption) (by first | assumption | omega)) (.own rfl) rfl (fun _ => rfl) trivial rfl (fun _ => rfl) (fun _ => rfl)) ?_
            rintro _ ⟨⟨⟩, hu26, rfl⟩
            refine ANx.all (rs := [14, 15]) (by kernel_rfl) rfl ⟨?_, ?_, trivial⟩
            · -- 14
              refine Stpx.eff rfl rfl (Eff.yld (Yld.extract rfl rfl rfl) rfl rfl) ?_
              refine ANx.all (rs := [15]) (by kernel_rfl) rfl ⟨?_, trivial⟩
              refine Stpx.eff rfl rfl (Eff.yld (Yld.extract rfl rfl rfl) rfl rfl) ?_
              refine ANx.take 16 rfl (by kernel_rfl) (by kernel_rfl) (by kernel_rfl) rfl rfl rfl (YldA.assign rfl) ?_
              refine ANx.take 17 rfl (by kernel_rfl) (by kernel_rfl) (by kernel_rfl) rfl rfl rfl (YldA.assign rfl) ?_
              rw [hpe]
              exact ANx.doneC () (by kernel_rfl) ⟨rfl, rfl, trivial⟩ ⟨rfl, trivial⟩ ⟨rfl, rfl, rfl, rfl, rfl, rfl, rfl, rfl, rfl, trivial⟩ ⟨rfl, trivial⟩
            · -- 15
              refine Stpx.eff rfl rfl (Eff.yld (Yld.extract rfl rfl rfl) rfl rfl) ?_
              refine ANx.all (rs := [14]) (by kernel_rfl) rfl ⟨?_, trivial⟩
              refine Stpx.eff rfl rfl (Eff.yld (Yld.extract rfl rfl rfl) rfl rfl) ?_
              refine ANx.take 16 rfl (by kernel_rfl) (by kernel_rfl) (by kernel_rfl) rfl rfl rfl (YldA.assign rfl) ?_
              refine ANx.take 17 rfl (by kernel_rfl) (by kernel_rfl) (by kernel_rfl) rfl rfl rfl (YldA.assign rfl) ?_
              rw [hpe]
              exact ANx.doneC () (by kernel_rfl) ⟨rfl, rfl, trivial⟩ ⟨rfl, trivial⟩ ⟨rfl, rfl, rfl, rfl, rfl, rfl, rfl, rfl, rfl, trivial⟩ ⟨rfl, trivial⟩
      · -- behind
        rintro y
        refine FnE.ret () [0] [0] Tryd.results41 (RVs.cons (RV.tmp rfl) (RVs.cons (RV.tmp rfl) RVs.nil)) rfl rfl rfl ?_ ?_ ⟨⟨_, rfl, ?_⟩, trivial⟩
        · -- holds
          trivial
        · -- value
          refine tupE ?_; (try simp only [hM] at *); unfold undoVersion; first | (rw [if_pos hok, if_pos hin]; first | done | rfl) | (rw [if_pos hok, if_neg hno]; first | done | rfl) | (rw [if_neg hnk]; first | done | rfl)
        · -- thing 0
          exact nestE (by (try simp only [hM] at *); unfold undoVersion; first | (rw [if_pos hok, if_pos hin]; first | done | rfl) | (rw [if_pos hok, if_neg hno]; first | done | rfl) | (rw [if_neg hnk]; first | done | rfl))

theorem impl_UndoVersion_c {xs : List Ver} {n : Int} (hg : VersGood xs) :
    FnE (α := Unit) Tryd.prog 43 [.p (.sl 4 (xs.map encVer)), .p (.v (.int .i64 n))] [] [] (fun _ => True) (fun _ => .tup [.h 0, .p (.v (.int .i64 (undoVersion xs n).2))]) (fun _ => [(0, .cust (nestC 74 4 146 2 (((undoVersion xs n).1).map verC) (((undoVersion xs n).1).map verI) (((undoVersion xs n).1).map encVer) ver_nest))]) := by
  have hn := hg.1
  have hM : (xs.map encVer).length = xs.length := List.length_map ..
  refine FnE.intro Tryd.func43 rfl Tryd.ntmps43 rfl rfl (fun w0 F0 η φ w => ?_)
  refine AC.seq ?_
  refine AC.region ?_
  refine AO.yld _ (Yld.assign rfl) rfl rfl rfl ?_
  refine AO.yld _ (Yld.assign rfl) rfl rfl rfl ?_
  refine AO.nil ?_
  refine AC.seq ?_
  refine AC.seq ?_
  refine AC.region ?_
  refine AO.yld _ (Yld.move rfl) rfl rfl rfl ?_
  refine AO.yld _ (Yld.call rfl rfl Tryd.call109 rfl rfl rfl (impl_ValidHistory_c (by assumption)) rfl) rfl rfl rfl ?_
  refine AO.yld _ (Yld.not rfl) rfl rfl rfl ?_
  refine AO.nil ?_
  refine AC.cond _ rfl (fun c8 => ?_) (fun c8 => ?_)
  · -- c8 True
    have hnk : ¬ okVers xs = true := by simpa using c8
    refine AC.seq ?_
    refine AC.region ?_
    refine AO.yld _ (Yld.assign rfl) rfl rfl rfl ?_
    refine AO.yld _ (Yld.assign rfl) rfl rfl rfl ?_
    refine AO.nil ?_
    refine AC.nilVec 4 0 74 4 rfl rfl ?_
    refine AC.poolNew 1 146 2 rfl ?_
    refine AC.nestJoin 0 1 (cs := ([] : List Ver).map verC) (ins := ([] : List Ver).map verI) (hV := ver_nest) (vs := []) rfl rfl rfl rfl rfl rfl rfl ?_
    refine FnE.ret () [0] [0] Tryd.results43 (RVs.cons (RV.tmp rfl) (RVs.cons (RV.tmp rfl) RVs.nil)) rfl rfl rfl ?_ ?_ ⟨⟨_, rfl, ?_⟩, trivial⟩
    · -- holds
      trivial
    · -- value
      refine tupE ?_; (try simp only [hM] at *); unfold undoVersion; first | (rw [if_pos hok, if_pos hin]; first | done | rfl) | (rw [if_pos hok, if_neg hno]; first | done | rfl) | (rw [if_neg hnk]; first | done | rfl)
    · -- thing 0
      exact nestE (by (try simp only [hM] at *); unfold undoVersion; first | (rw [if_pos hok, if_pos hin]; first | done | rfl) | (rw [if_pos hok, if_neg hno]; first | done | rfl) | (rw [if_neg hnk]; first | done | rfl))
  · -- c8 False
    have hok : okVers xs = true := by simpa using c8
    have hl32 := vers_len hok
    refine AC.skip ?_
    refine AC.seq ?_
    refine AC.seq ?_
    refine AC.region ?_
    refine AO.yld _ (Yld.move rfl) rfl rfl rfl ?_
    refine AO.yld _ (Yld.move rfl) rfl rfl rfl ?_
    refine AO.yld _ (Yld.len Tryd.underlying80 rfl rfl) rfl rfl rfl ?_
    refine AO.yld _ (Yld.call rfl rfl Tryd.call80 rfl rfl rfl (impl_within_c) rfl) rfl rfl rfl ?_
    refine AO.yld _ (Yld.not rfl) rfl rfl rfl ?_
    refine AO.nil ?_
    refine AC.cond _ rfl (fun c13 => ?_) (fun c13 => ?_)
    · -- c13 True
      have hno : ¬ inVers xs n = true := by have h9 := c13; (try simp only [hM] at h9); first | (simpa using h9) | (simp [inVers] at h9 ⊢; omega)
      refine AC.seq ?_
      refine AC.region ?_
      refine AO.yld _ (Yld.assign rfl) rfl rfl rfl ?_
      refine AO.yld _ (Yld.assign rfl) rfl rfl rfl ?_
      refine AO.nil ?_
      refine AC.nilVec 4 0 74 4 rfl rfl ?_
      refine AC.poolNew 1 146 2 rfl ?_
      refine AC.nestJoin 0 1 (cs := ([] : List Ver).map verC) (ins := ([] : List Ver).map verI) (hV := ver_nest) (vs := []) rfl rfl rfl rfl rfl rfl rfl ?_
      refine FnE.ret () [0] [0] Tryd.results43 (RVs.cons (RV.tmp rfl) (RVs.cons (RV.tmp rfl) RVs.nil)) rfl rfl rfl ?_ ?_ ⟨⟨_, rfl, ?_⟩, trivial⟩
      · -- holds
        trivial
      · -- value
        refine tupE ?_; (try simp only [hM] at *); unfold undoVersion; first | (rw [if_pos hok, if_pos hin]; first | done | rfl) | (rw [if_pos hok, if_neg hno]; first | done | rfl) | (rw [if_neg hnk]; first | done | rfl)
      · -- thing 0
        exact nestE (by (try simp only [hM] at *); unfold undoVersion; first | (rw [if_pos hok, if_pos hin]; first | done | rfl) | (rw [if_pos hok, if_neg hno]; first | done | rfl) | (rw [if_neg hnk]; first | done | rfl))
    · -- c13 False
      have hin : inVers xs n = true := by have h9 := c13; (try simp only [hM] at h9); first | (simpa using h9) | (simp [inVers] at h9 ⊢; exact h9)
      have hb : 1 ≤ n ∧ n ≤ xs.length := by simpa [inVers] using hin
      obtain ⟨x, hx⟩ := get_some (xs := xs) (k := (n - 1).toNat) (by omega)
      have hrow := map_row (enc := encVer) hx
      have hpl := par_lim hok (n := n) (by omega)
      have hpe := par_eq hx
      rw [hpe] at hpl
      have hul := undoMemo_len (n := n) (by omega)
      have hsl := state_len (stT_ok hok x.parent)
      refine AC.skip ?_
      refine AC.seq ?_
      apply AC.drawAnyC (α := Unit) [(0, _), (1, _), (6, _), (7, _), (8, _), (9, _), (10, _), (11, _), (12, _), (13, _)] [(900, _)] (fun y => [(4, .h 0), (5, .p (.v (.int .i64 (addV xs n (undoMemo n) (stT xs (par xs n))).2)))]) (fun y => [(0, .cust (nestC 74 4 146 2 (((addV xs n (undoMemo n) (stT xs (par xs n))).1).map verC) (((addV xs n (undoMemo n) (stT xs (par xs n))).1).map verI) (((addV xs n (undoMemo n) (stT xs (par xs n))).1).map encVer) ver_nest))]) (by kernel_rfl)
      · -- orders
        refine ANx.take 0 rfl (by kernel_rfl) (by kernel_rfl) (by kernel_rfl) rfl rfl rfl (YldA.move rfl) ?_
        refine ANx.take 1 rfl (by kernel_rfl) (by kernel_rfl) (by kernel_rfl) rfl rfl rfl (YldA.move rfl) ?_
        refine ANx.take 2 rfl (by kernel_rfl) (by kernel_rfl) (by kernel_rfl) rfl rfl rfl (YldA.move rfl) ?_
        refine ANx.take 5 rfl (by kernel_rfl) (by kernel_rfl) (by kernel_rfl) rfl rfl rfl (YldA.move rfl) ?_
        refine ANx.take 6 rfl (by kernel_rfl) (by kernel_rfl) (by kernel_rfl) rfl rfl rfl (YldA.move rfl) ?_
        refine ANx.take 7 rfl (by kernel_rfl) (by kernel_rfl) (by kernel_rfl) rfl rfl rfl (YldA.move rfl) ?_
        refine ANx.take 8 rfl (by kernel_rfl) (by kernel_rfl) (by kernel_rfl) rfl rfl rfl (YldA.sub rfl rfl (by omega) (by omega)) ?_
        refine ANx.take 9 rfl (by kernel_rfl) (by kernel_rfl) (by kernel_rfl) rfl rfl rfl (YldA.indexSl Tryd.underlying80 Tryd.sizeOf74 rfl rfl hrow (by omega)) ?_
        refine ANx.take 10 rfl (by kernel_rfl) (by kernel_rfl) (by kernel_rfl) rfl rfl rfl (YldA.fieldAddr Tryd.underlying74 rfl rfl Tryd.sizeOf2 rfl rfl rfl) ?_
        refine ANx.all (rs := [3, 11]) (by kernel_rfl) rfl ⟨?_, ?_, trivial⟩
        · -- 3
          refine Stpx.eff rfl rfl (Eff.yld (Yld.call rfl rfl Tryd.call86 rfl rfl rfl (impl_Decimal_s (by omega) (by omega)) rfl) rfl rfl) ?_
          refine ANx.all (rs := [4, 11]) (by kernel_rfl) rfl ⟨?_, ?_, trivial⟩
          · -- 4
            refine Stpx.eff rfl rfl (Eff.yld (Yld.cat rfl rfl (by have := itoa_len (n := n) (by omega); simp only [List.length_cons, List.length_nil]; omega)) rfl rfl) ?_
            refine ANx.all (rs := [11]) (by kernel_rfl) rfl ⟨?_, trivial⟩
            refine Stpx.eff rfl rfl (Eff.yld (Yld.load Tryd.isAgg2 rfl rfl) rfl rfl) ?_
            refine ANx.all (rs := [12]) (by kernel_rfl) rfl ⟨?_, trivial⟩
            refine Stpx.effX rfl rfl (EffX.callW [] [] [] rfl rfl Tryd.call111 rfl (impl_stateOf_c (by assumption) (by omega) (by omega)) (.own rfl) rfl (fun _ => rfl) trivial rfl (fun _ => rfl) (fun _ => rfl)) ?_
            rintro _ ⟨⟨⟩, hu26, rfl⟩
            refine ANx.all (rs := [13]) (by kernel_rfl) rfl ⟨?_, trivial⟩
            refine Stpx.effX rfl rfl (EffX.callW [0] [] [0] rfl rfl Tryd.call110 rfl (impl_addVersion_c (by assumption) (by first | assumption | omega)) (.own rfl) rfl (fun _ => rfl) trivial rfl (fun _ => rfl) (fun _ => rfl)) ?_
            rintro _ ⟨⟨⟩, hu27, rfl⟩
            refine ANx.all (rs := [14, 15]) (by kernel_rfl) rfl ⟨?_, ?_, trivial⟩
            · -- 14
              refine Stpx.eff rfl rfl (Eff.yld (Yld.extract rfl rfl rfl) rfl rfl) ?_
              refine ANx.all (rs := [15]) (by kernel_rfl) rfl ⟨?_, trivial⟩
              refine Stpx.eff rfl rfl (Eff.yld (Yld.extract rfl rfl rfl) rfl rfl) ?_
              refine ANx.take 16 rfl (by kernel_rfl) (by kernel_rfl) (by kernel_rfl) rfl rfl rfl (YldA.assign rfl) ?_
              refine ANx.take 17 rfl (by kernel_rfl) (by kernel_rfl) (by kernel_rfl) rfl rfl rfl (YldA.assign rfl) ?_
              rw [hpe]
              exact ANx.doneC () (by kernel_rfl) ⟨rfl, rfl, trivial⟩ ⟨rfl, trivial⟩ ⟨rfl, rfl, rfl, rfl, rfl, rfl, rfl, rfl, rfl, rfl, trivial⟩ ⟨rfl, trivial⟩
            · -- 15
              refine Stpx.eff rfl rfl (Eff.yld (Yld.extract rfl rfl rfl) rfl rfl) ?_
              refine ANx.all (rs := [14]) (by kernel_rfl) rfl ⟨?_, trivial⟩
              refine Stpx.eff rfl rfl (Eff.yld (Yld.extract rfl rfl rfl) rfl rfl) ?_
              refine ANx.take 16 rfl (by kernel_rfl) (by kernel_rfl) (by kernel_rfl) rfl rfl rfl (YldA.assign rfl) ?_
              refine ANx.take 17 rfl (by kernel_rfl) (by kernel_rfl) (by kernel_rfl) rfl rfl rfl (YldA.assign rfl) ?_
              rw [hpe]
              exact ANx.doneC () (by kernel_rfl) ⟨rfl, rfl, trivial⟩ ⟨rfl, trivial⟩ ⟨rfl, rfl, rfl, rfl, rfl, rfl, rfl, rfl, rfl, rfl, trivial⟩ ⟨rfl, trivial⟩
          · -- 11
            refine Stpx.eff rfl rfl (Eff.yld (Yld.load Tryd.isAgg2 rfl rfl) rfl rfl) ?_
            refine ANx.all (rs := [4, 12]) (by kernel_rfl) rfl ⟨?_, ?_, trivial⟩
            · -- 4
              refine Stpx.eff rfl rfl (Eff.yld (Yld.cat rfl rfl (by have := itoa_len (n := n) (by omega); simp only [List.length_cons, List.length_nil]; omega)) rfl rfl) ?_
              refine ANx.all (rs := [12]) (by kernel_rfl) rfl ⟨?_, trivial⟩
              refine Stpx.effX rfl rfl (EffX.callW [] [] [] rfl rfl Tryd.call111 rfl (impl_stateOf_c (by assumption) (by omega) (by omega)) (.own rfl) rfl (fun _ => rfl) trivial rfl (fun _ => rfl) (fun _ => rfl)) ?_
              rintro _ ⟨⟨⟩, hu26, rfl⟩
              refine ANx.all (rs := [13]) (by kernel_rfl) rfl ⟨?_, trivial⟩
              refine Stpx.effX rfl rfl (EffX.callW [0] [] [0] rfl rfl Tryd.call110 rfl (impl_addVersion_c (by assumption) (by first | assumption | omega)) (.own rfl) rfl (fun _ => rfl) trivial rfl (fun _ => rfl) (fun _ => rfl)) ?_
              rintro _ ⟨⟨⟩, hu27, rfl⟩
              refine ANx.all (rs := [14, 15]) (by kernel_rfl) rfl ⟨?_, ?_, trivial⟩
              · -- 14
                refine Stpx.eff rfl rfl (Eff.yld (Yld.extract rfl rfl rfl) rfl rfl) ?_
                refine ANx.all (rs := [15]) (by kernel_rfl) rfl ⟨?_, trivial⟩
                refine Stpx.eff rfl rfl (Eff.yld (Yld.extract rfl rfl rfl) rfl rfl) ?_
                refine ANx.take 16 rfl (by kernel_rfl) (by kernel_rfl) (by kernel_rfl) rfl rfl rfl (YldA.assign rfl) ?_
                refine ANx.take 17 rfl (by kernel_rfl) (by kernel_rfl) (by kernel_rfl) rfl rfl rfl (YldA.assign rfl) ?_
                rw [hpe]
                exact ANx.doneC () (by kernel_rfl) ⟨rfl, rfl, trivial⟩ ⟨rfl, trivial⟩ ⟨rfl, rfl, rfl, rfl, rfl, rfl, rfl, rfl, rfl, rfl, trivial⟩ ⟨rfl, trivial⟩
              · -- 15
                refine Stpx.eff rfl rfl (Eff.yld (Yld.extract rfl rfl rfl) rfl rfl) ?_
                refine ANx.all (rs := [14]) (by kernel_rfl) rfl ⟨?_, trivial⟩
                refine Stpx.eff rfl rfl (Eff.yld (Yld.extract rfl rfl rfl) rfl rfl) ?_
                refine ANx.take 16 rfl (by kernel_rfl) (by kernel_rfl) (by kernel_rfl) rfl rfl rfl (YldA.assign rfl) ?_
                refine ANx.take 17 rfl (by kernel_rfl) (by kernel_rfl) (by kernel_rfl) rfl rfl rfl (YldA.assign rfl) ?_
                rw [hpe]
                exact ANx.doneC () (by kernel_rfl) ⟨rfl, rfl, trivial⟩ ⟨rfl, trivial⟩ ⟨rfl, rfl, rfl, rfl, rfl, rfl, rfl, rfl, rfl, rfl, trivial⟩ ⟨rfl, trivial⟩
            · -- 12
              refine Stpx.effX rfl rfl (EffX.callW [] [] [] rfl rfl Tryd.call111 rfl (impl_stateOf_c (by assumption) (by omega) (by omega)) (.own rfl) rfl (fun _ => rfl) trivial rfl (fun _ => rfl) (fun _ => rfl)) ?_
              rintro _ ⟨⟨⟩, hu26, rfl⟩
              refine ANx.all (rs := [4]) (by kernel_rfl) rfl ⟨?_, trivial⟩
              refine Stpx.eff rfl rfl (Eff.yld (Yld.cat rfl rfl (by have := itoa_len (n := n) (by omega); simp only [List.length_cons, List.length_nil]; omega)) rfl rfl) ?_
              refine ANx.all (rs := [13]) (by kernel_rfl) rfl ⟨?_, trivial⟩
              refine Stpx.effX rfl rfl (EffX.callW [0] [] [0] rfl rfl Tryd.call110 rfl (impl_addVersion_c (by assumption) (by first | assumption | omega)) (.own rfl) rfl (fun _ => rfl) trivial rfl (fun _ => rfl) (fun _ => rfl)) ?_
              rintro _ ⟨⟨⟩, hu27, rfl⟩
              refine ANx.all (rs := [14, 15]) (by kernel_rfl) rfl ⟨?_, ?_, trivial⟩
              · -- 14
                refine Stpx.eff rfl rfl (Eff.yld (Yld.extract rfl rfl rfl) rfl rfl) ?_
                refine ANx.all (rs := [15]) (by kernel_rfl) rfl ⟨?_, trivial⟩
                refine Stpx.eff rfl rfl (Eff.yld (Yld.extract rfl rfl rfl) rfl rfl) ?_
                refine ANx.take 16 rfl (by kernel_rfl) (by kernel_rfl) (by kernel_rfl) rfl rfl rfl (YldA.assign rfl) ?_
                refine ANx.take 17 rfl (by kernel_rfl) (by kernel_rfl) (by kernel_rfl) rfl rfl rfl (YldA.assign rfl) ?_
                rw [hpe]
                exact ANx.doneC () (by kernel_rfl) ⟨rfl, rfl, trivial⟩ ⟨rfl, trivial⟩ ⟨rfl, rfl, rfl, rfl, rfl, rfl, rfl, rfl, rfl, rfl, trivial⟩ ⟨rfl, trivial⟩
              · -- 15
                refine Stpx.eff rfl rfl (Eff.yld (Yld.extract rfl rfl rfl) rfl rfl) ?_
                refine ANx.all (rs := [14]) (by kernel_rfl) rfl ⟨?_, trivial⟩
                refine Stpx.eff rfl rfl (Eff.yld (Yld.extract rfl rfl rfl) rfl rfl) ?_
                refine ANx.take 16 rfl (by kernel_rfl) (by kernel_rfl) (by kernel_rfl) rfl rfl rfl (YldA.assign rfl) ?_
                refine ANx.take 17 rfl (by kernel_rfl) (by kernel_rfl) (by kernel_rfl) rfl rfl rfl (YldA.assign rfl) ?_
                rw [hpe]
                exact ANx.doneC () (by kernel_rfl) ⟨rfl, rfl, trivial⟩ ⟨rfl, trivial⟩ ⟨rfl, rfl, rfl, rfl, rfl, rfl, rfl, rfl, rfl, rfl, trivial⟩ ⟨rfl, trivial⟩
        · -- 11
          refine Stpx.eff rfl rfl (Eff.yld (Yld.load Tryd.isAgg2 rfl rfl) rfl rfl) ?_
          refine ANx.all (rs := [3]) (by kernel_rfl) rfl ⟨?_, trivial⟩
          refine Stpx.eff rfl rfl (Eff.yld (Yld.call rfl rfl Tryd.call86 rfl rfl rfl (impl_Decimal_s (by omega) (by omega)) rfl) rfl rfl) ?_
          refine ANx.all (rs := [4, 12]) (by kernel_rfl) rfl ⟨?_, ?_, trivial⟩
          · -- 4
            refine Stpx.eff rfl rfl (Eff.yld (Yld.cat rfl rfl (by have := itoa_len (n := n) (by omega); simp only [List.length_cons, List.length_nil]; omega)) rfl rfl) ?_
            refine ANx.all (rs := [12]) (by kernel_rfl) rfl ⟨?_, trivial⟩
            refine Stpx.effX rfl rfl (EffX.callW [] [] [] rfl rfl Tryd.call111 rfl (impl_stateOf_c (by assumption) (by omega) (by omega)) (.own rfl) rfl (fun _ => rfl) trivial rfl (fun _ => rfl) (fun _ => rfl)) ?_
            rintro _ ⟨⟨⟩, hu26, rfl⟩
            refine ANx.all (rs := [13]) (by kernel_rfl) rfl ⟨?_, trivial⟩
            refine Stpx.effX rfl rfl (EffX.callW [0] [] [0] rfl rfl Tryd.call110 rfl (impl_addVersion_c (by assumption) (by first | assumption | omega)) (.own rfl) rfl (fun _ => rfl) trivial rfl (fun _ => rfl) (fun _ => rfl)) ?_
            rintro _ ⟨⟨⟩, hu27, rfl⟩
            refine ANx.all (rs := [14, 15]) (by kernel_rfl) rfl ⟨?_, ?_, trivial⟩
            · -- 14
              refine Stpx.eff rfl rfl (Eff.yld (Yld.extract rfl rfl rfl) rfl rfl) ?_
              refine ANx.all (rs := [15]) (by kernel_rfl) rfl ⟨?_, trivial⟩
              refine Stpx.eff rfl rfl (Eff.yld (Yld.extract rfl rfl rfl) rfl rfl) ?_
              refine ANx.take 16 rfl (by kernel_rfl) (by kernel_rfl) (by kernel_rfl) rfl rfl rfl (YldA.assign rfl) ?_
              refine ANx.take 17 rfl (by kernel_rfl) (by kernel_rfl) (by kernel_rfl) rfl rfl rfl (YldA.assign rfl) ?_
              rw [hpe]
              exact ANx.doneC () (by kernel_rfl) ⟨rfl, rfl, trivial⟩ ⟨rfl, trivial⟩ ⟨rfl, rfl, rfl, rfl, rfl, rfl, rfl, rfl, rfl, rfl, trivial⟩ ⟨rfl, trivial⟩
            · -- 15
              refine Stpx.eff rfl rfl (Eff.yld (Yld.extract rfl rfl rfl) rfl rfl) ?_
              refine ANx.all (rs := [14]) (by kernel_rfl) rfl ⟨?_, trivial⟩
              refine Stpx.eff rfl rfl (Eff.yld (Yld.extract rfl rfl rfl) rfl rfl) ?_
              refine ANx.take 16 rfl (by kernel_rfl) (by kernel_rfl) (by kernel_rfl) rfl rfl rfl (YldA.assign rfl) ?_
              refine ANx.take 17 rfl (by kernel_rfl) (by kernel_rfl) (by kernel_rfl) rfl rfl rfl (YldA.assign rfl) ?_
              rw [hpe]
              exact ANx.doneC () (by kernel_rfl) ⟨rfl, rfl, trivial⟩ ⟨rfl, trivial⟩ ⟨rfl, rfl, rfl, rfl, rfl, rfl, rfl, rfl, rfl, rfl, trivial⟩ ⟨rfl, trivial⟩
          · -- 12
            refine Stpx.effX rfl rfl (EffX.callW [] [] [] rfl rfl Tryd.call111 rfl (impl_stateOf_c (by assumption) (by omega) (by omega)) (.own rfl) rfl (fun _ => rfl) trivial rfl (fun _ => rfl) (fun _ => rfl)) ?_
            rintro _ ⟨⟨⟩, hu26, rfl⟩
            refine ANx.all (rs := [4]) (by kernel_rfl) rfl ⟨?_, trivial⟩
            refine Stpx.eff rfl rfl (Eff.yld (Yld.cat rfl rfl (by have := itoa_len (n := n) (by omega); simp only [List.length_cons, List.length_nil]; omega)) rfl rfl) ?_
            refine ANx.all (rs := [13]) (by kernel_rfl) rfl ⟨?_, trivial⟩
            refine Stpx.effX rfl rfl (EffX.callW [0] [] [0] rfl rfl Tryd.call110 rfl (impl_addVersion_c (by assumption) (by first | assumption | omega)) (.own rfl) rfl (fun _ => rfl) trivial rfl (fun _ => rfl) (fun _ => rfl)) ?_
            rintro _ ⟨⟨⟩, hu27, rfl⟩
            refine ANx.all (rs := [14, 15]) (by kernel_rfl) rfl ⟨?_, ?_, trivial⟩
            · -- 14
              refine Stpx.eff rfl rfl (Eff.yld (Yld.extract rfl rfl rfl) rfl rfl) ?_
              refine ANx.all (rs := [15]) (by kernel_rfl) rfl ⟨?_, trivial⟩
              refine Stpx.eff rfl rfl (Eff.yld (Yld.extract rfl rfl rfl) rfl rfl) ?_
              refine ANx.take 16 rfl (by kernel_rfl) (by kernel_rfl) (by kernel_rfl) rfl rfl rfl (YldA.assign rfl) ?_
              refine ANx.take 17 rfl (by kernel_rfl) (by kernel_rfl) (by kernel_rfl) rfl rfl rfl (YldA.assign rfl) ?_
              rw [hpe]
              exact ANx.doneC () (by kernel_rfl) ⟨rfl, rfl, trivial⟩ ⟨rfl, trivial⟩ ⟨rfl, rfl, rfl, rfl, rfl, rfl, rfl, rfl, rfl, rfl, trivial⟩ ⟨rfl, trivial⟩
            · -- 15
              refine Stpx.eff rfl rfl (Eff.yld (Yld.extract rfl rfl rfl) rfl rfl) ?_
              refine ANx.all (rs := [14]) (by kernel_rfl) rfl ⟨?_, trivial⟩
              refine Stpx.eff rfl rfl (Eff.yld (Yld.extract rfl rfl rfl) rfl rfl) ?_
              refine ANx.take 16 rfl (by kernel_rfl) (by kernel_rfl) (by kernel_rfl) rfl rfl rfl (YldA.assign rfl) ?_
              refine ANx.take 17 rfl (by kernel_rfl) (by kernel_rfl) (by kernel_rfl) rfl rfl rfl (YldA.assign rfl) ?_
              rw [hpe]
              exact ANx.doneC () (by kernel_rfl) ⟨rfl, rfl, trivial⟩ ⟨rfl, trivial⟩ ⟨rfl, rfl, rfl, rfl, rfl, rfl, rfl, rfl, rfl, rfl, trivial⟩ ⟨rfl, trivial⟩
      · -- behind
        rintro y
        refine FnE.ret () [0] [0] Tryd.results43 (RVs.cons (RV.tmp rfl) (RVs.cons (RV.tmp rfl) RVs.nil)) rfl rfl rfl ?_ ?_ ⟨⟨_, rfl, ?_⟩, trivial⟩
        · -- holds
          trivial
        · -- value
          refine tupE ?_; (try simp only [hM] at *); unfold undoVersion; first | (rw [if_pos hok, if_pos hin]; first | done | rfl) | (rw [if_pos hok, if_neg hno]; first | done | rfl) | (rw [if_neg hnk]; first | done | rfl)
        · -- thing 0
          exact nestE (by (try simp only [hM] at *); unfold undoVersion; first | (rw [if_pos hok, if_pos hin]; first | done | rfl) | (rw [if_pos hok, if_neg hno]; first | done | rfl) | (rw [if_neg hnk]; first | done | rfl))

end Go.Proofs.YtdgjlkdcklfieaaDoor
