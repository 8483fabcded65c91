/- Contracts of functions of the program, each by a walk of its text in the calculus V. -/
import Derived.Test.YtmnmaakaneaiaaaDoorK6
import Derived.Test.YtmnmaakaneaiaaaDoorK5
import Derived.Test.YtmnmaakaneaiaaaDoorK3

set_option linter.all false
set_option linter.unusedSimpArgs false
set_option linter.unnecessarySimpa false
set_option linter.unusedVariables false
namespace Go.Proofs.YtmnmaakaneaiaaaDoor
open Go Go.V

theorem impl_Decimal_c {n : Int} (h0 : -9223372036854775808 ≤ n) (h1 : n ≤ 9223372036854775807) :
    FnE (α := Unit) Tryd.prog 40 [.p (.v (.int .i64 n))] [(0, powR Tryd.prog)] [0] (fun _ => True) (fun _ => .p (.v (str (Lib.itoa n)))) (fun _ => [(0, powR Tryd.prog)]) := by
  refine FnE.intro Tryd.func40 rfl Tryd.ntmps40 rfl rfl (fun w0 F0 η φ w => ?_)
  refine AC.seq ?_
  refine AC.region ?_
  refine AO.yld _ (Yld.assign rfl) rfl rfl rfl ?_
  refine AO.nil ?_
  refine AC.seq ?_
  refine AC.region ?_
  refine AO.yld _ (Yld.move rfl) rfl rfl rfl ?_
  refine AO.callW (wantedN rfl) [0] [0] [0] rfl rfl Tryd.call60 rfl (fmt_fn ⟨Tryd.strconv_FormatInt_10⟩ (by omega) (by omega)) (.own rfl) rfl (fun _ => rfl) ⟨rfl, trivial⟩ rfl (fun _ => rfl) (fun _ => rfl) (fun _ _ => ?_)
  refine AO.yld _ (Yld.assign rfl) rfl rfl rfl ?_
  refine AO.nil ?_
  refine FnE.ret () [0] [0] Tryd.results40 (RVs.cons (RV.tmp rfl) RVs.nil) rfl rfl rfl ?_ ?_ ⟨⟨_, rfl, ?_⟩, trivial⟩
  · -- holds
    trivial
  · -- value
    rfl
  · -- thing 0
    first | rfl | exact vecE (by first | rfl | (simp_all; done) | grind) | (simp_all; done)

theorem impl_VersionText_c {x : Ver} (hg : VerGood x) :
    FnE (α := Unit) Tryd.prog 19 [.agg ((encVer x).map .p)] [(0, powR Tryd.prog)] [0] (fun _ => True) (fun _ => .p (.v (str (verText x)))) (fun _ => [(0, powR Tryd.prog)]) := by
  obtain ⟨g1, g2, g3⟩ := hg
  refine FnE.intro Tryd.func19 rfl Tryd.ntmps19 rfl rfl (fun w0 F0 η φ w => ?_)
  refine AC.seq ?_
  refine AC.region ?_
  refine AO.box 1 rfl rfl rfl rfl rfl ?_
  refine AO.yld _ (Yld.assign rfl) rfl rfl rfl ?_
  refine AO.nil ?_
  refine AC.seq ?_
  refine AC.seq ?_
  refine AC.region ?_
  refine AO.yld _ (Yld.fieldAddr Tryd.underlying48 rfl rfl Tryd.sizeOf2 rfl rfl rfl) rfl rfl rfl ?_
  refine AO.yld _ (Yld.load Tryd.isAgg2 rfl rfl) rfl rfl rfl ?_
  refine AO.yld _ (Yld.call rfl rfl Tryd.call38 rfl rfl rfl (impl_within_c) rfl) rfl rfl rfl ?_
  refine AO.yld _ (Yld.not rfl) rfl rfl rfl ?_
  refine AO.yld _ (Yld.move rfl) rfl rfl rfl ?_
  refine AO.splitAt 10 _ rfl (fun s10 => ?_) (fun s10 => ?_)
  · -- s10 True
    have hno : ¬ okVerT x = true := fun h => by obtain ⟨a1, a2, a3, a4⟩ := verT_lim h; have h9 := s10; simp only [Bool.not_eq_true', Bool.and_eq_false_iff, decide_eq_false_iff_not] at h9; omega
    refine AO.skipF rfl rfl rfl rfl rfl ?_
    refine AO.skipF rfl rfl rfl rfl rfl ?_
    refine AO.skipF rfl rfl rfl rfl rfl ?_
    refine AO.skipF rfl rfl rfl rfl rfl ?_
    refine AO.skipF rfl rfl rfl rfl rfl ?_
    refine AO.skipF rfl rfl rfl rfl rfl ?_
    refine AO.skipF rfl rfl rfl rfl rfl ?_
    refine AO.yld _ (Yld.pickT rfl rfl) rfl rfl rfl ?_
    refine AO.yld _ (Yld.move rfl) rfl rfl rfl ?_
    refine AO.skipF rfl rfl rfl rfl rfl ?_
    refine AO.skipF rfl rfl rfl rfl rfl ?_
    refine AO.skipF rfl rfl rfl rfl rfl ?_
    refine AO.skipF rfl rfl rfl rfl rfl ?_
    refine AO.yld _ (Yld.pickT rfl rfl) rfl rfl rfl ?_
    refine AO.yld _ (Yld.move rfl) rfl rfl rfl ?_
    refine AO.skipF rfl rfl rfl rfl rfl ?_
    refine AO.skipF rfl rfl rfl rfl rfl ?_
    refine AO.skipF rfl rfl rfl rfl rfl ?_
    refine AO.skipF rfl rfl rfl rfl rfl ?_
    refine AO.yld _ (Yld.pickT rfl rfl) rfl rfl rfl ?_
    refine AO.nil ?_
    refine AC.condT rfl ?_
    refine AC.seq ?_
    refine AC.region ?_
    refine AO.yld _ (Yld.assign rfl) rfl rfl rfl ?_
    refine AO.nil ?_
    refine FnE.ret () [0] [0] Tryd.results19 (RVs.cons (RV.tmp rfl) RVs.nil) rfl rfl rfl ?_ ?_ ⟨⟨_, rfl, ?_⟩, trivial⟩
    · -- holds
      trivial
    · -- value
      first
        | (unfold verText memoText; rw [if_pos hok, if_pos hmm, List.append_nil]; first | done | rfl)
        | (unfold verText memoText; rw [if_pos hok, if_pos hmm]; simp; done)
        | (unfold verText memoText; rw [if_pos hok, if_neg hmm]; done)
        | (unfold verText memoText; rw [if_pos hok, if_neg hmm]; rfl)
        | (unfold verText; rw [if_neg hno]; rfl)
        | (unfold verText; rw [if_neg hno]; done)
    · -- thing 0
      first | rfl | exact vecE (by first | rfl | (simp_all; done) | grind) | (simp_all; done)
  · -- s10 False
    have h1 : 1 ≤ x.number ∧ x.number ≤ 32 := by simpa using s10
    refine AO.yldG _ (Yld.fieldAddr Tryd.underlying48 rfl rfl Tryd.sizeOf2 rfl rfl rfl) rfl rfl rfl rfl rfl ?_
    refine AO.yldG _ (Yld.load Tryd.isAgg2 rfl rfl) rfl rfl rfl rfl rfl ?_
    refine AO.yldG _ (Yld.fieldAddr Tryd.underlying48 rfl rfl Tryd.sizeOf2 rfl rfl rfl) rfl rfl rfl rfl rfl ?_
    refine AO.yldG _ (Yld.load Tryd.isAgg2 rfl rfl) rfl rfl rfl rfl rfl ?_
    refine AO.yldG _ (Yld.sub rfl rfl (by omega) (by omega)) rfl rfl rfl rfl rfl ?_
    refine AO.yldG _ (Yld.call rfl rfl Tryd.call38 rfl rfl rfl (impl_within_c) rfl) rfl rfl rfl rfl rfl ?_
    refine AO.yldG _ (Yld.not rfl) rfl rfl rfl rfl rfl ?_
    refine AO.yld _ (Yld.pickF rfl rfl) rfl rfl rfl ?_
    refine AO.yld _ (Yld.move rfl) rfl rfl rfl ?_
    refine AO.splitAt 19 _ rfl (fun s19 => ?_) (fun s19 => ?_)
    · -- s19 True
      have hno : ¬ okVerT x = true := fun h => by obtain ⟨a1, a2, a3, a4⟩ := verT_lim h; have h9 := s19; simp only [Bool.not_eq_true', Bool.and_eq_false_iff, decide_eq_false_iff_not] at h9; omega
      refine AO.skipF rfl rfl rfl rfl rfl ?_
      refine AO.skipF rfl rfl rfl rfl rfl ?_
      refine AO.skipF rfl rfl rfl rfl rfl ?_
      refine AO.skipF rfl rfl rfl rfl rfl ?_
      refine AO.yld _ (Yld.pickT rfl rfl) rfl rfl rfl ?_
      refine AO.yld _ (Yld.move rfl) rfl rfl rfl ?_
      refine AO.skipF rfl rfl rfl rfl rfl ?_
      refine AO.skipF rfl rfl rfl rfl rfl ?_
      refine AO.skipF rfl rfl rfl rfl rfl ?_
      refine AO.skipF rfl rfl rfl rfl rfl ?_
      refine AO.yld _ (Yld.pickT rfl rfl) rfl rfl rfl ?_
      refine AO.nil ?_
      refine AC.condT rfl ?_
      refine AC.seq ?_
      refine AC.region ?_
      refine AO.yld _ (Yld.assign rfl) rfl rfl rfl ?_
      refine AO.nil ?_
      refine FnE.ret () [0] [0] Tryd.results19 (RVs.cons (RV.tmp rfl) RVs.nil) rfl rfl rfl ?_ ?_ ⟨⟨_, rfl, ?_⟩, trivial⟩
      · -- holds
        trivial
      · -- value
        first
          | (unfold verText memoText; rw [if_pos hok, if_pos hmm, List.append_nil]; first | done | rfl)
          | (unfold verText memoText; rw [if_pos hok, if_pos hmm]; simp; done)
          | (unfold verText memoText; rw [if_pos hok, if_neg hmm]; done)
          | (unfold verText memoText; rw [if_pos hok, if_neg hmm]; rfl)
          | (unfold verText; rw [if_neg hno]; rfl)
          | (unfold verText; rw [if_neg hno]; done)
      · -- thing 0
        first | rfl | exact vecE (by first | rfl | (simp_all; done) | grind) | (simp_all; done)
    · -- s19 False
      have h2 : 0 ≤ x.parent ∧ x.parent ≤ x.number - 1 := by have h9 := s19; simp only [Bool.not_eq_false', Bool.and_eq_true, decide_eq_true_eq] at h9; exact h9
      refine AO.yldG _ (Yld.fieldAddr Tryd.underlying48 rfl rfl Tryd.sizeOf9 rfl rfl rfl) rfl rfl rfl rfl rfl ?_
      refine AO.yldG _ (Yld.load Tryd.isAgg9 rfl rfl) rfl rfl rfl rfl rfl ?_
      refine AO.yldG _ (Yld.call rfl rfl Tryd.call37 rfl rfl rfl (impl_validMemo_c (by first | assumption | omega)) rfl) rfl rfl rfl rfl rfl ?_
      refine AO.yldG _ (Yld.not rfl) rfl rfl rfl rfl rfl ?_
      refine AO.yld _ (Yld.pickF rfl rfl) rfl rfl rfl ?_
      refine AO.yld _ (Yld.move rfl) rfl rfl rfl ?_
      refine AO.splitAt 25 _ rfl (fun s25 => ?_) (fun s25 => ?_)
      · -- s25 True
        have hno : ¬ okVerT x = true := fun h => by obtain ⟨a1, a2, a3, a4⟩ := verT_lim h; have h9 := s25; simp [a3] at h9
        refine AO.skipF rfl rfl rfl rfl rfl ?_
        refine AO.skipF rfl rfl rfl rfl rfl ?_
        refine AO.skipF rfl rfl rfl rfl rfl ?_
        refine AO.skipF rfl rfl rfl rfl rfl ?_
        refine AO.yld _ (Yld.pickT rfl rfl) rfl rfl rfl ?_
        refine AO.nil ?_
        refine AC.condT rfl ?_
        refine AC.seq ?_
        refine AC.region ?_
        refine AO.yld _ (Yld.assign rfl) rfl rfl rfl ?_
        refine AO.nil ?_
        refine FnE.ret () [0] [0] Tryd.results19 (RVs.cons (RV.tmp rfl) RVs.nil) rfl rfl rfl ?_ ?_ ⟨⟨_, rfl, ?_⟩, trivial⟩
        · -- holds
          trivial
        · -- value
          first
            | (unfold verText memoText; rw [if_pos hok, if_pos hmm, List.append_nil]; first | done | rfl)
            | (unfold verText memoText; rw [if_pos hok, if_pos hmm]; simp; done)
            | (unfold verText memoText; rw [if_pos hok, if_neg hmm]; done)
            | (unfold verText memoText; rw [if_pos hok, if_neg hmm]; rfl)
            | (unfold verText; rw [if_neg hno]; rfl)
            | (unfold verText; rw [if_neg hno]; done)
        · -- thing 0
          first | rfl | exact vecE (by first | rfl | (simp_all; done) | grind) | (simp_all; done)
      · -- s25 False
        have h3 : okMemo x.memo = true := by simpa using s25
        refine AO.yldG _ (Yld.fieldAddr Tryd.underlying48 rfl rfl Tryd.sizeOf26 rfl rfl rfl) rfl rfl rfl rfl rfl ?_
        refine AO.yldG _ (Yld.load Tryd.isAgg26 rfl rfl) rfl rfl rfl rfl rfl ?_
        refine AO.yldG _ (Yld.call rfl rfl Tryd.call24 rfl rfl rfl (impl_ValidState_c (by first | assumption | omega) (by assumption)) rfl) rfl rfl rfl rfl rfl ?_
        refine AO.yldG _ (Yld.not rfl) rfl rfl rfl rfl rfl ?_
        refine AO.yld _ (Yld.pickF rfl rfl) rfl rfl rfl ?_
        refine AO.nil ?_
        refine AC.cond _ rfl (fun c30 => ?_) (fun c30 => ?_)
        · -- c30 True
          have hno : ¬ okVerT x = true := fun h => by obtain ⟨a1, a2, a3, a4⟩ := verT_lim h; have h9 := c30; simp [a4] at h9
          refine AC.seq ?_
          refine AC.region ?_
          refine AO.yld _ (Yld.assign rfl) rfl rfl rfl ?_
          refine AO.nil ?_
          refine FnE.ret () [0] [0] Tryd.results19 (RVs.cons (RV.tmp rfl) RVs.nil) rfl rfl rfl ?_ ?_ ⟨⟨_, rfl, ?_⟩, trivial⟩
          · -- holds
            trivial
          · -- value
            first
              | (unfold verText memoText; rw [if_pos hok, if_pos hmm, List.append_nil]; first | done | rfl)
              | (unfold verText memoText; rw [if_pos hok, if_pos hmm]; simp; done)
              | (unfold verText memoText; rw [if_pos hok, if_neg hmm]; done)
              | (unfold verText memoText; rw [if_pos hok, if_neg hmm]; rfl)
              | (unfold verText; rw [if_neg hno]; rfl)
              | (unfold verText; rw [if_neg hno]; done)
          · -- thing 0
            first | rfl | exact vecE (by first | rfl | (simp_all; done) | grind) | (simp_all; done)
        · -- c30 False
          have h4 : okState x.state = true := by simpa using c30
          have hok : okVerT x = true := by simp only [okVerT, Bool.and_eq_true, decide_eq_true_eq]; exact ⟨⟨⟨h1, h2⟩, h3⟩, h4⟩
          have hil := itoa_len (n := x.number) (by omega)
          have hil2 := itoa_len (n := x.parent) (by omega)
          have hsl := state_len h4
          have hvl := verTo_len hok x.state.length
          refine AC.skip ?_
          refine AC.seq ?_
          apply AC.drawAnyC (α := Unit) [(0, _), (1, _), (2, _), (6, _), (7, _), (8, _), (9, _), (10, _), (11, _), (12, _), (13, _), (14, _), (15, _), (16, _), (17, _), (18, _), (19, _), (20, _), (21, _), (22, _), (23, _), (24, _), (25, _), (26, _), (27, _), (28, _), (29, _), (30, _)] [(0, _), (1, _), (900, _)] (fun y9 => [(3, .p (.v (str (Lib.itoa x.number ++ [60] ++ Lib.itoa x.parent))))]) (fun y9 => []) (by kernel_rfl)
          · -- orders
            refine ANx.take 0 rfl (by kernel_rfl) (by kernel_rfl) (by kernel_rfl) rfl rfl rfl (YldA.fieldAddr Tryd.underlying48 rfl rfl Tryd.sizeOf2 rfl rfl rfl) ?_
            refine ANx.take 4 rfl (by kernel_rfl) (by kernel_rfl) (by kernel_rfl) rfl rfl rfl (YldA.fieldAddr Tryd.underlying48 rfl rfl Tryd.sizeOf2 rfl rfl rfl) ?_
            refine ANx.all (rs := [1, 5]) (by kernel_rfl) rfl ⟨?_, ?_, trivial⟩
            · -- 1
              refine Stpx.eff rfl rfl (Eff.yld (Yld.load Tryd.isAgg2 rfl rfl) rfl rfl) ?_
              refine ANx.all (rs := [2, 5]) (by kernel_rfl) rfl ⟨?_, ?_, trivial⟩
              · -- 2
                refine Stpx.effX rfl rfl (EffX.callW [0] [0] [0] rfl rfl Tryd.call40 rfl (impl_Decimal_c (by omega) (by omega)) (.own rfl) rfl (fun _ => rfl) ⟨rfl, trivial⟩ rfl (fun _ => rfl) (fun _ => rfl)) ?_
                rintro _ ⟨⟨⟩, hu33, rfl⟩
                refine ANx.all (rs := [3, 5]) (by kernel_rfl) rfl ⟨?_, ?_, trivial⟩
                · -- 3
                  refine Stpx.eff rfl rfl (Eff.yld (Yld.cat rfl rfl (by first | (simp only [List.length_append, List.length_cons, List.length_nil]; omega) | omega)) rfl rfl) ?_
                  refine ANx.all (rs := [5]) (by kernel_rfl) rfl ⟨?_, trivial⟩
                  refine Stpx.eff rfl rfl (Eff.yld (Yld.load Tryd.isAgg2 rfl rfl) rfl rfl) ?_
                  refine ANx.all (rs := [6]) (by kernel_rfl) rfl ⟨?_, trivial⟩
                  refine Stpx.effX rfl rfl (EffX.callW [0] [0] [0] rfl rfl Tryd.call40 rfl (impl_Decimal_c (by omega) (by omega)) (.own rfl) rfl (fun _ => rfl) ⟨rfl, trivial⟩ rfl (fun _ => rfl) (fun _ => rfl)) ?_
                  rintro _ ⟨⟨⟩, hu37, rfl⟩
                  refine ANx.all (rs := [7]) (by kernel_rfl) rfl ⟨?_, trivial⟩
                  refine Stpx.eff rfl rfl (Eff.yld (Yld.cat rfl rfl (by first | (simp only [List.length_append, List.length_cons, List.length_nil]; omega) | omega)) rfl rfl) ?_
                  refine ANx.take 8 rfl (by kernel_rfl) (by kernel_rfl) (by kernel_rfl) rfl rfl rfl (YldA.assign rfl) ?_
                  exact ANx.doneC () (by kernel_rfl) ⟨rfl, trivial⟩ trivial ⟨rfl, rfl, rfl, rfl, rfl, rfl, rfl, rfl, rfl, rfl, rfl, rfl, rfl, rfl, rfl, rfl, rfl, rfl, rfl, rfl, rfl, rfl, rfl, rfl, rfl, rfl, rfl, rfl, trivial⟩ ⟨rfl, rfl, rfl, trivial⟩
                · -- 5
                  refine Stpx.eff rfl rfl (Eff.yld (Yld.load Tryd.isAgg2 rfl rfl) rfl rfl) ?_
                  refine ANx.all (rs := [3, 6]) (by kernel_rfl) rfl ⟨?_, ?_, trivial⟩
                  · -- 3
                    refine Stpx.eff rfl rfl (Eff.yld (Yld.cat rfl rfl (by first | (simp only [List.length_append, List.length_cons, List.length_nil]; omega) | omega)) rfl rfl) ?_
                    refine ANx.all (rs := [6]) (by kernel_rfl) rfl ⟨?_, trivial⟩
                    refine Stpx.effX rfl rfl (EffX.callW [0] [0] [0] rfl rfl Tryd.call40 rfl (impl_Decimal_c (by omega) (by omega)) (.own rfl) rfl (fun _ => rfl) ⟨rfl, trivial⟩ rfl (fun _ => rfl) (fun _ => rfl)) ?_
                    rintro _ ⟨⟨⟩, hu37, rfl⟩
                    refine ANx.all (rs := [7]) (by kernel_rfl) rfl ⟨?_, trivial⟩
                    refine Stpx.eff rfl rfl (Eff.yld (Yld.cat rfl rfl (by first | (simp only [List.length_append, List.length_cons, List.length_nil]; omega) | omega)) rfl rfl) ?_
                    refine ANx.take 8 rfl (by kernel_rfl) (by kernel_rfl) (by kernel_rfl) rfl rfl rfl (YldA.assign rfl) ?_
                    exact ANx.doneC () (by kernel_rfl) ⟨rfl, trivial⟩ trivial ⟨rfl, rfl, rfl, rfl, rfl, rfl, rfl, rfl, rfl, rfl, rfl, rfl, rfl, rfl, rfl, rfl, rfl, rfl, rfl, rfl, rfl, rfl, rfl, rfl, rfl, rfl, rfl, rfl, trivial⟩ ⟨rfl, rfl, rfl, trivial⟩
                  · -- 6
                    refine Stpx.effX rfl rfl (EffX.callW [0] [0] [0] rfl rfl Tryd.call40 rfl (impl_Decimal_c (by omega) (by omega)) (.own rfl) rfl (fun _ => rfl) ⟨rfl, trivial⟩ rfl (fun _ => rfl) (fun _ => rfl)) ?_
                    rintro _ ⟨⟨⟩, hu37, rfl⟩
                    refine ANx.all (rs := [3]) (by kernel_rfl) rfl ⟨?_, trivial⟩
                    refine Stpx.eff rfl rfl (Eff.yld (Yld.cat rfl rfl (by first | (simp only [List.length_append, List.length_cons, List.length_nil]; omega) | omega)) rfl rfl) ?_
                    refine ANx.all (rs := [7]) (by kernel_rfl) rfl ⟨?_, trivial⟩
                    refine Stpx.eff rfl rfl (Eff.yld (Yld.cat rfl rfl (by first | (simp only [List.length_append, List.length_cons, List.length_nil]; omega) | omega)) rfl rfl) ?_
                    refine ANx.take 8 rfl (by kernel_rfl) (by kernel_rfl) (by kernel_rfl) rfl rfl rfl (YldA.assign rfl) ?_
                    exact ANx.doneC () (by kernel_rfl) ⟨rfl, trivial⟩ trivial ⟨rfl, rfl, rfl, rfl, rfl, rfl, rfl, rfl, rfl, rfl, rfl, rfl, rfl, rfl, rfl, rfl, rfl, rfl, rfl, rfl, rfl, rfl, rfl, rfl, rfl, rfl, rfl, rfl, trivial⟩ ⟨rfl, rfl, rfl, trivial⟩
              · -- 5
                refine Stpx.eff rfl rfl (Eff.yld (Yld.load Tryd.isAgg2 rfl rfl) rfl rfl) ?_
                refine ANx.all (rs := [2]) (by kernel_rfl) rfl ⟨?_, trivial⟩
                refine Stpx.effX rfl rfl (EffX.callW [0] [0] [0] rfl rfl Tryd.call40 rfl (impl_Decimal_c (by omega) (by omega)) (.own rfl) rfl (fun _ => rfl) ⟨rfl, trivial⟩ rfl (fun _ => rfl) (fun _ => rfl)) ?_
                rintro _ ⟨⟨⟩, hu33, rfl⟩
                refine ANx.all (rs := [3, 6]) (by kernel_rfl) rfl ⟨?_, ?_, trivial⟩
                · -- 3
                  refine Stpx.eff rfl rfl (Eff.yld (Yld.cat rfl rfl (by first | (simp only [List.length_append, List.length_cons, List.length_nil]; omega) | omega)) rfl rfl) ?_
                  refine ANx.all (rs := [6]) (by kernel_rfl) rfl ⟨?_, trivial⟩
                  refine Stpx.effX rfl rfl (EffX.callW [0] [0] [0] rfl rfl Tryd.call40 rfl (impl_Decimal_c (by omega) (by omega)) (.own rfl) rfl (fun _ => rfl) ⟨rfl, trivial⟩ rfl (fun _ => rfl) (fun _ => rfl)) ?_
                  rintro _ ⟨⟨⟩, hu37, rfl⟩
                  refine ANx.all (rs := [7]) (by kernel_rfl) rfl ⟨?_, trivial⟩
                  refine Stpx.eff rfl rfl (Eff.yld (Yld.cat rfl rfl (by first | (simp only [List.length_append, List.length_cons, List.length_nil]; omega) | omega)) rfl rfl) ?_
                  refine ANx.take 8 rfl (by kernel_rfl) (by kernel_rfl) (by kernel_rfl) rfl rfl rfl (YldA.assign rfl) ?_
                  exact ANx.doneC () (by kernel_rfl) ⟨rfl, trivial⟩ trivial ⟨rfl, rfl, rfl, rfl, rfl, rfl, rfl, rfl, rfl, rfl, rfl, rfl, rfl, rfl, rfl, rfl, rfl, rfl, rfl, rfl, rfl, rfl, rfl, rfl, rfl, rfl, rfl, rfl, trivial⟩ ⟨rfl, rfl, rfl, trivial⟩
                · -- 6
                  refine Stpx.effX rfl rfl (EffX.callW [0] [0] [0] rfl rfl Tryd.call40 rfl (impl_Decimal_c (by omega) (by omega)) (.own rfl) rfl (fun _ => rfl) ⟨rfl, trivial⟩ rfl (fun _ => rfl) (fun _ => rfl)) ?_
                  rintro _ ⟨⟨⟩, hu37, rfl⟩
                  refine ANx.all (rs := [3]) (by kernel_rfl) rfl ⟨?_, trivial⟩
                  refine Stpx.eff rfl rfl (Eff.yld (Yld.cat rfl rfl (by first | (simp only [List.length_append, List.length_cons, List.length_nil]; omega) | omega)) rfl rfl) ?_
                  refine ANx.all (rs := [7]) (by kernel_rfl) rfl ⟨?_, trivial⟩
                  refine Stpx.eff rfl rfl (Eff.yld (Yld.cat rfl rfl (by first | (simp only [List.length_append, List.length_cons, List.length_nil]; omega) | omega)) rfl rfl) ?_
                  refine ANx.take 8 rfl (by kernel_rfl) (by kernel_rfl) (by kernel_rfl) rfl rfl rfl (YldA.assign rfl) ?_
                  exact ANx.doneC () (by kernel_rfl) ⟨rfl, trivial⟩ trivial ⟨rfl, rfl, rfl, rfl, rfl, rfl, rfl, rfl, rfl, rfl, rfl, rfl, rfl, rfl, rfl, rfl, rfl, rfl, rfl, rfl, rfl, rfl, rfl, rfl, rfl, rfl, rfl, rfl, trivial⟩ ⟨rfl, rfl, rfl, trivial⟩
            · -- 5
              refine Stpx.eff rfl rfl (Eff.yld (Yld.load Tryd.isAgg2 rfl rfl) rfl rfl) ?_
              refine ANx.all (rs := [1]) (by kernel_rfl) rfl ⟨?_, trivial⟩
              refine Stpx.eff rfl rfl (Eff.yld (Yld.load Tryd.isAgg2 rfl rfl) rfl rfl) ?_
              refine ANx.all (rs := [2]) (by kernel_rfl) rfl ⟨?_, trivial⟩
              refine Stpx.effX rfl rfl (EffX.callW [0] [0] [0] rfl rfl Tryd.call40 rfl (impl_Decimal_c (by omega) (by omega)) (.own rfl) rfl (fun _ => rfl) ⟨rfl, trivial⟩ rfl (fun _ => rfl) (fun _ => rfl)) ?_
              rintro _ ⟨⟨⟩, hu33, rfl⟩
              refine ANx.all (rs := [3, 6]) (by kernel_rfl) rfl ⟨?_, ?_, trivial⟩
              · -- 3
                refine Stpx.eff rfl rfl (Eff.yld (Yld.cat rfl rfl (by first | (simp only [List.length_append, List.length_cons, List.length_nil]; omega) | omega)) rfl rfl) ?_
                refine ANx.all (rs := [6]) (by kernel_rfl) rfl ⟨?_, trivial⟩
                refine Stpx.effX rfl rfl (EffX.callW [0] [0] [0] rfl rfl Tryd.call40 rfl (impl_Decimal_c (by omega) (by omega)) (.own rfl) rfl (fun _ => rfl) ⟨rfl, trivial⟩ rfl (fun _ => rfl) (fun _ => rfl)) ?_
                rintro _ ⟨⟨⟩, hu37, rfl⟩
                refine ANx.all (rs := [7]) (by kernel_rfl) rfl ⟨?_, trivial⟩
                refine Stpx.eff rfl rfl (Eff.yld (Yld.cat rfl rfl (by first | (simp only [List.length_append, List.length_cons, List.length_nil]; omega) | omega)) rfl rfl) ?_
                refine ANx.take 8 rfl (by kernel_rfl) (by kernel_rfl) (by kernel_rfl) rfl rfl rfl (YldA.assign rfl) ?_
                exact ANx.doneC () (by kernel_rfl) ⟨rfl, trivial⟩ trivial ⟨rfl, rfl, rfl, rfl, rfl, rfl, rfl, rfl, rfl, rfl, rfl, rfl, rfl, rfl, rfl, rfl, rfl, rfl, rfl, rfl, rfl, rfl, rfl, rfl, rfl, rfl, rfl, rfl, trivial⟩ ⟨rfl, rfl, rfl, trivial⟩
              · -- 6
                refine Stpx.effX rfl rfl (EffX.callW [0] [0] [0] rfl rfl Tryd.call40 rfl (impl_Decimal_c (by omega) (by omega)) (.own rfl) rfl (fun _ => rfl) ⟨rfl, trivial⟩ rfl (fun _ => rfl) (fun _ => rfl)) ?_
                rintro _ ⟨⟨⟩, hu37, rfl⟩
                refine ANx.all (rs := [3]) (by kernel_rfl) rfl ⟨?_, trivial⟩
                refine Stpx.eff rfl rfl (Eff.yld (Yld.cat rfl rfl (by first | (simp only [List.length_append, List.length_cons, List.length_nil]; omega) | omega)) rfl rfl) ?_
                refine ANx.all (rs := [7]) (by kernel_rfl) rfl ⟨?_, trivial⟩
                refine Stpx.eff rfl rfl (Eff.yld (Yld.cat rfl rfl (by first | (simp only [List.length_append, List.length_cons, List.length_nil]; omega) | omega)) rfl rfl) ?_
                refine ANx.take 8 rfl (by kernel_rfl) (by kernel_rfl) (by kernel_rfl) rfl rfl rfl (YldA.assign rfl) ?_
                exact ANx.doneC () (by kernel_rfl) ⟨rfl, trivial⟩ trivial ⟨rfl, rfl, rfl, rfl, rfl, rfl, rfl, rfl, rfl, rfl, rfl, rfl, rfl, rfl, rfl, rfl, rfl, rfl, rfl, rfl, rfl, rfl, rfl, rfl, rfl, rfl, rfl, rfl, trivial⟩ ⟨rfl, rfl, rfl, trivial⟩
          · -- behind
            rintro y9
            refine AC.seq ?_
            refine AC.seq ?_
            refine AC.region ?_
            refine AO.yld _ (Yld.fieldAddr Tryd.underlying48 rfl rfl Tryd.sizeOf26 rfl rfl rfl) rfl rfl rfl ?_
            refine AO.yld _ (Yld.load Tryd.isAgg26 rfl rfl) rfl rfl rfl ?_
            refine AO.yld _ (Yld.len Tryd.underlying26 rfl rfl) rfl rfl rfl ?_
            refine AO.yld _ (Yld.move rfl) rfl rfl rfl ?_
            refine AO.nil ?_
            refine AC.block ?_
            refine AC.loopC [(1, _), (2, _), (40, _), (41, _)] [(0, _), (1, _), (900, _)] (fun (k : Nat) => [(42, .p (.v (.int .i64 (k : Int)))), (3, .p (.v (str (verTo x k))))]) (fun (k : Nat) => []) (fun (k : Nat) => k ≤ x.state.length) (fun (k : Nat) => x.state.length - k) 0 ⟨rfl, rfl, rfl, rfl, trivial⟩ ⟨rfl, rfl, rfl, trivial⟩ ⟨rfl, by rw [verTo_zero]; rfl, trivial⟩ trivial ?_ (fun k hJ => ?_)
            · exact Nat.zero_le _
            · -- round
              refine AC.seq ?_
              refine AC.region ?_
              refine AO.yld _ (Yld.int rfl rfl rfl) rfl rfl rfl ?_
              refine AO.nil ?_
              refine AC.seq ?_
              refine AC.cond _ rfl (fun c43 => ?_) (fun c43 => ?_)
              · -- c43 True
                have hk := lt_of_decM c43
                obtain ⟨y, hx⟩ := get_some hk
                have hrow := map_row (enc := encNV) hx
                have hy := set_lim8 h4 (List.mem_of_getElem? hx)
                have hil3 := itoa_len (n := y.val) (by omega)
                have hvk := verTo_len hok k
                refine AC.skip ?_
                refine AC.seq ?_
                refine AC.block ?_
                refine AC.seq ?_
                refine AC.region ?_
                refine AO.yld _ (Yld.indexSl Tryd.underlying26 Tryd.sizeOf57 rfl rfl hrow rfl) rfl rfl rfl ?_
                refine AO.yld _ (Yld.loadAgg Tryd.isAgg57 Tryd.sizeOf57 rfl rfl rfl rfl) rfl rfl rfl ?_
                refine AO.alloc 2 Tryd.zeroValue57 rfl rfl rfl ?_
                refine AO.store Tryd.sizeOf57 rfl rfl rfl rfl rfl rfl ?_
                refine AO.nil ?_
                apply AC.drawAnyC (α := Unit) [(1, _), (2, _), (5, _), (40, _), (41, _), (42, _), (43, _), (44, _), (45, _)] [(0, _), (1, _), (2, _), (900, _)] (fun y9 => [(3, .p (.v (str (verTo x k ++ setText y))))]) (fun y9 => []) (by kernel_rfl)
                · -- orders
                  refine ANx.take 0 rfl (by kernel_rfl) (by kernel_rfl) (by kernel_rfl) rfl rfl rfl (YldA.move rfl) ?_
                  refine ANx.take 1 rfl (by kernel_rfl) (by kernel_rfl) (by kernel_rfl) rfl rfl rfl (YldA.fieldAddr Tryd.underlying57 rfl rfl Tryd.sizeOf9 rfl rfl rfl) ?_
                  refine ANx.take 5 rfl (by kernel_rfl) (by kernel_rfl) (by kernel_rfl) rfl rfl rfl (YldA.fieldAddr Tryd.underlying57 rfl rfl Tryd.sizeOf2 rfl rfl rfl) ?_
                  refine ANx.all (rs := [2, 6]) (by kernel_rfl) rfl ⟨?_, ?_, trivial⟩
                  · -- 2
                    refine Stpx.eff rfl rfl (Eff.yld (Yld.load Tryd.isAgg9 rfl rfl) rfl rfl) ?_
                    refine ANx.all (rs := [3, 6]) (by kernel_rfl) rfl ⟨?_, ?_, trivial⟩
                    · -- 3
                      refine Stpx.eff rfl rfl (Eff.yld (Yld.cat rfl rfl (by first | (simp only [List.length_append, List.length_cons, List.length_nil]; omega) | omega)) rfl rfl) ?_
                      refine ANx.all (rs := [4, 6]) (by kernel_rfl) rfl ⟨?_, ?_, trivial⟩
                      · -- 4
                        refine Stpx.eff rfl rfl (Eff.yld (Yld.cat rfl rfl (by first | (simp only [List.length_append, List.length_cons, List.length_nil]; omega) | omega)) rfl rfl) ?_
                        refine ANx.all (rs := [6]) (by kernel_rfl) rfl ⟨?_, trivial⟩
                        refine Stpx.eff rfl rfl (Eff.yld (Yld.load Tryd.isAgg2 rfl rfl) rfl rfl) ?_
                        refine ANx.all (rs := [7]) (by kernel_rfl) rfl ⟨?_, trivial⟩
                        refine Stpx.effX rfl rfl (EffX.callW [0] [0] [0] rfl rfl Tryd.call40 rfl (impl_Decimal_c (by omega) (by omega)) (.own rfl) rfl (fun _ => rfl) ⟨rfl, trivial⟩ rfl (fun _ => rfl) (fun _ => rfl)) ?_
                        rintro _ ⟨⟨⟩, hu53, rfl⟩
                        refine ANx.all (rs := [8]) (by kernel_rfl) rfl ⟨?_, trivial⟩
                        refine Stpx.eff rfl rfl (Eff.yld (Yld.cat rfl rfl (by first | (simp only [List.length_append, List.length_cons, List.length_nil]; omega) | omega)) rfl rfl) ?_
                        refine ANx.all (rs := [9]) (by kernel_rfl) rfl ⟨?_, trivial⟩
                        refine Stpx.eff rfl rfl (Eff.yld (Yld.cat rfl rfl (by first | (simp only [List.length_append, List.length_cons, List.length_nil]; omega) | omega)) rfl rfl) ?_
                        refine ANx.take 10 rfl (by kernel_rfl) (by kernel_rfl) (by kernel_rfl) rfl rfl rfl (YldA.assign rfl) ?_
                        exact ANx.doneC () (by kernel_rfl) ⟨rfl, trivial⟩ trivial ⟨rfl, rfl, rfl, rfl, rfl, rfl, rfl, rfl, rfl, trivial⟩ ⟨rfl, rfl, rfl, rfl, trivial⟩
                      · -- 6
                        refine Stpx.eff rfl rfl (Eff.yld (Yld.load Tryd.isAgg2 rfl rfl) rfl rfl) ?_
                        refine ANx.all (rs := [4, 7]) (by kernel_rfl) rfl ⟨?_, ?_, trivial⟩
                        · -- 4
                          refine Stpx.eff rfl rfl (Eff.yld (Yld.cat rfl rfl (by first | (simp only [List.length_append, List.length_cons, List.length_nil]; omega) | omega)) rfl rfl) ?_
                          refine ANx.all (rs := [7]) (by kernel_rfl) rfl ⟨?_, trivial⟩
                          refine Stpx.effX rfl rfl (EffX.callW [0] [0] [0] rfl rfl Tryd.call40 rfl (impl_Decimal_c (by omega) (by omega)) (.own rfl) rfl (fun _ => rfl) ⟨rfl, trivial⟩ rfl (fun _ => rfl) (fun _ => rfl)) ?_
                          rintro _ ⟨⟨⟩, hu53, rfl⟩
                          refine ANx.all (rs := [8]) (by kernel_rfl) rfl ⟨?_, trivial⟩
                          refine Stpx.eff rfl rfl (Eff.yld (Yld.cat rfl rfl (by first | (simp only [List.length_append, List.length_cons, List.length_nil]; omega) | omega)) rfl rfl) ?_
                          refine ANx.all (rs := [9]) (by kernel_rfl) rfl ⟨?_, trivial⟩
                          refine Stpx.eff rfl rfl (Eff.yld (Yld.cat rfl rfl (by first | (simp only [List.length_append, List.length_cons, List.length_nil]; omega) | omega)) rfl rfl) ?_
                          refine ANx.take 10 rfl (by kernel_rfl) (by kernel_rfl) (by kernel_rfl) rfl rfl rfl (YldA.assign rfl) ?_
                          exact ANx.doneC () (by kernel_rfl) ⟨rfl, trivial⟩ trivial ⟨rfl, rfl, rfl, rfl, rfl, rfl, rfl, rfl, rfl, trivial⟩ ⟨rfl, rfl, rfl, rfl, trivial⟩
                        · -- 7
                          refine Stpx.effX rfl rfl (EffX.callW [0] [0] [0] rfl rfl Tryd.call40 rfl (impl_Decimal_c (by omega) (by omega)) (.own rfl) rfl (fun _ => rfl) ⟨rfl, trivial⟩ rfl (fun _ => rfl) (fun _ => rfl)) ?_
                          rintro _ ⟨⟨⟩, hu53, rfl⟩
                          refine ANx.all (rs := [4]) (by kernel_rfl) rfl ⟨?_, trivial⟩
                          refine Stpx.eff rfl rfl (Eff.yld (Yld.cat rfl rfl (by first | (simp only [List.length_append, List.length_cons, List.length_nil]; omega) | omega)) rfl rfl) ?_
                          refine ANx.all (rs := [8]) (by kernel_rfl) rfl ⟨?_, trivial⟩
                          refine Stpx.eff rfl rfl (Eff.yld (Yld.cat rfl rfl (by first | (simp only [List.length_append, List.length_cons, List.length_nil]; omega) | omega)) rfl rfl) ?_
                          refine ANx.all (rs := [9]) (by kernel_rfl) rfl ⟨?_, trivial⟩
                          refine Stpx.eff rfl rfl (Eff.yld (Yld.cat rfl rfl (by first | (simp only [List.length_append, List.length_cons, List.length_nil]; omega) | omega)) rfl rfl) ?_
                          refine ANx.take 10 rfl (by kernel_rfl) (by kernel_rfl) (by kernel_rfl) rfl rfl rfl (YldA.assign rfl) ?_
                          exact ANx.doneC () (by kernel_rfl) ⟨rfl, trivial⟩ trivial ⟨rfl, rfl, rfl, rfl, rfl, rfl, rfl, rfl, rfl, trivial⟩ ⟨rfl, rfl, rfl, rfl, trivial⟩
                    · -- 6
                      refine Stpx.eff rfl rfl (Eff.yld (Yld.load Tryd.isAgg2 rfl rfl) rfl rfl) ?_
                      refine ANx.all (rs := [3, 7]) (by kernel_rfl) rfl ⟨?_, ?_, trivial⟩
                      · -- 3
                        refine Stpx.eff rfl rfl (Eff.yld (Yld.cat rfl rfl (by first | (simp only [List.length_append, List.length_cons, List.length_nil]; omega) | omega)) rfl rfl) ?_
                        refine ANx.all (rs := [4, 7]) (by kernel_rfl) rfl ⟨?_, ?_, trivial⟩
                        · -- 4
                          refine Stpx.eff rfl rfl (Eff.yld (Yld.cat rfl rfl (by first | (simp only [List.length_append, List.length_cons, List.length_nil]; omega) | omega)) rfl rfl) ?_
                          refine ANx.all (rs := [7]) (by kernel_rfl) rfl ⟨?_, trivial⟩
                          refine Stpx.effX rfl rfl (EffX.callW [0] [0] [0] rfl rfl Tryd.call40 rfl (impl_Decimal_c (by omega) (by omega)) (.own rfl) rfl (fun _ => rfl) ⟨rfl, trivial⟩ rfl (fun _ => rfl) (fun _ => rfl)) ?_
                          rintro _ ⟨⟨⟩, hu53, rfl⟩
                          refine ANx.all (rs := [8]) (by kernel_rfl) rfl ⟨?_, trivial⟩
                          refine Stpx.eff rfl rfl (Eff.yld (Yld.cat rfl rfl (by first | (simp only [List.length_append, List.length_cons, List.length_nil]; omega) | omega)) rfl rfl) ?_
                          refine ANx.all (rs := [9]) (by kernel_rfl) rfl ⟨?_, trivial⟩
                          refine Stpx.eff rfl rfl (Eff.yld (Yld.cat rfl rfl (by first | (simp only [List.length_append, List.length_cons, List.length_nil]; omega) | omega)) rfl rfl) ?_
                          refine ANx.take 10 rfl (by kernel_rfl) (by kernel_rfl) (by kernel_rfl) rfl rfl rfl (YldA.assign rfl) ?_
                          exact ANx.doneC () (by kernel_rfl) ⟨rfl, trivial⟩ trivial ⟨rfl, rfl, rfl, rfl, rfl, rfl, rfl, rfl, rfl, trivial⟩ ⟨rfl, rfl, rfl, rfl, trivial⟩
                        · -- 7
                          refine Stpx.effX rfl rfl (EffX.callW [0] [0] [0] rfl rfl Tryd.call40 rfl (impl_Decimal_c (by omega) (by omega)) (.own rfl) rfl (fun _ => rfl) ⟨rfl, trivial⟩ rfl (fun _ => rfl) (fun _ => rfl)) ?_
                          rintro _ ⟨⟨⟩, hu53, rfl⟩
                          refine ANx.all (rs := [4]) (by kernel_rfl) rfl ⟨?_, trivial⟩
                          refine Stpx.eff rfl rfl (Eff.yld (Yld.cat rfl rfl (by first | (simp only [List.length_append, List.length_cons, List.length_nil]; omega) | omega)) rfl rfl) ?_
                          refine ANx.all (rs := [8]) (by kernel_rfl) rfl ⟨?_, trivial⟩
                          refine Stpx.eff rfl rfl (Eff.yld (Yld.cat rfl rfl (by first | (simp only [List.length_append, List.length_cons, List.length_nil]; omega) | omega)) rfl rfl) ?_
                          refine ANx.all (rs := [9]) (by kernel_rfl) rfl ⟨?_, trivial⟩
                          refine Stpx.eff rfl rfl (Eff.yld (Yld.cat rfl rfl (by first | (simp only [List.length_append, List.length_cons, List.length_nil]; omega) | omega)) rfl rfl) ?_
                          refine ANx.take 10 rfl (by kernel_rfl) (by kernel_rfl) (by kernel_rfl) rfl rfl rfl (YldA.assign rfl) ?_
                          exact ANx.doneC () (by kernel_rfl) ⟨rfl, trivial⟩ trivial ⟨rfl, rfl, rfl, rfl, rfl, rfl, rfl, rfl, rfl, trivial⟩ ⟨rfl, rfl, rfl, rfl, trivial⟩
                      · -- 7
                        refine Stpx.effX rfl rfl (EffX.callW [0] [0] [0] rfl rfl Tryd.call40 rfl (impl_Decimal_c (by omega) (by omega)) (.own rfl) rfl (fun _ => rfl) ⟨rfl, trivial⟩ rfl (fun _ => rfl) (fun _ => rfl)) ?_
                        rintro _ ⟨⟨⟩, hu53, rfl⟩
                        refine ANx.all (rs := [3]) (by kernel_rfl) rfl ⟨?_, trivial⟩
                        refine Stpx.eff rfl rfl (Eff.yld (Yld.cat rfl rfl (by first | (simp only [List.length_append, List.length_cons, List.length_nil]; omega) | omega)) rfl rfl) ?_
                        refine ANx.all (rs := [4]) (by kernel_rfl) rfl ⟨?_, trivial⟩
                        refine Stpx.eff rfl rfl (Eff.yld (Yld.cat rfl rfl (by first | (simp only [List.length_append, List.length_cons, List.length_nil]; omega) | omega)) rfl rfl) ?_
                        refine ANx.all (rs := [8]) (by kernel_rfl) rfl ⟨?_, trivial⟩
                        refine Stpx.eff rfl rfl (Eff.yld (Yld.cat rfl rfl (by first | (simp only [List.length_append, List.length_cons, List.length_nil]; omega) | omega)) rfl rfl) ?_
                        refine ANx.all (rs := [9]) (by kernel_rfl) rfl ⟨?_, trivial⟩
                        refine Stpx.eff rfl rfl (Eff.yld (Yld.cat rfl rfl (by first | (simp only [List.length_append, List.length_cons, List.length_nil]; omega) | omega)) rfl rfl) ?_
                        refine ANx.take 10 rfl (by kernel_rfl) (by kernel_rfl) (by kernel_rfl) rfl rfl rfl (YldA.assign rfl) ?_
                        exact ANx.doneC () (by kernel_rfl) ⟨rfl, trivial⟩ trivial ⟨rfl, rfl, rfl, rfl, rfl, rfl, rfl, rfl, rfl, trivial⟩ ⟨rfl, rfl, rfl, rfl, trivial⟩
                  · -- 6
                    refine Stpx.eff rfl rfl (Eff.yld (Yld.load Tryd.isAgg2 rfl rfl) rfl rfl) ?_
                    refine ANx.all (rs := [2, 7]) (by kernel_rfl) rfl ⟨?_, ?_, trivial⟩
                    · -- 2
                      refine Stpx.eff rfl rfl (Eff.yld (Yld.load Tryd.isAgg9 rfl rfl) rfl rfl) ?_
                      refine ANx.all (rs := [3, 7]) (by kernel_rfl) rfl ⟨?_, ?_, trivial⟩
                      · -- 3
                        refine Stpx.eff rfl rfl (Eff.yld (Yld.cat rfl rfl (by first | (simp only [List.length_append, List.length_cons, List.length_nil]; omega) | omega)) rfl rfl) ?_
                        refine ANx.all (rs := [4, 7]) (by kernel_rfl) rfl ⟨?_, ?_, trivial⟩
                        · -- 4
                          refine Stpx.eff rfl rfl (Eff.yld (Yld.cat rfl rfl (by first | (simp only [List.length_append, List.length_cons, List.length_nil]; omega) | omega)) rfl rfl) ?_
                          refine ANx.all (rs := [7]) (by kernel_rfl) rfl ⟨?_, trivial⟩
                          refine Stpx.effX rfl rfl (EffX.callW [0] [0] [0] rfl rfl Tryd.call40 rfl (impl_Decimal_c (by omega) (by omega)) (.own rfl) rfl (fun _ => rfl) ⟨rfl, trivial⟩ rfl (fun _ => rfl) (fun _ => rfl)) ?_
                          rintro _ ⟨⟨⟩, hu53, rfl⟩
                          refine ANx.all (rs := [8]) (by kernel_rfl) rfl ⟨?_, trivial⟩
                          refine Stpx.eff rfl rfl (Eff.yld (Yld.cat rfl rfl (by first | (simp only [List.length_append, List.length_cons, List.length_nil]; omega) | omega)) rfl rfl) ?_
                          refine ANx.all (rs := [9]) (by kernel_rfl) rfl ⟨?_, trivial⟩
                          refine Stpx.eff rfl rfl (Eff.yld (Yld.cat rfl rfl (by first | (simp only [List.length_append, List.length_cons, List.length_nil]; omega) | omega)) rfl rfl) ?_
                          refine ANx.take 10 rfl (by kernel_rfl) (by kernel_rfl) (by kernel_rfl) rfl rfl rfl (YldA.assign rfl) ?_
                          exact ANx.doneC () (by kernel_rfl) ⟨rfl, trivial⟩ trivial ⟨rfl, rfl, rfl, rfl, rfl, rfl, rfl, rfl, rfl, trivial⟩ ⟨rfl, rfl, rfl, rfl, trivial⟩
                        · -- 7
                          refine Stpx.effX rfl rfl (EffX.callW [0] [0] [0] rfl rfl Tryd.call40 rfl (impl_Decimal_c (by omega) (by omega)) (.own rfl) rfl (fun _ => rfl) ⟨rfl, trivial⟩ rfl (fun _ => rfl) (fun _ => rfl)) ?_
                          rintro _ ⟨⟨⟩, hu53, rfl⟩
                          refine ANx.all (rs := [4]) (by kernel_rfl) rfl ⟨?_, trivial⟩
                          refine Stpx.eff rfl rfl (Eff.yld (Yld.cat rfl rfl (by first | (simp only [List.length_append, List.length_cons, List.length_nil]; omega) | omega)) rfl rfl) ?_
                          refine ANx.all (rs := [8]) (by kernel_rfl) rfl ⟨?_, trivial⟩
                          refine Stpx.eff rfl rfl (Eff.yld (Yld.cat rfl rfl (by first | (simp only [List.length_append, List.length_cons, List.length_nil]; omega) | omega)) rfl rfl) ?_
                          refine ANx.all (rs := [9]) (by kernel_rfl) rfl ⟨?_, trivial⟩
                          refine Stpx.eff rfl rfl (Eff.yld (Yld.cat rfl rfl (by first | (simp only [List.length_append, List.length_cons, List.length_nil]; omega) | omega)) rfl rfl) ?_
                          refine ANx.take 10 rfl (by kernel_rfl) (by kernel_rfl) (by kernel_rfl) rfl rfl rfl (YldA.assign rfl) ?_
                          exact ANx.doneC () (by kernel_rfl) ⟨rfl, trivial⟩ trivial ⟨rfl, rfl, rfl, rfl, rfl, rfl, rfl, rfl, rfl, trivial⟩ ⟨rfl, rfl, rfl, rfl, trivial⟩
                      · -- 7
                        refine Stpx.effX rfl rfl (EffX.callW [0] [0] [0] rfl rfl Tryd.call40 rfl (impl_Decimal_c (by omega) (by omega)) (.own rfl) rfl (fun _ => rfl) ⟨rfl, trivial⟩ rfl (fun _ => rfl) (fun _ => rfl)) ?_
                        rintro _ ⟨⟨⟩, hu53, rfl⟩
                        refine ANx.all (rs := [3]) (by kernel_rfl) rfl ⟨?_, trivial⟩
                        refine Stpx.eff rfl rfl (Eff.yld (Yld.cat rfl rfl (by first | (simp only [List.length_append, List.length_cons, List.length_nil]; omega) | omega)) rfl rfl) ?_
                        refine ANx.all (rs := [4]) (by kernel_rfl) rfl ⟨?_, trivial⟩
                        refine Stpx.eff rfl rfl (Eff.yld (Yld.cat rfl rfl (by first | (simp only [List.length_append, List.length_cons, List.length_nil]; omega) | omega)) rfl rfl) ?_
                        refine ANx.all (rs := [8]) (by kernel_rfl) rfl ⟨?_, trivial⟩
                        refine Stpx.eff rfl rfl (Eff.yld (Yld.cat rfl rfl (by first | (simp only [List.length_append, List.length_cons, List.length_nil]; omega) | omega)) rfl rfl) ?_
                        refine ANx.all (rs := [9]) (by kernel_rfl) rfl ⟨?_, trivial⟩
                        refine Stpx.eff rfl rfl (Eff.yld (Yld.cat rfl rfl (by first | (simp only [List.length_append, List.length_cons, List.length_nil]; omega) | omega)) rfl rfl) ?_
                        refine ANx.take 10 rfl (by kernel_rfl) (by kernel_rfl) (by kernel_rfl) rfl rfl rfl (YldA.assign rfl) ?_
                        exact ANx.doneC () (by kernel_rfl) ⟨rfl, trivial⟩ trivial ⟨rfl, rfl, rfl, rfl, rfl, rfl, rfl, rfl, rfl, trivial⟩ ⟨rfl, rfl, rfl, rfl, trivial⟩
                    · -- 7
                      refine Stpx.effX rfl rfl (EffX.callW [0] [0] [0] rfl rfl Tryd.call40 rfl (impl_Decimal_c (by omega) (by omega)) (.own rfl) rfl (fun _ => rfl) ⟨rfl, trivial⟩ rfl (fun _ => rfl) (fun _ => rfl)) ?_
                      rintro _ ⟨⟨⟩, hu53, rfl⟩
                      refine ANx.all (rs := [2]) (by kernel_rfl) rfl ⟨?_, trivial⟩
                      refine Stpx.eff rfl rfl (Eff.yld (Yld.load Tryd.isAgg9 rfl rfl) rfl rfl) ?_
                      refine ANx.all (rs := [3]) (by kernel_rfl) rfl ⟨?_, trivial⟩
                      refine Stpx.eff rfl rfl (Eff.yld (Yld.cat rfl rfl (by first | (simp only [List.length_append, List.length_cons, List.length_nil]; omega) | omega)) rfl rfl) ?_
                      refine ANx.all (rs := [4]) (by kernel_rfl) rfl ⟨?_, trivial⟩
                      refine Stpx.eff rfl rfl (Eff.yld (Yld.cat rfl rfl (by first | (simp only [List.length_append, List.length_cons, List.length_nil]; omega) | omega)) rfl rfl) ?_
                      refine ANx.all (rs := [8]) (by kernel_rfl) rfl ⟨?_, trivial⟩
                      refine Stpx.eff rfl rfl (Eff.yld (Yld.cat rfl rfl (by first | (simp only [List.length_append, List.length_cons, List.length_nil]; omega) | omega)) rfl rfl) ?_
                      refine ANx.all (rs := [9]) (by kernel_rfl) rfl ⟨?_, trivial⟩
                      refine Stpx.eff rfl rfl (Eff.yld (Yld.cat rfl rfl (by first | (simp only [List.length_append, List.length_cons, List.length_nil]; omega) | omega)) rfl rfl) ?_
                      refine ANx.take 10 rfl (by kernel_rfl) (by kernel_rfl) (by kernel_rfl) rfl rfl rfl (YldA.assign rfl) ?_
                      exact ANx.doneC () (by kernel_rfl) ⟨rfl, trivial⟩ trivial ⟨rfl, rfl, rfl, rfl, rfl, rfl, rfl, rfl, rfl, trivial⟩ ⟨rfl, rfl, rfl, rfl, trivial⟩
                · -- behind
                  rintro y9
                  refine AC.mark ?_
                  refine AC.region ?_
                  refine AO.yld _ (Yld.add rfl rfl (by first | (simp only [List.length_append, List.length_cons, List.length_nil]; omega) | omega) (by first | (simp only [List.length_append, List.length_cons, List.length_nil]; omega) | omega)) rfl rfl rfl ?_
                  refine AO.yld _ (Yld.move rfl) rfl rfl rfl ?_
                  refine AO.nil ?_
                  refine AC.back ⟨k + 1, ?_, ?_, ⟨?_, ?_, trivial⟩, trivial, ⟨rfl, rfl, rfl, rfl, trivial⟩, ⟨rfl, rfl, rfl, trivial⟩⟩
                  · exact hk
                  · omega
                  · rfl
                  · rw [verTo_succ hx]; rfl
              · -- c43 False
                obtain rfl : k = x.state.length := by have := ge_of_decM c43; omega
                refine AC.exit rfl ?_
                refine AC.seq ?_
                refine AC.seq ?_
                refine AC.region ?_
                refine AO.yld _ (Yld.fieldAddr Tryd.underlying48 rfl rfl Tryd.sizeOf9 rfl rfl rfl) rfl rfl rfl ?_
                refine AO.yld _ (Yld.load Tryd.isAgg9 rfl rfl) rfl rfl rfl ?_
                refine AO.yld _ (Yld.cmpStr rfl rfl rfl) rfl rfl rfl ?_
                refine AO.nil ?_
                refine AC.cond _ rfl (fun c59 => ?_) (fun c59 => ?_)
                · -- c59 True
                  have hmm : ¬ x.memo = [] := by simpa using c59
                  refine AC.region ?_
                  refine AO.yld _ (Yld.move rfl) rfl rfl rfl ?_
                  refine AO.yld _ (Yld.fieldAddr Tryd.underlying48 rfl rfl Tryd.sizeOf9 rfl rfl rfl) rfl rfl rfl ?_
                  refine AO.yld _ (Yld.load Tryd.isAgg9 rfl rfl) rfl rfl rfl ?_
                  refine AO.yld _ (Yld.cat rfl rfl (by first | (simp only [List.length_append, List.length_cons, List.length_nil]; omega) | omega)) rfl rfl rfl ?_
                  refine AO.yld _ (Yld.cat rfl rfl (by first | (simp only [List.length_append, List.length_cons, List.length_nil]; omega) | omega)) rfl rfl rfl ?_
                  refine AO.yld _ (Yld.assign rfl) rfl rfl rfl ?_
                  refine AO.nil ?_
                  refine AC.seq ?_
                  refine AC.region ?_
                  refine AO.yld _ (Yld.move rfl) rfl rfl rfl ?_
                  refine AO.yld _ (Yld.assign rfl) rfl rfl rfl ?_
                  refine AO.nil ?_
                  refine FnE.ret () [0] [0] Tryd.results19 (RVs.cons (RV.tmp rfl) RVs.nil) rfl rfl rfl ?_ ?_ ⟨⟨_, rfl, ?_⟩, trivial⟩
                  · -- holds
                    trivial
                  · -- value
                    first
                      | (unfold verText memoText; rw [if_pos hok, if_pos hmm, List.append_nil]; first | done | rfl)
                      | (unfold verText memoText; rw [if_pos hok, if_pos hmm]; simp; done)
                      | (unfold verText memoText; rw [if_pos hok, if_neg hmm]; done)
                      | (unfold verText memoText; rw [if_pos hok, if_neg hmm]; rfl)
                      | (unfold verText; rw [if_neg hno]; rfl)
                      | (unfold verText; rw [if_neg hno]; done)
                  · -- thing 0
                    first | rfl | exact vecE (by first | rfl | (simp_all; done) | grind) | (simp_all; done)
                · -- c59 False
                  have hmm : x.memo = [] := by simpa using c59
                  refine AC.skip ?_
                  refine AC.seq ?_
                  refine AC.region ?_
                  refine AO.yld _ (Yld.move rfl) rfl rfl rfl ?_
                  refine AO.yld _ (Yld.assign rfl) rfl rfl rfl ?_
                  refine AO.nil ?_
                  refine FnE.ret () [0] [0] Tryd.results19 (RVs.cons (RV.tmp rfl) RVs.nil) rfl rfl rfl ?_ ?_ ⟨⟨_, rfl, ?_⟩, trivial⟩
                  · -- holds
                    trivial
                  · -- value
                    first
                      | (unfold verText memoText; rw [if_pos hok, if_pos hmm, List.append_nil]; first | done | rfl)
                      | (unfold verText memoText; rw [if_pos hok, if_pos hmm]; simp; done)
                      | (unfold verText memoText; rw [if_pos hok, if_neg hmm]; done)
                      | (unfold verText memoText; rw [if_pos hok, if_neg hmm]; rfl)
                      | (unfold verText; rw [if_neg hno]; rfl)
                      | (unfold verText; rw [if_neg hno]; done)
                  · -- thing 0
                    first | rfl | exact vecE (by first | rfl | (simp_all; done) | grind) | (simp_all; done)

end Go.Proofs.YtmnmaakaneaiaaaDoor
/- Changes lead from one state to the other; versions that are added, their lines and heads: what the law of versions asks. -/
set_option linter.all false
namespace Go.V
open Go
section
variable {ms : List NV} {e y d : NV}
theorem rises_uniq (h : Rises (namesOf ms)) {x y : NV} (hx : x ∈ ms) (hy : y ∈ ms) (hn : x.name = y.name) : x = y := by
  obtain ⟨i, hi⟩ := List.getElem?_of_mem hx
  obtain ⟨j, hj⟩ := List.getElem?_of_mem hy
  rcases Nat.lt_trichotomy i j with h1 | h1 | h1
  · have := rises_at h h1 hi hj; rw [hn, bytesLess_irrefl] at this; cases this
  · subst h1; rw [hi] at hj; exact Option.some.inj hj
  · have := rises_at h h1 hj hi; rw [hn, bytesLess_irrefl] at this; cases this
theorem rises_nodup (h : Rises (namesOf ms)) : ms.Nodup :=
  (List.pairwise_map.1 h).imp (fun {a b} hab e => by subst e; rw [bytesLess_irrefl] at hab; cases hab)
theorem setL_is {x : NV} : x ∈ setL ms e ↔ x = e ∨ (x ∈ ms ∧ x.name ≠ e.name) := by
  unfold setL
  simp only [List.mem_append, List.mem_cons, List.mem_filter]
  constructor
  · rintro (⟨h1, h2⟩ | h | ⟨h1, h2⟩)
    · exact .inr ⟨h1, fun e9 => by rw [e9, bytesLess_irrefl] at h2; cases h2⟩
    · exact .inl h
    · exact .inr ⟨h1, fun e9 => by rw [e9, bytesLess_irrefl] at h2; cases h2⟩
  · rintro (h | ⟨h1, h2⟩)
    · exact .inr (.inl h)
    · cases h3 : Op.bytesLess x.name e.name with
      | true => exact .inl ⟨h1, rfl⟩
      | false =>
        cases h4 : Op.bytesLess e.name x.name with
        | true => exact .inr (.inr ⟨h1, rfl⟩)
        | false => exact absurd (bytesLess_tri h3 h4) h2
theorem idx_in (h : e ∈ ms) : ¬ idxOf (nameIs e.name) ms < 0 := fun h9 => by
  have := idx_none h9 e h; simp [nameIs] at this
theorem erase_is {n : Nat} (h : Rises (namesOf ms)) (hd : ms[n]? = some d) {x : NV} : x ∈ ms.eraseIdx n ↔ x ∈ ms ∧ x ≠ d := by
  rw [List.mem_eraseIdx_iff_getElem?]
  constructor
  · rintro ⟨i, hi, hx⟩
    refine ⟨List.mem_of_getElem? hx, fun e9 => ?_⟩
    subst e9
    rcases Nat.lt_trichotomy i n with h1 | h1 | h1
    · have := rises_at h h1 hx hd; rw [bytesLess_irrefl] at this; cases this
    · exact hi h1
    · have := rises_at h h1 hd hx; rw [bytesLess_irrefl] at this; cases this
  · rintro ⟨h1, h2⟩
    obtain ⟨i, hi⟩ := List.getElem?_of_mem h1
    exact ⟨i, fun e9 => by subst e9; rw [hd] at hi; exact h2 (Option.some.inj hi).symm, hi⟩
end
/-- What is dropped goes, one by one. -/
theorem apply_drops : ∀ (ds : List NV) (cs : List Chg) (ms : List NV), Rises (namesOf ms) → (∀ d ∈ ds, d ∈ ms) → ds.Nodup →
    ∃ ms', applyA (ds.map (Chg.mk 2) ++ cs) ms = applyA cs ms' ∧ Rises (namesOf ms') ∧ ms'.length ≤ ms.length ∧ ∀ x, x ∈ ms' ↔ x ∈ ms ∧ x ∉ ds
  | [], cs, ms, hr, _, _ => ⟨ms, rfl, hr, Nat.le_refl _, fun x => by simp⟩
  | d :: ds, cs, ms, hr, hm, hn => by
    obtain ⟨n, y, h1, h2, h3⟩ := idx_at9 (e := d) (Int.not_lt.1 (idx_in (hm d (by simp))))
    have hy : y = d := rises_uniq hr (List.mem_of_getElem? h2) (hm d (by simp)) h3
    subst hy
    rw [List.nodup_cons] at hn
    have hs := List.eraseIdx_sublist ms n
    have hr2 : Rises (namesOf (ms.eraseIdx n)) := hr.sublist (hs.map NV.name)
    obtain ⟨ms', e1, e2, e3, e4⟩ := apply_drops ds cs (ms.eraseIdx n) hr2 (fun z hz => (erase_is hr h2).2 ⟨hm z (by simp [hz]), fun e9 => hn.1 (e9 ▸ hz)⟩) hn.2
    refine ⟨ms', ?_, e2, Nat.le_trans e3 hs.length_le, fun x => ?_⟩
    · rw [List.map_cons, List.cons_append, applyA]
      simp only [show ¬ ((2 : Int) = 1) by decide, if_false, h1, Int.toNat_natCast, h2, if_true]
      rw [if_neg (by omega), e1]
    · rw [e4, erase_is hr h2]
      simp only [List.mem_cons, not_or]
      constructor
      · rintro ⟨⟨a1, a2⟩, a3⟩; exact ⟨a1, a2, a3⟩
      · rintro ⟨a1, a2, a3⟩; exact ⟨⟨a1, a2⟩, a3⟩
/-- What is set comes, one by one. -/
theorem apply_sets : ∀ (es : List NV) (ms : List NV), Rises (namesOf ms) → (es.Pairwise fun x y => x.name ≠ y.name) → ms.length + es.length ≤ 24 →
    ∃ ms', applyA (es.map (Chg.mk 1)) ms = (ms', 0) ∧ Rises (namesOf ms') ∧ ∀ x, x ∈ ms' ↔ x ∈ es ∨ (x ∈ ms ∧ ∀ e ∈ es, e.name ≠ x.name)
  | [], ms, hr, _, _ => ⟨ms, rfl, hr, fun x => by simp⟩
  | e :: es, ms, hr, hp, hl => by
    rw [List.length_cons] at hl
    rw [List.pairwise_cons] at hp
    have h2 := setL_len (xs := ms) (e := e)
    obtain ⟨ms', e1, e2, e3⟩ := apply_sets es (setL ms e) (setL_rises hr) hp.2 (by omega)
    refine ⟨ms', ?_, e2, fun x => ?_⟩
    · rw [List.map_cons, applyA]
      simp only [if_true]
      rw [if_neg (by omega), e1]
    · rw [e3, setL_is]
      simp only [List.mem_cons, forall_eq_or_imp]
      constructor
      · rintro (h | ⟨rfl | ⟨h1, h3⟩, h4⟩)
        · exact .inl (.inr h)
        · exact .inl (.inl rfl)
        · exact .inr ⟨h1, fun e9 => h3 e9.symm, h4⟩
      · rintro ((rfl | h) | ⟨h1, h3, h4⟩)
        · exact .inr ⟨.inl rfl, fun z hz e9 => hp.1 z hz e9.symm⟩
        · exact .inl h
        · exact .inr ⟨.inr ⟨h1, fun e9 => h3 e9.symm⟩, h4⟩
theorem rises_same {xs ys : List NV} (hx : Rises (namesOf xs)) (hy : Rises (namesOf ys)) (h : ∀ x, x ∈ xs ↔ x ∈ ys) : xs = ys := by
  have hp := (List.perm_ext_iff_of_nodup (rises_nodup hx) (rises_nodup hy)).2 h
  exact hp.eq_of_pairwise (fun a b _ _ h1 h2 => by rw [bytesLess_asymm h1] at h2; cases h2) (List.pairwise_map.1 hx) (List.pairwise_map.1 hy)
/-- The changes from one state to the other lead from the one to the other. -/
theorem apply_diff {a b : List NV} (ha : okState a = true) (hb : okState b = true) (hl : a.length + b.length ≤ 24) : applyC a (diffStates a b).1 = (b, 0) := by
  have ra := state_rises ha
  have rb := state_rises hb
  have hd : (diffStates a b).1 = drops a b a.length ++ sets a b b.length := by unfold diffStates; rw [ha, hb]; rfl
  have one : ∀ {xs : List NV}, okState xs = true → ∀ x ∈ xs, okSetting x = true := fun h x hx => (SG.of h).one x hx
  have hok : (drops a b a.length ++ sets a b b.length).all okChg = true := by
    rw [List.all_eq_true]
    intro c hc
    unfold drops sets at hc
    rw [List.take_length, List.take_length] at hc
    rcases List.mem_append.1 hc with hc | hc
    · obtain ⟨x, hx, rfl⟩ := List.mem_map.1 hc
      simp [okChg, one ha x (List.mem_filter.1 hx).1]
    · obtain ⟨x, hx, rfl⟩ := List.mem_map.1 hc
      simp [okChg, one hb x (List.mem_filter.1 hx).1]
  unfold applyC
  rw [hd, if_pos ⟨ha, hok⟩]
  unfold drops sets
  rw [List.take_length, List.take_length]
  obtain ⟨m1, h1, h2, h3, h4⟩ := apply_drops (a.filter fun x => decide (idxOf (nameIs x.name) b < 0)) ((b.filter fun x => !decide (x ∈ a)).map (Chg.mk 1)) a ra (fun d hd => (List.mem_filter.1 hd).1) ((rises_nodup ra).filter _)
  have hle := List.length_filter_le (fun x => !decide (x ∈ a)) b
  obtain ⟨m2, k1, k2, k3⟩ := apply_sets (b.filter fun x => !decide (x ∈ a)) m1 h2 (List.Pairwise.filter _ ((List.pairwise_map.1 rb).imp (fun {x y} hxy e9 => by rw [e9, bytesLess_irrefl] at hxy; cases hxy))) (by omega)
  rw [h1, k1]
  have : m2 = b := rises_same k2 rb (fun x => by
    rw [k3, h4]
    simp only [List.mem_filter, Bool.not_eq_true', decide_eq_false_iff_not, decide_eq_true_eq, not_and]
    constructor
    · rintro (⟨g1, _⟩ | ⟨⟨g1, g2⟩, g3⟩)
      · exact g1
      · obtain ⟨n, y, _, g5, g6⟩ := idx_at9 (e := x) (Int.not_lt.1 (g2 g1))
        have hyb := List.mem_of_getElem? g5
        by_cases hya : y ∈ a
        · rw [← rises_uniq ra hya g1 g6]; exact hyb
        · exact absurd g6 (g3 y ⟨hyb, hya⟩)
    · intro g1
      by_cases hxa : x ∈ a
      · refine .inr ⟨⟨hxa, fun _ => idx_in g1⟩, fun z hz e9 => hz.2 ?_⟩
        rw [rises_uniq rb hz.1 g1 e9]; exact hxa
      · exact .inl ⟨g1, hxa⟩)
  rw [this]
/-! Versions that are added. -/
section
variable {xs : List Ver} {p n : Int} {memo : List UInt8} {st : List NV}
theorem add_is (h : xs.length < 32) : addV xs p memo st = (xs ++ [newVer xs p memo st], 0) := by unfold addV; rw [if_neg (by omega)]
theorem add_okV (h : okVers xs = true) (hl : xs.length < 32) (h0 : 0 ≤ p) (h1 : p ≤ xs.length) (hm : okMemo memo = true) (hs : okState st = true) : okVers (xs ++ [newVer xs p memo st]) = true := by
  unfold okVers
  rw [Bool.and_eq_true, decide_eq_true_eq]
  refine ⟨allI_of (fun k x hx => ?_), by simp only [List.length_append, List.length_cons, List.length_nil]; omega⟩
  by_cases hi : k < xs.length
  · rw [List.getElem?_append_left hi] at hx; exact ver_at h hx
  · have hi2 : k = xs.length := by
      have := lt_of_get hx
      simp only [List.length_append, List.length_cons, List.length_nil] at this; omega
    subst hi2
    rw [List.getElem?_append_right (Nat.le_refl _), Nat.sub_self] at hx
    obtain rfl := Option.some.inj hx
    simp only [okVer, newVer, List.length_map, Bool.and_eq_true, decide_eq_true_eq]
    exact ⟨⟨⟨trivial, h0, h1⟩, hm⟩, hs⟩
theorem commit_is (h : okVers xs = true) (hl : xs.length < 32) (h0 : 0 ≤ p) (h1 : p ≤ xs.length) (hm : okMemo memo = true) (hs : okState st = true) : commitState xs p memo st = (xs ++ [newVer xs p memo st], 0) := by
  unfold commitState
  rw [if_pos (by simp [h, hm, hs]), if_pos (by simp [h0, h1]), add_is hl]
theorem undo_memo_ok (h0 : 0 ≤ n) (h1 : n ≤ 32) : okMemo (undoMemo n) = true := by
  obtain ⟨k, rfl⟩ := Int.eq_ofNat_of_zero_le h0
  have hk : k < 33 := by omega
  clear h0 h1
  revert k
  decide +kernel
theorem undo_is (h : okVers xs = true) (hl : xs.length < 32) (hn : inVers xs n = true) : undoVersion xs n = (xs ++ [newVer xs n (undoMemo n) (stT xs (par xs n))], 0) := by
  unfold undoVersion; rw [if_pos h, if_pos hn, add_is hl]
theorem in_vers (h0 : 1 ≤ n) (h1 : n ≤ xs.length) : inVers xs n = true := by simp [inVers, h0, h1]
theorem anc_is (h : okVers xs = true) (hn : inVers xs n = true) : ancOf xs n = (line xs (par xs n), 0) := by
  unfold ancOf; rw [if_pos h, if_pos hn]
  simp only [inVers, Bool.and_eq_true, decide_eq_true_eq] at hn
  rw [line_pos h (by omega)]; rfl
theorem comm_is (h : okVers xs = true) (hn : inVers xs n = true) : commonAncestor xs n n = (n, 0) := by
  unfold commonAncestor
  rw [if_pos h, if_pos (by rw [hn]; rfl)]
  simp only [inVers, Bool.and_eq_true, decide_eq_true_eq] at hn
  unfold commonA
  rw [line_pos h (by omega)]
  simp
theorem heads_is (h : okVers xs = true) : headsOf xs = ((xs.filter (isHead xs)).map Ver.number, 0) := by unfold headsOf; rw [if_pos h]
end
section
variable {xs : List Ver} {p : Int} {memo : List UInt8} {st : List NV}
theorem last_head (h : okVers (xs ++ [newVer xs p memo st]) = true) : ((xs.length : Int) + 1) ∈ ((xs ++ [newVer xs p memo st]).filter (isHead (xs ++ [newVer xs p memo st]))).map Ver.number := by
  refine List.mem_map.2 ⟨newVer xs p memo st, List.mem_filter.2 ⟨by simp, ?_⟩, by simp [newVer]⟩
  unfold isHead
  rw [Bool.not_eq_true', List.any_eq_false]
  intro x hx
  obtain ⟨k, hk⟩ := List.getElem?_of_mem hx
  have h1 := ver_lim (ver_at h hk)
  have h2 := lt_of_get hk
  simp only [List.length_append, List.length_cons, List.length_nil] at h2
  simp only [newVer, List.length_map, beq_iff_eq]
  omega
theorem par_last : par (xs ++ [newVer xs p memo st]) ((xs.length : Int) + 1) = p := by
  have hx : (xs ++ [newVer xs p memo st])[((xs.length : Int) + 1 - 1).toNat]? = some (newVer xs p memo st) := by
    rw [show ((xs.length : Int) + 1 - 1).toNat = xs.length by omega]; simp
  rw [par_eq hx]; rfl
theorem stT_first {n : Int} (h0 : 0 ≤ n) (h1 : n ≤ xs.length) : stT (xs ++ [newVer xs p memo st]) n = stT xs n := by
  by_cases hz : n = 0
  · rw [stT_zero hz, stT_zero hz]
  · obtain ⟨x, hx⟩ := get_some (xs := xs) (k := (n - 1).toNat) (by omega)
    rw [stT_get hz hx, stT_get hz (x := x)]
    rw [List.getElem?_append_left (by omega)]; exact hx
end
theorem line_desc {xs : List Ver} (h : okVers xs = true) : ∀ (m : Nat) (n : Int), n.toNat ≤ m → (∀ e ∈ line xs n, 1 ≤ e ∧ e ≤ n) ∧ (line xs n).Pairwise (fun x y => y < x)
  | 0, n, hm => by rw [line_zero (by omega)]; simp
  | m + 1, n, hm => by
    by_cases h0 : 0 < n
    · have hp := par_lim h h0
      obtain ⟨h1, h2⟩ := line_desc h m (par xs n) (by omega)
      rw [line_pos h h0]
      refine ⟨fun e he => ?_, List.pairwise_cons.2 ⟨fun e he => ?_, h2⟩⟩
      · rcases List.mem_cons.1 he with rfl | he
        · omega
        · have := h1 e he; omega
      · have := h1 e he; omega
    · rw [line_zero h0]; simp
theorem line_step {xs : List Ver} (h : okVers xs = true) {n : Int} {k : Nat} {x y : Int} (hx : (line xs n)[k]? = some x) (hy : (line xs n)[k + 1]? = some y) : y < x := by
  have hp := (line_desc h n.toNat n (Nat.le_refl _)).2
  have hk := lt_of_get hx
  have hk1 := lt_of_get hy
  have := List.pairwise_iff_getElem.1 hp k (k + 1) hk hk1 (by omega)
  rw [List.getElem?_eq_getElem hk] at hx
  rw [List.getElem?_eq_getElem hk1] at hy
  rw [Option.some.inj hx, Option.some.inj hy] at this
  exact this
theorem line_lims {xs : List Ver} (h : okVers xs = true) {n : Int} {k : Nat} {x : Int} (hx : (line xs n)[k]? = some x) : 1 ≤ x ∧ x ≤ n := (line_desc h n.toNat n (Nat.le_refl _)).1 x (List.mem_of_getElem? hx)
theorem line_has {xs : List Ver} (h : okVers xs = true) {n : Int} : decide (n ∈ line xs n) = decide (0 < n) := by
  by_cases h0 : 0 < n
  · rw [line_pos h h0]; simp [h0]
  · rw [line_zero h0]; simp [h0]
theorem text_some {v : Ver} (h : okVerT v = true) : verText v ≠ [] := by
  unfold verText verTo; rw [if_pos h]; simp
theorem has_any {xs : List Int} {n : Int} : (xs.any fun y => decide (y = n)) = decide (n ∈ xs) := by
  rw [Bool.eq_iff_iff]; simp
theorem ver_facts {xs : List Ver} {p n : Int} {memo : List UInt8} {st : List NV} (h : okVers xs = true) (hl : xs.length ≤ 5) (hn : n = (xs.length : Int) + 1) (h0 : 0 ≤ p) (h1 : p ≤ xs.length) (hm : okMemo memo = true) (hs : okState st = true) :
    ∃ (nx un : List Ver) (hd : List Int), commitState xs p memo st = (nx, 0) ∧ undoVersion nx n = (un, 0) ∧ ancOf nx n = (line nx p, 0) ∧ headsOf nx = (hd, 0) ∧ commonAncestor nx n n = (n, 0) ∧ okVers nx = true ∧ okVers un = true ∧
      nx.length = xs.length + 1 ∧ un.length = xs.length + 2 ∧ n ∈ hd ∧ hd.length ≤ 6 ∧ (line nx p).length ≤ 5 ∧ (∃ v, nx[xs.length]? = some v ∧ verText v ≠ []) ∧ (∃ v, un[xs.length + 1]? = some v ∧ v.state = stT xs p) := by
  subst hn
  have hx := add_okV h (by omega) h0 h1 hm hs
  have hxl : (xs ++ [newVer xs p memo st]).length = xs.length + 1 := by simp
  have hiv : inVers (xs ++ [newVer xs p memo st]) ((xs.length : Int) + 1) = true := in_vers (by omega) (by rw [hxl]; omega)
  have hst := stT_first (xs := xs) (p := p) (memo := memo) (st := st) h0 h1
  have hso : okState (stT (xs ++ [newVer xs p memo st]) p) = true := stT_ok hx p
  have hu := add_okV (p := (xs.length : Int) + 1) (memo := undoMemo ((xs.length : Int) + 1)) (st := stT (xs ++ [newVer xs p memo st]) p) hx (by rw [hxl]; omega) (by omega) (by rw [hxl]; omega) (undo_memo_ok (by omega) (by omega)) hso
  have hui := undo_is hx (by rw [hxl]; omega) hiv
  rw [par_last] at hui
  have hai := anc_is hx hiv
  rw [par_last] at hai
  refine ⟨_, _, _, commit_is h (by omega) h0 h1 hm hs, hui, hai, heads_is hx, comm_is hx hiv, hx, hu, hxl, by simp, last_head hx, ?_, ?_, ⟨newVer xs p memo st, by simp, text_some ?_⟩, ⟨newVer (xs ++ [newVer xs p memo st]) ((xs.length : Int) + 1) (undoMemo ((xs.length : Int) + 1)) (stT (xs ++ [newVer xs p memo st]) p), ?_, ?_⟩⟩
  · rw [List.length_map]
    exact Nat.le_trans (List.length_filter_le _ _) (by rw [hxl]; omega)
  · have := line_lim (xs := xs ++ [newVer xs p memo st]) p; omega
  · simp only [okVerT, newVer, List.length_map, Bool.and_eq_true, decide_eq_true_eq]
    exact ⟨⟨⟨⟨by omega, by omega⟩, ⟨by omega, by omega⟩⟩, hm⟩, hs⟩
  · rw [List.getElem?_append_right (by rw [hxl]; omega)]; simp
  · simp only [newVer]; exact hst
end Go.V
namespace Go.V
theorem diff_names {a b : List NV} (ha : ∀ s ∈ a, s.name.length ≤ 1048576) (hb : ∀ s ∈ b, s.name.length ≤ 1048576) : ∀ c ∈ (diffStates a b).1, c.set.name.length ≤ 1048576 := by
  intro c hc
  unfold diffStates at hc
  split at hc
  · unfold drops sets at hc
    rcases List.mem_append.1 hc with hc | hc
    · obtain ⟨x, hx, rfl⟩ := List.mem_map.1 hc
      exact ha x (List.mem_of_mem_take (List.mem_filter.1 hx).1)
    · obtain ⟨x, hx, rfl⟩ := List.mem_map.1 hc
      exact hb x (List.mem_of_mem_take (List.mem_filter.1 hx).1)
  · cases hc
end Go.V
/- A thing of one's own that may be read as plain data is only read from here on. -/
set_option linter.all false
namespace Go.V
open Go Go.RowKit
/-- What a thing of one's own shows may be kept once the thing is given up. -/
def Cust.Fz (C : Cust) (x : PV) : Prop := ∀ {S S' : Nat → Prop} {w : World} {hd : Value} {F : List Nat}, C.R S w hd F → (∀ k, S' k → S k) → (∀ k ∈ F, ¬ S' k) → Rel S' w x hd
section
variable {ty rs ity irs : Nat} {S S' : Nat → Prop} {w : World}
theorem vec_viewF {η : Nat → Value} {hd : Value} {F : List Nat} {rows : List (List PV)} (h : RRes η S w hd F (.vec ty rs rows)) (hS : ∀ k, S' k → S k) (hF : ∀ k ∈ F, ¬ S' k) : Rel S' w (.sl rs rows) hd := by
  have h0 := h
  obtain ⟨xs, h1, h2, h3, h4⟩ := h
  simp only [Rel]
  rcases h3.2 with ⟨e, hn⟩ | ⟨g, cap, cur, e, _, hgb, hnc, _⟩
  · exact ⟨none, 0, by rw [e, hn], by omega, .inl (List.eq_nil_of_length_eq_zero hn)⟩
  · refine ⟨_, cap, e, hnc, .inr ⟨g, 0, rfl, hF g (by rw [h4, e]; simp [Value.ownBlock]), (Array.getElem?_eq_some_iff.1 hgb).1, ?_⟩⟩
    refine RelRows.mono (S := S) (w := w) ⟨Nat.le_refl _, fun _ _ _ => rfl⟩ (fun k _ h => hS k h) rfl 0 rows (relRows_of_at rows 0 h2 (fun i r hir => ?_))
    have := h0.row hir (b := g) (by rw [e]; rfl)
    simpa using this
theorem nest_viewF {hd : Value} {F1 F2 : List Nat} {cs : List (List PV)} {ins : List (List (List PV))} {vs : List Value} (hl1 : vs.length = cs.length) (hl2 : ins.length = cs.length)
    (h1 : RRes (fun _ => hd) S w hd F1 (.vec ty rs (rowsV cs vs))) (h2 : PoolR ity irs S w (poolL vs ins) F2) (hS : ∀ k, S' k → S k) (hF1 : ∀ k ∈ F1, ¬ S' k) (hF2 : ∀ k ∈ F2, ¬ S' k) : Rel S' w (.sl rs (nestL irs cs ins)) hd := by
  have h0 := h1
  obtain ⟨xs, e1, e2, e3, e4⟩ := h1
  have hn : (rowsV cs vs).length = cs.length := by simp [rowsV, hl1]
  have hm : (nestL irs cs ins).length = cs.length := by simp [nestL, hl2]
  simp only [Rel]
  rcases e3.2 with ⟨e, hz⟩ | ⟨g, cap, cur, e, _, hgb, hnc, _⟩
  · exact ⟨none, 0, by rw [e, hm, ← hn, hz], by omega, .inl (List.eq_nil_of_length_eq_zero (by omega))⟩
  · refine ⟨_, cap, by rw [hm, ← hn]; exact e, by omega, .inr ⟨g, 0, rfl, hF1 g (by rw [e4, e]; simp [Value.ownBlock]), (Array.getElem?_eq_some_iff.1 hgb).1, ?_⟩⟩
    refine relRows_of_at _ 0 (fun r hr => ?_) (fun i r hir => ?_)
    · obtain ⟨i, hi⟩ := List.getElem?_of_mem hr
      have hic : i < cs.length := by have := (List.getElem?_eq_some_iff.1 hi).1; omega
      have e5 : (rowsV cs vs)[i]? = some (cs[i] ++ [.v (vs[i]'(by omega))]) := by
        simp only [rowsV, List.getElem?_zipWith, List.getElem?_eq_getElem hic, List.getElem?_eq_getElem (show i < vs.length by omega)]
      have := e2 _ (List.mem_of_getElem? e5)
      simp only [nestL, List.getElem?_zipWith, List.getElem?_eq_getElem hic, List.getElem?_eq_getElem (show i < ins.length by omega), Option.some.injEq] at hi
      subst hi
      simpa using this
    · have hic : i < cs.length := by have := (List.getElem?_eq_some_iff.1 hir).1; omega
      have e5 : (rowsV cs vs)[i]? = some (cs[i] ++ [.v (vs[i]'(by omega))]) := by
        simp only [rowsV, List.getElem?_zipWith, List.getElem?_eq_getElem hic, List.getElem?_eq_getElem (show i < vs.length by omega)]
      have hrow := h0.row e5 (b := g) (by rw [e]; rfl)
      simp only [nestL, List.getElem?_zipWith, List.getElem?_eq_getElem hic, List.getElem?_eq_getElem (show i < ins.length by omega), Option.some.injEq] at hir
      subst hir
      have hrow' := RelAt.mono (S' := S') (S := S) (w := w) (w' := w) ⟨Nat.le_refl _, fun _ _ _ => rfl⟩ (fun k _ h => hS k h) rfl _ _ hrow
      rw [relAt_append] at hrow' ⊢
      rw [show 0 + i * rs = i * rs by omega]
      refine ⟨hrow'.1, ?_⟩
      obtain ⟨⟨u, hu1, hu2⟩, _⟩ := hrow'.2
      refine ⟨⟨u, hu1, ?_⟩, trivial⟩
      simp only [Rel] at hu2; subst hu2
      have e6 : (poolL vs ins)[i]? = some (vs[i]'(by omega), some (ins[i]'(by omega))) := by
        simp only [poolL, List.getElem?_zipWith, List.getElem?_eq_getElem (show i < vs.length by omega), List.getElem?_eq_getElem (show i < ins.length by omega)]
      obtain ⟨G, _, hG, _, hG2, _⟩ := PoolR.take _ _ i _ _ h2 e6
      exact vec_viewF hG hS (fun k hk => hF2 k ((hG2 k).2 (.inl hk)))
theorem nest_fz {cs : List (List PV)} {ins : List (List (List PV))} {V : List (List PV)} {hV : nestL irs cs ins = V} : (nestC ty rs ity irs cs ins V hV).Fz (.sl rs V) := by
  rintro S S' w hd F ⟨vs, F1, F2, h1, h2, h3, h4, h5, _⟩ hS hF
  rw [← hV]
  exact nest_viewF h1 h2 h3 h4 hS (fun k hk => hF k (by rw [h5]; simp [hk])) (fun k hk => hF k (by rw [h5]; simp [hk]))
theorem tail_fz {xs : List Int} {V : List (List PV)} {hV : xs.map encI = V} : (tailC ty xs V hV).Fz (.sl 1 V) := by
  intro S S' w hd F h hS hF
  rw [← hV]
  simp only [Rel, List.length_map]
  rcases (show TailR hd ty xs w F from h) with ⟨⟨a, c, h1⟩, h2⟩ | ⟨b, c, cur, h1, h2, h3, h4, h5, h6⟩
  · exact ⟨a, c, by rw [h1, h2]; rfl, by rw [h2]; simp, .inl (by rw [h2]; rfl)⟩
  · refine ⟨_, c, h1, h4, .inr ⟨b, 1, rfl, hF b (by rw [h2]; simp), (Array.getElem?_eq_some_iff.1 h3).1, ?_⟩⟩
    refine relRows_of_at _ 1 (fun r hr => by obtain ⟨x, _, rfl⟩ := List.mem_map.1 hr; rfl) (fun i r hir => ?_)
    rw [List.getElem?_map] at hir
    obtain ⟨z, hz, rfl⟩ := Option.map_eq_some_iff.1 hir
    refine ⟨⟨.int .i64 z, ?_, by simp only [Rel]⟩, trivial⟩
    exact tail_cell h3 (by rw [Nat.mul_one]; exact h6 i z hz)
end
section
variable {P : Program} {fr : Fr} {st : St} {k : List It} {ops : Array Oper} {rest : List Oper}
theorem RepE.freezeC {η : Nat → Value} {φ : Nat → List Nat} {a : Act} {w : World} (hr : RepE fr η φ st a w) (id : Nat) {C : Cust} {x : PV} (hz : C.Fz x) (hg : get st.hp id = some (.cust C)) :
    RepE fr η φ ⟨substT id x st.tm, substH id x st.hp⟩ a w := by
  have hget : ∀ i r, get (substH id x st.hp) i = some r → i ≠ id ∧ ∃ r0, get st.hp i = some r0 ∧ r = r0.subst id x := by
    intro i r h
    rw [get_substH] at h
    split at h
    · cases h
    · next e => obtain ⟨r0, h1, rfl⟩ := Option.map_eq_some_iff.1 h; exact ⟨e, r0, h1, rfl⟩
  have hS : ∀ k, SOf φ (substH id x st.hp) k → SOf φ st.hp k := by
    rintro k ⟨i, r, h1, h2⟩
    obtain ⟨_, r0, h3, _⟩ := hget i r h1
    exact ⟨i, r0, h3, h2⟩
  have hx : Rel (SOf φ (substH id x st.hp)) w x (η id) := by
    refine hz (hr.res id _ hg) hS ?_
    rintro k h3 ⟨i, r, h1, h2⟩
    obtain ⟨hne, r0, h4, _⟩ := hget i r h1
    exact hne (hr.disj i id r0 _ k h4 hg h2 h3)
  refine ⟨hr.defers, hr.size, ?_, ?_, ?_, ?_, ?_, hr.keep, hr.pin⟩
  · intro i av h
    rw [get_substT] at h
    obtain ⟨a0, h1, rfl⟩ := Option.map_eq_some_iff.1 h
    obtain ⟨u, h2, h3⟩ := hr.slots i a0 h1
    exact ⟨u, h2, ARel.subst hS hx a0 u h3⟩
  · intro i r h
    obtain ⟨hne, r0, h1, rfl⟩ := hget i r h
    have hres := hr.res i r0 h1
    cases r0 with
    | box ty cs =>
      obtain ⟨b, arr, e1, e2, e3, e4⟩ := hres
      exact ⟨b, arr, e1, e2, e3, ARelL.subst hS hx cs _ e4⟩
    | vec ty rs rows =>
      exact RRes.mono ⟨Nat.le_refl _, fun _ _ _ => rfl⟩ (fun k _ h => hS k h) (fun _ _ => rfl) (.vec ty rs rows) (fun _ _ => rfl) hres
    | cust C => exact RRes.mono ⟨Nat.le_refl _, fun _ _ _ => rfl⟩ (fun k _ h => hS k h) (fun _ _ => rfl) (.cust C) (fun _ _ => rfl) hres
  · intro i j r r' k h1 h2
    obtain ⟨_, r0, h3, _⟩ := hget i r h1
    obtain ⟨_, r1, h4, _⟩ := hget j r' h2
    exact hr.disj i j r0 r1 k h3 h4
  · intro i r k h1
    obtain ⟨_, r0, h3, _⟩ := hget i r h1
    exact hr.low i r0 k h3
  · intro i r k h1
    obtain ⟨_, r0, h3, _⟩ := hget i r h1
    exact hr.lt i r0 k h3
theorem AO.keep {st' : St} (hl : Le fr st st') (h : AO P fr ops rest k false st') : AO P fr ops rest k false st := fun a w hr => h a w (hl a w hr)
theorem AC.freezeC (id : Nat) {C : Cust} {x : PV} (hz : C.Fz x) (hg : get st.hp id = some (.cust C)) (hk : AC P fr k ⟨substT id x st.tm, substH id x st.hp⟩) : AC P fr k st :=
  fun a w ⟨_, _, hr⟩ => hk a w ⟨_, _, hr.freezeC id hz hg⟩
theorem AO.freezeC (id : Nat) {C : Cust} {x : PV} (hz : C.Fz x) (hg : get st.hp id = some (.cust C)) (hk : AO P fr ops rest k false ⟨substT id x st.tm, substH id x st.hp⟩) : AO P fr ops rest k false st :=
  fun a w ⟨_, _, hr⟩ => hk a w ⟨_, _, hr.freezeC id hz hg⟩
end
end Go.V
/- Contracts of functions of the program, each by a walk of its text in the calculus V. -/
set_option linter.all false
set_option linter.unusedSimpArgs false
set_option linter.unnecessarySimpa false
set_option linter.unusedVariables false
namespace Go.Proofs.YtmnmaakaneaiaaaDoor
open Go Go.V

theorem laws_r8Long_c {code more : List UInt8} :
    Pure Tryd.prog 4 [.sl 1 (code.map encB), .sl 1 (more.map encB)] (.v (.bool (decide ((code.length : Int) > 1048576) || decide ((more.length : Int) > 1048576)))) := by
  refine Pure.intro Tryd.func4 rfl Tryd.ntmps4 rfl rfl (fun w => ?_)
  refine AC.seq ?_
  refine AC.region ?_
  refine AO.yld _ (Yld.assign rfl) rfl rfl rfl ?_
  refine AO.nil ?_
  refine AC.seq ?_
  refine AC.region ?_
  refine AO.yld _ (Yld.move rfl) rfl rfl rfl ?_
  refine AO.yld _ (Yld.len Tryd.underlying22 rfl rfl) rfl rfl rfl ?_
  refine AO.yld _ (Yld.int rfl rfl rfl) rfl rfl rfl ?_
  refine AO.yld _ (Yld.move rfl) rfl rfl rfl ?_
  refine AO.splitAt 8 _ rfl (fun s8 => ?_) (fun s8 => ?_)
  · -- s8 True
    refine AO.skipF rfl rfl rfl rfl rfl ?_
    refine AO.skipF rfl rfl rfl rfl rfl ?_
    refine AO.skipF rfl rfl rfl rfl rfl ?_
    refine AO.yld _ (Yld.pickT rfl rfl) rfl rfl rfl ?_
    refine AO.yld _ (Yld.assign rfl) rfl rfl rfl ?_
    refine AO.nil ?_
    refine Pure.ret Tryd.results4 (RVs.cons (RV.tmp rfl) RVs.nil) rfl ?_
    refine cb ?_; simp only [List.length_map] at *; first | (simp_all; done) | grind
  · -- s8 False
    refine AO.yldG _ (Yld.move rfl) rfl rfl rfl rfl rfl ?_
    refine AO.yldG _ (Yld.len Tryd.underlying22 rfl rfl) rfl rfl rfl rfl rfl ?_
    refine AO.yldG _ (Yld.int rfl rfl rfl) rfl rfl rfl rfl rfl ?_
    refine AO.yld _ (Yld.pickF rfl rfl) rfl rfl rfl ?_
    refine AO.yld _ (Yld.assign rfl) rfl rfl rfl ?_
    refine AO.nil ?_
    refine Pure.ret Tryd.results4 (RVs.cons (RV.tmp rfl) RVs.nil) rfl ?_
    refine cb ?_; simp only [List.length_map] at *; first | (simp_all; done) | grind

theorem laws_r8At_c {l : List UInt8} {k n : Int} (h0 : 0 ≤ k) :
    Pure Tryd.prog 11 [.sl 1 (l.map encB), .v (.int .i64 k), .v (.int .i64 n)] (.v (.int .i64 (r8At l k n))) := by
  have hM : (l.map encB).length = l.length := List.length_map ..
  refine Pure.intro Tryd.func11 rfl Tryd.ntmps11 rfl rfl (fun w => ?_)
  refine AC.seq ?_
  refine AC.region ?_
  refine AO.yld _ (Yld.assign rfl) rfl rfl rfl ?_
  refine AO.nil ?_
  refine AC.seq ?_
  refine AC.seq ?_
  refine AC.region ?_
  refine AO.yld _ (Yld.move rfl) rfl rfl rfl ?_
  refine AO.yld _ (Yld.int rfl rfl rfl) rfl rfl rfl ?_
  refine AO.yld _ (Yld.move rfl) rfl rfl rfl ?_
  refine AO.splitAt 9 _ rfl (fun s9 => ?_) (fun s9 => ?_)
  · -- s9 True
    refine AO.skipF rfl rfl rfl rfl rfl ?_
    refine AO.skipF rfl rfl rfl rfl rfl ?_
    refine AO.skipF rfl rfl rfl rfl rfl ?_
    refine AO.skipF rfl rfl rfl rfl rfl ?_
    refine AO.yld _ (Yld.pickT rfl rfl) rfl rfl rfl ?_
    refine AO.nil ?_
    refine AC.condT rfl ?_
    refine AC.seq ?_
    refine AC.region ?_
    refine AO.yld _ (Yld.assign rfl) rfl rfl rfl ?_
    refine AO.nil ?_
    refine Pure.ret Tryd.results11 (RVs.cons (RV.tmp rfl) RVs.nil) rfl ?_
    first | exact ci (r8At_hit hn1 hk hc).symm | exact ci (r8At_no (.inl (by simpa using s9))).symm | exact ci (r8At_no (.inr (by have h := c14; rw [hM] at h; simpa using h))).symm
  · -- s9 False
    refine AO.yldG _ (Yld.move rfl) rfl rfl rfl rfl rfl ?_
    refine AO.yldG _ (Yld.move rfl) rfl rfl rfl rfl rfl ?_
    refine AO.yldG _ (Yld.len Tryd.underlying22 rfl rfl) rfl rfl rfl rfl rfl ?_
    refine AO.yldG _ (Yld.int rfl rfl rfl) rfl rfl rfl rfl rfl ?_
    refine AO.yld _ (Yld.pickF rfl rfl) rfl rfl rfl ?_
    refine AO.nil ?_
    refine AC.cond _ rfl (fun c14 => ?_) (fun c14 => ?_)
    · -- c14 True
      refine AC.seq ?_
      refine AC.region ?_
      refine AO.yld _ (Yld.assign rfl) rfl rfl rfl ?_
      refine AO.nil ?_
      refine Pure.ret Tryd.results11 (RVs.cons (RV.tmp rfl) RVs.nil) rfl ?_
      first | exact ci (r8At_hit hn1 hk hc).symm | exact ci (r8At_no (.inl (by simpa using s9))).symm | exact ci (r8At_no (.inr (by have h := c14; rw [hM] at h; simpa using h))).symm
    · -- c14 False
      have hn1 : ¬ n ≤ 1 := by simpa using s9
      have hk : k < l.length := by have h := c14; rw [hM] at h; simp at h; omega
      obtain ⟨c, hc⟩ := get_some (xs := l) (k := k.toNat) (by omega)
      have hrow := map_row (enc := encB) hc
      refine AC.skip ?_
      refine AC.seq ?_
      refine AC.region ?_
      refine AO.yld _ (Yld.move rfl) rfl rfl rfl ?_
      refine AO.yld _ (Yld.move rfl) rfl rfl rfl ?_
      refine AO.yld _ (Yld.indexSl Tryd.underlying22 Tryd.sizeOf5 rfl rfl hrow (by omega)) rfl rfl rfl ?_
      refine AO.yld _ (Yld.load Tryd.isAgg5 rfl rfl) rfl rfl rfl ?_
      refine AO.yld _ (Yld.convInt Tryd.underlying5 Tryd.underlying2 rfl) rfl rfl rfl ?_
      refine AO.yld _ (Yld.move rfl) rfl rfl rfl ?_
      refine AO.yld _ (Yld.rem rfl rfl (by omega)) rfl rfl rfl ?_
      refine AO.yld _ (Yld.assign rfl) rfl rfl rfl ?_
      refine AO.nil ?_
      refine Pure.ret Tryd.results11 (RVs.cons (RV.tmp rfl) RVs.nil) rfl ?_
      first | exact ci (r8At_hit hn1 hk hc).symm | exact ci (r8At_no (.inl (by simpa using s9))).symm | exact ci (r8At_no (.inr (by have h := c14; rw [hM] at h; simpa using h))).symm

theorem laws_r8Has_a {xs : List Int} {n : Int} (hn : xs.length ≤ 1048576) :
    Pure Tryd.prog 17 [.sl 1 (xs.map Go.V.encI), .v (.int .i64 n)] (.v (.bool (xs.any (fun y => decide (y = n))))) := by
  have hM : (xs.map Go.V.encI).length = xs.length := List.length_map ..
  refine Pure.intro Tryd.func17 rfl Tryd.ntmps17 rfl rfl (fun w => ?_)
  refine AC.seq ?_
  refine AC.region ?_
  refine AO.yld _ (Yld.assign rfl) rfl rfl rfl ?_
  refine AO.nil ?_
  refine AC.seq ?_
  refine AC.seq ?_
  refine AC.region ?_
  refine AO.yld _ (Yld.assign rfl) rfl rfl rfl ?_
  refine AO.nil ?_
  refine AC.block ?_
  refine AC.loopC [(0, _), (1, _)] [] (fun (k : Nat) => [(5, .p (.v (.int .i64 (k : Int))))]) (fun (k : Nat) => []) (fun (k : Nat) => k ≤ xs.length ∧ anyTo (fun y => decide (y = n)) xs k = false) (fun (k : Nat) => xs.length - k) 0 ⟨rfl, rfl, trivial⟩ trivial ⟨rfl, trivial⟩ trivial ?_ (fun k hJ => ?_)
  · exact ⟨Nat.zero_le _, rfl⟩
  · -- round
    refine AC.seq ?_
    refine AC.seq ?_
    refine AC.region ?_
    refine AO.yld _ (Yld.move rfl) rfl rfl rfl ?_
    refine AO.yld _ (Yld.move rfl) rfl rfl rfl ?_
    refine AO.yld _ (Yld.len Tryd.underlying39 rfl rfl) rfl rfl rfl ?_
    refine AO.yld _ (Yld.int rfl rfl rfl) rfl rfl rfl ?_
    refine AO.nil ?_
    refine AC.cond _ rfl (fun c9 => ?_) (fun c9 => ?_)
    · -- c9 True
      have hk : k < xs.length := by have h := c9; rw [hM] at h; simpa using h
      obtain ⟨x, hx⟩ := get_some hk
      have hrow := map_row (enc := Go.V.encI) hx
      refine AC.skip ?_
      refine AC.seq ?_
      refine AC.block ?_
      refine AC.seq ?_
      refine AC.region ?_
      refine AO.yld _ (Yld.move rfl) rfl rfl rfl ?_
      refine AO.yld _ (Yld.move rfl) rfl rfl rfl ?_
      refine AO.yld _ (Yld.indexSl Tryd.underlying39 Tryd.sizeOf2 rfl rfl hrow rfl) rfl rfl rfl ?_
      refine AO.yld _ (Yld.load Tryd.isAgg2 rfl rfl) rfl rfl rfl ?_
      refine AO.yld _ (Yld.move rfl) rfl rfl rfl ?_
      refine AO.yld _ (Yld.int rfl rfl rfl) rfl rfl rfl ?_
      refine AO.nil ?_
      refine AC.cond _ rfl (fun c17 => ?_) (fun c17 => ?_)
      · -- c17 True
        refine AC.seq ?_
        refine AC.region ?_
        refine AO.yld _ (Yld.assign rfl) rfl rfl rfl ?_
        refine AO.nil ?_
        refine Pure.ret Tryd.results17 (RVs.cons (RV.tmp rfl) RVs.nil) rfl ?_
        first | (refine cb ?_; rw [hany]; done) | (refine cb ?_; rw [hany]; rfl) | (refine cb ?_; rw [any_hit hx (by simpa using c17)])
      · -- c17 False
        refine AC.skip ?_
        refine AC.mark ?_
        refine AC.region ?_
        refine AO.yld _ (Yld.move rfl) rfl rfl rfl ?_
        refine AO.yld _ (Yld.add rfl rfl (by omega) (by omega)) rfl rfl rfl ?_
        refine AO.yld _ (Yld.assign rfl) rfl rfl rfl ?_
        refine AO.nil ?_
        refine AC.back ⟨k + 1, ?_, ?_, ⟨?_, trivial⟩, trivial, ⟨rfl, rfl, trivial⟩, trivial⟩
        · exact ⟨hk, by rw [anyTo_succ hx, hJ.2]; simpa using c17⟩
        · omega
        · rfl
    · -- c9 False
      obtain rfl : k = xs.length := by have h := c9; rw [hM] at h; simp at h; omega
      have hany := hJ.2
      rw [anyTo_all] at hany
      refine AC.exit rfl ?_
      refine AC.seq ?_
      refine AC.region ?_
      refine AO.yld _ (Yld.assign rfl) rfl rfl rfl ?_
      refine AO.nil ?_
      refine Pure.ret Tryd.results17 (RVs.cons (RV.tmp rfl) RVs.nil) rfl ?_
      first | (refine cb ?_; rw [hany]; done) | (refine cb ?_; rw [hany]; rfl) | (refine cb ?_; rw [any_hit hx (by simpa using c17)])

theorem laws_r8Has_c {xs : List Int} {n : Int} (hn : xs.length ≤ 1048576) : Pure Tryd.prog 17 [.sl 1 (xs.map Go.V.encI), .v (.int .i64 n)] (.v (.bool (decide (n ∈ xs)))) := by
  have h9 := laws_r8Has_a (n := n) hn
  rw [has_any] at h9
  exact h9

theorem diff_g {a b : List NV} {cs : List Chg} (ha : a.length ≤ 1048576) (hb : b.length ≤ 1048576) (hna : ∀ s ∈ a, s.name.length ≤ 1048576) (hnb : ∀ s ∈ b, s.name.length ≤ 1048576) (h : diffStates a b = (cs, 0)) :
    FnE (α := Unit) Tryd.prog 8 [.p (.sl 2 (a.map encNV)), .p (.sl 2 (b.map encNV))] [] [] (fun _ => True) (fun _ => .tup [.h 0, .p (.v (.int .i64 0))]) (fun _ => [(0, .vec 60 3 (cs.map encChg))]) := by
  have h9 := impl_DiffStates_c ha hna hb hnb
  rw [h] at h9
  exact h9

theorem apply_g {a b : List NV} {cs : List Chg} (ha : a.length ≤ 1048576) (hna : ∀ s ∈ a, s.name.length ≤ 1048576) (hm : cs.length ≤ 1048576) (hcs : ∀ c ∈ cs, c.set.name.length ≤ 1048576) (h : applyC a cs = (b, 0)) :
    FnE (α := Unit) Tryd.prog 9 [.p (.sl 2 (a.map encNV)), .p (.sl 3 (cs.map encChg))] [] [] (fun _ => True) (fun _ => .tup [.h 0, .p (.v (.int .i64 0))]) (fun _ => [(0, .vec 57 2 (b.map encNV))]) := by
  have h9 := impl_ApplyChanges_c ha hna hm hcs
  rw [h] at h9
  exact h9

theorem commit_g {xs ys : List Ver} {p : Int} {memo : List UInt8} {a : List NV} (hg : VersGood xs) (ha : a.length ≤ 1048576) (hmm : memo.length ≤ 1048576) (hna : ∀ s ∈ a, s.name.length ≤ 1048576) (h : commitState xs p memo a = (ys, 0)) :
    FnE (α := Unit) Tryd.prog 12 [.p (.sl 4 (xs.map encVer)), .p (.v (.int .i64 p)), .p (.v (str memo)), .p (.sl 2 (a.map encNV))] [] [] (fun _ => True) (fun _ => .tup [.h 0, .p (.v (.int .i64 0))]) (fun _ => [(0, .cust (nestC 48 4 57 2 ((ys).map verC) ((ys).map verI) ((ys).map encVer) ver_nest))]) := by
  have h9 := impl_CommitState_c hg ha hmm hna (p := p)
  rw [h] at h9
  exact h9

theorem undo_g {xs ys : List Ver} {n : Int} (hg : VersGood xs) (h : undoVersion xs n = (ys, 0)) :
    FnE (α := Unit) Tryd.prog 13 [.p (.sl 4 (xs.map encVer)), .p (.v (.int .i64 n))] [] [] (fun _ => True) (fun _ => .tup [.h 0, .p (.v (.int .i64 0))]) (fun _ => [(0, .cust (nestC 48 4 57 2 ((ys).map verC) ((ys).map verI) ((ys).map encVer) ver_nest))]) := by
  have h9 := impl_UndoVersion_c hg (n := n)
  rw [h] at h9
  exact h9

theorem anc_g {xs : List Ver} {n : Int} {us : List Int} (hg : VersGood xs) (h : ancOf xs n = (us, 0)) :
    FnE (α := Unit) Tryd.prog 14 [.p (.sl 4 (xs.map encVer)), .p (.v (.int .i64 n))] [] [] (fun _ => True) (fun _ => .tup [.h 0, .p (.v (.int .i64 0))]) (fun _ => [(0, .cust (tailC 2 us (us.map Go.V.encI) rfl))]) := by
  have h9 := impl_AncestorsOf_c hg (n := n)
  rw [h] at h9
  exact h9

theorem heads_g {xs : List Ver} {us : List Int} (hg : VersGood xs) (h : headsOf xs = (us, 0)) :
    FnE (α := Unit) Tryd.prog 15 [.p (.sl 4 (xs.map encVer))] [] [] (fun _ => True) (fun _ => .tup [.h 0, .p (.v (.int .i64 0))]) (fun _ => [(0, .vec 2 1 (us.map Go.V.encI))]) := by
  have h9 := impl_HeadsOf_c hg
  rw [h] at h9
  exact h9

set_option maxHeartbeats 4000000 in
theorem laws_FnVersions_c {code more : List UInt8} :
    FnE (α := Unit) Tryd.prog 3 [.p (.sl 1 (code.map encB)), .p (.sl 1 (more.map encB))] [(0, powR Tryd.prog)] [0] (fun _ => True) (fun _ => .p (.v (.bool true))) (fun _ => [(0, powR Tryd.prog)]) := by
  refine FnE.intro Tryd.func3 rfl Tryd.ntmps3 rfl rfl (fun w0 F0 η φ w => ?_)
  refine AC.seq ?_
  refine AC.region ?_
  refine AO.yld _ (Yld.assign rfl) rfl rfl rfl ?_
  refine AO.nil ?_
  refine AC.seq ?_
  refine AC.seq ?_
  refine AC.region ?_
  refine AO.yld _ (Yld.move rfl) rfl rfl rfl ?_
  refine AO.yld _ (Yld.move rfl) rfl rfl rfl ?_
  refine AO.yld _ (Yld.call rfl rfl Tryd.call4 rfl rfl rfl (laws_r8Long_c) rfl) rfl rfl rfl ?_
  refine AO.nil ?_
  refine AC.cond _ rfl (fun c28 => ?_) (fun c28 => ?_)
  · -- c28 True
    refine AC.seq ?_
    refine AC.region ?_
    refine AO.yld _ (Yld.assign rfl) rfl rfl rfl ?_
    refine AO.nil ?_
    refine FnE.ret () [0] [0] Tryd.results3 (RVs.cons (RV.tmp rfl) RVs.nil) rfl rfl rfl ?_ ?_ ⟨⟨_, rfl, ?_⟩, trivial⟩
    · -- holds
      trivial
    · -- value
      first | rfl | (refine congrArg (fun b => AV.p (PV.v (Value.bool b))) ?_; simp [hvt])
    · -- thing 0
      first | rfl | exact vecE (by first | rfl | (simp_all; done) | grind) | (simp_all; done)
  · -- c28 False
    refine AC.skip ?_
    refine AC.seq ?_
    refine AC.region ?_
    refine AO.yld _ (Yld.move rfl) rfl rfl rfl ?_
    refine AO.callW (wantedN rfl) [1] [] [0] rfl rfl Tryd.call5 rfl (spec_R8History_c) (.own rfl) rfl (fun _ => rfl) trivial rfl (fun _ => rfl) (fun _ => rfl) (fun vs30 hvs30 => ?_)
    have hok := hvs30.ok
    have hgd := vers_good hok
    have hvl := hvs30.1
    have hM : (vs30.map encVer).length = vs30.length := List.length_map ..
    refine AO.yld _ (Yld.assign rfl) rfl rfl rfl ?_
    refine AO.nil ?_
    refine AC.seq ?_
    refine AC.region ?_
    refine AO.yld _ (Yld.move rfl) rfl rfl rfl ?_
    refine AO.callW (wantedN rfl) [2] [] [0] rfl rfl Tryd.call6 rfl (spec_R8State_c) (.own rfl) rfl (fun _ => rfl) trivial rfl (fun _ => rfl) (fun _ => rfl) (fun ms32 hms32 => ?_)
    have okA := hms32.ok (by omega)
    have hlA := hms32.len
    have hnA := hms32.names
    refine AO.yld _ (Yld.assign rfl) rfl rfl rfl ?_
    refine AO.nil ?_
    refine AC.seq ?_
    refine AC.region ?_
    refine AO.freeze 2 rfl ?_
    refine AO.keep (st' := ⟨[(0, _), (1, _), (5, _), (6, _)], [(0, _), (1, _), (900, _)]⟩) (Le.intro ⟨rfl, rfl, rfl, rfl, trivial⟩ ⟨rfl, rfl, rfl, trivial⟩) ?_
    refine AO.yld _ (Yld.move rfl) rfl rfl rfl ?_
    refine AO.yld _ (Yld.move rfl) rfl rfl rfl ?_
    refine AO.callW (wantedN rfl) [3] [] [0] rfl rfl Tryd.call7 rfl (spec_R8Changed_c hms32 (by omega)) (.own rfl) rfl (fun _ => rfl) trivial rfl (fun _ => rfl) (fun _ => rfl) (fun ms35 hms35 => ?_)
    have okB := hms35.ok (by omega)
    have hlB := hms35.len
    have hnB := hms35.names
    have hdf : diffStates ms32 ms35 = ((diffStates ms32 ms35).1, 0) := by unfold diffStates; rw [okA, okB]; rfl
    have hdl := diff_len ms32 ms35
    have hap := apply_diff okA okB (by omega)
    have hdn : ∀ c ∈ (diffStates ms32 ms35).1, c.set.name.length ≤ 1048576 := diff_names hnA hnB
    refine AO.yld _ (Yld.assign rfl) rfl rfl rfl ?_
    refine AO.nil ?_
    refine AC.seq ?_
    refine AC.region ?_
    refine AO.freeze 3 rfl ?_
    refine AO.keep (st' := ⟨[(1, _), (5, _), (6, _), (7, _)], [(0, _), (1, _), (900, _)]⟩) (Le.intro ⟨rfl, rfl, rfl, rfl, trivial⟩ ⟨rfl, rfl, rfl, trivial⟩) ?_
    refine AO.yld _ (Yld.move rfl) rfl rfl rfl ?_
    refine AO.yld _ (Yld.move rfl) rfl rfl rfl ?_
    refine AO.callW (wantedN rfl) [4] [] [0] rfl rfl Tryd.call8 rfl (diff_g (a := ms32) (b := ms35) (cs := (diffStates ms32 ms35).1) (by omega) (by omega) hnA hnB hdf) (.flat (.view rfl rfl (.view rfl rfl .nil)) (fun _ => by simp [AV.Flat, AV.FlatL, PV.Flat, PV.FlatL]) (fun _ => ⟨flat_map flatChg _, trivial⟩)) rfl (fun _ => rfl) trivial rfl (fun _ => rfl) (fun _ => rfl) (fun _ _ => ?_)
    refine AO.yld _ (Yld.move rfl) rfl rfl rfl ?_
    refine AO.yld _ (Yld.extract rfl rfl rfl) rfl rfl rfl ?_
    refine AO.yld _ (Yld.extract rfl rfl rfl) rfl rfl rfl ?_
    refine AO.yld _ (Yld.assign rfl) rfl rfl rfl ?_
    refine AO.yld _ (Yld.assign rfl) rfl rfl rfl ?_
    refine AO.nil ?_
    refine AC.seq ?_
    refine AC.region ?_
    refine AO.yld _ (Yld.move rfl) rfl rfl rfl ?_
    refine AO.yld _ (Yld.move rfl) rfl rfl rfl ?_
    refine AO.callW (wantedN rfl) [5] [] [0] rfl rfl Tryd.call9 rfl (apply_g (a := ms32) (b := ms35) (cs := (diffStates ms32 ms35).1) (by omega) hnA (by omega) hdn hap) (.flat (.view rfl rfl (.view rfl rfl .nil)) (fun _ => by simp [AV.Flat, AV.FlatL, PV.Flat, PV.FlatL]) (fun _ => ⟨flat_map flatNV _, trivial⟩)) rfl (fun _ => rfl) trivial rfl (fun _ => rfl) (fun _ => rfl) (fun _ _ => ?_)
    refine AO.yld _ (Yld.move rfl) rfl rfl rfl ?_
    refine AO.yld _ (Yld.extract rfl rfl rfl) rfl rfl rfl ?_
    refine AO.yld _ (Yld.extract rfl rfl rfl) rfl rfl rfl ?_
    refine AO.yld _ (Yld.assign rfl) rfl rfl rfl ?_
    refine AO.yld _ (Yld.assign rfl) rfl rfl rfl ?_
    refine AO.nil ?_
    refine AC.seq ?_
    refine AC.seq ?_
    refine AC.region ?_
    refine AO.yld _ (Yld.move rfl) rfl rfl rfl ?_
    refine AO.yld _ (Yld.int rfl rfl rfl) rfl rfl rfl ?_
    refine AO.yld _ (Yld.move rfl) rfl rfl rfl ?_
    refine AO.splitAt 50 _ rfl (fun s50 => ?_) (fun s50 => ?_)
    · -- s50 True
      exfalso; revert s50; decide
    · -- s50 False
      refine AO.yldG _ (Yld.move rfl) rfl rfl rfl rfl rfl ?_
      refine AO.yldG _ (Yld.int rfl rfl rfl) rfl rfl rfl rfl rfl ?_
      refine AO.yld _ (Yld.pickF rfl rfl) rfl rfl rfl ?_
      refine AO.yld _ (Yld.move rfl) rfl rfl rfl ?_
      refine AO.splitAt 54 _ rfl (fun s54 => ?_) (fun s54 => ?_)
      · -- s54 True
        exfalso; revert s54; decide
      · -- s54 False
        refine AO.yldG _ (Yld.move rfl) rfl rfl rfl rfl rfl ?_
        refine AO.yldG _ (Yld.move rfl) rfl rfl rfl rfl rfl ?_
        refine AO.yldG _ (Yld.call rfl rfl Tryd.call10 rfl rfl rfl (spec_SameState_c (by omega)) rfl) rfl rfl rfl rfl rfl ?_
        refine AO.yldG _ (Yld.not rfl) rfl rfl rfl rfl rfl ?_
        refine AO.yld _ (Yld.pickF rfl rfl) rfl rfl rfl ?_
        refine AO.nil ?_
        refine AC.cond _ rfl (fun c59 => ?_) (fun c59 => ?_)
        · -- c59 True
          exfalso; simp at c59
        · -- c59 False
          refine AC.skip ?_
          refine AC.seq ?_
          refine AC.region ?_
          refine AO.freeze 1 rfl ?_
          refine AO.keep (st' := ⟨[(1, _), (5, _), (6, _)], [(0, _), (900, _)]⟩) (Le.intro ⟨rfl, rfl, rfl, trivial⟩ ⟨rfl, rfl, trivial⟩) ?_
          refine AO.yld _ (Yld.move rfl) rfl rfl rfl ?_
          refine AO.yld _ (Yld.move rfl) rfl rfl rfl ?_
          refine AO.yld _ (Yld.len Tryd.underlying24 rfl rfl) rfl rfl rfl ?_
          refine AO.yld _ (Yld.add rfl rfl (by omega) (by omega)) rfl rfl rfl ?_
          refine AO.yld _ (Yld.call rfl rfl Tryd.call11 rfl rfl rfl (laws_r8At_c (by omega)) rfl) rfl rfl rfl ?_
          refine AO.yld _ (Yld.assign rfl) rfl rfl rfl ?_
          refine AO.nil ?_
          refine AC.seq ?_
          refine AC.region ?_
          obtain ⟨n9, hn9⟩ : ∃ n9 : Int, n9 = (((vs30.map encVer).length : Int) + 1) := ⟨_, rfl⟩
          have hr0 := r8At_lim (l := more) (k := 0) (n := (((vs30.map encVer).length : Int) + 1)) (by omega)
          obtain ⟨p9, hp9⟩ : ∃ p9 : Int, p9 = (r8At more 0 (((vs30.map encVer).length : Int) + 1)) := ⟨_, rfl⟩
          rw [← hp9]
          rw [← hp9] at hr0
          clear hp9
          obtain ⟨nx, un, hd, f1, f2, f3, f4, f5, okN, okU, lN, lU, inH, lH, lL, ⟨vx, hvx, hvt⟩, ⟨vu, hvu, hus⟩⟩ := ver_facts (xs := vs30) (p := p9) (n := n9) (memo := [110, 101, 120, 116]) (st := ms32) hok (by omega) (by omega) (by omega) (by omega) (by decide) okA
          have hgn := vers_good okN
          have hgu := vers_good okU
          have hrowU := map_row (enc := encVer) hvu
          have hrowN := map_row (enc := encVer) hvx
          have hvul := (hgu.2 vu (List.mem_of_getElem? hvu)).2.1
          have hlh := line_has okN (n := p9)
          refine AO.yld _ (Yld.move rfl) rfl rfl rfl ?_
          refine AO.yld _ (Yld.move rfl) rfl rfl rfl ?_
          refine AO.yld _ (Yld.move rfl) rfl rfl rfl ?_
          refine AO.callW (wantedN rfl) [6] [] [0] rfl rfl Tryd.call12 rfl (commit_g (xs := vs30) (ys := nx) (p := p9) (memo := [110, 101, 120, 116]) (a := ms32) hgd (by omega) (by decide) hnA f1) (.flat (.view rfl rfl (.view rfl rfl (.view rfl rfl (.view rfl rfl .nil)))) (fun _ => by simp [AV.Flat, AV.FlatL, PV.Flat, PV.FlatL]) (fun _ => ⟨vers_flat, trivial⟩)) rfl (fun _ => rfl) trivial rfl (fun _ => rfl) (fun _ => rfl) (fun _ _ => ?_)
          refine AO.yld _ (Yld.move rfl) rfl rfl rfl ?_
          refine AO.yld _ (Yld.extract rfl rfl rfl) rfl rfl rfl ?_
          refine AO.yld _ (Yld.extract rfl rfl rfl) rfl rfl rfl ?_
          refine AO.yld _ (Yld.assign rfl) rfl rfl rfl ?_
          refine AO.yld _ (Yld.assign rfl) rfl rfl rfl ?_
          refine AO.nil ?_
          refine AC.seq ?_
          refine AC.region ?_
          refine AO.yld _ (Yld.move rfl) rfl rfl rfl ?_
          refine AO.yld _ (Yld.len Tryd.underlying24 rfl rfl) rfl rfl rfl ?_
          refine AO.yld _ (Yld.add rfl rfl (by omega) (by omega)) rfl rfl rfl ?_
          refine AO.yld _ (Yld.assign rfl) rfl rfl rfl ?_
          refine AO.nil ?_
          refine AC.seq ?_
          refine AC.region ?_
          refine AO.keep (st' := ⟨[(5, _), (12, _), (13, _), (14, _), (15, _)], [(0, _), (6, _), (900, _)]⟩) (Le.intro ⟨rfl, rfl, rfl, rfl, rfl, trivial⟩ ⟨rfl, rfl, rfl, trivial⟩) ?_
          rw [← hn9]
          refine AO.yld _ (Yld.move rfl) rfl rfl rfl ?_
          refine AO.yld _ (Yld.move rfl) rfl rfl rfl ?_
          refine AO.callW (wantedN rfl) [7] [] [0] rfl rfl Tryd.call13 rfl (undo_g (xs := nx) (ys := un) (n := n9) hgn f2) (.flat (.view rfl rfl (.view rfl rfl .nil)) (fun _ => by simp [AV.Flat, AV.FlatL, PV.Flat, PV.FlatL]) (fun _ => ⟨vers_flat, trivial⟩)) rfl (fun _ => rfl) trivial rfl (fun _ => rfl) (fun _ => rfl) (fun _ _ => ?_)
          refine AO.yld _ (Yld.move rfl) rfl rfl rfl ?_
          refine AO.yld _ (Yld.extract rfl rfl rfl) rfl rfl rfl ?_
          refine AO.yld _ (Yld.extract rfl rfl rfl) rfl rfl rfl ?_
          refine AO.yld _ (Yld.assign rfl) rfl rfl rfl ?_
          refine AO.yld _ (Yld.assign rfl) rfl rfl rfl ?_
          refine AO.nil ?_
          refine AC.seq ?_
          refine AC.region ?_
          refine AO.freezeC 7 nest_fz rfl ?_
          refine AO.keep (st' := ⟨[(5, _), (12, _), (13, _), (14, _), (15, _), (16, _), (17, _)], [(0, _), (6, _), (900, _)]⟩) (Le.intro ⟨rfl, rfl, rfl, rfl, rfl, rfl, rfl, trivial⟩ ⟨rfl, rfl, rfl, trivial⟩) ?_
          refine AO.yld _ (Yld.move rfl) rfl rfl rfl ?_
          refine AO.yld _ (Yld.move rfl) rfl rfl rfl ?_
          refine AO.callW (wantedN rfl) [8] [] [0] rfl rfl Tryd.call14 rfl (anc_g (xs := nx) (n := n9) (us := line nx p9) hgn f3) (.flat (.view rfl rfl (.view rfl rfl .nil)) (fun _ => by simp [AV.Flat, AV.FlatL, PV.Flat, PV.FlatL]) (fun _ => ⟨fun _ _ _ _ _ h => h, trivial⟩)) rfl (fun _ => rfl) trivial rfl (fun _ => rfl) (fun _ => rfl) (fun _ _ => ?_)
          refine AO.yld _ (Yld.move rfl) rfl rfl rfl ?_
          refine AO.yld _ (Yld.extract rfl rfl rfl) rfl rfl rfl ?_
          refine AO.yld _ (Yld.extract rfl rfl rfl) rfl rfl rfl ?_
          refine AO.yld _ (Yld.assign rfl) rfl rfl rfl ?_
          refine AO.yld _ (Yld.assign rfl) rfl rfl rfl ?_
          refine AO.nil ?_
          refine AC.seq ?_
          refine AC.region ?_
          refine AO.yld _ (Yld.move rfl) rfl rfl rfl ?_
          refine AO.callW (wantedN rfl) [9] [] [0] rfl rfl Tryd.call15 rfl (heads_g (xs := nx) (us := hd) hgn f4) (.flat (.view rfl rfl .nil) (fun _ => by simp [AV.Flat, AV.FlatL, PV.Flat, PV.FlatL]) (fun _ => ⟨flat_map flatI _, trivial⟩)) rfl (fun _ => rfl) trivial rfl (fun _ => rfl) (fun _ => rfl) (fun _ _ => ?_)
          refine AO.yld _ (Yld.move rfl) rfl rfl rfl ?_
          refine AO.yld _ (Yld.extract rfl rfl rfl) rfl rfl rfl ?_
          refine AO.yld _ (Yld.extract rfl rfl rfl) rfl rfl rfl ?_
          refine AO.yld _ (Yld.assign rfl) rfl rfl rfl ?_
          refine AO.yld _ (Yld.assign rfl) rfl rfl rfl ?_
          refine AO.nil ?_
          refine AC.seq ?_
          refine AC.region ?_
          refine AO.yld _ (Yld.move rfl) rfl rfl rfl ?_
          refine AO.yld _ (Yld.move rfl) rfl rfl rfl ?_
          refine AO.yld _ (Yld.move rfl) rfl rfl rfl ?_
          refine AO.yld _ (Yld.call rfl rfl Tryd.call16 rfl rfl rfl (impl_CommonAncestor_c hgn) rfl) rfl rfl rfl ?_
          refine AO.yld _ (Yld.move rfl) rfl rfl rfl ?_
          refine AO.yld _ (Yld.extract rfl rfl rfl) rfl rfl rfl ?_
          refine AO.yld _ (Yld.extract rfl rfl rfl) rfl rfl rfl ?_
          refine AO.yld _ (Yld.assign rfl) rfl rfl rfl ?_
          refine AO.yld _ (Yld.assign rfl) rfl rfl rfl ?_
          refine AO.nil ?_
          refine AC.seq ?_
          refine AC.seq ?_
          refine AC.region ?_
          refine AO.freezeC 8 tail_fz rfl ?_
          refine AO.freezeC 6 nest_fz rfl ?_
          refine AO.freeze 9 rfl ?_
          refine AO.keep (st' := ⟨[(5, _), (12, _), (13, _), (14, _), (15, _), (16, _), (17, _), (18, _), (19, _), (20, _), (21, _), (22, _), (23, _)], [(0, _), (900, _)]⟩) (Le.intro ⟨rfl, rfl, rfl, rfl, rfl, rfl, rfl, rfl, rfl, rfl, rfl, rfl, rfl, trivial⟩ ⟨rfl, rfl, trivial⟩) ?_
          refine AO.yld _ (Yld.move rfl) rfl rfl rfl ?_
          refine AO.yld _ (Yld.int rfl rfl rfl) rfl rfl rfl ?_
          refine AO.yld _ (Yld.move rfl) rfl rfl rfl ?_
          refine AO.splitAt 101 _ rfl (fun s101 => ?_) (fun s101 => ?_)
          · -- s101 True
            exfalso; revert s101; decide
          · -- s101 False
            refine AO.yldG _ (Yld.move rfl) rfl rfl rfl rfl rfl ?_
            refine AO.yldG _ (Yld.len Tryd.underlying24 rfl rfl) rfl rfl rfl rfl rfl ?_
            refine AO.yldG _ (Yld.move rfl) rfl rfl rfl rfl rfl ?_
            refine AO.yldG _ (Yld.int rfl rfl rfl) rfl rfl rfl rfl rfl ?_
            refine AO.yld _ (Yld.pickF rfl rfl) rfl rfl rfl ?_
            refine AO.yld _ (Yld.move rfl) rfl rfl rfl ?_
            refine AO.splitAt 107 _ rfl (fun s107 => ?_) (fun s107 => ?_)
            · -- s107 True
              exfalso; have h9 := s107; rw [List.length_map, lN] at h9; simp only [bne_iff_ne, ne_eq] at h9; omega
            · -- s107 False
              refine AO.yldG _ (Yld.move rfl) rfl rfl rfl rfl rfl ?_
              refine AO.yldG _ (Yld.int rfl rfl rfl) rfl rfl rfl rfl rfl ?_
              refine AO.yld _ (Yld.pickF rfl rfl) rfl rfl rfl ?_
              refine AO.yld _ (Yld.move rfl) rfl rfl rfl ?_
              refine AO.splitAt 111 _ rfl (fun s111 => ?_) (fun s111 => ?_)
              · -- s111 True
                exfalso; revert s111; decide
              · -- s111 False
                refine AO.yldG _ (Yld.move rfl) rfl rfl rfl rfl rfl ?_
                refine AO.yldG _ (Yld.len Tryd.underlying24 rfl rfl) rfl rfl rfl rfl rfl ?_
                refine AO.yldG _ (Yld.move rfl) rfl rfl rfl rfl rfl ?_
                refine AO.yldG _ (Yld.add rfl rfl (by omega) (by omega)) rfl rfl rfl rfl rfl ?_
                refine AO.yldG _ (Yld.int rfl rfl rfl) rfl rfl rfl rfl rfl ?_
                refine AO.yld _ (Yld.pickF rfl rfl) rfl rfl rfl ?_
                refine AO.yld _ (Yld.move rfl) rfl rfl rfl ?_
                refine AO.splitAt 118 _ rfl (fun s118 => ?_) (fun s118 => ?_)
                · -- s118 True
                  exfalso; have h9 := s118; rw [List.length_map, lU] at h9; simp only [bne_iff_ne, ne_eq] at h9; omega
                · -- s118 False
                  refine AO.yldG _ (Yld.move rfl) rfl rfl rfl rfl rfl ?_
                  refine AO.yldG _ (Yld.int rfl rfl rfl) rfl rfl rfl rfl rfl ?_
                  refine AO.yld _ (Yld.pickF rfl rfl) rfl rfl rfl ?_
                  refine AO.yld _ (Yld.move rfl) rfl rfl rfl ?_
                  refine AO.splitAt 122 _ rfl (fun s122 => ?_) (fun s122 => ?_)
                  · -- s122 True
                    exfalso; revert s122; decide
                  · -- s122 False
                    refine AO.yldG _ (Yld.move rfl) rfl rfl rfl rfl rfl ?_
                    refine AO.yldG _ (Yld.int rfl rfl rfl) rfl rfl rfl rfl rfl ?_
                    refine AO.yld _ (Yld.pickF rfl rfl) rfl rfl rfl ?_
                    refine AO.yld _ (Yld.move rfl) rfl rfl rfl ?_
                    refine AO.splitAt 126 _ rfl (fun s126 => ?_) (fun s126 => ?_)
                    · -- s126 True
                      exfalso; revert s126; decide
                    · -- s126 False
                      refine AO.yldG _ (Yld.move rfl) rfl rfl rfl rfl rfl ?_
                      refine AO.yldG _ (Yld.move rfl) rfl rfl rfl rfl rfl ?_
                      refine AO.yldG _ (Yld.call rfl rfl Tryd.call17 rfl rfl rfl (laws_r8Has_c (by first | assumption | omega)) rfl) rfl rfl rfl rfl rfl ?_
                      refine AO.yldG _ (Yld.not rfl) rfl rfl rfl rfl rfl ?_
                      refine AO.yld _ (Yld.pickF rfl rfl) rfl rfl rfl ?_
                      refine AO.yld _ (Yld.move rfl) rfl rfl rfl ?_
                      refine AO.splitAt 132 _ rfl (fun s132 => ?_) (fun s132 => ?_)
                      · -- s132 True
                        exfalso; rw [decide_eq_true inH] at s132; cases s132
                      · -- s132 False
                        refine AO.yldG _ (Yld.move rfl) rfl rfl rfl rfl rfl ?_
                        refine AO.yldG _ (Yld.int rfl rfl rfl) rfl rfl rfl rfl rfl ?_
                        refine AO.yld _ (Yld.pickF rfl rfl) rfl rfl rfl ?_
                        refine AO.yld _ (Yld.move rfl) rfl rfl rfl ?_
                        refine AO.splitAt 136 _ rfl (fun s136 => ?_) (fun s136 => ?_)
                        · -- s136 True
                          exfalso; rw [f5] at s136; simp at s136
                        · -- s136 False
                          refine AO.yldG _ (Yld.move rfl) rfl rfl rfl rfl rfl ?_
                          refine AO.yldG _ (Yld.move rfl) rfl rfl rfl rfl rfl ?_
                          refine AO.yldG _ (Yld.int rfl rfl rfl) rfl rfl rfl rfl rfl ?_
                          refine AO.yld _ (Yld.pickF rfl rfl) rfl rfl rfl ?_
                          refine AO.yld _ (Yld.move rfl) rfl rfl rfl ?_
                          refine AO.splitAt 141 _ rfl (fun s141 => ?_) (fun s141 => ?_)
                          · -- s141 True
                            exfalso; rw [f5] at s141; simp at s141
                          · -- s141 False
                            refine AO.yldG _ (Yld.move rfl) rfl rfl rfl rfl rfl ?_
                            refine AO.yldG _ (Yld.call rfl rfl Tryd.call18 rfl rfl rfl (spec_ValidHistory_c hgu) rfl) rfl rfl rfl rfl rfl ?_
                            refine AO.yldG _ (Yld.not rfl) rfl rfl rfl rfl rfl ?_
                            refine AO.yld _ (Yld.pickF rfl rfl) rfl rfl rfl ?_
                            refine AO.nil ?_
                            refine AC.cond _ rfl (fun c145 => ?_) (fun c145 => ?_)
                            · -- c145 True
                              exfalso; simp [okU] at c145
                            · -- c145 False
                              refine AC.skip ?_
                              refine AC.seq ?_
                              refine AC.region ?_
                              refine AO.buildSlice (rows := []) 10 Tryd.underlying26 ty57 rfl rfl rfl rfl rfl rfl rfl rfl rfl ?_
                              refine AO.yld _ (Yld.assign rfl) rfl rfl rfl ?_
                              refine AO.nil ?_
                              refine AC.seq ?_
                              refine AC.seq ?_
                              refine AC.region ?_
                              refine AO.keep (st' := ⟨[(5, _), (12, _), (13, _), (15, _), (16, _), (18, _), (24, _)], [(0, _), (10, _), (900, _)]⟩) (Le.intro ⟨rfl, rfl, rfl, rfl, rfl, rfl, rfl, trivial⟩ ⟨rfl, rfl, rfl, trivial⟩) ?_
                              refine AO.yld _ (Yld.move rfl) rfl rfl rfl ?_
                              refine AO.yld _ (Yld.int rfl rfl rfl) rfl rfl rfl ?_
                              refine AO.nil ?_
                              refine AC.cond _ rfl (fun c148 => ?_) (fun c148 => ?_)
                              · -- c148 True
                                have hp0 : 0 < p9 := by simpa using c148
                                obtain ⟨vp, hvp⟩ := get_some (xs := vs30) (k := (p9 - 1).toNat) (by omega)
                                have hrowP := map_row (enc := encVer) hvp
                                have hsv : vu.state = vp.state := by rw [hus]; exact stT_get (by omega) hvp
                                refine AC.region ?_
                                refine AO.yld _ (Yld.move rfl) rfl rfl rfl ?_
                                refine AO.yld _ (Yld.move rfl) rfl rfl rfl ?_
                                refine AO.yld _ (Yld.sub rfl rfl (by omega) (by omega)) rfl rfl rfl ?_
                                refine AO.yld _ (Yld.indexSl Tryd.underlying24 Tryd.sizeOf48 rfl rfl hrowP (by omega)) rfl rfl rfl ?_
                                refine AO.yld _ (Yld.fieldAddr Tryd.underlying48 rfl rfl Tryd.sizeOf26 rfl rfl rfl) rfl rfl rfl ?_
                                refine AO.yld _ (Yld.load Tryd.isAgg26 rfl rfl) rfl rfl rfl ?_
                                refine AO.yld _ (Yld.assign rfl) rfl rfl rfl ?_
                                refine AO.nil ?_
                                refine AC.seq ?_
                                refine AC.seq ?_
                                refine AC.region ?_
                                refine AO.keep (st' := ⟨[(12, _), (13, _), (15, _), (16, _), (18, _), (24, _)], [(0, _), (900, _)]⟩) (Le.intro ⟨rfl, rfl, rfl, rfl, rfl, rfl, trivial⟩ ⟨rfl, rfl, trivial⟩) ?_
                                refine AO.yld _ (Yld.move rfl) rfl rfl rfl ?_
                                refine AO.yld _ (Yld.move rfl) rfl rfl rfl ?_
                                refine AO.yld _ (Yld.indexSl Tryd.underlying24 Tryd.sizeOf48 rfl rfl hrowU (by omega)) rfl rfl rfl ?_
                                refine AO.yld _ (Yld.fieldAddr Tryd.underlying48 rfl rfl Tryd.sizeOf26 rfl rfl rfl) rfl rfl rfl ?_
                                refine AO.yld _ (Yld.load Tryd.isAgg26 rfl rfl) rfl rfl rfl ?_
                                refine AO.yld _ (Yld.move rfl) rfl rfl rfl ?_
                                refine AO.yld _ (Yld.call rfl rfl Tryd.call10 rfl rfl rfl (spec_SameState_c (xs := vu.state) (ys := vp.state) (by omega)) rfl) rfl rfl rfl ?_
                                refine AO.yld _ (Yld.not rfl) rfl rfl rfl ?_
                                refine AO.yld _ (Yld.move rfl) rfl rfl rfl ?_
                                refine AO.splitAt 163 _ rfl (fun s163 => ?_) (fun s163 => ?_)
                                · -- s163 True
                                  exfalso; rw [hsv] at s163; simp at s163
                                · -- s163 False
                                  refine AO.yldG _ (Yld.move rfl) rfl rfl rfl rfl rfl ?_
                                  refine AO.yldG _ (Yld.int rfl rfl rfl) rfl rfl rfl rfl rfl ?_
                                  refine AO.yldG _ (Yld.move rfl) rfl rfl rfl rfl rfl ?_
                                  refine AO.yldG _ (Yld.move rfl) rfl rfl rfl rfl rfl ?_
                                  refine AO.yldG _ (Yld.call rfl rfl Tryd.call17 rfl rfl rfl (laws_r8Has_c (by first | assumption | omega)) rfl) rfl rfl rfl rfl rfl ?_
                                  refine AO.yldG _ (Yld.bne Tryd.underlying4 rfl rfl) rfl rfl rfl rfl rfl ?_
                                  refine AO.yld _ (Yld.pickF rfl rfl) rfl rfl rfl ?_
                                  refine AO.nil ?_
                                  refine AC.cond _ rfl (fun c170 => ?_) (fun c170 => ?_)
                                  · -- c170 True
                                    exfalso; rw [hlh] at c170; simp at c170
                                  · -- c170 False
                                    refine AC.skip ?_
                                    refine AC.seq ?_
                                    refine AC.seq ?_
                                    refine AC.region ?_
                                    refine AO.yld _ (Yld.assign rfl) rfl rfl rfl ?_
                                    refine AO.nil ?_
                                    refine AC.block ?_
                                    refine AC.loopC [(13, _), (15, _), (18, _)] [(0, _), (900, _)] (fun (k : Nat) => [(25, .p (.v (.int .i64 (k : Int))))]) (fun (k : Nat) => []) (fun (k : Nat) => k ≤ (line nx p9).length) (fun (k : Nat) => (line nx p9).length - k) 0 ⟨rfl, rfl, rfl, trivial⟩ ⟨rfl, rfl, trivial⟩ ⟨rfl, trivial⟩ trivial ?_ (fun k hJ => ?_)
                                    · exact Nat.zero_le _
                                    · -- round
                                      refine AC.seq ?_
                                      refine AC.seq ?_
                                      refine AC.region ?_
                                      refine AO.yld _ (Yld.move rfl) rfl rfl rfl ?_
                                      refine AO.yld _ (Yld.move rfl) rfl rfl rfl ?_
                                      refine AO.yld _ (Yld.len Tryd.underlying39 rfl rfl) rfl rfl rfl ?_
                                      refine AO.yld _ (Yld.int rfl rfl rfl) rfl rfl rfl ?_
                                      refine AO.nil ?_
                                      refine AC.cond _ rfl (fun c174 => ?_) (fun c174 => ?_)
                                      · -- c174 True
                                        have hk : k < (line nx p9).length := by have h := lt_of_decM c174; omega
                                        obtain ⟨x, hx⟩ := get_some hk
                                        have hrow := map_row (enc := Go.V.encI) hx
                                        have hxl := line_lims okN hx
                                        refine AC.skip ?_
                                        refine AC.seq ?_
                                        refine AC.block ?_
                                        refine AC.seq ?_
                                        refine AC.draw (by kernel_rfl) (by kernel_rfl) ?_
                                        refine AO.yld _ (Yld.move rfl) rfl rfl rfl ?_
                                        refine AO.yld _ (Yld.move rfl) rfl rfl rfl ?_
                                        refine AO.yld _ (Yld.indexSl Tryd.underlying39 Tryd.sizeOf2 rfl rfl hrow rfl) rfl rfl rfl ?_
                                        refine AO.yld _ (Yld.load Tryd.isAgg2 rfl rfl) rfl rfl rfl ?_
                                        refine AO.yld _ (Yld.int rfl rfl rfl) rfl rfl rfl ?_
                                        refine AO.yld _ (Yld.move rfl) rfl rfl rfl ?_
                                        refine AO.splitAt 182 _ rfl (fun s182 => ?_) (fun s182 => ?_)
                                        · -- s182 True
                                          exfalso; have h9 := s182; simp only [decide_eq_true_eq] at h9; omega
                                        · -- s182 False
                                          refine AO.yldG _ (Yld.move rfl) rfl rfl rfl rfl rfl ?_
                                          refine AO.yldG _ (Yld.move rfl) rfl rfl rfl rfl rfl ?_
                                          refine AO.yldG _ (Yld.indexSl Tryd.underlying39 Tryd.sizeOf2 rfl rfl hrow rfl) rfl rfl rfl rfl rfl ?_
                                          refine AO.yldG _ (Yld.load Tryd.isAgg2 rfl rfl) rfl rfl rfl rfl rfl ?_
                                          refine AO.yldG _ (Yld.move rfl) rfl rfl rfl rfl rfl ?_
                                          refine AO.yldG _ (Yld.int rfl rfl rfl) rfl rfl rfl rfl rfl ?_
                                          refine AO.yld _ (Yld.pickF rfl rfl) rfl rfl rfl ?_
                                          refine AO.yld _ (Yld.move rfl) rfl rfl rfl ?_
                                          refine AO.splitAt 190 _ rfl (fun s190 => ?_) (fun s190 => ?_)
                                          · -- s190 True
                                            exfalso; have h9 := s190; simp only [ge_iff_le, decide_eq_true_eq] at h9; omega
                                          · -- s190 False
                                            refine AO.yldG _ (Yld.move rfl) rfl rfl rfl rfl rfl ?_
                                            refine AO.yldG _ (Yld.int rfl rfl rfl) rfl rfl rfl rfl rfl ?_
                                            refine AO.yldG _ (Yld.move rfl) rfl rfl rfl rfl rfl ?_
                                            refine AO.splitAt 193 _ rfl (fun s193 => ?_) (fun s193 => ?_)
                                            · -- s193 True
                                              have hk0 : 0 < k := by simpa using s193
                                              obtain ⟨y, hy⟩ := get_some (xs := line nx p9) (k := k - 1) (by omega)
                                              have hrowQ := map_row (enc := Go.V.encI) hy
                                              have hyx := line_step okN (k := k - 1) (x := y) (y := x) hy (by rw [show k - 1 + 1 = k by omega]; exact hx)
                                              refine AO.yldG _ (Yld.move rfl) rfl rfl rfl rfl rfl ?_
                                              refine AO.yldG _ (Yld.move rfl) rfl rfl rfl rfl rfl ?_
                                              refine AO.yldG _ (Yld.indexSl Tryd.underlying39 Tryd.sizeOf2 rfl rfl hrow rfl) rfl rfl rfl rfl rfl ?_
                                              refine AO.yldG _ (Yld.load Tryd.isAgg2 rfl rfl) rfl rfl rfl rfl rfl ?_
                                              refine AO.yldG _ (Yld.move rfl) rfl rfl rfl rfl rfl ?_
                                              refine AO.yldG _ (Yld.move rfl) rfl rfl rfl rfl rfl ?_
                                              refine AO.yldG _ (Yld.sub rfl rfl (by omega) (by omega)) rfl rfl rfl rfl rfl ?_
                                              refine AO.yldG _ (Yld.indexSl Tryd.underlying39 Tryd.sizeOf2 rfl rfl hrowQ (by omega)) rfl rfl rfl rfl rfl ?_
                                              refine AO.yldG _ (Yld.load Tryd.isAgg2 rfl rfl) rfl rfl rfl rfl rfl ?_
                                              refine AO.yldG _ (Yld.int rfl rfl rfl) rfl rfl rfl rfl rfl ?_
                                              refine AO.yldG _ (Yld.pickT rfl rfl) rfl rfl rfl rfl rfl ?_
                                              refine AO.yld _ (Yld.pickF rfl rfl) rfl rfl rfl ?_
                                              refine AO.nil ?_
                                              refine AC.cond _ rfl (fun c205 => ?_) (fun c205 => ?_)
                                              · -- c205 True
                                                exfalso; have h9 := c205; simp only [ge_iff_le, decide_eq_true_eq] at h9; omega
                                              · -- c205 False
                                                refine AC.skip ?_
                                                refine AC.mark ?_
                                                refine AC.region ?_
                                                refine AO.yld _ (Yld.move rfl) rfl rfl rfl ?_
                                                refine AO.yld _ (Yld.add rfl rfl (by omega) (by omega)) rfl rfl rfl ?_
                                                refine AO.yld _ (Yld.assign rfl) rfl rfl rfl ?_
                                                refine AO.nil ?_
                                                refine AC.back ⟨k + 1, ?_, ?_, ⟨?_, trivial⟩, trivial, ⟨rfl, rfl, rfl, trivial⟩, ⟨rfl, rfl, trivial⟩⟩
                                                · exact hk
                                                · omega
                                                · rfl
                                            · -- s193 False
                                              refine AO.skipT rfl rfl rfl rfl rfl ?_
                                              refine AO.skipT rfl rfl rfl rfl rfl ?_
                                              refine AO.skipT rfl rfl rfl rfl rfl ?_
                                              refine AO.skipT rfl rfl rfl rfl rfl ?_
                                              refine AO.skipT rfl rfl rfl rfl rfl ?_
                                              refine AO.skipT rfl rfl rfl rfl rfl ?_
                                              refine AO.skipT rfl rfl rfl rfl rfl ?_
                                              refine AO.skipT rfl rfl rfl rfl rfl ?_
                                              refine AO.skipT rfl rfl rfl rfl rfl ?_
                                              refine AO.skipT rfl rfl rfl rfl rfl ?_
                                              refine AO.yldG _ (Yld.pickF rfl rfl) rfl rfl rfl rfl rfl ?_
                                              refine AO.yld _ (Yld.pickF rfl rfl) rfl rfl rfl ?_
                                              refine AO.nil ?_
                                              refine AC.condF rfl ?_
                                              refine AC.skip ?_
                                              refine AC.mark ?_
                                              refine AC.region ?_
                                              refine AO.yld _ (Yld.move rfl) rfl rfl rfl ?_
                                              refine AO.yld _ (Yld.add rfl rfl (by omega) (by omega)) rfl rfl rfl ?_
                                              refine AO.yld _ (Yld.assign rfl) rfl rfl rfl ?_
                                              refine AO.nil ?_
                                              refine AC.back ⟨k + 1, ?_, ?_, ⟨?_, trivial⟩, trivial, ⟨rfl, rfl, rfl, trivial⟩, ⟨rfl, rfl, trivial⟩⟩
                                              · exact hk
                                              · omega
                                              · rfl
                                      · -- c174 False
                                        obtain rfl : k = (line nx p9).length := by have h := ge_of_decM c174; omega
                                        refine AC.exit rfl ?_
                                        refine AC.seq ?_
                                        refine AC.region ?_
                                        refine AO.yld _ (Yld.move rfl) rfl rfl rfl ?_
                                        refine AO.yld _ (Yld.move rfl) rfl rfl rfl ?_
                                        refine AO.yld _ (Yld.sub rfl rfl (by omega) (by omega)) rfl rfl rfl ?_
                                        refine AO.yld _ (Yld.indexSl Tryd.underlying24 Tryd.sizeOf48 rfl rfl hrowN (by omega)) rfl rfl rfl ?_
                                        refine AO.yld _ (Yld.loadAgg Tryd.isAgg48 Tryd.sizeOf48 rfl rfl rfl rfl) rfl rfl rfl ?_
                                        refine AO.callW (wantedN rfl) [0] [0] [0] rfl rfl Tryd.call19 rfl (impl_VersionText_c (x := vx) (hgn.2 vx (List.mem_of_getElem? hvx))) (.own rfl) rfl (fun _ => rfl) ⟨rfl, trivial⟩ rfl (fun _ => rfl) (fun _ => rfl) (fun _ _ => ?_)
                                        refine AO.yld _ (Yld.cmpStr rfl rfl rfl) rfl rfl rfl ?_
                                        refine AO.yld _ (Yld.assign rfl) rfl rfl rfl ?_
                                        refine AO.nil ?_
                                        refine FnE.ret () [0] [0] Tryd.results3 (RVs.cons (RV.tmp rfl) RVs.nil) rfl rfl rfl ?_ ?_ ⟨⟨_, rfl, ?_⟩, trivial⟩
                                        · -- holds
                                          trivial
                                        · -- value
                                          first | rfl | (refine congrArg (fun b => AV.p (PV.v (Value.bool b))) ?_; simp [hvt])
                                        · -- thing 0
                                          first | rfl | exact vecE (by first | rfl | (simp_all; done) | grind) | (simp_all; done)
                              · -- c148 False
                                have hp0 : ¬ 0 < p9 := by simpa using c148
                                have hsv : vu.state = [] := by rw [hus]; exact stT_zero (by omega)
                                refine AC.skip ?_
                                refine AC.seq ?_
                                refine AC.seq ?_
                                refine AC.region ?_
                                refine AO.keep (st' := ⟨[(12, _), (13, _), (15, _), (16, _), (18, _), (24, _)], [(0, _), (10, _), (900, _)]⟩) (Le.intro ⟨rfl, rfl, rfl, rfl, rfl, rfl, trivial⟩ ⟨rfl, rfl, rfl, trivial⟩) ?_
                                refine AO.yld _ (Yld.move rfl) rfl rfl rfl ?_
                                refine AO.yld _ (Yld.move rfl) rfl rfl rfl ?_
                                refine AO.yld _ (Yld.indexSl Tryd.underlying24 Tryd.sizeOf48 rfl rfl hrowU (by omega)) rfl rfl rfl ?_
                                refine AO.yld _ (Yld.fieldAddr Tryd.underlying48 rfl rfl Tryd.sizeOf26 rfl rfl rfl) rfl rfl rfl ?_
                                refine AO.yld _ (Yld.load Tryd.isAgg26 rfl rfl) rfl rfl rfl ?_
                                refine AO.yld _ (Yld.move rfl) rfl rfl rfl ?_
                                refine AO.yld _ (Yld.call rfl rfl Tryd.call10 rfl rfl rfl (spec_SameState_c (xs := vu.state) (ys := []) (by omega)) rfl) rfl rfl rfl ?_
                                refine AO.yld _ (Yld.not rfl) rfl rfl rfl ?_
                                refine AO.yld _ (Yld.move rfl) rfl rfl rfl ?_
                                refine AO.splitAt 163 _ rfl (fun s163 => ?_) (fun s163 => ?_)
                                · -- s163 True
                                  exfalso; rw [hsv] at s163; simp at s163
                                · -- s163 False
                                  refine AO.yldG _ (Yld.move rfl) rfl rfl rfl rfl rfl ?_
                                  refine AO.yldG _ (Yld.int rfl rfl rfl) rfl rfl rfl rfl rfl ?_
                                  refine AO.yldG _ (Yld.move rfl) rfl rfl rfl rfl rfl ?_
                                  refine AO.yldG _ (Yld.move rfl) rfl rfl rfl rfl rfl ?_
                                  refine AO.yldG _ (Yld.call rfl rfl Tryd.call17 rfl rfl rfl (laws_r8Has_c (by first | assumption | omega)) rfl) rfl rfl rfl rfl rfl ?_
                                  refine AO.yldG _ (Yld.bne Tryd.underlying4 rfl rfl) rfl rfl rfl rfl rfl ?_
                                  refine AO.yld _ (Yld.pickF rfl rfl) rfl rfl rfl ?_
                                  refine AO.nil ?_
                                  refine AC.cond _ rfl (fun c170 => ?_) (fun c170 => ?_)
                                  · -- c170 True
                                    exfalso; rw [hlh] at c170; simp at c170
                                  · -- c170 False
                                    refine AC.skip ?_
                                    refine AC.seq ?_
                                    refine AC.seq ?_
                                    refine AC.region ?_
                                    refine AO.yld _ (Yld.assign rfl) rfl rfl rfl ?_
                                    refine AO.nil ?_
                                    refine AC.block ?_
                                    refine AC.loopC [(13, _), (15, _), (18, _)] [(0, _), (10, _), (900, _)] (fun (k : Nat) => [(25, .p (.v (.int .i64 (k : Int))))]) (fun (k : Nat) => []) (fun (k : Nat) => k ≤ (line nx p9).length) (fun (k : Nat) => (line nx p9).length - k) 0 ⟨rfl, rfl, rfl, trivial⟩ ⟨rfl, rfl, rfl, trivial⟩ ⟨rfl, trivial⟩ trivial ?_ (fun k hJ => ?_)
                                    · exact Nat.zero_le _
                                    · -- round
                                      refine AC.seq ?_
                                      refine AC.seq ?_
                                      refine AC.region ?_
                                      refine AO.yld _ (Yld.move rfl) rfl rfl rfl ?_
                                      refine AO.yld _ (Yld.move rfl) rfl rfl rfl ?_
                                      refine AO.yld _ (Yld.len Tryd.underlying39 rfl rfl) rfl rfl rfl ?_
                                      refine AO.yld _ (Yld.int rfl rfl rfl) rfl rfl rfl ?_
                                      refine AO.nil ?_
                                      refine AC.cond _ rfl (fun c174 => ?_) (fun c174 => ?_)
                                      · -- c174 True
                                        have hk : k < (line nx p9).length := by have h := lt_of_decM c174; omega
                                        obtain ⟨x, hx⟩ := get_some hk
                                        have hrow := map_row (enc := Go.V.encI) hx
                                        have hxl := line_lims okN hx
                                        refine AC.skip ?_
                                        refine AC.seq ?_
                                        refine AC.block ?_
                                        refine AC.seq ?_
                                        refine AC.draw (by kernel_rfl) (by kernel_rfl) ?_
                                        refine AO.yld _ (Yld.move rfl) rfl rfl rfl ?_
                                        refine AO.yld _ (Yld.move rfl) rfl rfl rfl ?_
                                        refine AO.yld _ (Yld.indexSl Tryd.underlying39 Tryd.sizeOf2 rfl rfl hrow rfl) rfl rfl rfl ?_
                                        refine AO.yld _ (Yld.load Tryd.isAgg2 rfl rfl) rfl rfl rfl ?_
                                        refine AO.yld _ (Yld.int rfl rfl rfl) rfl rfl rfl ?_
                                        refine AO.yld _ (Yld.move rfl) rfl rfl rfl ?_
                                        refine AO.splitAt 182 _ rfl (fun s182 => ?_) (fun s182 => ?_)
                                        · -- s182 True
                                          exfalso; have h9 := s182; simp only [decide_eq_true_eq] at h9; omega
                                        · -- s182 False
                                          refine AO.yldG _ (Yld.move rfl) rfl rfl rfl rfl rfl ?_
                                          refine AO.yldG _ (Yld.move rfl) rfl rfl rfl rfl rfl ?_
                                          refine AO.yldG _ (Yld.indexSl Tryd.underlying39 Tryd.sizeOf2 rfl rfl hrow rfl) rfl rfl rfl rfl rfl ?_
                                          refine AO.yldG _ (Yld.load Tryd.isAgg2 rfl rfl) rfl rfl rfl rfl rfl ?_
                                          refine AO.yldG _ (Yld.move rfl) rfl rfl rfl rfl rfl ?_
                                          refine AO.yldG _ (Yld.int rfl rfl rfl) rfl rfl rfl rfl rfl ?_
                                          refine AO.yld _ (Yld.pickF rfl rfl) rfl rfl rfl ?_
                                          refine AO.yld _ (Yld.move rfl) rfl rfl rfl ?_
                                          refine AO.splitAt 190 _ rfl (fun s190 => ?_) (fun s190 => ?_)
                                          · -- s190 True
                                            exfalso; have h9 := s190; simp only [ge_iff_le, decide_eq_true_eq] at h9; omega
                                          · -- s190 False
                                            refine AO.yldG _ (Yld.move rfl) rfl rfl rfl rfl rfl ?_
                                            refine AO.yldG _ (Yld.int rfl rfl rfl) rfl rfl rfl rfl rfl ?_
                                            refine AO.yldG _ (Yld.move rfl) rfl rfl rfl rfl rfl ?_
                                            refine AO.splitAt 193 _ rfl (fun s193 => ?_) (fun s193 => ?_)
                                            · -- s193 True
                                              have hk0 : 0 < k := by simpa using s193
                                              obtain ⟨y, hy⟩ := get_some (xs := line nx p9) (k := k - 1) (by omega)
                                              have hrowQ := map_row (enc := Go.V.encI) hy
                                              have hyx := line_step okN (k := k - 1) (x := y) (y := x) hy (by rw [show k - 1 + 1 = k by omega]; exact hx)
                                              refine AO.yldG _ (Yld.move rfl) rfl rfl rfl rfl rfl ?_
                                              refine AO.yldG _ (Yld.move rfl) rfl rfl rfl rfl rfl ?_
                                              refine AO.yldG _ (Yld.indexSl Tryd.underlying39 Tryd.sizeOf2 rfl rfl hrow rfl) rfl rfl rfl rfl rfl ?_
                                              refine AO.yldG _ (Yld.load Tryd.isAgg2 rfl rfl) rfl rfl rfl rfl rfl ?_
                                              refine AO.yldG _ (Yld.move rfl) rfl rfl rfl rfl rfl ?_
                                              refine AO.yldG _ (Yld.move rfl) rfl rfl rfl rfl rfl ?_
                                              refine AO.yldG _ (Yld.sub rfl rfl (by omega) (by omega)) rfl rfl rfl rfl rfl ?_
                                              refine AO.yldG _ (Yld.indexSl Tryd.underlying39 Tryd.sizeOf2 rfl rfl hrowQ (by omega)) rfl rfl rfl rfl rfl ?_
                                              refine AO.yldG _ (Yld.load Tryd.isAgg2 rfl rfl) rfl rfl rfl rfl rfl ?_
                                              refine AO.yldG _ (Yld.int rfl rfl rfl) rfl rfl rfl rfl rfl ?_
                                              refine AO.yldG _ (Yld.pickT rfl rfl) rfl rfl rfl rfl rfl ?_
                                              refine AO.yld _ (Yld.pickF rfl rfl) rfl rfl rfl ?_
                                              refine AO.nil ?_
                                              refine AC.cond _ rfl (fun c205 => ?_) (fun c205 => ?_)
                                              · -- c205 True
                                                exfalso; have h9 := c205; simp only [ge_iff_le, decide_eq_true_eq] at h9; omega
                                              · -- c205 False
                                                refine AC.skip ?_
                                                refine AC.mark ?_
                                                refine AC.region ?_
                                                refine AO.yld _ (Yld.move rfl) rfl rfl rfl ?_
                                                refine AO.yld _ (Yld.add rfl rfl (by omega) (by omega)) rfl rfl rfl ?_
                                                refine AO.yld _ (Yld.assign rfl) rfl rfl rfl ?_
                                                refine AO.nil ?_
                                                refine AC.back ⟨k + 1, ?_, ?_, ⟨?_, trivial⟩, trivial, ⟨rfl, rfl, rfl, trivial⟩, ⟨rfl, rfl, rfl, trivial⟩⟩
                                                · exact hk
                                                · omega
                                                · rfl
                                            · -- s193 False
                                              refine AO.skipT rfl rfl rfl rfl rfl ?_
                                              refine AO.skipT rfl rfl rfl rfl rfl ?_
                                              refine AO.skipT rfl rfl rfl rfl rfl ?_
                                              refine AO.skipT rfl rfl rfl rfl rfl ?_
                                              refine AO.skipT rfl rfl rfl rfl rfl ?_
                                              refine AO.skipT rfl rfl rfl rfl rfl ?_
                                              refine AO.skipT rfl rfl rfl rfl rfl ?_
                                              refine AO.skipT rfl rfl rfl rfl rfl ?_
                                              refine AO.skipT rfl rfl rfl rfl rfl ?_
                                              refine AO.skipT rfl rfl rfl rfl rfl ?_
                                              refine AO.yldG _ (Yld.pickF rfl rfl) rfl rfl rfl rfl rfl ?_
                                              refine AO.yld _ (Yld.pickF rfl rfl) rfl rfl rfl ?_
                                              refine AO.nil ?_
                                              refine AC.condF rfl ?_
                                              refine AC.skip ?_
                                              refine AC.mark ?_
                                              refine AC.region ?_
                                              refine AO.yld _ (Yld.move rfl) rfl rfl rfl ?_
                                              refine AO.yld _ (Yld.add rfl rfl (by omega) (by omega)) rfl rfl rfl ?_
                                              refine AO.yld _ (Yld.assign rfl) rfl rfl rfl ?_
                                              refine AO.nil ?_
                                              refine AC.back ⟨k + 1, ?_, ?_, ⟨?_, trivial⟩, trivial, ⟨rfl, rfl, rfl, trivial⟩, ⟨rfl, rfl, rfl, trivial⟩⟩
                                              · exact hk
                                              · omega
                                              · rfl
                                      · -- c174 False
                                        obtain rfl : k = (line nx p9).length := by have h := ge_of_decM c174; omega
                                        refine AC.exit rfl ?_
                                        refine AC.seq ?_
                                        refine AC.region ?_
                                        refine AO.yld _ (Yld.move rfl) rfl rfl rfl ?_
                                        refine AO.yld _ (Yld.move rfl) rfl rfl rfl ?_
                                        refine AO.yld _ (Yld.sub rfl rfl (by omega) (by omega)) rfl rfl rfl ?_
                                        refine AO.yld _ (Yld.indexSl Tryd.underlying24 Tryd.sizeOf48 rfl rfl hrowN (by omega)) rfl rfl rfl ?_
                                        refine AO.yld _ (Yld.loadAgg Tryd.isAgg48 Tryd.sizeOf48 rfl rfl rfl rfl) rfl rfl rfl ?_
                                        refine AO.callW (wantedN rfl) [0] [0] [0] rfl rfl Tryd.call19 rfl (impl_VersionText_c (x := vx) (hgn.2 vx (List.mem_of_getElem? hvx))) (.own rfl) rfl (fun _ => rfl) ⟨rfl, trivial⟩ rfl (fun _ => rfl) (fun _ => rfl) (fun _ _ => ?_)
                                        refine AO.yld _ (Yld.cmpStr rfl rfl rfl) rfl rfl rfl ?_
                                        refine AO.yld _ (Yld.assign rfl) rfl rfl rfl ?_
                                        refine AO.nil ?_
                                        refine FnE.ret () [0] [0] Tryd.results3 (RVs.cons (RV.tmp rfl) RVs.nil) rfl rfl rfl ?_ ?_ ⟨⟨_, rfl, ?_⟩, trivial⟩
                                        · -- holds
                                          trivial
                                        · -- value
                                          first | rfl | (refine congrArg (fun b => AV.p (PV.v (Value.bool b))) ?_; simp [hvt])
                                        · -- thing 0
                                          first | rfl | exact vecE (by first | rfl | (simp_all; done) | grind) | (simp_all; done)

end Go.Proofs.YtmnmaakaneaiaaaDoor
